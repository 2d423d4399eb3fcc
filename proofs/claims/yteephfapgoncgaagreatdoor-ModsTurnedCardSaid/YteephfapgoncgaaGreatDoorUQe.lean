import Derived.Test.YteephfapgoncgaaGreatDoorUQd
set_option linter.all false
set_option maxRecDepth 100000
set_option maxHeartbeats 40000000
namespace Go.Proofs.YteephfapgoncgaaGreatDoor
section
open Go Go.Mw
theorem jl (ρ:Nat→Nat) (i s o l:Nat):eD ρ (.ms i s o l) = .ms (ρ i) s o l:=rfl
theorem Fl (ρ:Nat→Nat) (i s o l:Nat):eD ρ (.mp i s o l) = .mp (ρ i) s o l:=rfl
theorem jm (ρ:Nat→Nat) (s:Nat) (l:List (List AV)):eD ρ (.sl s l) = .sl s l:=rfl
theorem gP (ρ:Nat→Nat) (k:IntKind) (n:Int):eD ρ (.int k n) = .int k n:=rfl
theorem wV (ρ:Nat→Nat) (b:Bool):eD ρ (.bool b) = .bool b:=rfl
theorem gQ (ρ:Nat→Nat) (s:List UInt8):eD ρ (.str s) = .str s:=rfl
theorem Fm (ρ:Nat→Nat):eD ρ .nl = .nl:=rfl
theorem vY (a b i:Nat):fw [(a,b)] i=if i=a then b else if i=b then a else i:=rfl
attribute [local go_sem] DH zg zh DI DJ ze vZ zf yS vG sy vJ vK yR vI yQ vH Eh j3 j2 og wW f8 fN i8 nQ jl jm gP wV gQ Fl Fm vY
def kN (x:Ft):List AV:=[.sl 1 (x.ps.map dF),.ms 911 1 0 x.rs.length]
def eO (x:Cd):List AV:=[.int .i64 x.t,.ms 911 1 0 x.lo.length,.sl 9 (x.b.map aW)]
def eN (x:Cd):List AV:=[.int .i64 x.t,.sl 1 (x.lo.map dF),.ms 911 9 0 x.b.length]
def kM (x:El):List AV:=[.int .i64 x.mo,.int .i64 x.tb,.sl 9 (x.o.map aW),.int .i64 x.ty,.ms 911 1 0 x.it.length]
def kL (x:Da):List AV:=[.int .i64 x.mo,.int .i64 x.me,.sl 9 (x.o.map aW),.ms 911 1 0 x.b.length]
attribute [local go_sem] fz fZ
theorem cK (m:Md) (h:mH m):br Tryz.prog ph [cE m] [] sb (fun r' σ'=>r' = .agg [.ms 901 2 0 m.ts.length,.ms 48 13 0 m.ims.length,.ms 902 3 0 m.fs.length,.ms 80 4 0 m.tbs.length,.ms 85 3 0 m.ms.length,.ms 903 3 0 m.gs.length,.ms 116 3 0 m.exs.length,.bool m.hs,.int .i64 m.st,.ms 904 5 0 m.els.length,.ms 905 4 0 m.ds.length,.ms 906 3 0 m.cs.length]∧σ'=[(901,⟨51,2,m.ts.map bQ,false⟩),(48,⟨61,13,m.ims.map cW,false⟩),(902,⟨64,3,m.fs.map bF,false⟩),(80,⟨57,4,m.tbs.map dG,false⟩),(85,⟨55,3,m.ms.map dA,false⟩),(903,⟨66,3,m.gs.map df,false⟩),(116,⟨68,3,m.exs.map dU,false⟩),(904,⟨70,5,m.els.map cb,false⟩),(905,⟨73,4,m.ds.map cM,false⟩),(906,⟨75,3,m.cs.map eW,false⟩)]):=by
 refine c_ (ic:=ey [34,65,97,149,177,206] gH.body) aq oR rfl rfl ?_
 have a48:=fun ys=>aG 48 61 13 ys
 have a80:=fun ys=>aG 80 57 4 ys
 have a85:=fun ys=>aG 85 55 3 ys
 have a116:=fun ys=>aG 116 68 3 ys
 simp only [go_sem,gH,cE]
 refine an (fun i:Nat=>⟨[(4,.int .i64 i),(3,.mp 3 12 0 0),(2,.mp 2 12 0 0),(1,.mp 1 12 0 0)],[(1,⟨33,12,[dQ m],true⟩),(2,⟨33,12,[[.nl,.nl,.nl,.nl,.nl,.nl,.nl,.bool false,.int .i64 0,.nl,.nl,.nl]],true⟩),(3,⟨33,12,[[.ms 901 2 0 i,.nl,.nl,.nl,.nl,.nl,.nl,.bool m.hs,.int .i64 m.st,.nl,.nl,.nl]],true⟩),(901,⟨51,2,(m.ts.take i).map bQ,false⟩)]⟩) (fun i=>i≤m.ts.length) (fun i=>m.ts.length - i) 0 (cC _) ((Wk.new0 _ 901 2 51 (.inl (by decide))).trans ((Wk.nlm _ 3 (r:=[.nl,.nl,.nl,.nl,.nl,.nl,.nl,.bool m.hs,.int .i64 m.st,.nl,.nl,.nl]) rfl (r':=[.ms 901 2 0 0,.nl,.nl,.nl,.nl,.nl,.nl,.bool m.hs,.int .i64 m.st,.nl,.nl,.nl]) ⟨.inr ⟨rfl,.inr ⟨_,_,rfl⟩⟩,.inl rfl,.inl rfl,.inl rfl,.inl rfl,.inl rfl,.inl rfl,.inl rfl,.inl rfl,.inl rfl,.inl rfl,.inl rfl,trivial⟩).trans (Wk.of ?_ ?_))) ?_
 ·simp only [go_sem];try simp [go_sem]
 ·simp only [go_sem,bE];try simp [go_sem,au]
 intro i hi
 have hil:(m.ts.take i).length=i:=by simp;omega
 by_cases h1:(i:Int)<(m.ts.length:Int)
 ·have hi':i<m.ts.length:=by omega
  have hlb:=h.ts.1
  have e8:=wi (n:=(i:Int)+1) (by omega) (by omega)
  have hxx:=aO h.ts.2 hi'
  have tn:=aU hi'
  have happ:=fun ys=>aA 901 51 2 i bQ (m.ts.take i) ys hil
  have a36:=fun ys=>aG 36 53 1 ys
  have a40:=fun ys=>aG 40 53 1 ys
  obtain ⟨x1,x2⟩:=hxx
  simp only [go_sem,aI h1,bq,a36,a40]
  refine ⟨by omega,h1,by omega,by omega,?_⟩
  refine ba _ ((Wk.frzs [36,40] _).trans (Wk.unr _ 45 (by rfl) (by simp only [go_sem,fq,aB,ap]))) ?_
  simp only [go_sem,aB,ap,happ]
  refine ⟨by omega,aC (i+1) (show i+1≤m.ts.length by omega) (show m.ts.length - (i+1)<m.ts.length - i by omega) (Wk.of ?_ ?_)⟩
  ·simp only [go_sem,e8];try simp
  ·simp only [go_sem,tn,List.map_append];try simp [bq]
 obtain rfl:i=m.ts.length:=by omega
 simp only [go_sem,az h1,bJ,a48]
 clear h1 hi hil
 refine ⟨by have:=h.ims;omega,?_⟩
 refine an (fun i:Nat=>⟨[(6,.int .i64 i),(3,.mp 3 12 0 0),(2,.mp 2 12 0 0),(1,.mp 1 12 0 0)],[(1,⟨33,12,[dQ m],true⟩),(2,⟨33,12,[[.nl,.nl,.nl,.nl,.nl,.nl,.nl,.bool false,.int .i64 0,.nl,.nl,.nl]],true⟩),(3,⟨33,12,[[.ms 901 2 0 m.ts.length,.ms 48 13 0 m.ims.length,.ms 902 3 0 i,.nl,.nl,.nl,.nl,.bool m.hs,.int .i64 m.st,.nl,.nl,.nl]],true⟩),(901,⟨51,2,m.ts.map bQ,false⟩),(48,⟨61,13,m.ims.map cW,false⟩),(902,⟨64,3,(m.fs.take i).map bF,false⟩)]⟩) (fun i=>i≤m.fs.length) (fun i=>m.fs.length - i) 0 (cC _) ((Wk.new0 _ 902 3 64 (.inl (by decide))).trans ((Wk.nlm _ 3 (r:=[.ms 901 2 0 m.ts.length,.ms 48 13 0 m.ims.length,.nl,.nl,.nl,.nl,.nl,.bool m.hs,.int .i64 m.st,.nl,.nl,.nl]) rfl (r':=[.ms 901 2 0 m.ts.length,.ms 48 13 0 m.ims.length,.ms 902 3 0 0,.nl,.nl,.nl,.nl,.bool m.hs,.int .i64 m.st,.nl,.nl,.nl]) ⟨.inl rfl,.inl rfl,.inr ⟨rfl,.inr ⟨_,_,rfl⟩⟩,.inl rfl,.inl rfl,.inl rfl,.inl rfl,.inl rfl,.inl rfl,.inl rfl,.inl rfl,.inl rfl,trivial⟩).trans (Wk.of ?_ ?_))) ?_
 ·simp only [go_sem];try simp [go_sem]
 ·simp only [go_sem,bE];try simp [go_sem,au]
 intro i hi
 have hil:(m.fs.take i).length=i:=by simp;omega
 by_cases h1:(i:Int)<(m.fs.length:Int)
 ·have hi':i<m.fs.length:=by omega
  have hlb:=h.fs.1
  have e8:=wi (n:=(i:Int)+1) (by omega) (by omega)
  have hxx:=aO h.fs.2 hi'
  have tn:=aU hi'
  have happ:=fun ys=>aA 902 64 3 i bF (m.fs.take i) ys hil
  have a69:=fun ys=>aG 69 53 1 ys
  obtain ⟨x1,x2⟩:=hxx
  simp only [go_sem,aI h1,bj,a69]
  refine ⟨by omega,h1,by omega,?_⟩
  refine ar (bX (ac m.fs i).b x2) (by simp [go_sem]) rfl ?_
  simp only [go_sem]
  refine ba _ ((Wk.frzs [69] _).trans (Wk.unr _ 77 (by rfl) (by simp only [go_sem,fq,aB,ap]))) ?_
  simp only [go_sem,aB,ap,happ]
  refine ⟨by omega,aC (i+1) (show i+1≤m.fs.length by omega) (show m.fs.length - (i+1)<m.fs.length - i by omega) (Wk.of ?_ ?_)⟩
  ·simp only [go_sem,e8];try simp
  ·simp only [go_sem,tn,List.map_append];try simp [bj]
 obtain rfl:i=m.fs.length:=by omega
 simp only [go_sem,az h1,bJ,a80,a85]
 clear h1 hi hil
 refine ⟨by have:=h.tbs;omega,by have:=h.ms;omega,?_⟩
 refine an (fun i:Nat=>⟨[(8,.int .i64 i),(3,.mp 3 12 0 0),(2,.mp 2 12 0 0),(1,.mp 1 12 0 0)],[(1,⟨33,12,[dQ m],true⟩),(2,⟨33,12,[[.nl,.nl,.nl,.nl,.nl,.nl,.nl,.bool false,.int .i64 0,.nl,.nl,.nl]],true⟩),(3,⟨33,12,[[.ms 901 2 0 m.ts.length,.ms 48 13 0 m.ims.length,.ms 902 3 0 m.fs.length,.ms 80 4 0 m.tbs.length,.ms 85 3 0 m.ms.length,.ms 903 3 0 i,.nl,.bool m.hs,.int .i64 m.st,.nl,.nl,.nl]],true⟩),(901,⟨51,2,m.ts.map bQ,false⟩),(48,⟨61,13,m.ims.map cW,false⟩),(902,⟨64,3,m.fs.map bF,false⟩),(80,⟨57,4,m.tbs.map dG,false⟩),(85,⟨55,3,m.ms.map dA,false⟩),(903,⟨66,3,(m.gs.take i).map df,false⟩)]⟩) (fun i=>i≤m.gs.length) (fun i=>m.gs.length - i) 0 (cC _) ((Wk.new0 _ 903 3 66 (.inl (by decide))).trans ((Wk.nlm _ 3 (r:=[.ms 901 2 0 m.ts.length,.ms 48 13 0 m.ims.length,.ms 902 3 0 m.fs.length,.ms 80 4 0 m.tbs.length,.ms 85 3 0 m.ms.length,.nl,.nl,.bool m.hs,.int .i64 m.st,.nl,.nl,.nl]) rfl (r':=[.ms 901 2 0 m.ts.length,.ms 48 13 0 m.ims.length,.ms 902 3 0 m.fs.length,.ms 80 4 0 m.tbs.length,.ms 85 3 0 m.ms.length,.ms 903 3 0 0,.nl,.bool m.hs,.int .i64 m.st,.nl,.nl,.nl]) ⟨.inl rfl,.inl rfl,.inl rfl,.inl rfl,.inl rfl,.inr ⟨rfl,.inr ⟨_,_,rfl⟩⟩,.inl rfl,.inl rfl,.inl rfl,.inl rfl,.inl rfl,.inl rfl,trivial⟩).trans (Wk.of ?_ ?_))) ?_
 ·simp only [go_sem];try simp [go_sem]
 ·simp only [go_sem,bE];try simp [go_sem,au]
 intro i hi
 have hil:(m.gs.take i).length=i:=by simp;omega
 by_cases h1:(i:Int)<(m.gs.length:Int)
 ·have hi':i<m.gs.length:=by omega
  have hlb:=h.gs.1
  have e8:=wi (n:=(i:Int)+1) (by omega) (by omega)
  have hxx:=aO h.gs.2 hi'
  have tn:=aU hi'
  have happ:=fun ys=>aA 903 66 3 i df (m.gs.take i) ys hil
  simp only [go_sem,aI h1,bK]
  refine ⟨by omega,h1,by omega,h1,?_⟩
  refine ar (bX (ac m.gs i).i hxx) (by simp [go_sem]) rfl ?_
  simp only [go_sem]
  refine ba _ (Wk.refl _) ?_
  simp only [go_sem,aB,ap,happ]
  refine ⟨by omega,aC (i+1) (show i+1≤m.gs.length by omega) (show m.gs.length - (i+1)<m.gs.length - i by omega) (Wk.of ?_ ?_)⟩
  ·simp only [go_sem,e8];try simp
  ·simp only [go_sem,tn,List.map_append];try simp [bK]
 obtain rfl:i=m.gs.length:=by omega
 simp only [go_sem,az h1,bJ,a116]
 clear h1 hi hil
 refine ⟨by have:=h.exs;omega,?_⟩
 refine an (fun i:Nat=>⟨[(9,.int .i64 i),(3,.mp 3 12 0 0),(2,.mp 2 12 0 0),(1,.mp 1 12 0 0)],[(1,⟨33,12,[dQ m],true⟩),(2,⟨33,12,[[.nl,.nl,.nl,.nl,.nl,.nl,.nl,.bool false,.int .i64 0,.nl,.nl,.nl]],true⟩),(3,⟨33,12,[[.ms 901 2 0 m.ts.length,.ms 48 13 0 m.ims.length,.ms 902 3 0 m.fs.length,.ms 80 4 0 m.tbs.length,.ms 85 3 0 m.ms.length,.ms 903 3 0 m.gs.length,.ms 116 3 0 m.exs.length,.bool m.hs,.int .i64 m.st,.ms 904 5 0 i,.nl,.nl]],true⟩),(901,⟨51,2,m.ts.map bQ,false⟩),(48,⟨61,13,m.ims.map cW,false⟩),(902,⟨64,3,m.fs.map bF,false⟩),(80,⟨57,4,m.tbs.map dG,false⟩),(85,⟨55,3,m.ms.map dA,false⟩),(903,⟨66,3,m.gs.map df,false⟩),(116,⟨68,3,m.exs.map dU,false⟩),(904,⟨70,5,(m.els.take i).map cb,false⟩)]⟩) (fun i=>i≤m.els.length) (fun i=>m.els.length - i) 0 (cC _) ((Wk.new0 _ 904 5 70 (.inl (by decide))).trans ((Wk.nlm _ 3 (r:=[.ms 901 2 0 m.ts.length,.ms 48 13 0 m.ims.length,.ms 902 3 0 m.fs.length,.ms 80 4 0 m.tbs.length,.ms 85 3 0 m.ms.length,.ms 903 3 0 m.gs.length,.ms 116 3 0 m.exs.length,.bool m.hs,.int .i64 m.st,.nl,.nl,.nl]) rfl (r':=[.ms 901 2 0 m.ts.length,.ms 48 13 0 m.ims.length,.ms 902 3 0 m.fs.length,.ms 80 4 0 m.tbs.length,.ms 85 3 0 m.ms.length,.ms 903 3 0 m.gs.length,.ms 116 3 0 m.exs.length,.bool m.hs,.int .i64 m.st,.ms 904 5 0 0,.nl,.nl]) ⟨.inl rfl,.inl rfl,.inl rfl,.inl rfl,.inl rfl,.inl rfl,.inl rfl,.inl rfl,.inl rfl,.inr ⟨rfl,.inr ⟨_,_,rfl⟩⟩,.inl rfl,.inl rfl,trivial⟩).trans (Wk.of ?_ ?_))) ?_
 ·simp only [go_sem];try simp [go_sem]
 ·simp only [go_sem,bE];try simp [go_sem,au]
 intro i hi
 have hil:(m.els.take i).length=i:=by simp;omega
 by_cases h1:(i:Int)<(m.els.length:Int)
 ·have hi':i<m.els.length:=by omega
  have hlb:=h.els.1
  have e8:=wi (n:=(i:Int)+1) (by omega) (by omega)
  have hxx:=aO h.els.2 hi'
  have tn:=aU hi'
  have happ:=fun ys=>aA 904 70 5 i cb (m.els.take i) ys hil
  obtain ⟨x1,x2,x3⟩:=hxx
  simp only [go_sem,aI h1,aQ]
  refine ⟨by omega,h1,?_⟩
  refine an (fun j:Nat=>⟨[(12,.int .i64 j),(11,.ms 907 1 0 j),(10,.mp 10 5 0 0),(9,.int .i64 i),(3,.mp 3 12 0 0),(2,.mp 2 12 0 0),(1,.mp 1 12 0 0)],[(1,⟨33,12,[dQ m],true⟩),(2,⟨33,12,[[.nl,.nl,.nl,.nl,.nl,.nl,.nl,.bool false,.int .i64 0,.nl,.nl,.nl]],true⟩),(3,⟨33,12,[[.ms 901 2 0 m.ts.length,.ms 48 13 0 m.ims.length,.ms 902 3 0 m.fs.length,.ms 80 4 0 m.tbs.length,.ms 85 3 0 m.ms.length,.ms 903 3 0 m.gs.length,.ms 116 3 0 m.exs.length,.bool m.hs,.int .i64 m.st,.ms 904 5 0 i,.nl,.nl]],true⟩),(901,⟨51,2,m.ts.map bQ,false⟩),(48,⟨61,13,m.ims.map cW,false⟩),(902,⟨64,3,m.fs.map bF,false⟩),(80,⟨57,4,m.tbs.map dG,false⟩),(85,⟨55,3,m.ms.map dA,false⟩),(903,⟨66,3,m.gs.map df,false⟩),(116,⟨68,3,m.exs.map dU,false⟩),(904,⟨70,5,(m.els.take i).map cb,false⟩),(10,⟨70,5,[cb (ac m.els i)],true⟩),(907,⟨62,1,((ac m.els i).it.take j).map bY,false⟩)]⟩) (fun j=>j≤(ac m.els i).it.length) (fun j=>(ac m.els i).it.length - j) 0 (cC _) ((Wk.nil _ 11 907 1 62 (by simp only [go_sem]) (.inl (by decide))).trans (Wk.of ?_ ?_)) ?_
  ·simp only [go_sem,St.mknil];try simp [go_sem]
  ·simp only [go_sem,St.mknil,bE];try simp [go_sem,aQ]
  intro j hj
  have hjl:((ac m.els i).it.take j).length=j:=by simp;omega
  by_cases g1:(j:Int)<((ac m.els i).it.length:Int)
  ·have hj':j<(ac m.els i).it.length:=by omega
   have e9:=wi (n:=(j:Int)+1) (by omega) (by omega)
   have hap2:=fun ys=>aA 907 62 1 j bY ((ac m.els i).it.take j) ys hjl
   have tn2:=aU hj'
   simp only [go_sem,aI g1,aQ,bn]
   refine ⟨by omega,g1,?_⟩
   refine aa (bX (ac (ac m.els i).it j) (aO x3 hj')) ?_
   simp only [go_sem,hap2]
   refine ⟨by omega,aC (j+1) (show j+1≤(ac m.els i).it.length by omega) (show (ac m.els i).it.length - (j+1)<(ac m.els i).it.length - j by omega) (Wk.of ?_ ?_)⟩
   ·simp only [go_sem,e9];try simp
   ·simp only [go_sem,tn2,List.map_append];try simp [bn,aQ]
  obtain rfl:j=(ac m.els i).it.length:=by omega
  simp only [go_sem,az g1,aQ,bJ]
  refine ar (bX (ac m.els i).o x1) (by simp [go_sem]) rfl ?_
  simp only [go_sem]
  refine ba _ ((Wk.frzs [907] _).trans (Wk.unr _ 162 (by rfl) (by simp only [go_sem,fq,aB,ap]))) ?_
  simp only [go_sem,aB,ap,happ]
  refine ⟨by omega,aC (i+1) (show i+1≤m.els.length by omega) (show m.els.length - (i+1)<m.els.length - i by omega) (Wk.of ?_ ?_)⟩
  ·simp only [go_sem,e8];try simp
  ·simp only [go_sem,tn,List.map_append];try simp [aQ]
 obtain rfl:i=m.els.length:=by omega
 simp only [go_sem,az h1,bJ]
 clear h1 hi hil
 refine an (fun i:Nat=>⟨[(13,.int .i64 i),(3,.mp 3 12 0 0),(2,.mp 2 12 0 0),(1,.mp 1 12 0 0)],[(1,⟨33,12,[dQ m],true⟩),(2,⟨33,12,[[.nl,.nl,.nl,.nl,.nl,.nl,.nl,.bool false,.int .i64 0,.nl,.nl,.nl]],true⟩),(3,⟨33,12,[[.ms 901 2 0 m.ts.length,.ms 48 13 0 m.ims.length,.ms 902 3 0 m.fs.length,.ms 80 4 0 m.tbs.length,.ms 85 3 0 m.ms.length,.ms 903 3 0 m.gs.length,.ms 116 3 0 m.exs.length,.bool m.hs,.int .i64 m.st,.ms 904 5 0 m.els.length,.ms 905 4 0 i,.nl]],true⟩),(901,⟨51,2,m.ts.map bQ,false⟩),(48,⟨61,13,m.ims.map cW,false⟩),(902,⟨64,3,m.fs.map bF,false⟩),(80,⟨57,4,m.tbs.map dG,false⟩),(85,⟨55,3,m.ms.map dA,false⟩),(903,⟨66,3,m.gs.map df,false⟩),(116,⟨68,3,m.exs.map dU,false⟩),(904,⟨70,5,m.els.map cb,false⟩),(905,⟨73,4,(m.ds.take i).map cM,false⟩)]⟩) (fun i=>i≤m.ds.length) (fun i=>m.ds.length - i) 0 (cC _) ((Wk.new0 _ 905 4 73 (.inl (by decide))).trans ((Wk.nlm _ 3 (r:=[.ms 901 2 0 m.ts.length,.ms 48 13 0 m.ims.length,.ms 902 3 0 m.fs.length,.ms 80 4 0 m.tbs.length,.ms 85 3 0 m.ms.length,.ms 903 3 0 m.gs.length,.ms 116 3 0 m.exs.length,.bool m.hs,.int .i64 m.st,.ms 904 5 0 m.els.length,.nl,.nl]) rfl (r':=[.ms 901 2 0 m.ts.length,.ms 48 13 0 m.ims.length,.ms 902 3 0 m.fs.length,.ms 80 4 0 m.tbs.length,.ms 85 3 0 m.ms.length,.ms 903 3 0 m.gs.length,.ms 116 3 0 m.exs.length,.bool m.hs,.int .i64 m.st,.ms 904 5 0 m.els.length,.ms 905 4 0 0,.nl]) ⟨.inl rfl,.inl rfl,.inl rfl,.inl rfl,.inl rfl,.inl rfl,.inl rfl,.inl rfl,.inl rfl,.inl rfl,.inr ⟨rfl,.inr ⟨_,_,rfl⟩⟩,.inl rfl,trivial⟩).trans (Wk.of ?_ ?_))) ?_
 ·simp only [go_sem];try simp [go_sem]
 ·simp only [go_sem,bE];try simp [go_sem,au]
 intro i hi
 have hil:(m.ds.take i).length=i:=by simp;omega
 by_cases h1:(i:Int)<(m.ds.length:Int)
 ·have hi':i<m.ds.length:=by omega
  have hlb:=h.ds.1
  have e8:=wi (n:=(i:Int)+1) (by omega) (by omega)
  have hxx:=aO h.ds.2 hi'
  have tn:=aU hi'
  have happ:=fun ys=>aA 905 73 4 i cM (m.ds.take i) ys hil
  have a186:=fun ys=>aG 186 5 1 ys
  obtain ⟨x1,x2⟩:=hxx
  simp only [go_sem,aI h1,bB]
  refine ⟨by omega,h1,?_⟩
  refine ar (bX (ac m.ds i).o x1) (by simp [go_sem]) rfl ?_
  simp only [go_sem,a186]
  refine ⟨by omega,?_⟩
  refine ba _ ((Wk.frzs [186] _).trans (Wk.unr _ 191 (by rfl) (by simp only [go_sem,fq,aB,ap]))) ?_
  simp only [go_sem,aB,ap,happ]
  refine ⟨by omega,aC (i+1) (show i+1≤m.ds.length by omega) (show m.ds.length - (i+1)<m.ds.length - i by omega) (Wk.of ?_ ?_)⟩
  ·simp only [go_sem,e8];try simp
  ·simp only [go_sem,tn,List.map_append];try simp [bB]
 obtain rfl:i=m.ds.length:=by omega
 simp only [go_sem,az h1,bJ]
 clear h1 hi hil
 refine an (fun i:Nat=>⟨[(15,.int .i64 i),(3,.mp 3 12 0 0),(2,.mp 2 12 0 0),(1,.mp 1 12 0 0)],[(1,⟨33,12,[dQ m],true⟩),(2,⟨33,12,[[.nl,.nl,.nl,.nl,.nl,.nl,.nl,.bool false,.int .i64 0,.nl,.nl,.nl]],true⟩),(3,⟨33,12,[[.ms 901 2 0 m.ts.length,.ms 48 13 0 m.ims.length,.ms 902 3 0 m.fs.length,.ms 80 4 0 m.tbs.length,.ms 85 3 0 m.ms.length,.ms 903 3 0 m.gs.length,.ms 116 3 0 m.exs.length,.bool m.hs,.int .i64 m.st,.ms 904 5 0 m.els.length,.ms 905 4 0 m.ds.length,.ms 906 3 0 i]],true⟩),(901,⟨51,2,m.ts.map bQ,false⟩),(48,⟨61,13,m.ims.map cW,false⟩),(902,⟨64,3,m.fs.map bF,false⟩),(80,⟨57,4,m.tbs.map dG,false⟩),(85,⟨55,3,m.ms.map dA,false⟩),(903,⟨66,3,m.gs.map df,false⟩),(116,⟨68,3,m.exs.map dU,false⟩),(904,⟨70,5,m.els.map cb,false⟩),(905,⟨73,4,m.ds.map cM,false⟩),(906,⟨75,3,(m.cs.take i).map eW,false⟩)]⟩) (fun i=>i≤m.cs.length) (fun i=>m.cs.length - i) 0 (cC _) ((Wk.new0 _ 906 3 75 (.inl (by decide))).trans ((Wk.nlm _ 3 (r:=[.ms 901 2 0 m.ts.length,.ms 48 13 0 m.ims.length,.ms 902 3 0 m.fs.length,.ms 80 4 0 m.tbs.length,.ms 85 3 0 m.ms.length,.ms 903 3 0 m.gs.length,.ms 116 3 0 m.exs.length,.bool m.hs,.int .i64 m.st,.ms 904 5 0 m.els.length,.ms 905 4 0 m.ds.length,.nl]) rfl (r':=[.ms 901 2 0 m.ts.length,.ms 48 13 0 m.ims.length,.ms 902 3 0 m.fs.length,.ms 80 4 0 m.tbs.length,.ms 85 3 0 m.ms.length,.ms 903 3 0 m.gs.length,.ms 116 3 0 m.exs.length,.bool m.hs,.int .i64 m.st,.ms 904 5 0 m.els.length,.ms 905 4 0 m.ds.length,.ms 906 3 0 0]) ⟨.inl rfl,.inl rfl,.inl rfl,.inl rfl,.inl rfl,.inl rfl,.inl rfl,.inl rfl,.inl rfl,.inl rfl,.inl rfl,.inr ⟨rfl,.inr ⟨_,_,rfl⟩⟩,trivial⟩).trans (Wk.of ?_ ?_))) ?_
 ·simp only [go_sem];try simp [go_sem]
 ·simp only [go_sem,bE];try simp [go_sem,au]
 intro i hi
 have hil:(m.cs.take i).length=i:=by simp;omega
 by_cases h1:(i:Int)<(m.cs.length:Int)
 ·have hi':i<m.cs.length:=by omega
  have hlb:=h.cs.1
  have e8:=wi (n:=(i:Int)+1) (by omega) (by omega)
  have hxx:=aO h.cs.2 hi'
  have tn:=aU hi'
  have happ:=fun ys=>aA 906 75 3 i eW (m.cs.take i) ys hil
  have a212:=fun ys=>aG 212 5 1 ys
  simp only [go_sem,aI h1,bv,a212]
  refine ⟨by omega,h1,by have:_≤1048576:=hxx;omega,?_⟩
  refine ba _ ((Wk.frzs [212] _).trans (Wk.unr _ 217 (by rfl) (by simp only [go_sem,fq,aB,ap]))) ?_
  simp only [go_sem,aB,ap,happ]
  refine ⟨by omega,aC (i+1) (show i+1≤m.cs.length by omega) (show m.cs.length - (i+1)<m.cs.length - i by omega) (Wk.of ?_ ?_)⟩
  ·simp only [go_sem,e8];try simp
  ·simp only [go_sem,tn,List.map_append];try simp [bv]
 obtain rfl:i=m.cs.length:=by omega
 simp only [go_sem,az h1,bJ]
 clear h1 hi hil
 exact done [] (.agg [.ms 901 2 0 m.ts.length,.ms 48 13 0 m.ims.length,.ms 902 3 0 m.fs.length,.ms 80 4 0 m.tbs.length,.ms 85 3 0 m.ms.length,.ms 903 3 0 m.gs.length,.ms 116 3 0 m.exs.length,.bool m.hs,.int .i64 m.st,.ms 904 5 0 m.els.length,.ms 905 4 0 m.ds.length,.ms 906 3 0 m.cs.length]) [(901,⟨51,2,m.ts.map bQ,false⟩),(48,⟨61,13,m.ims.map cW,false⟩),(902,⟨64,3,m.fs.map bF,false⟩),(80,⟨57,4,m.tbs.map dG,false⟩),(85,⟨55,3,m.ms.map dA,false⟩),(903,⟨66,3,m.gs.map df,false⟩),(116,⟨68,3,m.exs.map dU,false⟩),(904,⟨70,5,m.els.map cb,false⟩),(905,⟨73,4,m.ds.map cM,false⟩),(906,⟨75,3,m.cs.map eW,false⟩)] (by rfl) ⟨rfl,rfl,rfl,rfl,rfl,rfl,rfl,rfl,rfl,rfl,trivial⟩ rfl ⟨rfl,rfl⟩
theorem Fg (m:Md) (h:mH m) (k:Nat) (hk:k<m.ts.length):br Tryz.prog ph [cE m] [] sb (fun r' σ'=>r' = .agg [.ms 901 2 0 m.ts.length,.ms 48 13 0 m.ims.length,.ms 902 3 0 m.fs.length,.ms 80 4 0 m.tbs.length,.ms 85 3 0 m.ms.length,.ms 903 3 0 m.gs.length,.ms 116 3 0 m.exs.length,.bool m.hs,.int .i64 m.st,.ms 904 5 0 m.els.length,.ms 905 4 0 m.ds.length,.ms 906 3 0 m.cs.length]∧σ'=[(901,⟨51,2,au bQ kN k m.ts,true⟩),(911,⟨53,1,(ac m.ts k).rs.map dF,false⟩),(48,⟨61,13,m.ims.map cW,false⟩),(902,⟨64,3,m.fs.map bF,false⟩),(80,⟨57,4,m.tbs.map dG,false⟩),(85,⟨55,3,m.ms.map dA,false⟩),(903,⟨66,3,m.gs.map df,false⟩),(116,⟨68,3,m.exs.map dU,false⟩),(904,⟨70,5,m.els.map cb,false⟩),(905,⟨73,4,m.ds.map cM,false⟩),(906,⟨75,3,m.cs.map eW,false⟩)]):=by
 refine c_ (ic:=ey [34,65,97,149,177,206] gH.body) aq oR rfl rfl ?_
 have a48:=fun ys=>aG 48 61 13 ys
 have a80:=fun ys=>aG 80 57 4 ys
 have a85:=fun ys=>aG 85 55 3 ys
 have a116:=fun ys=>aG 116 68 3 ys
 simp only [go_sem,gH,cE]
 refine an (fun i:Nat=>⟨[(4,.int .i64 i),(3,.mp 3 12 0 0),(2,.mp 2 12 0 0),(1,.mp 1 12 0 0)],[(1,⟨33,12,[dQ m],true⟩),(2,⟨33,12,[[.nl,.nl,.nl,.nl,.nl,.nl,.nl,.bool false,.int .i64 0,.nl,.nl,.nl]],true⟩),(3,⟨33,12,[[.ms 901 2 0 i,.nl,.nl,.nl,.nl,.nl,.nl,.bool m.hs,.int .i64 m.st,.nl,.nl,.nl]],true⟩),(901,⟨51,2,au bQ kN k (m.ts.take i),decide (k<i)⟩),(911,⟨53,1,if k<i then (ac m.ts k).rs.map dF else [],false⟩)]⟩) (fun i=>i≤m.ts.length) (fun i=>m.ts.length - i) 0 (cC _) ((Wk.new0 _ 911 1 53 (.inl (by decide))).trans ((Wk.new0 _ 901 2 51 (.inl (by decide))).trans ((Wk.nlm _ 3 (r:=[.nl,.nl,.nl,.nl,.nl,.nl,.nl,.bool m.hs,.int .i64 m.st,.nl,.nl,.nl]) rfl (r':=[.ms 901 2 0 0,.nl,.nl,.nl,.nl,.nl,.nl,.bool m.hs,.int .i64 m.st,.nl,.nl,.nl]) ⟨.inr ⟨rfl,.inr ⟨_,_,rfl⟩⟩,.inl rfl,.inl rfl,.inl rfl,.inl rfl,.inl rfl,.inl rfl,.inl rfl,.inl rfl,.inl rfl,.inl rfl,.inl rfl,trivial⟩).trans (Wk.of ?_ ?_)))) ?_
 ·simp only [go_sem];try simp [go_sem]
 ·simp only [go_sem,bE];try simp [go_sem,au]
 intro i hi
 have hil:(m.ts.take i).length=i:=by simp;omega
 by_cases h1:(i:Int)<(m.ts.length:Int)
 ·have hi':i<m.ts.length:=by omega
  have hlb:=h.ts.1
  have e8:=wi (n:=(i:Int)+1) (by omega) (by omega)
  have hxx:=aO h.ts.2 hi'
  have tn:=aU hi'
  have hRl:(au bQ kN k (m.ts.take i)).length=i:=by rw [gT,hil]
  have hsu:=f_ (c:=bQ) (c':=kN) (k:=k) hi'
  have happ:=fun ys=>fP 901 51 2 i (au bQ kN k (m.ts.take i)) ys hRl
  have happR:=fun ys q=>fT 901 51 2 i (au bQ kN k (m.ts.take i)) ys q hRl
  have hRp:∀j,¬j=911→(au bQ kN k (m.ts.take i)).map (fun r=>r.map (bW j))=au bQ kN k (m.ts.take i):=fun j hj=>bG (fun x=>by simp [bQ,bW,mC,mP]) (fun x=>by simp [kN,bW,mC,mP,Ne.symm hj])
  have hRf:∀j o,¬j=911→(au bQ kN k (m.ts.take i)).map (fun r=>r.map (ci j o))=au bQ kN k (m.ts.take i):=fun j o hj=>bG (fun x=>by simp [bQ,ci,cT]) (fun x=>by simp [kN,ci,cT,Ne.symm hj])
  have hRn:i3 901 (au bQ kN k (m.ts.take i))=true:=gS (fun x=>by simp [bQ,mC,mP]) (fun x=>by simp [kN,mC,mP])
  generalize hR:au bQ kN k (m.ts.take i)=R at *
  rcases Nat.lt_trichotomy i k with hk | hk | hk
  ·have d1:decide (k<i)=false:=az (by omega)
   have d2:decide (k<i+1)=false:=az (by omega)
   have f1:¬k<i:=by omega
   have f2:¬k<i+1:=by omega
   rw [aV (show ¬i=k by omega)] at hsu
   have a36:=fun ys=>aG 36 53 1 ys
   have a40:=fun ys=>aG 40 53 1 ys
   obtain ⟨x1,x2⟩:=hxx
   simp only [go_sem,aI h1,bq,a36,a40,d1,hRp]
   refine ⟨by omega,h1,by omega,by omega,?_⟩
   refine ba _ ((Wk.frzs [36,40] _).trans (Wk.unr _ 45 (by rfl) (by simp only [go_sem,fq,aB,ap]))) ?_
   simp only [go_sem,aB,ap,happ,happR,hRn,hRp]
   refine ⟨by omega,aC (i+1) (show i+1≤m.ts.length by omega) (show m.ts.length - (i+1)<m.ts.length - i by omega) (Wk.of ?_ ?_)⟩
   ·simp only [go_sem,e8];try simp
   ·simp only [go_sem,hsu,d2];try simp [bq,f1,f2]
  ·subst hk
   have d1:decide (i<i)=false:=az (by omega)
   have d2:decide (i<i+1)=true:=aI (by omega)
   have f1:¬i<i:=by omega
   have f2:i<i+1:=by omega
   rw [bz rfl] at hsu
   have a36:=fun ys=>aG 36 53 1 ys
   have a40:=fun ys=>aG 40 53 1 ys
   obtain ⟨x1,x2⟩:=hxx
   simp only [go_sem,aI h1,bq,a36,a40,d1,hRp]
   refine ⟨by omega,h1,by omega,by omega,?_⟩
   refine ba _ (Wk.frzs [36] _) ?_
   simp only [go_sem,aB,ap,happ,happR,hRn,hRp]
   have hRr:R.map (fun r=>r.map (eD (fw [(40,911)])))=R:=by
    rw [← hR]
    rw [f9 (by simp;omega),List.map_map]
    exact List.map_congr_left fun x _=>by simp [bQ,eD,jt]
   refine ⟨by omega,aC (i+1) (show i+1≤m.ts.length by omega) (show m.ts.length - (i+1)<m.ts.length - i by omega) ((Wk.of (s':=⟨[(4,.int .i64 ((i+1:Nat):Int)),(3,.mp 3 12 0 0),(2,.mp 2 12 0 0),(1,.mp 1 12 0 0)],[(1,⟨33,12,[dQ m],true⟩),(2,⟨33,12,[[.nl,.nl,.nl,.nl,.nl,.nl,.nl,.bool false,.int .i64 0,.nl,.nl,.nl]],true⟩),(3,⟨33,12,[[.ms 901 2 0 (i+1),.nl,.nl,.nl,.nl,.nl,.nl,.bool m.hs,.int .i64 m.st,.nl,.nl,.nl]],true⟩),(901,⟨51,2,R++[[.sl 1 ((ac m.ts i).ps.map dF),.ms 40 1 0 (ac m.ts i).rs.length]],true⟩),(40,⟨53,1,(ac m.ts i).rs.map dF,false⟩)]⟩) ?_ ?_).trans ((Wk.ren _ [(40,911)] (fun id h1 h2=>by show jb 40 911 id=id;unfold jb;rw [aV (by omega),aV (by omega)])).trans (Wk.of ?_ ?_)))⟩
   ·simp only [go_sem,e8];try simp
   ·simp only [go_sem];try simp
   ·simp only [go_sem];try simp
   ·simp only [go_sem,hsu,d2,hRr];try simp [kN,f2,hRr,jm,jl,gP,gQ,vY]
  ·have d1:decide (k<i)=true:=aI (by omega)
   have d2:decide (k<i+1)=true:=aI (by omega)
   have f1:k<i:=by omega
   have f2:k<i+1:=by omega
   rw [aV (show ¬i=k by omega)] at hsu
   have hRi:R.flatMap (fun r=>r.flatMap bU)=[911]:=by
    rw [← hR]
    exact dq (fun x=>by simp [bQ,bU,cG]) (fun x=>by simp [kN,bU,cG]) (by simp;omega)
   have a36:=fun ys=>aG 36 53 1 ys
   have a40:=fun ys=>aG 40 53 1 ys
   obtain ⟨x1,x2⟩:=hxx
   simp only [go_sem,aI h1,bq,a36,a40,d1,hRi,hRf,hRp]
   refine ⟨by omega,h1,by omega,by omega,?_⟩
   refine ba _ ((Wk.frzs [36,40] _).trans (Wk.unr _ 45 (by rfl) (by simp only [go_sem,fq,aB,ap]))) ?_
   simp only [go_sem,aB,ap,happ,happR,hRn,hRi,hRf,hRp]
   refine ⟨by omega,aC (i+1) (show i+1≤m.ts.length by omega) (show m.ts.length - (i+1)<m.ts.length - i by omega) (Wk.of ?_ ?_)⟩
   ·simp only [go_sem,e8];try simp
   ·simp only [go_sem,hsu,d2];try simp [bq,f1,f2]
 obtain rfl:i=m.ts.length:=by omega
 rw [bJ]
 have hRp:∀j,¬j=911→(au bQ kN k m.ts).map (fun r=>r.map (bW j))=au bQ kN k m.ts:=fun j hj=>bG (fun x=>by simp [bQ,bW,mC,mP]) (fun x=>by simp [kN,bW,mC,mP,Ne.symm hj])
 have hRi:(au bQ kN k m.ts).flatMap (fun r=>r.flatMap bU)=[911]:=dq (fun x=>by simp [bQ,bU,cG]) (fun x=>by simp [kN,bU,cG]) hk
 have hRf:∀j o,¬j=911→(au bQ kN k m.ts).map (fun r=>r.map (ci j o))=au bQ kN k m.ts:=fun j o hj=>bG (fun x=>by simp [bQ,ci,cT]) (fun x=>by simp [kN,ci,cT,Ne.symm hj])
 have dk:decide (k<m.ts.length)=true:=aI hk
 obtain ⟨R,hR⟩:∃R,au bQ kN k m.ts=R:=⟨_,rfl⟩
 rw [hR] at hRp hRi hRf
 simp only [go_sem,az h1,dk,hR,bz hk,hRp,hRi,hRf,a48]
 clear h1 hi hil
 refine ⟨by have:=h.ims;omega,?_⟩
 refine an (fun i:Nat=>⟨[(6,.int .i64 i),(3,.mp 3 12 0 0),(2,.mp 2 12 0 0),(1,.mp 1 12 0 0)],[(1,⟨33,12,[dQ m],true⟩),(2,⟨33,12,[[.nl,.nl,.nl,.nl,.nl,.nl,.nl,.bool false,.int .i64 0,.nl,.nl,.nl]],true⟩),(3,⟨33,12,[[.ms 901 2 0 m.ts.length,.ms 48 13 0 m.ims.length,.ms 902 3 0 i,.nl,.nl,.nl,.nl,.bool m.hs,.int .i64 m.st,.nl,.nl,.nl]],true⟩),(901,⟨51,2,R,true⟩),(911,⟨53,1,(ac m.ts k).rs.map dF,false⟩),(48,⟨61,13,m.ims.map cW,false⟩),(902,⟨64,3,(m.fs.take i).map bF,false⟩)]⟩) (fun i=>i≤m.fs.length) (fun i=>m.fs.length - i) 0 (cC _) ((Wk.new0 _ 902 3 64 (.inl (by decide))).trans ((Wk.nlm _ 3 (r:=[.ms 901 2 0 m.ts.length,.ms 48 13 0 m.ims.length,.nl,.nl,.nl,.nl,.nl,.bool m.hs,.int .i64 m.st,.nl,.nl,.nl]) rfl (r':=[.ms 901 2 0 m.ts.length,.ms 48 13 0 m.ims.length,.ms 902 3 0 0,.nl,.nl,.nl,.nl,.bool m.hs,.int .i64 m.st,.nl,.nl,.nl]) ⟨.inl rfl,.inl rfl,.inr ⟨rfl,.inr ⟨_,_,rfl⟩⟩,.inl rfl,.inl rfl,.inl rfl,.inl rfl,.inl rfl,.inl rfl,.inl rfl,.inl rfl,.inl rfl,trivial⟩).trans (Wk.of ?_ ?_))) ?_
 ·simp only [go_sem];try simp [go_sem]
 ·simp only [go_sem,bE,hRp,hRi,hRf];try simp [go_sem,au,hRp,hRi,hRf]
 intro i hi
 have hil:(m.fs.take i).length=i:=by simp;omega
 by_cases h1:(i:Int)<(m.fs.length:Int)
 ·have hi':i<m.fs.length:=by omega
  have hlb:=h.fs.1
  have e8:=wi (n:=(i:Int)+1) (by omega) (by omega)
  have hxx:=aO h.fs.2 hi'
  have tn:=aU hi'
  have happ:=fun ys=>aA 902 64 3 i bF (m.fs.take i) ys hil
  have a69:=fun ys=>aG 69 53 1 ys
  obtain ⟨x1,x2⟩:=hxx
  simp only [go_sem,aI h1,bj,a69,hRp,hRi,hRf]
  refine ⟨by omega,h1,by omega,?_⟩
  refine ar (bX (ac m.fs i).b x2) (by simp [go_sem]) rfl ?_
  simp only [go_sem,hRp,hRi,hRf]
  refine ba _ ((Wk.frzs [69] _).trans (Wk.unr _ 77 (by rfl) (by simp only [go_sem,fq,aB,ap]))) ?_
  simp only [go_sem,aB,ap,happ,hRp,hRi,hRf]
  refine ⟨by omega,aC (i+1) (show i+1≤m.fs.length by omega) (show m.fs.length - (i+1)<m.fs.length - i by omega) (Wk.of ?_ ?_)⟩
  ·simp only [go_sem,e8];try simp
  ·simp only [go_sem,tn,List.map_append];try simp [bj]
 obtain rfl:i=m.fs.length:=by omega
 simp only [go_sem,az h1,bJ,hRp,hRi,hRf,a80,a85]
 clear h1 hi hil
 refine ⟨by have:=h.tbs;omega,by have:=h.ms;omega,?_⟩
 refine an (fun i:Nat=>⟨[(8,.int .i64 i),(3,.mp 3 12 0 0),(2,.mp 2 12 0 0),(1,.mp 1 12 0 0)],[(1,⟨33,12,[dQ m],true⟩),(2,⟨33,12,[[.nl,.nl,.nl,.nl,.nl,.nl,.nl,.bool false,.int .i64 0,.nl,.nl,.nl]],true⟩),(3,⟨33,12,[[.ms 901 2 0 m.ts.length,.ms 48 13 0 m.ims.length,.ms 902 3 0 m.fs.length,.ms 80 4 0 m.tbs.length,.ms 85 3 0 m.ms.length,.ms 903 3 0 i,.nl,.bool m.hs,.int .i64 m.st,.nl,.nl,.nl]],true⟩),(901,⟨51,2,R,true⟩),(911,⟨53,1,(ac m.ts k).rs.map dF,false⟩),(48,⟨61,13,m.ims.map cW,false⟩),(902,⟨64,3,m.fs.map bF,false⟩),(80,⟨57,4,m.tbs.map dG,false⟩),(85,⟨55,3,m.ms.map dA,false⟩),(903,⟨66,3,(m.gs.take i).map df,false⟩)]⟩) (fun i=>i≤m.gs.length) (fun i=>m.gs.length - i) 0 (cC _) ((Wk.new0 _ 903 3 66 (.inl (by decide))).trans ((Wk.nlm _ 3 (r:=[.ms 901 2 0 m.ts.length,.ms 48 13 0 m.ims.length,.ms 902 3 0 m.fs.length,.ms 80 4 0 m.tbs.length,.ms 85 3 0 m.ms.length,.nl,.nl,.bool m.hs,.int .i64 m.st,.nl,.nl,.nl]) rfl (r':=[.ms 901 2 0 m.ts.length,.ms 48 13 0 m.ims.length,.ms 902 3 0 m.fs.length,.ms 80 4 0 m.tbs.length,.ms 85 3 0 m.ms.length,.ms 903 3 0 0,.nl,.bool m.hs,.int .i64 m.st,.nl,.nl,.nl]) ⟨.inl rfl,.inl rfl,.inl rfl,.inl rfl,.inl rfl,.inr ⟨rfl,.inr ⟨_,_,rfl⟩⟩,.inl rfl,.inl rfl,.inl rfl,.inl rfl,.inl rfl,.inl rfl,trivial⟩).trans (Wk.of ?_ ?_))) ?_
 ·simp only [go_sem];try simp [go_sem]
 ·simp only [go_sem,bE,hRp,hRi,hRf];try simp [go_sem,au,hRp,hRi,hRf]
 intro i hi
 have hil:(m.gs.take i).length=i:=by simp;omega
 by_cases h1:(i:Int)<(m.gs.length:Int)
 ·have hi':i<m.gs.length:=by omega
  have hlb:=h.gs.1
  have e8:=wi (n:=(i:Int)+1) (by omega) (by omega)
  have hxx:=aO h.gs.2 hi'
  have tn:=aU hi'
  have happ:=fun ys=>aA 903 66 3 i df (m.gs.take i) ys hil
  simp only [go_sem,aI h1,bK,hRp,hRi,hRf]
  refine ⟨by omega,h1,by omega,h1,?_⟩
  refine ar (bX (ac m.gs i).i hxx) (by simp [go_sem]) rfl ?_
  simp only [go_sem,hRp,hRi,hRf]
  refine ba _ (Wk.refl _) ?_
  simp only [go_sem,aB,ap,happ,hRp,hRi,hRf]
  refine ⟨by omega,aC (i+1) (show i+1≤m.gs.length by omega) (show m.gs.length - (i+1)<m.gs.length - i by omega) (Wk.of ?_ ?_)⟩
  ·simp only [go_sem,e8];try simp
  ·simp only [go_sem,tn,List.map_append];try simp [bK]
 obtain rfl:i=m.gs.length:=by omega
 simp only [go_sem,az h1,bJ,hRp,hRi,hRf,a116]
 clear h1 hi hil
 refine ⟨by have:=h.exs;omega,?_⟩
 refine an (fun i:Nat=>⟨[(9,.int .i64 i),(3,.mp 3 12 0 0),(2,.mp 2 12 0 0),(1,.mp 1 12 0 0)],[(1,⟨33,12,[dQ m],true⟩),(2,⟨33,12,[[.nl,.nl,.nl,.nl,.nl,.nl,.nl,.bool false,.int .i64 0,.nl,.nl,.nl]],true⟩),(3,⟨33,12,[[.ms 901 2 0 m.ts.length,.ms 48 13 0 m.ims.length,.ms 902 3 0 m.fs.length,.ms 80 4 0 m.tbs.length,.ms 85 3 0 m.ms.length,.ms 903 3 0 m.gs.length,.ms 116 3 0 m.exs.length,.bool m.hs,.int .i64 m.st,.ms 904 5 0 i,.nl,.nl]],true⟩),(901,⟨51,2,R,true⟩),(911,⟨53,1,(ac m.ts k).rs.map dF,false⟩),(48,⟨61,13,m.ims.map cW,false⟩),(902,⟨64,3,m.fs.map bF,false⟩),(80,⟨57,4,m.tbs.map dG,false⟩),(85,⟨55,3,m.ms.map dA,false⟩),(903,⟨66,3,m.gs.map df,false⟩),(116,⟨68,3,m.exs.map dU,false⟩),(904,⟨70,5,(m.els.take i).map cb,false⟩)]⟩) (fun i=>i≤m.els.length) (fun i=>m.els.length - i) 0 (cC _) ((Wk.new0 _ 904 5 70 (.inl (by decide))).trans ((Wk.nlm _ 3 (r:=[.ms 901 2 0 m.ts.length,.ms 48 13 0 m.ims.length,.ms 902 3 0 m.fs.length,.ms 80 4 0 m.tbs.length,.ms 85 3 0 m.ms.length,.ms 903 3 0 m.gs.length,.ms 116 3 0 m.exs.length,.bool m.hs,.int .i64 m.st,.nl,.nl,.nl]) rfl (r':=[.ms 901 2 0 m.ts.length,.ms 48 13 0 m.ims.length,.ms 902 3 0 m.fs.length,.ms 80 4 0 m.tbs.length,.ms 85 3 0 m.ms.length,.ms 903 3 0 m.gs.length,.ms 116 3 0 m.exs.length,.bool m.hs,.int .i64 m.st,.ms 904 5 0 0,.nl,.nl]) ⟨.inl rfl,.inl rfl,.inl rfl,.inl rfl,.inl rfl,.inl rfl,.inl rfl,.inl rfl,.inl rfl,.inr ⟨rfl,.inr ⟨_,_,rfl⟩⟩,.inl rfl,.inl rfl,trivial⟩).trans (Wk.of ?_ ?_))) ?_
 ·simp only [go_sem];try simp [go_sem]
 ·simp only [go_sem,bE,hRp,hRi,hRf];try simp [go_sem,au,hRp,hRi,hRf]
 intro i hi
 have hil:(m.els.take i).length=i:=by simp;omega
 by_cases h1:(i:Int)<(m.els.length:Int)
 ·have hi':i<m.els.length:=by omega
  have hlb:=h.els.1
  have e8:=wi (n:=(i:Int)+1) (by omega) (by omega)
  have hxx:=aO h.els.2 hi'
  have tn:=aU hi'
  have happ:=fun ys=>aA 904 70 5 i cb (m.els.take i) ys hil
  obtain ⟨x1,x2,x3⟩:=hxx
  simp only [go_sem,aI h1,aQ,hRp,hRi,hRf]
  refine ⟨by omega,h1,?_⟩
  refine an (fun j:Nat=>⟨[(12,.int .i64 j),(11,.ms 907 1 0 j),(10,.mp 10 5 0 0),(9,.int .i64 i),(3,.mp 3 12 0 0),(2,.mp 2 12 0 0),(1,.mp 1 12 0 0)],[(1,⟨33,12,[dQ m],true⟩),(2,⟨33,12,[[.nl,.nl,.nl,.nl,.nl,.nl,.nl,.bool false,.int .i64 0,.nl,.nl,.nl]],true⟩),(3,⟨33,12,[[.ms 901 2 0 m.ts.length,.ms 48 13 0 m.ims.length,.ms 902 3 0 m.fs.length,.ms 80 4 0 m.tbs.length,.ms 85 3 0 m.ms.length,.ms 903 3 0 m.gs.length,.ms 116 3 0 m.exs.length,.bool m.hs,.int .i64 m.st,.ms 904 5 0 i,.nl,.nl]],true⟩),(901,⟨51,2,R,true⟩),(911,⟨53,1,(ac m.ts k).rs.map dF,false⟩),(48,⟨61,13,m.ims.map cW,false⟩),(902,⟨64,3,m.fs.map bF,false⟩),(80,⟨57,4,m.tbs.map dG,false⟩),(85,⟨55,3,m.ms.map dA,false⟩),(903,⟨66,3,m.gs.map df,false⟩),(116,⟨68,3,m.exs.map dU,false⟩),(904,⟨70,5,(m.els.take i).map cb,false⟩),(10,⟨70,5,[cb (ac m.els i)],true⟩),(907,⟨62,1,((ac m.els i).it.take j).map bY,false⟩)]⟩) (fun j=>j≤(ac m.els i).it.length) (fun j=>(ac m.els i).it.length - j) 0 (cC _) ((Wk.nil _ 11 907 1 62 (by simp only [go_sem]) (.inl (by decide))).trans (Wk.of ?_ ?_)) ?_
  ·simp only [go_sem,St.mknil];try simp [go_sem]
  ·simp only [go_sem,St.mknil,bE,hRp,hRi,hRf];try simp [go_sem,aQ]
  intro j hj
  have hjl:((ac m.els i).it.take j).length=j:=by simp;omega
  by_cases g1:(j:Int)<((ac m.els i).it.length:Int)
  ·have hj':j<(ac m.els i).it.length:=by omega
   have e9:=wi (n:=(j:Int)+1) (by omega) (by omega)
   have hap2:=fun ys=>aA 907 62 1 j bY ((ac m.els i).it.take j) ys hjl
   have tn2:=aU hj'
   simp only [go_sem,aI g1,aQ,bn,hRp,hRi,hRf]
   refine ⟨by omega,g1,?_⟩
   refine aa (bX (ac (ac m.els i).it j) (aO x3 hj')) ?_
   simp only [go_sem,hap2,hRp,hRi,hRf]
   refine ⟨by omega,aC (j+1) (show j+1≤(ac m.els i).it.length by omega) (show (ac m.els i).it.length - (j+1)<(ac m.els i).it.length - j by omega) (Wk.of ?_ ?_)⟩
   ·simp only [go_sem,e9];try simp
   ·simp only [go_sem,tn2,List.map_append,hRp,hRi,hRf];try simp [bn,aQ]
  obtain rfl:j=(ac m.els i).it.length:=by omega
  simp only [go_sem,az g1,aQ,bJ,hRp,hRi,hRf]
  refine ar (bX (ac m.els i).o x1) (by simp [go_sem]) rfl ?_
  simp only [go_sem,hRp,hRi,hRf]
  refine ba _ ((Wk.frzs [907] _).trans (Wk.unr _ 162 (by rfl) (by simp only [go_sem,fq,aB,ap]))) ?_
  simp only [go_sem,aB,ap,happ,hRp,hRi,hRf]
  refine ⟨by omega,aC (i+1) (show i+1≤m.els.length by omega) (show m.els.length - (i+1)<m.els.length - i by omega) (Wk.of ?_ ?_)⟩
  ·simp only [go_sem,e8];try simp
  ·simp only [go_sem,tn,List.map_append];try simp [aQ]
 obtain rfl:i=m.els.length:=by omega
 simp only [go_sem,az h1,bJ,hRp,hRi,hRf]
 clear h1 hi hil
 refine an (fun i:Nat=>⟨[(13,.int .i64 i),(3,.mp 3 12 0 0),(2,.mp 2 12 0 0),(1,.mp 1 12 0 0)],[(1,⟨33,12,[dQ m],true⟩),(2,⟨33,12,[[.nl,.nl,.nl,.nl,.nl,.nl,.nl,.bool false,.int .i64 0,.nl,.nl,.nl]],true⟩),(3,⟨33,12,[[.ms 901 2 0 m.ts.length,.ms 48 13 0 m.ims.length,.ms 902 3 0 m.fs.length,.ms 80 4 0 m.tbs.length,.ms 85 3 0 m.ms.length,.ms 903 3 0 m.gs.length,.ms 116 3 0 m.exs.length,.bool m.hs,.int .i64 m.st,.ms 904 5 0 m.els.length,.ms 905 4 0 i,.nl]],true⟩),(901,⟨51,2,R,true⟩),(911,⟨53,1,(ac m.ts k).rs.map dF,false⟩),(48,⟨61,13,m.ims.map cW,false⟩),(902,⟨64,3,m.fs.map bF,false⟩),(80,⟨57,4,m.tbs.map dG,false⟩),(85,⟨55,3,m.ms.map dA,false⟩),(903,⟨66,3,m.gs.map df,false⟩),(116,⟨68,3,m.exs.map dU,false⟩),(904,⟨70,5,m.els.map cb,false⟩),(905,⟨73,4,(m.ds.take i).map cM,false⟩)]⟩) (fun i=>i≤m.ds.length) (fun i=>m.ds.length - i) 0 (cC _) ((Wk.new0 _ 905 4 73 (.inl (by decide))).trans ((Wk.nlm _ 3 (r:=[.ms 901 2 0 m.ts.length,.ms 48 13 0 m.ims.length,.ms 902 3 0 m.fs.length,.ms 80 4 0 m.tbs.length,.ms 85 3 0 m.ms.length,.ms 903 3 0 m.gs.length,.ms 116 3 0 m.exs.length,.bool m.hs,.int .i64 m.st,.ms 904 5 0 m.els.length,.nl,.nl]) rfl (r':=[.ms 901 2 0 m.ts.length,.ms 48 13 0 m.ims.length,.ms 902 3 0 m.fs.length,.ms 80 4 0 m.tbs.length,.ms 85 3 0 m.ms.length,.ms 903 3 0 m.gs.length,.ms 116 3 0 m.exs.length,.bool m.hs,.int .i64 m.st,.ms 904 5 0 m.els.length,.ms 905 4 0 0,.nl]) ⟨.inl rfl,.inl rfl,.inl rfl,.inl rfl,.inl rfl,.inl rfl,.inl rfl,.inl rfl,.inl rfl,.inl rfl,.inr ⟨rfl,.inr ⟨_,_,rfl⟩⟩,.inl rfl,trivial⟩).trans (Wk.of ?_ ?_))) ?_
 ·simp only [go_sem];try simp [go_sem]
 ·simp only [go_sem,bE,hRp,hRi,hRf];try simp [go_sem,au,hRp,hRi,hRf]
 intro i hi
 have hil:(m.ds.take i).length=i:=by simp;omega
 by_cases h1:(i:Int)<(m.ds.length:Int)
 ·have hi':i<m.ds.length:=by omega
  have hlb:=h.ds.1
  have e8:=wi (n:=(i:Int)+1) (by omega) (by omega)
  have hxx:=aO h.ds.2 hi'
  have tn:=aU hi'
  have happ:=fun ys=>aA 905 73 4 i cM (m.ds.take i) ys hil
  have a186:=fun ys=>aG 186 5 1 ys
  obtain ⟨x1,x2⟩:=hxx
  simp only [go_sem,aI h1,bB,hRp,hRi,hRf]
  refine ⟨by omega,h1,?_⟩
  refine ar (bX (ac m.ds i).o x1) (by simp [go_sem]) rfl ?_
  simp only [go_sem,a186,hRp,hRi,hRf]
  refine ⟨by omega,?_⟩
  refine ba _ ((Wk.frzs [186] _).trans (Wk.unr _ 191 (by rfl) (by simp only [go_sem,fq,aB,ap]))) ?_
  simp only [go_sem,aB,ap,happ,hRp,hRi,hRf]
  refine ⟨by omega,aC (i+1) (show i+1≤m.ds.length by omega) (show m.ds.length - (i+1)<m.ds.length - i by omega) (Wk.of ?_ ?_)⟩
  ·simp only [go_sem,e8];try simp
  ·simp only [go_sem,tn,List.map_append];try simp [bB]
 obtain rfl:i=m.ds.length:=by omega
 simp only [go_sem,az h1,bJ,hRp,hRi,hRf]
 clear h1 hi hil
 refine an (fun i:Nat=>⟨[(15,.int .i64 i),(3,.mp 3 12 0 0),(2,.mp 2 12 0 0),(1,.mp 1 12 0 0)],[(1,⟨33,12,[dQ m],true⟩),(2,⟨33,12,[[.nl,.nl,.nl,.nl,.nl,.nl,.nl,.bool false,.int .i64 0,.nl,.nl,.nl]],true⟩),(3,⟨33,12,[[.ms 901 2 0 m.ts.length,.ms 48 13 0 m.ims.length,.ms 902 3 0 m.fs.length,.ms 80 4 0 m.tbs.length,.ms 85 3 0 m.ms.length,.ms 903 3 0 m.gs.length,.ms 116 3 0 m.exs.length,.bool m.hs,.int .i64 m.st,.ms 904 5 0 m.els.length,.ms 905 4 0 m.ds.length,.ms 906 3 0 i]],true⟩),(901,⟨51,2,R,true⟩),(911,⟨53,1,(ac m.ts k).rs.map dF,false⟩),(48,⟨61,13,m.ims.map cW,false⟩),(902,⟨64,3,m.fs.map bF,false⟩),(80,⟨57,4,m.tbs.map dG,false⟩),(85,⟨55,3,m.ms.map dA,false⟩),(903,⟨66,3,m.gs.map df,false⟩),(116,⟨68,3,m.exs.map dU,false⟩),(904,⟨70,5,m.els.map cb,false⟩),(905,⟨73,4,m.ds.map cM,false⟩),(906,⟨75,3,(m.cs.take i).map eW,false⟩)]⟩) (fun i=>i≤m.cs.length) (fun i=>m.cs.length - i) 0 (cC _) ((Wk.new0 _ 906 3 75 (.inl (by decide))).trans ((Wk.nlm _ 3 (r:=[.ms 901 2 0 m.ts.length,.ms 48 13 0 m.ims.length,.ms 902 3 0 m.fs.length,.ms 80 4 0 m.tbs.length,.ms 85 3 0 m.ms.length,.ms 903 3 0 m.gs.length,.ms 116 3 0 m.exs.length,.bool m.hs,.int .i64 m.st,.ms 904 5 0 m.els.length,.ms 905 4 0 m.ds.length,.nl]) rfl (r':=[.ms 901 2 0 m.ts.length,.ms 48 13 0 m.ims.length,.ms 902 3 0 m.fs.length,.ms 80 4 0 m.tbs.length,.ms 85 3 0 m.ms.length,.ms 903 3 0 m.gs.length,.ms 116 3 0 m.exs.length,.bool m.hs,.int .i64 m.st,.ms 904 5 0 m.els.length,.ms 905 4 0 m.ds.length,.ms 906 3 0 0]) ⟨.inl rfl,.inl rfl,.inl rfl,.inl rfl,.inl rfl,.inl rfl,.inl rfl,.inl rfl,.inl rfl,.inl rfl,.inl rfl,.inr ⟨rfl,.inr ⟨_,_,rfl⟩⟩,trivial⟩).trans (Wk.of ?_ ?_))) ?_
 ·simp only [go_sem];try simp [go_sem]
 ·simp only [go_sem,bE,hRp,hRi,hRf];try simp [go_sem,au,hRp,hRi,hRf]
 intro i hi
 have hil:(m.cs.take i).length=i:=by simp;omega
 by_cases h1:(i:Int)<(m.cs.length:Int)
 ·have hi':i<m.cs.length:=by omega
  have hlb:=h.cs.1
  have e8:=wi (n:=(i:Int)+1) (by omega) (by omega)
  have hxx:=aO h.cs.2 hi'
  have tn:=aU hi'
  have happ:=fun ys=>aA 906 75 3 i eW (m.cs.take i) ys hil
  have a212:=fun ys=>aG 212 5 1 ys
  simp only [go_sem,aI h1,bv,a212,hRp,hRi,hRf]
  refine ⟨by omega,h1,by have:_≤1048576:=hxx;omega,?_⟩
  refine ba _ ((Wk.frzs [212] _).trans (Wk.unr _ 217 (by rfl) (by simp only [go_sem,fq,aB,ap]))) ?_
  simp only [go_sem,aB,ap,happ,hRp,hRi,hRf]
  refine ⟨by omega,aC (i+1) (show i+1≤m.cs.length by omega) (show m.cs.length - (i+1)<m.cs.length - i by omega) (Wk.of ?_ ?_)⟩
  ·simp only [go_sem,e8];try simp
  ·simp only [go_sem,tn,List.map_append];try simp [bv]
 obtain rfl:i=m.cs.length:=by omega
 simp only [go_sem,az h1,bJ,hRp,hRi,hRf]
 clear h1 hi hil
 exact done [] (.agg [.ms 901 2 0 m.ts.length,.ms 48 13 0 m.ims.length,.ms 902 3 0 m.fs.length,.ms 80 4 0 m.tbs.length,.ms 85 3 0 m.ms.length,.ms 903 3 0 m.gs.length,.ms 116 3 0 m.exs.length,.bool m.hs,.int .i64 m.st,.ms 904 5 0 m.els.length,.ms 905 4 0 m.ds.length,.ms 906 3 0 m.cs.length]) [(901,⟨51,2,R,true⟩),(911,⟨53,1,(ac m.ts k).rs.map dF,false⟩),(48,⟨61,13,m.ims.map cW,false⟩),(902,⟨64,3,m.fs.map bF,false⟩),(80,⟨57,4,m.tbs.map dG,false⟩),(85,⟨55,3,m.ms.map dA,false⟩),(903,⟨66,3,m.gs.map df,false⟩),(116,⟨68,3,m.exs.map dU,false⟩),(904,⟨70,5,m.els.map cb,false⟩),(905,⟨73,4,m.ds.map cM,false⟩),(906,⟨75,3,m.cs.map eW,false⟩)] (by rfl) ⟨rfl,rfl,rfl,rfl,rfl,rfl,rfl,rfl,rfl,rfl,rfl,trivial⟩ (by simp [vA,cU,hRi,go_sem]) ⟨rfl,by rw [← hR]⟩
theorem Ff (m:Md) (h:mH m) (k:Nat) (hk:k<m.fs.length):br Tryz.prog ph [cE m] [] sb (fun r' σ'=>r' = .agg [.ms 901 2 0 m.ts.length,.ms 48 13 0 m.ims.length,.ms 902 3 0 m.fs.length,.ms 80 4 0 m.tbs.length,.ms 85 3 0 m.ms.length,.ms 903 3 0 m.gs.length,.ms 116 3 0 m.exs.length,.bool m.hs,.int .i64 m.st,.ms 904 5 0 m.els.length,.ms 905 4 0 m.ds.length,.ms 906 3 0 m.cs.length]∧σ'=[(901,⟨51,2,m.ts.map bQ,false⟩),(48,⟨61,13,m.ims.map cW,false⟩),(902,⟨64,3,au bF eO k m.fs,true⟩),(911,⟨53,1,(ac m.fs k).lo.map dF,false⟩),(80,⟨57,4,m.tbs.map dG,false⟩),(85,⟨55,3,m.ms.map dA,false⟩),(903,⟨66,3,m.gs.map df,false⟩),(116,⟨68,3,m.exs.map dU,false⟩),(904,⟨70,5,m.els.map cb,false⟩),(905,⟨73,4,m.ds.map cM,false⟩),(906,⟨75,3,m.cs.map eW,false⟩)]):=by
 refine c_ (ic:=ey [34,65,97,149,177,206] gH.body) aq oR rfl rfl ?_
 have a48:=fun ys=>aG 48 61 13 ys
 have a80:=fun ys=>aG 80 57 4 ys
 have a85:=fun ys=>aG 85 55 3 ys
 have a116:=fun ys=>aG 116 68 3 ys
 simp only [go_sem,gH,cE]
 refine an (fun i:Nat=>⟨[(4,.int .i64 i),(3,.mp 3 12 0 0),(2,.mp 2 12 0 0),(1,.mp 1 12 0 0)],[(1,⟨33,12,[dQ m],true⟩),(2,⟨33,12,[[.nl,.nl,.nl,.nl,.nl,.nl,.nl,.bool false,.int .i64 0,.nl,.nl,.nl]],true⟩),(3,⟨33,12,[[.ms 901 2 0 i,.nl,.nl,.nl,.nl,.nl,.nl,.bool m.hs,.int .i64 m.st,.nl,.nl,.nl]],true⟩),(901,⟨51,2,(m.ts.take i).map bQ,false⟩)]⟩) (fun i=>i≤m.ts.length) (fun i=>m.ts.length - i) 0 (cC _) ((Wk.new0 _ 901 2 51 (.inl (by decide))).trans ((Wk.nlm _ 3 (r:=[.nl,.nl,.nl,.nl,.nl,.nl,.nl,.bool m.hs,.int .i64 m.st,.nl,.nl,.nl]) rfl (r':=[.ms 901 2 0 0,.nl,.nl,.nl,.nl,.nl,.nl,.bool m.hs,.int .i64 m.st,.nl,.nl,.nl]) ⟨.inr ⟨rfl,.inr ⟨_,_,rfl⟩⟩,.inl rfl,.inl rfl,.inl rfl,.inl rfl,.inl rfl,.inl rfl,.inl rfl,.inl rfl,.inl rfl,.inl rfl,.inl rfl,trivial⟩).trans (Wk.of ?_ ?_))) ?_
 ·simp only [go_sem];try simp [go_sem]
 ·simp only [go_sem,bE];try simp [go_sem,au]
 intro i hi
 have hil:(m.ts.take i).length=i:=by simp;omega
 by_cases h1:(i:Int)<(m.ts.length:Int)
 ·have hi':i<m.ts.length:=by omega
  have hlb:=h.ts.1
  have e8:=wi (n:=(i:Int)+1) (by omega) (by omega)
  have hxx:=aO h.ts.2 hi'
  have tn:=aU hi'
  have happ:=fun ys=>aA 901 51 2 i bQ (m.ts.take i) ys hil
  have a36:=fun ys=>aG 36 53 1 ys
  have a40:=fun ys=>aG 40 53 1 ys
  obtain ⟨x1,x2⟩:=hxx
  simp only [go_sem,aI h1,bq,a36,a40]
  refine ⟨by omega,h1,by omega,by omega,?_⟩
  refine ba _ ((Wk.frzs [36,40] _).trans (Wk.unr _ 45 (by rfl) (by simp only [go_sem,fq,aB,ap]))) ?_
  simp only [go_sem,aB,ap,happ]
  refine ⟨by omega,aC (i+1) (show i+1≤m.ts.length by omega) (show m.ts.length - (i+1)<m.ts.length - i by omega) (Wk.of ?_ ?_)⟩
  ·simp only [go_sem,e8];try simp
  ·simp only [go_sem,tn,List.map_append];try simp [bq]
 obtain rfl:i=m.ts.length:=by omega
 simp only [go_sem,az h1,bJ,a48]
 clear h1 hi hil
 refine ⟨by have:=h.ims;omega,?_⟩
 refine an (fun i:Nat=>⟨[(6,.int .i64 i),(3,.mp 3 12 0 0),(2,.mp 2 12 0 0),(1,.mp 1 12 0 0)],[(1,⟨33,12,[dQ m],true⟩),(2,⟨33,12,[[.nl,.nl,.nl,.nl,.nl,.nl,.nl,.bool false,.int .i64 0,.nl,.nl,.nl]],true⟩),(3,⟨33,12,[[.ms 901 2 0 m.ts.length,.ms 48 13 0 m.ims.length,.ms 902 3 0 i,.nl,.nl,.nl,.nl,.bool m.hs,.int .i64 m.st,.nl,.nl,.nl]],true⟩),(901,⟨51,2,m.ts.map bQ,false⟩),(48,⟨61,13,m.ims.map cW,false⟩),(902,⟨64,3,au bF eO k (m.fs.take i),decide (k<i)⟩),(911,⟨53,1,if k<i then (ac m.fs k).lo.map dF else [],false⟩)]⟩) (fun i=>i≤m.fs.length) (fun i=>m.fs.length - i) 0 (cC _) ((Wk.new0 _ 911 1 53 (.inl (by decide))).trans ((Wk.new0 _ 902 3 64 (.inl (by decide))).trans ((Wk.nlm _ 3 (r:=[.ms 901 2 0 m.ts.length,.ms 48 13 0 m.ims.length,.nl,.nl,.nl,.nl,.nl,.bool m.hs,.int .i64 m.st,.nl,.nl,.nl]) rfl (r':=[.ms 901 2 0 m.ts.length,.ms 48 13 0 m.ims.length,.ms 902 3 0 0,.nl,.nl,.nl,.nl,.bool m.hs,.int .i64 m.st,.nl,.nl,.nl]) ⟨.inl rfl,.inl rfl,.inr ⟨rfl,.inr ⟨_,_,rfl⟩⟩,.inl rfl,.inl rfl,.inl rfl,.inl rfl,.inl rfl,.inl rfl,.inl rfl,.inl rfl,.inl rfl,trivial⟩).trans (Wk.of ?_ ?_)))) ?_
 ·simp only [go_sem];try simp [go_sem]
 ·simp only [go_sem,bE];try simp [go_sem,au]
 intro i hi
 have hil:(m.fs.take i).length=i:=by simp;omega
 by_cases h1:(i:Int)<(m.fs.length:Int)
 ·have hi':i<m.fs.length:=by omega
  have hlb:=h.fs.1
  have e8:=wi (n:=(i:Int)+1) (by omega) (by omega)
  have hxx:=aO h.fs.2 hi'
  have tn:=aU hi'
  have hRl:(au bF eO k (m.fs.take i)).length=i:=by rw [gT,hil]
  have hsu:=f_ (c:=bF) (c':=eO) (k:=k) hi'
  have happ:=fun ys=>fP 902 64 3 i (au bF eO k (m.fs.take i)) ys hRl
  have happR:=fun ys q=>fT 902 64 3 i (au bF eO k (m.fs.take i)) ys q hRl
  have hRp:∀j,¬j=911→(au bF eO k (m.fs.take i)).map (fun r=>r.map (bW j))=au bF eO k (m.fs.take i):=fun j hj=>bG (fun x=>by simp [bF,bW,mC,mP]) (fun x=>by simp [eO,bW,mC,mP,Ne.symm hj])
  have hRf:∀j o,¬j=911→(au bF eO k (m.fs.take i)).map (fun r=>r.map (ci j o))=au bF eO k (m.fs.take i):=fun j o hj=>bG (fun x=>by simp [bF,ci,cT]) (fun x=>by simp [eO,ci,cT,Ne.symm hj])
  have hRn:i3 902 (au bF eO k (m.fs.take i))=true:=gS (fun x=>by simp [bF,mC,mP]) (fun x=>by simp [eO,mC,mP])
  generalize hR:au bF eO k (m.fs.take i)=R at *
  rcases Nat.lt_trichotomy i k with hk | hk | hk
  ·have d1:decide (k<i)=false:=az (by omega)
   have d2:decide (k<i+1)=false:=az (by omega)
   have f1:¬k<i:=by omega
   have f2:¬k<i+1:=by omega
   rw [aV (show ¬i=k by omega)] at hsu
   have a69:=fun ys=>aG 69 53 1 ys
   obtain ⟨x1,x2⟩:=hxx
   simp only [go_sem,aI h1,bj,a69,d1,hRp]
   refine ⟨by omega,h1,by omega,?_⟩
   refine ar (bX (ac m.fs i).b x2) (by simp [go_sem]) rfl ?_
   simp only [go_sem,hRp]
   refine ba _ ((Wk.frzs [69] _).trans (Wk.unr _ 77 (by rfl) (by simp only [go_sem,fq,aB,ap]))) ?_
   simp only [go_sem,aB,ap,happ,happR,hRn,hRp]
   refine ⟨by omega,aC (i+1) (show i+1≤m.fs.length by omega) (show m.fs.length - (i+1)<m.fs.length - i by omega) (Wk.of ?_ ?_)⟩
   ·simp only [go_sem,e8];try simp
   ·simp only [go_sem,hsu,d2];try simp [bj,f1,f2]
  ·subst hk
   have d1:decide (i<i)=false:=az (by omega)
   have d2:decide (i<i+1)=true:=aI (by omega)
   have f1:¬i<i:=by omega
   have f2:i<i+1:=by omega
   rw [bz rfl] at hsu
   have a69:=fun ys=>aG 69 53 1 ys
   obtain ⟨x1,x2⟩:=hxx
   simp only [go_sem,aI h1,bj,a69,d1,hRp]
   refine ⟨by omega,h1,by omega,?_⟩
   refine ar (bX (ac m.fs i).b x2) (by simp [go_sem]) rfl ?_
   simp only [go_sem,hRp]
   refine ba _ (Wk.refl _) ?_
   simp only [go_sem,aB,ap,happ,happR,hRn,hRp]
   have hRr:R.map (fun r=>r.map (eD (fw [(69,911)])))=R:=by
    rw [← hR]
    rw [f9 (by simp;omega),List.map_map]
    exact List.map_congr_left fun x _=>by simp [bF,eD,jt]
   refine ⟨by omega,aC (i+1) (show i+1≤m.fs.length by omega) (show m.fs.length - (i+1)<m.fs.length - i by omega) ((Wk.of (s':=⟨[(6,.int .i64 ((i+1:Nat):Int)),(3,.mp 3 12 0 0),(2,.mp 2 12 0 0),(1,.mp 1 12 0 0)],[(1,⟨33,12,[dQ m],true⟩),(2,⟨33,12,[[.nl,.nl,.nl,.nl,.nl,.nl,.nl,.bool false,.int .i64 0,.nl,.nl,.nl]],true⟩),(3,⟨33,12,[[.ms 901 2 0 m.ts.length,.ms 48 13 0 m.ims.length,.ms 902 3 0 (i+1),.nl,.nl,.nl,.nl,.bool m.hs,.int .i64 m.st,.nl,.nl,.nl]],true⟩),(901,⟨51,2,m.ts.map bQ,false⟩),(48,⟨61,13,m.ims.map cW,false⟩),(902,⟨64,3,R++[[.int .i64 (ac m.fs i).t,.ms 69 1 0 (ac m.fs i).lo.length,.sl 9 ((ac m.fs i).b.map aW)]],true⟩),(69,⟨53,1,(ac m.fs i).lo.map dF,false⟩)]⟩) ?_ ?_).trans ((Wk.ren _ [(69,911)] (fun id h1 h2=>by show jb 69 911 id=id;unfold jb;rw [aV (by omega),aV (by omega)])).trans (Wk.of ?_ ?_)))⟩
   ·simp only [go_sem,e8];try simp
   ·simp only [go_sem];try simp
   ·simp only [go_sem];try simp
   ·simp only [go_sem,hsu,d2,hRr];try simp [eO,f2,hRr,jm,jl,gP,gQ,vY]
  ·have d1:decide (k<i)=true:=aI (by omega)
   have d2:decide (k<i+1)=true:=aI (by omega)
   have f1:k<i:=by omega
   have f2:k<i+1:=by omega
   rw [aV (show ¬i=k by omega)] at hsu
   have hRi:R.flatMap (fun r=>r.flatMap bU)=[911]:=by
    rw [← hR]
    exact dq (fun x=>by simp [bF,bU,cG]) (fun x=>by simp [eO,bU,cG]) (by simp;omega)
   have a69:=fun ys=>aG 69 53 1 ys
   obtain ⟨x1,x2⟩:=hxx
   simp only [go_sem,aI h1,bj,a69,d1,hRi,hRf,hRp]
   refine ⟨by omega,h1,by omega,?_⟩
   refine ar (bX (ac m.fs i).b x2) (by simp [go_sem]) rfl ?_
   simp only [go_sem,hRi,hRf,hRp]
   refine ba _ ((Wk.frzs [69] _).trans (Wk.unr _ 77 (by rfl) (by simp only [go_sem,fq,aB,ap]))) ?_
   simp only [go_sem,aB,ap,happ,happR,hRn,hRi,hRf,hRp]
   refine ⟨by omega,aC (i+1) (show i+1≤m.fs.length by omega) (show m.fs.length - (i+1)<m.fs.length - i by omega) (Wk.of ?_ ?_)⟩
   ·simp only [go_sem,e8];try simp
   ·simp only [go_sem,hsu,d2];try simp [bj,f1,f2]
 obtain rfl:i=m.fs.length:=by omega
 rw [bJ]
 have hRp:∀j,¬j=911→(au bF eO k m.fs).map (fun r=>r.map (bW j))=au bF eO k m.fs:=fun j hj=>bG (fun x=>by simp [bF,bW,mC,mP]) (fun x=>by simp [eO,bW,mC,mP,Ne.symm hj])
 have hRi:(au bF eO k m.fs).flatMap (fun r=>r.flatMap bU)=[911]:=dq (fun x=>by simp [bF,bU,cG]) (fun x=>by simp [eO,bU,cG]) hk
 have hRf:∀j o,¬j=911→(au bF eO k m.fs).map (fun r=>r.map (ci j o))=au bF eO k m.fs:=fun j o hj=>bG (fun x=>by simp [bF,ci,cT]) (fun x=>by simp [eO,ci,cT,Ne.symm hj])
 have dk:decide (k<m.fs.length)=true:=aI hk
 obtain ⟨R,hR⟩:∃R,au bF eO k m.fs=R:=⟨_,rfl⟩
 rw [hR] at hRp hRi hRf
 simp only [go_sem,az h1,dk,hR,bz hk,hRp,hRi,hRf,a80,a85]
 clear h1 hi hil
 refine ⟨by have:=h.tbs;omega,by have:=h.ms;omega,?_⟩
 refine an (fun i:Nat=>⟨[(8,.int .i64 i),(3,.mp 3 12 0 0),(2,.mp 2 12 0 0),(1,.mp 1 12 0 0)],[(1,⟨33,12,[dQ m],true⟩),(2,⟨33,12,[[.nl,.nl,.nl,.nl,.nl,.nl,.nl,.bool false,.int .i64 0,.nl,.nl,.nl]],true⟩),(3,⟨33,12,[[.ms 901 2 0 m.ts.length,.ms 48 13 0 m.ims.length,.ms 902 3 0 m.fs.length,.ms 80 4 0 m.tbs.length,.ms 85 3 0 m.ms.length,.ms 903 3 0 i,.nl,.bool m.hs,.int .i64 m.st,.nl,.nl,.nl]],true⟩),(901,⟨51,2,m.ts.map bQ,false⟩),(48,⟨61,13,m.ims.map cW,false⟩),(902,⟨64,3,R,true⟩),(911,⟨53,1,(ac m.fs k).lo.map dF,false⟩),(80,⟨57,4,m.tbs.map dG,false⟩),(85,⟨55,3,m.ms.map dA,false⟩),(903,⟨66,3,(m.gs.take i).map df,false⟩)]⟩) (fun i=>i≤m.gs.length) (fun i=>m.gs.length - i) 0 (cC _) ((Wk.new0 _ 903 3 66 (.inl (by decide))).trans ((Wk.nlm _ 3 (r:=[.ms 901 2 0 m.ts.length,.ms 48 13 0 m.ims.length,.ms 902 3 0 m.fs.length,.ms 80 4 0 m.tbs.length,.ms 85 3 0 m.ms.length,.nl,.nl,.bool m.hs,.int .i64 m.st,.nl,.nl,.nl]) rfl (r':=[.ms 901 2 0 m.ts.length,.ms 48 13 0 m.ims.length,.ms 902 3 0 m.fs.length,.ms 80 4 0 m.tbs.length,.ms 85 3 0 m.ms.length,.ms 903 3 0 0,.nl,.bool m.hs,.int .i64 m.st,.nl,.nl,.nl]) ⟨.inl rfl,.inl rfl,.inl rfl,.inl rfl,.inl rfl,.inr ⟨rfl,.inr ⟨_,_,rfl⟩⟩,.inl rfl,.inl rfl,.inl rfl,.inl rfl,.inl rfl,.inl rfl,trivial⟩).trans (Wk.of ?_ ?_))) ?_
 ·simp only [go_sem];try simp [go_sem]
 ·simp only [go_sem,bE,hRp,hRi,hRf];try simp [go_sem,au,hRp,hRi,hRf]
 intro i hi
 have hil:(m.gs.take i).length=i:=by simp;omega
 by_cases h1:(i:Int)<(m.gs.length:Int)
 ·have hi':i<m.gs.length:=by omega
  have hlb:=h.gs.1
  have e8:=wi (n:=(i:Int)+1) (by omega) (by omega)
  have hxx:=aO h.gs.2 hi'
  have tn:=aU hi'
  have happ:=fun ys=>aA 903 66 3 i df (m.gs.take i) ys hil
  simp only [go_sem,aI h1,bK,hRp,hRi,hRf]
  refine ⟨by omega,h1,by omega,h1,?_⟩
  refine ar (bX (ac m.gs i).i hxx) (by simp [go_sem]) rfl ?_
  simp only [go_sem,hRp,hRi,hRf]
  refine ba _ (Wk.refl _) ?_
  simp only [go_sem,aB,ap,happ,hRp,hRi,hRf]
  refine ⟨by omega,aC (i+1) (show i+1≤m.gs.length by omega) (show m.gs.length - (i+1)<m.gs.length - i by omega) (Wk.of ?_ ?_)⟩
  ·simp only [go_sem,e8];try simp
  ·simp only [go_sem,tn,List.map_append];try simp [bK]
 obtain rfl:i=m.gs.length:=by omega
 simp only [go_sem,az h1,bJ,hRp,hRi,hRf,a116]
 clear h1 hi hil
 refine ⟨by have:=h.exs;omega,?_⟩
 refine an (fun i:Nat=>⟨[(9,.int .i64 i),(3,.mp 3 12 0 0),(2,.mp 2 12 0 0),(1,.mp 1 12 0 0)],[(1,⟨33,12,[dQ m],true⟩),(2,⟨33,12,[[.nl,.nl,.nl,.nl,.nl,.nl,.nl,.bool false,.int .i64 0,.nl,.nl,.nl]],true⟩),(3,⟨33,12,[[.ms 901 2 0 m.ts.length,.ms 48 13 0 m.ims.length,.ms 902 3 0 m.fs.length,.ms 80 4 0 m.tbs.length,.ms 85 3 0 m.ms.length,.ms 903 3 0 m.gs.length,.ms 116 3 0 m.exs.length,.bool m.hs,.int .i64 m.st,.ms 904 5 0 i,.nl,.nl]],true⟩),(901,⟨51,2,m.ts.map bQ,false⟩),(48,⟨61,13,m.ims.map cW,false⟩),(902,⟨64,3,R,true⟩),(911,⟨53,1,(ac m.fs k).lo.map dF,false⟩),(80,⟨57,4,m.tbs.map dG,false⟩),(85,⟨55,3,m.ms.map dA,false⟩),(903,⟨66,3,m.gs.map df,false⟩),(116,⟨68,3,m.exs.map dU,false⟩),(904,⟨70,5,(m.els.take i).map cb,false⟩)]⟩) (fun i=>i≤m.els.length) (fun i=>m.els.length - i) 0 (cC _) ((Wk.new0 _ 904 5 70 (.inl (by decide))).trans ((Wk.nlm _ 3 (r:=[.ms 901 2 0 m.ts.length,.ms 48 13 0 m.ims.length,.ms 902 3 0 m.fs.length,.ms 80 4 0 m.tbs.length,.ms 85 3 0 m.ms.length,.ms 903 3 0 m.gs.length,.ms 116 3 0 m.exs.length,.bool m.hs,.int .i64 m.st,.nl,.nl,.nl]) rfl (r':=[.ms 901 2 0 m.ts.length,.ms 48 13 0 m.ims.length,.ms 902 3 0 m.fs.length,.ms 80 4 0 m.tbs.length,.ms 85 3 0 m.ms.length,.ms 903 3 0 m.gs.length,.ms 116 3 0 m.exs.length,.bool m.hs,.int .i64 m.st,.ms 904 5 0 0,.nl,.nl]) ⟨.inl rfl,.inl rfl,.inl rfl,.inl rfl,.inl rfl,.inl rfl,.inl rfl,.inl rfl,.inl rfl,.inr ⟨rfl,.inr ⟨_,_,rfl⟩⟩,.inl rfl,.inl rfl,trivial⟩).trans (Wk.of ?_ ?_))) ?_
 ·simp only [go_sem];try simp [go_sem]
 ·simp only [go_sem,bE,hRp,hRi,hRf];try simp [go_sem,au,hRp,hRi,hRf]
 intro i hi
 have hil:(m.els.take i).length=i:=by simp;omega
 by_cases h1:(i:Int)<(m.els.length:Int)
 ·have hi':i<m.els.length:=by omega
  have hlb:=h.els.1
  have e8:=wi (n:=(i:Int)+1) (by omega) (by omega)
  have hxx:=aO h.els.2 hi'
  have tn:=aU hi'
  have happ:=fun ys=>aA 904 70 5 i cb (m.els.take i) ys hil
  obtain ⟨x1,x2,x3⟩:=hxx
  simp only [go_sem,aI h1,aQ,hRp,hRi,hRf]
  refine ⟨by omega,h1,?_⟩
  refine an (fun j:Nat=>⟨[(12,.int .i64 j),(11,.ms 907 1 0 j),(10,.mp 10 5 0 0),(9,.int .i64 i),(3,.mp 3 12 0 0),(2,.mp 2 12 0 0),(1,.mp 1 12 0 0)],[(1,⟨33,12,[dQ m],true⟩),(2,⟨33,12,[[.nl,.nl,.nl,.nl,.nl,.nl,.nl,.bool false,.int .i64 0,.nl,.nl,.nl]],true⟩),(3,⟨33,12,[[.ms 901 2 0 m.ts.length,.ms 48 13 0 m.ims.length,.ms 902 3 0 m.fs.length,.ms 80 4 0 m.tbs.length,.ms 85 3 0 m.ms.length,.ms 903 3 0 m.gs.length,.ms 116 3 0 m.exs.length,.bool m.hs,.int .i64 m.st,.ms 904 5 0 i,.nl,.nl]],true⟩),(901,⟨51,2,m.ts.map bQ,false⟩),(48,⟨61,13,m.ims.map cW,false⟩),(902,⟨64,3,R,true⟩),(911,⟨53,1,(ac m.fs k).lo.map dF,false⟩),(80,⟨57,4,m.tbs.map dG,false⟩),(85,⟨55,3,m.ms.map dA,false⟩),(903,⟨66,3,m.gs.map df,false⟩),(116,⟨68,3,m.exs.map dU,false⟩),(904,⟨70,5,(m.els.take i).map cb,false⟩),(10,⟨70,5,[cb (ac m.els i)],true⟩),(907,⟨62,1,((ac m.els i).it.take j).map bY,false⟩)]⟩) (fun j=>j≤(ac m.els i).it.length) (fun j=>(ac m.els i).it.length - j) 0 (cC _) ((Wk.nil _ 11 907 1 62 (by simp only [go_sem]) (.inl (by decide))).trans (Wk.of ?_ ?_)) ?_
  ·simp only [go_sem,St.mknil];try simp [go_sem]
  ·simp only [go_sem,St.mknil,bE,hRp,hRi,hRf];try simp [go_sem,aQ]
  intro j hj
  have hjl:((ac m.els i).it.take j).length=j:=by simp;omega
  by_cases g1:(j:Int)<((ac m.els i).it.length:Int)
  ·have hj':j<(ac m.els i).it.length:=by omega
   have e9:=wi (n:=(j:Int)+1) (by omega) (by omega)
   have hap2:=fun ys=>aA 907 62 1 j bY ((ac m.els i).it.take j) ys hjl
   have tn2:=aU hj'
   simp only [go_sem,aI g1,aQ,bn,hRp,hRi,hRf]
   refine ⟨by omega,g1,?_⟩
   refine aa (bX (ac (ac m.els i).it j) (aO x3 hj')) ?_
   simp only [go_sem,hap2,hRp,hRi,hRf]
   refine ⟨by omega,aC (j+1) (show j+1≤(ac m.els i).it.length by omega) (show (ac m.els i).it.length - (j+1)<(ac m.els i).it.length - j by omega) (Wk.of ?_ ?_)⟩
   ·simp only [go_sem,e9];try simp
   ·simp only [go_sem,tn2,List.map_append,hRp,hRi,hRf];try simp [bn,aQ]
  obtain rfl:j=(ac m.els i).it.length:=by omega
  simp only [go_sem,az g1,aQ,bJ,hRp,hRi,hRf]
  refine ar (bX (ac m.els i).o x1) (by simp [go_sem]) rfl ?_
  simp only [go_sem,hRp,hRi,hRf]
  refine ba _ ((Wk.frzs [907] _).trans (Wk.unr _ 162 (by rfl) (by simp only [go_sem,fq,aB,ap]))) ?_
  simp only [go_sem,aB,ap,happ,hRp,hRi,hRf]
  refine ⟨by omega,aC (i+1) (show i+1≤m.els.length by omega) (show m.els.length - (i+1)<m.els.length - i by omega) (Wk.of ?_ ?_)⟩
  ·simp only [go_sem,e8];try simp
  ·simp only [go_sem,tn,List.map_append];try simp [aQ]
 obtain rfl:i=m.els.length:=by omega
 simp only [go_sem,az h1,bJ,hRp,hRi,hRf]
 clear h1 hi hil
 refine an (fun i:Nat=>⟨[(13,.int .i64 i),(3,.mp 3 12 0 0),(2,.mp 2 12 0 0),(1,.mp 1 12 0 0)],[(1,⟨33,12,[dQ m],true⟩),(2,⟨33,12,[[.nl,.nl,.nl,.nl,.nl,.nl,.nl,.bool false,.int .i64 0,.nl,.nl,.nl]],true⟩),(3,⟨33,12,[[.ms 901 2 0 m.ts.length,.ms 48 13 0 m.ims.length,.ms 902 3 0 m.fs.length,.ms 80 4 0 m.tbs.length,.ms 85 3 0 m.ms.length,.ms 903 3 0 m.gs.length,.ms 116 3 0 m.exs.length,.bool m.hs,.int .i64 m.st,.ms 904 5 0 m.els.length,.ms 905 4 0 i,.nl]],true⟩),(901,⟨51,2,m.ts.map bQ,false⟩),(48,⟨61,13,m.ims.map cW,false⟩),(902,⟨64,3,R,true⟩),(911,⟨53,1,(ac m.fs k).lo.map dF,false⟩),(80,⟨57,4,m.tbs.map dG,false⟩),(85,⟨55,3,m.ms.map dA,false⟩),(903,⟨66,3,m.gs.map df,false⟩),(116,⟨68,3,m.exs.map dU,false⟩),(904,⟨70,5,m.els.map cb,false⟩),(905,⟨73,4,(m.ds.take i).map cM,false⟩)]⟩) (fun i=>i≤m.ds.length) (fun i=>m.ds.length - i) 0 (cC _) ((Wk.new0 _ 905 4 73 (.inl (by decide))).trans ((Wk.nlm _ 3 (r:=[.ms 901 2 0 m.ts.length,.ms 48 13 0 m.ims.length,.ms 902 3 0 m.fs.length,.ms 80 4 0 m.tbs.length,.ms 85 3 0 m.ms.length,.ms 903 3 0 m.gs.length,.ms 116 3 0 m.exs.length,.bool m.hs,.int .i64 m.st,.ms 904 5 0 m.els.length,.nl,.nl]) rfl (r':=[.ms 901 2 0 m.ts.length,.ms 48 13 0 m.ims.length,.ms 902 3 0 m.fs.length,.ms 80 4 0 m.tbs.length,.ms 85 3 0 m.ms.length,.ms 903 3 0 m.gs.length,.ms 116 3 0 m.exs.length,.bool m.hs,.int .i64 m.st,.ms 904 5 0 m.els.length,.ms 905 4 0 0,.nl]) ⟨.inl rfl,.inl rfl,.inl rfl,.inl rfl,.inl rfl,.inl rfl,.inl rfl,.inl rfl,.inl rfl,.inl rfl,.inr ⟨rfl,.inr ⟨_,_,rfl⟩⟩,.inl rfl,trivial⟩).trans (Wk.of ?_ ?_))) ?_
 ·simp only [go_sem];try simp [go_sem]
 ·simp only [go_sem,bE,hRp,hRi,hRf];try simp [go_sem,au,hRp,hRi,hRf]
 intro i hi
 have hil:(m.ds.take i).length=i:=by simp;omega
 by_cases h1:(i:Int)<(m.ds.length:Int)
 ·have hi':i<m.ds.length:=by omega
  have hlb:=h.ds.1
  have e8:=wi (n:=(i:Int)+1) (by omega) (by omega)
  have hxx:=aO h.ds.2 hi'
  have tn:=aU hi'
  have happ:=fun ys=>aA 905 73 4 i cM (m.ds.take i) ys hil
  have a186:=fun ys=>aG 186 5 1 ys
  obtain ⟨x1,x2⟩:=hxx
  simp only [go_sem,aI h1,bB,hRp,hRi,hRf]
  refine ⟨by omega,h1,?_⟩
  refine ar (bX (ac m.ds i).o x1) (by simp [go_sem]) rfl ?_
  simp only [go_sem,a186,hRp,hRi,hRf]
  refine ⟨by omega,?_⟩
  refine ba _ ((Wk.frzs [186] _).trans (Wk.unr _ 191 (by rfl) (by simp only [go_sem,fq,aB,ap]))) ?_
  simp only [go_sem,aB,ap,happ,hRp,hRi,hRf]
  refine ⟨by omega,aC (i+1) (show i+1≤m.ds.length by omega) (show m.ds.length - (i+1)<m.ds.length - i by omega) (Wk.of ?_ ?_)⟩
  ·simp only [go_sem,e8];try simp
  ·simp only [go_sem,tn,List.map_append];try simp [bB]
 obtain rfl:i=m.ds.length:=by omega
 simp only [go_sem,az h1,bJ,hRp,hRi,hRf]
 clear h1 hi hil
 refine an (fun i:Nat=>⟨[(15,.int .i64 i),(3,.mp 3 12 0 0),(2,.mp 2 12 0 0),(1,.mp 1 12 0 0)],[(1,⟨33,12,[dQ m],true⟩),(2,⟨33,12,[[.nl,.nl,.nl,.nl,.nl,.nl,.nl,.bool false,.int .i64 0,.nl,.nl,.nl]],true⟩),(3,⟨33,12,[[.ms 901 2 0 m.ts.length,.ms 48 13 0 m.ims.length,.ms 902 3 0 m.fs.length,.ms 80 4 0 m.tbs.length,.ms 85 3 0 m.ms.length,.ms 903 3 0 m.gs.length,.ms 116 3 0 m.exs.length,.bool m.hs,.int .i64 m.st,.ms 904 5 0 m.els.length,.ms 905 4 0 m.ds.length,.ms 906 3 0 i]],true⟩),(901,⟨51,2,m.ts.map bQ,false⟩),(48,⟨61,13,m.ims.map cW,false⟩),(902,⟨64,3,R,true⟩),(911,⟨53,1,(ac m.fs k).lo.map dF,false⟩),(80,⟨57,4,m.tbs.map dG,false⟩),(85,⟨55,3,m.ms.map dA,false⟩),(903,⟨66,3,m.gs.map df,false⟩),(116,⟨68,3,m.exs.map dU,false⟩),(904,⟨70,5,m.els.map cb,false⟩),(905,⟨73,4,m.ds.map cM,false⟩),(906,⟨75,3,(m.cs.take i).map eW,false⟩)]⟩) (fun i=>i≤m.cs.length) (fun i=>m.cs.length - i) 0 (cC _) ((Wk.new0 _ 906 3 75 (.inl (by decide))).trans ((Wk.nlm _ 3 (r:=[.ms 901 2 0 m.ts.length,.ms 48 13 0 m.ims.length,.ms 902 3 0 m.fs.length,.ms 80 4 0 m.tbs.length,.ms 85 3 0 m.ms.length,.ms 903 3 0 m.gs.length,.ms 116 3 0 m.exs.length,.bool m.hs,.int .i64 m.st,.ms 904 5 0 m.els.length,.ms 905 4 0 m.ds.length,.nl]) rfl (r':=[.ms 901 2 0 m.ts.length,.ms 48 13 0 m.ims.length,.ms 902 3 0 m.fs.length,.ms 80 4 0 m.tbs.length,.ms 85 3 0 m.ms.length,.ms 903 3 0 m.gs.length,.ms 116 3 0 m.exs.length,.bool m.hs,.int .i64 m.st,.ms 904 5 0 m.els.length,.ms 905 4 0 m.ds.length,.ms 906 3 0 0]) ⟨.inl rfl,.inl rfl,.inl rfl,.inl rfl,.inl rfl,.inl rfl,.inl rfl,.inl rfl,.inl rfl,.inl rfl,.inl rfl,.inr ⟨rfl,.inr ⟨_,_,rfl⟩⟩,trivial⟩).trans (Wk.of ?_ ?_))) ?_
 ·simp only [go_sem];try simp [go_sem]
 ·simp only [go_sem,bE,hRp,hRi,hRf];try simp [go_sem,au,hRp,hRi,hRf]
 intro i hi
 have hil:(m.cs.take i).length=i:=by simp;omega
 by_cases h1:(i:Int)<(m.cs.length:Int)
 ·have hi':i<m.cs.length:=by omega
  have hlb:=h.cs.1
  have e8:=wi (n:=(i:Int)+1) (by omega) (by omega)
  have hxx:=aO h.cs.2 hi'
  have tn:=aU hi'
  have happ:=fun ys=>aA 906 75 3 i eW (m.cs.take i) ys hil
  have a212:=fun ys=>aG 212 5 1 ys
  simp only [go_sem,aI h1,bv,a212,hRp,hRi,hRf]
  refine ⟨by omega,h1,by have:_≤1048576:=hxx;omega,?_⟩
  refine ba _ ((Wk.frzs [212] _).trans (Wk.unr _ 217 (by rfl) (by simp only [go_sem,fq,aB,ap]))) ?_
  simp only [go_sem,aB,ap,happ,hRp,hRi,hRf]
  refine ⟨by omega,aC (i+1) (show i+1≤m.cs.length by omega) (show m.cs.length - (i+1)<m.cs.length - i by omega) (Wk.of ?_ ?_)⟩
  ·simp only [go_sem,e8];try simp
  ·simp only [go_sem,tn,List.map_append];try simp [bv]
 obtain rfl:i=m.cs.length:=by omega
 simp only [go_sem,az h1,bJ,hRp,hRi,hRf]
 clear h1 hi hil
 exact done [] (.agg [.ms 901 2 0 m.ts.length,.ms 48 13 0 m.ims.length,.ms 902 3 0 m.fs.length,.ms 80 4 0 m.tbs.length,.ms 85 3 0 m.ms.length,.ms 903 3 0 m.gs.length,.ms 116 3 0 m.exs.length,.bool m.hs,.int .i64 m.st,.ms 904 5 0 m.els.length,.ms 905 4 0 m.ds.length,.ms 906 3 0 m.cs.length]) [(901,⟨51,2,m.ts.map bQ,false⟩),(48,⟨61,13,m.ims.map cW,false⟩),(902,⟨64,3,R,true⟩),(911,⟨53,1,(ac m.fs k).lo.map dF,false⟩),(80,⟨57,4,m.tbs.map dG,false⟩),(85,⟨55,3,m.ms.map dA,false⟩),(903,⟨66,3,m.gs.map df,false⟩),(116,⟨68,3,m.exs.map dU,false⟩),(904,⟨70,5,m.els.map cb,false⟩),(905,⟨73,4,m.ds.map cM,false⟩),(906,⟨75,3,m.cs.map eW,false⟩)] (by rfl) ⟨rfl,rfl,rfl,rfl,rfl,rfl,rfl,rfl,rfl,rfl,rfl,trivial⟩ (by simp [vA,cU,hRi,go_sem]) ⟨rfl,by rw [← hR]⟩
theorem Fc (m:Md) (h:mH m) (k:Nat) (hk:k<m.fs.length):br Tryz.prog ph [cE m] [] sb (fun r' σ'=>r' = .agg [.ms 901 2 0 m.ts.length,.ms 48 13 0 m.ims.length,.ms 902 3 0 m.fs.length,.ms 80 4 0 m.tbs.length,.ms 85 3 0 m.ms.length,.ms 903 3 0 m.gs.length,.ms 116 3 0 m.exs.length,.bool m.hs,.int .i64 m.st,.ms 904 5 0 m.els.length,.ms 905 4 0 m.ds.length,.ms 906 3 0 m.cs.length]∧σ'=[(901,⟨51,2,m.ts.map bQ,false⟩),(48,⟨61,13,m.ims.map cW,false⟩),(902,⟨64,3,au bF eN k m.fs,true⟩),(911,⟨83,9,(ac m.fs k).b.map aW,false⟩),(80,⟨57,4,m.tbs.map dG,false⟩),(85,⟨55,3,m.ms.map dA,false⟩),(903,⟨66,3,m.gs.map df,false⟩),(116,⟨68,3,m.exs.map dU,false⟩),(904,⟨70,5,m.els.map cb,false⟩),(905,⟨73,4,m.ds.map cM,false⟩),(906,⟨75,3,m.cs.map eW,false⟩)]):=by
 refine c_ (ic:=ey [34,65,97,149,177,206] gH.body) aq oR rfl rfl ?_
 have a48:=fun ys=>aG 48 61 13 ys
 have a80:=fun ys=>aG 80 57 4 ys
 have a85:=fun ys=>aG 85 55 3 ys
 have a116:=fun ys=>aG 116 68 3 ys
 simp only [go_sem,gH,cE]
 refine an (fun i:Nat=>⟨[(4,.int .i64 i),(3,.mp 3 12 0 0),(2,.mp 2 12 0 0),(1,.mp 1 12 0 0)],[(1,⟨33,12,[dQ m],true⟩),(2,⟨33,12,[[.nl,.nl,.nl,.nl,.nl,.nl,.nl,.bool false,.int .i64 0,.nl,.nl,.nl]],true⟩),(3,⟨33,12,[[.ms 901 2 0 i,.nl,.nl,.nl,.nl,.nl,.nl,.bool m.hs,.int .i64 m.st,.nl,.nl,.nl]],true⟩),(901,⟨51,2,(m.ts.take i).map bQ,false⟩)]⟩) (fun i=>i≤m.ts.length) (fun i=>m.ts.length - i) 0 (cC _) ((Wk.new0 _ 901 2 51 (.inl (by decide))).trans ((Wk.nlm _ 3 (r:=[.nl,.nl,.nl,.nl,.nl,.nl,.nl,.bool m.hs,.int .i64 m.st,.nl,.nl,.nl]) rfl (r':=[.ms 901 2 0 0,.nl,.nl,.nl,.nl,.nl,.nl,.bool m.hs,.int .i64 m.st,.nl,.nl,.nl]) ⟨.inr ⟨rfl,.inr ⟨_,_,rfl⟩⟩,.inl rfl,.inl rfl,.inl rfl,.inl rfl,.inl rfl,.inl rfl,.inl rfl,.inl rfl,.inl rfl,.inl rfl,.inl rfl,trivial⟩).trans (Wk.of ?_ ?_))) ?_
 ·simp only [go_sem];try simp [go_sem]
 ·simp only [go_sem,bE];try simp [go_sem,au]
 intro i hi
 have hil:(m.ts.take i).length=i:=by simp;omega
 by_cases h1:(i:Int)<(m.ts.length:Int)
 ·have hi':i<m.ts.length:=by omega
  have hlb:=h.ts.1
  have e8:=wi (n:=(i:Int)+1) (by omega) (by omega)
  have hxx:=aO h.ts.2 hi'
  have tn:=aU hi'
  have happ:=fun ys=>aA 901 51 2 i bQ (m.ts.take i) ys hil
  have a36:=fun ys=>aG 36 53 1 ys
  have a40:=fun ys=>aG 40 53 1 ys
  obtain ⟨x1,x2⟩:=hxx
  simp only [go_sem,aI h1,bq,a36,a40]
  refine ⟨by omega,h1,by omega,by omega,?_⟩
  refine ba _ ((Wk.frzs [36,40] _).trans (Wk.unr _ 45 (by rfl) (by simp only [go_sem,fq,aB,ap]))) ?_
  simp only [go_sem,aB,ap,happ]
  refine ⟨by omega,aC (i+1) (show i+1≤m.ts.length by omega) (show m.ts.length - (i+1)<m.ts.length - i by omega) (Wk.of ?_ ?_)⟩
  ·simp only [go_sem,e8];try simp
  ·simp only [go_sem,tn,List.map_append];try simp [bq]
 obtain rfl:i=m.ts.length:=by omega
 simp only [go_sem,az h1,bJ,a48]
 clear h1 hi hil
 refine ⟨by have:=h.ims;omega,?_⟩
 refine an (fun i:Nat=>⟨[(6,.int .i64 i),(3,.mp 3 12 0 0),(2,.mp 2 12 0 0),(1,.mp 1 12 0 0)],[(1,⟨33,12,[dQ m],true⟩),(2,⟨33,12,[[.nl,.nl,.nl,.nl,.nl,.nl,.nl,.bool false,.int .i64 0,.nl,.nl,.nl]],true⟩),(3,⟨33,12,[[.ms 901 2 0 m.ts.length,.ms 48 13 0 m.ims.length,.ms 902 3 0 i,.nl,.nl,.nl,.nl,.bool m.hs,.int .i64 m.st,.nl,.nl,.nl]],true⟩),(901,⟨51,2,m.ts.map bQ,false⟩),(48,⟨61,13,m.ims.map cW,false⟩),(902,⟨64,3,au bF eN k (m.fs.take i),decide (k<i)⟩),(911,⟨83,9,if k<i then (ac m.fs k).b.map aW else [],false⟩)]⟩) (fun i=>i≤m.fs.length) (fun i=>m.fs.length - i) 0 (cC _) ((Wk.new0 _ 911 9 83 (.inl (by decide))).trans ((Wk.new0 _ 902 3 64 (.inl (by decide))).trans ((Wk.nlm _ 3 (r:=[.ms 901 2 0 m.ts.length,.ms 48 13 0 m.ims.length,.nl,.nl,.nl,.nl,.nl,.bool m.hs,.int .i64 m.st,.nl,.nl,.nl]) rfl (r':=[.ms 901 2 0 m.ts.length,.ms 48 13 0 m.ims.length,.ms 902 3 0 0,.nl,.nl,.nl,.nl,.bool m.hs,.int .i64 m.st,.nl,.nl,.nl]) ⟨.inl rfl,.inl rfl,.inr ⟨rfl,.inr ⟨_,_,rfl⟩⟩,.inl rfl,.inl rfl,.inl rfl,.inl rfl,.inl rfl,.inl rfl,.inl rfl,.inl rfl,.inl rfl,trivial⟩).trans (Wk.of ?_ ?_)))) ?_
 ·simp only [go_sem];try simp [go_sem]
 ·simp only [go_sem,bE];try simp [go_sem,au]
 intro i hi
 have hil:(m.fs.take i).length=i:=by simp;omega
 by_cases h1:(i:Int)<(m.fs.length:Int)
 ·have hi':i<m.fs.length:=by omega
  have hlb:=h.fs.1
  have e8:=wi (n:=(i:Int)+1) (by omega) (by omega)
  have hxx:=aO h.fs.2 hi'
  have tn:=aU hi'
  have hRl:(au bF eN k (m.fs.take i)).length=i:=by rw [gT,hil]
  have hsu:=f_ (c:=bF) (c':=eN) (k:=k) hi'
  have happ:=fun ys=>fP 902 64 3 i (au bF eN k (m.fs.take i)) ys hRl
  have happR:=fun ys q=>fT 902 64 3 i (au bF eN k (m.fs.take i)) ys q hRl
  have hRp:∀j,¬j=911→(au bF eN k (m.fs.take i)).map (fun r=>r.map (bW j))=au bF eN k (m.fs.take i):=fun j hj=>bG (fun x=>by simp [bF,bW,mC,mP]) (fun x=>by simp [eN,bW,mC,mP,Ne.symm hj])
  have hRf:∀j o,¬j=911→(au bF eN k (m.fs.take i)).map (fun r=>r.map (ci j o))=au bF eN k (m.fs.take i):=fun j o hj=>bG (fun x=>by simp [bF,ci,cT]) (fun x=>by simp [eN,ci,cT,Ne.symm hj])
  have hRn:i3 902 (au bF eN k (m.fs.take i))=true:=gS (fun x=>by simp [bF,mC,mP]) (fun x=>by simp [eN,mC,mP])
  generalize hR:au bF eN k (m.fs.take i)=R at *
  rcases Nat.lt_trichotomy i k with hk | hk | hk
  ·have d1:decide (k<i)=false:=az (by omega)
   have d2:decide (k<i+1)=false:=az (by omega)
   have f1:¬k<i:=by omega
   have f2:¬k<i+1:=by omega
   rw [aV (show ¬i=k by omega)] at hsu
   have a69:=fun ys=>aG 69 53 1 ys
   obtain ⟨x1,x2⟩:=hxx
   simp only [go_sem,aI h1,bj,a69,d1,hRp]
   refine ⟨by omega,h1,by omega,?_⟩
   refine ar (bX (ac m.fs i).b x2) (by simp [go_sem]) rfl ?_
   simp only [go_sem,hRp]
   refine ba _ ((Wk.frzs [69] _).trans (Wk.unr _ 77 (by rfl) (by simp only [go_sem,fq,aB,ap]))) ?_
   simp only [go_sem,aB,ap,happ,happR,hRn,hRp]
   refine ⟨by omega,aC (i+1) (show i+1≤m.fs.length by omega) (show m.fs.length - (i+1)<m.fs.length - i by omega) (Wk.of ?_ ?_)⟩
   ·simp only [go_sem,e8];try simp
   ·simp only [go_sem,hsu,d2];try simp [bj,f1,f2]
  ·subst hk
   have d1:decide (i<i)=false:=az (by omega)
   have d2:decide (i<i+1)=true:=aI (by omega)
   have f1:¬i<i:=by omega
   have f2:i<i+1:=by omega
   rw [bz rfl] at hsu
   have a69:=fun ys=>aG 69 53 1 ys
   obtain ⟨x1,x2⟩:=hxx
   simp only [go_sem,aI h1,bj,a69,d1,hRp]
   refine ⟨by omega,h1,by omega,?_⟩
   refine vM (JZ (ac m.fs i).b x2) rfl (by simp [go_sem]) ?_
   simp only [go_sem,hRp]
   refine ba _ (Wk.frzs [69] _) ?_
   simp only [go_sem,aB,ap,happ,happR,hRn,hRp]
   have hRr:R.map (fun r=>r.map (eD (fw [(75,911)])))=R:=by
    rw [← hR]
    rw [f9 (by simp;omega),List.map_map]
    exact List.map_congr_left fun x _=>by simp [bF,eD,jt]
   refine ⟨by omega,aC (i+1) (show i+1≤m.fs.length by omega) (show m.fs.length - (i+1)<m.fs.length - i by omega) ((Wk.of (s':=⟨[(6,.int .i64 ((i+1:Nat):Int)),(3,.mp 3 12 0 0),(2,.mp 2 12 0 0),(1,.mp 1 12 0 0)],[(1,⟨33,12,[dQ m],true⟩),(2,⟨33,12,[[.nl,.nl,.nl,.nl,.nl,.nl,.nl,.bool false,.int .i64 0,.nl,.nl,.nl]],true⟩),(3,⟨33,12,[[.ms 901 2 0 m.ts.length,.ms 48 13 0 m.ims.length,.ms 902 3 0 (i+1),.nl,.nl,.nl,.nl,.bool m.hs,.int .i64 m.st,.nl,.nl,.nl]],true⟩),(901,⟨51,2,m.ts.map bQ,false⟩),(48,⟨61,13,m.ims.map cW,false⟩),(902,⟨64,3,R++[[.int .i64 (ac m.fs i).t,.sl 1 ((ac m.fs i).lo.map dF),.ms 75 9 0 (ac m.fs i).b.length]],true⟩),(75,⟨83,9,(ac m.fs i).b.map aW,false⟩)]⟩) ?_ ?_).trans ((Wk.ren _ [(75,911)] (fun id h1 h2=>by show jb 75 911 id=id;unfold jb;rw [aV (by omega),aV (by omega)])).trans (Wk.of ?_ ?_)))⟩
   ·simp only [go_sem,e8];try simp
   ·simp only [go_sem];try simp
   ·simp only [go_sem];try simp
   ·simp only [go_sem,hsu,d2,hRr];try simp [eN,f2,hRr,jm,jl,gP,gQ,vY]
  ·have d1:decide (k<i)=true:=aI (by omega)
   have d2:decide (k<i+1)=true:=aI (by omega)
   have f1:k<i:=by omega
   have f2:k<i+1:=by omega
   rw [aV (show ¬i=k by omega)] at hsu
   have hRi:R.flatMap (fun r=>r.flatMap bU)=[911]:=by
    rw [← hR]
    exact dq (fun x=>by simp [bF,bU,cG]) (fun x=>by simp [eN,bU,cG]) (by simp;omega)
   have a69:=fun ys=>aG 69 53 1 ys
   obtain ⟨x1,x2⟩:=hxx
   simp only [go_sem,aI h1,bj,a69,d1,hRi,hRf,hRp]
   refine ⟨by omega,h1,by omega,?_⟩
   refine ar (bX (ac m.fs i).b x2) (by simp [go_sem]) rfl ?_
   simp only [go_sem,hRi,hRf,hRp]
   refine ba _ ((Wk.frzs [69] _).trans (Wk.unr _ 77 (by rfl) (by simp only [go_sem,fq,aB,ap]))) ?_
   simp only [go_sem,aB,ap,happ,happR,hRn,hRi,hRf,hRp]
   refine ⟨by omega,aC (i+1) (show i+1≤m.fs.length by omega) (show m.fs.length - (i+1)<m.fs.length - i by omega) (Wk.of ?_ ?_)⟩
   ·simp only [go_sem,e8];try simp
   ·simp only [go_sem,hsu,d2];try simp [bj,f1,f2]
 obtain rfl:i=m.fs.length:=by omega
 rw [bJ]
 have hRp:∀j,¬j=911→(au bF eN k m.fs).map (fun r=>r.map (bW j))=au bF eN k m.fs:=fun j hj=>bG (fun x=>by simp [bF,bW,mC,mP]) (fun x=>by simp [eN,bW,mC,mP,Ne.symm hj])
 have hRi:(au bF eN k m.fs).flatMap (fun r=>r.flatMap bU)=[911]:=dq (fun x=>by simp [bF,bU,cG]) (fun x=>by simp [eN,bU,cG]) hk
 have hRf:∀j o,¬j=911→(au bF eN k m.fs).map (fun r=>r.map (ci j o))=au bF eN k m.fs:=fun j o hj=>bG (fun x=>by simp [bF,ci,cT]) (fun x=>by simp [eN,ci,cT,Ne.symm hj])
 have dk:decide (k<m.fs.length)=true:=aI hk
 obtain ⟨R,hR⟩:∃R,au bF eN k m.fs=R:=⟨_,rfl⟩
 rw [hR] at hRp hRi hRf
 simp only [go_sem,az h1,dk,hR,bz hk,hRp,hRi,hRf,a80,a85]
 clear h1 hi hil
 refine ⟨by have:=h.tbs;omega,by have:=h.ms;omega,?_⟩
 refine an (fun i:Nat=>⟨[(8,.int .i64 i),(3,.mp 3 12 0 0),(2,.mp 2 12 0 0),(1,.mp 1 12 0 0)],[(1,⟨33,12,[dQ m],true⟩),(2,⟨33,12,[[.nl,.nl,.nl,.nl,.nl,.nl,.nl,.bool false,.int .i64 0,.nl,.nl,.nl]],true⟩),(3,⟨33,12,[[.ms 901 2 0 m.ts.length,.ms 48 13 0 m.ims.length,.ms 902 3 0 m.fs.length,.ms 80 4 0 m.tbs.length,.ms 85 3 0 m.ms.length,.ms 903 3 0 i,.nl,.bool m.hs,.int .i64 m.st,.nl,.nl,.nl]],true⟩),(901,⟨51,2,m.ts.map bQ,false⟩),(48,⟨61,13,m.ims.map cW,false⟩),(902,⟨64,3,R,true⟩),(911,⟨83,9,(ac m.fs k).b.map aW,false⟩),(80,⟨57,4,m.tbs.map dG,false⟩),(85,⟨55,3,m.ms.map dA,false⟩),(903,⟨66,3,(m.gs.take i).map df,false⟩)]⟩) (fun i=>i≤m.gs.length) (fun i=>m.gs.length - i) 0 (cC _) ((Wk.new0 _ 903 3 66 (.inl (by decide))).trans ((Wk.nlm _ 3 (r:=[.ms 901 2 0 m.ts.length,.ms 48 13 0 m.ims.length,.ms 902 3 0 m.fs.length,.ms 80 4 0 m.tbs.length,.ms 85 3 0 m.ms.length,.nl,.nl,.bool m.hs,.int .i64 m.st,.nl,.nl,.nl]) rfl (r':=[.ms 901 2 0 m.ts.length,.ms 48 13 0 m.ims.length,.ms 902 3 0 m.fs.length,.ms 80 4 0 m.tbs.length,.ms 85 3 0 m.ms.length,.ms 903 3 0 0,.nl,.bool m.hs,.int .i64 m.st,.nl,.nl,.nl]) ⟨.inl rfl,.inl rfl,.inl rfl,.inl rfl,.inl rfl,.inr ⟨rfl,.inr ⟨_,_,rfl⟩⟩,.inl rfl,.inl rfl,.inl rfl,.inl rfl,.inl rfl,.inl rfl,trivial⟩).trans (Wk.of ?_ ?_))) ?_
 ·simp only [go_sem];try simp [go_sem]
 ·simp only [go_sem,bE,hRp,hRi,hRf];try simp [go_sem,au,hRp,hRi,hRf]
 intro i hi
 have hil:(m.gs.take i).length=i:=by simp;omega
 by_cases h1:(i:Int)<(m.gs.length:Int)
 ·have hi':i<m.gs.length:=by omega
  have hlb:=h.gs.1
  have e8:=wi (n:=(i:Int)+1) (by omega) (by omega)
  have hxx:=aO h.gs.2 hi'
  have tn:=aU hi'
  have happ:=fun ys=>aA 903 66 3 i df (m.gs.take i) ys hil
  simp only [go_sem,aI h1,bK,hRp,hRi,hRf]
  refine ⟨by omega,h1,by omega,h1,?_⟩
  refine ar (bX (ac m.gs i).i hxx) (by simp [go_sem]) rfl ?_
  simp only [go_sem,hRp,hRi,hRf]
  refine ba _ (Wk.refl _) ?_
  simp only [go_sem,aB,ap,happ,hRp,hRi,hRf]
  refine ⟨by omega,aC (i+1) (show i+1≤m.gs.length by omega) (show m.gs.length - (i+1)<m.gs.length - i by omega) (Wk.of ?_ ?_)⟩
  ·simp only [go_sem,e8];try simp
  ·simp only [go_sem,tn,List.map_append];try simp [bK]
 obtain rfl:i=m.gs.length:=by omega
 simp only [go_sem,az h1,bJ,hRp,hRi,hRf,a116]
 clear h1 hi hil
 refine ⟨by have:=h.exs;omega,?_⟩
 refine an (fun i:Nat=>⟨[(9,.int .i64 i),(3,.mp 3 12 0 0),(2,.mp 2 12 0 0),(1,.mp 1 12 0 0)],[(1,⟨33,12,[dQ m],true⟩),(2,⟨33,12,[[.nl,.nl,.nl,.nl,.nl,.nl,.nl,.bool false,.int .i64 0,.nl,.nl,.nl]],true⟩),(3,⟨33,12,[[.ms 901 2 0 m.ts.length,.ms 48 13 0 m.ims.length,.ms 902 3 0 m.fs.length,.ms 80 4 0 m.tbs.length,.ms 85 3 0 m.ms.length,.ms 903 3 0 m.gs.length,.ms 116 3 0 m.exs.length,.bool m.hs,.int .i64 m.st,.ms 904 5 0 i,.nl,.nl]],true⟩),(901,⟨51,2,m.ts.map bQ,false⟩),(48,⟨61,13,m.ims.map cW,false⟩),(902,⟨64,3,R,true⟩),(911,⟨83,9,(ac m.fs k).b.map aW,false⟩),(80,⟨57,4,m.tbs.map dG,false⟩),(85,⟨55,3,m.ms.map dA,false⟩),(903,⟨66,3,m.gs.map df,false⟩),(116,⟨68,3,m.exs.map dU,false⟩),(904,⟨70,5,(m.els.take i).map cb,false⟩)]⟩) (fun i=>i≤m.els.length) (fun i=>m.els.length - i) 0 (cC _) ((Wk.new0 _ 904 5 70 (.inl (by decide))).trans ((Wk.nlm _ 3 (r:=[.ms 901 2 0 m.ts.length,.ms 48 13 0 m.ims.length,.ms 902 3 0 m.fs.length,.ms 80 4 0 m.tbs.length,.ms 85 3 0 m.ms.length,.ms 903 3 0 m.gs.length,.ms 116 3 0 m.exs.length,.bool m.hs,.int .i64 m.st,.nl,.nl,.nl]) rfl (r':=[.ms 901 2 0 m.ts.length,.ms 48 13 0 m.ims.length,.ms 902 3 0 m.fs.length,.ms 80 4 0 m.tbs.length,.ms 85 3 0 m.ms.length,.ms 903 3 0 m.gs.length,.ms 116 3 0 m.exs.length,.bool m.hs,.int .i64 m.st,.ms 904 5 0 0,.nl,.nl]) ⟨.inl rfl,.inl rfl,.inl rfl,.inl rfl,.inl rfl,.inl rfl,.inl rfl,.inl rfl,.inl rfl,.inr ⟨rfl,.inr ⟨_,_,rfl⟩⟩,.inl rfl,.inl rfl,trivial⟩).trans (Wk.of ?_ ?_))) ?_
 ·simp only [go_sem];try simp [go_sem]
 ·simp only [go_sem,bE,hRp,hRi,hRf];try simp [go_sem,au,hRp,hRi,hRf]
 intro i hi
 have hil:(m.els.take i).length=i:=by simp;omega
 by_cases h1:(i:Int)<(m.els.length:Int)
 ·have hi':i<m.els.length:=by omega
  have hlb:=h.els.1
  have e8:=wi (n:=(i:Int)+1) (by omega) (by omega)
  have hxx:=aO h.els.2 hi'
  have tn:=aU hi'
  have happ:=fun ys=>aA 904 70 5 i cb (m.els.take i) ys hil
  obtain ⟨x1,x2,x3⟩:=hxx
  simp only [go_sem,aI h1,aQ,hRp,hRi,hRf]
  refine ⟨by omega,h1,?_⟩
  refine an (fun j:Nat=>⟨[(12,.int .i64 j),(11,.ms 907 1 0 j),(10,.mp 10 5 0 0),(9,.int .i64 i),(3,.mp 3 12 0 0),(2,.mp 2 12 0 0),(1,.mp 1 12 0 0)],[(1,⟨33,12,[dQ m],true⟩),(2,⟨33,12,[[.nl,.nl,.nl,.nl,.nl,.nl,.nl,.bool false,.int .i64 0,.nl,.nl,.nl]],true⟩),(3,⟨33,12,[[.ms 901 2 0 m.ts.length,.ms 48 13 0 m.ims.length,.ms 902 3 0 m.fs.length,.ms 80 4 0 m.tbs.length,.ms 85 3 0 m.ms.length,.ms 903 3 0 m.gs.length,.ms 116 3 0 m.exs.length,.bool m.hs,.int .i64 m.st,.ms 904 5 0 i,.nl,.nl]],true⟩),(901,⟨51,2,m.ts.map bQ,false⟩),(48,⟨61,13,m.ims.map cW,false⟩),(902,⟨64,3,R,true⟩),(911,⟨83,9,(ac m.fs k).b.map aW,false⟩),(80,⟨57,4,m.tbs.map dG,false⟩),(85,⟨55,3,m.ms.map dA,false⟩),(903,⟨66,3,m.gs.map df,false⟩),(116,⟨68,3,m.exs.map dU,false⟩),(904,⟨70,5,(m.els.take i).map cb,false⟩),(10,⟨70,5,[cb (ac m.els i)],true⟩),(907,⟨62,1,((ac m.els i).it.take j).map bY,false⟩)]⟩) (fun j=>j≤(ac m.els i).it.length) (fun j=>(ac m.els i).it.length - j) 0 (cC _) ((Wk.nil _ 11 907 1 62 (by simp only [go_sem]) (.inl (by decide))).trans (Wk.of ?_ ?_)) ?_
  ·simp only [go_sem,St.mknil];try simp [go_sem]
  ·simp only [go_sem,St.mknil,bE,hRp,hRi,hRf];try simp [go_sem,aQ]
  intro j hj
  have hjl:((ac m.els i).it.take j).length=j:=by simp;omega
  by_cases g1:(j:Int)<((ac m.els i).it.length:Int)
  ·have hj':j<(ac m.els i).it.length:=by omega
   have e9:=wi (n:=(j:Int)+1) (by omega) (by omega)
   have hap2:=fun ys=>aA 907 62 1 j bY ((ac m.els i).it.take j) ys hjl
   have tn2:=aU hj'
   simp only [go_sem,aI g1,aQ,bn,hRp,hRi,hRf]
   refine ⟨by omega,g1,?_⟩
   refine aa (bX (ac (ac m.els i).it j) (aO x3 hj')) ?_
   simp only [go_sem,hap2,hRp,hRi,hRf]
   refine ⟨by omega,aC (j+1) (show j+1≤(ac m.els i).it.length by omega) (show (ac m.els i).it.length - (j+1)<(ac m.els i).it.length - j by omega) (Wk.of ?_ ?_)⟩
   ·simp only [go_sem,e9];try simp
   ·simp only [go_sem,tn2,List.map_append,hRp,hRi,hRf];try simp [bn,aQ]
  obtain rfl:j=(ac m.els i).it.length:=by omega
  simp only [go_sem,az g1,aQ,bJ,hRp,hRi,hRf]
  refine ar (bX (ac m.els i).o x1) (by simp [go_sem]) rfl ?_
  simp only [go_sem,hRp,hRi,hRf]
  refine ba _ ((Wk.frzs [907] _).trans (Wk.unr _ 162 (by rfl) (by simp only [go_sem,fq,aB,ap]))) ?_
  simp only [go_sem,aB,ap,happ,hRp,hRi,hRf]
  refine ⟨by omega,aC (i+1) (show i+1≤m.els.length by omega) (show m.els.length - (i+1)<m.els.length - i by omega) (Wk.of ?_ ?_)⟩
  ·simp only [go_sem,e8];try simp
  ·simp only [go_sem,tn,List.map_append];try simp [aQ]
 obtain rfl:i=m.els.length:=by omega
 simp only [go_sem,az h1,bJ,hRp,hRi,hRf]
 clear h1 hi hil
 refine an (fun i:Nat=>⟨[(13,.int .i64 i),(3,.mp 3 12 0 0),(2,.mp 2 12 0 0),(1,.mp 1 12 0 0)],[(1,⟨33,12,[dQ m],true⟩),(2,⟨33,12,[[.nl,.nl,.nl,.nl,.nl,.nl,.nl,.bool false,.int .i64 0,.nl,.nl,.nl]],true⟩),(3,⟨33,12,[[.ms 901 2 0 m.ts.length,.ms 48 13 0 m.ims.length,.ms 902 3 0 m.fs.length,.ms 80 4 0 m.tbs.length,.ms 85 3 0 m.ms.length,.ms 903 3 0 m.gs.length,.ms 116 3 0 m.exs.length,.bool m.hs,.int .i64 m.st,.ms 904 5 0 m.els.length,.ms 905 4 0 i,.nl]],true⟩),(901,⟨51,2,m.ts.map bQ,false⟩),(48,⟨61,13,m.ims.map cW,false⟩),(902,⟨64,3,R,true⟩),(911,⟨83,9,(ac m.fs k).b.map aW,false⟩),(80,⟨57,4,m.tbs.map dG,false⟩),(85,⟨55,3,m.ms.map dA,false⟩),(903,⟨66,3,m.gs.map df,false⟩),(116,⟨68,3,m.exs.map dU,false⟩),(904,⟨70,5,m.els.map cb,false⟩),(905,⟨73,4,(m.ds.take i).map cM,false⟩)]⟩) (fun i=>i≤m.ds.length) (fun i=>m.ds.length - i) 0 (cC _) ((Wk.new0 _ 905 4 73 (.inl (by decide))).trans ((Wk.nlm _ 3 (r:=[.ms 901 2 0 m.ts.length,.ms 48 13 0 m.ims.length,.ms 902 3 0 m.fs.length,.ms 80 4 0 m.tbs.length,.ms 85 3 0 m.ms.length,.ms 903 3 0 m.gs.length,.ms 116 3 0 m.exs.length,.bool m.hs,.int .i64 m.st,.ms 904 5 0 m.els.length,.nl,.nl]) rfl (r':=[.ms 901 2 0 m.ts.length,.ms 48 13 0 m.ims.length,.ms 902 3 0 m.fs.length,.ms 80 4 0 m.tbs.length,.ms 85 3 0 m.ms.length,.ms 903 3 0 m.gs.length,.ms 116 3 0 m.exs.length,.bool m.hs,.int .i64 m.st,.ms 904 5 0 m.els.length,.ms 905 4 0 0,.nl]) ⟨.inl rfl,.inl rfl,.inl rfl,.inl rfl,.inl rfl,.inl rfl,.inl rfl,.inl rfl,.inl rfl,.inl rfl,.inr ⟨rfl,.inr ⟨_,_,rfl⟩⟩,.inl rfl,trivial⟩).trans (Wk.of ?_ ?_))) ?_
 ·simp only [go_sem];try simp [go_sem]
 ·simp only [go_sem,bE,hRp,hRi,hRf];try simp [go_sem,au,hRp,hRi,hRf]
 intro i hi
 have hil:(m.ds.take i).length=i:=by simp;omega
 by_cases h1:(i:Int)<(m.ds.length:Int)
 ·have hi':i<m.ds.length:=by omega
  have hlb:=h.ds.1
  have e8:=wi (n:=(i:Int)+1) (by omega) (by omega)
  have hxx:=aO h.ds.2 hi'
  have tn:=aU hi'
  have happ:=fun ys=>aA 905 73 4 i cM (m.ds.take i) ys hil
  have a186:=fun ys=>aG 186 5 1 ys
  obtain ⟨x1,x2⟩:=hxx
  simp only [go_sem,aI h1,bB,hRp,hRi,hRf]
  refine ⟨by omega,h1,?_⟩
  refine ar (bX (ac m.ds i).o x1) (by simp [go_sem]) rfl ?_
  simp only [go_sem,a186,hRp,hRi,hRf]
  refine ⟨by omega,?_⟩
  refine ba _ ((Wk.frzs [186] _).trans (Wk.unr _ 191 (by rfl) (by simp only [go_sem,fq,aB,ap]))) ?_
  simp only [go_sem,aB,ap,happ,hRp,hRi,hRf]
  refine ⟨by omega,aC (i+1) (show i+1≤m.ds.length by omega) (show m.ds.length - (i+1)<m.ds.length - i by omega) (Wk.of ?_ ?_)⟩
  ·simp only [go_sem,e8];try simp
  ·simp only [go_sem,tn,List.map_append];try simp [bB]
 obtain rfl:i=m.ds.length:=by omega
 simp only [go_sem,az h1,bJ,hRp,hRi,hRf]
 clear h1 hi hil
 refine an (fun i:Nat=>⟨[(15,.int .i64 i),(3,.mp 3 12 0 0),(2,.mp 2 12 0 0),(1,.mp 1 12 0 0)],[(1,⟨33,12,[dQ m],true⟩),(2,⟨33,12,[[.nl,.nl,.nl,.nl,.nl,.nl,.nl,.bool false,.int .i64 0,.nl,.nl,.nl]],true⟩),(3,⟨33,12,[[.ms 901 2 0 m.ts.length,.ms 48 13 0 m.ims.length,.ms 902 3 0 m.fs.length,.ms 80 4 0 m.tbs.length,.ms 85 3 0 m.ms.length,.ms 903 3 0 m.gs.length,.ms 116 3 0 m.exs.length,.bool m.hs,.int .i64 m.st,.ms 904 5 0 m.els.length,.ms 905 4 0 m.ds.length,.ms 906 3 0 i]],true⟩),(901,⟨51,2,m.ts.map bQ,false⟩),(48,⟨61,13,m.ims.map cW,false⟩),(902,⟨64,3,R,true⟩),(911,⟨83,9,(ac m.fs k).b.map aW,false⟩),(80,⟨57,4,m.tbs.map dG,false⟩),(85,⟨55,3,m.ms.map dA,false⟩),(903,⟨66,3,m.gs.map df,false⟩),(116,⟨68,3,m.exs.map dU,false⟩),(904,⟨70,5,m.els.map cb,false⟩),(905,⟨73,4,m.ds.map cM,false⟩),(906,⟨75,3,(m.cs.take i).map eW,false⟩)]⟩) (fun i=>i≤m.cs.length) (fun i=>m.cs.length - i) 0 (cC _) ((Wk.new0 _ 906 3 75 (.inl (by decide))).trans ((Wk.nlm _ 3 (r:=[.ms 901 2 0 m.ts.length,.ms 48 13 0 m.ims.length,.ms 902 3 0 m.fs.length,.ms 80 4 0 m.tbs.length,.ms 85 3 0 m.ms.length,.ms 903 3 0 m.gs.length,.ms 116 3 0 m.exs.length,.bool m.hs,.int .i64 m.st,.ms 904 5 0 m.els.length,.ms 905 4 0 m.ds.length,.nl]) rfl (r':=[.ms 901 2 0 m.ts.length,.ms 48 13 0 m.ims.length,.ms 902 3 0 m.fs.length,.ms 80 4 0 m.tbs.length,.ms 85 3 0 m.ms.length,.ms 903 3 0 m.gs.length,.ms 116 3 0 m.exs.length,.bool m.hs,.int .i64 m.st,.ms 904 5 0 m.els.length,.ms 905 4 0 m.ds.length,.ms 906 3 0 0]) ⟨.inl rfl,.inl rfl,.inl rfl,.inl rfl,.inl rfl,.inl rfl,.inl rfl,.inl rfl,.inl rfl,.inl rfl,.inl rfl,.inr ⟨rfl,.inr ⟨_,_,rfl⟩⟩,trivial⟩).trans (Wk.of ?_ ?_))) ?_
 ·simp only [go_sem];try simp [go_sem]
 ·simp only [go_sem,bE,hRp,hRi,hRf];try simp [go_sem,au,hRp,hRi,hRf]
 intro i hi
 have hil:(m.cs.take i).length=i:=by simp;omega
 by_cases h1:(i:Int)<(m.cs.length:Int)
 ·have hi':i<m.cs.length:=by omega
  have hlb:=h.cs.1
  have e8:=wi (n:=(i:Int)+1) (by omega) (by omega)
  have hxx:=aO h.cs.2 hi'
  have tn:=aU hi'
  have happ:=fun ys=>aA 906 75 3 i eW (m.cs.take i) ys hil
  have a212:=fun ys=>aG 212 5 1 ys
  simp only [go_sem,aI h1,bv,a212,hRp,hRi,hRf]
  refine ⟨by omega,h1,by have:_≤1048576:=hxx;omega,?_⟩
  refine ba _ ((Wk.frzs [212] _).trans (Wk.unr _ 217 (by rfl) (by simp only [go_sem,fq,aB,ap]))) ?_
  simp only [go_sem,aB,ap,happ,hRp,hRi,hRf]
  refine ⟨by omega,aC (i+1) (show i+1≤m.cs.length by omega) (show m.cs.length - (i+1)<m.cs.length - i by omega) (Wk.of ?_ ?_)⟩
  ·simp only [go_sem,e8];try simp
  ·simp only [go_sem,tn,List.map_append];try simp [bv]
 obtain rfl:i=m.cs.length:=by omega
 simp only [go_sem,az h1,bJ,hRp,hRi,hRf]
 clear h1 hi hil
 exact done [] (.agg [.ms 901 2 0 m.ts.length,.ms 48 13 0 m.ims.length,.ms 902 3 0 m.fs.length,.ms 80 4 0 m.tbs.length,.ms 85 3 0 m.ms.length,.ms 903 3 0 m.gs.length,.ms 116 3 0 m.exs.length,.bool m.hs,.int .i64 m.st,.ms 904 5 0 m.els.length,.ms 905 4 0 m.ds.length,.ms 906 3 0 m.cs.length]) [(901,⟨51,2,m.ts.map bQ,false⟩),(48,⟨61,13,m.ims.map cW,false⟩),(902,⟨64,3,R,true⟩),(911,⟨83,9,(ac m.fs k).b.map aW,false⟩),(80,⟨57,4,m.tbs.map dG,false⟩),(85,⟨55,3,m.ms.map dA,false⟩),(903,⟨66,3,m.gs.map df,false⟩),(116,⟨68,3,m.exs.map dU,false⟩),(904,⟨70,5,m.els.map cb,false⟩),(905,⟨73,4,m.ds.map cM,false⟩),(906,⟨75,3,m.cs.map eW,false⟩)] (by rfl) ⟨rfl,rfl,rfl,rfl,rfl,rfl,rfl,rfl,rfl,rfl,rfl,trivial⟩ (by simp [vA,cU,hRi,go_sem]) ⟨rfl,by rw [← hR]⟩
theorem Fe (m:Md) (h:mH m) (k:Nat) (hk:k<m.els.length):br Tryz.prog ph [cE m] [] sb (fun r' σ'=>r' = .agg [.ms 901 2 0 m.ts.length,.ms 48 13 0 m.ims.length,.ms 902 3 0 m.fs.length,.ms 80 4 0 m.tbs.length,.ms 85 3 0 m.ms.length,.ms 903 3 0 m.gs.length,.ms 116 3 0 m.exs.length,.bool m.hs,.int .i64 m.st,.ms 904 5 0 m.els.length,.ms 905 4 0 m.ds.length,.ms 906 3 0 m.cs.length]∧σ'=[(901,⟨51,2,m.ts.map bQ,false⟩),(48,⟨61,13,m.ims.map cW,false⟩),(902,⟨64,3,m.fs.map bF,false⟩),(80,⟨57,4,m.tbs.map dG,false⟩),(85,⟨55,3,m.ms.map dA,false⟩),(903,⟨66,3,m.gs.map df,false⟩),(116,⟨68,3,m.exs.map dU,false⟩),(904,⟨70,5,au cb kM k m.els,true⟩),(911,⟨62,1,(ac m.els k).it.map bY,false⟩),(905,⟨73,4,m.ds.map cM,false⟩),(906,⟨75,3,m.cs.map eW,false⟩)]):=by
 refine c_ (ic:=ey [34,65,97,149,177,206] gH.body) aq oR rfl rfl ?_
 have a48:=fun ys=>aG 48 61 13 ys
 have a80:=fun ys=>aG 80 57 4 ys
 have a85:=fun ys=>aG 85 55 3 ys
 have a116:=fun ys=>aG 116 68 3 ys
 simp only [go_sem,gH,cE]
 refine an (fun i:Nat=>⟨[(4,.int .i64 i),(3,.mp 3 12 0 0),(2,.mp 2 12 0 0),(1,.mp 1 12 0 0)],[(1,⟨33,12,[dQ m],true⟩),(2,⟨33,12,[[.nl,.nl,.nl,.nl,.nl,.nl,.nl,.bool false,.int .i64 0,.nl,.nl,.nl]],true⟩),(3,⟨33,12,[[.ms 901 2 0 i,.nl,.nl,.nl,.nl,.nl,.nl,.bool m.hs,.int .i64 m.st,.nl,.nl,.nl]],true⟩),(901,⟨51,2,(m.ts.take i).map bQ,false⟩)]⟩) (fun i=>i≤m.ts.length) (fun i=>m.ts.length - i) 0 (cC _) ((Wk.new0 _ 901 2 51 (.inl (by decide))).trans ((Wk.nlm _ 3 (r:=[.nl,.nl,.nl,.nl,.nl,.nl,.nl,.bool m.hs,.int .i64 m.st,.nl,.nl,.nl]) rfl (r':=[.ms 901 2 0 0,.nl,.nl,.nl,.nl,.nl,.nl,.bool m.hs,.int .i64 m.st,.nl,.nl,.nl]) ⟨.inr ⟨rfl,.inr ⟨_,_,rfl⟩⟩,.inl rfl,.inl rfl,.inl rfl,.inl rfl,.inl rfl,.inl rfl,.inl rfl,.inl rfl,.inl rfl,.inl rfl,.inl rfl,trivial⟩).trans (Wk.of ?_ ?_))) ?_
 ·simp only [go_sem];try simp [go_sem]
 ·simp only [go_sem,bE];try simp [go_sem,au]
 intro i hi
 have hil:(m.ts.take i).length=i:=by simp;omega
 by_cases h1:(i:Int)<(m.ts.length:Int)
 ·have hi':i<m.ts.length:=by omega
  have hlb:=h.ts.1
  have e8:=wi (n:=(i:Int)+1) (by omega) (by omega)
  have hxx:=aO h.ts.2 hi'
  have tn:=aU hi'
  have happ:=fun ys=>aA 901 51 2 i bQ (m.ts.take i) ys hil
  have a36:=fun ys=>aG 36 53 1 ys
  have a40:=fun ys=>aG 40 53 1 ys
  obtain ⟨x1,x2⟩:=hxx
  simp only [go_sem,aI h1,bq,a36,a40]
  refine ⟨by omega,h1,by omega,by omega,?_⟩
  refine ba _ ((Wk.frzs [36,40] _).trans (Wk.unr _ 45 (by rfl) (by simp only [go_sem,fq,aB,ap]))) ?_
  simp only [go_sem,aB,ap,happ]
  refine ⟨by omega,aC (i+1) (show i+1≤m.ts.length by omega) (show m.ts.length - (i+1)<m.ts.length - i by omega) (Wk.of ?_ ?_)⟩
  ·simp only [go_sem,e8];try simp
  ·simp only [go_sem,tn,List.map_append];try simp [bq]
 obtain rfl:i=m.ts.length:=by omega
 simp only [go_sem,az h1,bJ,a48]
 clear h1 hi hil
 refine ⟨by have:=h.ims;omega,?_⟩
 refine an (fun i:Nat=>⟨[(6,.int .i64 i),(3,.mp 3 12 0 0),(2,.mp 2 12 0 0),(1,.mp 1 12 0 0)],[(1,⟨33,12,[dQ m],true⟩),(2,⟨33,12,[[.nl,.nl,.nl,.nl,.nl,.nl,.nl,.bool false,.int .i64 0,.nl,.nl,.nl]],true⟩),(3,⟨33,12,[[.ms 901 2 0 m.ts.length,.ms 48 13 0 m.ims.length,.ms 902 3 0 i,.nl,.nl,.nl,.nl,.bool m.hs,.int .i64 m.st,.nl,.nl,.nl]],true⟩),(901,⟨51,2,m.ts.map bQ,false⟩),(48,⟨61,13,m.ims.map cW,false⟩),(902,⟨64,3,(m.fs.take i).map bF,false⟩)]⟩) (fun i=>i≤m.fs.length) (fun i=>m.fs.length - i) 0 (cC _) ((Wk.new0 _ 902 3 64 (.inl (by decide))).trans ((Wk.nlm _ 3 (r:=[.ms 901 2 0 m.ts.length,.ms 48 13 0 m.ims.length,.nl,.nl,.nl,.nl,.nl,.bool m.hs,.int .i64 m.st,.nl,.nl,.nl]) rfl (r':=[.ms 901 2 0 m.ts.length,.ms 48 13 0 m.ims.length,.ms 902 3 0 0,.nl,.nl,.nl,.nl,.bool m.hs,.int .i64 m.st,.nl,.nl,.nl]) ⟨.inl rfl,.inl rfl,.inr ⟨rfl,.inr ⟨_,_,rfl⟩⟩,.inl rfl,.inl rfl,.inl rfl,.inl rfl,.inl rfl,.inl rfl,.inl rfl,.inl rfl,.inl rfl,trivial⟩).trans (Wk.of ?_ ?_))) ?_
 ·simp only [go_sem];try simp [go_sem]
 ·simp only [go_sem,bE];try simp [go_sem,au]
 intro i hi
 have hil:(m.fs.take i).length=i:=by simp;omega
 by_cases h1:(i:Int)<(m.fs.length:Int)
 ·have hi':i<m.fs.length:=by omega
  have hlb:=h.fs.1
  have e8:=wi (n:=(i:Int)+1) (by omega) (by omega)
  have hxx:=aO h.fs.2 hi'
  have tn:=aU hi'
  have happ:=fun ys=>aA 902 64 3 i bF (m.fs.take i) ys hil
  have a69:=fun ys=>aG 69 53 1 ys
  obtain ⟨x1,x2⟩:=hxx
  simp only [go_sem,aI h1,bj,a69]
  refine ⟨by omega,h1,by omega,?_⟩
  refine ar (bX (ac m.fs i).b x2) (by simp [go_sem]) rfl ?_
  simp only [go_sem]
  refine ba _ ((Wk.frzs [69] _).trans (Wk.unr _ 77 (by rfl) (by simp only [go_sem,fq,aB,ap]))) ?_
  simp only [go_sem,aB,ap,happ]
  refine ⟨by omega,aC (i+1) (show i+1≤m.fs.length by omega) (show m.fs.length - (i+1)<m.fs.length - i by omega) (Wk.of ?_ ?_)⟩
  ·simp only [go_sem,e8];try simp
  ·simp only [go_sem,tn,List.map_append];try simp [bj]
 obtain rfl:i=m.fs.length:=by omega
 simp only [go_sem,az h1,bJ,a80,a85]
 clear h1 hi hil
 refine ⟨by have:=h.tbs;omega,by have:=h.ms;omega,?_⟩
 refine an (fun i:Nat=>⟨[(8,.int .i64 i),(3,.mp 3 12 0 0),(2,.mp 2 12 0 0),(1,.mp 1 12 0 0)],[(1,⟨33,12,[dQ m],true⟩),(2,⟨33,12,[[.nl,.nl,.nl,.nl,.nl,.nl,.nl,.bool false,.int .i64 0,.nl,.nl,.nl]],true⟩),(3,⟨33,12,[[.ms 901 2 0 m.ts.length,.ms 48 13 0 m.ims.length,.ms 902 3 0 m.fs.length,.ms 80 4 0 m.tbs.length,.ms 85 3 0 m.ms.length,.ms 903 3 0 i,.nl,.bool m.hs,.int .i64 m.st,.nl,.nl,.nl]],true⟩),(901,⟨51,2,m.ts.map bQ,false⟩),(48,⟨61,13,m.ims.map cW,false⟩),(902,⟨64,3,m.fs.map bF,false⟩),(80,⟨57,4,m.tbs.map dG,false⟩),(85,⟨55,3,m.ms.map dA,false⟩),(903,⟨66,3,(m.gs.take i).map df,false⟩)]⟩) (fun i=>i≤m.gs.length) (fun i=>m.gs.length - i) 0 (cC _) ((Wk.new0 _ 903 3 66 (.inl (by decide))).trans ((Wk.nlm _ 3 (r:=[.ms 901 2 0 m.ts.length,.ms 48 13 0 m.ims.length,.ms 902 3 0 m.fs.length,.ms 80 4 0 m.tbs.length,.ms 85 3 0 m.ms.length,.nl,.nl,.bool m.hs,.int .i64 m.st,.nl,.nl,.nl]) rfl (r':=[.ms 901 2 0 m.ts.length,.ms 48 13 0 m.ims.length,.ms 902 3 0 m.fs.length,.ms 80 4 0 m.tbs.length,.ms 85 3 0 m.ms.length,.ms 903 3 0 0,.nl,.bool m.hs,.int .i64 m.st,.nl,.nl,.nl]) ⟨.inl rfl,.inl rfl,.inl rfl,.inl rfl,.inl rfl,.inr ⟨rfl,.inr ⟨_,_,rfl⟩⟩,.inl rfl,.inl rfl,.inl rfl,.inl rfl,.inl rfl,.inl rfl,trivial⟩).trans (Wk.of ?_ ?_))) ?_
 ·simp only [go_sem];try simp [go_sem]
 ·simp only [go_sem,bE];try simp [go_sem,au]
 intro i hi
 have hil:(m.gs.take i).length=i:=by simp;omega
 by_cases h1:(i:Int)<(m.gs.length:Int)
 ·have hi':i<m.gs.length:=by omega
  have hlb:=h.gs.1
  have e8:=wi (n:=(i:Int)+1) (by omega) (by omega)
  have hxx:=aO h.gs.2 hi'
  have tn:=aU hi'
  have happ:=fun ys=>aA 903 66 3 i df (m.gs.take i) ys hil
  simp only [go_sem,aI h1,bK]
  refine ⟨by omega,h1,by omega,h1,?_⟩
  refine ar (bX (ac m.gs i).i hxx) (by simp [go_sem]) rfl ?_
  simp only [go_sem]
  refine ba _ (Wk.refl _) ?_
  simp only [go_sem,aB,ap,happ]
  refine ⟨by omega,aC (i+1) (show i+1≤m.gs.length by omega) (show m.gs.length - (i+1)<m.gs.length - i by omega) (Wk.of ?_ ?_)⟩
  ·simp only [go_sem,e8];try simp
  ·simp only [go_sem,tn,List.map_append];try simp [bK]
 obtain rfl:i=m.gs.length:=by omega
 simp only [go_sem,az h1,bJ,a116]
 clear h1 hi hil
 refine ⟨by have:=h.exs;omega,?_⟩
 refine an (fun i:Nat=>⟨[(9,.int .i64 i),(3,.mp 3 12 0 0),(2,.mp 2 12 0 0),(1,.mp 1 12 0 0)],[(1,⟨33,12,[dQ m],true⟩),(2,⟨33,12,[[.nl,.nl,.nl,.nl,.nl,.nl,.nl,.bool false,.int .i64 0,.nl,.nl,.nl]],true⟩),(3,⟨33,12,[[.ms 901 2 0 m.ts.length,.ms 48 13 0 m.ims.length,.ms 902 3 0 m.fs.length,.ms 80 4 0 m.tbs.length,.ms 85 3 0 m.ms.length,.ms 903 3 0 m.gs.length,.ms 116 3 0 m.exs.length,.bool m.hs,.int .i64 m.st,.ms 904 5 0 i,.nl,.nl]],true⟩),(901,⟨51,2,m.ts.map bQ,false⟩),(48,⟨61,13,m.ims.map cW,false⟩),(902,⟨64,3,m.fs.map bF,false⟩),(80,⟨57,4,m.tbs.map dG,false⟩),(85,⟨55,3,m.ms.map dA,false⟩),(903,⟨66,3,m.gs.map df,false⟩),(116,⟨68,3,m.exs.map dU,false⟩),(904,⟨70,5,au cb kM k (m.els.take i),decide (k<i)⟩),(911,⟨62,1,if k<i then (ac m.els k).it.map bY else [],false⟩)]⟩) (fun i=>i≤m.els.length) (fun i=>m.els.length - i) 0 (cC _) ((Wk.new0 _ 911 1 62 (.inl (by decide))).trans ((Wk.new0 _ 904 5 70 (.inl (by decide))).trans ((Wk.nlm _ 3 (r:=[.ms 901 2 0 m.ts.length,.ms 48 13 0 m.ims.length,.ms 902 3 0 m.fs.length,.ms 80 4 0 m.tbs.length,.ms 85 3 0 m.ms.length,.ms 903 3 0 m.gs.length,.ms 116 3 0 m.exs.length,.bool m.hs,.int .i64 m.st,.nl,.nl,.nl]) rfl (r':=[.ms 901 2 0 m.ts.length,.ms 48 13 0 m.ims.length,.ms 902 3 0 m.fs.length,.ms 80 4 0 m.tbs.length,.ms 85 3 0 m.ms.length,.ms 903 3 0 m.gs.length,.ms 116 3 0 m.exs.length,.bool m.hs,.int .i64 m.st,.ms 904 5 0 0,.nl,.nl]) ⟨.inl rfl,.inl rfl,.inl rfl,.inl rfl,.inl rfl,.inl rfl,.inl rfl,.inl rfl,.inl rfl,.inr ⟨rfl,.inr ⟨_,_,rfl⟩⟩,.inl rfl,.inl rfl,trivial⟩).trans (Wk.of ?_ ?_)))) ?_
 ·simp only [go_sem];try simp [go_sem]
 ·simp only [go_sem,bE];try simp [go_sem,au]
 intro i hi
 have hil:(m.els.take i).length=i:=by simp;omega
 by_cases h1:(i:Int)<(m.els.length:Int)
 ·have hi':i<m.els.length:=by omega
  have hlb:=h.els.1
  have e8:=wi (n:=(i:Int)+1) (by omega) (by omega)
  have hxx:=aO h.els.2 hi'
  have tn:=aU hi'
  have hRl:(au cb kM k (m.els.take i)).length=i:=by rw [gT,hil]
  have hsu:=f_ (c:=cb) (c':=kM) (k:=k) hi'
  have happ:=fun ys=>fP 904 70 5 i (au cb kM k (m.els.take i)) ys hRl
  have happR:=fun ys q=>fT 904 70 5 i (au cb kM k (m.els.take i)) ys q hRl
  have hRp:∀j,¬j=911→(au cb kM k (m.els.take i)).map (fun r=>r.map (bW j))=au cb kM k (m.els.take i):=fun j hj=>bG (fun x=>by simp [cb,bW,mC,mP]) (fun x=>by simp [kM,bW,mC,mP,Ne.symm hj])
  have hRf:∀j o,¬j=911→(au cb kM k (m.els.take i)).map (fun r=>r.map (ci j o))=au cb kM k (m.els.take i):=fun j o hj=>bG (fun x=>by simp [cb,ci,cT]) (fun x=>by simp [kM,ci,cT,Ne.symm hj])
  have hRn:i3 904 (au cb kM k (m.els.take i))=true:=gS (fun x=>by simp [cb,mC,mP]) (fun x=>by simp [kM,mC,mP])
  generalize hR:au cb kM k (m.els.take i)=R at *
  rcases Nat.lt_trichotomy i k with hk | hk | hk
  ·have d1:decide (k<i)=false:=az (by omega)
   have d2:decide (k<i+1)=false:=az (by omega)
   have f1:¬k<i:=by omega
   have f2:¬k<i+1:=by omega
   rw [aV (show ¬i=k by omega)] at hsu
   obtain ⟨x1,x2,x3⟩:=hxx
   simp only [go_sem,aI h1,aQ,d1,aV f1,hRp]
   refine ⟨by omega,h1,?_⟩
   refine an (fun j:Nat=>⟨[(12,.int .i64 j),(11,.ms 907 1 0 j),(10,.mp 10 5 0 0),(9,.int .i64 i),(3,.mp 3 12 0 0),(2,.mp 2 12 0 0),(1,.mp 1 12 0 0)],[(1,⟨33,12,[dQ m],true⟩),(2,⟨33,12,[[.nl,.nl,.nl,.nl,.nl,.nl,.nl,.bool false,.int .i64 0,.nl,.nl,.nl]],true⟩),(3,⟨33,12,[[.ms 901 2 0 m.ts.length,.ms 48 13 0 m.ims.length,.ms 902 3 0 m.fs.length,.ms 80 4 0 m.tbs.length,.ms 85 3 0 m.ms.length,.ms 903 3 0 m.gs.length,.ms 116 3 0 m.exs.length,.bool m.hs,.int .i64 m.st,.ms 904 5 0 i,.nl,.nl]],true⟩),(901,⟨51,2,m.ts.map bQ,false⟩),(48,⟨61,13,m.ims.map cW,false⟩),(902,⟨64,3,m.fs.map bF,false⟩),(80,⟨57,4,m.tbs.map dG,false⟩),(85,⟨55,3,m.ms.map dA,false⟩),(903,⟨66,3,m.gs.map df,false⟩),(116,⟨68,3,m.exs.map dU,false⟩),(904,⟨70,5,R,false⟩),(10,⟨70,5,[cb (ac m.els i)],true⟩),(907,⟨62,1,((ac m.els i).it.take j).map bY,false⟩),(911,⟨62,1,[],false⟩)]⟩) (fun j=>j≤(ac m.els i).it.length) (fun j=>(ac m.els i).it.length - j) 0 (cC _) ((Wk.nil _ 11 907 1 62 (by simp only [go_sem]) (.inl (by decide))).trans (Wk.of ?_ ?_)) ?_
   ·simp only [go_sem,St.mknil];try simp [go_sem]
   ·simp only [go_sem,St.mknil,bE,hRp];try simp [go_sem,aQ]
   intro j hj
   have hjl:((ac m.els i).it.take j).length=j:=by simp;omega
   by_cases g1:(j:Int)<((ac m.els i).it.length:Int)
   ·have hj':j<(ac m.els i).it.length:=by omega
    have e9:=wi (n:=(j:Int)+1) (by omega) (by omega)
    have hap2:=fun ys=>aA 907 62 1 j bY ((ac m.els i).it.take j) ys hjl
    have tn2:=aU hj'
    simp only [go_sem,aI g1,aQ,bn,hRp]
    refine ⟨by omega,g1,?_⟩
    refine aa (bX (ac (ac m.els i).it j) (aO x3 hj')) ?_
    simp only [go_sem,hap2,hRp]
    refine ⟨by omega,aC (j+1) (show j+1≤(ac m.els i).it.length by omega) (show (ac m.els i).it.length - (j+1)<(ac m.els i).it.length - j by omega) (Wk.of ?_ ?_)⟩
    ·simp only [go_sem,e9];try simp
    ·simp only [go_sem,tn2,List.map_append,hRp];try simp [bn,aQ]
   obtain rfl:j=(ac m.els i).it.length:=by omega
   simp only [go_sem,az g1,aQ,bJ,hRp]
   refine ar (bX (ac m.els i).o x1) (by simp [go_sem]) rfl ?_
   simp only [go_sem,hRp]
   refine ba _ ((Wk.frzs [907] _).trans (Wk.unr _ 162 (by rfl) (by simp only [go_sem,fq,aB,ap]))) ?_
   simp only [go_sem,aB,ap,happ,happR,hRn,hRp]
   refine ⟨by omega,aC (i+1) (show i+1≤m.els.length by omega) (show m.els.length - (i+1)<m.els.length - i by omega) (Wk.of ?_ ?_)⟩
   ·simp only [go_sem,e8];try simp
   ·simp only [go_sem,hsu,d2];try simp [aQ,f1,f2]
  ·subst hk
   have d1:decide (i<i)=false:=az (by omega)
   have d2:decide (i<i+1)=true:=aI (by omega)
   have f1:¬i<i:=by omega
   have f2:i<i+1:=by omega
   rw [bz rfl] at hsu
   obtain ⟨x1,x2,x3⟩:=hxx
   simp only [go_sem,aI h1,aQ,d1,aV f1,hRp]
   refine ⟨by omega,h1,?_⟩
   refine an (fun j:Nat=>⟨[(12,.int .i64 j),(11,.ms 907 1 0 j),(10,.mp 10 5 0 0),(9,.int .i64 i),(3,.mp 3 12 0 0),(2,.mp 2 12 0 0),(1,.mp 1 12 0 0)],[(1,⟨33,12,[dQ m],true⟩),(2,⟨33,12,[[.nl,.nl,.nl,.nl,.nl,.nl,.nl,.bool false,.int .i64 0,.nl,.nl,.nl]],true⟩),(3,⟨33,12,[[.ms 901 2 0 m.ts.length,.ms 48 13 0 m.ims.length,.ms 902 3 0 m.fs.length,.ms 80 4 0 m.tbs.length,.ms 85 3 0 m.ms.length,.ms 903 3 0 m.gs.length,.ms 116 3 0 m.exs.length,.bool m.hs,.int .i64 m.st,.ms 904 5 0 i,.nl,.nl]],true⟩),(901,⟨51,2,m.ts.map bQ,false⟩),(48,⟨61,13,m.ims.map cW,false⟩),(902,⟨64,3,m.fs.map bF,false⟩),(80,⟨57,4,m.tbs.map dG,false⟩),(85,⟨55,3,m.ms.map dA,false⟩),(903,⟨66,3,m.gs.map df,false⟩),(116,⟨68,3,m.exs.map dU,false⟩),(904,⟨70,5,R,false⟩),(10,⟨70,5,[cb (ac m.els i)],true⟩),(907,⟨62,1,((ac m.els i).it.take j).map bY,false⟩),(911,⟨62,1,[],false⟩)]⟩) (fun j=>j≤(ac m.els i).it.length) (fun j=>(ac m.els i).it.length - j) 0 (cC _) ((Wk.nil _ 11 907 1 62 (by simp only [go_sem]) (.inl (by decide))).trans (Wk.of ?_ ?_)) ?_
   ·simp only [go_sem,St.mknil];try simp [go_sem]
   ·simp only [go_sem,St.mknil,bE,hRp];try simp [go_sem,aQ]
   intro j hj
   have hjl:((ac m.els i).it.take j).length=j:=by simp;omega
   by_cases g1:(j:Int)<((ac m.els i).it.length:Int)
   ·have hj':j<(ac m.els i).it.length:=by omega
    have e9:=wi (n:=(j:Int)+1) (by omega) (by omega)
    have hap2:=fun ys=>aA 907 62 1 j bY ((ac m.els i).it.take j) ys hjl
    have tn2:=aU hj'
    simp only [go_sem,aI g1,aQ,bn,hRp]
    refine ⟨by omega,g1,?_⟩
    refine aa (bX (ac (ac m.els i).it j) (aO x3 hj')) ?_
    simp only [go_sem,hap2,hRp]
    refine ⟨by omega,aC (j+1) (show j+1≤(ac m.els i).it.length by omega) (show (ac m.els i).it.length - (j+1)<(ac m.els i).it.length - j by omega) (Wk.of ?_ ?_)⟩
    ·simp only [go_sem,e9];try simp
    ·simp only [go_sem,tn2,List.map_append,hRp];try simp [bn,aQ]
   obtain rfl:j=(ac m.els i).it.length:=by omega
   simp only [go_sem,az g1,aQ,bJ,hRp]
   refine ar (bX (ac m.els i).o x1) (by simp [go_sem]) rfl ?_
   simp only [go_sem,hRp]
   refine ba _ (Wk.refl _) ?_
   simp only [go_sem,aB,ap,happ,happR,hRn,hRp]
   have hRr:R.map (fun r=>r.map (eD (fw [(907,911)])))=R:=by
    rw [← hR]
    rw [f9 (by simp;omega),List.map_map]
    exact List.map_congr_left fun x _=>by simp [cb,eD,jt]
   refine ⟨by omega,aC (i+1) (show i+1≤m.els.length by omega) (show m.els.length - (i+1)<m.els.length - i by omega) ((Wk.of (s':=⟨[(9,.int .i64 ((i+1:Nat):Int)),(3,.mp 3 12 0 0),(2,.mp 2 12 0 0),(1,.mp 1 12 0 0)],[(1,⟨33,12,[dQ m],true⟩),(2,⟨33,12,[[.nl,.nl,.nl,.nl,.nl,.nl,.nl,.bool false,.int .i64 0,.nl,.nl,.nl]],true⟩),(3,⟨33,12,[[.ms 901 2 0 m.ts.length,.ms 48 13 0 m.ims.length,.ms 902 3 0 m.fs.length,.ms 80 4 0 m.tbs.length,.ms 85 3 0 m.ms.length,.ms 903 3 0 m.gs.length,.ms 116 3 0 m.exs.length,.bool m.hs,.int .i64 m.st,.ms 904 5 0 (i+1),.nl,.nl]],true⟩),(901,⟨51,2,m.ts.map bQ,false⟩),(48,⟨61,13,m.ims.map cW,false⟩),(902,⟨64,3,m.fs.map bF,false⟩),(80,⟨57,4,m.tbs.map dG,false⟩),(85,⟨55,3,m.ms.map dA,false⟩),(903,⟨66,3,m.gs.map df,false⟩),(116,⟨68,3,m.exs.map dU,false⟩),(904,⟨70,5,R++[[.int .i64 (ac m.els i).mo,.int .i64 (ac m.els i).tb,.sl 9 ((ac m.els i).o.map aW),.int .i64 (ac m.els i).ty,.ms 907 1 0 (ac m.els i).it.length]],true⟩),(907,⟨62,1,(ac m.els i).it.map bY,false⟩)]⟩) ?_ ?_).trans ((Wk.ren _ [(907,911)] (fun id h1 h2=>by show jb 907 911 id=id;unfold jb;rw [aV (by omega),aV (by omega)])).trans (Wk.of ?_ ?_)))⟩
   ·simp only [go_sem,e8];try simp
   ·simp only [go_sem];try simp
   ·simp only [go_sem];try simp
   ·simp only [go_sem,hsu,d2,hRr];try simp [kM,f2,hRr,jm,jl,gP,gQ,vY]
  ·have d1:decide (k<i)=true:=aI (by omega)
   have d2:decide (k<i+1)=true:=aI (by omega)
   have f1:k<i:=by omega
   have f2:k<i+1:=by omega
   rw [aV (show ¬i=k by omega)] at hsu
   have hRi:R.flatMap (fun r=>r.flatMap bU)=[911]:=by
    rw [← hR]
    exact dq (fun x=>by simp [cb,bU,cG]) (fun x=>by simp [kM,bU,cG]) (by simp;omega)
   obtain ⟨x1,x2,x3⟩:=hxx
   simp only [go_sem,aI h1,aQ,d1,bz f1,hRi,hRf,hRp]
   refine ⟨by omega,h1,?_⟩
   refine an (fun j:Nat=>⟨[(12,.int .i64 j),(11,.ms 907 1 0 j),(10,.mp 10 5 0 0),(9,.int .i64 i),(3,.mp 3 12 0 0),(2,.mp 2 12 0 0),(1,.mp 1 12 0 0)],[(1,⟨33,12,[dQ m],true⟩),(2,⟨33,12,[[.nl,.nl,.nl,.nl,.nl,.nl,.nl,.bool false,.int .i64 0,.nl,.nl,.nl]],true⟩),(3,⟨33,12,[[.ms 901 2 0 m.ts.length,.ms 48 13 0 m.ims.length,.ms 902 3 0 m.fs.length,.ms 80 4 0 m.tbs.length,.ms 85 3 0 m.ms.length,.ms 903 3 0 m.gs.length,.ms 116 3 0 m.exs.length,.bool m.hs,.int .i64 m.st,.ms 904 5 0 i,.nl,.nl]],true⟩),(901,⟨51,2,m.ts.map bQ,false⟩),(48,⟨61,13,m.ims.map cW,false⟩),(902,⟨64,3,m.fs.map bF,false⟩),(80,⟨57,4,m.tbs.map dG,false⟩),(85,⟨55,3,m.ms.map dA,false⟩),(903,⟨66,3,m.gs.map df,false⟩),(116,⟨68,3,m.exs.map dU,false⟩),(904,⟨70,5,R,true⟩),(10,⟨70,5,[cb (ac m.els i)],true⟩),(907,⟨62,1,((ac m.els i).it.take j).map bY,false⟩),(911,⟨62,1,(ac m.els k).it.map bY,false⟩)]⟩) (fun j=>j≤(ac m.els i).it.length) (fun j=>(ac m.els i).it.length - j) 0 (cC _) ((Wk.nil _ 11 907 1 62 (by simp only [go_sem]) (.inl (by decide))).trans (Wk.of ?_ ?_)) ?_
   ·simp only [go_sem,St.mknil];try simp [go_sem]
   ·simp only [go_sem,St.mknil,bE,hRi,hRf,hRp];try simp [go_sem,aQ]
   intro j hj
   have hjl:((ac m.els i).it.take j).length=j:=by simp;omega
   by_cases g1:(j:Int)<((ac m.els i).it.length:Int)
   ·have hj':j<(ac m.els i).it.length:=by omega
    have e9:=wi (n:=(j:Int)+1) (by omega) (by omega)
    have hap2:=fun ys=>aA 907 62 1 j bY ((ac m.els i).it.take j) ys hjl
    have tn2:=aU hj'
    simp only [go_sem,aI g1,aQ,bn,hRi,hRf,hRp]
    refine ⟨by omega,g1,?_⟩
    refine aa (bX (ac (ac m.els i).it j) (aO x3 hj')) ?_
    simp only [go_sem,hap2,hRi,hRf,hRp]
    refine ⟨by omega,aC (j+1) (show j+1≤(ac m.els i).it.length by omega) (show (ac m.els i).it.length - (j+1)<(ac m.els i).it.length - j by omega) (Wk.of ?_ ?_)⟩
    ·simp only [go_sem,e9];try simp
    ·simp only [go_sem,tn2,List.map_append,hRi,hRf,hRp];try simp [bn,aQ]
   obtain rfl:j=(ac m.els i).it.length:=by omega
   simp only [go_sem,az g1,aQ,bJ,hRi,hRf,hRp]
   refine ar (bX (ac m.els i).o x1) (by simp [go_sem]) rfl ?_
   simp only [go_sem,hRi,hRf,hRp]
   refine ba _ ((Wk.frzs [907] _).trans (Wk.unr _ 162 (by rfl) (by simp only [go_sem,fq,aB,ap]))) ?_
   simp only [go_sem,aB,ap,happ,happR,hRn,hRi,hRf,hRp]
   refine ⟨by omega,aC (i+1) (show i+1≤m.els.length by omega) (show m.els.length - (i+1)<m.els.length - i by omega) (Wk.of ?_ ?_)⟩
   ·simp only [go_sem,e8];try simp
   ·simp only [go_sem,hsu,d2];try simp [aQ,f1,f2]
 obtain rfl:i=m.els.length:=by omega
 rw [bJ]
 have hRp:∀j,¬j=911→(au cb kM k m.els).map (fun r=>r.map (bW j))=au cb kM k m.els:=fun j hj=>bG (fun x=>by simp [cb,bW,mC,mP]) (fun x=>by simp [kM,bW,mC,mP,Ne.symm hj])
 have hRi:(au cb kM k m.els).flatMap (fun r=>r.flatMap bU)=[911]:=dq (fun x=>by simp [cb,bU,cG]) (fun x=>by simp [kM,bU,cG]) hk
 have hRf:∀j o,¬j=911→(au cb kM k m.els).map (fun r=>r.map (ci j o))=au cb kM k m.els:=fun j o hj=>bG (fun x=>by simp [cb,ci,cT]) (fun x=>by simp [kM,ci,cT,Ne.symm hj])
 have dk:decide (k<m.els.length)=true:=aI hk
 obtain ⟨R,hR⟩:∃R,au cb kM k m.els=R:=⟨_,rfl⟩
 rw [hR] at hRp hRi hRf
 simp only [go_sem,az h1,dk,hR,bz hk,hRp,hRi,hRf]
 clear h1 hi hil
 refine an (fun i:Nat=>⟨[(13,.int .i64 i),(3,.mp 3 12 0 0),(2,.mp 2 12 0 0),(1,.mp 1 12 0 0)],[(1,⟨33,12,[dQ m],true⟩),(2,⟨33,12,[[.nl,.nl,.nl,.nl,.nl,.nl,.nl,.bool false,.int .i64 0,.nl,.nl,.nl]],true⟩),(3,⟨33,12,[[.ms 901 2 0 m.ts.length,.ms 48 13 0 m.ims.length,.ms 902 3 0 m.fs.length,.ms 80 4 0 m.tbs.length,.ms 85 3 0 m.ms.length,.ms 903 3 0 m.gs.length,.ms 116 3 0 m.exs.length,.bool m.hs,.int .i64 m.st,.ms 904 5 0 m.els.length,.ms 905 4 0 i,.nl]],true⟩),(901,⟨51,2,m.ts.map bQ,false⟩),(48,⟨61,13,m.ims.map cW,false⟩),(902,⟨64,3,m.fs.map bF,false⟩),(80,⟨57,4,m.tbs.map dG,false⟩),(85,⟨55,3,m.ms.map dA,false⟩),(903,⟨66,3,m.gs.map df,false⟩),(116,⟨68,3,m.exs.map dU,false⟩),(904,⟨70,5,R,true⟩),(911,⟨62,1,(ac m.els k).it.map bY,false⟩),(905,⟨73,4,(m.ds.take i).map cM,false⟩)]⟩) (fun i=>i≤m.ds.length) (fun i=>m.ds.length - i) 0 (cC _) ((Wk.new0 _ 905 4 73 (.inl (by decide))).trans ((Wk.nlm _ 3 (r:=[.ms 901 2 0 m.ts.length,.ms 48 13 0 m.ims.length,.ms 902 3 0 m.fs.length,.ms 80 4 0 m.tbs.length,.ms 85 3 0 m.ms.length,.ms 903 3 0 m.gs.length,.ms 116 3 0 m.exs.length,.bool m.hs,.int .i64 m.st,.ms 904 5 0 m.els.length,.nl,.nl]) rfl (r':=[.ms 901 2 0 m.ts.length,.ms 48 13 0 m.ims.length,.ms 902 3 0 m.fs.length,.ms 80 4 0 m.tbs.length,.ms 85 3 0 m.ms.length,.ms 903 3 0 m.gs.length,.ms 116 3 0 m.exs.length,.bool m.hs,.int .i64 m.st,.ms 904 5 0 m.els.length,.ms 905 4 0 0,.nl]) ⟨.inl rfl,.inl rfl,.inl rfl,.inl rfl,.inl rfl,.inl rfl,.inl rfl,.inl rfl,.inl rfl,.inl rfl,.inr ⟨rfl,.inr ⟨_,_,rfl⟩⟩,.inl rfl,trivial⟩).trans (Wk.of ?_ ?_))) ?_
 ·simp only [go_sem];try simp [go_sem]
 ·simp only [go_sem,bE,hRp,hRi,hRf];try simp [go_sem,au,hRp,hRi,hRf]
 intro i hi
 have hil:(m.ds.take i).length=i:=by simp;omega
 by_cases h1:(i:Int)<(m.ds.length:Int)
 ·have hi':i<m.ds.length:=by omega
  have hlb:=h.ds.1
  have e8:=wi (n:=(i:Int)+1) (by omega) (by omega)
  have hxx:=aO h.ds.2 hi'
  have tn:=aU hi'
  have happ:=fun ys=>aA 905 73 4 i cM (m.ds.take i) ys hil
  have a186:=fun ys=>aG 186 5 1 ys
  obtain ⟨x1,x2⟩:=hxx
  simp only [go_sem,aI h1,bB,hRp,hRi,hRf]
  refine ⟨by omega,h1,?_⟩
  refine ar (bX (ac m.ds i).o x1) (by simp [go_sem]) rfl ?_
  simp only [go_sem,a186,hRp,hRi,hRf]
  refine ⟨by omega,?_⟩
  refine ba _ ((Wk.frzs [186] _).trans (Wk.unr _ 191 (by rfl) (by simp only [go_sem,fq,aB,ap]))) ?_
  simp only [go_sem,aB,ap,happ,hRp,hRi,hRf]
  refine ⟨by omega,aC (i+1) (show i+1≤m.ds.length by omega) (show m.ds.length - (i+1)<m.ds.length - i by omega) (Wk.of ?_ ?_)⟩
  ·simp only [go_sem,e8];try simp
  ·simp only [go_sem,tn,List.map_append];try simp [bB]
 obtain rfl:i=m.ds.length:=by omega
 simp only [go_sem,az h1,bJ,hRp,hRi,hRf]
 clear h1 hi hil
 refine an (fun i:Nat=>⟨[(15,.int .i64 i),(3,.mp 3 12 0 0),(2,.mp 2 12 0 0),(1,.mp 1 12 0 0)],[(1,⟨33,12,[dQ m],true⟩),(2,⟨33,12,[[.nl,.nl,.nl,.nl,.nl,.nl,.nl,.bool false,.int .i64 0,.nl,.nl,.nl]],true⟩),(3,⟨33,12,[[.ms 901 2 0 m.ts.length,.ms 48 13 0 m.ims.length,.ms 902 3 0 m.fs.length,.ms 80 4 0 m.tbs.length,.ms 85 3 0 m.ms.length,.ms 903 3 0 m.gs.length,.ms 116 3 0 m.exs.length,.bool m.hs,.int .i64 m.st,.ms 904 5 0 m.els.length,.ms 905 4 0 m.ds.length,.ms 906 3 0 i]],true⟩),(901,⟨51,2,m.ts.map bQ,false⟩),(48,⟨61,13,m.ims.map cW,false⟩),(902,⟨64,3,m.fs.map bF,false⟩),(80,⟨57,4,m.tbs.map dG,false⟩),(85,⟨55,3,m.ms.map dA,false⟩),(903,⟨66,3,m.gs.map df,false⟩),(116,⟨68,3,m.exs.map dU,false⟩),(904,⟨70,5,R,true⟩),(911,⟨62,1,(ac m.els k).it.map bY,false⟩),(905,⟨73,4,m.ds.map cM,false⟩),(906,⟨75,3,(m.cs.take i).map eW,false⟩)]⟩) (fun i=>i≤m.cs.length) (fun i=>m.cs.length - i) 0 (cC _) ((Wk.new0 _ 906 3 75 (.inl (by decide))).trans ((Wk.nlm _ 3 (r:=[.ms 901 2 0 m.ts.length,.ms 48 13 0 m.ims.length,.ms 902 3 0 m.fs.length,.ms 80 4 0 m.tbs.length,.ms 85 3 0 m.ms.length,.ms 903 3 0 m.gs.length,.ms 116 3 0 m.exs.length,.bool m.hs,.int .i64 m.st,.ms 904 5 0 m.els.length,.ms 905 4 0 m.ds.length,.nl]) rfl (r':=[.ms 901 2 0 m.ts.length,.ms 48 13 0 m.ims.length,.ms 902 3 0 m.fs.length,.ms 80 4 0 m.tbs.length,.ms 85 3 0 m.ms.length,.ms 903 3 0 m.gs.length,.ms 116 3 0 m.exs.length,.bool m.hs,.int .i64 m.st,.ms 904 5 0 m.els.length,.ms 905 4 0 m.ds.length,.ms 906 3 0 0]) ⟨.inl rfl,.inl rfl,.inl rfl,.inl rfl,.inl rfl,.inl rfl,.inl rfl,.inl rfl,.inl rfl,.inl rfl,.inl rfl,.inr ⟨rfl,.inr ⟨_,_,rfl⟩⟩,trivial⟩).trans (Wk.of ?_ ?_))) ?_
 ·simp only [go_sem];try simp [go_sem]
 ·simp only [go_sem,bE,hRp,hRi,hRf];try simp [go_sem,au,hRp,hRi,hRf]
 intro i hi
 have hil:(m.cs.take i).length=i:=by simp;omega
 by_cases h1:(i:Int)<(m.cs.length:Int)
 ·have hi':i<m.cs.length:=by omega
  have hlb:=h.cs.1
  have e8:=wi (n:=(i:Int)+1) (by omega) (by omega)
  have hxx:=aO h.cs.2 hi'
  have tn:=aU hi'
  have happ:=fun ys=>aA 906 75 3 i eW (m.cs.take i) ys hil
  have a212:=fun ys=>aG 212 5 1 ys
  simp only [go_sem,aI h1,bv,a212,hRp,hRi,hRf]
  refine ⟨by omega,h1,by have:_≤1048576:=hxx;omega,?_⟩
  refine ba _ ((Wk.frzs [212] _).trans (Wk.unr _ 217 (by rfl) (by simp only [go_sem,fq,aB,ap]))) ?_
  simp only [go_sem,aB,ap,happ,hRp,hRi,hRf]
  refine ⟨by omega,aC (i+1) (show i+1≤m.cs.length by omega) (show m.cs.length - (i+1)<m.cs.length - i by omega) (Wk.of ?_ ?_)⟩
  ·simp only [go_sem,e8];try simp
  ·simp only [go_sem,tn,List.map_append];try simp [bv]
 obtain rfl:i=m.cs.length:=by omega
 simp only [go_sem,az h1,bJ,hRp,hRi,hRf]
 clear h1 hi hil
 exact done [] (.agg [.ms 901 2 0 m.ts.length,.ms 48 13 0 m.ims.length,.ms 902 3 0 m.fs.length,.ms 80 4 0 m.tbs.length,.ms 85 3 0 m.ms.length,.ms 903 3 0 m.gs.length,.ms 116 3 0 m.exs.length,.bool m.hs,.int .i64 m.st,.ms 904 5 0 m.els.length,.ms 905 4 0 m.ds.length,.ms 906 3 0 m.cs.length]) [(901,⟨51,2,m.ts.map bQ,false⟩),(48,⟨61,13,m.ims.map cW,false⟩),(902,⟨64,3,m.fs.map bF,false⟩),(80,⟨57,4,m.tbs.map dG,false⟩),(85,⟨55,3,m.ms.map dA,false⟩),(903,⟨66,3,m.gs.map df,false⟩),(116,⟨68,3,m.exs.map dU,false⟩),(904,⟨70,5,R,true⟩),(911,⟨62,1,(ac m.els k).it.map bY,false⟩),(905,⟨73,4,m.ds.map cM,false⟩),(906,⟨75,3,m.cs.map eW,false⟩)] (by rfl) ⟨rfl,rfl,rfl,rfl,rfl,rfl,rfl,rfl,rfl,rfl,rfl,trivial⟩ (by simp [vA,cU,hRi,go_sem]) ⟨rfl,by rw [← hR]⟩
theorem Fd (m:Md) (h:mH m) (k:Nat) (hk:k<m.ds.length):br Tryz.prog ph [cE m] [] sb (fun r' σ'=>r' = .agg [.ms 901 2 0 m.ts.length,.ms 48 13 0 m.ims.length,.ms 902 3 0 m.fs.length,.ms 80 4 0 m.tbs.length,.ms 85 3 0 m.ms.length,.ms 903 3 0 m.gs.length,.ms 116 3 0 m.exs.length,.bool m.hs,.int .i64 m.st,.ms 904 5 0 m.els.length,.ms 905 4 0 m.ds.length,.ms 906 3 0 m.cs.length]∧σ'=[(901,⟨51,2,m.ts.map bQ,false⟩),(48,⟨61,13,m.ims.map cW,false⟩),(902,⟨64,3,m.fs.map bF,false⟩),(80,⟨57,4,m.tbs.map dG,false⟩),(85,⟨55,3,m.ms.map dA,false⟩),(903,⟨66,3,m.gs.map df,false⟩),(116,⟨68,3,m.exs.map dU,false⟩),(904,⟨70,5,m.els.map cb,false⟩),(905,⟨73,4,au cM kL k m.ds,true⟩),(911,⟨5,1,(ac m.ds k).b.map m2,false⟩),(906,⟨75,3,m.cs.map eW,false⟩)]):=by
 refine c_ (ic:=ey [34,65,97,149,177,206] gH.body) aq oR rfl rfl ?_
 have a48:=fun ys=>aG 48 61 13 ys
 have a80:=fun ys=>aG 80 57 4 ys
 have a85:=fun ys=>aG 85 55 3 ys
 have a116:=fun ys=>aG 116 68 3 ys
 simp only [go_sem,gH,cE]
 refine an (fun i:Nat=>⟨[(4,.int .i64 i),(3,.mp 3 12 0 0),(2,.mp 2 12 0 0),(1,.mp 1 12 0 0)],[(1,⟨33,12,[dQ m],true⟩),(2,⟨33,12,[[.nl,.nl,.nl,.nl,.nl,.nl,.nl,.bool false,.int .i64 0,.nl,.nl,.nl]],true⟩),(3,⟨33,12,[[.ms 901 2 0 i,.nl,.nl,.nl,.nl,.nl,.nl,.bool m.hs,.int .i64 m.st,.nl,.nl,.nl]],true⟩),(901,⟨51,2,(m.ts.take i).map bQ,false⟩)]⟩) (fun i=>i≤m.ts.length) (fun i=>m.ts.length - i) 0 (cC _) ((Wk.new0 _ 901 2 51 (.inl (by decide))).trans ((Wk.nlm _ 3 (r:=[.nl,.nl,.nl,.nl,.nl,.nl,.nl,.bool m.hs,.int .i64 m.st,.nl,.nl,.nl]) rfl (r':=[.ms 901 2 0 0,.nl,.nl,.nl,.nl,.nl,.nl,.bool m.hs,.int .i64 m.st,.nl,.nl,.nl]) ⟨.inr ⟨rfl,.inr ⟨_,_,rfl⟩⟩,.inl rfl,.inl rfl,.inl rfl,.inl rfl,.inl rfl,.inl rfl,.inl rfl,.inl rfl,.inl rfl,.inl rfl,.inl rfl,trivial⟩).trans (Wk.of ?_ ?_))) ?_
 ·simp only [go_sem];try simp [go_sem]
 ·simp only [go_sem,bE];try simp [go_sem,au]
 intro i hi
 have hil:(m.ts.take i).length=i:=by simp;omega
 by_cases h1:(i:Int)<(m.ts.length:Int)
 ·have hi':i<m.ts.length:=by omega
  have hlb:=h.ts.1
  have e8:=wi (n:=(i:Int)+1) (by omega) (by omega)
  have hxx:=aO h.ts.2 hi'
  have tn:=aU hi'
  have happ:=fun ys=>aA 901 51 2 i bQ (m.ts.take i) ys hil
  have a36:=fun ys=>aG 36 53 1 ys
  have a40:=fun ys=>aG 40 53 1 ys
  obtain ⟨x1,x2⟩:=hxx
  simp only [go_sem,aI h1,bq,a36,a40]
  refine ⟨by omega,h1,by omega,by omega,?_⟩
  refine ba _ ((Wk.frzs [36,40] _).trans (Wk.unr _ 45 (by rfl) (by simp only [go_sem,fq,aB,ap]))) ?_
  simp only [go_sem,aB,ap,happ]
  refine ⟨by omega,aC (i+1) (show i+1≤m.ts.length by omega) (show m.ts.length - (i+1)<m.ts.length - i by omega) (Wk.of ?_ ?_)⟩
  ·simp only [go_sem,e8];try simp
  ·simp only [go_sem,tn,List.map_append];try simp [bq]
 obtain rfl:i=m.ts.length:=by omega
 simp only [go_sem,az h1,bJ,a48]
 clear h1 hi hil
 refine ⟨by have:=h.ims;omega,?_⟩
 refine an (fun i:Nat=>⟨[(6,.int .i64 i),(3,.mp 3 12 0 0),(2,.mp 2 12 0 0),(1,.mp 1 12 0 0)],[(1,⟨33,12,[dQ m],true⟩),(2,⟨33,12,[[.nl,.nl,.nl,.nl,.nl,.nl,.nl,.bool false,.int .i64 0,.nl,.nl,.nl]],true⟩),(3,⟨33,12,[[.ms 901 2 0 m.ts.length,.ms 48 13 0 m.ims.length,.ms 902 3 0 i,.nl,.nl,.nl,.nl,.bool m.hs,.int .i64 m.st,.nl,.nl,.nl]],true⟩),(901,⟨51,2,m.ts.map bQ,false⟩),(48,⟨61,13,m.ims.map cW,false⟩),(902,⟨64,3,(m.fs.take i).map bF,false⟩)]⟩) (fun i=>i≤m.fs.length) (fun i=>m.fs.length - i) 0 (cC _) ((Wk.new0 _ 902 3 64 (.inl (by decide))).trans ((Wk.nlm _ 3 (r:=[.ms 901 2 0 m.ts.length,.ms 48 13 0 m.ims.length,.nl,.nl,.nl,.nl,.nl,.bool m.hs,.int .i64 m.st,.nl,.nl,.nl]) rfl (r':=[.ms 901 2 0 m.ts.length,.ms 48 13 0 m.ims.length,.ms 902 3 0 0,.nl,.nl,.nl,.nl,.bool m.hs,.int .i64 m.st,.nl,.nl,.nl]) ⟨.inl rfl,.inl rfl,.inr ⟨rfl,.inr ⟨_,_,rfl⟩⟩,.inl rfl,.inl rfl,.inl rfl,.inl rfl,.inl rfl,.inl rfl,.inl rfl,.inl rfl,.inl rfl,trivial⟩).trans (Wk.of ?_ ?_))) ?_
 ·simp only [go_sem];try simp [go_sem]
 ·simp only [go_sem,bE];try simp [go_sem,au]
 intro i hi
 have hil:(m.fs.take i).length=i:=by simp;omega
 by_cases h1:(i:Int)<(m.fs.length:Int)
 ·have hi':i<m.fs.length:=by omega
  have hlb:=h.fs.1
  have e8:=wi (n:=(i:Int)+1) (by omega) (by omega)
  have hxx:=aO h.fs.2 hi'
  have tn:=aU hi'
  have happ:=fun ys=>aA 902 64 3 i bF (m.fs.take i) ys hil
  have a69:=fun ys=>aG 69 53 1 ys
  obtain ⟨x1,x2⟩:=hxx
  simp only [go_sem,aI h1,bj,a69]
  refine ⟨by omega,h1,by omega,?_⟩
  refine ar (bX (ac m.fs i).b x2) (by simp [go_sem]) rfl ?_
  simp only [go_sem]
  refine ba _ ((Wk.frzs [69] _).trans (Wk.unr _ 77 (by rfl) (by simp only [go_sem,fq,aB,ap]))) ?_
  simp only [go_sem,aB,ap,happ]
  refine ⟨by omega,aC (i+1) (show i+1≤m.fs.length by omega) (show m.fs.length - (i+1)<m.fs.length - i by omega) (Wk.of ?_ ?_)⟩
  ·simp only [go_sem,e8];try simp
  ·simp only [go_sem,tn,List.map_append];try simp [bj]
 obtain rfl:i=m.fs.length:=by omega
 simp only [go_sem,az h1,bJ,a80,a85]
 clear h1 hi hil
 refine ⟨by have:=h.tbs;omega,by have:=h.ms;omega,?_⟩
 refine an (fun i:Nat=>⟨[(8,.int .i64 i),(3,.mp 3 12 0 0),(2,.mp 2 12 0 0),(1,.mp 1 12 0 0)],[(1,⟨33,12,[dQ m],true⟩),(2,⟨33,12,[[.nl,.nl,.nl,.nl,.nl,.nl,.nl,.bool false,.int .i64 0,.nl,.nl,.nl]],true⟩),(3,⟨33,12,[[.ms 901 2 0 m.ts.length,.ms 48 13 0 m.ims.length,.ms 902 3 0 m.fs.length,.ms 80 4 0 m.tbs.length,.ms 85 3 0 m.ms.length,.ms 903 3 0 i,.nl,.bool m.hs,.int .i64 m.st,.nl,.nl,.nl]],true⟩),(901,⟨51,2,m.ts.map bQ,false⟩),(48,⟨61,13,m.ims.map cW,false⟩),(902,⟨64,3,m.fs.map bF,false⟩),(80,⟨57,4,m.tbs.map dG,false⟩),(85,⟨55,3,m.ms.map dA,false⟩),(903,⟨66,3,(m.gs.take i).map df,false⟩)]⟩) (fun i=>i≤m.gs.length) (fun i=>m.gs.length - i) 0 (cC _) ((Wk.new0 _ 903 3 66 (.inl (by decide))).trans ((Wk.nlm _ 3 (r:=[.ms 901 2 0 m.ts.length,.ms 48 13 0 m.ims.length,.ms 902 3 0 m.fs.length,.ms 80 4 0 m.tbs.length,.ms 85 3 0 m.ms.length,.nl,.nl,.bool m.hs,.int .i64 m.st,.nl,.nl,.nl]) rfl (r':=[.ms 901 2 0 m.ts.length,.ms 48 13 0 m.ims.length,.ms 902 3 0 m.fs.length,.ms 80 4 0 m.tbs.length,.ms 85 3 0 m.ms.length,.ms 903 3 0 0,.nl,.bool m.hs,.int .i64 m.st,.nl,.nl,.nl]) ⟨.inl rfl,.inl rfl,.inl rfl,.inl rfl,.inl rfl,.inr ⟨rfl,.inr ⟨_,_,rfl⟩⟩,.inl rfl,.inl rfl,.inl rfl,.inl rfl,.inl rfl,.inl rfl,trivial⟩).trans (Wk.of ?_ ?_))) ?_
 ·simp only [go_sem];try simp [go_sem]
 ·simp only [go_sem,bE];try simp [go_sem,au]
 intro i hi
 have hil:(m.gs.take i).length=i:=by simp;omega
 by_cases h1:(i:Int)<(m.gs.length:Int)
 ·have hi':i<m.gs.length:=by omega
  have hlb:=h.gs.1
  have e8:=wi (n:=(i:Int)+1) (by omega) (by omega)
  have hxx:=aO h.gs.2 hi'
  have tn:=aU hi'
  have happ:=fun ys=>aA 903 66 3 i df (m.gs.take i) ys hil
  simp only [go_sem,aI h1,bK]
  refine ⟨by omega,h1,by omega,h1,?_⟩
  refine ar (bX (ac m.gs i).i hxx) (by simp [go_sem]) rfl ?_
  simp only [go_sem]
  refine ba _ (Wk.refl _) ?_
  simp only [go_sem,aB,ap,happ]
  refine ⟨by omega,aC (i+1) (show i+1≤m.gs.length by omega) (show m.gs.length - (i+1)<m.gs.length - i by omega) (Wk.of ?_ ?_)⟩
  ·simp only [go_sem,e8];try simp
  ·simp only [go_sem,tn,List.map_append];try simp [bK]
 obtain rfl:i=m.gs.length:=by omega
 simp only [go_sem,az h1,bJ,a116]
 clear h1 hi hil
 refine ⟨by have:=h.exs;omega,?_⟩
 refine an (fun i:Nat=>⟨[(9,.int .i64 i),(3,.mp 3 12 0 0),(2,.mp 2 12 0 0),(1,.mp 1 12 0 0)],[(1,⟨33,12,[dQ m],true⟩),(2,⟨33,12,[[.nl,.nl,.nl,.nl,.nl,.nl,.nl,.bool false,.int .i64 0,.nl,.nl,.nl]],true⟩),(3,⟨33,12,[[.ms 901 2 0 m.ts.length,.ms 48 13 0 m.ims.length,.ms 902 3 0 m.fs.length,.ms 80 4 0 m.tbs.length,.ms 85 3 0 m.ms.length,.ms 903 3 0 m.gs.length,.ms 116 3 0 m.exs.length,.bool m.hs,.int .i64 m.st,.ms 904 5 0 i,.nl,.nl]],true⟩),(901,⟨51,2,m.ts.map bQ,false⟩),(48,⟨61,13,m.ims.map cW,false⟩),(902,⟨64,3,m.fs.map bF,false⟩),(80,⟨57,4,m.tbs.map dG,false⟩),(85,⟨55,3,m.ms.map dA,false⟩),(903,⟨66,3,m.gs.map df,false⟩),(116,⟨68,3,m.exs.map dU,false⟩),(904,⟨70,5,(m.els.take i).map cb,false⟩)]⟩) (fun i=>i≤m.els.length) (fun i=>m.els.length - i) 0 (cC _) ((Wk.new0 _ 904 5 70 (.inl (by decide))).trans ((Wk.nlm _ 3 (r:=[.ms 901 2 0 m.ts.length,.ms 48 13 0 m.ims.length,.ms 902 3 0 m.fs.length,.ms 80 4 0 m.tbs.length,.ms 85 3 0 m.ms.length,.ms 903 3 0 m.gs.length,.ms 116 3 0 m.exs.length,.bool m.hs,.int .i64 m.st,.nl,.nl,.nl]) rfl (r':=[.ms 901 2 0 m.ts.length,.ms 48 13 0 m.ims.length,.ms 902 3 0 m.fs.length,.ms 80 4 0 m.tbs.length,.ms 85 3 0 m.ms.length,.ms 903 3 0 m.gs.length,.ms 116 3 0 m.exs.length,.bool m.hs,.int .i64 m.st,.ms 904 5 0 0,.nl,.nl]) ⟨.inl rfl,.inl rfl,.inl rfl,.inl rfl,.inl rfl,.inl rfl,.inl rfl,.inl rfl,.inl rfl,.inr ⟨rfl,.inr ⟨_,_,rfl⟩⟩,.inl rfl,.inl rfl,trivial⟩).trans (Wk.of ?_ ?_))) ?_
 ·simp only [go_sem];try simp [go_sem]
 ·simp only [go_sem,bE];try simp [go_sem,au]
 intro i hi
 have hil:(m.els.take i).length=i:=by simp;omega
 by_cases h1:(i:Int)<(m.els.length:Int)
 ·have hi':i<m.els.length:=by omega
  have hlb:=h.els.1
  have e8:=wi (n:=(i:Int)+1) (by omega) (by omega)
  have hxx:=aO h.els.2 hi'
  have tn:=aU hi'
  have happ:=fun ys=>aA 904 70 5 i cb (m.els.take i) ys hil
  obtain ⟨x1,x2,x3⟩:=hxx
  simp only [go_sem,aI h1,aQ]
  refine ⟨by omega,h1,?_⟩
  refine an (fun j:Nat=>⟨[(12,.int .i64 j),(11,.ms 907 1 0 j),(10,.mp 10 5 0 0),(9,.int .i64 i),(3,.mp 3 12 0 0),(2,.mp 2 12 0 0),(1,.mp 1 12 0 0)],[(1,⟨33,12,[dQ m],true⟩),(2,⟨33,12,[[.nl,.nl,.nl,.nl,.nl,.nl,.nl,.bool false,.int .i64 0,.nl,.nl,.nl]],true⟩),(3,⟨33,12,[[.ms 901 2 0 m.ts.length,.ms 48 13 0 m.ims.length,.ms 902 3 0 m.fs.length,.ms 80 4 0 m.tbs.length,.ms 85 3 0 m.ms.length,.ms 903 3 0 m.gs.length,.ms 116 3 0 m.exs.length,.bool m.hs,.int .i64 m.st,.ms 904 5 0 i,.nl,.nl]],true⟩),(901,⟨51,2,m.ts.map bQ,false⟩),(48,⟨61,13,m.ims.map cW,false⟩),(902,⟨64,3,m.fs.map bF,false⟩),(80,⟨57,4,m.tbs.map dG,false⟩),(85,⟨55,3,m.ms.map dA,false⟩),(903,⟨66,3,m.gs.map df,false⟩),(116,⟨68,3,m.exs.map dU,false⟩),(904,⟨70,5,(m.els.take i).map cb,false⟩),(10,⟨70,5,[cb (ac m.els i)],true⟩),(907,⟨62,1,((ac m.els i).it.take j).map bY,false⟩)]⟩) (fun j=>j≤(ac m.els i).it.length) (fun j=>(ac m.els i).it.length - j) 0 (cC _) ((Wk.nil _ 11 907 1 62 (by simp only [go_sem]) (.inl (by decide))).trans (Wk.of ?_ ?_)) ?_
  ·simp only [go_sem,St.mknil];try simp [go_sem]
  ·simp only [go_sem,St.mknil,bE];try simp [go_sem,aQ]
  intro j hj
  have hjl:((ac m.els i).it.take j).length=j:=by simp;omega
  by_cases g1:(j:Int)<((ac m.els i).it.length:Int)
  ·have hj':j<(ac m.els i).it.length:=by omega
   have e9:=wi (n:=(j:Int)+1) (by omega) (by omega)
   have hap2:=fun ys=>aA 907 62 1 j bY ((ac m.els i).it.take j) ys hjl
   have tn2:=aU hj'
   simp only [go_sem,aI g1,aQ,bn]
   refine ⟨by omega,g1,?_⟩
   refine aa (bX (ac (ac m.els i).it j) (aO x3 hj')) ?_
   simp only [go_sem,hap2]
   refine ⟨by omega,aC (j+1) (show j+1≤(ac m.els i).it.length by omega) (show (ac m.els i).it.length - (j+1)<(ac m.els i).it.length - j by omega) (Wk.of ?_ ?_)⟩
   ·simp only [go_sem,e9];try simp
   ·simp only [go_sem,tn2,List.map_append];try simp [bn,aQ]
  obtain rfl:j=(ac m.els i).it.length:=by omega
  simp only [go_sem,az g1,aQ,bJ]
  refine ar (bX (ac m.els i).o x1) (by simp [go_sem]) rfl ?_
  simp only [go_sem]
  refine ba _ ((Wk.frzs [907] _).trans (Wk.unr _ 162 (by rfl) (by simp only [go_sem,fq,aB,ap]))) ?_
  simp only [go_sem,aB,ap,happ]
  refine ⟨by omega,aC (i+1) (show i+1≤m.els.length by omega) (show m.els.length - (i+1)<m.els.length - i by omega) (Wk.of ?_ ?_)⟩
  ·simp only [go_sem,e8];try simp
  ·simp only [go_sem,tn,List.map_append];try simp [aQ]
 obtain rfl:i=m.els.length:=by omega
 simp only [go_sem,az h1,bJ]
 clear h1 hi hil
 refine an (fun i:Nat=>⟨[(13,.int .i64 i),(3,.mp 3 12 0 0),(2,.mp 2 12 0 0),(1,.mp 1 12 0 0)],[(1,⟨33,12,[dQ m],true⟩),(2,⟨33,12,[[.nl,.nl,.nl,.nl,.nl,.nl,.nl,.bool false,.int .i64 0,.nl,.nl,.nl]],true⟩),(3,⟨33,12,[[.ms 901 2 0 m.ts.length,.ms 48 13 0 m.ims.length,.ms 902 3 0 m.fs.length,.ms 80 4 0 m.tbs.length,.ms 85 3 0 m.ms.length,.ms 903 3 0 m.gs.length,.ms 116 3 0 m.exs.length,.bool m.hs,.int .i64 m.st,.ms 904 5 0 m.els.length,.ms 905 4 0 i,.nl]],true⟩),(901,⟨51,2,m.ts.map bQ,false⟩),(48,⟨61,13,m.ims.map cW,false⟩),(902,⟨64,3,m.fs.map bF,false⟩),(80,⟨57,4,m.tbs.map dG,false⟩),(85,⟨55,3,m.ms.map dA,false⟩),(903,⟨66,3,m.gs.map df,false⟩),(116,⟨68,3,m.exs.map dU,false⟩),(904,⟨70,5,m.els.map cb,false⟩),(905,⟨73,4,au cM kL k (m.ds.take i),decide (k<i)⟩),(911,⟨5,1,if k<i then (ac m.ds k).b.map m2 else [],false⟩)]⟩) (fun i=>i≤m.ds.length) (fun i=>m.ds.length - i) 0 (cC _) ((Wk.new0 _ 911 1 5 (.inl (by decide))).trans ((Wk.new0 _ 905 4 73 (.inl (by decide))).trans ((Wk.nlm _ 3 (r:=[.ms 901 2 0 m.ts.length,.ms 48 13 0 m.ims.length,.ms 902 3 0 m.fs.length,.ms 80 4 0 m.tbs.length,.ms 85 3 0 m.ms.length,.ms 903 3 0 m.gs.length,.ms 116 3 0 m.exs.length,.bool m.hs,.int .i64 m.st,.ms 904 5 0 m.els.length,.nl,.nl]) rfl (r':=[.ms 901 2 0 m.ts.length,.ms 48 13 0 m.ims.length,.ms 902 3 0 m.fs.length,.ms 80 4 0 m.tbs.length,.ms 85 3 0 m.ms.length,.ms 903 3 0 m.gs.length,.ms 116 3 0 m.exs.length,.bool m.hs,.int .i64 m.st,.ms 904 5 0 m.els.length,.ms 905 4 0 0,.nl]) ⟨.inl rfl,.inl rfl,.inl rfl,.inl rfl,.inl rfl,.inl rfl,.inl rfl,.inl rfl,.inl rfl,.inl rfl,.inr ⟨rfl,.inr ⟨_,_,rfl⟩⟩,.inl rfl,trivial⟩).trans (Wk.of ?_ ?_)))) ?_
 ·simp only [go_sem];try simp [go_sem]
 ·simp only [go_sem,bE];try simp [go_sem,au]
 intro i hi
 have hil:(m.ds.take i).length=i:=by simp;omega
 by_cases h1:(i:Int)<(m.ds.length:Int)
 ·have hi':i<m.ds.length:=by omega
  have hlb:=h.ds.1
  have e8:=wi (n:=(i:Int)+1) (by omega) (by omega)
  have hxx:=aO h.ds.2 hi'
  have tn:=aU hi'
  have hRl:(au cM kL k (m.ds.take i)).length=i:=by rw [gT,hil]
  have hsu:=f_ (c:=cM) (c':=kL) (k:=k) hi'
  have happ:=fun ys=>fP 905 73 4 i (au cM kL k (m.ds.take i)) ys hRl
  have happR:=fun ys q=>fT 905 73 4 i (au cM kL k (m.ds.take i)) ys q hRl
  have hRp:∀j,¬j=911→(au cM kL k (m.ds.take i)).map (fun r=>r.map (bW j))=au cM kL k (m.ds.take i):=fun j hj=>bG (fun x=>by simp [cM,bW,mC,mP]) (fun x=>by simp [kL,bW,mC,mP,Ne.symm hj])
  have hRf:∀j o,¬j=911→(au cM kL k (m.ds.take i)).map (fun r=>r.map (ci j o))=au cM kL k (m.ds.take i):=fun j o hj=>bG (fun x=>by simp [cM,ci,cT]) (fun x=>by simp [kL,ci,cT,Ne.symm hj])
  have hRn:i3 905 (au cM kL k (m.ds.take i))=true:=gS (fun x=>by simp [cM,mC,mP]) (fun x=>by simp [kL,mC,mP])
  generalize hR:au cM kL k (m.ds.take i)=R at *
  rcases Nat.lt_trichotomy i k with hk | hk | hk
  ·have d1:decide (k<i)=false:=az (by omega)
   have d2:decide (k<i+1)=false:=az (by omega)
   have f1:¬k<i:=by omega
   have f2:¬k<i+1:=by omega
   rw [aV (show ¬i=k by omega)] at hsu
   have a186:=fun ys=>aG 186 5 1 ys
   obtain ⟨x1,x2⟩:=hxx
   simp only [go_sem,aI h1,bB,d1,hRp]
   refine ⟨by omega,h1,?_⟩
   refine ar (bX (ac m.ds i).o x1) (by simp [go_sem]) rfl ?_
   simp only [go_sem,a186,hRp]
   refine ⟨by omega,?_⟩
   refine ba _ ((Wk.frzs [186] _).trans (Wk.unr _ 191 (by rfl) (by simp only [go_sem,fq,aB,ap]))) ?_
   simp only [go_sem,aB,ap,happ,happR,hRn,hRp]
   refine ⟨by omega,aC (i+1) (show i+1≤m.ds.length by omega) (show m.ds.length - (i+1)<m.ds.length - i by omega) (Wk.of ?_ ?_)⟩
   ·simp only [go_sem,e8];try simp
   ·simp only [go_sem,hsu,d2];try simp [bB,f1,f2]
  ·subst hk
   have d1:decide (i<i)=false:=az (by omega)
   have d2:decide (i<i+1)=true:=aI (by omega)
   have f1:¬i<i:=by omega
   have f2:i<i+1:=by omega
   rw [bz rfl] at hsu
   have a186:=fun ys=>aG 186 5 1 ys
   obtain ⟨x1,x2⟩:=hxx
   simp only [go_sem,aI h1,bB,d1,hRp]
   refine ⟨by omega,h1,?_⟩
   refine ar (bX (ac m.ds i).o x1) (by simp [go_sem]) rfl ?_
   simp only [go_sem,a186,hRp]
   refine ⟨by omega,?_⟩
   refine ba _ (Wk.refl _) ?_
   simp only [go_sem,aB,ap,happ,happR,hRn,hRp]
   have hRr:R.map (fun r=>r.map (eD (fw [(186,911)])))=R:=by
    rw [← hR]
    rw [f9 (by simp;omega),List.map_map]
    exact List.map_congr_left fun x _=>by simp [cM,eD,jt]
   refine ⟨by omega,aC (i+1) (show i+1≤m.ds.length by omega) (show m.ds.length - (i+1)<m.ds.length - i by omega) ((Wk.of (s':=⟨[(13,.int .i64 ((i+1:Nat):Int)),(3,.mp 3 12 0 0),(2,.mp 2 12 0 0),(1,.mp 1 12 0 0)],[(1,⟨33,12,[dQ m],true⟩),(2,⟨33,12,[[.nl,.nl,.nl,.nl,.nl,.nl,.nl,.bool false,.int .i64 0,.nl,.nl,.nl]],true⟩),(3,⟨33,12,[[.ms 901 2 0 m.ts.length,.ms 48 13 0 m.ims.length,.ms 902 3 0 m.fs.length,.ms 80 4 0 m.tbs.length,.ms 85 3 0 m.ms.length,.ms 903 3 0 m.gs.length,.ms 116 3 0 m.exs.length,.bool m.hs,.int .i64 m.st,.ms 904 5 0 m.els.length,.ms 905 4 0 (i+1),.nl]],true⟩),(901,⟨51,2,m.ts.map bQ,false⟩),(48,⟨61,13,m.ims.map cW,false⟩),(902,⟨64,3,m.fs.map bF,false⟩),(80,⟨57,4,m.tbs.map dG,false⟩),(85,⟨55,3,m.ms.map dA,false⟩),(903,⟨66,3,m.gs.map df,false⟩),(116,⟨68,3,m.exs.map dU,false⟩),(904,⟨70,5,m.els.map cb,false⟩),(905,⟨73,4,R++[[.int .i64 (ac m.ds i).mo,.int .i64 (ac m.ds i).me,.sl 9 ((ac m.ds i).o.map aW),.ms 186 1 0 (ac m.ds i).b.length]],true⟩),(186,⟨5,1,(ac m.ds i).b.map m2,false⟩)]⟩) ?_ ?_).trans ((Wk.ren _ [(186,911)] (fun id h1 h2=>by show jb 186 911 id=id;unfold jb;rw [aV (by omega),aV (by omega)])).trans (Wk.of ?_ ?_)))⟩
   ·simp only [go_sem,e8];try simp
   ·simp only [go_sem];try simp
   ·simp only [go_sem];try simp
   ·simp only [go_sem,hsu,d2,hRr];try simp [kL,f2,hRr,jm,jl,gP,gQ,vY]
  ·have d1:decide (k<i)=true:=aI (by omega)
   have d2:decide (k<i+1)=true:=aI (by omega)
   have f1:k<i:=by omega
   have f2:k<i+1:=by omega
   rw [aV (show ¬i=k by omega)] at hsu
   have hRi:R.flatMap (fun r=>r.flatMap bU)=[911]:=by
    rw [← hR]
    exact dq (fun x=>by simp [cM,bU,cG]) (fun x=>by simp [kL,bU,cG]) (by simp;omega)
   have a186:=fun ys=>aG 186 5 1 ys
   obtain ⟨x1,x2⟩:=hxx
   simp only [go_sem,aI h1,bB,d1,hRi,hRf,hRp]
   refine ⟨by omega,h1,?_⟩
   refine ar (bX (ac m.ds i).o x1) (by simp [go_sem]) rfl ?_
   simp only [go_sem,a186,hRi,hRf,hRp]
   refine ⟨by omega,?_⟩
   refine ba _ ((Wk.frzs [186] _).trans (Wk.unr _ 191 (by rfl) (by simp only [go_sem,fq,aB,ap]))) ?_
   simp only [go_sem,aB,ap,happ,happR,hRn,hRi,hRf,hRp]
   refine ⟨by omega,aC (i+1) (show i+1≤m.ds.length by omega) (show m.ds.length - (i+1)<m.ds.length - i by omega) (Wk.of ?_ ?_)⟩
   ·simp only [go_sem,e8];try simp
   ·simp only [go_sem,hsu,d2];try simp [bB,f1,f2]
 obtain rfl:i=m.ds.length:=by omega
 rw [bJ]
 have hRp:∀j,¬j=911→(au cM kL k m.ds).map (fun r=>r.map (bW j))=au cM kL k m.ds:=fun j hj=>bG (fun x=>by simp [cM,bW,mC,mP]) (fun x=>by simp [kL,bW,mC,mP,Ne.symm hj])
 have hRi:(au cM kL k m.ds).flatMap (fun r=>r.flatMap bU)=[911]:=dq (fun x=>by simp [cM,bU,cG]) (fun x=>by simp [kL,bU,cG]) hk
 have hRf:∀j o,¬j=911→(au cM kL k m.ds).map (fun r=>r.map (ci j o))=au cM kL k m.ds:=fun j o hj=>bG (fun x=>by simp [cM,ci,cT]) (fun x=>by simp [kL,ci,cT,Ne.symm hj])
 have dk:decide (k<m.ds.length)=true:=aI hk
 obtain ⟨R,hR⟩:∃R,au cM kL k m.ds=R:=⟨_,rfl⟩
 rw [hR] at hRp hRi hRf
 simp only [go_sem,az h1,dk,hR,bz hk,hRp,hRi,hRf]
 clear h1 hi hil
 refine an (fun i:Nat=>⟨[(15,.int .i64 i),(3,.mp 3 12 0 0),(2,.mp 2 12 0 0),(1,.mp 1 12 0 0)],[(1,⟨33,12,[dQ m],true⟩),(2,⟨33,12,[[.nl,.nl,.nl,.nl,.nl,.nl,.nl,.bool false,.int .i64 0,.nl,.nl,.nl]],true⟩),(3,⟨33,12,[[.ms 901 2 0 m.ts.length,.ms 48 13 0 m.ims.length,.ms 902 3 0 m.fs.length,.ms 80 4 0 m.tbs.length,.ms 85 3 0 m.ms.length,.ms 903 3 0 m.gs.length,.ms 116 3 0 m.exs.length,.bool m.hs,.int .i64 m.st,.ms 904 5 0 m.els.length,.ms 905 4 0 m.ds.length,.ms 906 3 0 i]],true⟩),(901,⟨51,2,m.ts.map bQ,false⟩),(48,⟨61,13,m.ims.map cW,false⟩),(902,⟨64,3,m.fs.map bF,false⟩),(80,⟨57,4,m.tbs.map dG,false⟩),(85,⟨55,3,m.ms.map dA,false⟩),(903,⟨66,3,m.gs.map df,false⟩),(116,⟨68,3,m.exs.map dU,false⟩),(904,⟨70,5,m.els.map cb,false⟩),(905,⟨73,4,R,true⟩),(911,⟨5,1,(ac m.ds k).b.map m2,false⟩),(906,⟨75,3,(m.cs.take i).map eW,false⟩)]⟩) (fun i=>i≤m.cs.length) (fun i=>m.cs.length - i) 0 (cC _) ((Wk.new0 _ 906 3 75 (.inl (by decide))).trans ((Wk.nlm _ 3 (r:=[.ms 901 2 0 m.ts.length,.ms 48 13 0 m.ims.length,.ms 902 3 0 m.fs.length,.ms 80 4 0 m.tbs.length,.ms 85 3 0 m.ms.length,.ms 903 3 0 m.gs.length,.ms 116 3 0 m.exs.length,.bool m.hs,.int .i64 m.st,.ms 904 5 0 m.els.length,.ms 905 4 0 m.ds.length,.nl]) rfl (r':=[.ms 901 2 0 m.ts.length,.ms 48 13 0 m.ims.length,.ms 902 3 0 m.fs.length,.ms 80 4 0 m.tbs.length,.ms 85 3 0 m.ms.length,.ms 903 3 0 m.gs.length,.ms 116 3 0 m.exs.length,.bool m.hs,.int .i64 m.st,.ms 904 5 0 m.els.length,.ms 905 4 0 m.ds.length,.ms 906 3 0 0]) ⟨.inl rfl,.inl rfl,.inl rfl,.inl rfl,.inl rfl,.inl rfl,.inl rfl,.inl rfl,.inl rfl,.inl rfl,.inl rfl,.inr ⟨rfl,.inr ⟨_,_,rfl⟩⟩,trivial⟩).trans (Wk.of ?_ ?_))) ?_
 ·simp only [go_sem];try simp [go_sem]
 ·simp only [go_sem,bE,hRp,hRi,hRf];try simp [go_sem,au,hRp,hRi,hRf]
 intro i hi
 have hil:(m.cs.take i).length=i:=by simp;omega
 by_cases h1:(i:Int)<(m.cs.length:Int)
 ·have hi':i<m.cs.length:=by omega
  have hlb:=h.cs.1
  have e8:=wi (n:=(i:Int)+1) (by omega) (by omega)
  have hxx:=aO h.cs.2 hi'
  have tn:=aU hi'
  have happ:=fun ys=>aA 906 75 3 i eW (m.cs.take i) ys hil
  have a212:=fun ys=>aG 212 5 1 ys
  simp only [go_sem,aI h1,bv,a212,hRp,hRi,hRf]
  refine ⟨by omega,h1,by have:_≤1048576:=hxx;omega,?_⟩
  refine ba _ ((Wk.frzs [212] _).trans (Wk.unr _ 217 (by rfl) (by simp only [go_sem,fq,aB,ap]))) ?_
  simp only [go_sem,aB,ap,happ,hRp,hRi,hRf]
  refine ⟨by omega,aC (i+1) (show i+1≤m.cs.length by omega) (show m.cs.length - (i+1)<m.cs.length - i by omega) (Wk.of ?_ ?_)⟩
  ·simp only [go_sem,e8];try simp
  ·simp only [go_sem,tn,List.map_append];try simp [bv]
 obtain rfl:i=m.cs.length:=by omega
 simp only [go_sem,az h1,bJ,hRp,hRi,hRf]
 clear h1 hi hil
 exact done [] (.agg [.ms 901 2 0 m.ts.length,.ms 48 13 0 m.ims.length,.ms 902 3 0 m.fs.length,.ms 80 4 0 m.tbs.length,.ms 85 3 0 m.ms.length,.ms 903 3 0 m.gs.length,.ms 116 3 0 m.exs.length,.bool m.hs,.int .i64 m.st,.ms 904 5 0 m.els.length,.ms 905 4 0 m.ds.length,.ms 906 3 0 m.cs.length]) [(901,⟨51,2,m.ts.map bQ,false⟩),(48,⟨61,13,m.ims.map cW,false⟩),(902,⟨64,3,m.fs.map bF,false⟩),(80,⟨57,4,m.tbs.map dG,false⟩),(85,⟨55,3,m.ms.map dA,false⟩),(903,⟨66,3,m.gs.map df,false⟩),(116,⟨68,3,m.exs.map dU,false⟩),(904,⟨70,5,m.els.map cb,false⟩),(905,⟨73,4,R,true⟩),(911,⟨5,1,(ac m.ds k).b.map m2,false⟩),(906,⟨75,3,m.cs.map eW,false⟩)] (by rfl) ⟨rfl,rfl,rfl,rfl,rfl,rfl,rfl,rfl,rfl,rfl,rfl,trivial⟩ (by simp [vA,cU,hRi,go_sem]) ⟨rfl,by rw [← hR]⟩
end
open Go Go.Mw
theorem nN {n y s:Nat} (p:Nat) (hp:2 ^ s=p) (hs:s≤56) (hn:n<p) (hy:y<256):iM .u64 (n:Int) (eH .u64 (y:Int) (s:Int))=((n+y * p:Nat):Int):=by
 subst hp
 rw [Nh (by omega),Bs (by omega) hn]
 have h1:2 ^ s≤2 ^ 56:=Nat.pow_le_pow_right (by decide) hs
 have h2:y * 2 ^ s≤255 * 2 ^ 56:=Nat.mul_le_mul (by omega) h1
 rw [Nat.mod_eq_of_lt (by omega)]
def gC (l:List UInt8):Nat:=(ac l 0).toNat+(ac l 1).toNat * 256+(ac l 2).toNat * 65536+(ac l 3).toNat * 16777216+(ac l 4).toNat * 4294967296+(ac l 5).toNat * 1099511627776+(ac l 6).toNat * 281474976710656+(ac l 7).toNat * 72057594037927936
theorem j5 (l:List UInt8):gC l<18446744073709551616:=by
 have h0:=(ac l 0).toNat_lt;have h1:=(ac l 1).toNat_lt;have h2:=(ac l 2).toNat_lt;have h3:=(ac l 3).toNat_lt
 have h4:=(ac l 4).toNat_lt;have h5:=(ac l 5).toNat_lt;have h6:=(ac l 6).toNat_lt;have h7:=(ac l 7).toNat_lt
 unfold gC
 omega
theorem iZ {w:Nat} (h:w &&& 9259542123273814144=0) {k:Nat} (hk:(9259542123273814144:Nat).testBit k=true):w / 2 ^ k % 2=0:=by
 have h1:(w &&& 9259542123273814144).testBit k=false:=by rw [h];simp
 rw [Nat.testBit_and,hk,Bool.and_true] at h1
 rw [Nat.testBit_eq_decide_div_mod_eq] at h1
 simp at h1
 omega
theorem gr {w p low b high:Nat} (hp:0<p) (hl:low<p) (hb:b<256) (e:w=low+p * (b+256 * high)) (h:w / (p * 128) % 2=0):b<128:=by
 have h1:w / p=b+256 * high:=by rw [e,Nat.add_mul_div_left _ _ hp,Nat.div_eq_of_lt hl,Nat.zero_add]
 rw [← Nat.div_div_eq_div_mul,h1] at h
 omega
theorem FR {l:List UInt8} (h:gC l &&& 9259542123273814144=0):∀i,i<8→(ac l i).toNat<128:=by
 have h0:=(ac l 0).toNat_lt;have h1:=(ac l 1).toNat_lt;have h2:=(ac l 2).toNat_lt;have h3:=(ac l 3).toNat_lt
 have h4:=(ac l 4).toNat_lt;have h5:=(ac l 5).toNat_lt;have h6:=(ac l 6).toNat_lt;have h7:=(ac l 7).toNat_lt
 have g0:(ac l 0).toNat<128:=gr (w:=gC l) (p:=1) (low:=0) (high:=0+(ac l 1).toNat * 1+(ac l 2).toNat * 256+(ac l 3).toNat * 65536+(ac l 4).toNat * 16777216+(ac l 5).toNat * 4294967296+(ac l 6).toNat * 1099511627776+(ac l 7).toNat * 281474976710656) (by decide) (by omega) h0 (by unfold gC;omega) (iZ h (k:=7) (by decide))
 have g1:(ac l 1).toNat<128:=gr (w:=gC l) (p:=256) (low:=0+(ac l 0).toNat * 1) (high:=0+(ac l 2).toNat * 1+(ac l 3).toNat * 256+(ac l 4).toNat * 65536+(ac l 5).toNat * 16777216+(ac l 6).toNat * 4294967296+(ac l 7).toNat * 1099511627776) (by decide) (by omega) h1 (by unfold gC;omega) (iZ h (k:=15) (by decide))
 have g2:(ac l 2).toNat<128:=gr (w:=gC l) (p:=65536) (low:=0+(ac l 0).toNat * 1+(ac l 1).toNat * 256) (high:=0+(ac l 3).toNat * 1+(ac l 4).toNat * 256+(ac l 5).toNat * 65536+(ac l 6).toNat * 16777216+(ac l 7).toNat * 4294967296) (by decide) (by omega) h2 (by unfold gC;omega) (iZ h (k:=23) (by decide))
 have g3:(ac l 3).toNat<128:=gr (w:=gC l) (p:=16777216) (low:=0+(ac l 0).toNat * 1+(ac l 1).toNat * 256+(ac l 2).toNat * 65536) (high:=0+(ac l 4).toNat * 1+(ac l 5).toNat * 256+(ac l 6).toNat * 65536+(ac l 7).toNat * 16777216) (by decide) (by omega) h3 (by unfold gC;omega) (iZ h (k:=31) (by decide))
 have g4:(ac l 4).toNat<128:=gr (w:=gC l) (p:=4294967296) (low:=0+(ac l 0).toNat * 1+(ac l 1).toNat * 256+(ac l 2).toNat * 65536+(ac l 3).toNat * 16777216) (high:=0+(ac l 5).toNat * 1+(ac l 6).toNat * 256+(ac l 7).toNat * 65536) (by decide) (by omega) h4 (by unfold gC;omega) (iZ h (k:=39) (by decide))
 have g5:(ac l 5).toNat<128:=gr (w:=gC l) (p:=1099511627776) (low:=0+(ac l 0).toNat * 1+(ac l 1).toNat * 256+(ac l 2).toNat * 65536+(ac l 3).toNat * 16777216+(ac l 4).toNat * 4294967296) (high:=0+(ac l 6).toNat * 1+(ac l 7).toNat * 256) (by decide) (by omega) h5 (by unfold gC;omega) (iZ h (k:=47) (by decide))
 have g6:(ac l 6).toNat<128:=gr (w:=gC l) (p:=281474976710656) (low:=0+(ac l 0).toNat * 1+(ac l 1).toNat * 256+(ac l 2).toNat * 65536+(ac l 3).toNat * 16777216+(ac l 4).toNat * 4294967296+(ac l 5).toNat * 1099511627776) (high:=0+(ac l 7).toNat * 1) (by decide) (by omega) h6 (by unfold gC;omega) (iZ h (k:=55) (by decide))
 have g7:(ac l 7).toNat<128:=gr (w:=gC l) (p:=72057594037927936) (low:=0+(ac l 0).toNat * 1+(ac l 1).toNat * 256+(ac l 2).toNat * 65536+(ac l 3).toNat * 16777216+(ac l 4).toNat * 4294967296+(ac l 5).toNat * 1099511627776+(ac l 6).toNat * 281474976710656) (high:=0) (by decide) (by omega) h7 (by unfold gC;omega) (iZ h (k:=63) (by decide))
 intro i hi
 have e:i=0∨i=1∨i=2∨i=3∨i=4∨i=5∨i=6∨i=7:=by omega
 rcases e with rfl | rfl | rfl | rfl | rfl | rfl | rfl | rfl<;>assumption
theorem gl {a b h:Nat} (hh:(a ||| b) &&& h=0):a &&& h=0∧b &&& h=0:=by
 rw [Nat.and_or_distrib_right] at hh
 exact ⟨Nat.eq_zero_of_le_zero (by rw [← hh];exact Nat.left_le_or),Nat.eq_zero_of_le_zero (by rw [← hh];exact Nat.right_le_or)⟩
theorem sn {a:Nat} (ha:a<18446744073709551616):yA .u64 (a:Int) 9259542123273814144=((a &&& 9259542123273814144:Nat):Int):=by
 have h:(BitVec.ofInt 64 (a:Int) &&& BitVec.ofInt 64 ((9259542123273814144:Nat):Int)).toNat=a &&& 9259542123273814144:=tT ha (by decide)
 show IntKind.u64.wrap ((BitVec.ofInt 64 (a:Int) &&& BitVec.ofInt 64 ((9259542123273814144:Nat):Int)).toNat)=_
 rw [h,rW]
 have:a &&& 9259542123273814144≤a:=Nat.and_le_left
 omega
theorem E4 {a b:Nat} (ha:a<18446744073709551616) (hb:b<18446744073709551616):iM .u64 (a:Int) (b:Int)=((a ||| b:Nat):Int)∧a ||| b<18446744073709551616:=by
 have h:(BitVec.ofInt 64 (a:Int) ||| BitVec.ofInt 64 (b:Int)).toNat=a ||| b:=Br ha hb
 have hl:a ||| b<2 ^ 64:=Nat.or_lt_two_pow ha hb
 refine ⟨?_,hl⟩
 show IntKind.u64.wrap ((BitVec.ofInt 64 (a:Int) ||| BitVec.ofInt 64 (b:Int)).toNat)=_
 rw [h,rW]
 omega
def ju (l:List UInt8):Option Nat :=
 let x:=Lib.firstT (ac l 0).toNat
 let lo:=Lib.accLo (x / 16)
 let hi:=Lib.accHi (x / 16)
 if x % 8=2 then (if 2≤l.length∧lo≤(ac l 1).toNat∧(ac l 1).toNat≤hi then some 2 else none)
 else if x % 8=3 then (if 3≤l.length∧lo≤(ac l 1).toNat∧(ac l 1).toNat≤hi∧128≤(ac l 2).toNat∧(ac l 2).toNat≤191 then some 3 else none)
 else if x % 8=4 then (if 4≤l.length∧lo≤(ac l 1).toNat∧(ac l 1).toNat≤hi∧128≤(ac l 2).toNat∧(ac l 2).toNat≤191∧128≤(ac l 3).toNat∧(ac l 3).toNat≤191 then some 4 else none)
 else none
def FN:Nat→List UInt8→Bool
 | 0,_=>true
 | _+1,[]=>true
 | f+1,b :: r=>if b.toNat<128 then FN f r else match ju (b :: r) with
  | some k=>FN f ((b :: r).drop k)
  | none=>false
def uv (l:List UInt8):Bool:=FN l.length l
theorem nY {l:List UInt8} {k:Nat} (h:ju l=some k):2≤k∧k≤l.length:=by
 unfold ju at h
 simp only at h
 repeat' split at h
 all_goals first | (cases h;done) | (cases h;rename_i hh;exact ⟨by omega,hh.1⟩)
theorem j4:∀(f g:Nat) (l:List UInt8),l.length≤f→l.length≤g→FN f l=FN g l
 | 0,0,_,_,_=>rfl
 | 0,g+1,l,h,_=>by
  have:l=[]:=tJ (by omega)
  subst this;rfl
 | f+1,0,l,_,h=>by
  have:l=[]:=tJ (by omega)
  subst this;rfl
 | f+1,g+1,[],_,_=>rfl
 | f+1,g+1,b :: r,h1,h2=>by
  simp only [oh] at h1 h2
  simp only [FN]
  split
  ·exact j4 f g r (by omega) (by omega)
  ·cases hk:ju (b :: r) with
   | none=>rfl
   | some k =>
    have:=nY hk
    exact j4 f g _ (by simp only [tI,oh];omega) (by simp only [tI,oh];omega)
theorem Ko:uv []=true:=rfl
theorem B8 {l:List UInt8} (hl:0<l.length) (h:(ac l 0).toNat<128):uv l=uv (l.drop 1):=by
 cases l with
 | nil=>simp at hl
 | cons b r =>
  have h':b.toNat<128:=h
  simp only [uv,oh,FN,List.drop_succ_cons,List.drop_zero]
  rw [bz h']
theorem Kp {l:List UInt8} {k:Nat} (hl:0<l.length) (h:¬(ac l 0).toNat<128) (hk:ju l=some k):uv l=uv (l.drop k):=by
 have hp:=nY hk
 cases l with
 | nil=>simp at hl
 | cons b r =>
  have h':¬b.toNat<128:=h
  simp only [uv,oh,FN]
  rw [aV h',hk]
  exact j4 _ _ _ (by simp only [tI,oh];omega) (aB _)
theorem Kn {l:List UInt8} (hl:0<l.length) (h:¬(ac l 0).toNat<128) (hk:ju l=none):uv l=false:=by
 cases l with
 | nil=>simp at hl
 | cons b r =>
  have h':¬b.toNat<128:=h
  simp only [uv,oh,FN]
  rw [aV h',hk]
theorem uU {l:List UInt8}:∀k,k≤l.length→(∀i,i<k→(ac l i).toNat<128)→uv l=uv (l.drop k)
 | 0,_,_=>rfl
 | k+1,hk,h=>by
  rw [uU k (by omega) (fun i hi=>h i (by omega)),B8 (by simp;omega) (by rw [Bg];exact h k (by omega)),List.drop_drop]
theorem iw {l:List UInt8} (hl:8≤l.length) (h:gC l &&& 9259542123273814144=0):uv l=uv (l.drop 8):=uU 8 hl (FR h)
theorem RU (b:UInt8):IntKind.u64.wrap (b.toNat:Int)=(b.toNat:Int):=by
 have:=b.toNat_lt
 rw [rW];omega
theorem Kq (l:List UInt8):iM .u64 (iM .u64 (iM .u64 (iM .u64 (iM .u64 (iM .u64 (iM .u64 ((ac l 0).toNat:Int) (eH .u64 ((ac l 1).toNat:Int) 8)) (eH .u64 ((ac l 2).toNat:Int) 16)) (eH .u64 ((ac l 3).toNat:Int) 24)) (eH .u64 ((ac l 4).toNat:Int) 32)) (eH .u64 ((ac l 5).toNat:Int) 40)) (eH .u64 ((ac l 6).toNat:Int) 48)) (eH .u64 ((ac l 7).toNat:Int) 56)=((gC l:Nat):Int):=by
 have h0:=(ac l 0).toNat_lt;have h1:=(ac l 1).toNat_lt;have h2:=(ac l 2).toNat_lt;have h3:=(ac l 3).toNat_lt
 have h4:=(ac l 4).toNat_lt;have h5:=(ac l 5).toNat_lt;have h6:=(ac l 6).toNat_lt;have h7:=(ac l 7).toNat_lt
 have e1:iM .u64 (((ac l 0).toNat:Nat):Int) (eH .u64 ((ac l 1).toNat:Int) 8)=(((ac l 0).toNat+(ac l 1).toNat * 256:Nat):Int):=nN (s:=8) 256 (by decide) (by decide) (by omega) h1
 have e2:iM .u64 (((ac l 0).toNat+(ac l 1).toNat * 256:Nat):Int) (eH .u64 ((ac l 2).toNat:Int) 16)=(((ac l 0).toNat+(ac l 1).toNat * 256+(ac l 2).toNat * 65536:Nat):Int):=nN (s:=16) 65536 (by decide) (by decide) (by omega) h2
 have e3:iM .u64 (((ac l 0).toNat+(ac l 1).toNat * 256+(ac l 2).toNat * 65536:Nat):Int) (eH .u64 ((ac l 3).toNat:Int) 24)=(((ac l 0).toNat+(ac l 1).toNat * 256+(ac l 2).toNat * 65536+(ac l 3).toNat * 16777216:Nat):Int):=nN (s:=24) 16777216 (by decide) (by decide) (by omega) h3
 have e4:iM .u64 (((ac l 0).toNat+(ac l 1).toNat * 256+(ac l 2).toNat * 65536+(ac l 3).toNat * 16777216:Nat):Int) (eH .u64 ((ac l 4).toNat:Int) 32)=(((ac l 0).toNat+(ac l 1).toNat * 256+(ac l 2).toNat * 65536+(ac l 3).toNat * 16777216+(ac l 4).toNat * 4294967296:Nat):Int):=nN (s:=32) 4294967296 (by decide) (by decide) (by omega) h4
 have e5:iM .u64 (((ac l 0).toNat+(ac l 1).toNat * 256+(ac l 2).toNat * 65536+(ac l 3).toNat * 16777216+(ac l 4).toNat * 4294967296:Nat):Int) (eH .u64 ((ac l 5).toNat:Int) 40)=(((ac l 0).toNat+(ac l 1).toNat * 256+(ac l 2).toNat * 65536+(ac l 3).toNat * 16777216+(ac l 4).toNat * 4294967296+(ac l 5).toNat * 1099511627776:Nat):Int):=nN (s:=40) 1099511627776 (by decide) (by decide) (by omega) h5
 have e6:iM .u64 (((ac l 0).toNat+(ac l 1).toNat * 256+(ac l 2).toNat * 65536+(ac l 3).toNat * 16777216+(ac l 4).toNat * 4294967296+(ac l 5).toNat * 1099511627776:Nat):Int) (eH .u64 ((ac l 6).toNat:Int) 48)=(((ac l 0).toNat+(ac l 1).toNat * 256+(ac l 2).toNat * 65536+(ac l 3).toNat * 16777216+(ac l 4).toNat * 4294967296+(ac l 5).toNat * 1099511627776+(ac l 6).toNat * 281474976710656:Nat):Int):=nN (s:=48) 281474976710656 (by decide) (by decide) (by omega) h6
 have e7:iM .u64 (((ac l 0).toNat+(ac l 1).toNat * 256+(ac l 2).toNat * 65536+(ac l 3).toNat * 16777216+(ac l 4).toNat * 4294967296+(ac l 5).toNat * 1099511627776+(ac l 6).toNat * 281474976710656:Nat):Int) (eH .u64 ((ac l 7).toNat:Int) 56)=(((ac l 0).toNat+(ac l 1).toNat * 256+(ac l 2).toNat * 65536+(ac l 3).toNat * 16777216+(ac l 4).toNat * 4294967296+(ac l 5).toNat * 1099511627776+(ac l 6).toNat * 281474976710656+(ac l 7).toNat * 72057594037927936:Nat):Int):=nN (s:=56) 72057594037927936 (by decide) (by decide) (by omega) h7
 rw [e1,e2,e3,e4,e5,e6,e7]
 rfl
theorem dJ (l:List UInt8) (h:8≤l.length):aj Tryz.prog QK [.str l] (.int .u64 (gC l)):=by
 refine ab (ic:=GP.body) aq OY rfl rfl ?_
 simp only [GP,go_sem,RU]
 refine ⟨by omega,by omega,by omega,by omega,by omega,by omega,by omega,by omega,by omega,by omega,by omega,by omega,by omega,by omega,by omega,by omega,by omega,by omega,by omega,by omega,by omega,by omega,by omega,?_⟩
 exact aE [] (by simp only [go_sem,Kq]) rfl
end Go.Proofs.YteephfapgoncgaaGreatDoor