import Derived.Test.YtdefmgmmjfgbpaaGreatDoorUQe
set_option linter.all false
set_option maxRecDepth 100000
set_option maxHeartbeats 40000000
namespace Go.Proofs.YtdefmgmmjfgbpaaGreatDoor
section
open Go Go.Mw
theorem Iw (ρ:Nat→Nat) (i s o l:Nat):cQ ρ (.ms i s o l) = .ms (ρ i) s o l:=rfl
theorem Iv (ρ:Nat→Nat) (i s o l:Nat):cQ ρ (.mp i s o l) = .mp (ρ i) s o l:=rfl
theorem Iz (ρ:Nat→Nat) (s:Nat) (l:List (List AV)):cQ ρ (.sl s l) = .sl s l:=rfl
theorem D4 (ρ:Nat→Nat) (k:IntKind) (n:Int):cQ ρ (.int k n) = .int k n:=rfl
theorem yN (ρ:Nat→Nat) (b:Bool):cQ ρ (.bool b) = .bool b:=rfl
theorem D5 (ρ:Nat→Nat) (s:List UInt8):cQ ρ (.str s) = .str s:=rfl
theorem Iy (ρ:Nat→Nat):cQ ρ .nl = .nl:=rfl
theorem Tz (a b i:Nat):fw [(a,b)] i=if i=a then b else if i=b then a else i:=rfl
attribute [local go_sem] kL jf jg kM kN jd ij je Bo xz uo xC xD Bn xB Bm xA v7 NI NH Rp jI cS dD renV gh Iw Iz D4 yN D5 Iv Iy Tz
attribute [local go_sem] dn f_
theorem Ih (m:Md) (h:KU m):aE Tryz.prog Jr [cP m] [] sb (fun r' σ'=>r' = .agg [.ms 901 2 0 m.ts.length,.ms 48 13 0 m.ims.length,.ms 902 3 0 m.fs.length,.ms 80 4 0 m.tbs.length,.ms 85 3 0 m.ms.length,.ms 903 3 0 m.gs.length,.ms 116 3 0 m.exs.length,.bool m.hs,.int .i64 m.st,.ms 904 5 0 m.els.length,.ms 905 4 0 m.ds.length,.ms 906 3 0 m.cs.length]∧σ'=[(901,⟨47,2,m.ts.map dF,false⟩),(48,⟨57,13,m.ims.map dy,false⟩),(902,⟨60,3,m.fs.map dK,false⟩),(80,⟨53,4,m.tbs.map ez,false⟩),(85,⟨51,3,m.ms.map eu,false⟩),(903,⟨62,3,m.gs.map ej,false⟩),(116,⟨64,3,m.exs.map ei,false⟩),(904,⟨66,5,m.els.map dL,false⟩),(905,⟨69,4,m.ds.map et,false⟩),(906,⟨71,3,m.cs.map eB,false⟩)]):=by
 refine aP (ic:=gd [34,65,97,149,177,206] zr.body) ap ON rfl rfl ?_
 have a48:=fun ys=>ct 48 57 13 ys
 have a80:=fun ys=>ct 80 53 4 ys
 have a85:=fun ys=>ct 85 51 3 ys
 have a116:=fun ys=>ct 116 64 3 ys
 simp only [go_sem,zr,cP]
 refine an (fun i:Nat=>⟨[(4,.int .i64 i),(3,.mp 3 12 0 0),(2,.mp 2 12 0 0),(1,.mp 1 12 0 0)],[(1,⟨33,12,[kU m],true⟩),(2,⟨33,12,[[.nl,.nl,.nl,.nl,.nl,.nl,.nl,.bool false,.int .i64 0,.nl,.nl,.nl]],true⟩),(3,⟨33,12,[[.ms 901 2 0 i,.nl,.nl,.nl,.nl,.nl,.nl,.bool m.hs,.int .i64 m.st,.nl,.nl,.nl]],true⟩),(901,⟨47,2,(m.ts.take i).map dF,false⟩)]⟩) (fun i=>i≤m.ts.length) (fun i=>m.ts.length - i) 0 (cq _) ((Wk.new0 _ 901 2 47 (.inl (by decide))).trans ((Wk.nlm _ 3 (r:=[.nl,.nl,.nl,.nl,.nl,.nl,.nl,.bool m.hs,.int .i64 m.st,.nl,.nl,.nl]) rfl (r':=[.ms 901 2 0 0,.nl,.nl,.nl,.nl,.nl,.nl,.bool m.hs,.int .i64 m.st,.nl,.nl,.nl]) ⟨.inr ⟨rfl,.inr ⟨_,_,rfl⟩⟩,.inl rfl,.inl rfl,.inl rfl,.inl rfl,.inl rfl,.inl rfl,.inl rfl,.inl rfl,.inl rfl,.inl rfl,.inl rfl,trivial⟩).trans (Wk.of ?_ ?_))) ?_
 ·simp only [go_sem];try simp [go_sem]
 ·simp only [go_sem,dN];try simp [go_sem,qK]
 intro i hi
 have hil:(m.ts.take i).length=i:=by simp;omega
 by_cases h1:(i:Int)<(m.ts.length:Int)
 ·have hi':i<m.ts.length:=by omega
  have hlb:=h.ts.1
  have e8:=wi (n:=(i:Int)+1) (by omega) (by omega)
  have hxx:=aX h.ts.2 hi'
  have tn:=eA hi'
  have happ:=fun ys=>br 901 47 2 i dF (m.ts.take i) ys hil
  have a36:=fun ys=>ct 36 49 1 ys
  have a40:=fun ys=>ct 40 49 1 ys
  obtain ⟨x1,x2⟩:=hxx
  simp only [go_sem,az h1,bM,a36,a40]
  refine ⟨by omega,h1,by omega,by omega,?_⟩
  refine lJ _ ((Wk.frzs [36,40] _).trans (Wk.unr _ 45 (by rfl) (by simp only [go_sem,NX,bD,fH]))) ?_
  simp only [go_sem,bD,fH,happ]
  refine ⟨by omega,aA (i+1) (show i+1≤m.ts.length by omega) (show m.ts.length - (i+1)<m.ts.length - i by omega) (Wk.of ?_ ?_)⟩
  ·simp only [go_sem,e8];try simp
  ·simp only [go_sem,tn,List.map_append];try simp [bM]
 obtain rfl:i=m.ts.length:=by omega
 simp only [go_sem,au h1,eM,a48]
 clear h1 hi hil
 refine ⟨by have:=h.ims;omega,?_⟩
 refine an (fun i:Nat=>⟨[(6,.int .i64 i),(3,.mp 3 12 0 0),(2,.mp 2 12 0 0),(1,.mp 1 12 0 0)],[(1,⟨33,12,[kU m],true⟩),(2,⟨33,12,[[.nl,.nl,.nl,.nl,.nl,.nl,.nl,.bool false,.int .i64 0,.nl,.nl,.nl]],true⟩),(3,⟨33,12,[[.ms 901 2 0 m.ts.length,.ms 48 13 0 m.ims.length,.ms 902 3 0 i,.nl,.nl,.nl,.nl,.bool m.hs,.int .i64 m.st,.nl,.nl,.nl]],true⟩),(901,⟨47,2,m.ts.map dF,false⟩),(48,⟨57,13,m.ims.map dy,false⟩),(902,⟨60,3,(m.fs.take i).map dK,false⟩)]⟩) (fun i=>i≤m.fs.length) (fun i=>m.fs.length - i) 0 (cq _) ((Wk.new0 _ 902 3 60 (.inl (by decide))).trans ((Wk.nlm _ 3 (r:=[.ms 901 2 0 m.ts.length,.ms 48 13 0 m.ims.length,.nl,.nl,.nl,.nl,.nl,.bool m.hs,.int .i64 m.st,.nl,.nl,.nl]) rfl (r':=[.ms 901 2 0 m.ts.length,.ms 48 13 0 m.ims.length,.ms 902 3 0 0,.nl,.nl,.nl,.nl,.bool m.hs,.int .i64 m.st,.nl,.nl,.nl]) ⟨.inl rfl,.inl rfl,.inr ⟨rfl,.inr ⟨_,_,rfl⟩⟩,.inl rfl,.inl rfl,.inl rfl,.inl rfl,.inl rfl,.inl rfl,.inl rfl,.inl rfl,.inl rfl,trivial⟩).trans (Wk.of ?_ ?_))) ?_
 ·simp only [go_sem];try simp [go_sem]
 ·simp only [go_sem,dN];try simp [go_sem,qK]
 intro i hi
 have hil:(m.fs.take i).length=i:=by simp;omega
 by_cases h1:(i:Int)<(m.fs.length:Int)
 ·have hi':i<m.fs.length:=by omega
  have hlb:=h.fs.1
  have e8:=wi (n:=(i:Int)+1) (by omega) (by omega)
  have hxx:=aX h.fs.2 hi'
  have tn:=eA hi'
  have happ:=fun ys=>br 902 60 3 i dK (m.fs.take i) ys hil
  have a69:=fun ys=>ct 69 49 1 ys
  obtain ⟨x1,x2⟩:=hxx
  simp only [go_sem,az h1,bP,a69]
  refine ⟨by omega,h1,by omega,?_⟩
  refine aQ (tp (aj m.fs i).b x2) (by simp [go_sem]) rfl ?_
  simp only [go_sem]
  refine lJ _ ((Wk.frzs [69] _).trans (Wk.unr _ 77 (by rfl) (by simp only [go_sem,NX,bD,fH]))) ?_
  simp only [go_sem,bD,fH,happ]
  refine ⟨by omega,aA (i+1) (show i+1≤m.fs.length by omega) (show m.fs.length - (i+1)<m.fs.length - i by omega) (Wk.of ?_ ?_)⟩
  ·simp only [go_sem,e8];try simp
  ·simp only [go_sem,tn,List.map_append];try simp [bP]
 obtain rfl:i=m.fs.length:=by omega
 simp only [go_sem,au h1,eM,a80,a85]
 clear h1 hi hil
 refine ⟨by have:=h.tbs;omega,by have:=h.ms;omega,?_⟩
 refine an (fun i:Nat=>⟨[(8,.int .i64 i),(3,.mp 3 12 0 0),(2,.mp 2 12 0 0),(1,.mp 1 12 0 0)],[(1,⟨33,12,[kU m],true⟩),(2,⟨33,12,[[.nl,.nl,.nl,.nl,.nl,.nl,.nl,.bool false,.int .i64 0,.nl,.nl,.nl]],true⟩),(3,⟨33,12,[[.ms 901 2 0 m.ts.length,.ms 48 13 0 m.ims.length,.ms 902 3 0 m.fs.length,.ms 80 4 0 m.tbs.length,.ms 85 3 0 m.ms.length,.ms 903 3 0 i,.nl,.bool m.hs,.int .i64 m.st,.nl,.nl,.nl]],true⟩),(901,⟨47,2,m.ts.map dF,false⟩),(48,⟨57,13,m.ims.map dy,false⟩),(902,⟨60,3,m.fs.map dK,false⟩),(80,⟨53,4,m.tbs.map ez,false⟩),(85,⟨51,3,m.ms.map eu,false⟩),(903,⟨62,3,(m.gs.take i).map ej,false⟩)]⟩) (fun i=>i≤m.gs.length) (fun i=>m.gs.length - i) 0 (cq _) ((Wk.new0 _ 903 3 62 (.inl (by decide))).trans ((Wk.nlm _ 3 (r:=[.ms 901 2 0 m.ts.length,.ms 48 13 0 m.ims.length,.ms 902 3 0 m.fs.length,.ms 80 4 0 m.tbs.length,.ms 85 3 0 m.ms.length,.nl,.nl,.bool m.hs,.int .i64 m.st,.nl,.nl,.nl]) rfl (r':=[.ms 901 2 0 m.ts.length,.ms 48 13 0 m.ims.length,.ms 902 3 0 m.fs.length,.ms 80 4 0 m.tbs.length,.ms 85 3 0 m.ms.length,.ms 903 3 0 0,.nl,.bool m.hs,.int .i64 m.st,.nl,.nl,.nl]) ⟨.inl rfl,.inl rfl,.inl rfl,.inl rfl,.inl rfl,.inr ⟨rfl,.inr ⟨_,_,rfl⟩⟩,.inl rfl,.inl rfl,.inl rfl,.inl rfl,.inl rfl,.inl rfl,trivial⟩).trans (Wk.of ?_ ?_))) ?_
 ·simp only [go_sem];try simp [go_sem]
 ·simp only [go_sem,dN];try simp [go_sem,qK]
 intro i hi
 have hil:(m.gs.take i).length=i:=by simp;omega
 by_cases h1:(i:Int)<(m.gs.length:Int)
 ·have hi':i<m.gs.length:=by omega
  have hlb:=h.gs.1
  have e8:=wi (n:=(i:Int)+1) (by omega) (by omega)
  have hxx:=aX h.gs.2 hi'
  have tn:=eA hi'
  have happ:=fun ys=>br 903 62 3 i ej (m.gs.take i) ys hil
  simp only [go_sem,az h1,cz]
  refine ⟨by omega,h1,by omega,h1,?_⟩
  refine aQ (tp (aj m.gs i).i hxx) (by simp [go_sem]) rfl ?_
  simp only [go_sem]
  refine lJ _ (Wk.refl _) ?_
  simp only [go_sem,bD,fH,happ]
  refine ⟨by omega,aA (i+1) (show i+1≤m.gs.length by omega) (show m.gs.length - (i+1)<m.gs.length - i by omega) (Wk.of ?_ ?_)⟩
  ·simp only [go_sem,e8];try simp
  ·simp only [go_sem,tn,List.map_append];try simp [cz]
 obtain rfl:i=m.gs.length:=by omega
 simp only [go_sem,au h1,eM,a116]
 clear h1 hi hil
 refine ⟨by have:=h.exs;omega,?_⟩
 refine an (fun i:Nat=>⟨[(9,.int .i64 i),(3,.mp 3 12 0 0),(2,.mp 2 12 0 0),(1,.mp 1 12 0 0)],[(1,⟨33,12,[kU m],true⟩),(2,⟨33,12,[[.nl,.nl,.nl,.nl,.nl,.nl,.nl,.bool false,.int .i64 0,.nl,.nl,.nl]],true⟩),(3,⟨33,12,[[.ms 901 2 0 m.ts.length,.ms 48 13 0 m.ims.length,.ms 902 3 0 m.fs.length,.ms 80 4 0 m.tbs.length,.ms 85 3 0 m.ms.length,.ms 903 3 0 m.gs.length,.ms 116 3 0 m.exs.length,.bool m.hs,.int .i64 m.st,.ms 904 5 0 i,.nl,.nl]],true⟩),(901,⟨47,2,m.ts.map dF,false⟩),(48,⟨57,13,m.ims.map dy,false⟩),(902,⟨60,3,m.fs.map dK,false⟩),(80,⟨53,4,m.tbs.map ez,false⟩),(85,⟨51,3,m.ms.map eu,false⟩),(903,⟨62,3,m.gs.map ej,false⟩),(116,⟨64,3,m.exs.map ei,false⟩),(904,⟨66,5,(m.els.take i).map dL,false⟩)]⟩) (fun i=>i≤m.els.length) (fun i=>m.els.length - i) 0 (cq _) ((Wk.new0 _ 904 5 66 (.inl (by decide))).trans ((Wk.nlm _ 3 (r:=[.ms 901 2 0 m.ts.length,.ms 48 13 0 m.ims.length,.ms 902 3 0 m.fs.length,.ms 80 4 0 m.tbs.length,.ms 85 3 0 m.ms.length,.ms 903 3 0 m.gs.length,.ms 116 3 0 m.exs.length,.bool m.hs,.int .i64 m.st,.nl,.nl,.nl]) rfl (r':=[.ms 901 2 0 m.ts.length,.ms 48 13 0 m.ims.length,.ms 902 3 0 m.fs.length,.ms 80 4 0 m.tbs.length,.ms 85 3 0 m.ms.length,.ms 903 3 0 m.gs.length,.ms 116 3 0 m.exs.length,.bool m.hs,.int .i64 m.st,.ms 904 5 0 0,.nl,.nl]) ⟨.inl rfl,.inl rfl,.inl rfl,.inl rfl,.inl rfl,.inl rfl,.inl rfl,.inl rfl,.inl rfl,.inr ⟨rfl,.inr ⟨_,_,rfl⟩⟩,.inl rfl,.inl rfl,trivial⟩).trans (Wk.of ?_ ?_))) ?_
 ·simp only [go_sem];try simp [go_sem]
 ·simp only [go_sem,dN];try simp [go_sem,qK]
 intro i hi
 have hil:(m.els.take i).length=i:=by simp;omega
 by_cases h1:(i:Int)<(m.els.length:Int)
 ·have hi':i<m.els.length:=by omega
  have hlb:=h.els.1
  have e8:=wi (n:=(i:Int)+1) (by omega) (by omega)
  have hxx:=aX h.els.2 hi'
  have tn:=eA hi'
  have happ:=fun ys=>br 904 66 5 i dL (m.els.take i) ys hil
  obtain ⟨x1,x2,x3⟩:=hxx
  simp only [go_sem,az h1,bW]
  refine ⟨by omega,h1,?_⟩
  refine an (fun j:Nat=>⟨[(12,.int .i64 j),(11,.ms 907 1 0 j),(10,.mp 10 5 0 0),(9,.int .i64 i),(3,.mp 3 12 0 0),(2,.mp 2 12 0 0),(1,.mp 1 12 0 0)],[(1,⟨33,12,[kU m],true⟩),(2,⟨33,12,[[.nl,.nl,.nl,.nl,.nl,.nl,.nl,.bool false,.int .i64 0,.nl,.nl,.nl]],true⟩),(3,⟨33,12,[[.ms 901 2 0 m.ts.length,.ms 48 13 0 m.ims.length,.ms 902 3 0 m.fs.length,.ms 80 4 0 m.tbs.length,.ms 85 3 0 m.ms.length,.ms 903 3 0 m.gs.length,.ms 116 3 0 m.exs.length,.bool m.hs,.int .i64 m.st,.ms 904 5 0 i,.nl,.nl]],true⟩),(901,⟨47,2,m.ts.map dF,false⟩),(48,⟨57,13,m.ims.map dy,false⟩),(902,⟨60,3,m.fs.map dK,false⟩),(80,⟨53,4,m.tbs.map ez,false⟩),(85,⟨51,3,m.ms.map eu,false⟩),(903,⟨62,3,m.gs.map ej,false⟩),(116,⟨64,3,m.exs.map ei,false⟩),(904,⟨66,5,(m.els.take i).map dL,false⟩),(10,⟨66,5,[dL (aj m.els i)],true⟩),(907,⟨58,1,((aj m.els i).it.take j).map cU,false⟩)]⟩) (fun j=>j≤(aj m.els i).it.length) (fun j=>(aj m.els i).it.length - j) 0 (cq _) ((Wk.nil _ 11 907 1 58 (by simp only [go_sem]) (.inl (by decide))).trans (Wk.of ?_ ?_)) ?_
  ·simp only [go_sem,St.mknil];try simp [go_sem]
  ·simp only [go_sem,St.mknil,dN];try simp [go_sem,bW]
  intro j hj
  have hjl:((aj m.els i).it.take j).length=j:=by simp;omega
  by_cases g1:(j:Int)<((aj m.els i).it.length:Int)
  ·have hj':j<(aj m.els i).it.length:=by omega
   have e9:=wi (n:=(j:Int)+1) (by omega) (by omega)
   have hap2:=fun ys=>br 907 58 1 j cU ((aj m.els i).it.take j) ys hjl
   have tn2:=eA hj'
   simp only [go_sem,az g1,bW,bN]
   refine ⟨by omega,g1,?_⟩
   refine aa (tp (aj (aj m.els i).it j) (aX x3 hj')) ?_
   simp only [go_sem,hap2]
   refine ⟨by omega,aA (j+1) (show j+1≤(aj m.els i).it.length by omega) (show (aj m.els i).it.length - (j+1)<(aj m.els i).it.length - j by omega) (Wk.of ?_ ?_)⟩
   ·simp only [go_sem,e9];try simp
   ·simp only [go_sem,tn2,List.map_append];try simp [bN,bW]
  obtain rfl:j=(aj m.els i).it.length:=by omega
  simp only [go_sem,au g1,bW,eM]
  refine aQ (tp (aj m.els i).o x1) (by simp [go_sem]) rfl ?_
  simp only [go_sem]
  refine lJ _ ((Wk.frzs [907] _).trans (Wk.unr _ 162 (by rfl) (by simp only [go_sem,NX,bD,fH]))) ?_
  simp only [go_sem,bD,fH,happ]
  refine ⟨by omega,aA (i+1) (show i+1≤m.els.length by omega) (show m.els.length - (i+1)<m.els.length - i by omega) (Wk.of ?_ ?_)⟩
  ·simp only [go_sem,e8];try simp
  ·simp only [go_sem,tn,List.map_append];try simp [bW]
 obtain rfl:i=m.els.length:=by omega
 simp only [go_sem,au h1,eM]
 clear h1 hi hil
 refine an (fun i:Nat=>⟨[(13,.int .i64 i),(3,.mp 3 12 0 0),(2,.mp 2 12 0 0),(1,.mp 1 12 0 0)],[(1,⟨33,12,[kU m],true⟩),(2,⟨33,12,[[.nl,.nl,.nl,.nl,.nl,.nl,.nl,.bool false,.int .i64 0,.nl,.nl,.nl]],true⟩),(3,⟨33,12,[[.ms 901 2 0 m.ts.length,.ms 48 13 0 m.ims.length,.ms 902 3 0 m.fs.length,.ms 80 4 0 m.tbs.length,.ms 85 3 0 m.ms.length,.ms 903 3 0 m.gs.length,.ms 116 3 0 m.exs.length,.bool m.hs,.int .i64 m.st,.ms 904 5 0 m.els.length,.ms 905 4 0 i,.nl]],true⟩),(901,⟨47,2,m.ts.map dF,false⟩),(48,⟨57,13,m.ims.map dy,false⟩),(902,⟨60,3,m.fs.map dK,false⟩),(80,⟨53,4,m.tbs.map ez,false⟩),(85,⟨51,3,m.ms.map eu,false⟩),(903,⟨62,3,m.gs.map ej,false⟩),(116,⟨64,3,m.exs.map ei,false⟩),(904,⟨66,5,m.els.map dL,false⟩),(905,⟨69,4,(m.ds.take i).map et,false⟩)]⟩) (fun i=>i≤m.ds.length) (fun i=>m.ds.length - i) 0 (cq _) ((Wk.new0 _ 905 4 69 (.inl (by decide))).trans ((Wk.nlm _ 3 (r:=[.ms 901 2 0 m.ts.length,.ms 48 13 0 m.ims.length,.ms 902 3 0 m.fs.length,.ms 80 4 0 m.tbs.length,.ms 85 3 0 m.ms.length,.ms 903 3 0 m.gs.length,.ms 116 3 0 m.exs.length,.bool m.hs,.int .i64 m.st,.ms 904 5 0 m.els.length,.nl,.nl]) rfl (r':=[.ms 901 2 0 m.ts.length,.ms 48 13 0 m.ims.length,.ms 902 3 0 m.fs.length,.ms 80 4 0 m.tbs.length,.ms 85 3 0 m.ms.length,.ms 903 3 0 m.gs.length,.ms 116 3 0 m.exs.length,.bool m.hs,.int .i64 m.st,.ms 904 5 0 m.els.length,.ms 905 4 0 0,.nl]) ⟨.inl rfl,.inl rfl,.inl rfl,.inl rfl,.inl rfl,.inl rfl,.inl rfl,.inl rfl,.inl rfl,.inl rfl,.inr ⟨rfl,.inr ⟨_,_,rfl⟩⟩,.inl rfl,trivial⟩).trans (Wk.of ?_ ?_))) ?_
 ·simp only [go_sem];try simp [go_sem]
 ·simp only [go_sem,dN];try simp [go_sem,qK]
 intro i hi
 have hil:(m.ds.take i).length=i:=by simp;omega
 by_cases h1:(i:Int)<(m.ds.length:Int)
 ·have hi':i<m.ds.length:=by omega
  have hlb:=h.ds.1
  have e8:=wi (n:=(i:Int)+1) (by omega) (by omega)
  have hxx:=aX h.ds.2 hi'
  have tn:=eA hi'
  have happ:=fun ys=>br 905 69 4 i et (m.ds.take i) ys hil
  have a186:=fun ys=>ct 186 5 1 ys
  obtain ⟨x1,x2⟩:=hxx
  simp only [go_sem,az h1,ce]
  refine ⟨by omega,h1,?_⟩
  refine aQ (tp (aj m.ds i).o x1) (by simp [go_sem]) rfl ?_
  simp only [go_sem,a186]
  refine ⟨by omega,?_⟩
  refine lJ _ ((Wk.frzs [186] _).trans (Wk.unr _ 191 (by rfl) (by simp only [go_sem,NX,bD,fH]))) ?_
  simp only [go_sem,bD,fH,happ]
  refine ⟨by omega,aA (i+1) (show i+1≤m.ds.length by omega) (show m.ds.length - (i+1)<m.ds.length - i by omega) (Wk.of ?_ ?_)⟩
  ·simp only [go_sem,e8];try simp
  ·simp only [go_sem,tn,List.map_append];try simp [ce]
 obtain rfl:i=m.ds.length:=by omega
 simp only [go_sem,au h1,eM]
 clear h1 hi hil
 refine an (fun i:Nat=>⟨[(15,.int .i64 i),(3,.mp 3 12 0 0),(2,.mp 2 12 0 0),(1,.mp 1 12 0 0)],[(1,⟨33,12,[kU m],true⟩),(2,⟨33,12,[[.nl,.nl,.nl,.nl,.nl,.nl,.nl,.bool false,.int .i64 0,.nl,.nl,.nl]],true⟩),(3,⟨33,12,[[.ms 901 2 0 m.ts.length,.ms 48 13 0 m.ims.length,.ms 902 3 0 m.fs.length,.ms 80 4 0 m.tbs.length,.ms 85 3 0 m.ms.length,.ms 903 3 0 m.gs.length,.ms 116 3 0 m.exs.length,.bool m.hs,.int .i64 m.st,.ms 904 5 0 m.els.length,.ms 905 4 0 m.ds.length,.ms 906 3 0 i]],true⟩),(901,⟨47,2,m.ts.map dF,false⟩),(48,⟨57,13,m.ims.map dy,false⟩),(902,⟨60,3,m.fs.map dK,false⟩),(80,⟨53,4,m.tbs.map ez,false⟩),(85,⟨51,3,m.ms.map eu,false⟩),(903,⟨62,3,m.gs.map ej,false⟩),(116,⟨64,3,m.exs.map ei,false⟩),(904,⟨66,5,m.els.map dL,false⟩),(905,⟨69,4,m.ds.map et,false⟩),(906,⟨71,3,(m.cs.take i).map eB,false⟩)]⟩) (fun i=>i≤m.cs.length) (fun i=>m.cs.length - i) 0 (cq _) ((Wk.new0 _ 906 3 71 (.inl (by decide))).trans ((Wk.nlm _ 3 (r:=[.ms 901 2 0 m.ts.length,.ms 48 13 0 m.ims.length,.ms 902 3 0 m.fs.length,.ms 80 4 0 m.tbs.length,.ms 85 3 0 m.ms.length,.ms 903 3 0 m.gs.length,.ms 116 3 0 m.exs.length,.bool m.hs,.int .i64 m.st,.ms 904 5 0 m.els.length,.ms 905 4 0 m.ds.length,.nl]) rfl (r':=[.ms 901 2 0 m.ts.length,.ms 48 13 0 m.ims.length,.ms 902 3 0 m.fs.length,.ms 80 4 0 m.tbs.length,.ms 85 3 0 m.ms.length,.ms 903 3 0 m.gs.length,.ms 116 3 0 m.exs.length,.bool m.hs,.int .i64 m.st,.ms 904 5 0 m.els.length,.ms 905 4 0 m.ds.length,.ms 906 3 0 0]) ⟨.inl rfl,.inl rfl,.inl rfl,.inl rfl,.inl rfl,.inl rfl,.inl rfl,.inl rfl,.inl rfl,.inl rfl,.inl rfl,.inr ⟨rfl,.inr ⟨_,_,rfl⟩⟩,trivial⟩).trans (Wk.of ?_ ?_))) ?_
 ·simp only [go_sem];try simp [go_sem]
 ·simp only [go_sem,dN];try simp [go_sem,qK]
 intro i hi
 have hil:(m.cs.take i).length=i:=by simp;omega
 by_cases h1:(i:Int)<(m.cs.length:Int)
 ·have hi':i<m.cs.length:=by omega
  have hlb:=h.cs.1
  have e8:=wi (n:=(i:Int)+1) (by omega) (by omega)
  have hxx:=aX h.cs.2 hi'
  have tn:=eA hi'
  have happ:=fun ys=>br 906 71 3 i eB (m.cs.take i) ys hil
  have a212:=fun ys=>ct 212 5 1 ys
  simp only [go_sem,az h1,bR,a212]
  refine ⟨by omega,h1,by have:_≤1048576:=hxx;omega,?_⟩
  refine lJ _ ((Wk.frzs [212] _).trans (Wk.unr _ 217 (by rfl) (by simp only [go_sem,NX,bD,fH]))) ?_
  simp only [go_sem,bD,fH,happ]
  refine ⟨by omega,aA (i+1) (show i+1≤m.cs.length by omega) (show m.cs.length - (i+1)<m.cs.length - i by omega) (Wk.of ?_ ?_)⟩
  ·simp only [go_sem,e8];try simp
  ·simp only [go_sem,tn,List.map_append];try simp [bR]
 obtain rfl:i=m.cs.length:=by omega
 simp only [go_sem,au h1,eM]
 clear h1 hi hil
 exact done [] (.agg [.ms 901 2 0 m.ts.length,.ms 48 13 0 m.ims.length,.ms 902 3 0 m.fs.length,.ms 80 4 0 m.tbs.length,.ms 85 3 0 m.ms.length,.ms 903 3 0 m.gs.length,.ms 116 3 0 m.exs.length,.bool m.hs,.int .i64 m.st,.ms 904 5 0 m.els.length,.ms 905 4 0 m.ds.length,.ms 906 3 0 m.cs.length]) [(901,⟨47,2,m.ts.map dF,false⟩),(48,⟨57,13,m.ims.map dy,false⟩),(902,⟨60,3,m.fs.map dK,false⟩),(80,⟨53,4,m.tbs.map ez,false⟩),(85,⟨51,3,m.ms.map eu,false⟩),(903,⟨62,3,m.gs.map ej,false⟩),(116,⟨64,3,m.exs.map ei,false⟩),(904,⟨66,5,m.els.map dL,false⟩),(905,⟨69,4,m.ds.map et,false⟩),(906,⟨71,3,m.cs.map eB,false⟩)] (by rfl) ⟨rfl,rfl,rfl,rfl,rfl,rfl,rfl,rfl,rfl,rfl,trivial⟩ rfl ⟨rfl,rfl⟩
end
open Go Go.Mw
theorem o_ {n y s:Nat} (p:Nat) (hp:2 ^ s=p) (hs:s≤56) (hn:n<p) (hy:y<256):iY .u64 (n:Int) (fz .u64 (y:Int) (s:Int))=((n+y * p:Nat):Int):=by
 subst hp
 rw [Rh (by omega),DS (by omega) hn]
 have h1:2 ^ s≤2 ^ 56:=Nat.pow_le_pow_right (by decide) hs
 have h2:y * 2 ^ s≤255 * 2 ^ 56:=Nat.mul_le_mul (by omega) h1
 rw [Nat.mod_eq_of_lt (by omega)]
def gV (l:List UInt8):Nat:=(aj l 0).toNat+(aj l 1).toNat * 256+(aj l 2).toNat * 65536+(aj l 3).toNat * 16777216+(aj l 4).toNat * 4294967296+(aj l 5).toNat * 1099511627776+(aj l 6).toNat * 281474976710656+(aj l 7).toNat * 72057594037927936
theorem ku (l:List UInt8):gV l<18446744073709551616:=by
 have h0:=(aj l 0).toNat_lt;have h1:=(aj l 1).toNat_lt;have h2:=(aj l 2).toNat_lt;have h3:=(aj l 3).toNat_lt
 have h4:=(aj l 4).toNat_lt;have h5:=(aj l 5).toNat_lt;have h6:=(aj l 6).toNat_lt;have h7:=(aj l 7).toNat_lt
 unfold gV
 omega
theorem jh {w:Nat} (h:w &&& 9259542123273814144=0) {k:Nat} (hk:(9259542123273814144:Nat).testBit k=true):w / 2 ^ k % 2=0:=by
 have h1:(w &&& 9259542123273814144).testBit k=false:=by rw [h];simp
 rw [Nat.testBit_and,hk,Bool.and_true] at h1
 rw [Nat.testBit_eq_decide_div_mod_eq] at h1
 simp at h1
 omega
theorem gL {w p low b high:Nat} (hp:0<p) (hl:low<p) (hb:b<256) (e:w=low+p * (b+256 * high)) (h:w / (p * 128) % 2=0):b<128:=by
 have h1:w / p=b+256 * high:=by rw [e,Nat.add_mul_div_left _ _ hp,Nat.div_eq_of_lt hl,Nat.zero_add]
 rw [← Nat.div_div_eq_div_mul,h1] at h
 omega
theorem I5 {l:List UInt8} (h:gV l &&& 9259542123273814144=0):∀i,i<8→(aj l i).toNat<128:=by
 have h0:=(aj l 0).toNat_lt;have h1:=(aj l 1).toNat_lt;have h2:=(aj l 2).toNat_lt;have h3:=(aj l 3).toNat_lt
 have h4:=(aj l 4).toNat_lt;have h5:=(aj l 5).toNat_lt;have h6:=(aj l 6).toNat_lt;have h7:=(aj l 7).toNat_lt
 have g0:(aj l 0).toNat<128:=gL (w:=gV l) (p:=1) (low:=0) (high:=0+(aj l 1).toNat * 1+(aj l 2).toNat * 256+(aj l 3).toNat * 65536+(aj l 4).toNat * 16777216+(aj l 5).toNat * 4294967296+(aj l 6).toNat * 1099511627776+(aj l 7).toNat * 281474976710656) (by decide) (by omega) h0 (by unfold gV;omega) (jh h (k:=7) (by decide))
 have g1:(aj l 1).toNat<128:=gL (w:=gV l) (p:=256) (low:=0+(aj l 0).toNat * 1) (high:=0+(aj l 2).toNat * 1+(aj l 3).toNat * 256+(aj l 4).toNat * 65536+(aj l 5).toNat * 16777216+(aj l 6).toNat * 4294967296+(aj l 7).toNat * 1099511627776) (by decide) (by omega) h1 (by unfold gV;omega) (jh h (k:=15) (by decide))
 have g2:(aj l 2).toNat<128:=gL (w:=gV l) (p:=65536) (low:=0+(aj l 0).toNat * 1+(aj l 1).toNat * 256) (high:=0+(aj l 3).toNat * 1+(aj l 4).toNat * 256+(aj l 5).toNat * 65536+(aj l 6).toNat * 16777216+(aj l 7).toNat * 4294967296) (by decide) (by omega) h2 (by unfold gV;omega) (jh h (k:=23) (by decide))
 have g3:(aj l 3).toNat<128:=gL (w:=gV l) (p:=16777216) (low:=0+(aj l 0).toNat * 1+(aj l 1).toNat * 256+(aj l 2).toNat * 65536) (high:=0+(aj l 4).toNat * 1+(aj l 5).toNat * 256+(aj l 6).toNat * 65536+(aj l 7).toNat * 16777216) (by decide) (by omega) h3 (by unfold gV;omega) (jh h (k:=31) (by decide))
 have g4:(aj l 4).toNat<128:=gL (w:=gV l) (p:=4294967296) (low:=0+(aj l 0).toNat * 1+(aj l 1).toNat * 256+(aj l 2).toNat * 65536+(aj l 3).toNat * 16777216) (high:=0+(aj l 5).toNat * 1+(aj l 6).toNat * 256+(aj l 7).toNat * 65536) (by decide) (by omega) h4 (by unfold gV;omega) (jh h (k:=39) (by decide))
 have g5:(aj l 5).toNat<128:=gL (w:=gV l) (p:=1099511627776) (low:=0+(aj l 0).toNat * 1+(aj l 1).toNat * 256+(aj l 2).toNat * 65536+(aj l 3).toNat * 16777216+(aj l 4).toNat * 4294967296) (high:=0+(aj l 6).toNat * 1+(aj l 7).toNat * 256) (by decide) (by omega) h5 (by unfold gV;omega) (jh h (k:=47) (by decide))
 have g6:(aj l 6).toNat<128:=gL (w:=gV l) (p:=281474976710656) (low:=0+(aj l 0).toNat * 1+(aj l 1).toNat * 256+(aj l 2).toNat * 65536+(aj l 3).toNat * 16777216+(aj l 4).toNat * 4294967296+(aj l 5).toNat * 1099511627776) (high:=0+(aj l 7).toNat * 1) (by decide) (by omega) h6 (by unfold gV;omega) (jh h (k:=55) (by decide))
 have g7:(aj l 7).toNat<128:=gL (w:=gV l) (p:=72057594037927936) (low:=0+(aj l 0).toNat * 1+(aj l 1).toNat * 256+(aj l 2).toNat * 65536+(aj l 3).toNat * 16777216+(aj l 4).toNat * 4294967296+(aj l 5).toNat * 1099511627776+(aj l 6).toNat * 281474976710656) (high:=0) (by decide) (by omega) h7 (by unfold gV;omega) (jh h (k:=63) (by decide))
 intro i hi
 have e:i=0∨i=1∨i=2∨i=3∨i=4∨i=5∨i=6∨i=7:=by omega
 rcases e with rfl | rfl | rfl | rfl | rfl | rfl | rfl | rfl<;>assumption
theorem gI {a b h:Nat} (hh:(a ||| b) &&& h=0):a &&& h=0∧b &&& h=0:=by
 rw [Nat.and_or_distrib_right] at hh
 exact ⟨Nat.eq_zero_of_le_zero (by rw [← hh];exact Nat.left_le_or),Nat.eq_zero_of_le_zero (by rw [← hh];exact Nat.right_le_or)⟩
theorem uh {a:Nat} (ha:a<18446744073709551616):AY .u64 (a:Int) 9259542123273814144=((a &&& 9259542123273814144:Nat):Int):=by
 have h:(BitVec.ofInt 64 (a:Int) &&& BitVec.ofInt 64 ((9259542123273814144:Nat):Int)).toNat=a &&& 9259542123273814144:=vJ ha (by decide)
 show IntKind.u64.wrap ((BitVec.ofInt 64 (a:Int) &&& BitVec.ofInt 64 ((9259542123273814144:Nat):Int)).toNat)=_
 rw [h,tQ]
 have:a &&& 9259542123273814144≤a:=Nat.and_le_left
 omega
theorem H_ {a b:Nat} (ha:a<18446744073709551616) (hb:b<18446744073709551616):iY .u64 (a:Int) (b:Int)=((a ||| b:Nat):Int)∧a ||| b<18446744073709551616:=by
 have h:(BitVec.ofInt 64 (a:Int) ||| BitVec.ofInt 64 (b:Int)).toNat=a ||| b:=DR ha hb
 have hl:a ||| b<2 ^ 64:=Nat.or_lt_two_pow ha hb
 refine ⟨?_,hl⟩
 show IntKind.u64.wrap ((BitVec.ofInt 64 (a:Int) ||| BitVec.ofInt 64 (b:Int)).toNat)=_
 rw [h,tQ]
 omega
def jJ (l:List UInt8):Option Nat :=
 let x:=Lib.firstT (aj l 0).toNat
 let lo:=Lib.accLo (x / 16)
 let hi:=Lib.accHi (x / 16)
 if x % 8=2 then (if 2≤l.length∧lo≤(aj l 1).toNat∧(aj l 1).toNat≤hi then some 2 else none)
 else if x % 8=3 then (if 3≤l.length∧lo≤(aj l 1).toNat∧(aj l 1).toNat≤hi∧128≤(aj l 2).toNat∧(aj l 2).toNat≤191 then some 3 else none)
 else if x % 8=4 then (if 4≤l.length∧lo≤(aj l 1).toNat∧(aj l 1).toNat≤hi∧128≤(aj l 2).toNat∧(aj l 2).toNat≤191∧128≤(aj l 3).toNat∧(aj l 3).toNat≤191 then some 4 else none)
 else none
def I1:Nat→List UInt8→Bool
 | 0,_=>true
 | _+1,[]=>true
 | f+1,b :: r=>if b.toNat<128 then I1 f r else match jJ (b :: r) with
  | some k=>I1 f ((b :: r).drop k)
  | none=>false
def uv (l:List UInt8):Bool:=I1 l.length l
theorem pn {l:List UInt8} {k:Nat} (h:jJ l=some k):2≤k∧k≤l.length:=by
 unfold jJ at h
 simp only at h
 repeat' split at h
 all_goals first | (cases h;done) | (cases h;rename_i hh;exact ⟨by omega,hh.1⟩)
theorem kq:∀(f g:Nat) (l:List UInt8),l.length≤f→l.length≤g→I1 f l=I1 g l
 | 0,0,_,_,_=>rfl
 | 0,g+1,l,h,_=>by
  have:l=[]:=jw (by omega)
  subst this;rfl
 | f+1,0,l,_,h=>by
  have:l=[]:=jw (by omega)
  subst this;rfl
 | f+1,g+1,[],_,_=>rfl
 | f+1,g+1,b :: r,h1,h2=>by
  simp only [pD] at h1 h2
  simp only [I1]
  split
  ·exact kq f g r (by omega) (by omega)
  ·cases hk:jJ (b :: r) with
   | none=>rfl
   | some k =>
    have:=pn hk
    exact kq f g _ (by simp only [vx,pD];omega) (by simp only [vx,pD];omega)
theorem NL:uv []=true:=rfl
theorem EJ {l:List UInt8} (hl:0<l.length) (h:(aj l 0).toNat<128):uv l=uv (l.drop 1):=by
 cases l with
 | nil=>simp at hl
 | cons b r =>
  have h':b.toNat<128:=h
  simp only [uv,pD,I1,List.drop_succ_cons,List.drop_zero]
  rw [bz h']
theorem NM {l:List UInt8} {k:Nat} (hl:0<l.length) (h:¬(aj l 0).toNat<128) (hk:jJ l=some k):uv l=uv (l.drop k):=by
 have hp:=pn hk
 cases l with
 | nil=>simp at hl
 | cons b r =>
  have h':¬b.toNat<128:=h
  simp only [uv,pD,I1]
  rw [aJ h',hk]
  exact kq _ _ _ (by simp only [vx,pD];omega) (bD _)
theorem NK {l:List UInt8} (hl:0<l.length) (h:¬(aj l 0).toNat<128) (hk:jJ l=none):uv l=false:=by
 cases l with
 | nil=>simp at hl
 | cons b r =>
  have h':¬b.toNat<128:=h
  simp only [uv,pD,I1]
  rw [aJ h',hk]
theorem wE {l:List UInt8}:∀k,k≤l.length→(∀i,i<k→(aj l i).toNat<128)→uv l=uv (l.drop k)
 | 0,_,_=>rfl
 | k+1,hk,h=>by
  rw [wE k (by omega) (fun i hi=>h i (by omega)),EJ (by simp;omega) (by rw [DH];exact h k (by omega)),List.drop_drop]
theorem iM {l:List UInt8} (hl:8≤l.length) (h:gV l &&& 9259542123273814144=0):uv l=uv (l.drop 8):=wE 8 hl (I5 h)
theorem VD (b:UInt8):IntKind.u64.wrap (b.toNat:Int)=(b.toNat:Int):=by
 have:=b.toNat_lt
 rw [tQ];omega
theorem NN (l:List UInt8):iY .u64 (iY .u64 (iY .u64 (iY .u64 (iY .u64 (iY .u64 (iY .u64 ((aj l 0).toNat:Int) (fz .u64 ((aj l 1).toNat:Int) 8)) (fz .u64 ((aj l 2).toNat:Int) 16)) (fz .u64 ((aj l 3).toNat:Int) 24)) (fz .u64 ((aj l 4).toNat:Int) 32)) (fz .u64 ((aj l 5).toNat:Int) 40)) (fz .u64 ((aj l 6).toNat:Int) 48)) (fz .u64 ((aj l 7).toNat:Int) 56)=((gV l:Nat):Int):=by
 have h0:=(aj l 0).toNat_lt;have h1:=(aj l 1).toNat_lt;have h2:=(aj l 2).toNat_lt;have h3:=(aj l 3).toNat_lt
 have h4:=(aj l 4).toNat_lt;have h5:=(aj l 5).toNat_lt;have h6:=(aj l 6).toNat_lt;have h7:=(aj l 7).toNat_lt
 have e1:iY .u64 (((aj l 0).toNat:Nat):Int) (fz .u64 ((aj l 1).toNat:Int) 8)=(((aj l 0).toNat+(aj l 1).toNat * 256:Nat):Int):=o_ (s:=8) 256 (by decide) (by decide) (by omega) h1
 have e2:iY .u64 (((aj l 0).toNat+(aj l 1).toNat * 256:Nat):Int) (fz .u64 ((aj l 2).toNat:Int) 16)=(((aj l 0).toNat+(aj l 1).toNat * 256+(aj l 2).toNat * 65536:Nat):Int):=o_ (s:=16) 65536 (by decide) (by decide) (by omega) h2
 have e3:iY .u64 (((aj l 0).toNat+(aj l 1).toNat * 256+(aj l 2).toNat * 65536:Nat):Int) (fz .u64 ((aj l 3).toNat:Int) 24)=(((aj l 0).toNat+(aj l 1).toNat * 256+(aj l 2).toNat * 65536+(aj l 3).toNat * 16777216:Nat):Int):=o_ (s:=24) 16777216 (by decide) (by decide) (by omega) h3
 have e4:iY .u64 (((aj l 0).toNat+(aj l 1).toNat * 256+(aj l 2).toNat * 65536+(aj l 3).toNat * 16777216:Nat):Int) (fz .u64 ((aj l 4).toNat:Int) 32)=(((aj l 0).toNat+(aj l 1).toNat * 256+(aj l 2).toNat * 65536+(aj l 3).toNat * 16777216+(aj l 4).toNat * 4294967296:Nat):Int):=o_ (s:=32) 4294967296 (by decide) (by decide) (by omega) h4
 have e5:iY .u64 (((aj l 0).toNat+(aj l 1).toNat * 256+(aj l 2).toNat * 65536+(aj l 3).toNat * 16777216+(aj l 4).toNat * 4294967296:Nat):Int) (fz .u64 ((aj l 5).toNat:Int) 40)=(((aj l 0).toNat+(aj l 1).toNat * 256+(aj l 2).toNat * 65536+(aj l 3).toNat * 16777216+(aj l 4).toNat * 4294967296+(aj l 5).toNat * 1099511627776:Nat):Int):=o_ (s:=40) 1099511627776 (by decide) (by decide) (by omega) h5
 have e6:iY .u64 (((aj l 0).toNat+(aj l 1).toNat * 256+(aj l 2).toNat * 65536+(aj l 3).toNat * 16777216+(aj l 4).toNat * 4294967296+(aj l 5).toNat * 1099511627776:Nat):Int) (fz .u64 ((aj l 6).toNat:Int) 48)=(((aj l 0).toNat+(aj l 1).toNat * 256+(aj l 2).toNat * 65536+(aj l 3).toNat * 16777216+(aj l 4).toNat * 4294967296+(aj l 5).toNat * 1099511627776+(aj l 6).toNat * 281474976710656:Nat):Int):=o_ (s:=48) 281474976710656 (by decide) (by decide) (by omega) h6
 have e7:iY .u64 (((aj l 0).toNat+(aj l 1).toNat * 256+(aj l 2).toNat * 65536+(aj l 3).toNat * 16777216+(aj l 4).toNat * 4294967296+(aj l 5).toNat * 1099511627776+(aj l 6).toNat * 281474976710656:Nat):Int) (fz .u64 ((aj l 7).toNat:Int) 56)=(((aj l 0).toNat+(aj l 1).toNat * 256+(aj l 2).toNat * 65536+(aj l 3).toNat * 16777216+(aj l 4).toNat * 4294967296+(aj l 5).toNat * 1099511627776+(aj l 6).toNat * 281474976710656+(aj l 7).toNat * 72057594037927936:Nat):Int):=o_ (s:=56) 72057594037927936 (by decide) (by decide) (by omega) h7
 rw [e1,e2,e3,e4,e5,e6,e7]
 rfl
theorem er (l:List UInt8) (h:8≤l.length):ak Tryz.prog Uj [.str l] (.int .u64 (gV l)):=by
 refine ah (ic:=JY.body) ap SH rfl rfl ?_
 simp only [JY,go_sem,VD]
 refine ⟨by omega,by omega,by omega,by omega,by omega,by omega,by omega,by omega,by omega,by omega,by omega,by omega,by omega,by omega,by omega,by omega,by omega,by omega,by omega,by omega,by omega,by omega,by omega,?_⟩
 exact aL [] (by simp only [go_sem,NN]) rfl
end Go.Proofs.YtdefmgmmjfgbpaaGreatDoor