import Derived.Test.YtjndcljjbpeljaaGreatDoorPQw
set_option linter.all false
set_option maxRecDepth 100000
set_option maxHeartbeats 40000000
namespace Go.Proofs.YtjndcljjbpeljaaGreatDoor
section
open Go Go.Mw
attribute [local go_sem] cY jr bG aV dU a_ d_ ua cH
theorem J2 (l:List Int) (hl:l.length≤9223372036854775807) (x:Int):ae Tryz.prog T6 [.sl 1 (l.map ri),.int .i64 x] (.bool (decide (x∈l))):=by
 refine ab (ic:=BI.body) aq R2 rfl rfl ?_
 simp only [go_sem,BI]
 refine an (fun i:Nat=>⟨[(5,.int .i64 i),(1,.int .i64 x),(0,.sl 1 (l.map ri))],[]⟩) (fun i=>i≤l.length∧x∉l.take i) (fun i=>l.length - i) 0 ⟨cE _,by simp⟩ (Wk.of ?_ ?_) ?_
 ·simp only [go_sem];try simp
 ·simp only [go_sem]
 rintro i ⟨hi,hx⟩
 by_cases q:(i:Int)<(l.length:Int)
 ·have hi':i<l.length:=by omega
  have e8:=wi (n:=(i:Int)+1) (by omega) (by omega)
  by_cases h:ah l i=x
  ·rw [aF (show x∈l by rw [← h,bD hi'];exact List.getElem_mem hi')]
   simp only [go_sem,aF q,ri,bq h]
   refine ⟨by omega,q,?_⟩
   exact aj
  ·simp only [go_sem,aF q,ri,aN h]
   refine ⟨by omega,q,?_⟩
   refine aC (i+1) ⟨show i+1≤l.length by omega,by rw [fv hi',ef,ow];rintro (q | q);exact hx q;exact h q.symm⟩ (show l.length - (i+1)<l.length - i by omega) (Wk.of ?_ ?_)
   ·simp only [go_sem,e8];try simp
   ·simp only [go_sem]
 ·obtain rfl:i=l.length:=by omega
  rw [dj] at hx
  rw [aG hx]
  simp only [go_sem,aG q]
  exact aj
theorem iF {α:Type} [Inhabited α] {f:α→Bool} {l:List α} {i:Nat} (h:i<l.length) (hf:f (ah l i)=false):l.all f=false:=by
 rw [List.all_eq_false]
 exact ⟨_,List.getElem_mem h,by rw [← bD h,hf];decide⟩
theorem rA {l:List bz} (h:(nchk l).2=0):sO l=true:=by unfold sO;simp [h]
theorem rz {l:List bz} (h:¬(nchk l).2=0):sO l=false:=by unfold sO;simpa using h
theorem Fv {m:Md} (h:yI mD m):ae Tryz.prog TK [bJ m] (.bool (ol m)):=by
 refine ab (ic:=Bl.body) aq Rs rfl rfl ?_
 have hfs:=h.fs.1
 have hgs:=h.gs.1
 have hel:=h.els.1
 have hds:=h.ds.1
 rw [O4]
 simp only [go_sem,Bl,bJ]
 refine an (fun i:Nat=>⟨[(3,.int .i64 i),(1,.mp 1 12 0 0)],[(1,⟨33,12,[gH m],true⟩)]⟩) (fun i=>i≤m.fs.length∧(m.fs.take i).all (fun x=>sO x.b)=true) (fun i=>m.fs.length - i) 0 ⟨cE _,rfl⟩ (Wk.of ?_ ?_) ?_
 ·simp only [go_sem];try simp
 ·simp only [go_sem];try simp [go_sem]
 rintro i ⟨hi,ha⟩
 by_cases q1:(i:Int)<(m.fs.length:Int)
 ·have hi':i<m.fs.length:=by omega
  have e8:=wi (n:=(i:Int)+1) (by omega) (by omega)
  have hl:=(bp h.bo hi').1
  have c:=gM (ah m.fs i).b (by omega)
  simp only [go_sem,aF q1]
  refine ⟨by omega,q1,?_⟩
  refine aa (c) ?_
  by_cases z:(nchk (ah m.fs i).b).2=0
  ·simp only [go_sem,aL z]
   refine aC (i+1) ⟨show i+1≤m.fs.length by omega,by rw [nM hi',ha,rA z];rfl⟩ (show m.fs.length - (i+1)<m.fs.length - i by omega) (Wk.of ?_ ?_)
   ·simp only [go_sem,e8];try simp
   ·simp only [go_sem];try simp [go_sem]
  ·rw [iF (f:=fun x:Cd=>sO x.b) hi' (rz z)]
   simp only [cF]
   simp only [go_sem,aZ z]
   exact aj
 obtain rfl:i=m.fs.length:=by omega
 rw [dj] at ha
 rw [ha]
 simp only [go_sem,aG q1]
 clear q1 hi ha
 refine an (fun i:Nat=>⟨[(6,.int .i64 i),(1,.mp 1 12 0 0)],[(1,⟨33,12,[gH m],true⟩)]⟩) (fun i=>i≤m.gs.length∧(m.gs.take i).all (fun x=>sO x.i)=true) (fun i=>m.gs.length - i) 0 ⟨cE _,rfl⟩ (Wk.of ?_ ?_) ?_
 ·simp only [go_sem];try simp
 ·simp only [go_sem];try simp [go_sem]
 rintro i ⟨hi,ha⟩
 by_cases q1:(i:Int)<(m.gs.length:Int)
 ·have hi':i<m.gs.length:=by omega
  have e8:=wi (n:=(i:Int)+1) (by omega) (by omega)
  have hl:=(bp h.gs.2 hi').2.1
  have c:=gM (ah m.gs i).i (by omega)
  simp only [go_sem,aF q1]
  refine ⟨by omega,q1,?_⟩
  refine aa (c) ?_
  by_cases z:(nchk (ah m.gs i).i).2=0
  ·simp only [go_sem,aL z]
   refine aC (i+1) ⟨show i+1≤m.gs.length by omega,by rw [nM hi',ha,rA z];rfl⟩ (show m.gs.length - (i+1)<m.gs.length - i by omega) (Wk.of ?_ ?_)
   ·simp only [go_sem,e8];try simp
   ·simp only [go_sem];try simp [go_sem]
  ·rw [iF (f:=fun x:Gd=>sO x.i) hi' (rz z)]
   simp only [cF,Bool.and_false,bR]
   simp only [go_sem,aZ z]
   exact aj
 obtain rfl:i=m.gs.length:=by omega
 rw [dj] at ha
 rw [ha]
 simp only [go_sem,aG q1]
 clear q1 hi ha
 refine an (fun i:Nat=>⟨[(9,.int .i64 i),(1,.mp 1 12 0 0)],[(1,⟨33,12,[gH m],true⟩)]⟩) (fun i=>i≤m.els.length∧(m.els.take i).all GJ=true) (fun i=>m.els.length - i) 0 ⟨cE _,rfl⟩ (Wk.of ?_ ?_) ?_
 ·simp only [go_sem];try simp
 ·simp only [go_sem];try simp [go_sem]
 rintro i ⟨hi,ha⟩
 by_cases q1:(i:Int)<(m.els.length:Int)
 ·have hi':i<m.els.length:=by omega
  have e8:=wi (n:=(i:Int)+1) (by omega) (by omega)
  obtain ⟨k1,k2,k3⟩:=bp h.els.2 hi'
  have kl:=k2.1
  have hit:=(sV k1).2.2.2.2
  have c:=gM (ah m.els i).o (by omega)
  by_cases m0:(ah m.els i).mo=0
  ·by_cases z:(nchk (ah m.els i).o).2=0
   ·have hz:((ah m.els i).mo != 0||sO (ah m.els i).o)=true:=by rw [rA z,Bool.or_true]
    simp only [go_sem,aF q1]
    refine ⟨by omega,q1,?_⟩
    refine aa (c) ?_
    simp only [go_sem,bq m0,aL z]
    refine ⟨by omega,q1,?_⟩
    refine an (fun j:Nat=>⟨[(12,.int .i64 j),(9,.int .i64 i),(1,.mp 1 12 0 0)],[(1,⟨33,12,[gH m],true⟩)]⟩) (fun j=>j≤(ah m.els i).it.length∧((ah m.els i).it.take j).all sO=true) (fun j=>(ah m.els i).it.length - j) 0 ⟨cE _,rfl⟩ (Wk.of ?_ ?_) ?_
    ·simp only [go_sem];try simp
    ·simp only [go_sem];try simp [go_sem]
    rintro j ⟨hj,hja⟩
    by_cases q2:(j:Int)<((ah m.els i).it.length:Int)
    ·have hj':j<(ah m.els i).it.length:=by omega
     have e9:=wi (n:=(j:Int)+1) (by omega) (by omega)
     have c2:=gM (ah (ah m.els i).it j) (by have:=(bp k3 hj').1;omega)
     simp only [go_sem,aF q2]
     refine ⟨by omega,q1,by omega,q1,by omega,q2,?_⟩
     refine aa (c2) ?_
     by_cases z2:(nchk (ah (ah m.els i).it j)).2=0
     ·simp only [go_sem,aL z2]
      refine aC (j+1) ⟨show j+1≤(ah m.els i).it.length by omega,by rw [nM hj',hja,rA z2];rfl⟩ (show (ah m.els i).it.length - (j+1)<(ah m.els i).it.length - j by omega) (Wk.of ?_ ?_)
      ·simp only [go_sem,e9];try simp
      ·simp only [go_sem];try simp [go_sem]
     ·rw [iF (f:=GJ) hi' (by unfold GJ;rw [iF (f:=sO) hj' (rz z2),Bool.and_false])]
      simp only [cF,Bool.and_false,bR]
      simp only [go_sem,aZ z2]
      exact aj
    obtain rfl:j=(ah m.els i).it.length:=by omega
    rw [dj] at hja
    simp only [go_sem,aG q2]
    refine ⟨by omega,q1,?_⟩
    refine aC (i+1) ⟨show i+1≤m.els.length by omega,by rw [nM hi',ha];unfold GJ;rw [hz,hja];rfl⟩ (show m.els.length - (i+1)<m.els.length - i by omega) (Wk.of ?_ ?_)
    ·simp only [go_sem,e8];try simp
    ·simp only [go_sem];try simp [go_sem]
   ·rw [iF (f:=GJ) hi' (by unfold GJ;rw [m0,rz z];rfl)]
    simp only [cF,Bool.and_false,bR]
    simp only [go_sem,aF q1]
    refine ⟨by omega,q1,?_⟩
    refine aa (c) ?_
    simp only [go_sem,bq m0,aZ z]
    refine ⟨by omega,q1,?_⟩
    exact aj
  ·have hz:((ah m.els i).mo != 0||sO (ah m.els i).o)=true:=by rw [aZ m0,lZ]
   simp only [go_sem,aF q1]
   refine ⟨by omega,q1,?_⟩
   refine aa (c) ?_
   simp only [go_sem,aN m0]
   refine ⟨by omega,q1,?_⟩
   refine an (fun j:Nat=>⟨[(12,.int .i64 j),(9,.int .i64 i),(1,.mp 1 12 0 0)],[(1,⟨33,12,[gH m],true⟩)]⟩) (fun j=>j≤(ah m.els i).it.length∧((ah m.els i).it.take j).all sO=true) (fun j=>(ah m.els i).it.length - j) 0 ⟨cE _,rfl⟩ (Wk.of ?_ ?_) ?_
   ·simp only [go_sem];try simp
   ·simp only [go_sem];try simp [go_sem]
   rintro j ⟨hj,hja⟩
   by_cases q2:(j:Int)<((ah m.els i).it.length:Int)
   ·have hj':j<(ah m.els i).it.length:=by omega
    have e9:=wi (n:=(j:Int)+1) (by omega) (by omega)
    have c2:=gM (ah (ah m.els i).it j) (by have:=(bp k3 hj').1;omega)
    simp only [go_sem,aF q2]
    refine ⟨by omega,q1,by omega,q1,by omega,q2,?_⟩
    refine aa (c2) ?_
    by_cases z2:(nchk (ah (ah m.els i).it j)).2=0
    ·simp only [go_sem,aL z2]
     refine aC (j+1) ⟨show j+1≤(ah m.els i).it.length by omega,by rw [nM hj',hja,rA z2];rfl⟩ (show (ah m.els i).it.length - (j+1)<(ah m.els i).it.length - j by omega) (Wk.of ?_ ?_)
     ·simp only [go_sem,e9];try simp
     ·simp only [go_sem];try simp [go_sem]
    ·rw [iF (f:=GJ) hi' (by unfold GJ;rw [iF (f:=sO) hj' (rz z2),Bool.and_false])]
     simp only [cF,Bool.and_false,bR]
     simp only [go_sem,aZ z2]
     exact aj
   obtain rfl:j=(ah m.els i).it.length:=by omega
   rw [dj] at hja
   simp only [go_sem,aG q2]
   refine ⟨by omega,q1,?_⟩
   refine aC (i+1) ⟨show i+1≤m.els.length by omega,by rw [nM hi',ha];unfold GJ;rw [hz,hja];rfl⟩ (show m.els.length - (i+1)<m.els.length - i by omega) (Wk.of ?_ ?_)
   ·simp only [go_sem,e8];try simp
   ·simp only [go_sem];try simp [go_sem]
 obtain rfl:i=m.els.length:=by omega
 rw [dj] at ha
 rw [ha]
 simp only [go_sem,aG q1]
 clear q1 hi ha
 refine an (fun i:Nat=>⟨[(15,.int .i64 i),(1,.mp 1 12 0 0)],[(1,⟨33,12,[gH m],true⟩)]⟩) (fun i=>i≤m.ds.length∧(m.ds.take i).all KZ=true) (fun i=>m.ds.length - i) 0 ⟨cE _,rfl⟩ (Wk.of ?_ ?_) ?_
 ·simp only [go_sem];try simp
 ·simp only [go_sem];try simp [go_sem]
 rintro i ⟨hi,ha⟩
 by_cases q1:(i:Int)<(m.ds.length:Int)
 ·have hi':i<m.ds.length:=by omega
  have e8:=wi (n:=(i:Int)+1) (by omega) (by omega)
  have hl:=(bp h.ds.2 hi').2.2.2.1
  have c:=gM (ah m.ds i).o (by omega)
  by_cases m0:(ah m.ds i).mo=0
  ·by_cases z:(nchk (ah m.ds i).o).2=0
   ·have hz:KZ (ah m.ds i)=true:=by unfold KZ;rw [rA z,Bool.or_true]
    simp only [go_sem,aF q1]
    refine ⟨by omega,q1,?_⟩
    refine aa (c) ?_
    simp only [go_sem,bq m0,aL z]
    refine ⟨by omega,q1,?_⟩
    refine aC (i+1) ⟨show i+1≤m.ds.length by omega,by rw [nM hi',ha,hz];rfl⟩ (show m.ds.length - (i+1)<m.ds.length - i by omega) (Wk.of ?_ ?_)
    ·simp only [go_sem,e8];try simp
    ·simp only [go_sem];try simp [go_sem]
   ·rw [iF (f:=KZ) hi' (by unfold KZ;rw [m0,rz z];rfl)]
    simp only [go_sem,aF q1]
    refine ⟨by omega,q1,?_⟩
    refine aa (c) ?_
    simp only [go_sem,bq m0,aZ z]
    refine ⟨by omega,q1,?_⟩
    exact aj
  ·have hz:KZ (ah m.ds i)=true:=by unfold KZ;rw [aZ m0,lZ]
   simp only [go_sem,aF q1]
   refine ⟨by omega,q1,?_⟩
   refine aa (c) ?_
   simp only [go_sem,aN m0]
   refine ⟨by omega,q1,?_⟩
   refine aC (i+1) ⟨show i+1≤m.ds.length by omega,by rw [nM hi',ha,hz];rfl⟩ (show m.ds.length - (i+1)<m.ds.length - i by omega) (Wk.of ?_ ?_)
   ·simp only [go_sem,e8];try simp
   ·simp only [go_sem];try simp [go_sem]
 obtain rfl:i=m.ds.length:=by omega
 rw [dj] at ha
 rw [ha]
 simp only [go_sem,aG q1]
 exact aj
def kw (cs:List Cu) (i:Nat):Int:=if i=0 then 0 else (ah cs (i - 1)).af
theorem oD (cs:List Cu) (i:Nat):kw cs (i+1)=(ah cs i).af:=by unfold kw;rw [aD (by omega)];rfl
theorem AX {m:Md} (hc:m.cs.length≤9223372036854775807):ae Tryz.prog Zy [bJ m] (.bool (qP m)):=by
 have c:=vv m
 have hpi:=tA m
 have hpl:=p6 m
 simp only [bJ,aV] at c
 unfold qP
 generalize jI m=ps at *
 refine ab (ic:=MR.body) aq XO rfl rfl ?_
 simp only [go_sem,MR,bJ]
 refine aa (c) ?_
 simp only [go_sem]
 refine an (fun i:Nat=>⟨[(4,.int .i64 i),(3,.sl 1 (ps.map ri)),(1,.mp 1 12 0 0)],[(1,⟨33,12,[gH m],true⟩)]⟩) (fun i=>i≤m.cs.length∧jH ps (kw m.cs i) (m.cs.drop i)=jH ps 0 m.cs) (fun i=>m.cs.length - i) 0 ⟨cE _,rfl⟩ (Wk.of ?_ ?_) ?_
 ·simp only [go_sem];try simp
 ·simp only [go_sem];try simp [go_sem]
 rintro i ⟨hi,ho⟩
 by_cases q:(i:Int)<(m.cs.length:Int)
 rotate_left
 ·obtain rfl:i=m.cs.length:=by omega
  rw [List.drop_length,jH] at ho
  rw [← ho]
  simp only [go_sem,aG q]
  exact aj
 have hi':i<m.cs.length:=by omega
 have e8:=wi (n:=(i:Int)+1) (by omega) (by omega)
 rw [kP hi',jH] at ho
 generalize ha:(ah m.cs i).af=a at *
 have cm:=J2 ps (by omega) a
 generalize hF:jH ps 0 m.cs=F at *
 by_cases a0:a=0
 ·have hok:decide (a=0∨a∈ps)=true:=aF (.inl a0)
  rw [hok] at ho
  by_cases i0:i=0
  ·have hn:¬a<0:=by
    have:=of_decide_eq_true hok
    rcases this with h | h
    ·omega
    ·have:=hpi a h;omega
   have hl0:kw m.cs i=0:=by unfold kw;rw [aK i0]
   rw [hl0,aG hn] at ho
   simp only [go_sem,aF q,ha,aL a0,aG (show ¬(i:Int)>0 by omega)]
   refine ⟨by omega,q,?_⟩
   refine aC (i+1) ⟨show i+1≤m.cs.length by omega,by rw [oD,ha,← ho];rfl⟩ (show m.cs.length - (i+1)<m.cs.length - i by omega) (Wk.of ?_ ?_)
   ·simp only [go_sem,e8];try simp
   ·simp only [go_sem];try simp [go_sem]
  have w1:IntKind.i64.wrap ((i:Int) - 1)=((i - 1:Nat):Int):=by rw [wi (by omega) (by omega)];omega
  have hl0:kw m.cs i=(ah m.cs (i - 1)).af:=by unfold kw;rw [aD i0]
  rw [hl0] at ho
  by_cases l:a<(ah m.cs (i - 1)).af
  ·rw [aF l] at ho
   simp only [lZ,cQ,cF] at ho
   rw [← ho]
   simp only [go_sem,aF q,ha,aL a0,aF (show (i:Int)>0 by omega),w1,aF l]
   refine ⟨by omega,q,?_⟩
   refine ⟨by omega,by omega,?_⟩
   exact aj
  ·rw [aG l] at ho
   simp only [go_sem,aF q,ha,aL a0,aF (show (i:Int)>0 by omega),w1,aG l]
   refine ⟨by omega,q,?_⟩
   refine ⟨by omega,by omega,?_⟩
   refine aC (i+1) ⟨show i+1≤m.cs.length by omega,by rw [oD,ha,← ho];rfl⟩ (show m.cs.length - (i+1)<m.cs.length - i by omega) (Wk.of ?_ ?_)
   ·simp only [go_sem,e8];try simp
   ·simp only [go_sem];try simp [go_sem]
 by_cases hin:a∈ps
 ·have hok:decide (a=0∨a∈ps)=true:=aF (.inr hin)
  rw [hok] at ho
  by_cases i0:i=0
  ·have hn:¬a<0:=by
    have:=of_decide_eq_true hok
    rcases this with h | h
    ·omega
    ·have:=hpi a h;omega
   have hl0:kw m.cs i=0:=by unfold kw;rw [aK i0]
   rw [hl0,aG hn] at ho
   simp only [go_sem,aF q,ha,aZ a0]
   refine ⟨by omega,q,?_⟩
   refine aa (cm) ?_
   rw [aF hin]
   simp only [go_sem,aG (show ¬(i:Int)>0 by omega)]
   refine aC (i+1) ⟨show i+1≤m.cs.length by omega,by rw [oD,ha,← ho];rfl⟩ (show m.cs.length - (i+1)<m.cs.length - i by omega) (Wk.of ?_ ?_)
   ·simp only [go_sem,e8];try simp
   ·simp only [go_sem];try simp [go_sem]
  have w1:IntKind.i64.wrap ((i:Int) - 1)=((i - 1:Nat):Int):=by rw [wi (by omega) (by omega)];omega
  have hl0:kw m.cs i=(ah m.cs (i - 1)).af:=by unfold kw;rw [aD i0]
  rw [hl0] at ho
  by_cases l:a<(ah m.cs (i - 1)).af
  ·rw [aF l] at ho
   simp only [lZ,cQ,cF] at ho
   rw [← ho]
   simp only [go_sem,aF q,ha,aZ a0]
   refine ⟨by omega,q,?_⟩
   refine aa (cm) ?_
   rw [aF hin]
   simp only [go_sem,aF (show (i:Int)>0 by omega),w1,aF l]
   refine ⟨by omega,by omega,?_⟩
   exact aj
  ·rw [aG l] at ho
   simp only [go_sem,aF q,ha,aZ a0]
   refine ⟨by omega,q,?_⟩
   refine aa (cm) ?_
   rw [aF hin]
   simp only [go_sem,aF (show (i:Int)>0 by omega),w1,aG l]
   refine ⟨by omega,by omega,?_⟩
   refine aC (i+1) ⟨show i+1≤m.cs.length by omega,by rw [oD,ha,← ho];rfl⟩ (show m.cs.length - (i+1)<m.cs.length - i by omega) (Wk.of ?_ ?_)
   ·simp only [go_sem,e8];try simp
   ·simp only [go_sem];try simp [go_sem]
 ·have hok:decide (a=0∨a∈ps)=false:=aG (by rintro (h | h);exact a0 h;exact hin h)
  rw [hok] at ho
  simp only [cZ,Bool.or_true,cQ,cF] at ho
  simp only [go_sem,aF q,ha,aZ a0]
  refine ⟨by omega,q,?_⟩
  refine aa (cm) ?_
  rw [aG hin,← ho]
  simp only [go_sem]
  exact aj
end
section
open Go Go.Mw
attribute [local go_sem] ro wo wa wx rx dE jr bG
section
variable {l:List UInt8} {e:Int} (hl:l.length≤1000)
include hl
end
def o1 (x:bz):Option (List UInt8)×Int:=wD true (ky x [] 0).1 (ky x [] 0).2
end
section
open Go Go.Mw
def YX (f:FuncId) (rest:List AV) (x:List UInt8):Prop:=∀l:List UInt8,l.length+x.length≤1000000000→ae Tryz.prog f (wx l 0 :: rest) (wx (l++x) 0)
theorem aE {f:FuncId} {rest:List AV} {x:List UInt8} (h:YX f rest x) {l:List UInt8} {args:List AV} {d:Option Nat} {s:St} {K:St→Prop} (ha:args=wx l 0 :: rest) (hid:∀x∈args,aP x=[]) (hl:l.length+x.length≤1000000000) (hk:K (s.put d (wx (l++x) 0))):cW Tryz.prog f args d s K:=by
 subst ha
 exact ck (h l hl) hid hk
theorem az {f:FuncId} {rest:List AV} {x:List UInt8} (h:YX f rest x) {l:List UInt8} {args:List AV} {i:Nat} {bf:List Nat} {op:ik} {d:Option Nat} {hist:List HI} {s:St} {K:List HI→St→Prop} (ha:args=wx l 0 :: rest) (hid:∀x∈args,aP x=[]) (hl:l.length+x.length≤1000000000)
  (hk:dW op s .no=true∧fG bf ⟨i,cD op s.env,[],[],false,false⟩ hist=true∧K (⟨i,cD op s.env,[],[],false,false⟩ :: hist) (s.put d (wx (l++x) 0))):wH Tryz.prog f args i bf op d hist s K:=by
 subst ha
 exact aB (h l hl) hid rfl hk
theorem da {w l x:List UInt8} {s:St} {e:IX} {rs:List iL} (he:∀j,e≠.ext j) (h0:ku rs s=some (wx l 0)) (h:l=w++x):oT rs (wx (w++x) 0) e s:=by
 subst h
 exact ⟨he,s,Wk.refl s,[],h0,rfl⟩
theorem j6 (n:Nat) (hn:n<4294967296):YX tp [.int .i64 (n:Int)] (aA n):=fun l hl=>AI (by omega) n hn
theorem ss {n:Int} (h:0≤n∧n<4294967296):YX tp [.int .i64 n] (aA n.toNat):=by
 have:=j6 n.toNat (by omega)
 rwa [show ((n.toNat:Nat):Int)=n by omega] at this
theorem ue (x:UInt8):YX O0 [.int .u8 x.toNat] [x]:=fun l hl=>pZ (l:=l) (e:=0) (hl:=by omega) x
theorem vQ (x:List UInt8):YX UW [.sl 1 (x.map dJ)] x:=fun l hl=>fl l 0 (by omega) x (by omega)
theorem jY {t:Int} (h:j8 t=true):YX At [.int .i64 t] (gS t):=fun l hl=>jk (l:=l) (e:=0) (by omega) t (by rw [VR];exact h)
theorem xF {s:List UInt8} (h:fk s=0):YX UX [.str s] (nT s):=fun l hl=>by
 have hs:s.length≤64∧uv s=true:=by
  unfold fk at h
  by_cases h1:s.length>64
  ·rw [aK h1] at h;cases h
  rw [aD h1] at h
  by_cases h2:uv s=false
  ·rw [aK h2] at h;cases h
  ·exact ⟨by omega,by simpa using h2⟩
 have c:=Fh l 0 (by omega) s (by omega)
 have e:wN ((0:Int)==0) l 0 s=(l++nT s,0):=by
  unfold wN nT
  simp [hs.2]
  omega
 rw [e] at c
 exact c
theorem QB (x:List UInt8):YX UY [wx x 0] (aA x.length++x):=fun l hl=>by
 have hx:x.length<1000000000:=by
  have:=Fl x.length
  simp only [aJ] at hl
  omega
 simp only [aJ] at hl
 have c:=Fi l 0 (by omega) x 0 (by omega)
 have e:wP ((0:Int)==0) l 0 true x 0=(l++(aA x.length++x),0):=by simp [wP,wB]
 rw [e] at c
 exact c
attribute [local go_sem] cY wx dE jr bG
theorem yR {y:Lm} (h:Ar y):ae Tryz.prog ZN [.agg (Jm y)] (.bool true):=by
 obtain ⟨h1,h2,h3⟩:=h
 have ix:∀n:Int,0≤n∧n<4294967296→ij n=true:=fun n h=>by unfold ij;simp;omega
 have n1:=qa y.mn
 rw [ix _ h1] at n1
 refine ab (ic:=Hc.body) aq X7 rfl rfl ?_
 cases hh:y.hs
 ·simp only [go_sem,Hc,c_,hh]
  refine aa (n1) ?_
  simp only [go_sem,h3 hh]
  exact aI
 ·have hx:=h2 hh
  have n2:=qa y.mx
  rw [ix _ (by omega)] at n2
  simp only [go_sem,Hc,c_,hh]
  refine aa (n1) ?_
  simp only [go_sem]
  refine aa (n2) ?_
  simp only [go_sem,aF (show y.mx≥y.mn by omega)]
  exact aI
theorem GG {y:Lm} (h:Ar y):YX Zc [.agg (Jm y)] (i6 y):=by
 intro l hl
 have c1:=yR h
 obtain ⟨h1,h2,h3⟩:=h
 rw [c_] at c1
 refine ab (ic:=G7.body) aq Xm rfl rfl ?_
 have hr:=be (n:=y.mn.toNat) (by omega)
 cases hh:y.hs
 ·have e:i6 y=[0]++aA y.mn.toNat:=by unfold i6;rw [hh];rfl
  rw [e] at hl ⊢
  simp only [aJ,aQ,ay] at hl
  simp only [go_sem,G7,c_,hh]
  rw [hh] at c1
  refine aa (c1) ?_
  simp only [go_sem]
  first | refine aE (ue 0) rfl (by simp [go_sem,ac,wx]) (by (try simp only [aJ,aQ,ay]);omega) ?_ | refine az (ue 0) rfl (by simp [go_sem,ac,wx]) (by (try simp only [aJ,aQ,ay]);omega) ?_
  simp only [go_sem]
  first | refine aE (ss h1) rfl (by simp [go_sem,ac,wx]) (by (try simp only [aJ,aQ,ay]);omega) ?_ | refine az (ss h1) rfl (by simp [go_sem,ac,wx]) (by (try simp only [aJ,aQ,ay]);omega) ?_
  simp only [go_sem]
  exact da (fun _ h=>by cases h) (by rfl) (by simp [])
 ·have e:i6 y=[1]++(aA y.mn.toNat++aA y.mx.toNat):=by unfold i6;rw [hh];rfl
  rw [e] at hl ⊢
  have hx:=h2 hh
  simp only [aJ,aQ,ay] at hl
  simp only [go_sem,G7,c_,hh]
  rw [hh] at c1
  refine aa (c1) ?_
  simp only [go_sem]
  first | refine aE (ue 1) rfl (by simp [go_sem,ac,wx]) (by (try simp only [aJ,aQ,ay]);omega) ?_ | refine az (ue 1) rfl (by simp [go_sem,ac,wx]) (by (try simp only [aJ,aQ,ay]);omega) ?_
  simp only [go_sem]
  first | refine aE (ss h1) rfl (by simp [go_sem,ac,wx]) (by (try simp only [aJ,aQ,ay]);omega) ?_ | refine az (ss h1) rfl (by simp [go_sem,ac,wx]) (by (try simp only [aJ,aQ,ay]);omega) ?_
  simp only [go_sem]
  first | refine aE (ss (n:=y.mx) (by omega)) rfl (by simp [go_sem,ac,wx]) (by (try simp only [aJ,aQ,ay]);omega) ?_ | refine az (ss (n:=y.mx) (by omega)) rfl (by simp [go_sem,ac,wx]) (by (try simp only [aJ,aQ,ay]);omega) ?_
  simp only [go_sem]
  exact da (fun _ h=>by cases h) (by rfl) (by simp [])
theorem L4 {x:Tb} (h:uc x=0):YX Zl [.agg (Qg x)] (mb x):=by
 intro l hl
 obtain ⟨h1,h2⟩:=LI h
 refine ab (ic:=MB.body) aq Xx rfl rfl ?_
 have c1:=Fw x.e
 have c2:=yR h2
 rw [c_] at c2
 rw [xh.2 h1] at c1
 have c3:=GG h2
 have cv:=jY (t:=x.e) (Gr.2 (by omega))
 rw [c_] at c3
 unfold mb at hl ⊢
 simp only [aJ] at hl
 simp only [go_sem,MB,dO]
 refine aa (c1) ?_
 simp only [go_sem]
 refine aa (c2) ?_
 simp only [go_sem]
 first | refine aE (cv) rfl (by simp [go_sem,ac,wx]) (by (try simp only [aJ,aQ,ay]);omega) ?_ | refine az (cv) rfl (by simp [go_sem,ac,wx]) (by (try simp only [aJ,aQ,ay]);omega) ?_
 simp only [go_sem]
 first | refine aE (c3) rfl (by simp [go_sem,ac,wx]) (by (try simp only [aJ,aQ,ay]);omega) ?_ | refine az (c3) rfl (by simp [go_sem,ac,wx]) (by (try simp only [aJ,aQ,ay]);omega) ?_
 simp only [go_sem]
 exact da (fun _ h=>by cases h) (by rfl) (by simp [])
theorem L2 {g:Gl} (h:j8 g.v=true):YX Zb [.agg (Tl g)] (rF g):=by
 intro l hl
 refine ab (ic:=G6.body) aq Xl rfl rfl ?_
 unfold rF at hl ⊢
 cases hm:g.mu
 ·rw [hm] at hl
  simp only [aJ,aQ,ay,gK,dc] at hl ⊢
  simp only [go_sem,G6,Tl,hm]
  first | refine aE (jY h) rfl (by simp [go_sem,ac,wx]) (by (try simp only [aJ,aQ,ay]);omega) ?_ | refine az (jY h) rfl (by simp [go_sem,ac,wx]) (by (try simp only [aJ,aQ,ay]);omega) ?_
  simp only [go_sem]
  first | refine aE (ue 0) rfl (by simp [go_sem,ac,wx]) (by (try simp only [aJ,aQ,ay]);omega) ?_ | refine az (ue 0) rfl (by simp [go_sem,ac,wx]) (by (try simp only [aJ,aQ,ay]);omega) ?_
  simp only [go_sem]
  exact da (fun _ h=>by cases h) (by rfl) (by simp [])
 ·rw [hm] at hl
  simp only [aJ,aQ,ay,bF] at hl ⊢
  simp only [go_sem,G6,Tl,hm]
  first | refine aE (jY h) rfl (by simp [go_sem,ac,wx]) (by (try simp only [aJ,aQ,ay]);omega) ?_ | refine az (jY h) rfl (by simp [go_sem,ac,wx]) (by (try simp only [aJ,aQ,ay]);omega) ?_
  simp only [go_sem]
  first | refine aE (ue 1) rfl (by simp [go_sem,ac,wx]) (by (try simp only [aJ,aQ,ay]);omega) ?_ | refine az (ue 1) rfl (by simp [go_sem,ac,wx]) (by (try simp only [aJ,aQ,ay]);omega) ?_
  simp only [go_sem]
  exact da (fun _ h=>by cases h) (by rfl) (by simp [])
end
section
open Go Go.Mw
def bX (k j:Nat) (E:List (Nat×AV)) (H:List (Nat×ao)) (v:List UInt8) (i:Nat):St:=⟨(k,.int .i64 i) :: E,(j,⟨81,2,[[.sl 1 (v.map dJ),.int .i64 0]],true⟩) :: H⟩
theorem cJ {α:Type} [Inhabited α] (k j:Nat) (E:List (Nat×AV)) (H:List (Nat×ao)) (enc:α→List UInt8) (l:List α) (w:List UInt8) {x:bE} {s:St} {K:IX→St→Prop} (hw:w.length+(l.flatMap enc).length≤1000000000) (hl:l.length<4294967296) (h0:Wk s (bX k j E H w 0))
  (hx:ii Tryz.prog x (bX k j E H (w++l.flatMap enc) l.length) (Ll (fun q:Nat=>bX k j E H (w++(l.take q).flatMap enc) q) (fun q=>q≤l.length) (fun q=>l.length - q) l.length K))
  (hs:∀i v,i<l.length→(i:Int)<(l.length:Int)→v.length+(enc (ah l i)).length≤1000000000→IntKind.i64.wrap ((i:Int)+1)=((i+1:Nat):Int)→(∀s',Wk s' (bX k j E H (v++enc (ah l i)) (i+1))→Ll (fun q:Nat=>bX k j E H (w++(l.take q).flatMap enc) q) (fun q=>q≤l.length) (fun q=>l.length - q) i K .nrm s') →
   ii Tryz.prog x (bX k j E H v i) (Ll (fun q:Nat=>bX k j E H (w++(l.take q).flatMap enc) q) (fun q=>q≤l.length) (fun q=>l.length - q) i K)):ii Tryz.prog (.loop x) s K:=by
 refine an (fun q:Nat=>bX k j E H (w++(l.take q).flatMap enc) q) (fun q=>q≤l.length) (fun q=>l.length - q) 0 (cE _) (by show Wk s (bX k j E H (w++(l.take 0).flatMap enc) 0);rw [f8,List.flatMap_nil,gx];exact h0) ?_
 intro i hi
 by_cases h1:i<l.length
 ·refine hs i _ h1 (by omega) ?_ (by rw [wi (by omega) (by omega)];omega) fun s' h=>aC (i+1) (show i+1≤l.length by omega) (show l.length - (i+1)<l.length - i by omega) ?_
  ·have:=Is (f:=enc) h1
   rw [aJ];omega
  ·show Wk s' (bX k j E H (w++(l.take (i+1)).flatMap enc) (i+1))
   rw [yb h1,← dB];exact h
 ·obtain rfl:i=l.length:=by have:i≤l.length:=hi;omega
  show ii _ _ (bX k j E H (w++(l.take l.length).flatMap enc) l.length) _
  rw [dj];exact hx
attribute [local go_sem] cY wx dE jr bG
theorem vw (l:List Int) (h1:l.length≤8) (h2:∀t∈l,j8 t=true):ae Tryz.prog Ut [.sl 1 (l.map gD)] (.int .i64 0):=by
 refine ab (ic:=BY.body) aq Sq rfl rfl ?_
 simp only [go_sem,BY,aG (show ¬(l.length:Int)>8 by omega)]
 refine an (fun i:Nat=>⟨[(3,.int .i64 i),(0,.sl 1 (l.map gD))],[]⟩) (fun i=>i≤l.length) (fun i=>l.length - i) 0 (cE _) (Wk.of ?_ ?_) ?_
 ·simp only [go_sem];try simp
 ·simp only [go_sem]
 intro i hi
 by_cases q1:(i:Int)<(l.length:Int)
 ·have hi':i<l.length:=by omega
  have e8:=wi (n:=(i:Int)+1) (by omega) (by omega)
  have c:=Fz (ah l i)
  rw [bp h2 hi'] at c
  simp only [go_sem,aF q1]
  refine ⟨by omega,q1,?_⟩
  refine aa (c) ?_
  simp only [go_sem]
  refine aC (i+1) (show i+1≤l.length by omega) (show l.length - (i+1)<l.length - i by omega) (Wk.of ?_ ?_)
  ·simp only [go_sem,e8];try simp
  ·simp only [go_sem]
 ·simp only [go_sem,aG q1]
  exact aj
theorem tU {l:List Int} (h1:l.length≤8) (h2:∀t∈l,j8 t=true):YX Zx [.sl 1 (l.map gD)] (bT gS l):=by
 intro w hw
 unfold bT at hw ⊢
 simp only [aJ] at hw
 refine ab (ic:=MQ.body) aq XN rfl rfl ?_
 simp only [go_sem,MQ]
 first | refine aE (j6 l.length (by omega)) rfl (by simp [go_sem,ac,wx]) (by (try simp only [aJ,aQ,ay]);omega) ?_ | refine az (j6 l.length (by omega)) rfl (by simp [go_sem,ac,wx]) (by (try simp only [aJ,aQ,ay]);omega) ?_
 simp only [go_sem]
 refine cJ 5 2 [(4,.mp 4 2 0 0),(2,.mp 2 2 0 0),(1,.sl 1 (l.map gD))] [(4,⟨81,2,[[.nl,.int .i64 0]],true⟩)] gS l (w++aA l.length) (by rw [aJ];omega) (by omega) (Wk.of ?_ ?_) ?_ ?_
 ·simp only [go_sem,bX];try simp
 ·simp only [go_sem,bX];try simp [go_sem]
 ·simp only [go_sem,bX,aG (Int.lt_irrefl _)]
  exact da (fun _ h=>by cases h) (by rfl) (by simp [])
 intro i v hi q1 hv e8 k
 simp only [go_sem,bX,aF q1]
 refine ⟨by omega,q1,?_⟩
 first | refine aE (jY (bp h2 hi)) rfl (by simp [go_sem,ac,wx]) (by (try simp only [aJ,aQ,ay]);omega) ?_ | refine az (jY (bp h2 hi)) rfl (by simp [go_sem,ac,wx]) (by (try simp only [aJ,aQ,ay]);omega) ?_
 simp only [go_sem]
 refine k _ (Wk.of ?_ ?_)
 ·simp only [go_sem,bX,e8];try simp
 ·simp only [go_sem,bX];try simp [go_sem]
theorem VY {x:Ft} (h:qF x=0):YX Zw [.agg (t_ x)] (nR x):=by
 intro w hw
 obtain ⟨h1,h2,h3,h4⟩:=K_ h
 have c1:=vw x.ps h1 h3
 have c2:=vw x.rs h2 h4
 rw [show nR x=[96]++(bT gS x.ps++bT gS x.rs) from rfl] at hw ⊢
 simp only [aJ,aQ,ay] at hw
 refine ab (ic:=MP.body) aq XM rfl rfl ?_
 simp only [go_sem,MP,dp]
 refine aa (c1) ?_
 simp only [go_sem]
 refine aa (c2) ?_
 simp only [go_sem]
 first | refine aE (ue 96) rfl (by simp [go_sem,ac,wx]) (by (try simp only [aJ,aQ,ay]);omega) ?_ | refine az (ue 96) rfl (by simp [go_sem,ac,wx]) (by (try simp only [aJ,aQ,ay]);omega) ?_
 simp only [go_sem]
 first | refine aE (tU h1 h3) rfl (by simp [go_sem,ac,wx]) (by (try simp only [aJ,aQ,ay]);omega) ?_ | refine az (tU h1 h3) rfl (by simp [go_sem,ac,wx]) (by (try simp only [aJ,aQ,ay]);omega) ?_
 simp only [go_sem]
 first | refine aE (tU h2 h4) rfl (by simp [go_sem,ac,wx]) (by (try simp only [aJ,aQ,ay]);omega) ?_ | refine az (tU h2 h4) rfl (by simp [go_sem,ac,wx]) (by (try simp only [aJ,aQ,ay]);omega) ?_
 simp only [go_sem]
 exact da (fun _ h=>by cases h) (by rfl) (by simp [])
end
section
open Go Go.Mw
theorem ey {w:List UInt8} {s:St} {e:IX} {rs:List iL} {l:List UInt8} (he:∀j,e≠.ext j) (h0:ku rs s=some (wx l 0)) (h:l=w):oT rs (wx w 0) e s:=by
 subst h
 exact ⟨he,s,Wk.refl s,[],h0,rfl⟩
theorem V9 {x:bz} (h:PL x=true) (hb:x.lb.length≤64) (hn:0≤x.n):YX Lu [jF x] (sW x):=fun l hl=>by
 have:=DD x
 have c:=Vk (l:=l) (e:=0) (by omega) x hn (by omega)
 rw [Px h hb] at c
 exact c
attribute [local go_sem] cY wx dE jr bG
theorem js {L:List bz} (ho:E6 L) (hl:L.length≤2147483647):YX ZO [.sl 9 (L.map bG)] (eA L):=by
 intro w hw
 unfold eA at hw ⊢
 refine ab (ic:=M6.body) aq X8 rfl rfl ?_
 simp only [go_sem,M6]
 refine cJ 5 2 [(4,.mp 4 2 0 0),(2,.mp 2 2 0 0),(1,.sl 9 (L.map bG))] [(4,⟨81,2,[[.nl,.int .i64 0]],true⟩)] sW L w (by omega) (by omega) (Wk.of ?_ ?_) ?_ ?_
 ·simp only [go_sem,bX];try simp
 ·simp only [go_sem,bX];try simp [go_sem]
 ·simp only [go_sem,bX,aG (Int.lt_irrefl _)]
  exact da (fun _ h=>by cases h) (by rfl) (by simp [])
 intro i v hi q1 hv e8 k
 obtain ⟨a1,a2,a3,a4⟩:=bp ho hi
 have c:=V9 a1 a2 a3
 simp only [dE] at c
 simp only [go_sem,bX,aF q1]
 refine ⟨by omega,q1,?_⟩
 first | refine aE (c) rfl (by simp [go_sem,ac,wx]) (by (try simp only [aJ,aQ,ay]);omega) ?_ | refine az (c) rfl (by simp [go_sem,ac,wx]) (by (try simp only [aJ,aQ,ay]);omega) ?_
 simp only [go_sem]
 refine k _ (Wk.of ?_ ?_)
 ·simp only [go_sem,bX,e8];try simp
 ·simp only [go_sem,bX];try simp [go_sem]
theorem VZ {x:Im} (h:uU x=0):YX Zd [.agg (Ed x)] (nS x):=by
 intro w hw
 obtain ⟨h1,h2,h3,h4,h5,h6,h7,h8⟩:=Li h
 have hk8:IntKind.u8.wrap x.k=(((UInt8.ofNat x.k.toNat).toNat:Nat):Int):=LX h3
 have cn1:=xF h1
 have cn2:=xF h2
 have cb:=ue (UInt8.ofNat x.k.toNat)
 rw [← hk8] at cb
 unfold nS at hw ⊢
 refine ab (ic:=zg.body) aq Xn rfl rfl ?_
 rcases (show x.k=0∨x.k=1∨x.k=2∨x.k=3 by omega) with q | q | q | q
 ·rw [aK q] at hw ⊢
  simp only [aJ,aQ,ay] at hw
  have ct:=ss (eu.1 (h5 q))
  simp only [go_sem,zg,dz]
  first | refine aE (cn1) rfl (by simp [go_sem,ac,wx]) (by (try simp only [aJ,aQ,ay]);omega) ?_ | refine az (cn1) rfl (by simp [go_sem,ac,wx]) (by (try simp only [aJ,aQ,ay]);omega) ?_
  simp only [go_sem]
  first | refine aE (cn2) rfl (by simp [go_sem,ac,wx]) (by (try simp only [aJ,aQ,ay]);omega) ?_ | refine az (cn2) rfl (by simp [go_sem,ac,wx]) (by (try simp only [aJ,aQ,ay]);omega) ?_
  simp only [go_sem]
  first | refine aE (cb) rfl (by simp [go_sem,ac,wx]) (by (try simp only [aJ,aQ,ay]);omega) ?_ | refine az (cb) rfl (by simp [go_sem,ac,wx]) (by (try simp only [aJ,aQ,ay]);omega) ?_
  simp only [go_sem,q]
  first | refine aE (ct) rfl (by simp [go_sem,ac,wx]) (by (try simp only [aJ,aQ,ay]);omega) ?_ | refine az (ct) rfl (by simp [go_sem,ac,wx]) (by (try simp only [aJ,aQ,ay]);omega) ?_
  simp only [go_sem]
  exact da (fun _ h=>by cases h) (by rfl) (by simp [])
 ·rw [aD (by omega),aK q] at hw ⊢
  simp only [aJ,aQ,ay] at hw
  have ct:=L4 (h6 q)
  rw [dO] at ct
  simp only [go_sem,zg,dz]
  first | refine aE (cn1) rfl (by simp [go_sem,ac,wx]) (by (try simp only [aJ,aQ,ay]);omega) ?_ | refine az (cn1) rfl (by simp [go_sem,ac,wx]) (by (try simp only [aJ,aQ,ay]);omega) ?_
  simp only [go_sem]
  first | refine aE (cn2) rfl (by simp [go_sem,ac,wx]) (by (try simp only [aJ,aQ,ay]);omega) ?_ | refine az (cn2) rfl (by simp [go_sem,ac,wx]) (by (try simp only [aJ,aQ,ay]);omega) ?_
  simp only [go_sem]
  first | refine aE (cb) rfl (by simp [go_sem,ac,wx]) (by (try simp only [aJ,aQ,ay]);omega) ?_ | refine az (cb) rfl (by simp [go_sem,ac,wx]) (by (try simp only [aJ,aQ,ay]);omega) ?_
  simp only [go_sem,q]
  first | refine aE (ct) rfl (by simp [go_sem,ac,wx]) (by (try simp only [aJ,aQ,ay]);omega) ?_ | refine az (ct) rfl (by simp [go_sem,ac,wx]) (by (try simp only [aJ,aQ,ay]);omega) ?_
  simp only [go_sem]
  exact da (fun _ h=>by cases h) (by rfl) (by simp [])
 ·rw [aD (by omega),aD (by omega),aK q] at hw ⊢
  simp only [aJ,aQ,ay] at hw
  have ct:=GG (yw (h7 q))
  rw [c_] at ct
  simp only [go_sem,zg,dz]
  first | refine aE (cn1) rfl (by simp [go_sem,ac,wx]) (by (try simp only [aJ,aQ,ay]);omega) ?_ | refine az (cn1) rfl (by simp [go_sem,ac,wx]) (by (try simp only [aJ,aQ,ay]);omega) ?_
  simp only [go_sem]
  first | refine aE (cn2) rfl (by simp [go_sem,ac,wx]) (by (try simp only [aJ,aQ,ay]);omega) ?_ | refine az (cn2) rfl (by simp [go_sem,ac,wx]) (by (try simp only [aJ,aQ,ay]);omega) ?_
  simp only [go_sem]
  first | refine aE (cb) rfl (by simp [go_sem,ac,wx]) (by (try simp only [aJ,aQ,ay]);omega) ?_ | refine az (cb) rfl (by simp [go_sem,ac,wx]) (by (try simp only [aJ,aQ,ay]);omega) ?_
  simp only [go_sem,q]
  first | refine aE (ct) rfl (by simp [go_sem,ac,wx]) (by (try simp only [aJ,aQ,ay]);omega) ?_ | refine az (ct) rfl (by simp [go_sem,ac,wx]) (by (try simp only [aJ,aQ,ay]);omega) ?_
  simp only [go_sem]
  exact da (fun _ h=>by cases h) (by rfl) (by simp [])
 ·rw [aD (by omega),aD (by omega),aD (by omega)] at hw ⊢
  simp only [aJ,aQ,ay] at hw
  have ct:=L2 (Tm (h8 q))
  simp only [Tl] at ct
  simp only [go_sem,zg,dz]
  first | refine aE (cn1) rfl (by simp [go_sem,ac,wx]) (by (try simp only [aJ,aQ,ay]);omega) ?_ | refine az (cn1) rfl (by simp [go_sem,ac,wx]) (by (try simp only [aJ,aQ,ay]);omega) ?_
  simp only [go_sem]
  first | refine aE (cn2) rfl (by simp [go_sem,ac,wx]) (by (try simp only [aJ,aQ,ay]);omega) ?_ | refine az (cn2) rfl (by simp [go_sem,ac,wx]) (by (try simp only [aJ,aQ,ay]);omega) ?_
  simp only [go_sem]
  first | refine aE (cb) rfl (by simp [go_sem,ac,wx]) (by (try simp only [aJ,aQ,ay]);omega) ?_ | refine az (cb) rfl (by simp [go_sem,ac,wx]) (by (try simp only [aJ,aQ,ay]);omega) ?_
  simp only [go_sem,q]
  first | refine aE (ct) rfl (by simp [go_sem,ac,wx]) (by (try simp only [aJ,aQ,ay]);omega) ?_ | refine az (ct) rfl (by simp [go_sem,ac,wx]) (by (try simp only [aJ,aQ,ay]);omega) ?_
  simp only [go_sem]
  exact da (fun _ h=>by cases h) (by rfl) (by simp [])
theorem Qw {x:Da} (h:wZ mD x) (hn:vj x.o):YX Zz [.agg (vR x)] (nP x):=by
 intro w hw
 obtain ⟨d1,d2,d3,d4⟩:=K0 h
 obtain ⟨j1,j2⟩:=mA d4 hn
 have co:=js j1 (by omega)
 have ce:=ss (eu.1 d2)
 have cl:=j6 x.b.length (by omega)
 unfold nP at hw ⊢
 refine ab (ic:=Cp.body) aq XP rfl rfl ?_
 by_cases q:x.mo=1
 ·rw [aK q] at hw ⊢
  simp only [aJ,aQ,ay] at hw
  simp only [go_sem,Cp,d_,bq q]
  first | refine aE (j6 1 (by decide)) rfl (by simp [go_sem,ac,wx]) (by (try simp only [aJ,aQ,ay]);omega) ?_ | refine az (j6 1 (by decide)) rfl (by simp [go_sem,ac,wx]) (by (try simp only [aJ,aQ,ay]);omega) ?_
  simp only [go_sem]
  first | refine aE (cl) rfl (by simp [go_sem,ac,wx]) (by (try simp only [aJ,aQ,ay]);omega) ?_ | refine az (cl) rfl (by simp [go_sem,ac,wx]) (by (try simp only [aJ,aQ,ay]);omega) ?_
  simp only [go_sem]
  first | refine aE (vQ x.b) rfl (by simp [go_sem,ac,wx]) (by (try simp only [aJ,aQ,ay]);omega) ?_ | refine az (vQ x.b) rfl (by simp [go_sem,ac,wx]) (by (try simp only [aJ,aQ,ay]);omega) ?_
  simp only [go_sem]
  exact da (fun _ h=>by cases h) (by rfl) (by simp [])
 by_cases q2:x.me=0
 ·rw [aD q,aK q2] at hw ⊢
  simp only [aJ,aQ,ay] at hw
  simp only [go_sem,Cp,d_,aN q,bq q2]
  first | refine aE (j6 0 (by decide)) rfl (by simp [go_sem,ac,wx]) (by (try simp only [aJ,aQ,ay]);omega) ?_ | refine az (j6 0 (by decide)) rfl (by simp [go_sem,ac,wx]) (by (try simp only [aJ,aQ,ay]);omega) ?_
  simp only [go_sem]
  first | refine aE (co) rfl (by simp [go_sem,ac,wx]) (by (try simp only [aJ,aQ,ay]);omega) ?_ | refine az (co) rfl (by simp [go_sem,ac,wx]) (by (try simp only [aJ,aQ,ay]);omega) ?_
  simp only [go_sem]
  first | refine aE (cl) rfl (by simp [go_sem,ac,wx]) (by (try simp only [aJ,aQ,ay]);omega) ?_ | refine az (cl) rfl (by simp [go_sem,ac,wx]) (by (try simp only [aJ,aQ,ay]);omega) ?_
  simp only [go_sem]
  first | refine aE (vQ x.b) rfl (by simp [go_sem,ac,wx]) (by (try simp only [aJ,aQ,ay]);omega) ?_ | refine az (vQ x.b) rfl (by simp [go_sem,ac,wx]) (by (try simp only [aJ,aQ,ay]);omega) ?_
  simp only [go_sem]
  exact da (fun _ h=>by cases h) (by rfl) (by simp [])
 ·rw [aD q,aD q2] at hw ⊢
  simp only [aJ,aQ,ay] at hw
  simp only [go_sem,Cp,d_,aN q,aN q2]
  first | refine aE (j6 2 (by decide)) rfl (by simp [go_sem,ac,wx]) (by (try simp only [aJ,aQ,ay]);omega) ?_ | refine az (j6 2 (by decide)) rfl (by simp [go_sem,ac,wx]) (by (try simp only [aJ,aQ,ay]);omega) ?_
  simp only [go_sem]
  first | refine aE (ce) rfl (by simp [go_sem,ac,wx]) (by (try simp only [aJ,aQ,ay]);omega) ?_ | refine az (ce) rfl (by simp [go_sem,ac,wx]) (by (try simp only [aJ,aQ,ay]);omega) ?_
  simp only [go_sem]
  first | refine aE (co) rfl (by simp [go_sem,ac,wx]) (by (try simp only [aJ,aQ,ay]);omega) ?_ | refine az (co) rfl (by simp [go_sem,ac,wx]) (by (try simp only [aJ,aQ,ay]);omega) ?_
  simp only [go_sem]
  first | refine aE (cl) rfl (by simp [go_sem,ac,wx]) (by (try simp only [aJ,aQ,ay]);omega) ?_ | refine az (cl) rfl (by simp [go_sem,ac,wx]) (by (try simp only [aJ,aQ,ay]);omega) ?_
  simp only [go_sem]
  first | refine aE (vQ x.b) rfl (by simp [go_sem,ac,wx]) (by (try simp only [aJ,aQ,ay]);omega) ?_ | refine az (vQ x.b) rfl (by simp [go_sem,ac,wx]) (by (try simp only [aJ,aQ,ay]);omega) ?_
  simp only [go_sem]
  exact da (fun _ h=>by cases h) (by rfl) (by simp [])
end
section
open Go Go.Mw
def LD (l:List Int) (i:Nat):List (Nat×Int):=qi l.length (l.drop i)
theorem si:∀(f g:Nat) (l:List Int),l.length≤f→l.length≤g→qi f l=qi g l
 | 0,g,l,h,_=>by
  obtain rfl:l=[]:=nJ (by omega)
  cases g<;>rfl
 | f+1,0,l,_,h=>by
  obtain rfl:l=[]:=nJ (by omega)
  rfl
 | f+1,g+1,[],_,_=>rfl
 | f+1,g+1,x :: l,h1,h2=>by
  simp only [aQ] at h1 h2
  simp only [qi]
  rw [si f g (l.drop (same x l)) (by rw [lW];omega) (by rw [lW];omega)]
theorem Vu (l:List Int):LD l 0=fz l:=by unfold LD fz;rw [List.drop_zero]
theorem LE {l:List Int} {i:Nat} (h:i<l.length):LD l i=(same (ah l i) (l.drop i),ah l i) :: LD l (i+same (ah l i) (l.drop i)):=by
 have hd:=kP h
 have hs:same (ah l i) (l.drop i)=same (ah l i) (l.drop (i+1))+1:=by rw [hd,same,aK rfl]
 have e:l.drop (i+same (ah l i) (l.drop i))=(l.drop (i+1)).drop (same (ah l i) (l.drop (i+1))):=by
  rw [hs,List.drop_drop]
  congr 1
  omega
 obtain ⟨n,hn⟩:∃n,l.length=n+1:=⟨l.length - 1,by omega⟩
 unfold LD
 rw [e,hs,si l.length n ((l.drop (i+1)).drop _) (by simp only [lW];omega) (by simp only [lW];omega)]
 conv=>lhs;rw [hn,hd,qi]
theorem Km {l:List Int}:LD l l.length=[]:=by
 unfold LD
 rw [List.drop_length]
 cases l.length<;>rfl
theorem xo {l:List Int} {k:Nat} {t:Int} (h:k<l.length):same t (l.drop k)=if ah l k=t then same t (l.drop (k+1))+1 else 0:=by rw [kP h,same]
theorem Qa {l:List Int} {t:Int}:same t (l.drop l.length)=0:=by rw [List.drop_length];rfl
theorem L3 {n:Nat} {t:Int} (h1:n<4294967296) (h2:j8 t=true):(iw (n,t)).length≤6:=by
 have:=be h1
 unfold iw
 simp only [gS,aJ,aQ,ay]
 omega
attribute [local go_sem] cY wx dE jr bG
theorem Qv {x:Cd} (h1:x.lo.length≤64) (h2:∀t∈x.lo,j8 t=true) (h4:E6 x.b) (h5:x.b.length≤2048):ae Tryz.prog Ux [.agg (tX x)] (wx (ll x) 0):=by
 have hB:=rD h1 h4 h5
 refine ab (ic:=B2.body) aq Sv rfl rfl ?_
 simp only [go_sem,B2,cH]
 refine an (fun q:Nat×List (Nat×Int)=>⟨[(5,.int .i64 q.1),(4,.int .i64 q.2.length),(3,.mp 3 2 0 0),(2,.mp 2 2 0 0),(1,.mp 1 3 0 0)],[(3,⟨81,2,[[.sl 1 ((q.2.flatMap iw).map dJ),.int .i64 0]],true⟩),(1,⟨130,3,[tX x],true⟩),(2,⟨81,2,[[.nl,.int .i64 0]],true⟩)]⟩) (fun q=>q.1≤x.lo.length∧q.2.length≤q.1∧(q.2.flatMap iw).length≤6 * q.1∧q.2++LD x.lo q.1=fz x.lo) (fun q=>x.lo.length - q.1) (0,[]) ⟨cE _,bj _,bj _,Vu _⟩ ?_ ?_
 ·refine (Wk.nlh _ 3 (r:=[.nl,.int .i64 0]) (r':=[.sl 1 [],.int .i64 0]) (by rfl) ⟨.inr ⟨rfl,1,rfl⟩,.inl rfl,trivial⟩).trans (Wk.of ?_ ?_)
  ·simp only [go_sem];try simp
  ·simp only [go_sem,cH];try simp [go_sem]
 rintro ⟨i,R⟩ ⟨hi,hR,hl,hr⟩
 simp only at hi hR hl hr
 by_cases q1:(i:Int)<(x.lo.length:Int)
 rotate_left
 ·obtain rfl:i=x.lo.length:=by omega
  rw [Km,gx] at hr
  subst hr
  have hb:ll x=aA (fz x.lo).length++(fz x.lo).flatMap iw++eA x.b:=by unfold ll x6 bT;rfl
  rw [hb] at hB
  simp only [aJ] at hB
  simp only [go_sem,aG q1,cH]
  refine aa (Fg ((fz x.lo).flatMap iw) 0) ?_
  rw [show wD true ((fz x.lo).flatMap iw) 0=(some ((fz x.lo).flatMap iw),0) from rfl]
  simp only [go_sem]
  refine cA [wx [] 0,.int .i64 (fz x.lo).length] ⟨gA 0,.inl rfl,trivial⟩ ?_
  first | refine aE (j6 (fz x.lo).length (by omega)) rfl (by simp [go_sem,ac,wx]) (by (try simp only [aJ,aQ,ay]);omega) ?_ | refine az (j6 (fz x.lo).length (by omega)) rfl (by simp [go_sem,ac,wx]) (by (try simp only [aJ,aQ,ay]);omega) ?_
  simp only [go_sem]
  first | refine aE (vQ ((fz x.lo).flatMap iw)) rfl (by simp [go_sem,ac,wx]) (by (try simp only [aJ,aQ,ay]);omega) ?_ | refine az (vQ ((fz x.lo).flatMap iw)) rfl (by simp [go_sem,ac,wx]) (by (try simp only [aJ,aQ,ay]);omega) ?_
  simp only [go_sem,cH]
  first | refine aE (js h4 (by omega)) rfl (by simp [go_sem,ac,wx]) (by (try simp only [aJ,aQ,ay]);omega) ?_ | refine az (js h4 (by omega)) rfl (by simp [go_sem,ac,wx]) (by (try simp only [aJ,aQ,ay]);omega) ?_
  simp only [go_sem]
  exact ey (fun _ h=>by cases h) (by rfl) (by rw [hb];try simp)
 have hi':i<x.lo.length:=by omega
 have hs1:same (ah x.lo i) (x.lo.drop i)=same (ah x.lo i) (x.lo.drop (i+1))+1:=by rw [xo hi',aK rfl]
 have hs2:=y7 (ah x.lo i) (x.lo.drop i)
 rw [lW] at hs2
 obtain ⟨n,hn⟩:∃n,n=same (ah x.lo i) (x.lo.drop i):=⟨_,rfl⟩
 simp only [go_sem,aF q1,cH]
 refine an (fun k:Nat=>⟨[(6,.int .i64 k),(5,.int .i64 i),(4,.int .i64 R.length),(3,.mp 3 2 0 0),(2,.mp 2 2 0 0),(1,.mp 1 3 0 0)],[(3,⟨81,2,[[.sl 1 ((R.flatMap iw).map dJ),.int .i64 0]],true⟩),(1,⟨130,3,[tX x],true⟩),(2,⟨81,2,[[.nl,.int .i64 0]],true⟩)]⟩) (fun k=>i≤k∧k≤x.lo.length∧(k - i)+same (ah x.lo i) (x.lo.drop k)=n) (fun k=>x.lo.length - k) i ⟨bj _,by omega,by rw [hn];omega⟩ (Wk.of ?_ ?_) ?_
 ·simp only [go_sem];try simp
 ·simp only [go_sem,cH];try simp [go_sem]
 rintro k ⟨hk1,hk2,hk3⟩
 by_cases q2:(k:Int)<(x.lo.length:Int)
 ·have hk':k<x.lo.length:=by omega
  by_cases q3:ah x.lo k=ah x.lo i
  ·have e8:=wi (n:=(k:Int)+1) (by omega) (by omega)
   rw [xo hk',aK q3] at hk3
   simp only [go_sem,aF q2,cH,bq q3]
   refine ⟨by omega,q2,by omega,q1,?_⟩
   refine aC (k+1) ⟨by omega,by omega,by omega⟩ (show x.lo.length - (k+1)<x.lo.length - k by omega) (Wk.of ?_ ?_)
   ·simp only [go_sem,e8];try simp
   ·simp only [go_sem,cH];try simp [go_sem]
  ·rw [xo hk',aD q3] at hk3
   simp only [go_sem,aF q2,cH,aN q3]
   refine ⟨by omega,q2,by omega,q1,?_⟩
   have hv:=bp h2 hi'
   have hy:=L3 (n:=n) (by omega) hv
   have w1:IntKind.i64.wrap ((k:Int) - (i:Int))=(n:Int):=by rw [wi (by omega) (by omega)];omega
   have w2:IntKind.i64.wrap ((R.length:Int)+1)=((R.length+1:Nat):Int):=by rw [wi (by omega) (by omega)];omega
   have c2:=j6 n (by omega)
   unfold iw at hy
   simp only [aJ] at hy
   try simp only [go_sem,w1]
   first | refine aE (c2) rfl (by simp [go_sem,ac,wx]) (by (try simp only [aJ,aQ,ay]);omega) ?_ | refine az (c2) rfl (by simp [go_sem,ac,wx]) (by (try simp only [aJ,aQ,ay]);omega) ?_
   simp only [go_sem]
   refine ⟨by omega,q1,?_⟩
   first | refine aE (jY hv) rfl (by simp [go_sem,ac,wx]) (by (try simp only [aJ,aQ,ay]);omega) ?_ | refine az (jY hv) rfl (by simp [go_sem,ac,wx]) (by (try simp only [aJ,aQ,ay]);omega) ?_
   simp only [go_sem,w2]
   refine aC (i+n,R++[(n,ah x.lo i)]) ⟨by omega,by simp;omega,by rw [List.flatMap_append,aJ];simp only [lY,List.flatMap_nil,gx,iw,aJ];omega,by rw [← hr,LE hi',← hn];simp⟩ (show x.lo.length - (i+n)<x.lo.length - i by omega) (Wk.of ?_ ?_)
   ·simp only [go_sem];try simp;try omega
   ·simp only [go_sem,cH,List.flatMap_append,lY,List.flatMap_nil,gx,iw,dB];try simp [go_sem]
 ·have hk:k=x.lo.length:=by omega
  rw [hk,Qa,← hk] at hk3
  simp only [go_sem,aG q2,cH]
  have hv:=bp h2 hi'
  have hy:=L3 (n:=n) (by omega) hv
  have w1:IntKind.i64.wrap ((k:Int) - (i:Int))=(n:Int):=by rw [wi (by omega) (by omega)];omega
  have w2:IntKind.i64.wrap ((R.length:Int)+1)=((R.length+1:Nat):Int):=by rw [wi (by omega) (by omega)];omega
  have c2:=j6 n (by omega)
  unfold iw at hy
  simp only [aJ] at hy
  try simp only [go_sem,w1]
  first | refine aE (c2) rfl (by simp [go_sem,ac,wx]) (by (try simp only [aJ,aQ,ay]);omega) ?_ | refine az (c2) rfl (by simp [go_sem,ac,wx]) (by (try simp only [aJ,aQ,ay]);omega) ?_
  simp only [go_sem]
  refine ⟨by omega,q1,?_⟩
  first | refine aE (jY hv) rfl (by simp [go_sem,ac,wx]) (by (try simp only [aJ,aQ,ay]);omega) ?_ | refine az (jY hv) rfl (by simp [go_sem,ac,wx]) (by (try simp only [aJ,aQ,ay]);omega) ?_
  simp only [go_sem,w2]
  refine aC (i+n,R++[(n,ah x.lo i)]) ⟨by omega,by simp;omega,by rw [List.flatMap_append,aJ];simp only [lY,List.flatMap_nil,gx,iw,aJ];omega,by rw [← hr,LE hi',← hn];simp⟩ (show x.lo.length - (i+n)<x.lo.length - i by omega) (Wk.of ?_ ?_)
  ·simp only [go_sem];try simp;try omega
  ·simp only [go_sem,cH,List.flatMap_append,lY,List.flatMap_nil,gx,iw,dB];try simp [go_sem]
end
section
open Go Go.Mw
attribute [local go_sem] cY wx dE jr bG
theorem J8 (l:List bz):ae Tryz.prog T7 [.sl 9 (l.map bG)] (.bool (oi l)):=by
 refine ab (ic:=uj.body) aq R3 rfl rfl ?_
 unfold oi
 by_cases q1:l.length=2
 rotate_left
 ·rw [mT.2 q1]
  simp only [go_sem,uj,aN (show (l.length:Int)≠2 by omega),cF]
  exact aj
 rw [q1]
 by_cases q2:(ah l 0).op=210
 rotate_left
 ·rw [aN q2]
  simp only [go_sem,uj,bq (show (l.length:Int)=2 by omega),aN q2,cF,Bool.and_false]
  refine ⟨by omega,by omega,?_⟩
  exact aj
 rw [bq q2]
 simp only [go_sem,uj,bq (show (l.length:Int)=2 by omega),bq q2]
 refine ⟨by omega,by omega,by omega,by omega,?_⟩
 cases (ah l 1).op==11
 ·exact aj
 ·exact aj
def K9 (x:El) (i:Nat):Int:=if (x.it.take i).any (fun l=>!oi l)=true then 4 else 0
theorem Te {x:El} {i:Nat} (h:i<x.it.length):K9 x (i+1)=if oi (ah x.it i)=true then K9 x i else 4:=by
 unfold K9
 rw [fv h,List.any_append]
 simp only [List.any_cons,List.any_nil,Bool.or_false]
 cases oi (ah x.it i)<;>simp
theorem PP {x:El} (hm:0≤x.mo∧x.mo≤2) (hl:x.it.length≤256):ae Tryz.prog Uw [.agg (l0 x)] (.int .i64 (dK x:Nat)):=by
 refine ab (ic:=B1.body) aq Su rfl rfl ?_
 simp only [go_sem,B1,a_]
 refine an (fun i:Nat=>⟨[(4,.int .i64 i),(3,.int .i64 (K9 x i)),(1,.mp 1 5 0 0)],[(1,⟨55,5,[l0 x],true⟩)]⟩) (fun i=>i≤x.it.length) (fun i=>x.it.length - i) 0 (cE _) (Wk.of ?_ ?_) ?_
 ·simp only [go_sem];try simp [K9]
 ·simp only [go_sem,a_];try simp [go_sem]
 intro i hi
 by_cases q1:(i:Int)<(x.it.length:Int)
 ·have hi':i<x.it.length:=by omega
  have e8:=wi (n:=(i:Int)+1) (by omega) (by omega)
  have hn:=Te hi'
  have c:=J8 (ah x.it i)
  simp only [go_sem,aF q1,a_]
  refine ⟨by omega,q1,?_⟩
  refine aa (c) ?_
  cases hr:oi (ah x.it i)
  ·rw [hr] at hn
   simp only [gK,dc] at hn
   simp only [go_sem]
   refine aC (i+1) (show i+1≤x.it.length by omega) (show x.it.length - (i+1)<x.it.length - i by omega) (Wk.of ?_ ?_)
   ·simp only [go_sem,e8,hn];try simp
   ·simp only [go_sem,a_];try simp [go_sem]
  ·rw [hr] at hn
   simp only [bF] at hn
   simp only [go_sem]
   refine aC (i+1) (show i+1≤x.it.length by omega) (show x.it.length - (i+1)<x.it.length - i by omega) (Wk.of ?_ ?_)
   ·simp only [go_sem,e8,hn];try simp
   ·simp only [go_sem,a_];try simp [go_sem]
 obtain rfl:i=x.it.length:=by omega
 have hx3:x.ty=3→K9 x x.it.length=if fS x=true then 4 else 0:=fun h=>by unfold K9 fS;rw [dj,h];simp
 have hxn:x.ty≠3→fS x=true:=fun h=>by unfold fS;simp [h]
 generalize K9 x x.it.length=n4 at *
 by_cases m4:x.ty=3
 ·have hx4:=hx3 m4
  subst hx4
  by_cases m1:x.mo=1
  ·have hf:dK x=(if fS x=true then 4 else 0)+1:=by unfold dK;rw [aK m1]
   rw [hf]
   cases fS x
   ·simp only [go_sem,aG q1,a_,aL m4,bq m1]
    exact au [] (by simp only [go_sem];try rfl) rfl
   ·simp only [go_sem,aG q1,a_,aL m4,bq m1]
    exact au [] (by simp only [go_sem];try rfl) rfl
  by_cases m2:x.mo=2
  ·have hf:dK x=(if fS x=true then 4 else 0)+3:=by unfold dK;rw [aD m1,aK m2]
   rw [hf]
   cases fS x
   ·simp only [go_sem,aG q1,a_,aL m4,aN m1,bq m2]
    exact au [] (by simp only [go_sem];try rfl) rfl
   ·simp only [go_sem,aG q1,a_,aL m4,aN m1,bq m2]
    exact au [] (by simp only [go_sem];try rfl) rfl
  by_cases m3:x.tb=0
  ·have hf:dK x=(if fS x=true then 4 else 0)+0:=by unfold dK;rw [aD m1,aD m2,aD (show ¬(x.tb≠0∨x.ty≠3) by simp [m3,m4])]
   rw [hf]
   cases fS x
   ·simp only [go_sem,aG q1,a_,aL m4,aN m1,aN m2,aL m3]
    exact au [] (by simp only [go_sem];try rfl) rfl
   ·simp only [go_sem,aG q1,a_,aL m4,aN m1,aN m2,aL m3]
    exact au [] (by simp only [go_sem];try rfl) rfl
  ·have hf:dK x=(if fS x=true then 4 else 0)+2:=by unfold dK;rw [aD m1,aD m2,aK (show x.tb≠0∨x.ty≠3 from .inl m3)]
   rw [hf]
   cases fS x
   ·simp only [go_sem,aG q1,a_,aL m4,aN m1,aN m2,aZ m3]
    exact au [] (by simp only [go_sem];try rfl) rfl
   ·simp only [go_sem,aG q1,a_,aL m4,aN m1,aN m2,aZ m3]
    exact au [] (by simp only [go_sem];try rfl) rfl
 ·have he:=hxn m4
  by_cases m1:x.mo=1
  ·have hf:dK x=5:=by unfold dK;rw [aK m1,he];rfl
   rw [hf]
   simp only [go_sem,aG q1,a_,aZ m4,bq m1]
   exact au [] (by simp only [go_sem];try rfl) rfl
  by_cases m2:x.mo=2
  ·have hf:dK x=7:=by unfold dK;rw [aD m1,aK m2,he];rfl
   rw [hf]
   simp only [go_sem,aG q1,a_,aZ m4,aN m1,bq m2]
   exact au [] (by simp only [go_sem];try rfl) rfl
  ·have hf:dK x=6:=by unfold dK;rw [aD m1,aD m2,aK (show x.tb≠0∨x.ty≠3 from .inr m4),he];rfl
   rw [hf]
   by_cases m3:x.tb=0
   ·simp only [go_sem,aG q1,a_,aZ m4,aN m1,aN m2,aL m3]
    exact au [] (by simp only [go_sem];try rfl) rfl
   ·simp only [go_sem,aG q1,a_,aZ m4,aN m1,aN m2,aZ m3]
    exact au [] (by simp only [go_sem];try rfl) rfl
theorem Qx {x:El} (h:AD mD x) (hn:vj x.o) (hn2:∀l∈x.it,vj l):YX ZA [.agg (l0 x)] (nQ x):=by
 intro w hw
 obtain ⟨hB,ho,hi⟩:=h
 obtain ⟨b1,b2,b3,b4,b5⟩:=sV hB
 obtain ⟨f1,f2,f3,f4,f5,f6⟩:=DQ b1
 obtain ⟨j1,j2⟩:=mA ho hn
 have hJ:∀l∈x.it,E6 l∧l.length≤2048:=fun l hl=>mA (hi l hl) (hn2 l hl)
 have hrf:dK x<4→∀l∈x.it,oi l=true:=fun q=>by
  have:=f5.1 q
  unfold fS at this
  rw [Bool.or_eq_false_iff,List.any_eq_false] at this
  intro l hl
  have:=this.2 l hl
  simpa using this
 have cv:=jY (Gr.2 (by have:=xh.1 b4;omega):j8 x.ty=true)
 have ct:=ss (eu.1 b3)
 have co:=js j1 (by omega)
 have cf:=PP b1 b5
 have cu:=j6 (dK x) (by omega)
 have cl:=j6 x.it.length (by omega)
 refine ab (ic:=MS.body) aq XQ rfl rfl ?_
 unfold nQ at hw ⊢
 simp only [a_] at cf
 generalize dK x=n at *
 have hcn:(bT (eB n) x.it).length=(aA x.it.length).length+(x.it.flatMap (eB n)).length:=by unfold bT;rw [aJ]
 rcases (show n=0∨n=1∨n=2∨n=3∨n=4∨n=5∨n=6∨n=7 by omega) with rfl | rfl | rfl | rfl | rfl | rfl | rfl | rfl
 all_goals
  simp only [Nat.reduceMod,Nat.reduceDiv,Nat.reduceMul,Nat.reduceLT,Nat.reduceEqDiff,reduceCtorEq,bF,dc,gx,kK,aJ,aQ,ay,nk0,nk1,nk2,nk3,nk4,nk5,nk6,nk7] at hw cf cu ⊢
  simp only [go_sem,MS,a_]
  refine aa (cf) ?_
  simp only [go_sem,Int.reduceTMod,Int.reduceEq,not_false_eq_true,true_and,show decide ((1:Int)<4)=true from rfl,show decide ((2:Int)<4)=true from rfl,show decide ((3:Int)<4)=true from rfl,show decide ((5:Int)<4)=false from rfl,show decide ((6:Int)<4)=false from rfl,show decide ((7:Int)<4)=false from rfl]
  first | refine aE (cu) rfl (by simp [go_sem,ac,wx]) (by (try simp only [aJ,aQ,ay]);omega) ?_ | refine az (cu) rfl (by simp [go_sem,ac,wx]) (by (try simp only [aJ,aQ,ay]);omega) ?_
  simp only [go_sem,Int.reduceTMod,Int.reduceEq,not_false_eq_true,true_and,show decide ((1:Int)<4)=true from rfl,show decide ((2:Int)<4)=true from rfl,show decide ((3:Int)<4)=true from rfl,show decide ((5:Int)<4)=false from rfl,show decide ((6:Int)<4)=false from rfl,show decide ((7:Int)<4)=false from rfl]
 ·try simp only [go_sem,show decide ((0:Int)<4)=true from rfl,Int.reduceTMod,Int.reduceEq,not_false_eq_true,true_and]
  first | refine aE (co) rfl (by simp [go_sem,ac,wx]) (by (try simp only [aJ,aQ,ay]);omega) ?_ | refine az (co) rfl (by simp [go_sem,ac,wx]) (by (try simp only [aJ,aQ,ay]);omega) ?_
  simp only [go_sem,Int.reduceTMod,Int.reduceEq,not_false_eq_true,true_and,show decide ((0:Int)<4)=true from rfl]
  first | refine aE (cl) rfl (by simp [go_sem,ac,wx]) (by (try simp only [aJ,aQ,ay]);omega) ?_ | refine az (cl) rfl (by simp [go_sem,ac,wx]) (by (try simp only [aJ,aQ,ay]);omega) ?_
  simp only [go_sem,Int.reduceTMod,Int.reduceEq,not_false_eq_true,true_and,show decide ((0:Int)<4)=true from rfl]
  generalize hv:w++aA 0++eA x.o=v at *
  have hvl:=congrArg List.length hv
  simp only [aJ,aQ,ay] at hvl
  refine cJ 6 2 [(5,.int .i64 0),(2,.mp 2 2 0 0),(3,.mp 3 5 0 0),(4,.mp 4 2 0 0)] [(3,⟨55,5,[l0 x],true⟩),(4,⟨81,2,[[.nl,.int .i64 0]],true⟩)] (eB 0) x.it (v++aA x.it.length) (by rw [aJ];omega) (by omega) (Wk.of ?_ ?_) ?_ ?_
  ·simp only [go_sem,bX];try simp
  ·simp only [go_sem,bX,a_];try simp [go_sem]
  ·simp only [go_sem,bX,a_,aG (Int.lt_irrefl _)]
   exact da (fun _ h=>by cases h) (by rfl) (by subst hv;unfold bT;simp)
  intro i u hi q1 hu e8 k
  have hj:=bp hJ hi
  obtain ⟨e1,e2,e3⟩:=mi (bp (hrf (by decide)) hi) hj.1
  have hl2:(ah x.it i).length=2:=by rw [e1];rfl
  rw [show eB 0 (ah x.it i)=aA (ah (ah x.it i) 0).a.toNat from aK (by decide)] at hu k
  simp only [go_sem,bX,a_,jE,aF q1,show decide ((0:Int)<4)=true from rfl]
  refine ⟨by omega,q1,by omega,by omega,?_⟩
  first | refine aE (ss ⟨e2,e3⟩) rfl (by simp [go_sem,ac,wx]) (by (try simp only [aJ,aQ,ay]);omega) ?_ | refine az (ss ⟨e2,e3⟩) rfl (by simp [go_sem,ac,wx]) (by (try simp only [aJ,aQ,ay]);omega) ?_
  simp only [go_sem]
  refine k _ (Wk.of ?_ ?_)
  ·simp only [go_sem,bX,e8];try simp
  ·simp only [go_sem,bX,a_];try simp [go_sem]
 ·try simp only [go_sem,show decide ((1:Int)<4)=true from rfl,Int.reduceTMod,Int.reduceEq,not_false_eq_true,true_and]
  first | refine aE (ue 0) rfl (by simp [go_sem,ac,wx]) (by (try simp only [aJ,aQ,ay]);omega) ?_ | refine az (ue 0) rfl (by simp [go_sem,ac,wx]) (by (try simp only [aJ,aQ,ay]);omega) ?_
  simp only [go_sem,Int.reduceTMod,Int.reduceEq,not_false_eq_true,true_and,show decide ((1:Int)<4)=true from rfl]
  first | refine aE (cl) rfl (by simp [go_sem,ac,wx]) (by (try simp only [aJ,aQ,ay]);omega) ?_ | refine az (cl) rfl (by simp [go_sem,ac,wx]) (by (try simp only [aJ,aQ,ay]);omega) ?_
  simp only [go_sem,Int.reduceTMod,Int.reduceEq,not_false_eq_true,true_and,show decide ((1:Int)<4)=true from rfl]
  generalize hv:w++aA 1++[0]=v at *
  have hvl:=congrArg List.length hv
  simp only [aJ,aQ,ay] at hvl
  refine cJ 6 2 [(5,.int .i64 1),(2,.mp 2 2 0 0),(3,.mp 3 5 0 0),(4,.mp 4 2 0 0)] [(3,⟨55,5,[l0 x],true⟩),(4,⟨81,2,[[.nl,.int .i64 0]],true⟩)] (eB 1) x.it (v++aA x.it.length) (by rw [aJ];omega) (by omega) (Wk.of ?_ ?_) ?_ ?_
  ·simp only [go_sem,bX];try simp
  ·simp only [go_sem,bX,a_];try simp [go_sem]
  ·simp only [go_sem,bX,a_,aG (Int.lt_irrefl _)]
   exact da (fun _ h=>by cases h) (by rfl) (by subst hv;unfold bT;simp)
  intro i u hi q1 hu e8 k
  have hj:=bp hJ hi
  obtain ⟨e1,e2,e3⟩:=mi (bp (hrf (by decide)) hi) hj.1
  have hl2:(ah x.it i).length=2:=by rw [e1];rfl
  rw [show eB 1 (ah x.it i)=aA (ah (ah x.it i) 0).a.toNat from aK (by decide)] at hu k
  simp only [go_sem,bX,a_,jE,aF q1,show decide ((1:Int)<4)=true from rfl]
  refine ⟨by omega,q1,by omega,by omega,?_⟩
  first | refine aE (ss ⟨e2,e3⟩) rfl (by simp [go_sem,ac,wx]) (by (try simp only [aJ,aQ,ay]);omega) ?_ | refine az (ss ⟨e2,e3⟩) rfl (by simp [go_sem,ac,wx]) (by (try simp only [aJ,aQ,ay]);omega) ?_
  simp only [go_sem]
  refine k _ (Wk.of ?_ ?_)
  ·simp only [go_sem,bX,e8];try simp
  ·simp only [go_sem,bX,a_];try simp [go_sem]
 ·try simp only [go_sem,show decide ((2:Int)<4)=true from rfl,Int.reduceTMod,Int.reduceEq,not_false_eq_true,true_and]
  first | refine aE (ct) rfl (by simp [go_sem,ac,wx]) (by (try simp only [aJ,aQ,ay]);omega) ?_ | refine az (ct) rfl (by simp [go_sem,ac,wx]) (by (try simp only [aJ,aQ,ay]);omega) ?_
  simp only [go_sem,Int.reduceTMod,Int.reduceEq,not_false_eq_true,true_and,show decide ((2:Int)<4)=true from rfl]
  first | refine aE (co) rfl (by simp [go_sem,ac,wx]) (by (try simp only [aJ,aQ,ay]);omega) ?_ | refine az (co) rfl (by simp [go_sem,ac,wx]) (by (try simp only [aJ,aQ,ay]);omega) ?_
  simp only [go_sem,Int.reduceTMod,Int.reduceEq,not_false_eq_true,true_and,show decide ((2:Int)<4)=true from rfl]
  first | refine aE (ue 0) rfl (by simp [go_sem,ac,wx]) (by (try simp only [aJ,aQ,ay]);omega) ?_ | refine az (ue 0) rfl (by simp [go_sem,ac,wx]) (by (try simp only [aJ,aQ,ay]);omega) ?_
  simp only [go_sem,Int.reduceTMod,Int.reduceEq,not_false_eq_true,true_and,show decide ((2:Int)<4)=true from rfl]
  first | refine aE (cl) rfl (by simp [go_sem,ac,wx]) (by (try simp only [aJ,aQ,ay]);omega) ?_ | refine az (cl) rfl (by simp [go_sem,ac,wx]) (by (try simp only [aJ,aQ,ay]);omega) ?_
  simp only [go_sem,Int.reduceTMod,Int.reduceEq,not_false_eq_true,true_and,show decide ((2:Int)<4)=true from rfl]
  generalize hv:w++aA 2++aA x.tb.toNat++eA x.o++[0]=v at *
  have hvl:=congrArg List.length hv
  simp only [aJ,aQ,ay] at hvl
  refine cJ 6 2 [(5,.int .i64 2),(2,.mp 2 2 0 0),(3,.mp 3 5 0 0),(4,.mp 4 2 0 0)] [(3,⟨55,5,[l0 x],true⟩),(4,⟨81,2,[[.nl,.int .i64 0]],true⟩)] (eB 2) x.it (v++aA x.it.length) (by rw [aJ];omega) (by omega) (Wk.of ?_ ?_) ?_ ?_
  ·simp only [go_sem,bX];try simp
  ·simp only [go_sem,bX,a_];try simp [go_sem]
  ·simp only [go_sem,bX,a_,aG (Int.lt_irrefl _)]
   exact da (fun _ h=>by cases h) (by rfl) (by subst hv;unfold bT;simp)
  intro i u hi q1 hu e8 k
  have hj:=bp hJ hi
  obtain ⟨e1,e2,e3⟩:=mi (bp (hrf (by decide)) hi) hj.1
  have hl2:(ah x.it i).length=2:=by rw [e1];rfl
  rw [show eB 2 (ah x.it i)=aA (ah (ah x.it i) 0).a.toNat from aK (by decide)] at hu k
  simp only [go_sem,bX,a_,jE,aF q1,show decide ((2:Int)<4)=true from rfl]
  refine ⟨by omega,q1,by omega,by omega,?_⟩
  first | refine aE (ss ⟨e2,e3⟩) rfl (by simp [go_sem,ac,wx]) (by (try simp only [aJ,aQ,ay]);omega) ?_ | refine az (ss ⟨e2,e3⟩) rfl (by simp [go_sem,ac,wx]) (by (try simp only [aJ,aQ,ay]);omega) ?_
  simp only [go_sem]
  refine k _ (Wk.of ?_ ?_)
  ·simp only [go_sem,bX,e8];try simp
  ·simp only [go_sem,bX,a_];try simp [go_sem]
 ·try simp only [go_sem,show decide ((3:Int)<4)=true from rfl,Int.reduceTMod,Int.reduceEq,not_false_eq_true,true_and]
  first | refine aE (ue 0) rfl (by simp [go_sem,ac,wx]) (by (try simp only [aJ,aQ,ay]);omega) ?_ | refine az (ue 0) rfl (by simp [go_sem,ac,wx]) (by (try simp only [aJ,aQ,ay]);omega) ?_
  simp only [go_sem,Int.reduceTMod,Int.reduceEq,not_false_eq_true,true_and,show decide ((3:Int)<4)=true from rfl]
  first | refine aE (cl) rfl (by simp [go_sem,ac,wx]) (by (try simp only [aJ,aQ,ay]);omega) ?_ | refine az (cl) rfl (by simp [go_sem,ac,wx]) (by (try simp only [aJ,aQ,ay]);omega) ?_
  simp only [go_sem,Int.reduceTMod,Int.reduceEq,not_false_eq_true,true_and,show decide ((3:Int)<4)=true from rfl]
  generalize hv:w++aA 3++[0]=v at *
  have hvl:=congrArg List.length hv
  simp only [aJ,aQ,ay] at hvl
  refine cJ 6 2 [(5,.int .i64 3),(2,.mp 2 2 0 0),(3,.mp 3 5 0 0),(4,.mp 4 2 0 0)] [(3,⟨55,5,[l0 x],true⟩),(4,⟨81,2,[[.nl,.int .i64 0]],true⟩)] (eB 3) x.it (v++aA x.it.length) (by rw [aJ];omega) (by omega) (Wk.of ?_ ?_) ?_ ?_
  ·simp only [go_sem,bX];try simp
  ·simp only [go_sem,bX,a_];try simp [go_sem]
  ·simp only [go_sem,bX,a_,aG (Int.lt_irrefl _)]
   exact da (fun _ h=>by cases h) (by rfl) (by subst hv;unfold bT;simp)
  intro i u hi q1 hu e8 k
  have hj:=bp hJ hi
  obtain ⟨e1,e2,e3⟩:=mi (bp (hrf (by decide)) hi) hj.1
  have hl2:(ah x.it i).length=2:=by rw [e1];rfl
  rw [show eB 3 (ah x.it i)=aA (ah (ah x.it i) 0).a.toNat from aK (by decide)] at hu k
  simp only [go_sem,bX,a_,jE,aF q1,show decide ((3:Int)<4)=true from rfl]
  refine ⟨by omega,q1,by omega,by omega,?_⟩
  first | refine aE (ss ⟨e2,e3⟩) rfl (by simp [go_sem,ac,wx]) (by (try simp only [aJ,aQ,ay]);omega) ?_ | refine az (ss ⟨e2,e3⟩) rfl (by simp [go_sem,ac,wx]) (by (try simp only [aJ,aQ,ay]);omega) ?_
  simp only [go_sem]
  refine k _ (Wk.of ?_ ?_)
  ·simp only [go_sem,bX,e8];try simp
  ·simp only [go_sem,bX,a_];try simp [go_sem]
 ·try simp only [go_sem,show decide ((4:Int)<4)=false from rfl,Int.reduceTMod,Int.reduceEq,not_false_eq_true,true_and]
  first | refine aE (co) rfl (by simp [go_sem,ac,wx]) (by (try simp only [aJ,aQ,ay]);omega) ?_ | refine az (co) rfl (by simp [go_sem,ac,wx]) (by (try simp only [aJ,aQ,ay]);omega) ?_
  simp only [go_sem,Int.reduceTMod,Int.reduceEq,not_false_eq_true,true_and,show decide ((4:Int)<4)=false from rfl]
  first | refine aE (cl) rfl (by simp [go_sem,ac,wx]) (by (try simp only [aJ,aQ,ay]);omega) ?_ | refine az (cl) rfl (by simp [go_sem,ac,wx]) (by (try simp only [aJ,aQ,ay]);omega) ?_
  simp only [go_sem,Int.reduceTMod,Int.reduceEq,not_false_eq_true,true_and,show decide ((4:Int)<4)=false from rfl]
  generalize hv:w++aA 4++eA x.o=v at *
  have hvl:=congrArg List.length hv
  simp only [aJ,aQ,ay] at hvl
  refine cJ 6 2 [(5,.int .i64 4),(2,.mp 2 2 0 0),(3,.mp 3 5 0 0),(4,.mp 4 2 0 0)] [(3,⟨55,5,[l0 x],true⟩),(4,⟨81,2,[[.nl,.int .i64 0]],true⟩)] (eB 4) x.it (v++aA x.it.length) (by rw [aJ];omega) (by omega) (Wk.of ?_ ?_) ?_ ?_
  ·simp only [go_sem,bX];try simp
  ·simp only [go_sem,bX,a_];try simp [go_sem]
  ·simp only [go_sem,bX,a_,aG (Int.lt_irrefl _)]
   exact da (fun _ h=>by cases h) (by rfl) (by subst hv;unfold bT;simp)
  intro i u hi q1 hu e8 k
  have hj:=bp hJ hi
  rw [show eB 4 (ah x.it i)=eA (ah x.it i) from aD (by decide)] at hu k
  simp only [go_sem,bX,a_,jE,aF q1,show decide ((4:Int)<4)=false from rfl]
  refine ⟨by omega,q1,?_⟩
  first | refine aE (js hj.1 (by omega)) rfl (by simp [go_sem,ac,wx]) (by (try simp only [aJ,aQ,ay]);omega) ?_ | refine az (js hj.1 (by omega)) rfl (by simp [go_sem,ac,wx]) (by (try simp only [aJ,aQ,ay]);omega) ?_
  simp only [go_sem]
  refine k _ (Wk.of ?_ ?_)
  ·simp only [go_sem,bX,e8];try simp
  ·simp only [go_sem,bX,a_];try simp [go_sem]
 ·try simp only [go_sem,show decide ((5:Int)<4)=false from rfl,Int.reduceTMod,Int.reduceEq,not_false_eq_true,true_and]
  first | refine aE (cv) rfl (by simp [go_sem,ac,wx]) (by (try simp only [aJ,aQ,ay]);omega) ?_ | refine az (cv) rfl (by simp [go_sem,ac,wx]) (by (try simp only [aJ,aQ,ay]);omega) ?_
  simp only [go_sem,Int.reduceTMod,Int.reduceEq,not_false_eq_true,true_and,show decide ((5:Int)<4)=false from rfl]
  first | refine aE (cl) rfl (by simp [go_sem,ac,wx]) (by (try simp only [aJ,aQ,ay]);omega) ?_ | refine az (cl) rfl (by simp [go_sem,ac,wx]) (by (try simp only [aJ,aQ,ay]);omega) ?_
  simp only [go_sem,Int.reduceTMod,Int.reduceEq,not_false_eq_true,true_and,show decide ((5:Int)<4)=false from rfl]
  generalize hv:w++aA 5++gS x.ty=v at *
  have hvl:=congrArg List.length hv
  simp only [aJ,aQ,ay] at hvl
  refine cJ 6 2 [(5,.int .i64 5),(2,.mp 2 2 0 0),(3,.mp 3 5 0 0),(4,.mp 4 2 0 0)] [(3,⟨55,5,[l0 x],true⟩),(4,⟨81,2,[[.nl,.int .i64 0]],true⟩)] (eB 5) x.it (v++aA x.it.length) (by rw [aJ];omega) (by omega) (Wk.of ?_ ?_) ?_ ?_
  ·simp only [go_sem,bX];try simp
  ·simp only [go_sem,bX,a_];try simp [go_sem]
  ·simp only [go_sem,bX,a_,aG (Int.lt_irrefl _)]
   exact da (fun _ h=>by cases h) (by rfl) (by subst hv;unfold bT;simp)
  intro i u hi q1 hu e8 k
  have hj:=bp hJ hi
  rw [show eB 5 (ah x.it i)=eA (ah x.it i) from aD (by decide)] at hu k
  simp only [go_sem,bX,a_,jE,aF q1,show decide ((5:Int)<4)=false from rfl]
  refine ⟨by omega,q1,?_⟩
  first | refine aE (js hj.1 (by omega)) rfl (by simp [go_sem,ac,wx]) (by (try simp only [aJ,aQ,ay]);omega) ?_ | refine az (js hj.1 (by omega)) rfl (by simp [go_sem,ac,wx]) (by (try simp only [aJ,aQ,ay]);omega) ?_
  simp only [go_sem]
  refine k _ (Wk.of ?_ ?_)
  ·simp only [go_sem,bX,e8];try simp
  ·simp only [go_sem,bX,a_];try simp [go_sem]
 ·try simp only [go_sem,show decide ((6:Int)<4)=false from rfl,Int.reduceTMod,Int.reduceEq,not_false_eq_true,true_and]
  first | refine aE (ct) rfl (by simp [go_sem,ac,wx]) (by (try simp only [aJ,aQ,ay]);omega) ?_ | refine az (ct) rfl (by simp [go_sem,ac,wx]) (by (try simp only [aJ,aQ,ay]);omega) ?_
  simp only [go_sem,Int.reduceTMod,Int.reduceEq,not_false_eq_true,true_and,show decide ((6:Int)<4)=false from rfl]
  first | refine aE (co) rfl (by simp [go_sem,ac,wx]) (by (try simp only [aJ,aQ,ay]);omega) ?_ | refine az (co) rfl (by simp [go_sem,ac,wx]) (by (try simp only [aJ,aQ,ay]);omega) ?_
  simp only [go_sem,Int.reduceTMod,Int.reduceEq,not_false_eq_true,true_and,show decide ((6:Int)<4)=false from rfl]
  first | refine aE (cv) rfl (by simp [go_sem,ac,wx]) (by (try simp only [aJ,aQ,ay]);omega) ?_ | refine az (cv) rfl (by simp [go_sem,ac,wx]) (by (try simp only [aJ,aQ,ay]);omega) ?_
  simp only [go_sem,Int.reduceTMod,Int.reduceEq,not_false_eq_true,true_and,show decide ((6:Int)<4)=false from rfl]
  first | refine aE (cl) rfl (by simp [go_sem,ac,wx]) (by (try simp only [aJ,aQ,ay]);omega) ?_ | refine az (cl) rfl (by simp [go_sem,ac,wx]) (by (try simp only [aJ,aQ,ay]);omega) ?_
  simp only [go_sem,Int.reduceTMod,Int.reduceEq,not_false_eq_true,true_and,show decide ((6:Int)<4)=false from rfl]
  generalize hv:w++aA 6++aA x.tb.toNat++eA x.o++gS x.ty=v at *
  have hvl:=congrArg List.length hv
  simp only [aJ,aQ,ay] at hvl
  refine cJ 6 2 [(5,.int .i64 6),(2,.mp 2 2 0 0),(3,.mp 3 5 0 0),(4,.mp 4 2 0 0)] [(3,⟨55,5,[l0 x],true⟩),(4,⟨81,2,[[.nl,.int .i64 0]],true⟩)] (eB 6) x.it (v++aA x.it.length) (by rw [aJ];omega) (by omega) (Wk.of ?_ ?_) ?_ ?_
  ·simp only [go_sem,bX];try simp
  ·simp only [go_sem,bX,a_];try simp [go_sem]
  ·simp only [go_sem,bX,a_,aG (Int.lt_irrefl _)]
   exact da (fun _ h=>by cases h) (by rfl) (by subst hv;unfold bT;simp)
  intro i u hi q1 hu e8 k
  have hj:=bp hJ hi
  rw [show eB 6 (ah x.it i)=eA (ah x.it i) from aD (by decide)] at hu k
  simp only [go_sem,bX,a_,jE,aF q1,show decide ((6:Int)<4)=false from rfl]
  refine ⟨by omega,q1,?_⟩
  first | refine aE (js hj.1 (by omega)) rfl (by simp [go_sem,ac,wx]) (by (try simp only [aJ,aQ,ay]);omega) ?_ | refine az (js hj.1 (by omega)) rfl (by simp [go_sem,ac,wx]) (by (try simp only [aJ,aQ,ay]);omega) ?_
  simp only [go_sem]
  refine k _ (Wk.of ?_ ?_)
  ·simp only [go_sem,bX,e8];try simp
  ·simp only [go_sem,bX,a_];try simp [go_sem]
 ·try simp only [go_sem,show decide ((7:Int)<4)=false from rfl,Int.reduceTMod,Int.reduceEq,not_false_eq_true,true_and]
  first | refine aE (cv) rfl (by simp [go_sem,ac,wx]) (by (try simp only [aJ,aQ,ay]);omega) ?_ | refine az (cv) rfl (by simp [go_sem,ac,wx]) (by (try simp only [aJ,aQ,ay]);omega) ?_
  simp only [go_sem,Int.reduceTMod,Int.reduceEq,not_false_eq_true,true_and,show decide ((7:Int)<4)=false from rfl]
  first | refine aE (cl) rfl (by simp [go_sem,ac,wx]) (by (try simp only [aJ,aQ,ay]);omega) ?_ | refine az (cl) rfl (by simp [go_sem,ac,wx]) (by (try simp only [aJ,aQ,ay]);omega) ?_
  simp only [go_sem,Int.reduceTMod,Int.reduceEq,not_false_eq_true,true_and,show decide ((7:Int)<4)=false from rfl]
  generalize hv:w++aA 7++gS x.ty=v at *
  have hvl:=congrArg List.length hv
  simp only [aJ,aQ,ay] at hvl
  refine cJ 6 2 [(5,.int .i64 7),(2,.mp 2 2 0 0),(3,.mp 3 5 0 0),(4,.mp 4 2 0 0)] [(3,⟨55,5,[l0 x],true⟩),(4,⟨81,2,[[.nl,.int .i64 0]],true⟩)] (eB 7) x.it (v++aA x.it.length) (by rw [aJ];omega) (by omega) (Wk.of ?_ ?_) ?_ ?_
  ·simp only [go_sem,bX];try simp
  ·simp only [go_sem,bX,a_];try simp [go_sem]
  ·simp only [go_sem,bX,a_,aG (Int.lt_irrefl _)]
   exact da (fun _ h=>by cases h) (by rfl) (by subst hv;unfold bT;simp)
  intro i u hi q1 hu e8 k
  have hj:=bp hJ hi
  rw [show eB 7 (ah x.it i)=eA (ah x.it i) from aD (by decide)] at hu k
  simp only [go_sem,bX,a_,jE,aF q1,show decide ((7:Int)<4)=false from rfl]
  refine ⟨by omega,q1,?_⟩
  first | refine aE (js hj.1 (by omega)) rfl (by simp [go_sem,ac,wx]) (by (try simp only [aJ,aQ,ay]);omega) ?_ | refine az (js hj.1 (by omega)) rfl (by simp [go_sem,ac,wx]) (by (try simp only [aJ,aQ,ay]);omega) ?_
  simp only [go_sem]
  refine k _ (Wk.of ?_ ?_)
  ·simp only [go_sem,bX,e8];try simp
  ·simp only [go_sem,bX,a_];try simp [go_sem]
end
section
open Go Go.Mw
theorem fM {α:Type} (f:α→List UInt8) (l:List α):bT f l=[]++aA l.length++l.flatMap f:=rfl
variable {m:Md} (h:QY m) (ht:nI m≤6000)
include h ht
attribute [local go_sem] cY wx dE jr bG aV
end
end Go.Proofs.YtjndcljjbpeljaaGreatDoor