import Derived.Test.YtdefmgmmjfgbpaaGreatDoorUQh
set_option linter.all false
set_option maxRecDepth 100000
set_option maxHeartbeats 40000000
namespace Go.Proofs.YtdefmgmmjfgbpaaGreatDoor
open Go Go.Mw
theorem s7 {p:Int→List UInt8→Bool} (h:EN.all (fun x=>p x.1 x.2)=true) (op:Int):cu op=[]∨p op (cu op)=true:=by
 unfold cu
 cases hr:EN.find? (fun x=>x.1==op) with
 | none=>exact .inl rfl
 | some o =>
  have h1:=cZ.1 h o (List.mem_of_find?_eq_some hr)
  have h2:=List.find?_some hr
  simp only [beq_iff_eq] at h2
  rw [h2] at h1
  exact .inr h1
theorem uT (op:Int):(cu op).length<1000:=by
 rcases s7 (p:=fun _ s=>decide (s.length<1000)) (by decide +kernel) op with h | h
 ·rw [h];decide
 ·exact of_decide_eq_true h
def I_ (op:Int):Bool:=decide (op≥40)&&(decide (op≤62) && !(cu op==[]))
theorem FD (op:Int) (h:I_ op=true):5≤(cu op).length:=by
 simp only [I_,dZ,kw,nE,i1,ne_eq] at h
 rcases s7 (p:=fun k s=>decide (40≤k→k≤62→5≤s.length)) (by decide +kernel) op with h1 | h1
 ·exact absurd h1 h.2.2
 ·exact (of_decide_eq_true h1) h.1 h.2.1
theorem tD (op:Int):ak Tryz.prog Uz [.int .i64 op] (.bool (!(cu op==[]))):=by
 refine ah (ic:=Kc.body) ap S6 rfl rfl ?_
 simp only [go_sem,Kc]
 refine aa (wx op) ?_
 simp only [go_sem]
 exact ae
theorem Ej (op:Int):ak Tryz.prog Uv [.int .i64 op] (.bool (I_ op)):=by
 refine ah (ic:=zL.body) ap S2 rfl rfl ?_
 unfold I_
 by_cases h1:op≥40
 ·by_cases h2:op≤62
  ·simp only [go_sem,zL,az h1,az h2,jv]
   refine aa (tD op) ?_
   simp only [go_sem]
   exact ae
  ·simp only [go_sem,zL,az h1,au h2,jv,lr]
   exact ae
 ·simp only [go_sem,zL,au h1,lr]
  exact ae
def Ve (s:List UInt8):Int:=if Lib.contains (s.drop 4) [56]=true then 1 else if Lib.contains (s.drop 4) [49,54]=true then 2 else if Lib.contains (s.drop 4) [51,50]=true then 4 else if s.take 3=[105,51,50] then 4 else 8
def lm (op:Int):Int:=if I_ op=true then Ve (cu op) else 0
theorem Es (op:Int):ak Tryz.prog UA [.int .i64 op] (.int .i64 (lm op)):=by
 refine ah (ic:=Kf.body) ap S8 rfl rfl ?_
 simp only [go_sem,Kf]
 refine aa (Ej op) ?_
 cases hac:I_ op
 ·have r:lm op=0:=by rw [lm,hac];rfl
  rw [r]
  simp only [go_sem]
  exact ar
 ·have r:lm op=Ve (cu op):=by rw [lm,hac];rfl
  have hl:=uT op
  have hl2:=FD op hac
  rw [r]
  simp only [go_sem]
  refine aa (wx op) ?_
  simp only [go_sem]
  generalize cu op=s at hl hl2
  obtain ⟨Inv,hInv⟩:∃Inv:Nat→Prop,Inv=fun i=>i≤3∧(0<i→Lib.contains (s.drop 4) [56]=false)∧(1<i→Lib.contains (s.drop 4) [49,54]=false)∧(2<i→Lib.contains (s.drop 4) [51,50]=false):=⟨_,rfl⟩
  refine an (fun i:Nat=>⟨[(11,.ms 11 1 0 3),(12,.int .i64 3),(13,.int .i64 i),(3,.str s),(2,.int .i64 0)],[(11,⟨3,1,[[.int .i64 8],[.int .i64 16],[.int .i64 32]],false⟩)]⟩) Inv (fun i=>3 - i) 0 (by rw [hInv];exact ⟨by decide,fun h=>absurd h (by decide),fun h=>absurd h (by decide),fun h=>absurd h (by decide)⟩) (Wk.of ?_ ?_) ?_
  ·simp only [go_sem];try simp
  ·simp only [go_sem];try simp
  intro i hInv1
  rw [hInv] at hInv1
  obtain ⟨hi,h1,h2,h3⟩:=hInv1
  have hd:(s.drop 4).length<4294967281:=by simp;omega
  have e4:(s.drop 4).take (s.length - 4)=s.drop 4:=kv (by simp)
  have hl4:4≤s.length:=by omega
  have c0:((0:Nat):Int)=0:=rfl
  have c1:((1:Nat):Int)=1:=rfl
  have c2:((2:Nat):Int)=2:=rfl
  have c3:((3:Nat):Int)=3:=rfl
  have ld:∀k:Nat,pN none 1 k 0 (some ⟨3,1,[[.int .i64 8],[.int .i64 16],[.int .i64 32]],false⟩)=(match k with | 0=>some (.int .i64 8) | 1=>some (.int .i64 16) | 2=>some (.int .i64 32) | _=>none):=fun k=>by
   rcases k with _ | _ | _ | k<;>rfl
  have ls:∀k:Nat,pN none 1 k 0 (some ⟨9,1,[[.str [56]],[.str [49,54]],[.str [51,50]]],false⟩)=(match k with | 0=>some (.str [56]) | 1=>some (.str [49,54]) | 2=>some (.str [51,50]) | _=>none):=fun k=>by
   rcases k with _ | _ | _ | k<;>rfl
  have q0:IntKind.i64.wrap ((8:Int).tdiv 16)=0:=by decide
  have q1:IntKind.i64.wrap ((16:Int).tdiv 16)=1:=by decide
  have q2:IntKind.i64.wrap ((32:Int).tdiv 16)=2:=by decide
  have p0:IntKind.i64.wrap ((8:Int).tdiv 8)=1:=by decide
  have p1:IntKind.i64.wrap ((16:Int).tdiv 8)=2:=by decide
  have p2:IntKind.i64.wrap ((32:Int).tdiv 8)=4:=by decide
  have s0:IntKind.i64.wrap ((0:Int)+1)=1:=by decide
  have s1:IntKind.i64.wrap ((1:Int)+1)=2:=by decide
  have s2:IntKind.i64.wrap ((2:Int)+1)=3:=by decide
  have t0:(0:Int).toNat=0:=rfl
  have t1:(1:Int).toNat=1:=rfl
  have t2:(2:Int).toNat=2:=rfl
  unfold Ve
  rcases (show i=0∨i=1∨i=2∨i=3 by omega) with rfl | rfl | rfl | rfl
  ·simp only [go_sem,hl4,e4,c0,c1,c2,c3,az (show (0:Int)<3 by decide),ld,ls,q0,q1,q2,t0,t1,t2]
   refine ⟨⟨by decide,by decide⟩,⟨by decide,by omega⟩,by decide,⟨by decide,by decide⟩,?_⟩
   refine aa (kj (s.drop 4) [56] hd) ?_
   cases hc:Lib.contains (s.drop 4) [56]
   ·simp only [go_sem]
    refine aA 1 (by rw [hInv];exact ⟨by decide,fun _=>hc,fun h=>absurd h (by decide),fun h=>absurd h (by decide)⟩) (show 3 - 1<3 - 0 by decide) (Wk.of ?_ ?_)
    ·simp only [go_sem,s0,s1,s2,c0,c1,c2,c3]
     try simp
    ·simp only [go_sem]
   ·simp only [go_sem,p0,p1,p2]
    exact ⟨by decide,by exact ar⟩
  ·rw [h1 (by decide)]
   simp only [go_sem,hl4,e4,c0,c1,c2,c3,az (show (1:Int)<3 by decide),ld,ls,q0,q1,q2,t0,t1,t2]
   refine ⟨⟨by decide,by decide⟩,⟨by decide,by omega⟩,by decide,⟨by decide,by decide⟩,?_⟩
   refine aa (kj (s.drop 4) [49,54] hd) ?_
   cases hc:Lib.contains (s.drop 4) [49,54]
   ·simp only [go_sem]
    refine aA 2 (by rw [hInv];exact ⟨by decide,fun _=>h1 (by decide),fun _=>hc,fun h=>absurd h (by decide)⟩) (show 3 - 2<3 - 1 by decide) (Wk.of ?_ ?_)
    ·simp only [go_sem,s0,s1,s2,c0,c1,c2,c3]
     try simp
    ·simp only [go_sem]
   ·simp only [go_sem,p0,p1,p2]
    exact ⟨by decide,by exact ar⟩
  ·rw [h1 (by decide)]
   rw [h2 (by decide)]
   simp only [go_sem,hl4,e4,c0,c1,c2,c3,az (show (2:Int)<3 by decide),ld,ls,q0,q1,q2,t0,t1,t2]
   refine ⟨⟨by decide,by decide⟩,⟨by decide,by omega⟩,by decide,⟨by decide,by decide⟩,?_⟩
   refine aa (kj (s.drop 4) [51,50] hd) ?_
   cases hc:Lib.contains (s.drop 4) [51,50]
   ·simp only [go_sem]
    refine aA 3 (by rw [hInv];exact ⟨by decide,fun _=>h1 (by decide),fun _=>h2 (by decide),fun _=>hc⟩) (show 3 - 3<3 - 2 by decide) (Wk.of ?_ ?_)
    ·simp only [go_sem,s0,s1,s2,c0,c1,c2,c3]
     try simp
    ·simp only [go_sem]
   ·simp only [go_sem,p0,p1,p2]
    exact ⟨by decide,by exact ar⟩
  ·rw [h1 (by decide),h2 (by decide),h3 (by decide)]
   have e5:((3:Int)).toNat=3:=rfl
   simp only [go_sem,c3,au (show ¬(3:Int)<3 by decide),List.drop_zero,e5]
   refine ⟨by omega,fun h=>?_,fun h=>?_⟩
   ·rw [bz (by simpa using h)]
    exact ar
   ·rw [aJ (by simpa using h)]
    exact ar
def Og (w:Int):Int:=if w=1 then 0 else if w=2 then 1 else if w=4 then 2 else if w=8 then 3 else 0
def NA:List (Int×Int):=[(37,9),(38,9),(64528,9),(64527,9),(64529,9),(64526,10),(64524,11),(64525,12),(63,13),(64,13),(64523,13),(64522,14),(64520,15),(64521,16)]
def vk (op:Int):Int:=match NA.find? (fun p=>p.1==op) with
 | some p=>p.2
 | none=>0
theorem yQ (op:Int):ak Tryz.prog Uw [.int .i64 op] (.int .i64 (vk op)):=by
 refine ah (ic:=i4.body) ap S3 rfl rfl ?_
 by_cases h0:op=37
 ·subst h0
  simp only [go_sem,i4]
  exact ar
 by_cases h1:op=38
 ·subst h1
  simp only [go_sem,i4]
  exact ar
 by_cases h2:op=64528
 ·subst h2
  simp only [go_sem,i4]
  exact ar
 by_cases h3:op=64527
 ·subst h3
  simp only [go_sem,i4]
  exact ar
 by_cases h4:op=64529
 ·subst h4
  simp only [go_sem,i4]
  exact ar
 by_cases h5:op=64526
 ·subst h5
  simp only [go_sem,i4]
  exact ar
 by_cases h6:op=64524
 ·subst h6
  simp only [go_sem,i4]
  exact ar
 by_cases h7:op=64525
 ·subst h7
  simp only [go_sem,i4]
  exact ar
 by_cases h8:op=63
 ·subst h8
  simp only [go_sem,i4]
  exact ar
 by_cases h9:op=64
 ·subst h9
  simp only [go_sem,i4]
  exact ar
 by_cases h10:op=64523
 ·subst h10
  simp only [go_sem,i4]
  exact ar
 by_cases h11:op=64522
 ·subst h11
  simp only [go_sem,i4]
  exact ar
 by_cases h12:op=64520
 ·subst h12
  simp only [go_sem,i4]
  exact ar
 by_cases h13:op=64521
 ·subst h13
  simp only [go_sem,i4]
  exact ar
 have r:vk op=0:=by
  simp only [vk,NA,List.find?_cons,List.find?_nil,aw (fun e:(37:Int)=op=>h0 e.symm),aw (fun e:(38:Int)=op=>h1 e.symm),aw (fun e:(64528:Int)=op=>h2 e.symm),aw (fun e:(64527:Int)=op=>h3 e.symm),aw (fun e:(64529:Int)=op=>h4 e.symm),aw (fun e:(64526:Int)=op=>h5 e.symm),aw (fun e:(64524:Int)=op=>h6 e.symm),aw (fun e:(64525:Int)=op=>h7 e.symm),aw (fun e:(63:Int)=op=>h8 e.symm),aw (fun e:(64:Int)=op=>h9 e.symm),aw (fun e:(64523:Int)=op=>h10 e.symm),aw (fun e:(64522:Int)=op=>h11 e.symm),aw (fun e:(64520:Int)=op=>h12 e.symm),aw (fun e:(64521:Int)=op=>h13 e.symm)]
 rw [r]
 simp only [go_sem,i4,aw h0,aw h1,aw h2,aw h3,aw h4,aw h5,aw h6,aw h7,aw h8,aw h9,aw h10,aw h11,aw h12,aw h13]
 exact ar
def LJ:List (Int×Int):=[(2,1),(3,1),(4,1),(12,2),(13,2),(14,3),(16,4),(210,4),(17,5),(28,6),(32,7),(33,7),(34,7),(35,8),(36,8),(65,18),(66,19),(208,20)]
def sQ (op:Int):Int:=match LJ.find? (fun p=>p.1==op) with
 | some p=>p.2
 | none=>if lm op>0 then 17 else vk op
theorem Re (op:Int):ak Tryz.prog Qn [.int .i64 op] (.int .i64 (sQ op)):=by
 refine ah (ic:=eD.body) ap OY rfl rfl ?_
 by_cases h0:op=2
 ·subst h0
  simp only [go_sem,eD]
  exact ar
 by_cases h1:op=3
 ·subst h1
  simp only [go_sem,eD]
  exact ar
 by_cases h2:op=4
 ·subst h2
  simp only [go_sem,eD]
  exact ar
 by_cases h3:op=12
 ·subst h3
  simp only [go_sem,eD]
  exact ar
 by_cases h4:op=13
 ·subst h4
  simp only [go_sem,eD]
  exact ar
 by_cases h5:op=14
 ·subst h5
  simp only [go_sem,eD]
  exact ar
 by_cases h6:op=16
 ·subst h6
  simp only [go_sem,eD]
  exact ar
 by_cases h7:op=210
 ·subst h7
  simp only [go_sem,eD]
  exact ar
 by_cases h8:op=17
 ·subst h8
  simp only [go_sem,eD]
  exact ar
 by_cases h9:op=28
 ·subst h9
  simp only [go_sem,eD]
  exact ar
 by_cases h10:op=32
 ·subst h10
  simp only [go_sem,eD]
  exact ar
 by_cases h11:op=33
 ·subst h11
  simp only [go_sem,eD]
  exact ar
 by_cases h12:op=34
 ·subst h12
  simp only [go_sem,eD]
  exact ar
 by_cases h13:op=35
 ·subst h13
  simp only [go_sem,eD]
  exact ar
 by_cases h14:op=36
 ·subst h14
  simp only [go_sem,eD]
  exact ar
 by_cases h15:op=65
 ·subst h15
  simp only [go_sem,eD]
  exact ar
 by_cases h16:op=66
 ·subst h16
  simp only [go_sem,eD]
  exact ar
 by_cases h17:op=208
 ·subst h17
  simp only [go_sem,eD]
  exact ar
 have r:sQ op=if lm op>0 then 17 else vk op:=by
  simp only [sQ,LJ,List.find?_cons,List.find?_nil,aw (fun e:(2:Int)=op=>h0 e.symm),aw (fun e:(3:Int)=op=>h1 e.symm),aw (fun e:(4:Int)=op=>h2 e.symm),aw (fun e:(12:Int)=op=>h3 e.symm),aw (fun e:(13:Int)=op=>h4 e.symm),aw (fun e:(14:Int)=op=>h5 e.symm),aw (fun e:(16:Int)=op=>h6 e.symm),aw (fun e:(210:Int)=op=>h7 e.symm),aw (fun e:(17:Int)=op=>h8 e.symm),aw (fun e:(28:Int)=op=>h9 e.symm),aw (fun e:(32:Int)=op=>h10 e.symm),aw (fun e:(33:Int)=op=>h11 e.symm),aw (fun e:(34:Int)=op=>h12 e.symm),aw (fun e:(35:Int)=op=>h13 e.symm),aw (fun e:(36:Int)=op=>h14 e.symm),aw (fun e:(65:Int)=op=>h15 e.symm),aw (fun e:(66:Int)=op=>h16 e.symm),aw (fun e:(208:Int)=op=>h17 e.symm)]
 rw [r]
 simp only [go_sem,eD,aw h0,aw h1,aw h2,aw h3,aw h4,aw h5,aw h6,aw h7,aw h8,aw h9,aw h10,aw h11,aw h12,aw h13,aw h14,aw h15,aw h16,aw h17]
 refine aa (Es op) ?_
 by_cases hw:lm op>0
 ·simp only [go_sem,az hw,bz hw]
  exact ar
 ·simp only [go_sem,au hw,aJ hw]
  refine aa (yQ op) ?_
  simp only [go_sem]
  exact ar
def Be (op:Int):Int:=if free op=true then 0 else if cu op=[] then 0 else 1
def NJ:List (Int×Bool×Bool×Bool):=[(2,true,false,false),(3,true,false,false),(4,true,false,false),(7,true,false,false),(8,true,false,false),(9,true,false,false),(12,true,false,false),(16,true,false,false),(20,true,false,false),(5,true,true,false),(10,true,true,false),(11,true,true,false),(14,true,true,false),(15,true,true,false),(13,false,true,false),(17,true,true,true),(18,false,false,true),(19,false,false,true)]
def tO (i:Int):Bool×Bool×Bool:=match NJ.find? (fun p=>p.1==i) with
 | some p=>p.2
 | none=>(false,false,false)
theorem Nq (i:Int):ak Tryz.prog P9 [.int .i64 i] (.tup [.bool (tO i).1,.bool (tO i).2.1,.bool (tO i).2.2]):=by
 refine ah (ic:=eC.body) ap OD rfl rfl ?_
 by_cases h0:i=2
 ·subst h0
  simp only [go_sem,eC]
  exact ar
 by_cases h1:i=3
 ·subst h1
  simp only [go_sem,eC]
  exact ar
 by_cases h2:i=4
 ·subst h2
  simp only [go_sem,eC]
  exact ar
 by_cases h3:i=7
 ·subst h3
  simp only [go_sem,eC]
  exact ar
 by_cases h4:i=8
 ·subst h4
  simp only [go_sem,eC]
  exact ar
 by_cases h5:i=9
 ·subst h5
  simp only [go_sem,eC]
  exact ar
 by_cases h6:i=12
 ·subst h6
  simp only [go_sem,eC]
  exact ar
 by_cases h7:i=16
 ·subst h7
  simp only [go_sem,eC]
  exact ar
 by_cases h8:i=20
 ·subst h8
  simp only [go_sem,eC]
  exact ar
 by_cases h9:i=5
 ·subst h9
  simp only [go_sem,eC]
  exact ar
 by_cases h10:i=10
 ·subst h10
  simp only [go_sem,eC]
  exact ar
 by_cases h11:i=11
 ·subst h11
  simp only [go_sem,eC]
  exact ar
 by_cases h12:i=14
 ·subst h12
  simp only [go_sem,eC]
  exact ar
 by_cases h13:i=15
 ·subst h13
  simp only [go_sem,eC]
  exact ar
 by_cases h14:i=13
 ·subst h14
  simp only [go_sem,eC]
  exact ar
 by_cases h15:i=17
 ·subst h15
  simp only [go_sem,eC]
  exact ar
 by_cases h16:i=18
 ·subst h16
  simp only [go_sem,eC]
  exact ar
 by_cases h17:i=19
 ·subst h17
  simp only [go_sem,eC]
  exact ar
 have r:tO i=(false,false,false):=by
  simp only [tO,NJ,List.find?_cons,List.find?_nil,aw (fun e:(2:Int)=i=>h0 e.symm),aw (fun e:(3:Int)=i=>h1 e.symm),aw (fun e:(4:Int)=i=>h2 e.symm),aw (fun e:(7:Int)=i=>h3 e.symm),aw (fun e:(8:Int)=i=>h4 e.symm),aw (fun e:(9:Int)=i=>h5 e.symm),aw (fun e:(12:Int)=i=>h6 e.symm),aw (fun e:(16:Int)=i=>h7 e.symm),aw (fun e:(20:Int)=i=>h8 e.symm),aw (fun e:(5:Int)=i=>h9 e.symm),aw (fun e:(10:Int)=i=>h10 e.symm),aw (fun e:(11:Int)=i=>h11 e.symm),aw (fun e:(14:Int)=i=>h12 e.symm),aw (fun e:(15:Int)=i=>h13 e.symm),aw (fun e:(13:Int)=i=>h14 e.symm),aw (fun e:(17:Int)=i=>h15 e.symm),aw (fun e:(18:Int)=i=>h16 e.symm),aw (fun e:(19:Int)=i=>h17 e.symm)]
 rw [r]
 simp only [go_sem,eC,aw h0,aw h1,aw h2,aw h3,aw h4,aw h5,aw h6,aw h7,aw h8,aw h9,aw h10,aw h11,aw h12,aw h13,aw h14,aw h15,aw h16,aw h17]
 exact ar
theorem IE (n:Int):ak Tryz.prog QV [.int .i64 n] (.bool (decide (n≥0)&&decide (n<4294967296))):=by
 refine ah (ic:=Fg.body) ap S_ rfl rfl ?_
 by_cases h:n≥0
 ·simp only [go_sem,Fg,az h,jv]
  exact ae
 ·simp only [go_sem,Fg,au h,lr]
  exact ae
section
def mY (n:Int):Bool:=decide (n≥0)&&decide (n<4294967296)
def JR (n:Int):Bool:=decide (n≥1)&&decide (n≤4)
def NQ (k v z:Int):Bool:=if k=0 then (v==0)&&(z==0) else if k=1 then JR v&&(z==0) else if k=2 then (v==0)&&mY z else false
theorem IF (n:Int):ak Tryz.prog QV [.int .i64 n] (.bool (mY n)):=IE n
attribute [local go_sem] I2 dn
theorem Rg (n:Int):ak Tryz.prog Qc [.int .i64 n] (.bool (JR n)):=by
 refine ah (ic:=vB.body) ap OK rfl rfl ?_
 unfold JR
 by_cases h:n≥1
 ·simp only [go_sem,vB,az h,jv]
  exact ae
 ·simp only [go_sem,vB,au h,lr]
  exact ae
theorem V2 {a b:Int} (h:(a != b)=true):(a==b)=false:=by simpa using h
theorem VZ {a b:Int} (h:(a != b)=false):(a==b)=true:=by simpa using h
theorem VX {b:Bool} (h:(!b)=true):b=false:=by cases b<;>first | rfl | cases h
theorem VY {b:Bool} (h:(!b)=false):b=true:=by cases b<;>first | rfl | cases h
theorem Em (k v z:Int):ak Tryz.prog UB [.agg [.int .i64 k,.int .i64 v,.int .i64 z]] (.bool (NQ k v z)):=by
 refine ah (ic:=wG.body) ap S9 rfl rfl ?_
 unfold NQ
 by_cases h0:k=0
 ·subst h0
  rw [bz rfl]
  simp only [go_sem,wG]
  exact ar
 by_cases h1:k=1
 ·subst h1
  rw [aJ h0,bz rfl]
  simp only [go_sem,wG]
  refine aa (Rg v) ?_
  cases JR v
  ·simp only [go_sem]
   exact ar
  ·simp only [go_sem]
   exact ar
 by_cases h2:k=2
 ·subst h2
  rw [aJ h0,aJ h1,bz rfl]
  simp only [go_sem,wG]
  refine ⟨fun h=>?_,fun h=>?_⟩
  ·refine aa (IF z) ?_
   rw [h]
   simp only [go_sem]
   exact ar
  ·rw [h]
   exact ar
 rw [aJ h0,aJ h1,aJ h2]
 simp only [go_sem,wG,aw h0,aw h1,aw h2]
 exact ar
theorem FU {f:Int→Bool} {l:List Int} (h:∀k,k<l.length→f (aj l k)=true):l.all f=true:=by
 rw [cZ]
 intro x hx
 obtain ⟨k,hk,rfl⟩:=List.mem_iff_getElem.1 hx
 have:=h k hk
 rwa [cw hk] at this
theorem FT {f:Int→Bool} {l:List Int} {k:Nat} (hk:k<l.length) (h:f (aj l k)=false):l.all f=false:=by
 rw [List.all_eq_false]
 exact ⟨aj l k,by rw [cw hk];exact List.getElem_mem hk,by rw [h];decide⟩
end
section
def nj (i:Int) (x:cN):Bool :=
 if i=1 then NQ x.k x.v x.x else if i=6 then ((x.ty.length:Int)==1)&&JR (aj x.ty 0) else if i=17 then decide (x.a≤63) else if i=20 then (x.a==3)||(x.a==4) else x.lb.all mY
def RH (i:Int) (kn:Bool) (u:Bool×Bool×Bool) (x:cN):Bool :=
 kn&&((u.1||(x.a==0))&&((u.2.1||(x.b==0))&&((u.2.2||(x.n==0))&&(mY x.a&&(mY x.b &&
 (((i==19) || !decide (x.n≥4294967296))&&(((i==1)||((x.k==0)&&((x.v==0)&&(x.x==0))))&&(((i==6) || !decide ((x.ty.length:Int)>0))&&(((i==3) || !decide ((x.lb.length:Int)>0))&&nj i x)))))))))
def CL:List (Bool×Bool×Bool×Bool×Bool×Bool×Bool×Bool×Bool) :=
 [(false,false,false,true,false,false,false,false,false),
  (true,false,false,false,true,false,false,false,false),
  (false,false,false,false,false,true,false,false,false),
  (true,true,true,false,false,false,true,false,false),
  (false,false,true,false,false,false,false,true,false),
  (true,false,false,false,false,false,false,false,true),
  (true,false,false,false,false,false,false,false,false),
  (true,true,false,false,false,false,false,false,false),
  (false,true,false,false,false,false,false,false,false),
  (false,false,true,false,false,false,false,false,false),
  (false,false,false,false,false,false,false,false,false)]
theorem VK (i:Int) (hi:0≤i∧i≤20):((tO i).1,(tO i).2.1,(tO i).2.2,(i==1),(i==3),(i==6),(i==17),(i==19),(i==20))∈CL:=by
 obtain ⟨h1,h2⟩:=hi
 obtain ⟨n,rfl⟩:=Int.eq_ofNat_of_zero_le h1
 have hn:n≤20:=by omega
 clear h1 h2
 have:∀n:Fin 21,((tO (n.val:Nat)).1,(tO (n.val:Nat)).2.1,(tO (n.val:Nat)).2.2,(((n.val:Nat):Int)==1),(((n.val:Nat):Int)==3),(((n.val:Nat):Int)==6),(((n.val:Nat):Int)==17),(((n.val:Nat):Int)==19),(((n.val:Nat):Int)==20))∈CL:=by decide +kernel
 exact this ⟨n,by omega⟩
attribute [local go_sem] I2 dn c_
theorem Eq (x:cN) (i:Int) (hi:0≤i∧i≤20) (him:sQ x.op=i) (hl:x.lb.length≤9223372036854775807):ak Tryz.prog pP [jk x] (.bool (RH i (!(cu x.op==[])) (tO i) x)):=by
 refine ah (ic:=Ke.body) ap S7 rfl rfl ?_
 have a1:=Re x.op
 rw [him] at a1
 have a2:=Nq i
 have a3:=tD x.op
 have hc:=VK i hi
 unfold RH
 generalize (tO i).1=ua at hc a2
 generalize (tO i).2.1=ub at hc a2
 generalize (tO i).2.2=un at hc a2
 generalize h1:(i==1)=k1 at hc
 generalize h3:(i==3)=k3 at hc
 generalize h6:(i==6)=k6 at hc
 generalize h17:(i==17)=k17 at hc
 generalize h19:(i==19)=k19 at hc
 generalize h20:(i==20)=k20 at hc
 simp only [CL,bE,List.not_mem_nil,or_false,Prod.mk.injEq] at hc
 rcases hc with ⟨rfl,rfl,rfl,rfl,rfl,rfl,rfl,rfl,rfl⟩ | ⟨rfl,rfl,rfl,rfl,rfl,rfl,rfl,rfl,rfl⟩ | ⟨rfl,rfl,rfl,rfl,rfl,rfl,rfl,rfl,rfl⟩ | ⟨rfl,rfl,rfl,rfl,rfl,rfl,rfl,rfl,rfl⟩ | ⟨rfl,rfl,rfl,rfl,rfl,rfl,rfl,rfl,rfl⟩ | ⟨rfl,rfl,rfl,rfl,rfl,rfl,rfl,rfl,rfl⟩ | ⟨rfl,rfl,rfl,rfl,rfl,rfl,rfl,rfl,rfl⟩ | ⟨rfl,rfl,rfl,rfl,rfl,rfl,rfl,rfl,rfl⟩ | ⟨rfl,rfl,rfl,rfl,rfl,rfl,rfl,rfl,rfl⟩ | ⟨rfl,rfl,rfl,rfl,rfl,rfl,rfl,rfl,rfl⟩ | ⟨rfl,rfl,rfl,rfl,rfl,rfl,rfl,rfl,rfl⟩
 all_goals
  have d1:(i != 1) = !(i==1):=rfl
  have d3:(i != 3) = !(i==3):=rfl
  have d6:(i != 6) = !(i==6):=rfl
  have d19:(i != 19) = !(i==19):=rfl
  rw [h1] at d1
  rw [h3] at d3
  rw [h6] at d6
  rw [h19] at d19
  simp only [h1,h3,h6,h19,rX,rV,jv]
  simp only [go_sem,Ke]
  refine aa (a1) ?_
  simp only [go_sem]
  refine aa (a2) ?_
  simp only [go_sem]
  refine aa (a3) ?_
  cases hk:!(cu x.op==[])
  ·simp only [go_sem]
   exact ar
  rw [jv]
  simp only [go_sem]
  iterate 3 (first | (refine ⟨fun h=>?_,fun h=>?_⟩
                      ·rw [V2 h,lr]
                       exact ar
                      rw [VZ h,jv]) | skip)
  refine aa (IF x.a) ?_
  cases hA:mY x.a
  ·rw [lr]
   simp only [go_sem]
   exact ar
  rw [jv]
  simp only [go_sem]
  refine aa (IF x.b) ?_
  cases hB:mY x.b
  ·rw [lr]
   simp only [go_sem]
   exact ar
  rw [jv]
  simp only [go_sem,d1,d3,d6,d19,h1,h6,h17,h20,bv,bA]
  iterate 4 (first | (refine ⟨fun h=>?_,fun h=>?_⟩
                      ·(first | rw [az h,bv,lr] | rw [VX h,lr])
                       exact ar
                      (first | rw [au h,bA,jv] | rw [VY h,jv])) | skip)
 ·have r:nj i x=NQ x.k x.v x.x:=by rw [nj,bz (eq_of_beq h1)]
  rw [r]
  refine aa (Em x.k x.v x.x) ?_
  simp only [go_sem]
  exact ar
 rotate_left
 ·have r:nj i x=(((x.ty.length:Int)==1)&&JR (aj x.ty 0)):=by rw [nj,aJ (ne_of_beq_false h1),bz (eq_of_beq h6)]
  rw [r]
  refine ⟨fun h=>⟨by decide,?_,?_⟩,fun h=>?_⟩
  ·have:=eq_of_beq h
   omega
  ·rw [h,jv]
   refine aa (Rg (aj x.ty 0)) ?_
   simp only [go_sem]
   exact ar
  ·rw [h,lr]
   exact ar
 ·have r:nj i x=decide (x.a≤63):=by rw [nj,aJ (ne_of_beq_false h1),aJ (ne_of_beq_false h6),bz (eq_of_beq h17)]
  rw [r]
  exact ar
 rotate_left
 ·have r:nj i x=((x.a==3)||(x.a==4)):=by rw [nj,aJ (ne_of_beq_false h1),aJ (ne_of_beq_false h6),aJ (ne_of_beq_false h17),bz (eq_of_beq h20)]
  rw [r]
  refine ⟨fun h=>?_,fun h=>?_⟩
  ·rw [h,rX]
   exact ar
  ·rw [h,rV]
   exact ar
 all_goals
  have r:nj i x=x.lb.all mY:=by rw [nj,aJ (ne_of_beq_false h1),aJ (ne_of_beq_false h6),aJ (ne_of_beq_false h17),aJ (ne_of_beq_false h20)]
  rw [r]
  refine an (fun i:Nat=>⟨[(133,.sl 1 (x.lb.map dI)),(134,.int .i64 x.lb.length),(135,.int .i64 i)],[]⟩) (fun i=>i≤x.lb.length∧∀k,k<i→mY (aj x.lb k)=true) (fun i=>x.lb.length - i) 0 ⟨cq _,fun k hk=>absurd hk (Nat.not_lt_zero k)⟩ (Wk.of ?_ ?_) ?_
  ·simp only [go_sem];try simp
  ·trivial
  rintro j ⟨hj,hk⟩
  by_cases q1:(j:Int)<(x.lb.length:Int)
  ·have e8:=wi (n:=(j:Int)+1) (by omega) (by omega)
   simp only [go_sem,az q1]
   refine ⟨by omega,q1,?_⟩
   refine aa (IF (aj x.lb j)) ?_
   cases q2:mY (aj x.lb j)
   ·rw [FT (by omega) q2]
    simp only [go_sem]
    exact ar
   ·simp only [go_sem]
    refine aA (j+1) ⟨by omega,fun k hk2=>?_⟩ (show x.lb.length - (j+1)<x.lb.length - j by omega) (Wk.of ?_ ?_)
    ·rcases bK k j with h4 | h4
     ·exact hk k h4
     ·obtain rfl:k=j:=by omega
      exact q2
    ·simp only [go_sem,e8]
     try simp
    ·simp only [go_sem]
  ·rw [FU (fun k hk2=>hk k (by omega))]
   simp only [go_sem,au q1]
   exact ar
end
def Rc (i:Int) (x:cN):Bool :=
 if i=0 then (x.a==0)&&((x.b==0)&&(x.n==0)) else
 if i=1 then (x.a==0)&&((x.b==0)&&((x.n==0)&&NQ x.k x.v x.x)) else
 if i=3 then mY x.a&&((x.b==0)&&((x.n==0)&&x.lb.all mY)) else
 if i=6 then (x.a==0)&&((x.b==0)&&((x.n==0)&&(((x.ty.length:Int)==1)&&JR (aj x.ty 0)))) else
 if i=13 then (x.a==0)&&(mY x.b&&(x.n==0)) else
 if i=17 then decide (x.a≥0)&&(decide (x.a≤63)&&(mY x.b&&decide (x.n<4294967296))) else
 if i=18 then (x.a==0)&&((x.b==0)&&decide (x.n<4294967296)) else
 if i=19 then (x.a==0)&&(x.b==0) else
 if i=20 then ((x.a==3)||(x.a==4))&&((x.b==0)&&(x.n==0)) else
 if i=5∨i=10∨i=11∨i=14∨i=15 then mY x.a&&(mY x.b&&(x.n==0)) else
 mY x.a&&((x.b==0)&&(x.n==0))
def UR (i:Int) (kn:Bool) (x:cN):Bool :=
 kn&&(((i==1)||((x.k==0)&&((x.v==0)&&(x.x==0))))&&(((i==3) || !decide ((x.lb.length:Int)>0))&&(((i==6) || !decide ((x.ty.length:Int)>0))&&Rc i x)))
theorem pm (op:Int):cu op=Q9 op:=by
 have h:∀l:List Oc,(match (l.map fun o=>(o.op,o.nm)).find? (fun x=>x.1==op) with | some o=>o.2 | none=>[])=((l.find? (fun o=>o.op==op)).getD default).nm:=by
  intro l
  induction l with
  | nil=>rfl
  | cons a l ih =>
   simp only [ee,List.find?_cons]
   cases ha:a.op==op
   ·exact ih
   ·rfl
 exact h OC
theorem tz {op:Int} (h:kY op=none):Q9 op=[]∧zc op=0∧M9 op=false:=by
 simp only [Q9,zc,M9,h]
 exact ⟨rfl,rfl,rfl⟩
theorem Eb {p:Int→Bool} (h:OC.all (fun o=>p o.op)=true) {op:Int} (hr:kY op≠none):p op=true:=by
 cases hf:kY op with
 | none=>exact absurd hf hr
 | some o =>
  have h1:=cZ.1 h o (List.mem_of_find?_eq_some hf)
  have h2:=List.find?_some hf
  simp only [beq_iff_eq] at h2
  rw [h2] at h1
  exact h1
theorem Rn (op:Int):(!(cu op==[]))=M9 op∧cu op=Q9 op∧sQ op=zc op∧lm op=yY op∧Og (lm op)=Oh (yY op)∧Be op=Bf op:=by
 by_cases h:kY op=none
 ·obtain ⟨h1,h2,h3⟩:=tz h
  have hn:cu op=[]:=by rw [pm,h1]
  have hw:lm op=0:=by
   have:I_ op=false:=by simp [I_,hn]
   rw [lm,this];rfl
  have hw2:yY op=0:=by rw [yY,h2];rfl
  have hi:sQ op=0:=by
   have ht:∀(l:List (Int×Int)),l.all (fun p=>(kY p.1).isSome)=true→l.find? (fun p=>p.1==op)=none:=by
    intro l hl
    rw [List.find?_eq_none]
    intro p hp hq
    have:=cZ.1 hl p hp
    simp only [beq_iff_eq] at hq
    rw [hq,h] at this
    cases this
   have hs:vk op=0:=by rw [vk,ht NA (by decide +kernel)]
   rw [sQ,ht LJ (by decide +kernel),hw,hs];rfl
  refine ⟨by rw [hn,h3];rfl,pm op,by rw [hi,h2],by rw [hw,hw2],by rw [hw,hw2];rfl,?_⟩
  rw [Be,Bf,hn,h3];rfl
 ·have:=Eb (p:=fun op=>(!(cu op==[]))==M9 op&&sQ op==zc op&&lm op==yY op&&Og (lm op)==Oh (yY op)&&Be op==Bf op) (by decide +kernel) h
  simp only [dZ,beq_iff_eq] at this
  obtain ⟨⟨⟨⟨h1,h2⟩,h3⟩,h4⟩,h5⟩:=this
  exact ⟨h1,pm op,h2,h3,h4,h5⟩
theorem Q6 (i:Int) (hi:0≤i∧i≤20) (kn:Bool) (x:cN) (hn:0≤x.n):RH i kn (tO i) x=UR i kn x:=by
 obtain ⟨op,a,b,n,k,v,z,ty,lb⟩:=x
 replace hn:0≤n:=hn
 have hal:¬((lb.length:Int)>0)→lb.all mY=true:=fun h=>by
  cases lb with
  | nil=>rfl
  | cons y l=>simp at h
 unfold RH UR nj Rc
 simp only
 generalize lb.all mY=al at hal
 generalize (lb.length:Int)=ll at hal
 generalize JR (aj ty 0)=vv
 generalize (ty.length:Int)=tl
 generalize NQ k v z=bb
 generalize ((k==0)&&((v==0)&&(z==0)))=kk
 have ea:a=0→mY a=true:=fun h=>by subst h;decide
 have eb:b=0→mY b=true:=fun h=>by subst h;decide
 have ec:a=3∨a=4→mY a=true:=fun h=>by rcases h with rfl | rfl<;>decide
 have ed:mY a=true∧a≤63↔a≥0∧a≤63:=by
  simp only [mY,dZ,kw]
  omega
 generalize mY a=xa at ea ec ed
 generalize mY b=xb at eb
 rcases (show i=0∨i=1∨i=2∨i=3∨i=4∨i=5∨i=6∨i=7∨i=8∨i=9∨i=10∨i=11∨i=12∨i=13∨i=14∨i=15∨i=16∨i=17∨i=18∨i=19∨i=20 by omega) with rfl | rfl | rfl | rfl | rfl | rfl | rfl | rfl | rfl | rfl | rfl | rfl | rfl | rfl | rfl | rfl | rfl | rfl | rfl | rfl | rfl
 all_goals
  simp only [tO,NJ,List.find?_cons,List.find?_nil,Int.reduceBEq,Int.reduceEq,cX,fp,rX,rV,jv,lr,false_or,or_false,or_true,true_or,or_self]
  rw [Bool.eq_iff_iff]
  simp only [dZ,pV,beq_iff_eq,kw,nE,decide_eq_false_iff_not]
  grind
theorem vZ (op:Int):0≤zc op∧zc op≤20:=by
 by_cases h:kY op=none
 ·rw [(tz h).2.1];decide
 ·have:=Eb (p:=fun op=>decide (0≤zc op)&&decide (zc op≤20)) (by decide +kernel) h
  simpa using this
def EQ (x:cN):Bool:=UR (zc x.op) (M9 x.op) x
theorem Ep (x:cN) (h:EA x):ak Tryz.prog pP [jk x] (.bool (EQ x)):=by
 obtain ⟨h1,h2,h3⟩:=h
 obtain ⟨t1,_,t3,_⟩:=Rn x.op
 have c:=Eq x (zc x.op) (vZ x.op) t3 (by omega)
 rw [t1,Q6 (zc x.op) (vZ x.op) (M9 x.op) x h3] at c
 exact c
section
theorem mW {x y:Im}:((x.m==y.m)&&((x.n==y.n)&&((x.k==y.k)&&((x.f==y.f)&&((x.te==y.te)&&((x.tl.mn==y.tl.mn)&&((x.tl.mx==y.tl.mx)&&((x.tl.hs==y.tl.hs)&&((x.me.mn==y.me.mn)&&((x.me.mx==y.me.mx)&&((x.me.hs==y.me.hs)&&((x.g.v==y.g.v)&&(x.g.mu==y.g.mu)))))))))))))=decide (x=y):=by
 obtain ⟨a1,a2,a3,a4,a5,⟨a6,a7,a8⟩,⟨a9,a10,a11⟩,⟨a12,a13⟩⟩:=x
 obtain ⟨b1,b2,b3,b4,b5,⟨b6,b7,b8⟩,⟨b9,b10,b11⟩,⟨b12,b13⟩⟩:=y
 rw [Bool.eq_iff_iff]
 simp only [dZ,beq_iff_eq,kw,Im.mk.injEq,Lm.mk.injEq,Gl.mk.injEq,and_assoc]
theorem C3 {x y:Lm}:((x.mn==y.mn)&&((x.mx==y.mx)&&(x.hs==y.hs)))=decide (x=y):=by
 obtain ⟨a1,a2,a3⟩:=x
 obtain ⟨b1,b2,b3⟩:=y
 rw [Bool.eq_iff_iff]
 simp only [dZ,beq_iff_eq,kw,Lm.mk.injEq,and_assoc]
theorem EG {x y:Tb}:((x.e==y.e)&&((x.l.mn==y.l.mn)&&((x.l.mx==y.l.mx)&&(x.l.hs==y.l.hs))))=decide (x=y):=by
 obtain ⟨a1,⟨a2,a3,a4⟩⟩:=x
 obtain ⟨b1,⟨b2,b3,b4⟩⟩:=y
 rw [Bool.eq_iff_iff]
 simp only [dZ,beq_iff_eq,kw,Tb.mk.injEq,Lm.mk.injEq,and_assoc]
theorem Bx {x y:Ex}:((x.n==y.n)&&((x.k==y.k)&&(x.i==y.i)))=decide (x=y):=by
 obtain ⟨a1,a2,a3⟩:=x
 obtain ⟨b1,b2,b3⟩:=y
 rw [Bool.eq_iff_iff]
 simp only [dZ,beq_iff_eq,kw,Ex.mk.injEq,and_assoc]
theorem jT {x y:Gl}:((x.v==y.v)&&(x.mu==y.mu))=decide (x=y):=by
 obtain ⟨a1,a2⟩:=x
 obtain ⟨b1,b2⟩:=y
 rw [Bool.eq_iff_iff]
 simp only [dZ,beq_iff_eq,kw,Gl.mk.injEq]
attribute [local go_sem] dn bM cm bP cI cG cz cF ce bR c_ aU
theorem dm (a b:List cN) (ha:a.length≤9223372036854775807∧∀x∈a,EA x):ak Tryz.prog Ux [.sl 9 (a.map aU),.sl 9 (b.map aU)] (.bool (decide (a=b))):=by
 refine ah (ic:=Ff.body) ap S4 rfl rfl ?_
 by_cases hl:(a.length:Int)=(b.length:Int)
 rotate_left
 ·rw [au (fun h=>hl (by rw [h]))]
  simp only [go_sem,Ff,bc hl]
  exact ae
 simp only [go_sem,Ff,ay hl]
 refine an (fun j:Nat=>⟨[(5,.int .i64 j),(0,.sl 9 (a.map aU)),(1,.sl 9 (b.map aU))],[]⟩) (fun j=>j≤a.length∧∀k,k<j→aj a k=aj b k) (fun j=>a.length - j) 0 ⟨cq _,fun k hk=>by omega⟩ (Wk.of ?_ ?_) ?_
 ·simp only [go_sem];try simp
 ·simp only [go_sem]
 rintro j ⟨hj,hx⟩
 by_cases h1:(j:Int)<(a.length:Int)
 rotate_left
 ·rw [az (ci (by omega) fun k hk=>hx k (by omega))]
  simp only [go_sem,au h1]
  exact ae
 have hj':j<a.length:=by omega
 have hjb:(j:Int)<(b.length:Int):=by omega
 have e8:=cD hj' (by omega)
 obtain ⟨ha,hs⟩:=ha
 have hX:=aX hs hj'
 clear hs
 have neq:aj a j≠aj b j→decide (a=b)=false:=fun h=>au (fun e=>h (by rw [e]))
 have cc:=In (aj a j) (aj b j) hX
 try simp only [c_,bM] at cc
 by_cases h2:aj a j=aj b j
 ·rw [az h2] at cc
  simp only [go_sem,az h1]
  refine ⟨by omega,h1,by omega,hjb,?_⟩
  refine aa (cc) ?_
  simp only [go_sem]
  refine aA (j+1) ⟨show j+1≤a.length by omega,fun k hk=>?_⟩ (show a.length - (j+1)<a.length - j by omega) (Wk.of ?_ ?_)
  ·rcases bK k j with h | h
   ·exact hx k h
   ·rw [show k=j by omega];exact h2
  ·simp only [go_sem,e8];try simp
  ·simp only [go_sem]
 ·rw [au h2] at cc
  rw [neq h2]
  simp only [go_sem,az h1]
  refine ⟨by omega,h1,by omega,hjb,?_⟩
  refine aa (cc) ?_
  simp only [go_sem]
  exact ae
theorem pc (a b:List Int) (ha:a.length≤9223372036854775807):ak Tryz.prog Us [.sl 1 (a.map dI),.sl 1 (b.map dI)] (.bool (decide (a=b))):=by
 refine ah (ic:=Fe.body) ap SQ rfl rfl ?_
 by_cases hl:(a.length:Int)=(b.length:Int)
 rotate_left
 ·rw [au (fun h=>hl (by rw [h]))]
  simp only [go_sem,Fe,bc hl]
  exact ae
 simp only [go_sem,Fe,ay hl]
 refine an (fun j:Nat=>⟨[(5,.int .i64 j),(0,.sl 1 (a.map dI)),(1,.sl 1 (b.map dI))],[]⟩) (fun j=>j≤a.length∧∀k,k<j→aj a k=aj b k) (fun j=>a.length - j) 0 ⟨cq _,fun k hk=>by omega⟩ (Wk.of ?_ ?_) ?_
 ·simp only [go_sem];try simp
 ·simp only [go_sem]
 rintro j ⟨hj,hx⟩
 by_cases h1:(j:Int)<(a.length:Int)
 rotate_left
 ·rw [az (ci (by omega) fun k hk=>hx k (by omega))]
  simp only [go_sem,au h1]
  exact ae
 have hj':j<a.length:=by omega
 have hjb:(j:Int)<(b.length:Int):=by omega
 have e8:=cD hj' (by omega)
 have neq:aj a j≠aj b j→decide (a=b)=false:=fun h=>au (fun e=>h (by rw [e]))
 by_cases h2:aj a j=aj b j
 ·simp only [go_sem,az h1,ay h2]
  refine ⟨by omega,h1,by omega,hjb,aA (j+1) ⟨show j+1≤a.length by omega,fun k hk=>?_⟩ (show a.length - (j+1)<a.length - j by omega) (Wk.of ?_ ?_)⟩
  ·rcases bK k j with h | h
   ·exact hx k h
   ·rw [show k=j by omega];exact h2
  ·simp only [go_sem,e8];try simp
  ·simp only [go_sem]
 ·rw [neq h2]
  simp only [go_sem,az h1,bc h2]
  refine ⟨by omega,h1,by omega,hjb,?_⟩
  exact ae
theorem UT (x y:Ft) (h:NY x):ak Tryz.prog Qd [.agg (dF x),.agg (dF y)] (.bool (decide (x=y))):=by
 refine ah (ic:=r7.body) ap OM rfl rfl ?_
 have d1:=pc x.ps y.ps h.1
 have d2:=pc x.rs y.rs h.2
 by_cases c1:x.ps=y.ps
 rotate_left
 ·rw [au c1] at d1
  rw [au (fun e=>c1 (by rw [e]))]
  simp only [go_sem,r7]
  refine aa (d1) ?_
  simp only [go_sem]
  exact ae
 rw [az c1] at d1
 by_cases c2:x.rs=y.rs
 rotate_left
 ·rw [au c2] at d2
  rw [au (fun e=>c2 (by rw [e]))]
  simp only [go_sem,r7]
  refine aa (d1) ?_
  simp only [go_sem]
  refine aa (d2) ?_
  simp only [go_sem]
  exact ae
 rw [az c2] at d2
 rw [az (show x=y by obtain ⟨a1,a2⟩:=x;obtain ⟨b1,b2⟩:=y;simp only at c1 c2;rw [c1,c2])]
 simp only [go_sem,r7]
 refine aa (d1) ?_
 simp only [go_sem]
 refine aa (d2) ?_
 simp only [go_sem]
 exact ae
theorem Iq (a b:List Ft) (ha:a.length≤9223372036854775807∧∀x∈a,NY x):ak Tryz.prog Up [.sl 2 (a.map dF),.sl 2 (b.map dF)] (.bool (decide (a=b))):=by
 refine ah (ic:=Fd.body) ap SM rfl rfl ?_
 by_cases hl:(a.length:Int)=(b.length:Int)
 rotate_left
 ·rw [au (fun h=>hl (by rw [h]))]
  simp only [go_sem,Fd,bc hl]
  exact ae
 simp only [go_sem,Fd,ay hl]
 refine an (fun j:Nat=>⟨[(5,.int .i64 j),(0,.sl 2 (a.map dF)),(1,.sl 2 (b.map dF))],[]⟩) (fun j=>j≤a.length∧∀k,k<j→aj a k=aj b k) (fun j=>a.length - j) 0 ⟨cq _,fun k hk=>by omega⟩ (Wk.of ?_ ?_) ?_
 ·simp only [go_sem];try simp
 ·simp only [go_sem]
 rintro j ⟨hj,hx⟩
 by_cases h1:(j:Int)<(a.length:Int)
 rotate_left
 ·rw [az (ci (by omega) fun k hk=>hx k (by omega))]
  simp only [go_sem,au h1]
  exact ae
 have hj':j<a.length:=by omega
 have hjb:(j:Int)<(b.length:Int):=by omega
 have e8:=cD hj' (by omega)
 obtain ⟨ha,hs⟩:=ha
 have hX:=aX hs hj'
 clear hs
 have neq:aj a j≠aj b j→decide (a=b)=false:=fun h=>au (fun e=>h (by rw [e]))
 have cc:=UT (aj a j) (aj b j) hX
 try simp only [c_,bM] at cc
 by_cases h2:aj a j=aj b j
 ·rw [az h2] at cc
  simp only [go_sem,az h1]
  refine ⟨by omega,h1,by omega,hjb,?_⟩
  refine aa (cc) ?_
  simp only [go_sem]
  refine aA (j+1) ⟨show j+1≤a.length by omega,fun k hk=>?_⟩ (show a.length - (j+1)<a.length - j by omega) (Wk.of ?_ ?_)
  ·rcases bK k j with h | h
   ·exact hx k h
   ·rw [show k=j by omega];exact h2
  ·simp only [go_sem,e8];try simp
  ·simp only [go_sem]
 ·rw [au h2] at cc
  rw [neq h2]
  simp only [go_sem,az h1]
  refine ⟨by omega,h1,by omega,hjb,?_⟩
  refine aa (cc) ?_
  simp only [go_sem]
  exact ae
theorem Nb (a b:List Im) (ha:a.length≤9223372036854775807):ak Tryz.prog Ug [.sl 13 (a.map dy),.sl 13 (b.map dy)] (.bool (decide (a=b))):=by
 refine ah (ic:=E9.body) ap SD rfl rfl ?_
 by_cases hl:(a.length:Int)=(b.length:Int)
 rotate_left
 ·rw [au (fun h=>hl (by rw [h]))]
  simp only [go_sem,E9,bc hl]
  exact ae
 simp only [go_sem,E9,ay hl]
 refine an (fun j:Nat=>⟨[(5,.int .i64 j),(0,.sl 13 (a.map dy)),(1,.sl 13 (b.map dy))],[]⟩) (fun j=>j≤a.length∧∀k,k<j→aj a k=aj b k) (fun j=>a.length - j) 0 ⟨cq _,fun k hk=>by omega⟩ (Wk.of ?_ ?_) ?_
 ·simp only [go_sem];try simp
 ·simp only [go_sem]
 rintro j ⟨hj,hx⟩
 by_cases h1:(j:Int)<(a.length:Int)
 rotate_left
 ·rw [az (ci (by omega) fun k hk=>hx k (by omega))]
  simp only [go_sem,au h1]
  exact ae
 have hj':j<a.length:=by omega
 have hjb:(j:Int)<(b.length:Int):=by omega
 have e8:=cD hj' (by omega)
 have neq:aj a j≠aj b j→decide (a=b)=false:=fun h=>au (fun e=>h (by rw [e]))
 by_cases h2:aj a j=aj b j
 ·simp only [go_sem,az h1,mW,az h2,bv]
  refine ⟨by omega,h1,by omega,hjb,aA (j+1) ⟨show j+1≤a.length by omega,fun k hk=>?_⟩ (show a.length - (j+1)<a.length - j by omega) (Wk.of ?_ ?_)⟩
  ·rcases bK k j with h | h
   ·exact hx k h
   ·rw [show k=j by omega];exact h2
  ·simp only [go_sem,e8];try simp
  ·simp only [go_sem]
 ·rw [neq h2]
  simp only [go_sem,az h1,mW,au h2,bA]
  refine ⟨by omega,h1,by omega,hjb,?_⟩
  exact ae
theorem Na (a b:List Ex) (ha:a.length≤9223372036854775807):ak Tryz.prog Ue [.sl 3 (a.map ei),.sl 3 (b.map ei)] (.bool (decide (a=b))):=by
 refine ah (ic:=E7.body) ap SB rfl rfl ?_
 by_cases hl:(a.length:Int)=(b.length:Int)
 rotate_left
 ·rw [au (fun h=>hl (by rw [h]))]
  simp only [go_sem,E7,bc hl]
  exact ae
 simp only [go_sem,E7,ay hl]
 refine an (fun j:Nat=>⟨[(5,.int .i64 j),(0,.sl 3 (a.map ei)),(1,.sl 3 (b.map ei))],[]⟩) (fun j=>j≤a.length∧∀k,k<j→aj a k=aj b k) (fun j=>a.length - j) 0 ⟨cq _,fun k hk=>by omega⟩ (Wk.of ?_ ?_) ?_
 ·simp only [go_sem];try simp
 ·simp only [go_sem]
 rintro j ⟨hj,hx⟩
 by_cases h1:(j:Int)<(a.length:Int)
 rotate_left
 ·rw [az (ci (by omega) fun k hk=>hx k (by omega))]
  simp only [go_sem,au h1]
  exact ae
 have hj':j<a.length:=by omega
 have hjb:(j:Int)<(b.length:Int):=by omega
 have e8:=cD hj' (by omega)
 have neq:aj a j≠aj b j→decide (a=b)=false:=fun h=>au (fun e=>h (by rw [e]))
 by_cases h2:aj a j=aj b j
 ·simp only [go_sem,az h1,Bx,az h2,bv]
  refine ⟨by omega,h1,by omega,hjb,aA (j+1) ⟨show j+1≤a.length by omega,fun k hk=>?_⟩ (show a.length - (j+1)<a.length - j by omega) (Wk.of ?_ ?_)⟩
  ·rcases bK k j with h | h
   ·exact hx k h
   ·rw [show k=j by omega];exact h2
  ·simp only [go_sem,e8];try simp
  ·simp only [go_sem]
 ·rw [neq h2]
  simp only [go_sem,az h1,Bx,au h2,bA]
  refine ⟨by omega,h1,by omega,hjb,?_⟩
  exact ae
end
section
theorem EO {x y:List UInt8} (h:x=y):(x==y)=true:=by simpa using h
theorem Ja {x y:List UInt8} (h:¬x=y):(x==y)=false:=by simpa using h
attribute [local go_sem] dn bM cm bP cI cG cz cF ce bR aU
theorem Ig (a b:List Cd) (ha:a.length≤9223372036854775807∧∀x∈a,yS x):ak Tryz.prog Um [.sl 3 (a.map dK),.sl 3 (b.map dK)] (.bool (decide (a=b))):=by
 refine ah (ic:=Fc.body) ap SK rfl rfl ?_
 by_cases hl:(a.length:Int)=(b.length:Int)
 rotate_left
 ·rw [au (fun h=>hl (by rw [h]))]
  simp only [go_sem,Fc,bc hl]
  exact ae
 simp only [go_sem,Fc,ay hl]
 refine an (fun j:Nat=>⟨[(5,.int .i64 j),(0,.sl 3 (a.map dK)),(1,.sl 3 (b.map dK))],[]⟩) (fun j=>j≤a.length∧∀k,k<j→aj a k=aj b k) (fun j=>a.length - j) 0 ⟨cq _,fun k hk=>by omega⟩ (Wk.of ?_ ?_) ?_
 ·simp only [go_sem];try simp
 ·simp only [go_sem]
 rintro j ⟨hj,hx⟩
 by_cases h1:(j:Int)<(a.length:Int)
 rotate_left
 ·rw [az (ci (by omega) fun k hk=>hx k (by omega))]
  simp only [go_sem,au h1]
  exact ae
 have hj':j<a.length:=by omega
 have hjb:(j:Int)<(b.length:Int):=by omega
 have e8:=cD hj' (by omega)
 obtain ⟨ha,hs⟩:=ha
 have hX:=aX hs hj'
 clear hs
 have neq:aj a j≠aj b j→decide (a=b)=false:=fun h=>au (fun e=>h (by rw [e]))
 by_cases c1:(aj a j).t=(aj b j).t
 rotate_left
 ·rw [neq (fun e=>c1 (by rw [e]))]
  simp only [go_sem,az h1,bc c1]
  refine ⟨by omega,h1,by omega,hjb,?_⟩
  exact ae
 by_cases c2:(aj a j).lo=(aj b j).lo
 rotate_left
 ·rw [neq (fun e=>c2 (by rw [e]))]
  simp only [go_sem,az h1,ay c1]
  refine ⟨by omega,h1,by omega,hjb,?_⟩
  refine ⟨by omega,h1,by omega,hjb,?_⟩
  have cc1:=pc (aj a j).lo (aj b j).lo hX.1
  rw [au c2] at cc1
  refine aa (cc1) ?_
  simp only [go_sem,az h1,ay c1]
  exact ae
 by_cases c3:(aj a j).b=(aj b j).b
 rotate_left
 ·rw [neq (fun e=>c3 (by rw [e]))]
  simp only [go_sem,az h1,ay c1]
  refine ⟨by omega,h1,by omega,hjb,?_⟩
  refine ⟨by omega,h1,by omega,hjb,?_⟩
  have cc1:=pc (aj a j).lo (aj b j).lo hX.1
  rw [az c2] at cc1
  refine aa (cc1) ?_
  simp only [go_sem,az h1,ay c1]
  refine ⟨by omega,h1,by omega,hjb,?_⟩
  have cc2:=dm (aj a j).b (aj b j).b hX.2
  rw [au c3] at cc2
  refine aa (cc2) ?_
  simp only [go_sem,az h1,ay c1]
  exact ae
 have h2:aj a j=aj b j:=by
  generalize aj a j=X at *
  generalize aj b j=Y at *
  obtain ⟨x0,x1,x2⟩:=X
  obtain ⟨y0,y1,y2⟩:=Y
  simp only at c1 c2 c3
  simp only [c1,c2,c3]
 simp only [go_sem,az h1,ay c1]
 refine ⟨by omega,h1,by omega,hjb,?_⟩
 refine ⟨by omega,h1,by omega,hjb,?_⟩
 have cc1:=pc (aj a j).lo (aj b j).lo hX.1
 rw [az c2] at cc1
 refine aa (cc1) ?_
 simp only [go_sem,az h1,ay c1]
 refine ⟨by omega,h1,by omega,hjb,?_⟩
 have cc2:=dm (aj a j).b (aj b j).b hX.2
 rw [az c3] at cc2
 refine aa (cc2) ?_
 simp only [go_sem,az h1,ay c1]
 refine aA (j+1) ⟨show j+1≤a.length by omega,fun k hk=>?_⟩ (show a.length - (j+1)<a.length - j by omega) (Wk.of ?_ ?_)
 ·rcases bK k j with h | h
  ·exact hx k h
  ·rw [show k=j by omega];exact h2
 ·simp only [go_sem,e8];try simp
 ·simp only [go_sem]
theorem Ik (a b:List Gd) (ha:a.length≤9223372036854775807∧∀x∈a,IP x):ak Tryz.prog Uf [.sl 3 (a.map ej),.sl 3 (b.map ej)] (.bool (decide (a=b))):=by
 refine ah (ic:=E8.body) ap SC rfl rfl ?_
 by_cases hl:(a.length:Int)=(b.length:Int)
 rotate_left
 ·rw [au (fun h=>hl (by rw [h]))]
  simp only [go_sem,E8,bc hl]
  exact ae
 simp only [go_sem,E8,ay hl]
 refine an (fun j:Nat=>⟨[(5,.int .i64 j),(0,.sl 3 (a.map ej)),(1,.sl 3 (b.map ej))],[]⟩) (fun j=>j≤a.length∧∀k,k<j→aj a k=aj b k) (fun j=>a.length - j) 0 ⟨cq _,fun k hk=>by omega⟩ (Wk.of ?_ ?_) ?_
 ·simp only [go_sem];try simp
 ·simp only [go_sem]
 rintro j ⟨hj,hx⟩
 by_cases h1:(j:Int)<(a.length:Int)
 rotate_left
 ·rw [az (ci (by omega) fun k hk=>hx k (by omega))]
  simp only [go_sem,au h1]
  exact ae
 have hj':j<a.length:=by omega
 have hjb:(j:Int)<(b.length:Int):=by omega
 have e8:=cD hj' (by omega)
 obtain ⟨ha,hs⟩:=ha
 have hX:=aX hs hj'
 clear hs
 have neq:aj a j≠aj b j→decide (a=b)=false:=fun h=>au (fun e=>h (by rw [e]))
 by_cases c1:(aj a j).g=(aj b j).g
 rotate_left
 ·rw [neq (fun e=>c1 (by rw [e]))]
  simp only [go_sem,az h1,jT,au c1,bv,bA]
  refine ⟨by omega,h1,by omega,hjb,?_⟩
  exact ae
 by_cases c2:(aj a j).i=(aj b j).i
 rotate_left
 ·rw [neq (fun e=>c2 (by rw [e]))]
  simp only [go_sem,az h1,jT,az c1,bv,bA]
  refine ⟨by omega,h1,by omega,hjb,?_⟩
  refine ⟨by omega,h1,by omega,hjb,?_⟩
  have cc1:=dm (aj a j).i (aj b j).i hX
  rw [au c2] at cc1
  refine aa (cc1) ?_
  simp only [go_sem,az h1,jT,az c1,bv,bA]
  exact ae
 have h2:aj a j=aj b j:=by
  generalize aj a j=X at *
  generalize aj b j=Y at *
  obtain ⟨x0,x1⟩:=X
  obtain ⟨y0,y1⟩:=Y
  simp only at c1 c2
  simp only [c1,c2]
 simp only [go_sem,az h1,jT,az c1,bv,bA]
 refine ⟨by omega,h1,by omega,hjb,?_⟩
 refine ⟨by omega,h1,by omega,hjb,?_⟩
 have cc1:=dm (aj a j).i (aj b j).i hX
 rw [az c2] at cc1
 refine aa (cc1) ?_
 simp only [go_sem,az h1,jT,az c1,bv,bA]
 refine aA (j+1) ⟨show j+1≤a.length by omega,fun k hk=>?_⟩ (show a.length - (j+1)<a.length - j by omega) (Wk.of ?_ ?_)
 ·rcases bK k j with h | h
  ·exact hx k h
  ·rw [show k=j by omega];exact h2
 ·simp only [go_sem,e8];try simp
 ·simp only [go_sem]
theorem Ii (a b:List Cu) (ha:a.length≤9223372036854775807):ak Tryz.prog Ud [.sl 3 (a.map eB),.sl 3 (b.map eB)] (.bool (decide (a=b))):=by
 refine ah (ic:=E6.body) ap SA rfl rfl ?_
 by_cases hl:(a.length:Int)=(b.length:Int)
 rotate_left
 ·rw [au (fun h=>hl (by rw [h]))]
  simp only [go_sem,E6,bc hl]
  exact ae
 simp only [go_sem,E6,ay hl]
 refine an (fun j:Nat=>⟨[(5,.int .i64 j),(0,.sl 3 (a.map eB)),(1,.sl 3 (b.map eB))],[]⟩) (fun j=>j≤a.length∧∀k,k<j→aj a k=aj b k) (fun j=>a.length - j) 0 ⟨cq _,fun k hk=>by omega⟩ (Wk.of ?_ ?_) ?_
 ·simp only [go_sem];try simp
 ·simp only [go_sem]
 rintro j ⟨hj,hx⟩
 by_cases h1:(j:Int)<(a.length:Int)
 rotate_left
 ·rw [az (ci (by omega) fun k hk=>hx k (by omega))]
  simp only [go_sem,au h1]
  exact ae
 have hj':j<a.length:=by omega
 have hjb:(j:Int)<(b.length:Int):=by omega
 have e8:=cD hj' (by omega)
 have neq:aj a j≠aj b j→decide (a=b)=false:=fun h=>au (fun e=>h (by rw [e]))
 by_cases c1:(aj a j).af=(aj b j).af
 rotate_left
 ·rw [neq (fun e=>c1 (by rw [e]))]
  simp only [go_sem,az h1,bc c1]
  refine ⟨by omega,h1,by omega,hjb,?_⟩
  exact ae
 by_cases c2:(aj a j).n=(aj b j).n
 rotate_left
 ·rw [neq (fun e=>c2 (by rw [e]))]
  simp only [go_sem,az h1,ay c1,Ja c2,bv,bA]
  refine ⟨by omega,h1,by omega,hjb,?_⟩
  refine ⟨by omega,h1,by omega,hjb,?_⟩
  exact ae
 by_cases c3:(aj a j).b=(aj b j).b
 rotate_left
 ·rw [neq (fun e=>c3 (by rw [e]))]
  simp only [go_sem,az h1,ay c1,EO c2,bv,bA,dg,cK,Ja c3,bv,bA]
  refine ⟨by omega,h1,by omega,hjb,?_⟩
  refine ⟨by omega,h1,by omega,hjb,?_⟩
  refine ⟨by omega,h1,by omega,hjb,?_⟩
  exact ae
 have h2:aj a j=aj b j:=by
  generalize aj a j=X at *
  generalize aj b j=Y at *
  obtain ⟨x0,x1,x2⟩:=X
  obtain ⟨y0,y1,y2⟩:=Y
  simp only at c1 c2 c3
  simp only [c1,c2,c3]
 simp only [go_sem,az h1,ay c1,EO c2,bv,bA,dg,cK,EO c3,bv,bA]
 refine ⟨by omega,h1,by omega,hjb,?_⟩
 refine ⟨by omega,h1,by omega,hjb,?_⟩
 refine ⟨by omega,h1,by omega,hjb,?_⟩
 refine aA (j+1) ⟨show j+1≤a.length by omega,fun k hk=>?_⟩ (show a.length - (j+1)<a.length - j by omega) (Wk.of ?_ ?_)
 ·rcases bK k j with h | h
  ·exact hx k h
  ·rw [show k=j by omega];exact h2
 ·simp only [go_sem,e8];try simp
 ·simp only [go_sem]
end
section
attribute [local go_sem] dn bM cm bP cI cG cz cF ce bR bW bN aU
theorem M_ (a b:List Da) (ha:a.length≤9223372036854775807∧∀x∈a,Ey x):ak Tryz.prog Uk [.sl 4 (a.map et),.sl 4 (b.map et)] (.bool (decide (a=b))):=by
 refine ah (ic:=E_.body) ap SI rfl rfl ?_
 by_cases hl:(a.length:Int)=(b.length:Int)
 rotate_left
 ·rw [au (fun h=>hl (by rw [h]))]
  simp only [go_sem,E_,bc hl]
  exact ae
 simp only [go_sem,E_,ay hl]
 refine an (fun j:Nat=>⟨[(5,.int .i64 j),(0,.sl 4 (a.map et)),(1,.sl 4 (b.map et))],[]⟩) (fun j=>j≤a.length∧∀k,k<j→aj a k=aj b k) (fun j=>a.length - j) 0 ⟨cq _,fun k hk=>by omega⟩ (Wk.of ?_ ?_) ?_
 ·simp only [go_sem];try simp
 ·simp only [go_sem]
 rintro j ⟨hj,hx⟩
 by_cases h1:(j:Int)<(a.length:Int)
 rotate_left
 ·rw [az (ci (by omega) fun k hk=>hx k (by omega))]
  simp only [go_sem,au h1]
  exact ae
 have hj':j<a.length:=by omega
 have hjb:(j:Int)<(b.length:Int):=by omega
 have e8:=cD hj' (by omega)
 obtain ⟨ha,hs⟩:=ha
 have hX:=aX hs hj'
 clear hs
 have neq:aj a j≠aj b j→decide (a=b)=false:=fun h=>au (fun e=>h (by rw [e]))
 by_cases c1:(aj a j).mo=(aj b j).mo
 rotate_left
 ·rw [neq (fun e=>c1 (by rw [e]))]
  simp only [go_sem,az h1,bc c1]
  refine ⟨by omega,h1,by omega,hjb,?_⟩
  exact ae
 by_cases c2:(aj a j).me=(aj b j).me
 rotate_left
 ·rw [neq (fun e=>c2 (by rw [e]))]
  simp only [go_sem,az h1,ay c1,bc c2]
  refine ⟨by omega,h1,by omega,hjb,?_⟩
  exact ae
 by_cases c3:(aj a j).o=(aj b j).o
 rotate_left
 ·rw [neq (fun e=>c3 (by rw [e]))]
  simp only [go_sem,az h1,ay c1,ay c2]
  refine ⟨by omega,h1,by omega,hjb,?_⟩
  have cc2:=dm (aj a j).o (aj b j).o hX.1
  rw [au c3] at cc2
  refine aa (cc2) ?_
  simp only [go_sem,az h1,ay c1,ay c2]
  exact ae
 by_cases c4:(aj a j).b=(aj b j).b
 rotate_left
 ·rw [neq (fun e=>c4 (by rw [e]))]
  simp only [go_sem,az h1,ay c1,ay c2,dg,cK,Ja c4,bv,bA]
  refine ⟨by omega,h1,by omega,hjb,?_⟩
  have cc2:=dm (aj a j).o (aj b j).o hX.1
  rw [az c3] at cc2
  refine aa (cc2) ?_
  simp only [go_sem,az h1,ay c1,ay c2,dg,cK,Ja c4,bv,bA]
  exact ae
 have h2:aj a j=aj b j:=by
  generalize aj a j=X at *
  generalize aj b j=Y at *
  obtain ⟨x0,x1,x2,x3⟩:=X
  obtain ⟨y0,y1,y2,y3⟩:=Y
  simp only at c1 c2 c3 c4
  simp only [c1,c2,c3,c4]
 simp only [go_sem,az h1,ay c1,ay c2,dg,cK,EO c4,bv,bA]
 refine ⟨by omega,h1,by omega,hjb,?_⟩
 have cc2:=dm (aj a j).o (aj b j).o hX.1
 rw [az c3] at cc2
 refine aa (cc2) ?_
 simp only [go_sem,az h1,ay c1,ay c2,dg,cK,EO c4,bv,bA]
 refine aA (j+1) ⟨show j+1≤a.length by omega,fun k hk=>?_⟩ (show a.length - (j+1)<a.length - j by omega) (Wk.of ?_ ?_)
 ·rcases bK k j with h | h
  ·exact hx k h
  ·rw [show k=j by omega];exact h2
 ·simp only [go_sem,e8];try simp
 ·simp only [go_sem]
theorem Ij (a b:List El) (ha:a.length≤9223372036854775807∧∀x∈a,Ez x):ak Tryz.prog Ul [.sl 5 (a.map dL),.sl 5 (b.map dL)] (.bool (decide (a=b))):=by
 refine ah (ic:=Fb.body) ap SJ rfl rfl ?_
 by_cases hl:(a.length:Int)=(b.length:Int)
 rotate_left
 ·rw [au (fun h=>hl (by rw [h]))]
  simp only [go_sem,Fb,bc hl]
  exact ae
 simp only [go_sem,Fb,ay hl]
 refine an (fun j:Nat=>⟨[(5,.int .i64 j),(0,.sl 5 (a.map dL)),(1,.sl 5 (b.map dL))],[]⟩) (fun j=>j≤a.length∧∀k,k<j→aj a k=aj b k) (fun j=>a.length - j) 0 ⟨cq _,fun k hk=>by omega⟩ (Wk.of ?_ ?_) ?_
 ·simp only [go_sem];try simp
 ·simp only [go_sem]
 rintro j ⟨hj,hx⟩
 by_cases h1:(j:Int)<(a.length:Int)
 rotate_left
 ·rw [az (ci (by omega) fun k hk=>hx k (by omega))]
  simp only [go_sem,au h1]
  exact ae
 have hj':j<a.length:=by omega
 have hjb:(j:Int)<(b.length:Int):=by omega
 have e8:=cD hj' (by omega)
 obtain ⟨ha,hs⟩:=ha
 have hX:=aX hs hj'
 clear hs
 have neq:aj a j≠aj b j→decide (a=b)=false:=fun h=>au (fun e=>h (by rw [e]))
 by_cases c1:(aj a j).mo=(aj b j).mo
 rotate_left
 ·rw [neq (fun e=>c1 (by rw [e]))]
  simp only [go_sem,az h1,bc c1]
  refine ⟨by omega,h1,by omega,hjb,?_⟩
  exact ae
 by_cases c2:(aj a j).tb=(aj b j).tb
 rotate_left
 ·rw [neq (fun e=>c2 (by rw [e]))]
  simp only [go_sem,az h1,ay c1,bc c2]
  refine ⟨by omega,h1,by omega,hjb,?_⟩
  exact ae
 by_cases c3:(aj a j).ty=(aj b j).ty
 rotate_left
 ·rw [neq (fun e=>c3 (by rw [e]))]
  simp only [go_sem,az h1,ay c1,ay c2,bc c3]
  refine ⟨by omega,h1,by omega,hjb,?_⟩
  exact ae
 by_cases c4:(aj a j).o=(aj b j).o
 rotate_left
 ·rw [neq (fun e=>c4 (by rw [e]))]
  simp only [go_sem,az h1,ay c1,ay c2,ay c3]
  refine ⟨by omega,h1,by omega,hjb,?_⟩
  have cc3:=dm (aj a j).o (aj b j).o hX.1
  rw [au c4] at cc3
  refine aa (cc3) ?_
  simp only [go_sem,az h1,ay c1,ay c2,ay c3]
  exact ae
 by_cases c5:((aj a j).it.length:Int)=((aj b j).it.length:Int)
 rotate_left
 ·rw [neq (fun e=>c5 (by rw [e]))]
  simp only [go_sem,az h1,ay c1,ay c2,ay c3,bc c5]
  refine ⟨by omega,h1,by omega,hjb,?_⟩
  have cc3:=dm (aj a j).o (aj b j).o hX.1
  rw [az c4] at cc3
  refine aa (cc3) ?_
  simp only [go_sem,az h1,ay c1,ay c2,ay c3,bc c5]
  exact ae
 simp only [go_sem,az h1,ay c1,ay c2,ay c3,ay c5]
 refine ⟨by omega,h1,by omega,hjb,?_⟩
 have cc3:=dm (aj a j).o (aj b j).o hX.1
 rw [az c4] at cc3
 refine aa (cc3) ?_
 simp only [go_sem,az h1,ay c1,ay c2,ay c3,ay c5]
 have hi3:=hX.2.2
 have hi2:=hX.2.1
 refine an (fun q:Nat=>⟨[(8,.int .i64 q),(6,.mp 6 5 0 0),(7,.mp 7 5 0 0),(5,.int .i64 j),(0,.sl 5 (a.map dL)),(1,.sl 5 (b.map dL))],[(6,⟨66,5,[[.int .i64 (aj a j).mo,.int .i64 (aj a j).tb,.sl 9 ((aj a j).o.map aU),.int .i64 (aj a j).ty,.sl 1 ((aj a j).it.map cU)]],true⟩),(7,⟨66,5,[[.int .i64 (aj b j).mo,.int .i64 (aj b j).tb,.sl 9 ((aj b j).o.map aU),.int .i64 (aj b j).ty,.sl 1 ((aj b j).it.map cU)]],true⟩)]⟩) (fun q=>q≤(aj a j).it.length∧∀k,k<q→aj (aj a j).it k=aj (aj b j).it k) (fun q=>(aj a j).it.length - q) 0 ⟨cq _,fun k hk=>by omega⟩ (Wk.of ?_ ?_) ?_
 ·simp only [go_sem];try simp
 ·simp only [go_sem]
 rintro q ⟨hq,hy⟩
 by_cases q1:(q:Int)<((aj a j).it.length:Int)
 ·have hq':q<(aj a j).it.length:=by omega
  have hqb:(q:Int)<((aj b j).it.length:Int):=by omega
  have e9:=cD hq' (by omega)
  have hL:=aX hi3 hq'
  have cd:=dm (aj (aj a j).it q) (aj (aj b j).it q) hL
  by_cases q2:aj (aj a j).it q=aj (aj b j).it q
  ·rw [az q2] at cd
   simp only [go_sem,az q1]
   refine ⟨by omega,q1,by omega,hqb,?_⟩
   refine aa (cd) ?_
   simp only [go_sem]
   refine aA (q+1) ⟨show q+1≤(aj a j).it.length by omega,fun k hk=>?_⟩ (show (aj a j).it.length - (q+1)<(aj a j).it.length - q by omega) (Wk.of ?_ ?_)
   ·rcases bK k q with h | h
    ·exact hy k h
    ·rw [show k=q by omega];exact q2
   ·simp only [go_sem,e9];try simp
   ·simp only [go_sem]
  ·rw [au q2] at cd
   rw [neq (fun e=>q2 (by rw [e]))]
   simp only [go_sem,az q1]
   refine ⟨by omega,q1,by omega,hqb,?_⟩
   refine aa (cd) ?_
   simp only [go_sem]
   exact ae
 have c6:(aj a j).it=(aj b j).it:=ci (by omega) fun k hk=>hy k (by omega)
 have h2:aj a j=aj b j:=by
  generalize aj a j=X at *
  generalize aj b j=Y at *
  obtain ⟨x1,x2,x3,x4,x5⟩:=X
  obtain ⟨y1,y2,y3,y4,y5⟩:=Y
  simp only at c1 c2 c3 c4 c6
  simp only [c1,c2,c3,c4,c6]
 simp only [go_sem,au q1]
 refine aA (j+1) ⟨show j+1≤a.length by omega,fun k hk=>?_⟩ (show a.length - (j+1)<a.length - j by omega) (Wk.of ?_ ?_)
 ·rcases bK k j with h | h
  ·exact hx k h
  ·rw [show k=j by omega];exact h2
 ·simp only [go_sem,e8];try simp
 ·simp only [go_sem]
end
section
def RG (t:Int):Bool:=(t==1)||(t==2)
def JA (t:Int):Bool:=(t==3)||(t==4)
def r5 (t:Int):Bool:=RG t||JA t
def NV (l:Lm) (most:Int):Bool:=if l.mn<0∨l.mn>most then false else if l.hs=false then l.mx==0 else decide (l.mn≤l.mx)&&decide (l.mx≤most)
def lk (l:List Int):Bool:=l.all r5
def wj (s:List UInt8):Int:=if s.length>64 then 6 else if uv s=false then 9 else 0
def Pu (x:Ft):Int:=if x.ps.length>8∨x.rs.length>8 then 6 else if lk x.ps=false∨lk x.rs=false then 12 else 0
def NZ (x:Tb):Int:=if JA x.e=false then 12 else if NV x.l 1024=false then 20 else 0
def NW (l:Lm):Int:=if NV l 256=false then 20 else 0
def NR (g:Gl):Int:=if r5 g.v=false then 12 else 0
def u_ (P:cN→Bool):Nat→List cN→Int×Int
 | _,[]=>(0,0)
 | i,x :: r=>if P x=false then ((i:Int),10) else if x.lb.length>64 then ((i:Int),6) else u_ P (i+1) r
def i0 (P:cN→Bool) (l:List cN):Int×Int:=if l.length>2048 then (2048,6) else u_ P 0 l
attribute [local go_sem] dn bM cG cI
theorem PX (t:Int):ak Tryz.prog Qp [.int .i64 t] (.bool (RG t)):=by
 refine ah (ic:=vD.body) ap O0 rfl rfl ?_
 unfold RG
 cases h:(t==1)
 ·simp only [go_sem,vD,h]
  exact aL [] (by simp only [go_sem,rV]) (by first | rfl | simp [go_sem,b_])
 ·simp only [go_sem,vD,h]
  exact aL [] (by simp only [go_sem,rX]) (by first | rfl | simp [go_sem,b_])
theorem Dk (t:Int):ak Tryz.prog Qq [.int .i64 t] (.bool (JA t)):=by
 refine ah (ic:=vE.body) ap O1 rfl rfl ?_
 unfold JA
 cases h:(t==3)
 ·simp only [go_sem,vE,h]
  exact aL [] (by simp only [go_sem,rV]) (by first | rfl | simp [go_sem,b_])
 ·simp only [go_sem,vE,h]
  exact aL [] (by simp only [go_sem,rX]) (by first | rfl | simp [go_sem,b_])
theorem Jn (t:Int):ak Tryz.prog Qr [.int .i64 t] (.bool (r5 t)):=by
 refine ah (ic:=zx.body) ap O2 rfl rfl ?_
 have c1:=PX t
 have c2:=Dk t
 unfold r5
 simp only [go_sem,zx]
 refine aa (c1) ?_
 cases RG t
 ·simp only [go_sem]
  refine aa (c2) ?_
  simp only [go_sem]
  exact aL [] (by simp only [go_sem,rV]) (by first | rfl | simp [go_sem,b_])
 ·simp only [go_sem]
  exact aL [] (by simp only [go_sem,rX]) (by first | rfl | simp [go_sem,b_])
theorem HP (t:Int):ak Tryz.prog s6 [.int .i64 t] (.bool (!r5 t)):=by
 refine ah (ic:=zi.body) ap Oz rfl rfl ?_
 simp only [go_sem,zi]
 refine aa (Jn t) ?_
 simp only [go_sem]
 exact ae
theorem PW (l:List Int) (hl:l.length≤9223372036854775807):∃r:Int,ak Tryz.prog Vx [.sl 1 (l.map dI),.fn s6 []] (.int .i64 r)∧(lk l=true→r = -1)∧(lk l=false→0≤r):=by
 have key:∀r:Int,(∀i:Nat,i≤l.length→(∀k,k<i→r5 (aj l k)=true)→(i<l.length→r5 (aj l i)=false→r=i)∧(i=l.length→r = -1))→ak Tryz.prog Vx [.sl 1 (l.map dI),.fn s6 []] (.int .i64 r):=fun r hr=>by
  refine ah (ic:=RU.body) ap VH rfl rfl ?_
  simp only [go_sem,RU]
  refine an (fun j:Nat=>⟨[(8,.int .i64 j),(7,.int .i64 l.length),(0,.sl 1 (l.map dI)),(1,.fn s6 [])],[]⟩) (fun j=>j≤l.length∧∀k,k<j→r5 (aj l k)=true) (fun j=>l.length - j) 0 ⟨cq _,fun k hk=>by omega⟩ (Wk.of ?_ ?_) ?_
  ·simp only [go_sem];try simp
  ·simp only [go_sem]
  rintro j ⟨hj,hx⟩
  obtain ⟨r1,r2⟩:=hr j hj hx
  by_cases h1:(j:Int)<(l.length:Int)
  ·have hj':j<l.length:=by omega
   have e8:=cD hj' (by omega)
   have cc:=HP (aj l j)
   cases hb:r5 (aj l j)
   ·rw [hb] at cc
    rw [r1 hj' hb]
    simp only [go_sem,az h1]
    refine ⟨by omega,h1,?_⟩
    refine ⟨by kernel_rfl,?_⟩
    refine aa (cc) ?_
    simp only [go_sem]
    exact ae
   ·rw [hb] at cc
    simp only [go_sem,az h1]
    refine ⟨by omega,h1,?_⟩
    refine ⟨by kernel_rfl,?_⟩
    refine aa (cc) ?_
    simp only [go_sem]
    refine aA (j+1) ⟨show j+1≤l.length by omega,fun k hk=>?_⟩ (show l.length - (j+1)<l.length - j by omega) (Wk.of ?_ ?_)
    ·rcases bK k j with h | h
     ·exact hx k h
     ·rw [show k=j by omega];exact hb
    ·simp only [go_sem,e8];try simp
    ·simp only [go_sem]
  ·rw [r2 (by omega)]
   simp only [go_sem,au h1]
   exact ae
 have Tw:(∀k,k<l.length→r5 (aj l k)=true)∨∃j,j<l.length∧r5 (aj l j)=false∧∀k,k<j→r5 (aj l k)=true:=by
  have aux:∀n,n≤l.length→(∀k,k<n→r5 (aj l k)=true)∨∃j,j<l.length∧r5 (aj l j)=false∧∀k,k<j→r5 (aj l k)=true:=fun n=>by
   induction n with
   | zero=>exact fun _=>.inl fun k hk=>by omega
   | succ n ih =>
    intro hn
    rcases ih (by omega) with h | h
    ·cases hb:r5 (aj l n)
     ·exact .inr ⟨n,by omega,hb,h⟩
     ·refine .inl fun k hk=>?_
      rcases bK k n with q | q
      ·exact h k q
      ·rw [show k=n by omega];exact hb
    ·exact .inr h
  exact aux l.length (bD _)
 have all_t:(∀k,k<l.length→r5 (aj l k)=true)→lk l=true:=fun h=>by
  unfold lk
  rw [cZ]
  intro x hx
  obtain ⟨i,hi,rfl⟩:=List.getElem_of_mem hx
  have:=h i hi
  rwa [cw hi] at this
 rcases Tw with h | ⟨j,hj,hb,h⟩
 ·refine ⟨-1,key (-1) fun i hi hk=>⟨fun q qb=>?_,fun _=>rfl⟩,fun _=>rfl,fun q=>?_⟩
  ·rw [h i q] at qb;cases qb
  ·rw [all_t h] at q;cases q
 ·refine ⟨(j:Int),key (j:Int) fun i hi hk=>⟨fun q qb=>?_,fun q=>?_⟩,fun q=>?_,fun _=>by omega⟩
  ·rcases bK i j with z | z
   ·rw [h i z] at qb;cases qb
   ·rcases bK j i with z2 | z2
    ·rw [hk j z2] at hb;cases hb
    ·rw [show i=j by omega]
  ·rw [hk j (by omega)] at hb;cases hb
  ·unfold lk at q
   rw [cZ] at q
   have:=q _ (List.getElem_mem hj)
   rw [cw hj] at hb
   rw [hb] at this;cases this
theorem Mj (l:List Int) (hl:l.length≤9223372036854775807):ak Tryz.prog VV [.sl 1 (l.map dI),.fn s6 []] (.bool (!lk l)):=by
 obtain ⟨r,hr,h1,h2⟩:=PW l hl
 refine ah (ic:=Rt.body) ap VG rfl rfl ?_
 cases hb:lk l
 ·simp only [go_sem,Rt]
  refine aa (hr) ?_
  simp only [go_sem,az (show r≥0 from h2 hb)]
  exact aL [] (by simp only [go_sem,bA]) (by first | rfl | simp [go_sem,b_])
 ·simp only [go_sem,Rt]
  refine aa (hr) ?_
  simp only [go_sem,au (show ¬r≥0 by rw [h1 hb];decide)]
  exact aL [] (by simp only [go_sem,bv]) (by first | rfl | simp [go_sem,b_])
theorem rA (l:List Int) (hl:l.length≤9223372036854775807):ak Tryz.prog Ql [.sl 1 (l.map dI)] (.bool (lk l)):=by
 refine ah (ic:=zw.body) ap OX rfl rfl ?_
 simp only [go_sem,zw]
 refine aa (Mj l hl) ?_
 simp only [go_sem,Bool.not_not]
 exact ae
theorem jB (i:Int):ak Tryz.prog Qa [.int .i64 i] (.bool (tV i)):=by
 refine ah (ic:=vA.body) ap OI rfl rfl ?_
 unfold tV
 by_cases h:(0:Int)≤i
 ·simp only [go_sem,vA,az (show i≥0 from h)]
  exact aL [] (by simp only [go_sem,az h,jv]) (by first | rfl | simp [go_sem,b_])
 ·simp only [go_sem,vA,au (show ¬i≥0 from h)]
  exact aL [] (by simp only [go_sem,au h,lr]) (by first | rfl | simp [go_sem,b_])
theorem PU (x:Ft) (h:NY x):ak Tryz.prog Uu [.agg (dF x)] (.int .i64 (Pu x)):=by
 refine ah (ic:=zK.body) ap S1 rfl rfl ?_
 have c1:=rA x.ps (by have:=h.1;omega)
 have c2:=rA x.rs (by have:=h.2;omega)
 unfold Pu
 by_cases q1:(x.ps.length:Int)>8
 ·rw [bz (.inl (by omega))]
  simp only [go_sem,zK,az q1]
  exact ae
 by_cases q2:(x.rs.length:Int)>8
 ·rw [bz (.inr (by omega))]
  simp only [go_sem,zK,au q1,az q2]
  exact ae
 rw [aJ (by omega)]
 simp only [go_sem,zK,au q1,au q2]
 refine aa (c1) ?_
 cases lk x.ps
 ·simp only [go_sem]
  exact aL [] (by simp only [go_sem];try rfl) (by rfl)
 simp only [go_sem]
 refine aa (c2) ?_
 cases lk x.rs
 ·simp only [go_sem]
  exact aL [] (by simp only [go_sem];try rfl) (by rfl)
 ·simp only [go_sem]
  exact aL [] (by simp only [go_sem];try rfl) (by rfl)
end
section
structure Fa where
 p:Int
 i:Int
 l:Int
 c:Int
def ck (F:Fa):ac:=⟨133,4,[[.int .i64 F.p,.int .i64 F.i,.int .i64 F.l,.int .i64 F.c]],true⟩
def kH (F:Fa) (p i l e:Int):Fa:=if F.c=0∧e≠0 then ⟨p,i,l,e⟩ else F
def CM (f:FuncId) (rest:List AV) (F F':Fa):Prop:=aE Tryz.prog f (.mp 1000 4 0 0 :: rest) [(1000,ck F)] (fun id=>1000≤id∧id<1267650600228229401496703205376) (fun r' σ'=>r' = .tup []∧σ'=[(1000,ck F')])
attribute [local go_sem] dn ck bM cm bP cI cG cz cF ce bR bW bN aU
theorem uR (F:Fa) (p i l e:Int):CM Mu [.int .i64 p,.int .i64 i,.int .i64 l,.int .i64 e] F (kH F p i l e):=by
 refine aP (ic:=zI.body) ap SE rfl rfl ?_
 unfold kH
 by_cases h1:F.c=0
 ·by_cases h2:e=0
  ·rw [aJ (by simp [h2])]
   simp only [go_sem,zI,aV h1,ay h2]
   exact vN [] _ [(1000,ck F)] ⟨rfl,rfl⟩
  ·rw [bz ⟨h1,h2⟩]
   simp only [go_sem,zI,aV h1,bc h2]
   exact vN [] _ [(1000,ck ⟨p,i,l,e⟩)] ⟨rfl,rfl⟩
 ·rw [aJ (fun q=>h1 q.1)]
  simp only [go_sem,zI,aw h1]
  exact vN [] _ [(1000,ck F)] ⟨rfl,rfl⟩
theorem wl {α β:Type} [Inhabited α] [Inhabited β] {f:α→β} {l:List α} {i:Nat} (h:i<l.length):aj (l.map f) i=f (aj l i):=by
 rw [cw (by simpa using h),cw h,List.getElem_map]
def Ji (n:Int):Nat→List (Int×Int)→Fa→Fa
 | _,[],F=>F
 | i,r :: l,F=>if F.c≠0 then F else Ji n (i+1) l (kH F n i r.1 r.2)
def dC (n most imp:Int) (res:List (Int×Int)) (F:Fa):Fa :=
 Ji n 0 res (if IntKind.i64.wrap ((res.length:Int)+imp)>most then kH F n (if 0<IntKind.i64.wrap (most - imp) then IntKind.i64.wrap (most - imp) else 0) 0 6 else F)
theorem Ly {n:Int} {l:List (Int×Int)} {i:Nat} (h:i<l.length) (F:Fa) (hF:F.c=0):Ji n i (l.drop i) F=Ji n (i+1) (l.drop (i+1)) (kH F n i (aj l i).1 (aj l i).2):=by
 rw [q_ h,Ji,aJ (by simp [hF])]
theorem Lz {n:Int} {l:List (Int×Int)} {i:Nat} (F:Fa) (hF:F.c≠0):Ji n i l F=F:=by
 cases l with
 | nil=>rfl
 | cons r l=>rw [Ji,bz hF]
theorem PC {f:FuncId} (h:aY Tryz.prog f=true):f<4000000:=ca (by kernel_rfl) h
def RJ (t st:Nat) (z:List AV):aK :=
 (.seq (.seq (.reg [mv 16 2,
 o0 17 (.len (.s 16)),
 mv 18 4,
 o0 19 (.bin .add (.s 17) (.s 18)),
 mv 20 3,
 o0 21 (.bin .gtr (.s 19) (.s 20))] [16,17,18,19,20])
 (.cond (.s 21)
 (.reg [mv 22 0,
 mv 23 1,
 mv 24 3,
 mv 25 4,
 o0 26 (.bin .sub (.s 24) (.s 25)),
 o0 27 (.mnx true (.c (.int .i64 0)) (.s 26)),
 o0 28 (.call Mu [(.s 22),(.s 23),(.s 27),(.c (.int .i64 0)),(.c (.int .i64 6))])] [22,23,24,25,26,27,28])
 .skip))
 (.seq (.reg [mv 29 2,
 o0 30 (.len (.s 29)),
 o0 31 (.mov (.c (.int .i64 0)))] [])
 (.block 0 (.loop (.seq (.reg [o0 32 (.bin .lss (.s 31) (.s 30))] [])
 (.seq (.cond (.s 32)
 .skip
 (.exit 0))
 (.seq (.block 1 (.seq (.reg [mv 33 31,
 o0 34 (.iadr st (.s 29) (.s 31)),
 o0 35 (.load (some st) (.s 34)),
 o0 13 (.new t z),
 mv 12 33,
 ⟨none,.store st (.s 13) (.s 35),none⟩] [33,34,35])
 (.seq (.seq (.reg [mv 36 0,
 o0 37 (.nchk (.s 36)),
 o0 38 (.fadr 0 (.s 37)),
 o0 39 (.fadr 3 (.s 38)),
 o0 40 (.load none (.s 39)),
 o0 41 (.bin .neq (.s 40) (.c (.int .i64 0)))] [36,37,38,39,40])
 (.cond (.s 41)
 .ret
 .skip))
 (.seq (.reg [mv 43 5,
 mv 44 12,
 o0 45 (.load (some st) (.s 13)),
 o0 46 (.callv (.s 43) [(.s 44),(.s 45)]),
 mv 42 46,
 o0 47 (.ext (.s 42) 0),
 o0 48 (.ext (.s 42) 1),
 mv 14 47,
 mv 15 48] [43,44,45,46,42,47,48])
 (.reg [mv 49 0,
 mv 50 1,
 mv 51 12,
 mv 52 14,
 mv 53 15,
 o0 54 (.call Mu [(.s 49),(.s 50),(.s 51),(.s 52),(.s 53)])] [49,50,51,52,53,54])))))
 (.reg [o0 55 (.bin .add (.s 31) (.c (.int .i64 1))),
 mv 31 55] [55]))))))))
theorem gS {α:Type} [Inhabited α] {m t st:Nat} {z:List AV} {c:α→List AV} (hc:aq Tryz.prog m=some ⟨56,6,[],RJ t st z⟩) (hz:z.length=st) (hr:∀x,RX st (c x)) {f:FuncId} (hb:aY Tryz.prog f=true) (g:α→Int×Int) (a:List α) (ha:a.length≤9223372036854775807)
  (hf:∀x∈a,∀i:Int,ak Tryz.prog f [.int .i64 i,.agg (c x)] (.tup [.int .i64 (g x).1,.int .i64 (g x).2])) (n most imp:Int) (F:Fa) :
  CM m [.int .i64 n,.sl st (a.map c),.int .i64 most,.int .i64 imp,.fn f []] F (dC n most imp (a.map g) F):=by
 refine aP (ic:=RJ t st z) ap hc rfl rfl ?_
 obtain ⟨G,hG⟩:∃G,dC n most imp (a.map g) F=G:=⟨_,rfl⟩
 rw [hG]
 unfold dC at hG
 rw [dn] at hG
 subst hz
 have q1:∀x,iF (some z.length) (c x)=some (.agg (c x)):=fun x=>HG (hr x).1
 have q2:∀x,m8 13 z.length z.length 0 0 (some ⟨t,z.length,[z],true⟩) (some (c x))=some (.put 13 ⟨t,z.length,[c x],true⟩):=fun x=>IT rfl (hr x).1
 have q3:∀x i,(c x).any (mC i)=false:=fun x i=>(hr x).2.1 i
 by_cases hw:IntKind.i64.wrap ((a.length:Int)+imp)>most
 rw [bz hw] at hG
 simp only [go_sem,RJ,az hw]
 refine bZ (uR F n (if 0<IntKind.i64.wrap (most - imp) then IntKind.i64.wrap (most - imp) else 0) 0 6) ?_
 simp only [go_sem]
 generalize kH F n (if 0<IntKind.i64.wrap (most - imp) then IntKind.i64.wrap (most - imp) else 0) 0 6=F0 at hG ⊢
 rotate_left
 rw [aJ hw] at hG
 simp only [go_sem,RJ,au hw]
 generalize F=F0 at hG ⊢
 all_goals
  refine an (fun q:Nat×Fa=>⟨[(31,.int .i64 q.1),(30,.int .i64 a.length),(29,.sl z.length (a.map c)),(0,.mp 1000 4 0 0),(1,.int .i64 n),(5,.fn f [])],[(1000,ck q.2)]⟩) (fun q=>q.1≤a.length∧G=Ji n q.1 ((a.map g).drop q.1) q.2) (fun q=>a.length - q.1) (0,F0) ⟨cq _,hG.symm⟩ (Wk.of ?_ ?_) ?_
  ·simp only [go_sem];try simp
  ·simp only [go_sem]
  rintro ⟨j,E⟩ ⟨hj,hx⟩
  simp only at hj hx
  by_cases h1:(j:Int)<(a.length:Int)
  rotate_left
  ·rw [jb (by rw [dn];omega)] at hx
   obtain rfl:G=E:=hx
   simp only [go_sem,au h1]
   exact vN [] _ [(1000,ck G)] ⟨rfl,rfl⟩
  have hj':j<a.length:=by omega
  have e8:=cD hj' (by omega)
  have cc:=aX hf hj' (j:Int)
  by_cases hE:E.c=0
  rotate_left
  ·rw [Lz E hE] at hx
   obtain rfl:G=E:=hx
   simp only [go_sem,az h1,bc hE,q1,q2,q3]
   refine ⟨by omega,h1,?_⟩
   exact Pr [] (.tup []) [(1000,ck G)] ⟨rfl,rfl⟩
  rw [Ly (by rw [dn];exact hj') E hE,wl hj'] at hx
  simp only [go_sem,az h1,ay hE,q1,q2,q3]
  refine ⟨by omega,h1,?_⟩
  rw [bz (PC hb)]
  refine ⟨hb,?_⟩
  refine lB cc (fun x hx=>?_) ?_
  ·rcases bE.1 hx with rfl | hx
   ·rfl
   ·rcases bE.1 hx with rfl | hx
    ·exact (hr _).2.2
    ·cases hx
  simp only [go_sem]
  refine bZ (uR E n j (g (aj a j)).1 (g (aj a j)).2) ?_
  simp only [go_sem]
  refine aA (j+1,kH E n j (g (aj a j)).1 (g (aj a j)).2) ⟨show j+1≤a.length by omega,hx⟩ (show a.length - (j+1)<a.length - j by omega) (Wk.of ?_ ?_)
  ·simp only [go_sem,e8];try simp
  ·simp only [go_sem]
theorem Df {f:FuncId} (hb:aY Tryz.prog f=true) (g:Ft→Int×Int) (a:List Ft) (ha:a.length≤9223372036854775807) (hf:∀x∈a,∀i:Int,ak Tryz.prog f [.int .i64 i,.agg (dF x)] (.tup [.int .i64 (g x).1,.int .i64 (g x).2])) (n most imp:Int) (F:Fa) :
  CM QJ [.int .i64 n,.sl 2 (a.map dF),.int .i64 most,.int .i64 imp,.fn f []] F (dC n most imp (a.map g) F):=gS Su rfl (fun _=>⟨rfl,fun _=>rfl,rfl⟩) hb g a ha hf n most imp F
theorem Dh {f:FuncId} (hb:aY Tryz.prog f=true) (g:Im→Int×Int) (a:List Im) (ha:a.length≤9223372036854775807) (hf:∀x∈a,∀i:Int,ak Tryz.prog f [.int .i64 i,.agg (dy x)] (.tup [.int .i64 (g x).1,.int .i64 (g x).2])) (n most imp:Int) (F:Fa) :
  CM Qy [.int .i64 n,.sl 13 (a.map dy),.int .i64 most,.int .i64 imp,.fn f []] F (dC n most imp (a.map g) F):=gS Sf rfl (fun _=>⟨rfl,fun _=>rfl,rfl⟩) hb g a ha hf n most imp F
theorem sV {f:FuncId} (hb:aY Tryz.prog f=true) (g:Cd→Int×Int) (a:List Cd) (ha:a.length≤9223372036854775807) (hf:∀x∈a,∀i:Int,ak Tryz.prog f [.int .i64 i,.agg (dK x)] (.tup [.int .i64 (g x).1,.int .i64 (g x).2])) (n most imp:Int) (F:Fa) :
  CM Ms [.int .i64 n,.sl 3 (a.map dK),.int .i64 most,.int .i64 imp,.fn f []] F (dC n most imp (a.map g) F):=gS Sq rfl (fun _=>⟨rfl,fun _=>rfl,rfl⟩) hb g a ha hf n most imp F
theorem Dj {f:FuncId} (hb:aY Tryz.prog f=true) (g:Tb→Int×Int) (a:List Tb) (ha:a.length≤9223372036854775807) (hf:∀x∈a,∀i:Int,ak Tryz.prog f [.int .i64 i,.agg (ez x)] (.tup [.int .i64 (g x).1,.int .i64 (g x).2])) (n most imp:Int) (F:Fa) :
  CM QC [.int .i64 n,.sl 4 (a.map ez),.int .i64 most,.int .i64 imp,.fn f []] F (dC n most imp (a.map g) F):=gS Sn rfl (fun _=>⟨rfl,fun _=>rfl,rfl⟩) hb g a ha hf n most imp F
theorem Di {f:FuncId} (hb:aY Tryz.prog f=true) (g:Lm→Int×Int) (a:List Lm) (ha:a.length≤9223372036854775807) (hf:∀x∈a,∀i:Int,ak Tryz.prog f [.int .i64 i,.agg (eu x)] (.tup [.int .i64 (g x).1,.int .i64 (g x).2])) (n most imp:Int) (F:Fa) :
  CM Qz [.int .i64 n,.sl 3 (a.map eu),.int .i64 most,.int .i64 imp,.fn f []] F (dC n most imp (a.map g) F):=gS Sg rfl (fun _=>⟨rfl,fun _=>rfl,rfl⟩) hb g a ha hf n most imp F
theorem Dg {f:FuncId} (hb:aY Tryz.prog f=true) (g:Gd→Int×Int) (a:List Gd) (ha:a.length≤9223372036854775807) (hf:∀x∈a,∀i:Int,ak Tryz.prog f [.int .i64 i,.agg (ej x)] (.tup [.int .i64 (g x).1,.int .i64 (g x).2])) (n most imp:Int) (F:Fa) :
  CM Vz [.int .i64 n,.sl 3 (a.map ej),.int .i64 most,.int .i64 imp,.fn f []] F (dC n most imp (a.map g) F):=gS VJ rfl (fun _=>⟨rfl,fun _=>rfl,rfl⟩) hb g a ha hf n most imp F
theorem De {f:FuncId} (hb:aY Tryz.prog f=true) (g:Ex→Int×Int) (a:List Ex) (ha:a.length≤9223372036854775807) (hf:∀x∈a,∀i:Int,ak Tryz.prog f [.int .i64 i,.agg (ei x)] (.tup [.int .i64 (g x).1,.int .i64 (g x).2])) (n most imp:Int) (F:Fa) :
  CM Qx [.int .i64 n,.sl 3 (a.map ei),.int .i64 most,.int .i64 imp,.fn f []] F (dC n most imp (a.map g) F):=gS Se rfl (fun _=>⟨rfl,fun _=>rfl,rfl⟩) hb g a ha hf n most imp F
theorem Dd {f:FuncId} (hb:aY Tryz.prog f=true) (g:El→Int×Int) (a:List El) (ha:a.length≤9223372036854775807) (hf:∀x∈a,∀i:Int,ak Tryz.prog f [.int .i64 i,.agg (dL x)] (.tup [.int .i64 (g x).1,.int .i64 (g x).2])) (n most imp:Int) (F:Fa) :
  CM QI [.int .i64 n,.sl 5 (a.map dL),.int .i64 most,.int .i64 imp,.fn f []] F (dC n most imp (a.map g) F):=gS Ss rfl (fun _=>⟨rfl,fun _=>rfl,rfl⟩) hb g a ha hf n most imp F
theorem Dc {f:FuncId} (hb:aY Tryz.prog f=true) (g:Da→Int×Int) (a:List Da) (ha:a.length≤9223372036854775807) (hf:∀x∈a,∀i:Int,ak Tryz.prog f [.int .i64 i,.agg (et x)] (.tup [.int .i64 (g x).1,.int .i64 (g x).2])) (n most imp:Int) (F:Fa) :
  CM QH [.int .i64 n,.sl 4 (a.map et),.int .i64 most,.int .i64 imp,.fn f []] F (dC n most imp (a.map g) F):=gS Sr rfl (fun _=>⟨rfl,fun _=>rfl,rfl⟩) hb g a ha hf n most imp F
theorem Db {f:FuncId} (hb:aY Tryz.prog f=true) (g:Cu→Int×Int) (a:List Cu) (ha:a.length≤9223372036854775807) (hf:∀x∈a,∀i:Int,ak Tryz.prog f [.int .i64 i,.agg (eB x)] (.tup [.int .i64 (g x).1,.int .i64 (g x).2])) (n most imp:Int) (F:Fa) :
  CM Qw [.int .i64 n,.sl 3 (a.map eB),.int .i64 most,.int .i64 imp,.fn f []] F (dC n most imp (a.map g) F):=gS Sd rfl (fun _=>⟨rfl,fun _=>rfl,rfl⟩) hb g a ha hf n most imp F
end
section
attribute [local go_sem] dn bM cm bP cI cG cz cF ce bR bW c_ aU
theorem C_ (l:Lm) (most:Int):ak Tryz.prog UD [.agg (eu l),.int .i64 most] (.bool (NV l most)):=by
 refine ah (ic:=tX.body) ap Tc rfl rfl ?_
 unfold NV
 by_cases q1:l.mn<0
 ·rw [bz (.inl q1)]
  simp only [go_sem,tX,az q1]
  exact ae
 by_cases q2:l.mn>most
 ·rw [bz (.inr q2)]
  simp only [go_sem,tX,au q1,az q2]
  exact ae
 rw [aJ (by omega)]
 cases hh:l.hs
 ·rw [bz rfl]
  simp only [go_sem,tX,au q1,au q2,hh]
  exact ae
 ·rw [aJ (by decide)]
  by_cases q3:l.mn≤l.mx
  ·simp only [go_sem,tX,au q1,au q2,hh,az q3]
   exact aL [] (by simp only [go_sem,jv]) (by first | rfl | simp [go_sem,b_])
  ·simp only [go_sem,tX,au q1,au q2,hh,au q3]
   exact aL [] (by simp only [go_sem,lr]) (by first | rfl | simp [go_sem,b_])
theorem wc (x:Tb):ak Tryz.prog Qb [.agg (ez x)] (.int .i64 (NZ x)):=by
 refine ah (ic:=zp.body) ap OJ rfl rfl ?_
 have c1:=Dk x.e
 have c2:=C_ x.l 1024
 unfold NZ
 simp only [go_sem,zp]
 refine aa (c1) ?_
 cases JA x.e
 ·simp only [go_sem]
  exact aL [] (by simp only [go_sem];try rfl) (by rfl)
 ·simp only [go_sem]
  refine aa (c2) ?_
  cases NV x.l 1024
  ·simp only [go_sem]
   exact aL [] (by simp only [go_sem];try rfl) (by rfl)
  ·simp only [go_sem]
   exact aL [] (by simp only [go_sem];try rfl) (by rfl)
theorem Jm (l:Lm):ak Tryz.prog P7 [.agg (eu l)] (.int .i64 (NW l)):=by
 refine ah (ic:=zh.body) ap Oy rfl rfl ?_
 have c2:=C_ l 256
 unfold NW
 simp only [go_sem,zh]
 refine aa (c2) ?_
 cases NV l 256
 ·simp only [go_sem]
  exact aL [] (by simp only [go_sem];try rfl) (by rfl)
 ·simp only [go_sem]
  exact aL [] (by simp only [go_sem];try rfl) (by rfl)
theorem C9 (g:Gl):ak Tryz.prog P6 [.agg [.int .i64 g.v,.bool g.mu]] (.int .i64 (NR g)):=by
 refine ah (ic:=zg.body) ap Ox rfl rfl ?_
 have c2:=Jn g.v
 unfold NR
 simp only [go_sem,zg]
 refine aa (c2) ?_
 cases r5 g.v
 ·simp only [go_sem]
  exact aL [] (by simp only [go_sem];try rfl) (by rfl)
 ·simp only [go_sem]
  exact aL [] (by simp only [go_sem];try rfl) (by rfl)
theorem ry (s:List UInt8):ak Tryz.prog Qk [.str s] (.int .i64 (wj s)):=by
 refine ah (ic:=vC.body) ap OV rfl rfl ?_
 unfold wj
 by_cases q1:(s.length:Int)>64
 ·rw [bz (by omega)]
  simp only [go_sem,vC,az q1]
  exact ae
 rw [aJ (by omega)]
 simp only [go_sem,vC,au q1]
 refine aa (Rf s (by omega)) ?_
 cases uv s
 ·simp only [go_sem]
  exact aL [] (by simp only [go_sem];try rfl) (by rfl)
 ·simp only [go_sem]
  exact aL [] (by simp only [go_sem];try rfl) (by rfl)
def Ph (x:Cd):Int:=if tV x.t=false then 11 else if x.lo.length>64 then 6 else if lk x.lo=false then 12 else 0
theorem Mi (x:Cd) (h:yS x):ak Tryz.prog Qh [.agg (dK x)] (.int .i64 (Ph x)):=by
 refine ah (ic:=zt.body) ap OS rfl rfl ?_
 have c1:=jB x.t
 have c2:=rA x.lo (by have:=h.1;omega)
 unfold Ph
 simp only [go_sem,zt]
 refine aa (c1) ?_
 cases tV x.t
 ·simp only [go_sem]
  exact aL [] (by simp only [go_sem];try rfl) (by rfl)
 rw [aJ (by decide)]
 by_cases q1:(x.lo.length:Int)>64
 ·rw [bz (by omega)]
  simp only [go_sem,az q1]
  exact ae
 rw [aJ (by omega)]
 simp only [go_sem,au q1]
 refine aa (c2) ?_
 cases lk x.lo
 ·simp only [go_sem]
  exact aL [] (by simp only [go_sem];try rfl) (by rfl)
 ·simp only [go_sem]
  exact aL [] (by simp only [go_sem];try rfl) (by rfl)
def Ps (x:Ex):Int:=if wj x.n≠0 then wj x.n else if x.k<0∨x.k>3 then 1 else if tV x.i=false then 11 else 0
theorem C8 (x:Ex):ak Tryz.prog P5 [.agg (ei x)] (.int .i64 (Ps x)):=by
 refine ah (ic:=zf.body) ap Ow rfl rfl ?_
 have c1:=ry x.n
 have c2:=jB x.i
 unfold Ps
 simp only [go_sem,zf]
 refine aa (c1) ?_
 by_cases q0:wj x.n=0
 rotate_left
 ·rw [bz q0]
  simp only [go_sem,bc q0]
  exact ae
 rw [aJ (by simp [q0])]
 by_cases q1:x.k<0
 ·rw [bz (.inl q1)]
  simp only [go_sem,ay q0,az q1]
  exact ae
 by_cases q2:x.k>3
 ·rw [bz (.inr q2)]
  simp only [go_sem,ay q0,au q1,az q2]
  exact ae
 rw [aJ (by omega)]
 simp only [go_sem,ay q0,au q1,au q2]
 refine aa (c2) ?_
 cases tV x.i
 ·simp only [go_sem]
  exact aL [] (by simp only [go_sem];try rfl) (by rfl)
 ·simp only [go_sem]
  exact aL [] (by simp only [go_sem];try rfl) (by rfl)
theorem IC {P:cN→Bool} {l:List cN} {i:Nat} (h:i<l.length):u_ P i (l.drop i)=if P (aj l i)=false then ((i:Int),10) else if (aj l i).lb.length>64 then ((i:Int),6) else u_ P (i+1) (l.drop (i+1)):=by
 rw [q_ h,u_]
theorem sW (P:cN→Bool) (l:List cN) (hl:tI l) (hP:∀x∈l,ak Tryz.prog pP [jk x] (.bool (P x))):ak Tryz.prog Ju [.sl 9 (l.map aU)] (.tup [.int .i64 (i0 P l).1,.int .i64 (i0 P l).2]):=by
 refine ah (ic:=vF.body) ap O3 rfl rfl ?_
 unfold i0
 by_cases q1:(l.length:Int)>2048
 ·rw [bz (by omega)]
  simp only [go_sem,vF,az q1]
  exact ae
 rw [aJ (by omega)]
 obtain ⟨G,hG⟩:∃G,u_ P 0 l=G:=⟨_,rfl⟩
 rw [hG]
 simp only [go_sem,vF,au q1]
 refine an (fun j:Nat=>⟨[(11,.int .i64 j),(10,.int .i64 l.length),(9,.sl 9 (l.map aU))],[]⟩) (fun j=>j≤l.length∧G=u_ P j (l.drop j)) (fun j=>l.length - j) 0 ⟨cq _,hG.symm⟩ (Wk.of ?_ ?_) ?_
 ·simp only [go_sem];try simp
 ·simp only [go_sem]
 rintro j ⟨hj,hx⟩
 by_cases h1:(j:Int)<(l.length:Int)
 rotate_left
 ·rw [jb (by omega)] at hx
  obtain rfl:G=(0,0):=hx
  simp only [go_sem,au h1]
  exact ae
 have hj':j<l.length:=by omega
 have e8:=cD hj' (by have:=hl.1;omega)
 have cc:=aX hP hj'
 simp only [c_] at cc
 rw [IC hj'] at hx
 cases hp:P (aj l j)
 ·rw [hp] at cc hx
  obtain rfl:G=((j:Int),10):=hx
  simp only [go_sem,az h1]
  refine ⟨by omega,h1,?_⟩
  refine aa (cc) ?_
  simp only [go_sem]
  exact ae
 rw [hp] at cc hx
 rw [aJ (by decide)] at hx
 by_cases q2:((aj l j).lb.length:Int)>64
 ·rw [bz (by omega)] at hx
  subst hx
  simp only [go_sem,az h1]
  refine ⟨by omega,h1,?_⟩
  refine aa (cc) ?_
  simp only [go_sem,az q2]
  exact ae
 rw [aJ (by omega)] at hx
 simp only [go_sem,az h1]
 refine ⟨by omega,h1,?_⟩
 refine aa (cc) ?_
 simp only [go_sem,au q2]
 refine aA (j+1) ⟨show j+1≤l.length by omega,hx⟩ (show l.length - (j+1)<l.length - j by omega) (Wk.of ?_ ?_)
 ·simp only [go_sem,e8];try simp
 ·simp only [go_sem]
end
section
def Pl (x:Cu):Int:=if wj x.n≠0 then wj x.n else if x.b.length>4096 then 6 else if x.af<0∨x.af>12 then 1 else 0
attribute [local go_sem] dn bM cm bP cI cG cz cF ce bR bW c_ aU
theorem C7 (x:Cu):ak Tryz.prog P4 [.agg (eB x)] (.int .i64 (Pl x)):=by
 refine ah (ic:=ze.body) ap Ov rfl rfl ?_
 have c1:=ry x.n
 unfold Pl
 simp only [go_sem,ze]
 refine aa (c1) ?_
 by_cases q0:wj x.n=0
 rotate_left
 ·rw [bz q0]
  simp only [go_sem,bc q0]
  exact ae
 rw [aJ (by simp [q0])]
 by_cases q1:(x.b.length:Int)>4096
 ·rw [bz (by omega)]
  simp only [go_sem,ay q0,az q1]
  exact ae
 rw [aJ (by omega)]
 by_cases q2:x.af<0
 ·rw [bz (.inl q2)]
  simp only [go_sem,ay q0,au q1,az q2]
  exact ae
 by_cases q3:x.af>12
 ·rw [bz (.inr q3)]
  simp only [go_sem,ay q0,au q1,au q2,az q3]
  exact ae
 rw [aJ (by omega)]
 simp only [go_sem,ay q0,au q1,au q2,au q3]
 exact ae
def KW (P:cN→Bool) (x:Da):Int×Int:=if x.mo≠0∧(x.mo≠1∨x.me≠0∨x.o.length>0) then (0,1) else if tV x.me=false then (0,11) else if x.b.length>4096 then (0,6) else i0 P x.o
theorem Mk (P:cN→Bool) (x:Da) (h:Ey x) (hP:∀y∈x.o,ak Tryz.prog pP [jk y] (.bool (P y))):ak Tryz.prog Qi [.agg (et x)] (.tup [.int .i64 (KW P x).1,.int .i64 (KW P x).2]):=by
 refine ah (ic:=nU.body) ap OT rfl rfl ?_
 have c1:=jB x.me
 have c2:=sW P x.o h.1 hP
 unfold KW
 by_cases q1:x.mo=0
 ·rw [aJ (fun q=>q.1 q1)]
  simp only [go_sem,nU,ay q1]
  refine aa (c1) ?_
  cases tV x.me
  ·simp only [go_sem]
   exact aL [] (by simp only [go_sem];try rfl) (by rfl)
  rw [aJ (by decide)]
  by_cases q5:(x.b.length:Int)>4096
  ·rw [bz (by omega)]
   simp only [go_sem,az q5]
   exact aL [] (by simp only [go_sem];try rfl) (by rfl)
  rw [aJ (by omega)]
  simp only [go_sem,au q5]
  refine aa (c2) ?_
  simp only [go_sem]
  exact ae
 by_cases q2:x.mo=1
 rotate_left
 ·rw [bz ⟨q1,.inl q2⟩]
  simp only [go_sem,nU,bc q1,bc q2]
  exact aL [] (by simp only [go_sem];try rfl) (by rfl)
 by_cases q3:x.me=0
 rotate_left
 ·rw [bz ⟨q1,.inr (.inl q3)⟩]
  simp only [go_sem,nU,bc q1,ay q2,bc q3]
  exact aL [] (by simp only [go_sem];try rfl) (by rfl)
 by_cases q4:(x.o.length:Int)>0
 ·rw [bz ⟨q1,.inr (.inr (by omega))⟩]
  simp only [go_sem,nU,bc q1,ay q2,ay q3,az q4]
  exact aL [] (by simp only [go_sem];try rfl) (by rfl)
 rw [aJ (fun q=>by rcases q.2 with z | z | z;exact z q2;exact z q3;omega)]
 simp only [go_sem,nU,bc q1,ay q2,ay q3,au q4]
 refine aa (c1) ?_
 cases tV x.me
 ·simp only [go_sem]
  exact aL [] (by simp only [go_sem];try rfl) (by rfl)
 rw [aJ (by decide)]
 by_cases q5:(x.b.length:Int)>4096
 ·rw [bz (by omega)]
  simp only [go_sem,az q5]
  exact aL [] (by simp only [go_sem];try rfl) (by rfl)
 rw [aJ (by omega)]
 simp only [go_sem,au q5]
 refine aa (c2) ?_
 simp only [go_sem]
 exact ae
def vM (x:Im):Im:=if x.k=0 then ⟨x.m,x.n,x.k,x.f,0,⟨0,0,false⟩,⟨0,0,false⟩,⟨0,false⟩⟩ else if x.k=1 then ⟨x.m,x.n,x.k,0,x.te,x.tl,⟨0,0,false⟩,⟨0,false⟩⟩ else if x.k=2 then ⟨x.m,x.n,x.k,0,0,⟨0,0,false⟩,x.me,⟨0,false⟩⟩ else if x.k=3 then ⟨x.m,x.n,x.k,0,0,⟨0,0,false⟩,⟨0,0,false⟩,x.g⟩ else ⟨x.m,x.n,x.k,0,0,⟨0,0,false⟩,⟨0,0,false⟩,⟨0,false⟩⟩
theorem Mh (x:Im):ak Tryz.prog Qg [.agg (dy x)] (.agg (dy (vM x))):=by
 refine ah (ic:=nT.body) ap OR rfl rfl ?_
 unfold vM
 by_cases q0:x.k=0
 ·rw [bz q0]
  simp only [go_sem,nT,aV q0]
  exact aL [] (by simp only [go_sem];try rfl) (by rfl)
 rw [aJ q0]
 by_cases q1:x.k=1
 ·rw [bz q1]
  simp only [go_sem,nT,aw q0,aV q1]
  exact aL [] (by simp only [go_sem];try rfl) (by rfl)
 rw [aJ q1]
 by_cases q2:x.k=2
 ·rw [bz q2]
  simp only [go_sem,nT,aw q0,aw q1,aV q2]
  exact aL [] (by simp only [go_sem];try rfl) (by rfl)
 rw [aJ q2]
 by_cases q3:x.k=3
 ·rw [bz q3]
  simp only [go_sem,nT,aw q0,aw q1,aw q2,aV q3]
  exact aL [] (by simp only [go_sem];try rfl) (by rfl)
 rw [aJ q3]
 simp only [go_sem,nT,aw q0,aw q1,aw q2,aw q3]
 exact aL [] (by simp only [go_sem];try rfl) (by rfl)
end
section
def PF (x:Im):Int:=if wj x.m≠0 then wj x.m else if wj x.n≠0 then wj x.n else if x.k<0∨x.k>3∨vM x≠x then 1 else if x.k=1 then NZ ⟨x.te,x.tl⟩ else if x.k=2 then NW x.me else if x.k=3 then NR x.g else if tV x.f=false then 11 else 0
attribute [local go_sem] dn bM cm bP cI cG cz cF ce bR bW bN c_ aU
theorem PV (x:Im):ak Tryz.prog Uy [.agg (dy x)] (.int .i64 (PF x)):=by
 refine ah (ic:=Kb.body) ap S5 rfl rfl ?_
 have c1:=ry x.m
 have c2:=ry x.n
 have c3:=Mh x
 have c4:=wc ⟨x.te,x.tl⟩
 have c5:=Jm x.me
 have c6:=C9 x.g
 have c7:=jB x.f
 simp only [cm] at c3
 unfold PF
 simp only [go_sem,Kb]
 refine aa (c1) ?_
 by_cases q0:wj x.m=0
 rotate_left
 ·rw [bz q0]
  simp only [go_sem,bc q0]
  exact ae
 rw [aJ (by simp [q0])]
 simp only [go_sem,ay q0]
 refine aa (c2) ?_
 by_cases q1:wj x.n=0
 rotate_left
 ·rw [bz q1]
  simp only [go_sem,bc q1]
  exact ae
 rw [aJ (by simp [q1])]
 by_cases q2:x.k<0
 ·rw [bz (.inl q2)]
  simp only [go_sem,ay q1,az q2]
  exact ae
 by_cases q3:x.k>3
 ·rw [bz (.inr (.inl q3))]
  simp only [go_sem,ay q1,au q2,az q3]
  exact ae
 simp only [go_sem,ay q1,au q2,au q3]
 refine aQ c3 (by simp [go_sem]) rfl ?_
 by_cases q4:vM x=x
 rotate_left
 ·rw [bz (.inr (.inr q4))]
  simp only [go_sem,mW,au q4,bA]
  exact ae
 rw [aJ (fun q=>by rcases q with z | z | z;exact q2 z;exact q3 z;exact z q4)]
 by_cases k1:x.k=1
 ·rw [bz k1]
  simp only [go_sem,mW,az q4,bv,aV k1]
  refine aa (c4) ?_
  simp only [go_sem]
  exact ae
 rw [aJ k1]
 by_cases k2:x.k=2
 ·rw [bz k2]
  simp only [go_sem,mW,az q4,bv,aw k1,aV k2]
  refine aa (c5) ?_
  simp only [go_sem]
  exact ae
 rw [aJ k2]
 by_cases k3:x.k=3
 ·rw [bz k3]
  simp only [go_sem,mW,az q4,bv,aw k1,aw k2,aV k3]
  refine aa (c6) ?_
  simp only [go_sem]
  exact ae
 rw [aJ k3]
 simp only [go_sem,mW,az q4,bv,aw k1,aw k2,aw k3]
 refine aa (c7) ?_
 cases tV x.f
 ·simp only [go_sem]
  exact aL [] (by simp only [go_sem];try rfl) (by rfl)
 ·simp only [go_sem]
  exact aL [] (by simp only [go_sem];try rfl) (by rfl)
def m7 (P:cN→Bool):List (List cN)→Int×Int
 | []=>(0,0)
 | l :: r=>if (i0 P l).2≠0 then i0 P l else m7 P r
theorem tA {P:cN→Bool} {l:List (List cN)} {i:Nat} (h:i<l.length):m7 P (l.drop i)=if (i0 P (aj l i)).2≠0 then i0 P (aj l i) else m7 P (l.drop (i+1)):=by
 rw [q_ h];rfl
def K2 (P:cN→Bool) (x:El):Int×Int :=
 if x.mo<0∨x.mo>2∨(x.mo≠0∧(x.tb≠0∨x.o.length>0)) then (0,1) else if tV x.tb=false then (0,11) else if JA x.ty=false then (0,12) else if x.it.length>256 then (0,6) else m7 P (x.o :: x.it)
theorem Ml (P:cN→Bool) (x:El) (h:Ez x) (hP:∀y,EA y→ak Tryz.prog pP [jk y] (.bool (P y))):ak Tryz.prog Qj [.agg (dL x)] (.tup [.int .i64 (K2 P x).1,.int .i64 (K2 P x).2]):=by
 refine ah (ic:=mN.body) ap OU rfl rfl ?_
 have c1:=jB x.tb
 have c2:=Dk x.ty
 have hR:∀l∈x.o :: x.it,ak Tryz.prog Ju [.sl 9 (l.map aU)] (.tup [.int .i64 (i0 P l).1,.int .i64 (i0 P l).2]):=fun l hl=>by
  rcases bE.1 hl with rfl | hl
  ·exact sW P _ h.1 fun y hy=>hP y (h.1.2 y hy)
  ·exact sW P l (h.2.2 l hl) fun y hy=>hP y ((h.2.2 l hl).2 y hy)
 have hil:=h.2.1
 unfold K2
 by_cases q1:x.mo<0
 ·rw [bz (.inl q1)]
  simp only [go_sem,mN,az q1]
  exact aL [] (by simp only [go_sem];try rfl) (by rfl)
 by_cases q2:x.mo>2
 ·rw [bz (.inr (.inl q2))]
  simp only [go_sem,mN,au q1,az q2]
  exact aL [] (by simp only [go_sem];try rfl) (by rfl)
 by_cases q3:x.mo=0
 ·rw [aJ (fun q=>by rcases q with z | z | z;exact q1 z;exact q2 z;exact z.1 q3)]
  simp only [go_sem,mN,au q1,au q2,ay q3]
  refine aa (c1) ?_
  cases tV x.tb
  ·simp only [go_sem]
   exact aL [] (by simp only [go_sem];try rfl) (by rfl)
  rw [aJ (by decide)]
  simp only [go_sem]
  refine aa (c2) ?_
  cases JA x.ty
  ·simp only [go_sem]
   exact aL [] (by simp only [go_sem];try rfl) (by rfl)
  rw [aJ (by decide)]
  by_cases q5:(x.it.length:Int)>256
  ·rw [bz (by omega)]
   simp only [go_sem,az q5]
   exact aL [] (by simp only [go_sem];try rfl) (by rfl)
  rw [aJ (by omega)]
  obtain ⟨G,hG⟩:∃G,m7 P (x.o :: x.it)=G:=⟨_,rfl⟩
  rw [hG]
  have happ:=fun ys=>br 50 58 1 1 cU [x.o] ys rfl
  have hlen:(x.o :: x.it).length=1+x.it.length:=by rw [pD];omega
  simp only [ee,List.map_nil,bN] at happ
  simp only [go_sem,au q5,happ]
  refine ⟨by omega,?_⟩
  generalize hL:x.o :: x.it=L at *
  refine an (fun j:Nat=>⟨[(55,.int .i64 j),(54,.int .i64 ((1+x.it.length:Nat):Int)),(53,.ms 50 1 0 (1+x.it.length))],[(50,⟨58,1,L.map cU,false⟩)]⟩) (fun j=>j≤L.length∧G=m7 P (L.drop j)) (fun j=>L.length - j) 0 ⟨cq _,hG.symm⟩ (Wk.of ?_ ?_) ?_
  ·simp only [go_sem];try simp
  ·rw [← hL]
   simp only [go_sem];try simp [bN]
  rintro j ⟨hj,hx⟩
  by_cases h1:(j:Int)<((1+x.it.length:Nat):Int)
  rotate_left
  ·rw [jb (by omega)] at hx
   obtain rfl:G=(0,0):=hx
   simp only [go_sem,au h1]
   exact ae
  have hj':j<L.length:=by omega
  have hj2:j<1+x.it.length:=by omega
  have e8:=cD hj' (by omega)
  rw [tA hj'] at hx
  have cc:=aX hR hj'
  by_cases hz:(i0 P (aj L j)).2=0
  rotate_left
  ·rw [bz hz] at hx
   subst hx
   simp only [go_sem,az h1,hj2,hlen]
   refine ⟨by omega,?_⟩
   refine aa (cc) ?_
   simp only [go_sem,bc hz]
   exact ae
  rw [aJ (by simp [hz])] at hx
  simp only [go_sem,az h1,hj2,hlen]
  refine ⟨by omega,?_⟩
  refine aa (cc) ?_
  simp only [go_sem,ay hz]
  refine aA (j+1) ⟨show j+1≤1+x.it.length by omega,hx⟩ (show 1+x.it.length - (j+1)<1+x.it.length - j by omega) (Wk.of ?_ ?_)
  ·simp only [go_sem,e8];try simp
  ·simp only [go_sem];try simp [bN]
 by_cases q4:x.tb=0
 rotate_left
 ·rw [bz (.inr (.inr ⟨q3,.inl q4⟩))]
  simp only [go_sem,mN,au q1,au q2,bc q3,bc q4]
  exact aL [] (by simp only [go_sem];try rfl) (by rfl)
 by_cases q6:(x.o.length:Int)>0
 ·rw [bz (.inr (.inr ⟨q3,.inr (by omega)⟩))]
  simp only [go_sem,mN,au q1,au q2,bc q3,ay q4,az q6]
  exact aL [] (by simp only [go_sem];try rfl) (by rfl)
 rw [aJ (fun q=>by rcases q with z | z | z;exact q1 z;exact q2 z;rcases z.2 with y | y;exact y q4;omega)]
 simp only [go_sem,mN,au q1,au q2,bc q3,ay q4,au q6]
 refine aa (c1) ?_
 cases tV x.tb
 ·simp only [go_sem]
  exact aL [] (by simp only [go_sem];try rfl) (by rfl)
 rw [aJ (by decide)]
 simp only [go_sem]
 refine aa (c2) ?_
 cases JA x.ty
 ·simp only [go_sem]
  exact aL [] (by simp only [go_sem];try rfl) (by rfl)
 rw [aJ (by decide)]
 by_cases q5:(x.it.length:Int)>256
 ·rw [bz (by omega)]
  simp only [go_sem,az q5]
  exact aL [] (by simp only [go_sem];try rfl) (by rfl)
 rw [aJ (by omega)]
 obtain ⟨G,hG⟩:∃G,m7 P (x.o :: x.it)=G:=⟨_,rfl⟩
 rw [hG]
 have happ:=fun ys=>br 50 58 1 1 cU [x.o] ys rfl
 have hlen:(x.o :: x.it).length=1+x.it.length:=by rw [pD];omega
 simp only [ee,List.map_nil,bN] at happ
 simp only [go_sem,au q5,happ]
 refine ⟨by omega,?_⟩
 generalize hL:x.o :: x.it=L at *
 refine an (fun j:Nat=>⟨[(55,.int .i64 j),(54,.int .i64 ((1+x.it.length:Nat):Int)),(53,.ms 50 1 0 (1+x.it.length))],[(50,⟨58,1,L.map cU,false⟩)]⟩) (fun j=>j≤L.length∧G=m7 P (L.drop j)) (fun j=>L.length - j) 0 ⟨cq _,hG.symm⟩ (Wk.of ?_ ?_) ?_
 ·simp only [go_sem];try simp
 ·rw [← hL]
  simp only [go_sem];try simp [bN]
 rintro j ⟨hj,hx⟩
 by_cases h1:(j:Int)<((1+x.it.length:Nat):Int)
 rotate_left
 ·rw [jb (by omega)] at hx
  obtain rfl:G=(0,0):=hx
  simp only [go_sem,au h1]
  exact ae
 have hj':j<L.length:=by omega
 have hj2:j<1+x.it.length:=by omega
 have e8:=cD hj' (by omega)
 rw [tA hj'] at hx
 have cc:=aX hR hj'
 by_cases hz:(i0 P (aj L j)).2=0
 rotate_left
 ·rw [bz hz] at hx
  subst hx
  simp only [go_sem,az h1,hj2,hlen]
  refine ⟨by omega,?_⟩
  refine aa (cc) ?_
  simp only [go_sem,bc hz]
  exact ae
 rw [aJ (by simp [hz])] at hx
 simp only [go_sem,az h1,hj2,hlen]
 refine ⟨by omega,?_⟩
 refine aa (cc) ?_
 simp only [go_sem,ay hz]
 refine aA (j+1) ⟨show j+1≤1+x.it.length by omega,hx⟩ (show 1+x.it.length - (j+1)<1+x.it.length - j by omega) (Wk.of ?_ ?_)
 ·simp only [go_sem,e8];try simp
 ·simp only [go_sem];try simp [bN]
end
section
attribute [local go_sem] dn bM cm bP cI cG cz cF ce bR bW aU
theorem VL (i:Int) (x:Ft) (h:NY x):ak Tryz.prog QM [.int .i64 i,.agg (dF x)] (.tup [.int .i64 0,.int .i64 (Pu x)]):=by
 refine ah (ic:=J3.body) ap SS rfl rfl ?_
 have c:=PU x h
 try simp only [bM,cm,bP,cI,cG,cF,bR] at c
 simp only [go_sem,J3]
 refine aa (c) ?_
 simp only [go_sem]
 exact ae
theorem VM (i:Int) (x:Im):ak Tryz.prog QN [.int .i64 i,.agg (dy x)] (.tup [.int .i64 0,.int .i64 (PF x)]):=by
 refine ah (ic:=J4.body) ap ST rfl rfl ?_
 have c:=PV x
 try simp only [bM,cm,bP,cI,cG,cF,bR] at c
 simp only [go_sem,J4]
 refine aa (c) ?_
 simp only [go_sem]
 exact ae
theorem VN (i:Int) (x:Cd) (h:yS x):ak Tryz.prog QO [.int .i64 i,.agg (dK x)] (.tup [.int .i64 0,.int .i64 (Ph x)]):=by
 refine ah (ic:=J5.body) ap SU rfl rfl ?_
 have c:=Mi x h
 try simp only [bM,cm,bP,cI,cG,cF,bR] at c
 simp only [go_sem,J5]
 refine aa (c) ?_
 simp only [go_sem]
 exact ae
theorem VO (i:Int) (x:Tb):ak Tryz.prog QP [.int .i64 i,.agg (ez x)] (.tup [.int .i64 0,.int .i64 (NZ x)]):=by
 refine ah (ic:=J6.body) ap SV rfl rfl ?_
 have c:=wc x
 try simp only [bM,cm,bP,cI,cG,cF,bR] at c
 simp only [go_sem,J6]
 refine aa (c) ?_
 simp only [go_sem]
 exact ae
theorem VP (i:Int) (x:Lm):ak Tryz.prog QQ [.int .i64 i,.agg (eu x)] (.tup [.int .i64 0,.int .i64 (NW x)]):=by
 refine ah (ic:=J7.body) ap SW rfl rfl ?_
 have c:=Jm x
 try simp only [bM,cm,bP,cI,cG,cF,bR] at c
 simp only [go_sem,J7]
 refine aa (c) ?_
 simp only [go_sem]
 exact ae
theorem VR (i:Int) (x:Ex):ak Tryz.prog QS [.int .i64 i,.agg (ei x)] (.tup [.int .i64 0,.int .i64 (Ps x)]):=by
 refine ah (ic:=J9.body) ap SY rfl rfl ?_
 have c:=C8 x
 try simp only [bM,cm,bP,cI,cG,cF,bR] at c
 simp only [go_sem,J9]
 refine aa (c) ?_
 simp only [go_sem]
 exact ae
theorem TD (i:Int) (x:Cu):ak Tryz.prog QK [.int .i64 i,.agg (eB x)] (.tup [.int .i64 0,.int .i64 (Pl x)]):=by
 refine ah (ic:=J0.body) ap SO rfl rfl ?_
 have c:=C7 x
 try simp only [bM,cm,bP,cI,cG,cF,bR] at c
 simp only [go_sem,J0]
 refine aa (c) ?_
 simp only [go_sem]
 exact ae
theorem VS (P:cN→Bool) (i:Int) (x:El) (h:Ez x) (hP:∀y,EA y→ak Tryz.prog pP [jk y] (.bool (P y))):ak Tryz.prog QT [.int .i64 i,.agg (dL x)] (.tup [.int .i64 (K2 P x).1,.int .i64 (K2 P x).2]):=by
 refine ah (ic:=J_.body) ap SZ rfl rfl ?_
 have c:=Ml P x h hP
 try simp only [bW,ce] at c
 simp only [go_sem,J_]
 refine aa (c) ?_
 simp only [go_sem]
 exact ae
theorem VT (P:cN→Bool) (i:Int) (x:Da) (h:Ey x) (hP:∀y,EA y→ak Tryz.prog pP [jk y] (.bool (P y))):ak Tryz.prog QU [.int .i64 i,.agg (et x)] (.tup [.int .i64 (KW P x).1,.int .i64 (KW P x).2]):=by
 refine ah (ic:=Ka.body) ap S0 rfl rfl ?_
 have c:=Mk P x h fun y hy=>hP y (h.1.2 y hy)
 try simp only [bW,ce] at c
 simp only [go_sem,Ka]
 refine aa (c) ?_
 simp only [go_sem]
 exact ae
theorem TE (P:cN→Bool) (i:Int) (x:Cd) (h:yS x) (hP:∀y,EA y→ak Tryz.prog pP [jk y] (.bool (P y))):ak Tryz.prog QL [.int .i64 i,.agg (dK x)] (.tup [.int .i64 (i0 P x.b).1,.int .i64 (i0 P x.b).2]):=by
 refine ah (ic:=J1.body) ap SP rfl rfl ?_
 have c:=sW P x.b h.2 fun y hy=>hP y (h.2.2 y hy)
 try simp only [bW,ce] at c
 simp only [go_sem,J1]
 refine aa (c) ?_
 simp only [go_sem]
 exact ae
def Pw (P:cN→Bool) (x:Gd):Int×Int:=if NR x.g≠0 then (0,NR x.g) else i0 P x.i
theorem VQ (P:cN→Bool) (i:Int) (x:Gd) (h:IP x) (hP:∀y,EA y→ak Tryz.prog pP [jk y] (.bool (P y))):ak Tryz.prog QR [.int .i64 i,.agg (ej x)] (.tup [.int .i64 (Pw P x).1,.int .i64 (Pw P x).2]):=by
 refine ah (ic:=J8.body) ap SX rfl rfl ?_
 have c:=C9 x.g
 have d:=sW P x.i h fun y hy=>hP y (h.2 y hy)
 unfold Pw
 simp only [go_sem,J8]
 refine aa (c) ?_
 by_cases q:NR x.g=0
 ·rw [aJ (by simp [q])]
  simp only [go_sem,ay q]
  refine aa (d) ?_
  simp only [go_sem]
  exact ae
 ·rw [bz q]
  simp only [go_sem,bc q]
  exact ae
def ol (k:Int) (l:List Im):Nat:=(l.filter fun x=>x.k==k).length
theorem KT {k:Int} {l:List Im} {i:Nat} (h:i<l.length):ol k (l.take (i+1))=ol k (l.take i)+(if (aj l i).k=k then 1 else 0):=by
 unfold ol
 rw [vm h,List.filter_append,wF]
 by_cases q:(aj l i).k=k<;>simp [q]
theorem KS (k:Int) (l:List Im):ol k l≤l.length:=List.length_filter_le _ _
def Vo (m:Md) (i:Nat):ac:=⟨134,4,[[.int .i64 (ol 0 (m.ims.take i):Nat),.int .i64 (ol 1 (m.ims.take i):Nat),.int .i64 (ol 2 (m.ims.take i):Nat),.int .i64 (ol 3 (m.ims.take i):Nat)]],true⟩
end
section
def NU:Fa:=⟨0,0,0,0⟩
def Rx (m:Md):Fa:=dC 1 64 0 (m.ts.map (fun x=>(0,Pu x))) NU
def Ry (m:Md):Fa:=dC 2 32 0 (m.ims.map (fun x=>(0,PF x))) (Rx m)
def Rz (m:Md):Fa:=dC 3 64 (ol 0 m.ims:Nat) (m.fs.map (fun x=>(0,Ph x))) (Ry m)
def RA (m:Md):Fa:=dC 4 4 (ol 1 m.ims:Nat) (m.tbs.map (fun x=>(0,NZ x))) (Rz m)
def RC (m:Md):Fa:=dC 5 2 (ol 2 m.ims:Nat) (m.ms.map (fun x=>(0,NW x))) (RA m)
def RE (P:cN→Bool) (m:Md):Fa:=dC 6 32 (ol 3 m.ims:Nat) (m.gs.map (Pw P)) (RC m)
def Mg (P:cN→Bool) (m:Md):Fa:=dC 7 64 0 (m.exs.map (fun x=>(0,Ps x))) (RE P m)
def HK (P:cN→Bool) (m:Md):Fa:=if m.hs=true∧tV m.st=false then kH (Mg P m) 8 0 0 11 else Mg P m
def RF (P:cN→Bool) (m:Md):Fa:=dC 9 16 0 (m.els.map (K2 P)) (HK P m)
def HJ (P:cN→Bool) (m:Md):Fa:=dC 10 16 0 (m.ds.map (KW P)) (RF P m)
def pO (P:cN→Bool) (m:Md):Fa:=dC 11 8 0 (m.cs.map (fun x=>(0,Pl x))) (HJ P m)
def lN (P:cN→Bool) (m:Md):Fa:=if (pO P m).c=0 then dC 12 (m.fs.length:Int) 0 (m.fs.map (fun x=>i0 P x.b)) (pO P m) else pO P m
attribute [local go_sem] dn f_ cm ck Vo
theorem oS (P:cN→Bool) (m:Md) (h:Nr m) (hP:∀y,EA y→ak Tryz.prog pP [jk y] (.bool (P y))):ak Tryz.prog Mv [cP m] (.agg [.int .i64 (lN P m).p,.int .i64 (lN P m).i,.int .i64 (lN P m).l,.int .i64 (lN P m).c]):=by
 refine ah (ic:=Kj.body) ap Tg rfl rfl ?_
 have c1:CM QJ [.int .i64 1,.sl 2 (m.ts.map dF),.int .i64 64,.int .i64 0,.fn QM []] NU (Rx m):=Df (by kernel_rfl) (fun x=>(0,Pu x)) m.ts (by have:=h.ts.1;omega) (fun x hx i=>VL i x (h.ts.2 x hx)) 1 64 0 NU
 have c2:CM Qy [.int .i64 2,.sl 13 (m.ims.map dy),.int .i64 32,.int .i64 0,.fn QN []] (Rx m) (Ry m):=Dh (by kernel_rfl) (fun x=>(0,PF x)) m.ims (by have:=h.ims;omega) (fun x hx i=>VM i x) 2 32 0 (Rx m)
 have c3:CM Ms [.int .i64 3,.sl 3 (m.fs.map dK),.int .i64 64,.int .i64 (ol 0 m.ims:Nat),.fn QO []] (Ry m) (Rz m):=sV (by kernel_rfl) (fun x=>(0,Ph x)) m.fs (by have:=h.fs.1;omega) (fun x hx i=>VN i x (h.fs.2 x hx)) 3 64 (ol 0 m.ims:Nat) (Ry m)
 have c4:CM QC [.int .i64 4,.sl 4 (m.tbs.map ez),.int .i64 4,.int .i64 (ol 1 m.ims:Nat),.fn QP []] (Rz m) (RA m):=Dj (by kernel_rfl) (fun x=>(0,NZ x)) m.tbs (by have:=h.tbs;omega) (fun x hx i=>VO i x) 4 4 (ol 1 m.ims:Nat) (Rz m)
 have c5:CM Qz [.int .i64 5,.sl 3 (m.ms.map eu),.int .i64 2,.int .i64 (ol 2 m.ims:Nat),.fn QQ []] (RA m) (RC m):=Di (by kernel_rfl) (fun x=>(0,NW x)) m.ms (by have:=h.ms;omega) (fun x hx i=>VP i x) 5 2 (ol 2 m.ims:Nat) (RA m)
 have c6:CM Vz [.int .i64 6,.sl 3 (m.gs.map ej),.int .i64 32,.int .i64 (ol 3 m.ims:Nat),.fn QR []] (RC m) (RE P m):=Dg (by kernel_rfl) (Pw P) m.gs (by have:=h.gs.1;omega) (fun x hx i=>VQ P i x (h.gs.2 x hx) hP) 6 32 (ol 3 m.ims:Nat) (RC m)
 have c7:CM Qx [.int .i64 7,.sl 3 (m.exs.map ei),.int .i64 64,.int .i64 0,.fn QS []] (RE P m) (Mg P m):=De (by kernel_rfl) (fun x=>(0,Ps x)) m.exs (by have:=h.exs;omega) (fun x hx i=>VR i x) 7 64 0 (RE P m)
 have c9:CM QI [.int .i64 9,.sl 5 (m.els.map dL),.int .i64 16,.int .i64 0,.fn QT []] (HK P m) (RF P m):=Dd (by kernel_rfl) (K2 P) m.els (by have:=h.els.1;omega) (fun x hx i=>VS P i x (h.els.2 x hx) hP) 9 16 0 (HK P m)
 have c10:CM QH [.int .i64 10,.sl 4 (m.ds.map et),.int .i64 16,.int .i64 0,.fn QU []] (RF P m) (HJ P m):=Dc (by kernel_rfl) (KW P) m.ds (by have:=h.ds.1;omega) (fun x hx i=>VT P i x (h.ds.2 x hx) hP) 10 16 0 (RF P m)
 have c11:CM Qw [.int .i64 11,.sl 3 (m.cs.map eB),.int .i64 8,.int .i64 0,.fn QK []] (HJ P m) (pO P m):=Db (by kernel_rfl) (fun x=>(0,Pl x)) m.cs (by have:=h.cs.1;omega) (fun x hx i=>TD i x) 11 8 0 (HJ P m)
 have c8:=jB m.st
 have c12:CM Ms [.int .i64 12,.sl 3 (m.fs.map dK),.int .i64 (m.fs.length:Int),.int .i64 0,.fn QL []] (pO P m) (dC 12 (m.fs.length:Int) 0 (m.fs.map (fun x=>i0 P x.b)) (pO P m)):=sV (by kernel_rfl) (fun x=>i0 P x.b) m.fs (by have:=h.fs.1;omega) (fun x hx i=>TE P i x (h.fs.2 x hx) hP) 12 (m.fs.length:Int) 0 (pO P m)
 simp only [go_sem,Kj,cP]
 refine an (fun j:Nat=>⟨[(13,.int .i64 j),(12,.int .i64 m.ims.length),(11,.sl 13 (m.ims.map dy)),(3,.mp 8 4 0 0),(4,.mp 4 4 0 0),(2,.mp 2 4 0 0),(1,.mp 1 12 0 0)],[(8,ck NU),(4,Vo m j),(2,⟨40,4,[[.int .i64 0,.int .i64 0,.int .i64 0,.int .i64 0]],true⟩),(1,⟨33,12,[kU m],true⟩)]⟩) (fun j=>j≤m.ims.length) (fun j=>m.ims.length - j) 0 (cq _) (Wk.of ?_ ?_) ?_
 ·simp only [go_sem];try simp
 ·simp only [go_sem,dN,ol,NU];try simp
 intro j hj
 by_cases h1:(j:Int)<(m.ims.length:Int)
 ·have hj':j<m.ims.length:=by omega
  have hil:=h.ims
  have e8:=cD hj' (by omega)
  have t:=fun k=>KT (k:=k) hj'
  have hle:=fun k=>cE (KS k (m.ims.take j)) (by rw [vy];omega:(m.ims.take j).length≤j)
  have w:=fun k:Int=>(by have:=hle k;rw [wi (by omega) (by omega)];omega:IntKind.i64.wrap ((ol k (m.ims.take j):Int)+1)=((ol k (m.ims.take j)+1:Nat):Int))
  by_cases q0:(aj m.ims j).k=0
  ·simp only [go_sem,az h1,q0,show decide ((0:Int)≥0)=true from rfl,show decide ((0:Int)≤3)=true from rfl,Nat.mul_one,Int.toNat_zero,Int.toNat_one,Int.reduceToNat,Nat.reduceMul,Nat.reduceAdd]
   refine ⟨by omega,h1,⟨by omega,by omega⟩,⟨by omega,by omega⟩,aA (j+1) (show j+1≤m.ims.length by omega) (show m.ims.length - (j+1)<m.ims.length - j by omega) (Wk.of ?_ ?_)⟩
   ·simp only [go_sem,e8];try simp
   ·simp only [go_sem];try simp [t,q0,w]
  by_cases q1:(aj m.ims j).k=1
  ·simp only [go_sem,az h1,q1,show decide ((1:Int)≥0)=true from rfl,show decide ((1:Int)≤3)=true from rfl,Nat.mul_one,Int.toNat_zero,Int.toNat_one,Int.reduceToNat,Nat.reduceMul,Nat.reduceAdd]
   refine ⟨by omega,h1,⟨by omega,by omega⟩,⟨by omega,by omega⟩,aA (j+1) (show j+1≤m.ims.length by omega) (show m.ims.length - (j+1)<m.ims.length - j by omega) (Wk.of ?_ ?_)⟩
   ·simp only [go_sem,e8];try simp
   ·simp only [go_sem];try simp [t,q1,w]
  by_cases q2:(aj m.ims j).k=2
  ·simp only [go_sem,az h1,q2,show decide ((2:Int)≥0)=true from rfl,show decide ((2:Int)≤3)=true from rfl,Nat.mul_one,Int.toNat_zero,Int.toNat_one,Int.reduceToNat,Nat.reduceMul,Nat.reduceAdd]
   refine ⟨by omega,h1,⟨by omega,by omega⟩,⟨by omega,by omega⟩,aA (j+1) (show j+1≤m.ims.length by omega) (show m.ims.length - (j+1)<m.ims.length - j by omega) (Wk.of ?_ ?_)⟩
   ·simp only [go_sem,e8];try simp
   ·simp only [go_sem];try simp [t,q2,w]
  by_cases q3:(aj m.ims j).k=3
  ·simp only [go_sem,az h1,q3,show decide ((3:Int)≥0)=true from rfl,show decide ((3:Int)≤3)=true from rfl,Nat.mul_one,Int.toNat_zero,Int.toNat_one,Int.reduceToNat,Nat.reduceMul,Nat.reduceAdd]
   refine ⟨by omega,h1,⟨by omega,by omega⟩,⟨by omega,by omega⟩,aA (j+1) (show j+1≤m.ims.length by omega) (show m.ims.length - (j+1)<m.ims.length - j by omega) (Wk.of ?_ ?_)⟩
   ·simp only [go_sem,e8];try simp
   ·simp only [go_sem];try simp [t,q3,w]
  by_cases q5:(aj m.ims j).k≥0
  ·simp only [go_sem,az h1,az q5,au (show ¬(aj m.ims j).k≤3 by omega)]
   refine ⟨by omega,h1,aA (j+1) (show j+1≤m.ims.length by omega) (show m.ims.length - (j+1)<m.ims.length - j by omega) (Wk.of ?_ ?_)⟩
   ·simp only [go_sem,e8];try simp
   ·simp only [go_sem];try simp [t,q0,q1,q2,q3]
  ·simp only [go_sem,az h1,au q5]
   refine ⟨by omega,h1,aA (j+1) (show j+1≤m.ims.length by omega) (show m.ims.length - (j+1)<m.ims.length - j by omega) (Wk.of ?_ ?_)⟩
   ·simp only [go_sem,e8];try simp
   ·simp only [go_sem];try simp [t,q0,q1,q2,q3]
 obtain rfl:j=m.ims.length:=by omega
 simp only [go_sem,au h1,eM]
 refine bZ (c1) ?_
 simp only [go_sem,Nat.mul_one,Int.toNat_zero,Int.toNat_one,Int.reduceToNat,Nat.reduceMul,Nat.reduceAdd]
 refine bZ (c2) ?_
 simp only [go_sem,Nat.mul_one,Int.toNat_zero,Int.toNat_one,Int.reduceToNat,Nat.reduceMul,Nat.reduceAdd]
 refine ⟨⟨by omega,by omega⟩,?_⟩
 refine bZ (c3) ?_
 simp only [go_sem,Nat.mul_one,Int.toNat_zero,Int.toNat_one,Int.reduceToNat,Nat.reduceMul,Nat.reduceAdd]
 refine ⟨⟨by omega,by omega⟩,?_⟩
 refine bZ (c4) ?_
 simp only [go_sem,Nat.mul_one,Int.toNat_zero,Int.toNat_one,Int.reduceToNat,Nat.reduceMul,Nat.reduceAdd]
 refine ⟨⟨by omega,by omega⟩,?_⟩
 refine bZ (c5) ?_
 simp only [go_sem,Nat.mul_one,Int.toNat_zero,Int.toNat_one,Int.reduceToNat,Nat.reduceMul,Nat.reduceAdd]
 refine ⟨⟨by omega,by omega⟩,?_⟩
 refine bZ (c6) ?_
 simp only [go_sem,Nat.mul_one,Int.toNat_zero,Int.toNat_one,Int.reduceToNat,Nat.reduceMul,Nat.reduceAdd]
 refine bZ (c7) ?_
 simp only [go_sem,Nat.mul_one,Int.toNat_zero,Int.toNat_one,Int.reduceToNat,Nat.reduceMul,Nat.reduceAdd]
 cases hh:m.hs
 ·rw [show HK P m=Mg P m by unfold HK;rw [hh,aJ (by simp)]] at c9
  simp only [go_sem,hh]
  refine bZ (c9) ?_
  simp only [go_sem]
  refine bZ (c10) ?_
  simp only [go_sem]
  refine bZ (c11) ?_
  simp only [go_sem]
  unfold lN
  by_cases z:(pO P m).c=0
  ·rw [bz z]
   simp only [go_sem,aV z]
   refine bZ (c12) ?_
   simp only [go_sem]
   exact ae
  ·rw [aJ z]
   simp only [go_sem,aw z]
   exact ae
 simp only [go_sem,hh]
 refine aa (c8) ?_
 cases hi:tV m.st
 ·have cf:=uR (Mg P m) 8 0 0 11
  rw [show kH (Mg P m) 8 0 0 11=HK P m by unfold HK;rw [hh,hi,bz ⟨rfl,rfl⟩]] at cf
  simp only [go_sem]
  refine bZ (cf) ?_
  simp only [go_sem]
  refine bZ (c9) ?_
  simp only [go_sem]
  refine bZ (c10) ?_
  simp only [go_sem]
  refine bZ (c11) ?_
  simp only [go_sem]
  unfold lN
  by_cases z:(pO P m).c=0
  ·rw [bz z]
   simp only [go_sem,aV z]
   refine bZ (c12) ?_
   simp only [go_sem]
   exact ae
  ·rw [aJ z]
   simp only [go_sem,aw z]
   exact ae
 ·rw [show HK P m=Mg P m by unfold HK;rw [hi,aJ (by simp)]] at c9
  simp only [go_sem]
  refine bZ (c9) ?_
  simp only [go_sem]
  refine bZ (c10) ?_
  simp only [go_sem]
  refine bZ (c11) ?_
  simp only [go_sem]
  unfold lN
  by_cases z:(pO P m).c=0
  ·rw [bz z]
   simp only [go_sem,aV z]
   refine bZ (c12) ?_
   simp only [go_sem]
   exact ae
  ·rw [aJ z]
   simp only [go_sem,aw z]
   exact ae
end
section
attribute [local go_sem] dn bM cm bP cI cG cz cF ce bR bW bN aU
theorem Dq {f:FuncId} (hb:aY Tryz.prog f=true) (a b:List Ft) (ha:a.length≤9223372036854775807) (hf:∀x∈a,∀y,ak Tryz.prog f [.agg (dF x),.agg (dF y)] (.bool (decide (x=y)))):ak Tryz.prog Ub [.sl 2 (a.map dF),.sl 2 (b.map dF),.fn f []] (.bool (decide (a=b))):=by
 refine ah (ic:=E4.body) ap Sy rfl rfl ?_
 by_cases hl:(a.length:Int)=(b.length:Int)
 rotate_left
 ·rw [au (fun h=>hl (by rw [h]))]
  simp only [go_sem,E4,bc hl]
  exact ae
 simp only [go_sem,E4,ay hl]
 refine an (fun j:Nat=>⟨[(15,.int .i64 j),(14,.int .i64 a.length),(0,.sl 2 (a.map dF)),(1,.sl 2 (b.map dF)),(2,.fn f [])],[]⟩) (fun j=>j≤a.length∧∀k,k<j→aj a k=aj b k) (fun j=>a.length - j) 0 ⟨cq _,fun k hk=>by omega⟩ (Wk.of ?_ ?_) ?_
 ·simp only [go_sem,hl];try simp
 ·simp only [go_sem]
 rintro j ⟨hj,hx⟩
 by_cases h1:(j:Int)<(a.length:Int)
 rotate_left
 ·rw [az (ci (by omega) fun k hk=>hx k (by omega))]
  simp only [go_sem,au h1]
  exact ae
 have hj':j<a.length:=by omega
 have hjb:(j:Int)<(b.length:Int):=by omega
 have e8:=cD hj' (by omega)
 have hF:=ca (P:=Tryz.prog) (by kernel_rfl) hb
 have cc:=aX hf hj' (aj b j)
 try simp only [bM,cm,bP,cI,cG,cz,cF,ce,bR,bW,bN,aU,c_] at cc
 by_cases h2:aj a j=aj b j
 ·rw [az h2] at cc
  simp only [go_sem,az h1,hF]
  refine ⟨by omega,h1,by omega,hjb,?_⟩
  refine ⟨hb,?_⟩
  refine aa (cc) ?_
  simp only [go_sem]
  refine aA (j+1) ⟨show j+1≤a.length by omega,fun k hk=>?_⟩ (show a.length - (j+1)<a.length - j by omega) (Wk.of ?_ ?_)
  ·rcases bK k j with h | h
   ·exact hx k h
   ·rw [show k=j by omega];exact h2
  ·simp only [go_sem,e8];try simp
  ·simp only [go_sem]
 ·rw [au h2] at cc
  rw [au (fun e=>h2 (by rw [e]))]
  simp only [go_sem,az h1,hF]
  refine ⟨by omega,h1,by omega,hjb,?_⟩
  refine ⟨hb,?_⟩
  refine aa (cc) ?_
  simp only [go_sem]
  exact ae
theorem Ds {f:FuncId} (hb:aY Tryz.prog f=true) (a b:List Im) (ha:a.length≤9223372036854775807) (hf:∀x∈a,∀y,ak Tryz.prog f [.agg (dy x),.agg (dy y)] (.bool (decide (x=y)))):ak Tryz.prog T4 [.sl 13 (a.map dy),.sl 13 (b.map dy),.fn f []] (.bool (decide (a=b))):=by
 refine ah (ic:=EW.body) ap Sk rfl rfl ?_
 by_cases hl:(a.length:Int)=(b.length:Int)
 rotate_left
 ·rw [au (fun h=>hl (by rw [h]))]
  simp only [go_sem,EW,bc hl]
  exact ae
 simp only [go_sem,EW,ay hl]
 refine an (fun j:Nat=>⟨[(15,.int .i64 j),(14,.int .i64 a.length),(0,.sl 13 (a.map dy)),(1,.sl 13 (b.map dy)),(2,.fn f [])],[]⟩) (fun j=>j≤a.length∧∀k,k<j→aj a k=aj b k) (fun j=>a.length - j) 0 ⟨cq _,fun k hk=>by omega⟩ (Wk.of ?_ ?_) ?_
 ·simp only [go_sem,hl];try simp
 ·simp only [go_sem]
 rintro j ⟨hj,hx⟩
 by_cases h1:(j:Int)<(a.length:Int)
 rotate_left
 ·rw [az (ci (by omega) fun k hk=>hx k (by omega))]
  simp only [go_sem,au h1]
  exact ae
 have hj':j<a.length:=by omega
 have hjb:(j:Int)<(b.length:Int):=by omega
 have e8:=cD hj' (by omega)
 have hF:=ca (P:=Tryz.prog) (by kernel_rfl) hb
 have cc:=aX hf hj' (aj b j)
 try simp only [bM,cm,bP,cI,cG,cz,cF,ce,bR,bW,bN,aU,c_] at cc
 by_cases h2:aj a j=aj b j
 ·rw [az h2] at cc
  simp only [go_sem,az h1,hF]
  refine ⟨by omega,h1,by omega,hjb,?_⟩
  refine ⟨hb,?_⟩
  refine aa (cc) ?_
  simp only [go_sem]
  refine aA (j+1) ⟨show j+1≤a.length by omega,fun k hk=>?_⟩ (show a.length - (j+1)<a.length - j by omega) (Wk.of ?_ ?_)
  ·rcases bK k j with h | h
   ·exact hx k h
   ·rw [show k=j by omega];exact h2
  ·simp only [go_sem,e8];try simp
  ·simp only [go_sem]
 ·rw [au h2] at cc
  rw [au (fun e=>h2 (by rw [e]))]
  simp only [go_sem,az h1,hF]
  refine ⟨by omega,h1,by omega,hjb,?_⟩
  refine ⟨hb,?_⟩
  refine aa (cc) ?_
  simp only [go_sem]
  exact ae
theorem Dl {f:FuncId} (hb:aY Tryz.prog f=true) (a b:List Cd) (ha:a.length≤9223372036854775807) (hf:∀x∈a,∀y,ak Tryz.prog f [.agg (dK x),.agg (dK y)] (.bool (decide (x=y)))):ak Tryz.prog T9 [.sl 3 (a.map dK),.sl 3 (b.map dK),.fn f []] (.bool (decide (a=b))):=by
 refine ah (ic:=E1.body) ap Sv rfl rfl ?_
 by_cases hl:(a.length:Int)=(b.length:Int)
 rotate_left
 ·rw [au (fun h=>hl (by rw [h]))]
  simp only [go_sem,E1,bc hl]
  exact ae
 simp only [go_sem,E1,ay hl]
 refine an (fun j:Nat=>⟨[(15,.int .i64 j),(14,.int .i64 a.length),(0,.sl 3 (a.map dK)),(1,.sl 3 (b.map dK)),(2,.fn f [])],[]⟩) (fun j=>j≤a.length∧∀k,k<j→aj a k=aj b k) (fun j=>a.length - j) 0 ⟨cq _,fun k hk=>by omega⟩ (Wk.of ?_ ?_) ?_
 ·simp only [go_sem,hl];try simp
 ·simp only [go_sem]
 rintro j ⟨hj,hx⟩
 by_cases h1:(j:Int)<(a.length:Int)
 rotate_left
 ·rw [az (ci (by omega) fun k hk=>hx k (by omega))]
  simp only [go_sem,au h1]
  exact ae
 have hj':j<a.length:=by omega
 have hjb:(j:Int)<(b.length:Int):=by omega
 have e8:=cD hj' (by omega)
 have hF:=ca (P:=Tryz.prog) (by kernel_rfl) hb
 have cc:=aX hf hj' (aj b j)
 try simp only [bM,cm,bP,cI,cG,cz,cF,ce,bR,bW,bN,aU,c_] at cc
 by_cases h2:aj a j=aj b j
 ·rw [az h2] at cc
  simp only [go_sem,az h1,hF]
  refine ⟨by omega,h1,by omega,hjb,?_⟩
  refine ⟨hb,?_⟩
  refine aa (cc) ?_
  simp only [go_sem]
  refine aA (j+1) ⟨show j+1≤a.length by omega,fun k hk=>?_⟩ (show a.length - (j+1)<a.length - j by omega) (Wk.of ?_ ?_)
  ·rcases bK k j with h | h
   ·exact hx k h
   ·rw [show k=j by omega];exact h2
  ·simp only [go_sem,e8];try simp
  ·simp only [go_sem]
 ·rw [au h2] at cc
  rw [au (fun e=>h2 (by rw [e]))]
  simp only [go_sem,az h1,hF]
  refine ⟨by omega,h1,by omega,hjb,?_⟩
  refine ⟨hb,?_⟩
  refine aa (cc) ?_
  simp only [go_sem]
  exact ae
theorem Dv {f:FuncId} (hb:aY Tryz.prog f=true) (a b:List Tb) (ha:a.length≤9223372036854775807) (hf:∀x∈a,∀y,ak Tryz.prog f [.agg (ez x),.agg (ez y)] (.bool (decide (x=y)))):ak Tryz.prog T8 [.sl 4 (a.map ez),.sl 4 (b.map ez),.fn f []] (.bool (decide (a=b))):=by
 refine ah (ic:=E0.body) ap Sp rfl rfl ?_
 by_cases hl:(a.length:Int)=(b.length:Int)
 rotate_left
 ·rw [au (fun h=>hl (by rw [h]))]
  simp only [go_sem,E0,bc hl]
  exact ae
 simp only [go_sem,E0,ay hl]
 refine an (fun j:Nat=>⟨[(15,.int .i64 j),(14,.int .i64 a.length),(0,.sl 4 (a.map ez)),(1,.sl 4 (b.map ez)),(2,.fn f [])],[]⟩) (fun j=>j≤a.length∧∀k,k<j→aj a k=aj b k) (fun j=>a.length - j) 0 ⟨cq _,fun k hk=>by omega⟩ (Wk.of ?_ ?_) ?_
 ·simp only [go_sem,hl];try simp
 ·simp only [go_sem]
 rintro j ⟨hj,hx⟩
 by_cases h1:(j:Int)<(a.length:Int)
 rotate_left
 ·rw [az (ci (by omega) fun k hk=>hx k (by omega))]
  simp only [go_sem,au h1]
  exact ae
 have hj':j<a.length:=by omega
 have hjb:(j:Int)<(b.length:Int):=by omega
 have e8:=cD hj' (by omega)
 have hF:=ca (P:=Tryz.prog) (by kernel_rfl) hb
 have cc:=aX hf hj' (aj b j)
 try simp only [bM,cm,bP,cI,cG,cz,cF,ce,bR,bW,bN,aU,c_] at cc
 by_cases h2:aj a j=aj b j
 ·rw [az h2] at cc
  simp only [go_sem,az h1,hF]
  refine ⟨by omega,h1,by omega,hjb,?_⟩
  refine ⟨hb,?_⟩
  refine aa (cc) ?_
  simp only [go_sem]
  refine aA (j+1) ⟨show j+1≤a.length by omega,fun k hk=>?_⟩ (show a.length - (j+1)<a.length - j by omega) (Wk.of ?_ ?_)
  ·rcases bK k j with h | h
   ·exact hx k h
   ·rw [show k=j by omega];exact h2
  ·simp only [go_sem,e8];try simp
  ·simp only [go_sem]
 ·rw [au h2] at cc
  rw [au (fun e=>h2 (by rw [e]))]
  simp only [go_sem,az h1,hF]
  refine ⟨by omega,h1,by omega,hjb,?_⟩
  refine ⟨hb,?_⟩
  refine aa (cc) ?_
  simp only [go_sem]
  exact ae
theorem Dt {f:FuncId} (hb:aY Tryz.prog f=true) (a b:List Lm) (ha:a.length≤9223372036854775807) (hf:∀x∈a,∀y,ak Tryz.prog f [.agg (eu x),.agg (eu y)] (.bool (decide (x=y)))):ak Tryz.prog T5 [.sl 3 (a.map eu),.sl 3 (b.map eu),.fn f []] (.bool (decide (a=b))):=by
 refine ah (ic:=EX.body) ap Sl rfl rfl ?_
 by_cases hl:(a.length:Int)=(b.length:Int)
 rotate_left
 ·rw [au (fun h=>hl (by rw [h]))]
  simp only [go_sem,EX,bc hl]
  exact ae
 simp only [go_sem,EX,ay hl]
 refine an (fun j:Nat=>⟨[(15,.int .i64 j),(14,.int .i64 a.length),(0,.sl 3 (a.map eu)),(1,.sl 3 (b.map eu)),(2,.fn f [])],[]⟩) (fun j=>j≤a.length∧∀k,k<j→aj a k=aj b k) (fun j=>a.length - j) 0 ⟨cq _,fun k hk=>by omega⟩ (Wk.of ?_ ?_) ?_
 ·simp only [go_sem,hl];try simp
 ·simp only [go_sem]
 rintro j ⟨hj,hx⟩
 by_cases h1:(j:Int)<(a.length:Int)
 rotate_left
 ·rw [az (ci (by omega) fun k hk=>hx k (by omega))]
  simp only [go_sem,au h1]
  exact ae
 have hj':j<a.length:=by omega
 have hjb:(j:Int)<(b.length:Int):=by omega
 have e8:=cD hj' (by omega)
 have hF:=ca (P:=Tryz.prog) (by kernel_rfl) hb
 have cc:=aX hf hj' (aj b j)
 try simp only [bM,cm,bP,cI,cG,cz,cF,ce,bR,bW,bN,aU,c_] at cc
 by_cases h2:aj a j=aj b j
 ·rw [az h2] at cc
  simp only [go_sem,az h1,hF]
  refine ⟨by omega,h1,by omega,hjb,?_⟩
  refine ⟨hb,?_⟩
  refine aa (cc) ?_
  simp only [go_sem]
  refine aA (j+1) ⟨show j+1≤a.length by omega,fun k hk=>?_⟩ (show a.length - (j+1)<a.length - j by omega) (Wk.of ?_ ?_)
  ·rcases bK k j with h | h
   ·exact hx k h
   ·rw [show k=j by omega];exact h2
  ·simp only [go_sem,e8];try simp
  ·simp only [go_sem]
 ·rw [au h2] at cc
  rw [au (fun e=>h2 (by rw [e]))]
  simp only [go_sem,az h1,hF]
  refine ⟨by omega,h1,by omega,hjb,?_⟩
  refine ⟨hb,?_⟩
  refine aa (cc) ?_
  simp only [go_sem]
  exact ae
theorem Dr {f:FuncId} (hb:aY Tryz.prog f=true) (a b:List Gd) (ha:a.length≤9223372036854775807) (hf:∀x∈a,∀y,ak Tryz.prog f [.agg (ej x),.agg (ej y)] (.bool (decide (x=y)))):ak Tryz.prog TY [.sl 3 (a.map ej),.sl 3 (b.map ej),.fn f []] (.bool (decide (a=b))):=by
 refine ah (ic:=ES.body) ap R8 rfl rfl ?_
 by_cases hl:(a.length:Int)=(b.length:Int)
 rotate_left
 ·rw [au (fun h=>hl (by rw [h]))]
  simp only [go_sem,ES,bc hl]
  exact ae
 simp only [go_sem,ES,ay hl]
 refine an (fun j:Nat=>⟨[(15,.int .i64 j),(14,.int .i64 a.length),(0,.sl 3 (a.map ej)),(1,.sl 3 (b.map ej)),(2,.fn f [])],[]⟩) (fun j=>j≤a.length∧∀k,k<j→aj a k=aj b k) (fun j=>a.length - j) 0 ⟨cq _,fun k hk=>by omega⟩ (Wk.of ?_ ?_) ?_
 ·simp only [go_sem,hl];try simp
 ·simp only [go_sem]
 rintro j ⟨hj,hx⟩
 by_cases h1:(j:Int)<(a.length:Int)
 rotate_left
 ·rw [az (ci (by omega) fun k hk=>hx k (by omega))]
  simp only [go_sem,au h1]
  exact ae
 have hj':j<a.length:=by omega
 have hjb:(j:Int)<(b.length:Int):=by omega
 have e8:=cD hj' (by omega)
 have hF:=ca (P:=Tryz.prog) (by kernel_rfl) hb
 have cc:=aX hf hj' (aj b j)
 try simp only [bM,cm,bP,cI,cG,cz,cF,ce,bR,bW,bN,aU,c_] at cc
 by_cases h2:aj a j=aj b j
 ·rw [az h2] at cc
  simp only [go_sem,az h1,hF]
  refine ⟨by omega,h1,by omega,hjb,?_⟩
  refine ⟨hb,?_⟩
  refine aa (cc) ?_
  simp only [go_sem]
  refine aA (j+1) ⟨show j+1≤a.length by omega,fun k hk=>?_⟩ (show a.length - (j+1)<a.length - j by omega) (Wk.of ?_ ?_)
  ·rcases bK k j with h | h
   ·exact hx k h
   ·rw [show k=j by omega];exact h2
  ·simp only [go_sem,e8];try simp
  ·simp only [go_sem]
 ·rw [au h2] at cc
  rw [au (fun e=>h2 (by rw [e]))]
  simp only [go_sem,az h1,hF]
  refine ⟨by omega,h1,by omega,hjb,?_⟩
  refine ⟨hb,?_⟩
  refine aa (cc) ?_
  simp only [go_sem]
  exact ae
theorem Dp {f:FuncId} (hb:aY Tryz.prog f=true) (a b:List Ex) (ha:a.length≤9223372036854775807) (hf:∀x∈a,∀y,ak Tryz.prog f [.agg (ei x),.agg (ei y)] (.bool (decide (x=y)))):ak Tryz.prog T3 [.sl 3 (a.map ei),.sl 3 (b.map ei),.fn f []] (.bool (decide (a=b))):=by
 refine ah (ic:=EV.body) ap Sj rfl rfl ?_
 by_cases hl:(a.length:Int)=(b.length:Int)
 rotate_left
 ·rw [au (fun h=>hl (by rw [h]))]
  simp only [go_sem,EV,bc hl]
  exact ae
 simp only [go_sem,EV,ay hl]
 refine an (fun j:Nat=>⟨[(15,.int .i64 j),(14,.int .i64 a.length),(0,.sl 3 (a.map ei)),(1,.sl 3 (b.map ei)),(2,.fn f [])],[]⟩) (fun j=>j≤a.length∧∀k,k<j→aj a k=aj b k) (fun j=>a.length - j) 0 ⟨cq _,fun k hk=>by omega⟩ (Wk.of ?_ ?_) ?_
 ·simp only [go_sem,hl];try simp
 ·simp only [go_sem]
 rintro j ⟨hj,hx⟩
 by_cases h1:(j:Int)<(a.length:Int)
 rotate_left
 ·rw [az (ci (by omega) fun k hk=>hx k (by omega))]
  simp only [go_sem,au h1]
  exact ae
 have hj':j<a.length:=by omega
 have hjb:(j:Int)<(b.length:Int):=by omega
 have e8:=cD hj' (by omega)
 have hF:=ca (P:=Tryz.prog) (by kernel_rfl) hb
 have cc:=aX hf hj' (aj b j)
 try simp only [bM,cm,bP,cI,cG,cz,cF,ce,bR,bW,bN,aU,c_] at cc
 by_cases h2:aj a j=aj b j
 ·rw [az h2] at cc
  simp only [go_sem,az h1,hF]
  refine ⟨by omega,h1,by omega,hjb,?_⟩
  refine ⟨hb,?_⟩
  refine aa (cc) ?_
  simp only [go_sem]
  refine aA (j+1) ⟨show j+1≤a.length by omega,fun k hk=>?_⟩ (show a.length - (j+1)<a.length - j by omega) (Wk.of ?_ ?_)
  ·rcases bK k j with h | h
   ·exact hx k h
   ·rw [show k=j by omega];exact h2
  ·simp only [go_sem,e8];try simp
  ·simp only [go_sem]
 ·rw [au h2] at cc
  rw [au (fun e=>h2 (by rw [e]))]
  simp only [go_sem,az h1,hF]
  refine ⟨by omega,h1,by omega,hjb,?_⟩
  refine ⟨hb,?_⟩
  refine aa (cc) ?_
  simp only [go_sem]
  exact ae
theorem Do {f:FuncId} (hb:aY Tryz.prog f=true) (a b:List El) (ha:a.length≤9223372036854775807) (hf:∀x∈a,∀y,ak Tryz.prog f [.agg (dL x),.agg (dL y)] (.bool (decide (x=y)))):ak Tryz.prog Ua [.sl 5 (a.map dL),.sl 5 (b.map dL),.fn f []] (.bool (decide (a=b))):=by
 refine ah (ic:=E3.body) ap Sx rfl rfl ?_
 by_cases hl:(a.length:Int)=(b.length:Int)
 rotate_left
 ·rw [au (fun h=>hl (by rw [h]))]
  simp only [go_sem,E3,bc hl]
  exact ae
 simp only [go_sem,E3,ay hl]
 refine an (fun j:Nat=>⟨[(15,.int .i64 j),(14,.int .i64 a.length),(0,.sl 5 (a.map dL)),(1,.sl 5 (b.map dL)),(2,.fn f [])],[]⟩) (fun j=>j≤a.length∧∀k,k<j→aj a k=aj b k) (fun j=>a.length - j) 0 ⟨cq _,fun k hk=>by omega⟩ (Wk.of ?_ ?_) ?_
 ·simp only [go_sem,hl];try simp
 ·simp only [go_sem]
 rintro j ⟨hj,hx⟩
 by_cases h1:(j:Int)<(a.length:Int)
 rotate_left
 ·rw [az (ci (by omega) fun k hk=>hx k (by omega))]
  simp only [go_sem,au h1]
  exact ae
 have hj':j<a.length:=by omega
 have hjb:(j:Int)<(b.length:Int):=by omega
 have e8:=cD hj' (by omega)
 have hF:=ca (P:=Tryz.prog) (by kernel_rfl) hb
 have cc:=aX hf hj' (aj b j)
 try simp only [bM,cm,bP,cI,cG,cz,cF,ce,bR,bW,bN,aU,c_] at cc
 by_cases h2:aj a j=aj b j
 ·rw [az h2] at cc
  simp only [go_sem,az h1,hF]
  refine ⟨by omega,h1,by omega,hjb,?_⟩
  refine ⟨hb,?_⟩
  refine aa (cc) ?_
  simp only [go_sem]
  refine aA (j+1) ⟨show j+1≤a.length by omega,fun k hk=>?_⟩ (show a.length - (j+1)<a.length - j by omega) (Wk.of ?_ ?_)
  ·rcases bK k j with h | h
   ·exact hx k h
   ·rw [show k=j by omega];exact h2
  ·simp only [go_sem,e8];try simp
  ·simp only [go_sem]
 ·rw [au h2] at cc
  rw [au (fun e=>h2 (by rw [e]))]
  simp only [go_sem,az h1,hF]
  refine ⟨by omega,h1,by omega,hjb,?_⟩
  refine ⟨hb,?_⟩
  refine aa (cc) ?_
  simp only [go_sem]
  exact ae
theorem Dn {f:FuncId} (hb:aY Tryz.prog f=true) (a b:List Da) (ha:a.length≤9223372036854775807) (hf:∀x∈a,∀y,ak Tryz.prog f [.agg (et x),.agg (et y)] (.bool (decide (x=y)))):ak Tryz.prog T_ [.sl 4 (a.map et),.sl 4 (b.map et),.fn f []] (.bool (decide (a=b))):=by
 refine ah (ic:=E2.body) ap Sw rfl rfl ?_
 by_cases hl:(a.length:Int)=(b.length:Int)
 rotate_left
 ·rw [au (fun h=>hl (by rw [h]))]
  simp only [go_sem,E2,bc hl]
  exact ae
 simp only [go_sem,E2,ay hl]
 refine an (fun j:Nat=>⟨[(15,.int .i64 j),(14,.int .i64 a.length),(0,.sl 4 (a.map et)),(1,.sl 4 (b.map et)),(2,.fn f [])],[]⟩) (fun j=>j≤a.length∧∀k,k<j→aj a k=aj b k) (fun j=>a.length - j) 0 ⟨cq _,fun k hk=>by omega⟩ (Wk.of ?_ ?_) ?_
 ·simp only [go_sem,hl];try simp
 ·simp only [go_sem]
 rintro j ⟨hj,hx⟩
 by_cases h1:(j:Int)<(a.length:Int)
 rotate_left
 ·rw [az (ci (by omega) fun k hk=>hx k (by omega))]
  simp only [go_sem,au h1]
  exact ae
 have hj':j<a.length:=by omega
 have hjb:(j:Int)<(b.length:Int):=by omega
 have e8:=cD hj' (by omega)
 have hF:=ca (P:=Tryz.prog) (by kernel_rfl) hb
 have cc:=aX hf hj' (aj b j)
 try simp only [bM,cm,bP,cI,cG,cz,cF,ce,bR,bW,bN,aU,c_] at cc
 by_cases h2:aj a j=aj b j
 ·rw [az h2] at cc
  simp only [go_sem,az h1,hF]
  refine ⟨by omega,h1,by omega,hjb,?_⟩
  refine ⟨hb,?_⟩
  refine aa (cc) ?_
  simp only [go_sem]
  refine aA (j+1) ⟨show j+1≤a.length by omega,fun k hk=>?_⟩ (show a.length - (j+1)<a.length - j by omega) (Wk.of ?_ ?_)
  ·rcases bK k j with h | h
   ·exact hx k h
   ·rw [show k=j by omega];exact h2
  ·simp only [go_sem,e8];try simp
  ·simp only [go_sem]
 ·rw [au h2] at cc
  rw [au (fun e=>h2 (by rw [e]))]
  simp only [go_sem,az h1,hF]
  refine ⟨by omega,h1,by omega,hjb,?_⟩
  refine ⟨hb,?_⟩
  refine aa (cc) ?_
  simp only [go_sem]
  exact ae
theorem Dm {f:FuncId} (hb:aY Tryz.prog f=true) (a b:List Cu) (ha:a.length≤9223372036854775807) (hf:∀x∈a,∀y,ak Tryz.prog f [.agg (eB x),.agg (eB y)] (.bool (decide (x=y)))):ak Tryz.prog T0 [.sl 3 (a.map eB),.sl 3 (b.map eB),.fn f []] (.bool (decide (a=b))):=by
 refine ah (ic:=EU.body) ap Si rfl rfl ?_
 by_cases hl:(a.length:Int)=(b.length:Int)
 rotate_left
 ·rw [au (fun h=>hl (by rw [h]))]
  simp only [go_sem,EU,bc hl]
  exact ae
 simp only [go_sem,EU,ay hl]
 refine an (fun j:Nat=>⟨[(15,.int .i64 j),(14,.int .i64 a.length),(0,.sl 3 (a.map eB)),(1,.sl 3 (b.map eB)),(2,.fn f [])],[]⟩) (fun j=>j≤a.length∧∀k,k<j→aj a k=aj b k) (fun j=>a.length - j) 0 ⟨cq _,fun k hk=>by omega⟩ (Wk.of ?_ ?_) ?_
 ·simp only [go_sem,hl];try simp
 ·simp only [go_sem]
 rintro j ⟨hj,hx⟩
 by_cases h1:(j:Int)<(a.length:Int)
 rotate_left
 ·rw [az (ci (by omega) fun k hk=>hx k (by omega))]
  simp only [go_sem,au h1]
  exact ae
 have hj':j<a.length:=by omega
 have hjb:(j:Int)<(b.length:Int):=by omega
 have e8:=cD hj' (by omega)
 have hF:=ca (P:=Tryz.prog) (by kernel_rfl) hb
 have cc:=aX hf hj' (aj b j)
 try simp only [bM,cm,bP,cI,cG,cz,cF,ce,bR,bW,bN,aU,c_] at cc
 by_cases h2:aj a j=aj b j
 ·rw [az h2] at cc
  simp only [go_sem,az h1,hF]
  refine ⟨by omega,h1,by omega,hjb,?_⟩
  refine ⟨hb,?_⟩
  refine aa (cc) ?_
  simp only [go_sem]
  refine aA (j+1) ⟨show j+1≤a.length by omega,fun k hk=>?_⟩ (show a.length - (j+1)<a.length - j by omega) (Wk.of ?_ ?_)
  ·rcases bK k j with h | h
   ·exact hx k h
   ·rw [show k=j by omega];exact h2
  ·simp only [go_sem,e8];try simp
  ·simp only [go_sem]
 ·rw [au h2] at cc
  rw [au (fun e=>h2 (by rw [e]))]
  simp only [go_sem,az h1,hF]
  refine ⟨by omega,h1,by omega,hjb,?_⟩
  refine ⟨hb,?_⟩
  refine aa (cc) ?_
  simp only [go_sem]
  exact ae
theorem yn {f:FuncId} (hb:aY Tryz.prog f=true) (a b:List cN) (ha:a.length≤9223372036854775807) (hf:∀x∈a,∀y,ak Tryz.prog f [.agg (aU x),.agg (aU y)] (.bool (decide (x=y)))):ak Tryz.prog T7 [.sl 9 (a.map aU),.sl 9 (b.map aU),.fn f []] (.bool (decide (a=b))):=by
 refine ah (ic:=EZ.body) ap So rfl rfl ?_
 by_cases hl:(a.length:Int)=(b.length:Int)
 rotate_left
 ·rw [au (fun h=>hl (by rw [h]))]
  simp only [go_sem,EZ,bc hl]
  exact ae
 simp only [go_sem,EZ,ay hl]
 refine an (fun j:Nat=>⟨[(15,.int .i64 j),(14,.int .i64 a.length),(0,.sl 9 (a.map aU)),(1,.sl 9 (b.map aU)),(2,.fn f [])],[]⟩) (fun j=>j≤a.length∧∀k,k<j→aj a k=aj b k) (fun j=>a.length - j) 0 ⟨cq _,fun k hk=>by omega⟩ (Wk.of ?_ ?_) ?_
 ·simp only [go_sem,hl];try simp
 ·simp only [go_sem]
 rintro j ⟨hj,hx⟩
 by_cases h1:(j:Int)<(a.length:Int)
 rotate_left
 ·rw [az (ci (by omega) fun k hk=>hx k (by omega))]
  simp only [go_sem,au h1]
  exact ae
 have hj':j<a.length:=by omega
 have hjb:(j:Int)<(b.length:Int):=by omega
 have e8:=cD hj' (by omega)
 have hF:=ca (P:=Tryz.prog) (by kernel_rfl) hb
 have cc:=aX hf hj' (aj b j)
 try simp only [bM,cm,bP,cI,cG,cz,cF,ce,bR,bW,bN,aU,c_] at cc
 by_cases h2:aj a j=aj b j
 ·rw [az h2] at cc
  simp only [go_sem,az h1,hF]
  refine ⟨by omega,h1,by omega,hjb,?_⟩
  refine ⟨hb,?_⟩
  refine aa (cc) ?_
  simp only [go_sem]
  refine aA (j+1) ⟨show j+1≤a.length by omega,fun k hk=>?_⟩ (show a.length - (j+1)<a.length - j by omega) (Wk.of ?_ ?_)
  ·rcases bK k j with h | h
   ·exact hx k h
   ·rw [show k=j by omega];exact h2
  ·simp only [go_sem,e8];try simp
  ·simp only [go_sem]
 ·rw [au h2] at cc
  rw [au (fun e=>h2 (by rw [e]))]
  simp only [go_sem,az h1,hF]
  refine ⟨by omega,h1,by omega,hjb,?_⟩
  refine ⟨hb,?_⟩
  refine aa (cc) ?_
  simp only [go_sem]
  exact ae
theorem Du {f:FuncId} (hb:aY Tryz.prog f=true) (a b:List (List cN)) (ha:a.length≤9223372036854775807) (hf:∀x∈a,∀y,ak Tryz.prog f [.sl 9 (x.map aU),.sl 9 (y.map aU)] (.bool (decide (x=y)))):ak Tryz.prog TZ [.sl 1 (a.map cU),.sl 1 (b.map cU),.fn f []] (.bool (decide (a=b))):=by
 refine ah (ic:=ET.body) ap Sh rfl rfl ?_
 by_cases hl:(a.length:Int)=(b.length:Int)
 rotate_left
 ·rw [au (fun h=>hl (by rw [h]))]
  simp only [go_sem,ET,bc hl]
  exact ae
 simp only [go_sem,ET,ay hl]
 refine an (fun j:Nat=>⟨[(15,.int .i64 j),(14,.int .i64 a.length),(0,.sl 1 (a.map cU)),(1,.sl 1 (b.map cU)),(2,.fn f [])],[]⟩) (fun j=>j≤a.length∧∀k,k<j→aj a k=aj b k) (fun j=>a.length - j) 0 ⟨cq _,fun k hk=>by omega⟩ (Wk.of ?_ ?_) ?_
 ·simp only [go_sem,hl];try simp
 ·simp only [go_sem]
 rintro j ⟨hj,hx⟩
 by_cases h1:(j:Int)<(a.length:Int)
 rotate_left
 ·rw [az (ci (by omega) fun k hk=>hx k (by omega))]
  simp only [go_sem,au h1]
  exact ae
 have hj':j<a.length:=by omega
 have hjb:(j:Int)<(b.length:Int):=by omega
 have e8:=cD hj' (by omega)
 have hF:=ca (P:=Tryz.prog) (by kernel_rfl) hb
 have cc:=aX hf hj' (aj b j)
 try simp only [bM,cm,bP,cI,cG,cz,cF,ce,bR,bW,bN,aU,c_] at cc
 by_cases h2:aj a j=aj b j
 ·rw [az h2] at cc
  simp only [go_sem,az h1,hF]
  refine ⟨by omega,h1,by omega,hjb,?_⟩
  refine ⟨hb,?_⟩
  refine aa (cc) ?_
  simp only [go_sem]
  refine aA (j+1) ⟨show j+1≤a.length by omega,fun k hk=>?_⟩ (show a.length - (j+1)<a.length - j by omega) (Wk.of ?_ ?_)
  ·rcases bK k j with h | h
   ·exact hx k h
   ·rw [show k=j by omega];exact h2
  ·simp only [go_sem,e8];try simp
  ·simp only [go_sem]
 ·rw [au h2] at cc
  rw [au (fun e=>h2 (by rw [e]))]
  simp only [go_sem,az h1,hF]
  refine ⟨by omega,h1,by omega,hjb,?_⟩
  refine ⟨hb,?_⟩
  refine aa (cc) ?_
  simp only [go_sem]
  exact ae
theorem Mn (x y:Im):ak Tryz.prog Qm [.agg (dy x),.agg (dy y)] (.bool (decide (x=y))):=by
 refine ah (ic:=JT.body) ap R_ rfl rfl ?_
 simp only [go_sem,JT,mW]
 exact ae
theorem Mp (x y:Tb):ak Tryz.prog Qv [.agg (ez x),.agg (ez y)] (.bool (decide (x=y))):=by
 refine ah (ic:=JV.body) ap Sc rfl rfl ?_
 simp only [go_sem,JV,EG]
 exact ae
theorem Mo (x y:Lm):ak Tryz.prog Qs [.agg (eu x),.agg (eu y)] (.bool (decide (x=y))):=by
 refine ah (ic:=JU.body) ap Sa rfl rfl ?_
 simp only [go_sem,JU,C3]
 exact ae
theorem Mm (x y:Ex):ak Tryz.prog Qf [.agg (ei x),.agg (ei y)] (.bool (decide (x=y))):=by
 refine ah (ic:=JS.body) ap R9 rfl rfl ?_
 simp only [go_sem,JS,Bx]
 exact ae
end
end Go.Proofs.YtdefmgmmjfgbpaaGreatDoor