import Derived.Test.YtdfofedlbljnhaaGreatDoorQk
set_option linter.all false
set_option maxRecDepth 100000
set_option maxHeartbeats 40000000
namespace Go.Proofs.YtdfofedlbljnhaaGreatDoor
section
open Go Go.Mw
attribute [local go_sem] af_
def st_ (s:List UInt8):List AV:=[.str s]
theorem ajI (s:List UInt8):st_ s=[.str s]:=rfl
attribute [go_sem] ajI
end
section
open Go Go.Mw
def yO (op:Int):Option Oc:=OC.find? (fun o=>o.op==op)
def rNm (op:Int):List UInt8:=((yO op).getD default).nm
def sZ (op:Int):Int:=((yO op).getD default).im
def yM (op:Int):Bool:=(yO op).isSome
attribute [local go_sem] af_
def Qq (s p:List UInt8):Bool:=(List.range (s.length+1)).any fun i=>decide (i+p.length≤s.length)&&((s.drop i).take p.length==p)
def wR (s:List UInt8):Int:=if Qq s [100,56]=true then 1 else if Qq s [101,56]=true then 1 else if Qq s [100,49,54]=true then 2 else if Qq s [101,49,54]=true then 2 else
 if Qq s [100,51,50]=true then 4 else if Qq s [101,51,50]=true then 4 else if (s.drop 1).take 2=[51,50] then 4 else 8
def Qk (op:Int):Int:=if sZ op≠17 then 0 else wR (rNm op)
def ae2 (w:Int):Int:=if w=2 then 1 else if w=4 then 2 else if w=8 then 3 else 0
def free (op:Int):Bool:=op==1||(op==2||(op==3||(op==5||op==11)))
def Ry (op:Int):Int:=if free op=true then 0 else if yM op=true then 1 else 0
end
open Go Go.Mw
theorem Ky {p:Int→List UInt8→Bool} (h:EN.all (fun x=>p x.1 x.2)=true) (op:Int):dq op=[]∨p op (dq op)=true:=by
 unfold dq
 cases hr:EN.find? (fun x=>x.1==op) with
 | none=>exact .inl rfl
 | some o =>
  have h1:=fg.1 h o (List.mem_of_find?_eq_some hr)
  have h2:=List.find?_some hr
  simp only [beq_iff_eq] at h2
  rw [h2] at h1
  exact .inr h1
theorem Mc (op:Int):(dq op).length<1000:=by
 rcases Ky (p:=fun _ s=>decide (s.length<1000)) (by decide +kernel) op with h | h
 ·rw [h];decide
 ·exact of_decide_eq_true h
def ZL (op:Int):Bool:=decide (op≥40)&&(decide (op≤62) && !(dq op==[]))
theorem We (op:Int) (h:ZL op=true):5≤(dq op).length:=by
 simp only [ZL,cC,fo,rg,gy,ne_eq] at h
 rcases Ky (p:=fun k s=>decide (40≤k→k≤62→5≤s.length)) (by decide +kernel) op with h1 | h1
 ·exact absurd h1 h.2.2
 ·exact (of_decide_eq_true h1) h.1 h.2.1
theorem yT (op:Int):ao pg EF [.int .i64 op] (.bool (!(dq op==[]))):=by
 refine aL tC ?_
 simp only [go_sem,tC]
 refine aa (Ok op) ?_
 exact aj
def hpf (s p:List UInt8):Bool:=decide (p.length≤s.length)&&(s.take p.length==p)
theorem UX (op:Int):ao pg Cb [.int .i64 op] (.bool (ZL op)):=by
 refine aL jg ?_
 unfold ZL
 by_cases h1:op≥40
 ·by_cases h2:op≤62
  ·simp only [go_sem,jg,aO h1,aO h2,bU]
   refine aa (yT op) ?_
   exact aj
  ·simp only [go_sem,jg,aO h1,aQ h2,bU,rh]
   exact aj
 ·simp only [go_sem,jg,aQ h1,rh]
  exact aj
def wNm (s:List UInt8):Int:=if Lib.contains (s.drop 4) [56]=true then 1 else if Lib.contains (s.drop 4) [49,54]=true then 2 else if Lib.contains (s.drop 4) [51,50]=true then 4 else if s.take 3=[105,51,50] then 4 else 8
def y9 (op:Int):Int:=if ZL op=true then wNm (dq op) else 0
theorem U6 (op:Int):ao pg EG [.int .i64 op] (.int .i64 (y9 op)):=by
 refine aL tE ?_
 simp only [go_sem,tE]
 refine ax (UX op) ?_
 cases hac:ZL op
 ·have r:y9 op=0:=by rw [y9,hac];rfl
  rw [r]
  simp only [go_sem]
  exact aB
 ·have r:y9 op=wNm (dq op):=by rw [y9,hac];rfl
  have hl:=Mc op
  have hl2:=We op hac
  rw [r]
  simp only [go_sem]
  refine aa (Ok op) ?_
  generalize dq op=s at hl hl2
  obtain ⟨Inv,hInv⟩:∃Inv:Nat→Prop,Inv=fun i=>i≤3∧(0<i→Lib.contains (s.drop 4) [56]=false)∧(1<i→Lib.contains (s.drop 4) [49,54]=false)∧(2<i→Lib.contains (s.drop 4) [51,50]=false):=⟨_,rfl⟩
  refine aw (fun i:Nat=>⟨[(11,.ms 11 1 0 3),(12,.int .i64 3),(13,.int .i64 i),(3,.str s),(2,.int .i64 0)],[(11,⟨3,1,[[.int .i64 8],[.int .i64 16],[.int .i64 32]],false⟩)]⟩) Inv (fun i=>3 - i) 0 (by rw [hInv];exact ⟨by decide,fun h=>absurd h (by decide),fun h=>absurd h (by decide),fun h=>absurd h (by decide)⟩) (Wk.of ?_ ?_) ?_
  ·simp only [go_sem];try simp
  ·simp only [go_sem];try simp
  intro i hInv1
  rw [hInv] at hInv1
  obtain ⟨hi,h1,h2,h3⟩:=hInv1
  have hd:(s.drop 4).length<4294967281:=by simp;omega
  have e4:(s.drop 4).take (s.length - 4)=s.drop 4:=fL (by simp)
  have hl4:4≤s.length:=by omega
  have c0:((0:Nat):Int)=0:=rfl
  have c1:((1:Nat):Int)=1:=rfl
  have c2:((2:Nat):Int)=2:=rfl
  have c3:((3:Nat):Int)=3:=rfl
  have ld:∀k:Nat,ldO none 1 k 0 (some ⟨3,1,[[.int .i64 8],[.int .i64 16],[.int .i64 32]],false⟩)=(match k with | 0=>some (.int .i64 8) | 1=>some (.int .i64 16) | 2=>some (.int .i64 32) | _=>none):=fun k=>by
   rcases k with _ | _ | _ | k<;>rfl
  have ls:∀k:Nat,ldO none 1 k 0 (some ⟨9,1,[[.str [56]],[.str [49,54]],[.str [51,50]]],false⟩)=(match k with | 0=>some (.str [56]) | 1=>some (.str [49,54]) | 2=>some (.str [51,50]) | _=>none):=fun k=>by
   rcases k with _ | _ | _ | k<;>rfl
  have q0:IntKind.i64.wrap ((8:Int).tdiv 16)=0:=by decide
  have q1:IntKind.i64.wrap ((16:Int).tdiv 16)=1:=by decide
  have q2:IntKind.i64.wrap ((32:Int).tdiv 16)=2:=by decide
  have p0:IntKind.i64.wrap ((8:Int).tdiv 8)=1:=by decide
  have p1:IntKind.i64.wrap ((16:Int).tdiv 8)=2:=by decide
  have p2:IntKind.i64.wrap ((32:Int).tdiv 8)=4:=by decide
  have s0:IntKind.i64.wrap ((0:Int)+1)=1:=by decide
  have s1:IntKind.i64.wrap ((1:Int)+1)=2:=by decide
  have s2:IntKind.i64.wrap ((2:Int)+1)=3:=by decide
  have t0:(0:Int).toNat=0:=rfl
  have t1:(1:Int).toNat=1:=rfl
  have t2:(2:Int).toNat=2:=rfl
  unfold wNm
  rcases (show i=0∨i=1∨i=2∨i=3 by omega) with rfl | rfl | rfl | rfl
  ·simp only [go_sem,hl4,e4,c0,c1,c2,c3,aO (show (0:Int)<3 by decide),ld,ls,q0,q1,q2,t0,t1,t2]
   refine ⟨⟨by decide,by decide⟩,⟨by decide,by omega⟩,by decide,⟨by decide,by decide⟩,?_⟩
   refine ax (xG (s.drop 4) [56] hd) ?_
   cases hc:Lib.contains (s.drop 4) [56]
   ·simp only [go_sem]
    refine aG 1 (by rw [hInv];exact ⟨by decide,fun _=>hc,fun h=>absurd h (by decide),fun h=>absurd h (by decide)⟩) (show 3 - 1<3 - 0 by decide) (Wk.of ?_ ?_)
    ·simp only [go_sem,s0,s1,s2,c0,c1,c2,c3]
     try simp
    ·simp only [go_sem]
   ·simp only [go_sem,p0,p1,p2]
    exact ⟨by decide,by exact aB⟩
  ·rw [h1 (by decide)]
   simp only [go_sem,hl4,e4,c0,c1,c2,c3,aO (show (1:Int)<3 by decide),ld,ls,q0,q1,q2,t0,t1,t2]
   refine ⟨⟨by decide,by decide⟩,⟨by decide,by omega⟩,by decide,⟨by decide,by decide⟩,?_⟩
   refine ax (xG (s.drop 4) [49,54] hd) ?_
   cases hc:Lib.contains (s.drop 4) [49,54]
   ·simp only [go_sem]
    refine aG 2 (by rw [hInv];exact ⟨by decide,fun _=>h1 (by decide),fun _=>hc,fun h=>absurd h (by decide)⟩) (show 3 - 2<3 - 1 by decide) (Wk.of ?_ ?_)
    ·simp only [go_sem,s0,s1,s2,c0,c1,c2,c3]
     try simp
    ·simp only [go_sem]
   ·simp only [go_sem,p0,p1,p2]
    exact ⟨by decide,by exact aB⟩
  ·rw [h1 (by decide)]
   rw [h2 (by decide)]
   simp only [go_sem,hl4,e4,c0,c1,c2,c3,aO (show (2:Int)<3 by decide),ld,ls,q0,q1,q2,t0,t1,t2]
   refine ⟨⟨by decide,by decide⟩,⟨by decide,by omega⟩,by decide,⟨by decide,by decide⟩,?_⟩
   refine ax (xG (s.drop 4) [51,50] hd) ?_
   cases hc:Lib.contains (s.drop 4) [51,50]
   ·simp only [go_sem]
    refine aG 3 (by rw [hInv];exact ⟨by decide,fun _=>h1 (by decide),fun _=>h2 (by decide),fun _=>hc⟩) (show 3 - 3<3 - 2 by decide) (Wk.of ?_ ?_)
    ·simp only [go_sem,s0,s1,s2,c0,c1,c2,c3]
     try simp
    ·simp only [go_sem]
   ·simp only [go_sem,p0,p1,p2]
    exact ⟨by decide,by exact aB⟩
  ·rw [h1 (by decide),h2 (by decide),h3 (by decide)]
   have e5:((3:Int)).toNat=3:=rfl
   simp only [go_sem,c3,aQ (show ¬(3:Int)<3 by decide),List.drop_zero,e5]
   refine ⟨by omega,fun h=>?_,fun h=>?_⟩
   ·rw [ap (by simpa using h)]
    exact aB
   ·rw [ah (by simpa using h)]
    exact aB
def ae1 (w:Int):Int:=if w=1 then 0 else if w=2 then 1 else if w=4 then 2 else if w=8 then 3 else 0
def ad6:List (Int×Int):=[(37,9),(38,9),(64528,9),(64527,9),(64529,9),(64526,10),(64524,11),(64525,12),(63,13),(64,13),(64523,13),(64522,14),(64520,15),(64521,16)]
def MW (op:Int):Int:=match ad6.find? (fun p=>p.1==op) with
 | some p=>p.2
 | none=>0
theorem Qe (op:Int):ao pg Cc [.int .i64 op] (.int .i64 (MW op)):=by
 refine aL bj ?_
 by_cases h0:op=37
 ·subst h0
  simp only [go_sem,bj]
  exact aB
 by_cases h1:op=38
 ·subst h1
  simp only [go_sem,bj]
  exact aB
 by_cases h2:op=64528
 ·subst h2
  simp only [go_sem,bj]
  exact aB
 by_cases h3:op=64527
 ·subst h3
  simp only [go_sem,bj]
  exact aB
 by_cases h4:op=64529
 ·subst h4
  simp only [go_sem,bj]
  exact aB
 by_cases h5:op=64526
 ·subst h5
  simp only [go_sem,bj]
  exact aB
 by_cases h6:op=64524
 ·subst h6
  simp only [go_sem,bj]
  exact aB
 by_cases h7:op=64525
 ·subst h7
  simp only [go_sem,bj]
  exact aB
 by_cases h8:op=63
 ·subst h8
  simp only [go_sem,bj]
  exact aB
 by_cases h9:op=64
 ·subst h9
  simp only [go_sem,bj]
  exact aB
 by_cases h10:op=64523
 ·subst h10
  simp only [go_sem,bj]
  exact aB
 by_cases h11:op=64522
 ·subst h11
  simp only [go_sem,bj]
  exact aB
 by_cases h12:op=64520
 ·subst h12
  simp only [go_sem,bj]
  exact aB
 by_cases h13:op=64521
 ·subst h13
  simp only [go_sem,bj]
  exact aB
 have r:MW op=0:=by
  simp only [MW,ad6,List.find?_cons,List.find?_nil,ay (fun e:(37:Int)=op=>h0 e.symm),ay (fun e:(38:Int)=op=>h1 e.symm),ay (fun e:(64528:Int)=op=>h2 e.symm),ay (fun e:(64527:Int)=op=>h3 e.symm),ay (fun e:(64529:Int)=op=>h4 e.symm),ay (fun e:(64526:Int)=op=>h5 e.symm),ay (fun e:(64524:Int)=op=>h6 e.symm),ay (fun e:(64525:Int)=op=>h7 e.symm),ay (fun e:(63:Int)=op=>h8 e.symm),ay (fun e:(64:Int)=op=>h9 e.symm),ay (fun e:(64523:Int)=op=>h10 e.symm),ay (fun e:(64522:Int)=op=>h11 e.symm),ay (fun e:(64520:Int)=op=>h12 e.symm),ay (fun e:(64521:Int)=op=>h13 e.symm)]
 rw [r]
 simp only [go_sem,bj,ay h0,ay h1,ay h2,ay h3,ay h4,ay h5,ay h6,ay h7,ay h8,ay h9,ay h10,ay h11,ay h12,ay h13]
 exact aB
def ab9:List (Int×Int):=[(2,1),(3,1),(4,1),(12,2),(13,2),(14,3),(16,4),(210,4),(17,5),(28,6),(32,7),(33,7),(34,7),(35,8),(36,8),(65,18),(66,19),(208,20)]
def J9 (op:Int):Int:=match ab9.find? (fun p=>p.1==op) with
 | some p=>p.2
 | none=>if y9 op>0 then 17 else MW op
theorem U2 (op:Int):ao pg Kx [.int .i64 op] (.int .i64 (J9 op)):=by
 refine aL bI ?_
 by_cases h0:op=2
 ·subst h0
  simp only [go_sem,bI]
  exact aB
 by_cases h1:op=3
 ·subst h1
  simp only [go_sem,bI]
  exact aB
 by_cases h2:op=4
 ·subst h2
  simp only [go_sem,bI]
  exact aB
 by_cases h3:op=12
 ·subst h3
  simp only [go_sem,bI]
  exact aB
 by_cases h4:op=13
 ·subst h4
  simp only [go_sem,bI]
  exact aB
 by_cases h5:op=14
 ·subst h5
  simp only [go_sem,bI]
  exact aB
 by_cases h6:op=16
 ·subst h6
  simp only [go_sem,bI]
  exact aB
 by_cases h7:op=210
 ·subst h7
  simp only [go_sem,bI]
  exact aB
 by_cases h8:op=17
 ·subst h8
  simp only [go_sem,bI]
  exact aB
 by_cases h9:op=28
 ·subst h9
  simp only [go_sem,bI]
  exact aB
 by_cases h10:op=32
 ·subst h10
  simp only [go_sem,bI]
  exact aB
 by_cases h11:op=33
 ·subst h11
  simp only [go_sem,bI]
  exact aB
 by_cases h12:op=34
 ·subst h12
  simp only [go_sem,bI]
  exact aB
 by_cases h13:op=35
 ·subst h13
  simp only [go_sem,bI]
  exact aB
 by_cases h14:op=36
 ·subst h14
  simp only [go_sem,bI]
  exact aB
 by_cases h15:op=65
 ·subst h15
  simp only [go_sem,bI]
  exact aB
 by_cases h16:op=66
 ·subst h16
  simp only [go_sem,bI]
  exact aB
 by_cases h17:op=208
 ·subst h17
  simp only [go_sem,bI]
  exact aB
 have r:J9 op=if y9 op>0 then 17 else MW op:=by
  simp only [J9,ab9,List.find?_cons,List.find?_nil,ay (fun e:(2:Int)=op=>h0 e.symm),ay (fun e:(3:Int)=op=>h1 e.symm),ay (fun e:(4:Int)=op=>h2 e.symm),ay (fun e:(12:Int)=op=>h3 e.symm),ay (fun e:(13:Int)=op=>h4 e.symm),ay (fun e:(14:Int)=op=>h5 e.symm),ay (fun e:(16:Int)=op=>h6 e.symm),ay (fun e:(210:Int)=op=>h7 e.symm),ay (fun e:(17:Int)=op=>h8 e.symm),ay (fun e:(28:Int)=op=>h9 e.symm),ay (fun e:(32:Int)=op=>h10 e.symm),ay (fun e:(33:Int)=op=>h11 e.symm),ay (fun e:(34:Int)=op=>h12 e.symm),ay (fun e:(35:Int)=op=>h13 e.symm),ay (fun e:(36:Int)=op=>h14 e.symm),ay (fun e:(65:Int)=op=>h15 e.symm),ay (fun e:(66:Int)=op=>h16 e.symm),ay (fun e:(208:Int)=op=>h17 e.symm)]
 rw [r]
 simp only [go_sem,bI,ay h0,ay h1,ay h2,ay h3,ay h4,ay h5,ay h6,ay h7,ay h8,ay h9,ay h10,ay h11,ay h12,ay h13,ay h14,ay h15,ay h16,ay h17]
 refine ax (U6 op) ?_
 by_cases hw:y9 op>0
 ·simp only [go_sem,aO hw,ap hw]
  exact aB
 ·simp only [go_sem,aQ hw,ah hw]
  refine aa (Qe op) ?_
  exact aB
def Rx (op:Int):Int:=if free op=true then 0 else if dq op=[] then 0 else 1
def aeh:List (Int×Bool×Bool×Bool):=[(2,true,false,false),(3,true,false,false),(4,true,false,false),(7,true,false,false),(8,true,false,false),(9,true,false,false),(12,true,false,false),(16,true,false,false),(20,true,false,false),(5,true,true,false),(10,true,true,false),(11,true,true,false),(14,true,true,false),(15,true,true,false),(13,false,true,false),(17,true,true,true),(18,false,false,true),(19,false,false,true)]
def Li (i:Int):Bool×Bool×Bool:=match aeh.find? (fun p=>p.1==i) with
 | some p=>p.2
 | none=>(false,false,false)
theorem adL (i:Int):ao pg F8 [.int .i64 i] (.tup [.bool (Li i).1,.bool (Li i).2.1,.bool (Li i).2.2]):=by
 refine aL be ?_
 by_cases h0:i=2
 ·subst h0
  simp only [go_sem,be]
  exact aB
 by_cases h1:i=3
 ·subst h1
  simp only [go_sem,be]
  exact aB
 by_cases h2:i=4
 ·subst h2
  simp only [go_sem,be]
  exact aB
 by_cases h3:i=7
 ·subst h3
  simp only [go_sem,be]
  exact aB
 by_cases h4:i=8
 ·subst h4
  simp only [go_sem,be]
  exact aB
 by_cases h5:i=9
 ·subst h5
  simp only [go_sem,be]
  exact aB
 by_cases h6:i=12
 ·subst h6
  simp only [go_sem,be]
  exact aB
 by_cases h7:i=16
 ·subst h7
  simp only [go_sem,be]
  exact aB
 by_cases h8:i=20
 ·subst h8
  simp only [go_sem,be]
  exact aB
 by_cases h9:i=5
 ·subst h9
  simp only [go_sem,be]
  exact aB
 by_cases h10:i=10
 ·subst h10
  simp only [go_sem,be]
  exact aB
 by_cases h11:i=11
 ·subst h11
  simp only [go_sem,be]
  exact aB
 by_cases h12:i=14
 ·subst h12
  simp only [go_sem,be]
  exact aB
 by_cases h13:i=15
 ·subst h13
  simp only [go_sem,be]
  exact aB
 by_cases h14:i=13
 ·subst h14
  simp only [go_sem,be]
  exact aB
 by_cases h15:i=17
 ·subst h15
  simp only [go_sem,be]
  exact aB
 by_cases h16:i=18
 ·subst h16
  simp only [go_sem,be]
  exact aB
 by_cases h17:i=19
 ·subst h17
  simp only [go_sem,be]
  exact aB
 have r:Li i=(false,false,false):=by
  simp only [Li,aeh,List.find?_cons,List.find?_nil,ay (fun e:(2:Int)=i=>h0 e.symm),ay (fun e:(3:Int)=i=>h1 e.symm),ay (fun e:(4:Int)=i=>h2 e.symm),ay (fun e:(7:Int)=i=>h3 e.symm),ay (fun e:(8:Int)=i=>h4 e.symm),ay (fun e:(9:Int)=i=>h5 e.symm),ay (fun e:(12:Int)=i=>h6 e.symm),ay (fun e:(16:Int)=i=>h7 e.symm),ay (fun e:(20:Int)=i=>h8 e.symm),ay (fun e:(5:Int)=i=>h9 e.symm),ay (fun e:(10:Int)=i=>h10 e.symm),ay (fun e:(11:Int)=i=>h11 e.symm),ay (fun e:(14:Int)=i=>h12 e.symm),ay (fun e:(15:Int)=i=>h13 e.symm),ay (fun e:(13:Int)=i=>h14 e.symm),ay (fun e:(17:Int)=i=>h15 e.symm),ay (fun e:(18:Int)=i=>h16 e.symm),ay (fun e:(19:Int)=i=>h17 e.symm)]
 rw [r]
 simp only [go_sem,be,ay h0,ay h1,ay h2,ay h3,ay h4,ay h5,ay h6,ay h7,ay h8,ay h9,ay h10,ay h11,ay h12,ay h13,ay h14,ay h15,ay h16,ay h17]
 exact aB
theorem Ze (n:Int):ao pg ul [.int .i64 n] (.bool (decide (n≥0)&&decide (n<4294967296))):=by
 refine aL oC ?_
 by_cases h:n≥0
 ·simp only [go_sem,oC,aO h,bU]
  exact aj
 ·simp only [go_sem,oC,aQ h,rh]
  exact aj
section
def pq (n:Int):Bool:=decide (n≥0)&&decide (n<4294967296)
def FL (n:Int):Bool:=decide (n≥1)&&decide (n≤4)
def LA (k v z:Int):Bool:=if k=0 then (v==0)&&(z==0) else if k=1 then FL v&&(z==0) else if k=2 then (v==0)&&pq z else false
theorem Zf (n:Int):ao pg ul [.int .i64 n] (.bool (pq n)):=Ze n
attribute [local go_sem] d_ di
theorem ag2 (n:Int):ao pg Iv [.int .i64 n] (.bool (FL n)):=by
 refine aL rG ?_
 unfold FL
 by_cases h:n≥1
 ·simp only [go_sem,rG,aO h,bU]
  exact aj
 ·simp only [go_sem,rG,aQ h,rh]
  exact aj
theorem nt_ {a b:Int} (h:(a != b)=true):(a==b)=false:=by simpa using h
theorem nf_ {a b:Int} (h:(a != b)=false):(a==b)=true:=by simpa using h
theorem nb_ {b:Bool} (h:(!b)=true):b=false:=by cases b<;>first | rfl | cases h
theorem nc_ {b:Bool} (h:(!b)=false):b=true:=by cases b<;>first | rfl | cases h
theorem UY (k v z:Int):ao pg EH [.agg [.int .i64 k,.int .i64 v,.int .i64 z]] (.bool (LA k v z)):=by
 refine aL gH ?_
 unfold LA
 by_cases h0:k=0
 ·subst h0
  rw [ap rfl]
  simp only [go_sem,gH]
  exact aB
 by_cases h1:k=1
 ·subst h1
  rw [ah h0,ap rfl]
  simp only [go_sem,gH]
  refine ax (ag2 v) ?_
  cases FL v
  ·simp only [go_sem]
   exact aB
  ·simp only [go_sem]
   exact aB
 by_cases h2:k=2
 ·subst h2
  rw [ah h0,ah h1,ap rfl]
  simp only [go_sem,gH]
  refine ⟨fun h=>?_,fun h=>?_⟩
  ·refine ax (Zf z) ?_
   rw [h]
   simp only [go_sem]
   exact aB
  ·rw [h]
   exact aB
 rw [ah h0,ah h1,ah h2]
 simp only [go_sem,gH,ay h0,ay h1,ay h2]
 exact aB
theorem Wv {f:Int→Bool} {l:List Int} (h:∀k,k<l.length→f (ac l k)=true):l.all f=true:=by
 rw [fg]
 intro x hx
 obtain ⟨k,hk,rfl⟩:=List.mem_iff_getElem.1 hx
 have:=h k hk
 rwa [bp hk] at this
theorem Wu {f:Int→Bool} {l:List Int} {k:Nat} (hk:k<l.length) (h:f (ac l k)=false):l.all f=false:=by
 rw [List.all_eq_false]
 exact ⟨ac l k,by rw [bp hk];exact List.getElem_mem hk,by rw [h];decide⟩
end
section
def B5 (i:Int) (x:aZ):Bool :=
 if i=1 then LA x.k x.v x.x else if i=6 then ((x.ty.length:Int)==1)&&FL (ac x.ty 0) else if i=17 then decide (x.a≤63) else if i=20 then (x.a==3)||(x.a==4) else x.lb.all pq
def plP (i:Int) (kn:Bool) (u:Bool×Bool×Bool) (x:aZ):Bool :=
 kn&&((u.1||(x.a==0))&&((u.2.1||(x.b==0))&&((u.2.2||(x.n==0))&&(pq x.a&&(pq x.b &&
 (((i==19) || !decide (x.n≥4294967296))&&(((i==1)||((x.k==0)&&((x.v==0)&&(x.x==0))))&&(((i==6) || !decide ((x.ty.length:Int)>0))&&(((i==3) || !decide ((x.lb.length:Int)>0))&&B5 i x)))))))))
def CL:List (Bool×Bool×Bool×Bool×Bool×Bool×Bool×Bool×Bool) :=
 [(false,false,false,true,false,false,false,false,false),
  (true,false,false,false,true,false,false,false,false),
  (false,false,false,false,false,true,false,false,false),
  (true,true,true,false,false,false,true,false,false),
  (false,false,true,false,false,false,false,true,false),
  (true,false,false,false,false,false,false,false,true),
  (true,false,false,false,false,false,false,false,false),
  (true,true,false,false,false,false,false,false,false),
  (false,true,false,false,false,false,false,false,false),
  (false,false,true,false,false,false,false,false,false),
  (false,false,false,false,false,false,false,false,false)]
theorem cls (i:Int) (hi:0≤i∧i≤20):((Li i).1,(Li i).2.1,(Li i).2.2,(i==1),(i==3),(i==6),(i==17),(i==19),(i==20))∈CL:=by
 obtain ⟨h1,h2⟩:=hi
 obtain ⟨n,rfl⟩:=Bt h1
 have hn:n≤20:=by omega
 clear h1 h2
 have:∀n:Fin 21,((Li (n.val:Nat)).1,(Li (n.val:Nat)).2.1,(Li (n.val:Nat)).2.2,(((n.val:Nat):Int)==1),(((n.val:Nat):Int)==3),(((n.val:Nat):Int)==6),(((n.val:Nat):Int)==17),(((n.val:Nat):Int)==19),(((n.val:Nat):Int)==20))∈CL:=by decide +kernel
 exact this ⟨n,by omega⟩
attribute [local go_sem] d_ di dE
theorem K7 (x:aZ) (i:Int) (hi:0≤i∧i≤20) (him:J9 x.op=i) (hl:x.lb.length≤9223372036854775807):ao pg cz [dJ x] (.bool (plP i (!(dq x.op==[])) (Li i) x)):=by
 refine aL tD ?_
 have a1:=U2 x.op
 rw [him] at a1
 have a2:=adL i
 have a3:=yT x.op
 have hc:=cls i hi
 unfold plP
 generalize (Li i).1=ua at hc a2
 generalize (Li i).2.1=ub at hc a2
 generalize (Li i).2.2=un at hc a2
 generalize h1:(i==1)=k1 at hc
 generalize h3:(i==3)=k3 at hc
 generalize h6:(i==6)=k6 at hc
 generalize h17:(i==17)=k17 at hc
 generalize h19:(i==19)=k19 at hc
 generalize h20:(i==20)=k20 at hc
 simp only [CL,dc,List.not_mem_nil,or_false,Prod.mk.injEq] at hc
 rcases hc with ⟨rfl,rfl,rfl,rfl,rfl,rfl,rfl,rfl,rfl⟩ | ⟨rfl,rfl,rfl,rfl,rfl,rfl,rfl,rfl,rfl⟩ | ⟨rfl,rfl,rfl,rfl,rfl,rfl,rfl,rfl,rfl⟩ | ⟨rfl,rfl,rfl,rfl,rfl,rfl,rfl,rfl,rfl⟩ | ⟨rfl,rfl,rfl,rfl,rfl,rfl,rfl,rfl,rfl⟩ | ⟨rfl,rfl,rfl,rfl,rfl,rfl,rfl,rfl,rfl⟩ | ⟨rfl,rfl,rfl,rfl,rfl,rfl,rfl,rfl,rfl⟩ | ⟨rfl,rfl,rfl,rfl,rfl,rfl,rfl,rfl,rfl⟩ | ⟨rfl,rfl,rfl,rfl,rfl,rfl,rfl,rfl,rfl⟩ | ⟨rfl,rfl,rfl,rfl,rfl,rfl,rfl,rfl,rfl⟩ | ⟨rfl,rfl,rfl,rfl,rfl,rfl,rfl,rfl,rfl⟩
 all_goals
  have d1:(i != 1) = !(i==1):=rfl
  have d3:(i != 3) = !(i==3):=rfl
  have d6:(i != 6) = !(i==6):=rfl
  have d19:(i != 19) = !(i==19):=rfl
  rw [h1] at d1
  rw [h3] at d3
  rw [h6] at d6
  rw [h19] at d19
  simp only [h1,h3,h6,h19,eC,eE,bU]
  simp only [go_sem,tD]
  refine aa (a1) ?_
  refine aa (a2) ?_
  refine ax (a3) ?_
  cases hk:!(dq x.op==[])
  ·simp only [go_sem]
   exact aB
  rw [bU]
  simp only [go_sem]
  iterate 3 (first | (refine ⟨fun h=>?_,fun h=>?_⟩
                      ·rw [nt_ h,rh]
                       exact aB
                      rw [nf_ h,bU]) | skip)
  refine ax (Zf x.a) ?_
  cases hA:pq x.a
  ·rw [rh]
   simp only [go_sem]
   exact aB
  rw [bU]
  simp only [go_sem]
  refine ax (Zf x.b) ?_
  cases hB:pq x.b
  ·rw [rh]
   simp only [go_sem]
   exact aB
  rw [bU]
  simp only [go_sem,d1,d3,d6,d19,h1,h6,h17,h20,dh,cD]
  iterate 4 (first | (refine ⟨fun h=>?_,fun h=>?_⟩
                      ·(first | rw [aO h,dh,rh] | rw [nb_ h,rh])
                       exact aB
                      (first | rw [aQ h,cD,bU] | rw [nc_ h,bU])) | skip)
 ·have r:B5 i x=LA x.k x.v x.x:=by rw [B5,ap (eq_of_beq h1)]
  rw [r]
  refine aa (UY x.k x.v x.x) ?_
  exact aB
 rotate_left
 ·have r:B5 i x=(((x.ty.length:Int)==1)&&FL (ac x.ty 0)):=by rw [B5,ah (ne_of_beq_false h1),ap (eq_of_beq h6)]
  rw [r]
  refine ⟨fun h=>⟨by decide,?_,?_⟩,fun h=>?_⟩
  ·have:=eq_of_beq h
   omega
  ·rw [h,bU]
   refine aa (ag2 (ac x.ty 0)) ?_
   exact aB
  ·rw [h,rh]
   exact aB
 ·have r:B5 i x=decide (x.a≤63):=by rw [B5,ah (ne_of_beq_false h1),ah (ne_of_beq_false h6),ap (eq_of_beq h17)]
  rw [r]
  exact aB
 rotate_left
 ·have r:B5 i x=((x.a==3)||(x.a==4)):=by rw [B5,ah (ne_of_beq_false h1),ah (ne_of_beq_false h6),ah (ne_of_beq_false h17),ap (eq_of_beq h20)]
  rw [r]
  refine ⟨fun h=>?_,fun h=>?_⟩
  ·rw [h,eC]
   exact aB
  ·rw [h,eE]
   exact aB
 all_goals
  have r:B5 i x=x.lb.all pq:=by rw [B5,ah (ne_of_beq_false h1),ah (ne_of_beq_false h6),ah (ne_of_beq_false h17),ah (ne_of_beq_false h20)]
  rw [r]
  refine aw (fun i:Nat=>⟨[(133,.sl 1 (x.lb.map mA)),(134,.int .i64 x.lb.length),(135,.int .i64 i)],[]⟩) (fun i=>i≤x.lb.length∧∀k,k<i→pq (ac x.lb k)=true) (fun i=>x.lb.length - i) 0 ⟨cX _,fun k hk=>absurd hk (Nat.not_lt_zero k)⟩ (Wk.of ?_ ?_) ?_
  ·simp only [go_sem];try simp
  ·trivial
  rintro j ⟨hj,hk⟩
  by_cases q1:(j:Int)<(x.lb.length:Int)
  ·have e8:=wi (n:=(j:Int)+1) (by omega) (by omega)
   simp only [go_sem,aO q1]
   refine ⟨by omega,q1,?_⟩
   refine ax (Zf (ac x.lb j)) ?_
   cases q2:pq (ac x.lb j)
   ·rw [Wu (by omega) q2]
    simp only [go_sem]
    exact aB
   ·simp only [go_sem]
    refine aG (j+1) ⟨by omega,fun k hk2=>?_⟩ (show x.lb.length - (j+1)<x.lb.length - j by omega) (Wk.of ?_ ?_)
    ·rcases fX k j with h4 | h4
     ·exact hk k h4
     ·obtain rfl:k=j:=by omega
      exact q2
    ·simp only [go_sem,e8]
     try simp
    ·simp only [go_sem]
  ·rw [Wv (fun k hk2=>hk k (by omega))]
   simp only [go_sem,aQ q1]
   exact aB
end
section
def k_ (i:Int) (x:aZ):Bool :=
 if i=0 then (x.a==0)&&((x.b==0)&&(x.n==0)) else
 if i=1 then (x.a==0)&&((x.b==0)&&((x.n==0)&&LA x.k x.v x.x)) else
 if i=3 then pq x.a&&((x.b==0)&&((x.n==0)&&x.lb.all pq)) else
 if i=6 then (x.a==0)&&((x.b==0)&&((x.n==0)&&(((x.ty.length:Int)==1)&&FL (ac x.ty 0)))) else
 if i=13 then (x.a==0)&&(pq x.b&&(x.n==0)) else
 if i=17 then decide (x.a≥0)&&(decide (x.a≤63)&&(pq x.b&&decide (x.n<4294967296))) else
 if i=18 then (x.a==0)&&((x.b==0)&&decide (x.n<4294967296)) else
 if i=19 then (x.a==0)&&(x.b==0) else
 if i=20 then ((x.a==3)||(x.a==4))&&((x.b==0)&&(x.n==0)) else
 if i=5∨i=10∨i=11∨i=14∨i=15 then pq x.a&&(pq x.b&&(x.n==0)) else
 pq x.a&&((x.b==0)&&(x.n==0))
def th (i:Int) (kn:Bool) (x:aZ):Bool :=
 kn&&(((i==1)||((x.k==0)&&((x.v==0)&&(x.x==0))))&&(((i==3) || !decide ((x.lb.length:Int)>0))&&(((i==6) || !decide ((x.ty.length:Int)>0))&&k_ i x)))
attribute [local go_sem] d_ di dE
end
theorem Fb (op:Int):dq op=rNm op:=by
 have h:∀l:List Oc,(match (l.map fun o=>(o.op,o.nm)).find? (fun x=>x.1==op) with | some o=>o.2 | none=>[])=((l.find? (fun o=>o.op==op)).getD default).nm:=by
  intro l
  induction l with
  | nil=>rfl
  | cons a l ih =>
   simp only [ej,List.find?_cons]
   cases ha:a.op==op
   ·exact ih
   ·rfl
 exact h OC
theorem K2 {op:Int} (h:yO op=none):rNm op=[]∧sZ op=0∧yM op=false:=by
 simp only [rNm,sZ,yM,h]
 exact ⟨rfl,rfl,rfl⟩
theorem I3 {p:Int→Bool} (h:OC.all (fun o=>p o.op)=true) {op:Int} (hr:yO op≠none):p op=true:=by
 cases hf:yO op with
 | none=>exact absurd hf hr
 | some o =>
  have h1:=fg.1 h o (List.mem_of_find?_eq_some hf)
  have h2:=List.find?_some hf
  simp only [beq_iff_eq] at h2
  rw [h2] at h1
  exact h1
theorem Hp (op:Int):(!(dq op==[]))=yM op∧dq op=rNm op∧J9 op=sZ op∧y9 op=Qk op∧ae1 (y9 op)=ae2 (Qk op)∧Rx op=Ry op:=by
 by_cases h:yO op=none
 ·obtain ⟨h1,h2,h3⟩:=K2 h
  have hn:dq op=[]:=by rw [Fb,h1]
  have hw:y9 op=0:=by
   have:ZL op=false:=by simp [ZL,hn]
   rw [y9,this];rfl
  have hw2:Qk op=0:=by rw [Qk,h2];rfl
  have hi:J9 op=0:=by
   have ht:∀(l:List (Int×Int)),l.all (fun p=>(yO p.1).isSome)=true→l.find? (fun p=>p.1==op)=none:=by
    intro l hl
    rw [List.find?_eq_none]
    intro p hp hq
    have:=fg.1 hl p hp
    simp only [beq_iff_eq] at hq
    rw [hq,h] at this
    cases this
   have hs:MW op=0:=by rw [MW,ht ad6 (by decide +kernel)]
   rw [J9,ht ab9 (by decide +kernel),hw,hs];rfl
  refine ⟨by rw [hn,h3];rfl,Fb op,by rw [hi,h2],by rw [hw,hw2],by rw [hw,hw2];rfl,?_⟩
  rw [Rx,Ry,hn,h3];rfl
 ·have:=I3 (p:=fun op=>(!(dq op==[]))==yM op&&J9 op==sZ op&&y9 op==Qk op&&ae1 (y9 op)==ae2 (Qk op)&&Rx op==Ry op) (by decide +kernel) h
  simp only [cC,beq_iff_eq] at this
  obtain ⟨⟨⟨⟨h1,h2⟩,h3⟩,h4⟩,h5⟩:=this
  exact ⟨h1,Fb op,h2,h3,h4,h5⟩
theorem aas (i:Int) (hi:0≤i∧i≤20) (kn:Bool) (x:aZ) (hn:0≤x.n):plP i kn (Li i) x=th i kn x:=by
 obtain ⟨op,a,b,n,k,v,z,ty,lb⟩:=x
 replace hn:0≤n:=hn
 have hal:¬((lb.length:Int)>0)→lb.all pq=true:=fun h=>by
  cases lb with
  | nil=>rfl
  | cons y l=>simp at h
 unfold plP th B5 k_
 simp only
 generalize lb.all pq=al at hal
 generalize (lb.length:Int)=ll at hal
 generalize FL (ac ty 0)=vv
 generalize (ty.length:Int)=tl
 generalize LA k v z=bb
 generalize ((k==0)&&((v==0)&&(z==0)))=kk
 have ea:a=0→pq a=true:=fun h=>by subst h;decide
 have eb:b=0→pq b=true:=fun h=>by subst h;decide
 have ec:a=3∨a=4→pq a=true:=fun h=>by rcases h with rfl | rfl<;>decide
 have ed:pq a=true∧a≤63↔a≥0∧a≤63:=by
  simp only [pq,cC,fo]
  omega
 generalize pq a=xa at ea ec ed
 generalize pq b=xb at eb
 rcases (show i=0∨i=1∨i=2∨i=3∨i=4∨i=5∨i=6∨i=7∨i=8∨i=9∨i=10∨i=11∨i=12∨i=13∨i=14∨i=15∨i=16∨i=17∨i=18∨i=19∨i=20 by omega) with rfl | rfl | rfl | rfl | rfl | rfl | rfl | rfl | rfl | rfl | rfl | rfl | rfl | rfl | rfl | rfl | rfl | rfl | rfl | rfl | rfl
 all_goals
  simp only [Li,aeh,List.find?_cons,List.find?_nil,Int.reduceBEq,Int.reduceEq,aF,bc,eC,eE,bU,rh,false_or,or_false,or_true,true_or,or_self]
  rw [Bool.eq_iff_iff]
  simp only [cC,qr,beq_iff_eq,fo,rg,decide_eq_false_iff_not]
  grind
theorem nR (op:Int):0≤sZ op∧sZ op≤20:=by
 by_cases h:yO op=none
 ·rw [(K2 h).2.1];decide
 ·have:=I3 (p:=fun op=>decide (0≤sZ op)&&decide (sZ op≤20)) (by decide +kernel) h
  simpa using this
def PL (x:aZ):Bool:=th (sZ x.op) (yM x.op) x
def vo (t:Int):UInt8×Bool:=if t=1 then (127,true) else if t=2 then (126,true) else if t=3 then (112,true) else if t=4 then (111,true) else (0,false)
def ov (b:UInt8):Int×Bool:=if b=127 then (1,true) else if b=126 then (2,true) else if b=112 then (3,true) else if b=111 then (4,true) else (0,false)
def zM (k v x:Int):List UInt8:=if k=0 then [64] else if k=1 then [(vo v).1] else br x
def kW (op:Int):List UInt8:=if op≥64512 then 252 :: aq (op - 64512).toNat else [UInt8.ofNat op.toNat]
def fj (l:List Int):List UInt8:=l.flatMap fun n=>aq n.toNat
def jm (i:Int) (x:aZ):List UInt8 :=
 if i=1 then zM x.k x.v x.x else
 if i=3 then aq x.lb.length++fj x.lb++aq x.a.toNat else
 if i=5∨i=10∨i=11∨i=14∨i=15 then aq x.a.toNat++aq x.b.toNat else
 if i=6 then aq 1++[(vo (ac x.ty 0)).1] else
 if i=13 then aq x.b.toNat else
 if i=17 then (if x.b=0 then aq x.a.toNat else aq (x.a+64).toNat++aq x.b.toNat)++aq x.n.toNat else
 if i=18 then br (K5 x.n) else
 if i=19 then br (IntKind.i64.wrap x.n) else
 if i=20 then [(vo x.a).1] else
 if i=0 then [] else aq x.a.toNat
def xh (x:aZ):List UInt8:=kW x.op++jm (sZ x.op) x
def Ah (x:aZ) (l:List UInt8) (e:Int):List UInt8×Int :=
 if PL x=true then (if sZ x.op=3∧4294967296≤x.lb.length then (wB (e==0) l (kW x.op),if e=0 then 1 else e) else (wB (e==0) l (xh x),e)) else (l,if e=0 then 10 else e)
abbrev Rd (α:Type):=Except (Int×Nat) (α×Nat)
def gB (b:List UInt8) (a:Nat):Rd UInt8:=if a<b.length then .ok (ac b a,a+1) else .error (3,a)
def gU (b:List UInt8) (a:Nat):Rd Nat:=if (dZ (b.drop a) 32).2.2=0 then .ok ((dZ (b.drop a) 32).1,a+(dZ (b.drop a) 32).2.1) else .error ((dZ (b.drop a) 32).2.2,a)
def gS (bits:Nat) (b:List UInt8) (a:Nat):Rd Int:=if (eV (b.drop a) bits).2.2=0 then .ok ((eV (b.drop a) bits).1,a+(eV (b.drop a) bits).2.1) else .error ((eV (b.drop a) bits).2.2,a)
def gC (b:List UInt8) (a:Nat) (most:Int):Rd Nat:=match gU b a with
 | .ok (n,k)=>if (n:Int)>most then .error (6,a) else .ok (n,k)
 | .error e=>.error e
def gV (b:List UInt8) (a:Nat):Rd Int:=match gB b a with
 | .ok (x,k)=>if (ov x).2=true then .ok ((ov x).1,k) else .error (4,k)
 | .error e=>.error e
def gK (b:List UInt8) (a:Nat):Rd (Int×Int×Int):=match gS 33 b a with
 | .ok (n,k)=>if n = -64 then .ok ((0,0,0),k) else if n≥0 then .ok ((2,0,n),k) else
   if n≥-17∧(ov (UInt8.ofNat (n+128).toNat)).2=true then .ok ((1,(ov (UInt8.ofNat (n+128).toNat)).1,0),k) else .error (4,k)
 | .error e=>.error e
def gO (b:List UInt8) (a:Nat):Rd Int:=match gB b a with
 | .ok (x,k)=>if x=252 then (match gU b k with
   | .ok (n,k')=>if yM (64512+n)=true then .ok (64512+n,k') else .error (10,k')
   | .error e=>.error e) else if yM x.toNat=true then .ok ((x.toNat:Int),k) else .error (10,k)
 | .error e=>.error e
def gL:Nat→List UInt8→Nat→Rd (List Int)
 | 0,_,a=>.ok ([],a)
 | n+1,b,a=>match gU b a with
  | .ok (x,k)=>(match gL n b k with
   | .ok (l,k')=>.ok ((x:Int) :: l,k')
   | .error e=>.error e)
  | .error e=>.error e
def gA (b:List UInt8) (a:Nat):Rd (Int×Int×Int):=match gU b a with
 | .ok (x,k)=>if x≥128 then .error (4,k) else if x≥64 then (match gU b k with
   | .ok (y,k1)=>(match gU b k1 with
    | .ok (z,k2)=>.ok (((x:Int) - 64,(y:Int),(z:Int)),k2)
    | .error e=>.error e)
   | .error e=>.error e) else (match gU b k with
   | .ok (z,k2)=>.ok (((x:Int),0,(z:Int)),k2)
   | .error e=>.error e)
 | .error e=>.error e
def z0:aZ:=⟨0,0,0,0,0,0,0,[],[]⟩
def gM (i:Int) (b:List UInt8) (a:Nat):Rd aZ :=
 if i=1 then (match gK b a with
  | .ok ((k,v,x),a1)=>.ok ({ z0 with k:=k,v:=v,x:=x },a1)
  | .error e=>.error e) else
 if i=3 then (match gC b a 64 with
  | .ok (n,a1)=>(match gL n b a1 with
   | .ok (l,a2)=>(match gU b a2 with
    | .ok (x,a3)=>.ok ({ z0 with a:=x,lb:=l },a3)
    | .error e=>.error e)
   | .error e=>.error e)
  | .error e=>.error e) else
 if i=5∨i=10∨i=11∨i=14∨i=15 then (match gU b a with
  | .ok (x,a1)=>(match gU b a1 with
   | .ok (y,a2)=>.ok ({ z0 with a:=x,b:=y },a2)
   | .error e=>.error e)
  | .error e=>.error e) else
 if i=6 then (match gU b a with
  | .ok (x,a1)=>if x=1 then (match gV b a1 with
   | .ok (t,a2)=>.ok ({ z0 with ty:=[t] },a2)
   | .error e=>.error e) else .error (4,a1)
  | .error e=>.error e) else
 if i=13 then (match gU b a with
  | .ok (x,a1)=>.ok ({ z0 with b:=x },a1)
  | .error e=>.error e) else
 if i=17 then (match gA b a with
  | .ok ((x,y,z),a1)=>.ok ({ z0 with a:=x,b:=y,n:=z },a1)
  | .error e=>.error e) else
 if i=18 then (match gS 32 b a with
  | .ok (n,a1)=>.ok ({ z0 with n:=IntKind.u64.wrap (IntKind.u32.wrap n) },a1)
  | .error e=>.error e) else
 if i=19 then (match gS 64 b a with
  | .ok (n,a1)=>.ok ({ z0 with n:=IntKind.u64.wrap n },a1)
  | .error e=>.error e) else
 if i=20 then (match gV b a with
  | .ok (t,a1)=>if t=3∨t=4 then .ok ({ z0 with a:=t },a1) else .error (12,a1)
  | .error e=>.error e) else
 if i=0 then .ok (z0,a) else (match gU b a with
  | .ok (x,a1)=>.ok ({ z0 with a:=x },a1)
  | .error e=>.error e)
def gI (b:List UInt8) (a:Nat):Rd aZ:=match gO b a with
 | .ok (op,k)=>(match gM (sZ op) b k with
  | .ok (x,k')=>.ok ({ x with op:=op },k')
  | .error e=>.error e)
 | .error e=>.error e
def gE:Nat→Nat→List UInt8→Nat→Int→Rd (List aZ)
 | 0,_,_,a,_=>.error (6,a)
 | f+1,deep,b,a,most=>if most≤0 then .error (6,a) else match gI b a with
  | .error e=>.error e
  | .ok (x,k) =>
   if x.op=11∧deep=1 then .ok ([x],k) else match gE f (if x.op=2∨x.op=3∨x.op=4 then deep+1 else if x.op=11 then deep - 1 else deep) b k (most - 1) with
    | .ok (l,k')=>.ok (x :: l,k')
    | .error e=>.error e
theorem yK (b:List UInt8) (a:Nat):(∃x,gB b a = .ok (x,a+1)∧kP true b a 0=(x,a+1,0)∧a+1≤b.length)∨(gB b a = .error (3,a)∧kP true b a 0=(0,a,3)):=by
 unfold gB kP
 by_cases h:a<b.length
 ·rw [ap h,ap rfl,ah (by omega)];exact .inl ⟨_,rfl,rfl,h⟩
 ·rw [ah h,ap rfl,ap (by omega)];exact .inr ⟨rfl,rfl⟩
theorem uw {b:List UInt8} {a:Nat} (ha:a≤b.length):(∃n k,gU b a = .ok (n,k)∧rU true 32 b a 0=(n,k,0)∧n<4294967296∧k≤b.length)∨∃e,e≠0∧gU b a = .error (e,a)∧rU true 32 b a 0=(0,a,e):=by
 have h1:=Dq (b.drop a) 32 (by decide)
 have h2:=HP (b.drop a) 32
 simp only [iE] at h2
 unfold gU rU
 by_cases h:(dZ (b.drop a) 32).2.2=0
 ·rw [ap h,ap rfl,ah (by simp [h])];exact .inl ⟨_,_,rfl,rfl,h1,by omega⟩
 ·rw [ah h,ap rfl,ap h];exact .inr ⟨_,h,rfl,rfl⟩
theorem adq {b:List UInt8} {a:Nat} (bits:Nat) (ha:a≤b.length):(∃n k,gS bits b a = .ok (n,k)∧rS true bits b a 0=(n,k,0)∧k≤b.length)∨∃e,e≠0∧gS bits b a = .error (e,a)∧rS true bits b a 0=(0,a,e):=by
 have h2:=HO (b.drop a) bits
 simp only [iE] at h2
 unfold gS rS
 by_cases h:(eV (b.drop a) bits).2.2=0
 ·rw [ap h,ap rfl,ah (by simp [h])];exact .inl ⟨_,_,rfl,rfl,by omega⟩
 ·rw [ah h,ap rfl,ap h];exact .inr ⟨_,h,rfl,rfl⟩
theorem yL {b:List UInt8} {a:Nat} (most:Int) (ha:a≤b.length):(∃n k,gC b a most = .ok (n,k)∧bS true b a 0 most=(n,k,0)∧(n:Int)≤most∧n<4294967296∧k≤b.length)∨∃e,e≠0∧gC b a most = .error (e,a)∧bS true b a 0 most=(0,a,e):=by
 unfold gC bS
 rcases uw ha with ⟨n,k,h1,h2,h3,h4⟩ | ⟨e,he,h1,h2⟩
 ·rw [h1,h2,ap rfl]
  by_cases h:(n:Int)>most
  ·exact .inr ⟨6,by decide,ap h,ap ⟨rfl,h⟩⟩
  ·exact .inl ⟨n,k,ah h,ah (fun q=>h q.2),by omega,h3,h4⟩
 ·rw [h1,h2,ap rfl]
  exact .inr ⟨e,he,rfl,ah (fun q=>he q.1)⟩
theorem vy (b:List UInt8) (a:Nat) (e:Int):kP false b a e=(0,a,e):=rfl
theorem Co (bits:Nat) (b:List UInt8) (a:Nat) (e:Int):rU false bits b a e=(0,a,e):=rfl
theorem KU (b:List UInt8) (a:Nat) (e most:Int):bS false b a e most=(0,a,e):=rfl
def eD (t:Int):List UInt8:=[(vo t).1]
def aE {α:Type} (f:α→List UInt8) (l:List α):List UInt8:=aq l.length++l.flatMap f
def oN (x:Ft):List UInt8:=96 :: (aE eD x.ps++aE eD x.rs)
def jH (l:Lm):List UInt8:=if l.hs=true then 1 :: (aq l.mn.toNat++aq l.mx.toNat) else 0 :: aq l.mn.toNat
def nw (x:Tb):List UInt8:=eD x.e++jH x.l
def BE (g:Gl):List UInt8:=eD g.v++[if g.mu=true then 1 else 0]
def wG (s:List UInt8):List UInt8:=aq s.length++s
def oP (x:Im):List UInt8:=wG x.m++wG x.n++[UInt8.ofNat x.k.toNat] ++
 (if x.k=0 then aq x.f.toNat else if x.k=1 then nw ⟨x.te,x.tl⟩ else if x.k=2 then jH x.me else BE x.g)
def fu (l:List aZ):List UInt8:=l.flatMap xh
def oO (x:Gd):List UInt8:=BE x.g++fu x.i
def oM (x:Ex):List UInt8:=wG x.n++[UInt8.ofNat x.k.toNat]++aq x.i.toNat
def same (t:Int):List Int→Nat
 | []=>0
 | x :: l=>if x=t then same t l+1 else 0
def Cq:Nat→List Int→List (Nat×Int)
 | 0,_=>[]
 | _,[]=>[]
 | f+1,x :: l=>(same x l+1,x) :: Cq f (l.drop (same x l))
def iZ (l:List Int):List (Nat×Int):=Cq l.length l
def tU (r:Nat×Int):List UInt8:=aq r.1++eD r.2
def GG (l:List Int):List UInt8:=aE tU (iZ l)
def iF (x:Cd):List UInt8:=GG x.lo++fu x.b
def fq (x:Cd):List UInt8:=aq (iF x).length++iF x
def zW (l:List aZ):Bool:=(l.length==2)&&((ac l 0).op==210)&&((ac l 1).op==11)
def iG (x:El):Bool:=(x.ty != 3)||x.it.any (fun l=>!zW l)
def cL (x:El):Nat:=(if iG x=true then 4 else 0)+(if x.mo=1 then 1 else if x.mo=2 then 3 else if x.tb≠0∨x.ty≠3 then 2 else 0)
def tT (n:Nat) (l:List aZ):List UInt8:=if n<4 then aq (ac l 0).a.toNat else fu l
def oL (x:El):List UInt8:=aq (cL x)++(if cL x % 4=2 then aq x.tb.toNat else [])++(if cL x % 2=0 then fu x.o else []) ++
 (if cL x % 4=0 then [] else if cL x<4 then [0] else eD x.ty)++aE (tT (cL x)) x.it
def oK (x:Da):List UInt8:=(if x.mo=1 then aq 1 else if x.me=0 then aq 0++fu x.o else aq 2++aq x.me.toNat++fu x.o)++aq x.b.length++x.b
def jn (m:Md) (p:Int):List UInt8 :=
 if p=1 then aE oN m.ts else if p=2 then aE oP m.ims else if p=3 then aE (fun x:Cd=>aq x.t.toNat) m.fs else
 if p=4 then aE nw m.tbs else if p=5 then aE jH m.ms else if p=6 then aE oO m.gs else if p=7 then aE oM m.exs else
 if p=8 then aq m.st.toNat else if p=9 then aE oL m.els else if p=10 then aq m.ds.length else
 if p=11 then aE fq m.fs else if p=12 then aE oK m.ds else []
def kq (m:Md):List Int :=
 (if m.ts.length>0 then [1] else [])++(if m.ims.length>0 then [2] else [])++(if m.fs.length>0 then [3] else [])++(if m.tbs.length>0 then [4] else []) ++
 (if m.ms.length>0 then [5] else [])++(if m.gs.length>0 then [6] else [])++(if m.exs.length>0 then [7] else [])++(if m.hs=true then [8] else []) ++
 (if m.els.length>0 then [9] else [])++(if m.ds.length>0 then [10] else [])++(if m.fs.length>0 then [11] else [])++(if m.ds.length>0 then [12] else [])
def eU {α β:Type} (r:Rd α) (f:α→Nat→Rd β):Rd β:=match r with
 | .ok (x,k)=>f x k
 | .error e=>.error e
theorem aM {α β:Type} (x:α) (k:Nat) (f:α→Nat→Rd β):eU (.ok (x,k)) f=f x k:=rfl
theorem oH {α β:Type} (e:Int×Nat) (f:α→Nat→Rd β):eU (.error e) f = .error e:=rfl
def gN {α:Type} (one:List UInt8→Nat→Rd α):Nat→List UInt8→Nat→Rd (List α)
 | 0,_,a=>.ok ([],a)
 | n+1,b,a=>eU (one b a) fun x k=>eU (gN one n b k) fun l k'=>.ok (x :: l,k')
def mM {α:Type} (one:List UInt8→Nat→Rd α) (most:Int) (b:List UInt8) (a:Nat):Rd (List α):=eU (gC b a most) fun n k=>gN one n b k
def W7 (b:List UInt8) (a:Nat):Rd Ft:=eU (gB b a) fun x k=>if x=96 then eU (mM gV 8 b k) fun ps k1=>eU (mM gV 8 b k1) fun rs k2=>.ok (⟨ps,rs⟩,k2) else .error (4,k)
def FI (b:List UInt8) (a:Nat):Rd Lm:=eU (gB b a) fun x k=>if x>1 then .error (4,k) else eU (gU b k) fun mn k1 =>
 if x=1 then eU (gU b k1) fun mx k2=>if mx<mn then .error (20,k2) else .ok (⟨mn,mx,true⟩,k2) else .ok (⟨mn,0,false⟩,k1)
def H6 (b:List UInt8) (a:Nat):Rd Tb:=eU (gV b a) fun t k=>if t=3∨t=4 then eU (FI b k) fun l k1=>.ok (⟨t,l⟩,k1) else .error (12,k)
def GW (b:List UInt8) (a:Nat):Rd Gl:=eU (gV b a) fun t k=>eU (gB b k) fun x k1=>if x>1 then .error (4,k1) else .ok (⟨t,x==1⟩,k1)
def gNm (b:List UInt8) (a:Nat):Rd (List UInt8):=if (cO true b a 0).2.2=0 then .ok ((cO true b a 0).1,(cO true b a 0).2.1) else .error ((cO true b a 0).2.2,(cO true b a 0).2.1)
def Z0 (b:List UInt8) (a:Nat):Rd Im:=eU (gNm b a) fun m k=>eU (gNm b k) fun n k1=>eU (gB b k1) fun x k2 =>
 if x=0 then eU (gU b k2) fun f k3=>.ok (⟨m,n,0,f,0,⟨0,0,false⟩,⟨0,0,false⟩,⟨0,false⟩⟩,k3) else
 if x=1 then eU (H6 b k2) fun t k3=>.ok (⟨m,n,1,0,t.e,t.l,⟨0,0,false⟩,⟨0,false⟩⟩,k3) else
 if x=2 then eU (FI b k2) fun l k3=>.ok (⟨m,n,2,0,0,⟨0,0,false⟩,l,⟨0,false⟩⟩,k3) else
 if x=3 then eU (GW b k2) fun g k3=>.ok (⟨m,n,3,0,0,⟨0,0,false⟩,⟨0,0,false⟩,g⟩,k3) else .error (4,k2)
def gX (b:List UInt8) (a:Nat):Rd (List aZ):=gE (b.length+1) 1 b a 2048
def ZZ (b:List UInt8) (a:Nat):Rd Gd:=eU (GW b a) fun g k=>eU (gX b k) fun l k1=>.ok (⟨g,l⟩,k1)
def ZY (b:List UInt8) (a:Nat):Rd Ex:=eU (gNm b a) fun n k=>eU (gB b k) fun x k1=>if x>3 then .error (4,k1) else eU (gU b k1) fun i k2=>.ok (⟨n,(x.toNat:Int),i⟩,k2)
def KX (k:Int):List aZ:=[⟨210,k,0,0,0,0,0,[],[]⟩,⟨11,0,0,0,0,0,0,[],[]⟩]
def Z1 (n:Nat) (b:List UInt8) (a:Nat):Rd (List aZ):=if n<4 then eU (gU b a) fun x k=>.ok (KX x,k) else gX b a
def bY (n:Nat):Int:=if n % 4=1 then 1 else if n % 4=3 then 2 else 0
def ZX (b:List UInt8) (a:Nat):Rd El:=eU (gU b a) fun n k=>if n>7 then .error (4,k) else
 eU (if n % 4=2 then eU (gU b k) fun x k1=>.ok ((x:Int),k1) else .ok (0,k)) fun tb k1 =>
 eU (if n % 2=0 then gX b k1 else .ok ([],k1)) fun o k2 =>
 eU (if n % 4=0 then .ok (3,k2) else if n<4 then eU (gB b k2) fun x k3=>if x=0 then .ok (3,k3) else .error (4,k3) else gV b k2) fun t k3 =>
 eU (mM (Z1 n) 256 b k3) fun l k4=>.ok (⟨bY n,tb,o,t,l⟩,k4)
def W0 (b:List UInt8) (a:Nat):Rd Da:=eU (gU b a) fun n k=>if n>2 then .error (4,k) else
 eU (if n=2 then eU (gU b k) fun x k1=>.ok ((x:Int),k1) else .ok (0,k)) fun me k1 =>
 eU (if n=1 then .ok ([],k1) else gX b k1) fun o k2 =>
 eU (gC b k2 4096) fun n2 k3=>if n2>b.length - k3 then .error (3,k3) else .ok (⟨if n=1 then 1 else 0,me,o,(b.drop k3).take n2⟩,k3+n2)
def VJ:Nat→List UInt8→Nat→List Int→Rd (List Int)
 | 0,_,a,l=>.ok (l,a)
 | n+1,b,a,l=>eU (gU b a) fun many k=>eU (gV b k) fun t k1=>if (many:Int)>64 - l.length then .error (6,k1) else VJ n b k1 (l++List.replicate many t)
def LV (b:List UInt8):Rd (List Int×List aZ):=eU (gC b 0 64) fun n k=>eU (VJ n b k []) fun l k1=>eU (gX b k1) fun x k2=>if k2=b.length then .ok ((l,x),k2) else .error (5,k2)
def Sc (b:List UInt8) (a:Nat):Rd (List Int×List aZ):=eU (gU b a) fun n k=>if n>b.length - k then .error (3,k) else
 match LV ((b.drop k).take n) with
 | .ok (x,_)=>.ok (x,k+n)
 | .error e=>.error (e.1,k+n)
def Jm (b:List UInt8) (a:Nat):Rd Int:=eU (gU b a) fun n k=>.ok ((n:Int),k)
def lR {α:Type} (r:Rd α) (b:List UInt8):Except Int α:=match r with
 | .ok (x,k)=>if k=b.length then .ok x else .error 5
 | .error e=>.error e.1
structure Dc where
 m:Md
 place:Int
 codes:Nat
 data:Int
def qY (d:Dc) (p:Int) (b:List UInt8):Except Int Dc :=
 let d:={ d with place:=p }
 let put {α:Type} (r:Rd α) (f:α→Dc):Except Int Dc:=(lR r b).map f
 if p=1 then put (mM W7 64 b 0) fun l=>{ d with m:={ d.m with ts:=l } } else
 if p=2 then put (mM Z0 32 b 0) fun l=>{ d with m:={ d.m with ims:=l } } else
 if p=3 then put (mM Jm 64 b 0) fun l=>{ d with m:={ d.m with fs:=l.map fun t=>⟨t,[],[]⟩ } } else
 if p=4 then put (mM H6 4 b 0) fun l=>{ d with m:={ d.m with tbs:=l } } else
 if p=5 then put (mM FI 2 b 0) fun l=>{ d with m:={ d.m with ms:=l } } else
 if p=6 then put (mM ZZ 32 b 0) fun l=>{ d with m:={ d.m with gs:=l } } else
 if p=7 then put (mM ZY 64 b 0) fun l=>{ d with m:={ d.m with exs:=l } } else
 if p=8 then put (Jm b 0) fun n=>{ d with m:={ d.m with hs:=true,st:=n } } else
 if p=9 then put (mM ZX 16 b 0) fun l=>{ d with m:={ d.m with els:=l } } else
 if p=10 then put (Jm b 0) fun n=>{ d with data:=n } else
 if p=11 then put (mM Sc 64 b 0) fun l=>{ d with codes:=l.length,m:={ d.m with fs:=(d.m.fs.zipIdx).map fun x=>if x.2<l.length then ⟨x.1.t,(ac l x.2).1,(ac l x.2).2⟩ else x.1 } } else
 put (mM W0 16 b 0) fun l=>{ d with m:={ d.m with ds:=l } }
end Go.Proofs.YtdfofedlbljnhaaGreatDoor