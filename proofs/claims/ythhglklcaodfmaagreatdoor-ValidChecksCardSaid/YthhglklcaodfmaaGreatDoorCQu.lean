import Derived.Test.YthhglklcaodfmaaGreatDoorCQt
set_option linter.all false
set_option maxRecDepth 100000
set_option maxHeartbeats 40000000
namespace Go.Proofs.YthhglklcaodfmaaGreatDoor
section
open Go Go.Mw
def rdT:List (Int×XX):=[(1,none,none),(64525,none,none),(64521,none,none),(65,none,some [1]),(63,none,some [1]),(64528,none,some [1]),(66,none,some [2]),(210,none,some [3]),(64,some (1,[1]),some [1]),(64523,some (3,[1,1,1]),none),(64522,some (3,[1,1,1]),none),(64520,some (3,[1,1,1]),none),(64526,some (3,[1,1,1]),none),(64524,some (3,[1,1,1]),none),(167,some (1,[2]),some [1]),(172,some (1,[1]),some [2]),(173,some (1,[1]),some [2])]
def E9(op:Int):XX×Bool:=match rdT.find? (λp=>p.1==op)with
 | some p=>(p.2,true)
 | none=>((none,none),false)
attribute[local go_sem] fg bY
def VX(op:Int):bA pg pB [.int .i64 op] [] (λ_=>False) (λr σ'=>r = .tup [sgV (E9 op).1,.bool (E9 op).2]/\σ'=sgO (E9 op).1):=by
 by_cases h0:op=1
 .subst h0;have r:E9 1=((none,none),true):=rfl;rw[r];refine df (Sb:=sb) (r1:=.tup [.agg [.nl,.nl],.bool true]) (σ1:=[]) [] ?_ rfl rfl rfl;refine b_ aK ?_;simp only[go_sem,aK];exact done [] _ [] (by rfl) (by first|trivial|simp only[go_sem]) rfl ⟨rfl,rfl⟩
 by_cases h1:op=64525
 .subst h1;have r:E9 64525=((none,none),true):=rfl;rw[r];refine df (Sb:=sb) (r1:=.tup [.agg [.nl,.nl],.bool true]) (σ1:=[]) [] ?_ rfl rfl rfl;refine b_ aK ?_;simp only[go_sem,aK];exact done [] _ [] (by rfl) (by first|trivial|simp only[go_sem]) rfl ⟨rfl,rfl⟩
 by_cases h2:op=64521
 .subst h2;have r:E9 64521=((none,none),true):=rfl;rw[r];refine df (Sb:=sb) (r1:=.tup [.agg [.nl,.nl],.bool true]) (σ1:=[]) [] ?_ rfl rfl rfl;refine b_ aK ?_;simp only[go_sem,aK];exact done [] _ [] (by rfl) (by first|trivial|simp only[go_sem]) rfl ⟨rfl,rfl⟩
 by_cases h3:op=65
 .subst h3;have r:E9 65=((none,some [1]),true):=rfl;rw[r];refine df (Sb:=sb) (r1:=.tup [.agg [.nl,.ms 16 1 0 1],.bool true]) (σ1:=[(16,cR [1])]) [(16,2)] ?_ rfl rfl rfl;refine b_ aK ?_;simp only[go_sem,aK];refine Dv (R:=[1]) LV (by decide) (by rfl) ?_;simp only[go_sem];exact done [] _ [(16,cR [1])] (by rfl) (by first|trivial|simp only[go_sem]) rfl ⟨rfl,rfl⟩
 by_cases h4:op=63
 .subst h4;have r:E9 63=((none,some [1]),true):=rfl;rw[r];refine df (Sb:=sb) (r1:=.tup [.agg [.nl,.ms 16 1 0 1],.bool true]) (σ1:=[(16,cR [1])]) [(16,2)] ?_ rfl rfl rfl;refine b_ aK ?_;simp only[go_sem,aK];refine Dv (R:=[1]) LV (by decide) (by rfl) ?_;simp only[go_sem];exact done [] _ [(16,cR [1])] (by rfl) (by first|trivial|simp only[go_sem]) rfl ⟨rfl,rfl⟩
 by_cases h5:op=64528
 .subst h5;have r:E9 64528=((none,some [1]),true):=rfl;rw[r];refine df (Sb:=sb) (r1:=.tup [.agg [.nl,.ms 16 1 0 1],.bool true]) (σ1:=[(16,cR [1])]) [(16,2)] ?_ rfl rfl rfl;refine b_ aK ?_;simp only[go_sem,aK];refine Dv (R:=[1]) LV (by decide) (by rfl) ?_;simp only[go_sem];exact done [] _ [(16,cR [1])] (by rfl) (by first|trivial|simp only[go_sem]) rfl ⟨rfl,rfl⟩
 by_cases h6:op=66
 .subst h6;have r:E9 66=((none,some [2]),true):=rfl;rw[r];refine df (Sb:=sb) (r1:=.tup [.agg [.nl,.ms 20 1 0 1],.bool true]) (σ1:=[(20,cR [2])]) [(20,2)] ?_ rfl rfl rfl;refine b_ aK ?_;simp only[go_sem,aK];refine Dv (R:=[2]) LV (by decide) (by rfl) ?_;simp only[go_sem];exact done [] _ [(20,cR [2])] (by rfl) (by first|trivial|simp only[go_sem]) rfl ⟨rfl,rfl⟩
 by_cases h7:op=210
 .subst h7;have r:E9 210=((none,some [3]),true):=rfl;rw[r];refine df (Sb:=sb) (r1:=.tup [.agg [.nl,.ms 24 1 0 1],.bool true]) (σ1:=[(24,cR [3])]) [(24,2)] ?_ rfl rfl rfl;refine b_ aK ?_;simp only[go_sem,aK];refine Dv (R:=[3]) LV (by decide) (by rfl) ?_;simp only[go_sem];exact done [] _ [(24,cR [3])] (by rfl) (by first|trivial|simp only[go_sem]) rfl ⟨rfl,rfl⟩
 by_cases h8:op=64
 .subst h8;have r:E9 64=((some (1,[1]),some [1]),true):=rfl;rw[r];refine df (Sb:=sb) (r1:=.tup [.agg [.ms 28 1 0 1,.ms 29 1 0 1],.bool true]) (σ1:=[(28,cR [1]),(29,cR [1])]) [(28,1),(29,2)] ?_ rfl rfl rfl;refine b_ aK ?_;simp only[go_sem,aK];refine gQ (R:=[1]) (L:=[1]) lh (by decide) (by decide) (by decide) (by rfl) (by rfl) ?_;simp only[go_sem];exact done [] _ [(28,cR [1]),(29,cR [1])] (by rfl) (by first|trivial|simp only[go_sem]) rfl ⟨rfl,rfl⟩
 by_cases h9:op=64523
 .subst h9;have r:E9 64523=((some (3,[1,1,1]),none),true):=rfl;rw[r];refine df (Sb:=sb) (r1:=.tup [.agg [.ms 5 1 0 3,.nl],.bool true]) (σ1:=[(5,cR [1,1,1])]) [(5,1)] ?_ rfl rfl rfl;refine b_ aK ?_;simp only[go_sem,aK];refine AJ (R:=[1,1,1]) HF (by decide) (by rfl) ?_;simp only[go_sem];exact done [] _ [(5,cR [1,1,1])] (by rfl) (by first|trivial|simp only[go_sem]) rfl ⟨rfl,rfl⟩
 by_cases h10:op=64522
 .subst h10;have r:E9 64522=((some (3,[1,1,1]),none),true):=rfl;rw[r];refine df (Sb:=sb) (r1:=.tup [.agg [.ms 5 1 0 3,.nl],.bool true]) (σ1:=[(5,cR [1,1,1])]) [(5,1)] ?_ rfl rfl rfl;refine b_ aK ?_;simp only[go_sem,aK];refine AJ (R:=[1,1,1]) HF (by decide) (by rfl) ?_;simp only[go_sem];exact done [] _ [(5,cR [1,1,1])] (by rfl) (by first|trivial|simp only[go_sem]) rfl ⟨rfl,rfl⟩
 by_cases h11:op=64520
 .subst h11;have r:E9 64520=((some (3,[1,1,1]),none),true):=rfl;rw[r];refine df (Sb:=sb) (r1:=.tup [.agg [.ms 5 1 0 3,.nl],.bool true]) (σ1:=[(5,cR [1,1,1])]) [(5,1)] ?_ rfl rfl rfl;refine b_ aK ?_;simp only[go_sem,aK];refine AJ (R:=[1,1,1]) HF (by decide) (by rfl) ?_;simp only[go_sem];exact done [] _ [(5,cR [1,1,1])] (by rfl) (by first|trivial|simp only[go_sem]) rfl ⟨rfl,rfl⟩
 by_cases h12:op=64526
 .subst h12;have r:E9 64526=((some (3,[1,1,1]),none),true):=rfl;rw[r];refine df (Sb:=sb) (r1:=.tup [.agg [.ms 5 1 0 3,.nl],.bool true]) (σ1:=[(5,cR [1,1,1])]) [(5,1)] ?_ rfl rfl rfl;refine b_ aK ?_;simp only[go_sem,aK];refine AJ (R:=[1,1,1]) HF (by decide) (by rfl) ?_;simp only[go_sem];exact done [] _ [(5,cR [1,1,1])] (by rfl) (by first|trivial|simp only[go_sem]) rfl ⟨rfl,rfl⟩
 by_cases h13:op=64524
 .subst h13;have r:E9 64524=((some (3,[1,1,1]),none),true):=rfl;rw[r];refine df (Sb:=sb) (r1:=.tup [.agg [.ms 5 1 0 3,.nl],.bool true]) (σ1:=[(5,cR [1,1,1])]) [(5,1)] ?_ rfl rfl rfl;refine b_ aK ?_;simp only[go_sem,aK];refine AJ (R:=[1,1,1]) HF (by decide) (by rfl) ?_;simp only[go_sem];exact done [] _ [(5,cR [1,1,1])] (by rfl) (by first|trivial|simp only[go_sem]) rfl ⟨rfl,rfl⟩
 by_cases h14:op=167
 .subst h14;have r:E9 167=((some (1,[2]),some [1]),true):=rfl;rw[r];refine df (Sb:=sb) (r1:=.tup [.agg [.ms 41 1 0 1,.ms 42 1 0 1],.bool true]) (σ1:=[(41,cR [2]),(42,cR [1])]) [(41,1),(42,2)] ?_ rfl rfl rfl;refine b_ aK ?_;simp only[go_sem,aK];refine gQ (R:=[2]) (L:=[1]) lh (by decide) (by decide) (by decide) (by rfl) (by rfl) ?_;simp only[go_sem];exact done [] _ [(41,cR [2]),(42,cR [1])] (by rfl) (by first|trivial|simp only[go_sem]) rfl ⟨rfl,rfl⟩
 by_cases h15:op=172
 .subst h15;have r:E9 172=((some (1,[1]),some [2]),true):=rfl;rw[r];refine df (Sb:=sb) (r1:=.tup [.agg [.ms 47 1 0 1,.ms 48 1 0 1],.bool true]) (σ1:=[(47,cR [1]),(48,cR [2])]) [(47,1),(48,2)] ?_ rfl rfl rfl;refine b_ aK ?_;simp only[go_sem,aK];refine gQ (R:=[1]) (L:=[2]) lh (by decide) (by decide) (by decide) (by rfl) (by rfl) ?_;simp only[go_sem];exact done [] _ [(47,cR [1]),(48,cR [2])] (by rfl) (by first|trivial|simp only[go_sem]) rfl ⟨rfl,rfl⟩
 by_cases h16:op=173
 .subst h16;have r:E9 173=((some (1,[1]),some [2]),true):=rfl;rw[r];refine df (Sb:=sb) (r1:=.tup [.agg [.ms 47 1 0 1,.ms 48 1 0 1],.bool true]) (σ1:=[(47,cR [1]),(48,cR [2])]) [(47,1),(48,2)] ?_ rfl rfl rfl;refine b_ aK ?_;simp only[go_sem,aK];refine gQ (R:=[1]) (L:=[2]) lh (by decide) (by decide) (by decide) (by rfl) (by rfl) ?_;simp only[go_sem];exact done [] _ [(47,cR [1]),(48,cR [2])] (by rfl) (by first|trivial|simp only[go_sem]) rfl ⟨rfl,rfl⟩
 have e:rdT.find? (λp=>p.1==op)=none:=by
  simp only[rdT,List.find?_cons,List.find?_nil,ac (λe:(1:Int)=op=>h0 e.symm),ac (λe:(64525:Int)=op=>h1 e.symm),ac (λe:(64521:Int)=op=>h2 e.symm),ac (λe:(65:Int)=op=>h3 e.symm),ac (λe:(63:Int)=op=>h4 e.symm),ac (λe:(64528:Int)=op=>h5 e.symm),ac (λe:(66:Int)=op=>h6 e.symm),ac (λe:(210:Int)=op=>h7 e.symm),ac (λe:(64:Int)=op=>h8 e.symm),ac (λe:(64523:Int)=op=>h9 e.symm),ac (λe:(64522:Int)=op=>h10 e.symm),ac (λe:(64520:Int)=op=>h11 e.symm),ac (λe:(64526:Int)=op=>h12 e.symm),ac (λe:(64524:Int)=op=>h13 e.symm),ac (λe:(167:Int)=op=>h14 e.symm),ac (λe:(172:Int)=op=>h15 e.symm),ac (λe:(173:Int)=op=>h16 e.symm)]
 have r:E9 op=((none,none),false):=by rw[E9,e]
 rw[r];refine df (Sb:=sb) (r1:=.tup [.agg [.nl,.nl],.bool false]) (σ1:=[]) [] ?_ rfl rfl rfl;refine b_ aK ?_;simp only[go_sem,aK,ac h0,ac h1,ac h2,ac h3,ac h4,ac h5,ac h6,ac h7,ac h8,ac h9,ac h10,ac h11,ac h12,ac h13,ac h14,ac h15,ac h16];exact done [] _ [] (by rfl) trivial rfl ⟨rfl,rfl⟩
def Si(s:List UInt8):Int:=if(s.length:Int)>4/\s.take 4=[105,54,52,46]then 2 else 1
def agc(s:List UInt8):aj pg La [.str s] (.int .i64 (Si s)):=by
 refine ao tN ?_;unfold Si;by_cases h:(s.length:Int)>4
 .simp only[go_sem,tN,aF h];refine⟨⟨by decide,by omega⟩,λh2=>?_,λh2=>?_⟩
  .rw[az ⟨h,by simpa using h2⟩];exact aw
  .rw[an (λe=>by rw[e.2]at h2;simp at h2)];exact aw
 .rw[an (λe=>h e.1)];simp only[go_sem,tN,aI h];exact aw
def ajv(op:Int):XX×Bool :=
 if GO op=17 then(if mH (AC op) [108,111,97,100]=true then(sg2 [1] [Si (AC op)],true)else((some (2,[1,Si (AC op)]),none),true))else
 if op=69\/op=80 then(sg2 [Si (AC op)] [1],true)else
 if(op>69/\op<=79)\/(op>80/\op<=90)then(sg2 [Si (AC op),Si (AC op)] [1],true)else
 if(op>=103/\op<=105)\/(op>=121/\op<=123)\/mH (AC op) [101,120,116,101,110,100]=true then(sg2 [Si (AC op)] [Si (AC op)],true)else
 if(op>=106/\op<=120)\/(op>=124/\op<=138)then(sg2 [Si (AC op),Si (AC op)] [Si (AC op)],true)else((none,none),false)
def EY(op:Int):XX×Bool:=match rdT.find? (λp=>p.1==op)with
 | some p=>(p.2,true)
 | none=>ajv op
def afi(op:Int):bA pg B6 [.int .i64 op] [] (λ_=>False) (λr σ'=>r = .tup [sgV (EY op).1,.bool (EY op).2]/\σ'=sgO (EY op).1):=by
 have m0:=VX op;unfold EY;unfold E9 at m0;cases hf:rdT.find? (λp=>p.1==op)with
 | some p =>
  rw[hf]at m0;simp only at m0⊢;obtain⟨p1,dp,dq⟩:=p;simp only at m0⊢;cases dp with
  | none =>
   cases dq with
   | none =>
    refine df (Sb:=sb) (r1:=.tup [.agg [.nl,.nl],.bool true]) (σ1:=[]) [] ?_ rfl rfl rfl;refine b_ aL ?_;simp only[go_sem,aL];refine aa (show aj pg pB [.int .i64 op] (.tup [.agg [.nl,.nl],.bool true]) from m0) ?_;exact done [] _ [] (by rfl) trivial rfl ⟨rfl,rfl⟩
   | some L =>
    refine df (Sb:=sb) (r1:=.tup [.agg [.nl,.ms 902 1 0 L.length],.bool true]) (σ1:=[(902,cR L)]) [(902,2)] ?_ rfl rfl rfl;refine b_ aL ?_;simp only[go_sem,aL];refine dU (σ2:=[]) (r3:=.tup [.agg [.nl,.ms 902 1 0 L.length],.bool true]) (σ3:=[(902,cR L)]) m0 [(2,902)] [902] rfl rfl rfl rfl (λp hp=>by cases hp) (λp hp=>by simp only[bM,cH,or_false]at hp;subst hp;exact .inr ⟨by simp,by simp,.inr (by rfl)⟩) (λp hp=>by cases hp) ?_;simp only[go_sem,rD,vD,rE,vE,oG,gC];exact done [] _ [(902,cR L)] (by rfl) (by first|trivial|simp only[go_sem]) rfl ⟨rfl,rfl⟩
  | some x =>
   obtain⟨n,R⟩:=x;cases dq with
   | none =>
    refine df (Sb:=sb) (r1:=.tup [.agg [.ms 901 1 0 n,.nl],.bool true]) (σ1:=[(901,cR R)]) [(901,1)] ?_ rfl rfl rfl;refine b_ aL ?_;simp only[go_sem,aL];refine dU (σ2:=[]) (r3:=.tup [.agg [.ms 901 1 0 n,.nl],.bool true]) (σ3:=[(901,cR R)]) m0 [(1,901)] [901] rfl rfl rfl rfl (λp hp=>by cases hp) (λp hp=>by simp only[bM,cH,or_false]at hp;subst hp;exact .inr ⟨by simp,by simp,.inr (by rfl)⟩) (λp hp=>by cases hp) ?_;simp only[go_sem,rD,vD,rE,vE,oG,gC];exact done [] _ [(901,cR R)] (by rfl) (by first|trivial|simp only[go_sem]) rfl ⟨rfl,rfl⟩
   | some L =>
    refine df (Sb:=sb) (r1:=.tup [.agg [.ms 901 1 0 n,.ms 902 1 0 L.length],.bool true]) (σ1:=[(901,cR R),(902,cR L)]) [(901,1),(902,2)] ?_ rfl rfl rfl;refine b_ aL ?_;simp only[go_sem,aL];refine dU (σ2:=[]) (r3:=.tup [.agg [.ms 901 1 0 n,.ms 902 1 0 L.length],.bool true]) (σ3:=[(901,cR R),(902,cR L)]) m0 [(1,901),(2,902)] [901,902] rfl rfl rfl rfl (λp hp=>by cases hp) (λp hp=>by simp only[bM,cH,or_false]at hp;rcases hp with rfl|rfl<;>exact .inr ⟨by simp,by simp,.inr (by rfl)⟩) (λp hp=>by cases hp) ?_;simp only[go_sem,rD,vD,rE,vE,oG,gC];exact done [] _ [(901,cR R),(902,cR L)] (by rfl) (by first|trivial|simp only[go_sem]) rfl ⟨rfl,rfl⟩
 | none =>
  rw[hf]at m0;simp only at m0⊢;replace m0:aj pg pB [.int .i64 op] (.tup [.agg [.nl,.nl],.bool false]):=m0;have hl:=PN op;have n0:=PO op;have n1:=agc (AC op);have n2:=Mb op;have n3:=mg (AC op) [108,111,97,100] (by omega) (by decide);have n4:=mg (AC op) [101,120,116,101,110,100] (by omega) (by decide);unfold ajv;generalize Si (AC op)=t at n1;generalize AC op=s at n0 n1 n3 n4 hl;generalize GO op=im at n2;by_cases c1:im=17
  .rw[az c1];cases c2:mH s [108,111,97,100]
   .rw[an (by decide)];rw[c2]at n3;refine df (Sb:=sb) (r1:=.tup [.agg [.ms 43 1 0 2,.nl],.bool true]) (σ1:=[(43,cR [1,t])]) [(43,1)] ?_ rfl rfl rfl;refine b_ aL ?_;simp only[go_sem,aL];refine aa (m0) ?_;refine aa (n0) ?_;refine aa (n1) ?_;refine ae (n2) ?_;simp only[go_sem,aD c1];refine aa (n3) ?_;refine ae (n2) ?_;simp only[go_sem,aD c1];refine AJ (R:=[1,t]) HF (by decide) (by rfl) ?_;simp only[go_sem];exact done [] _ [(43,cR [1,t])] (by rfl) (by simp only[go_sem]) rfl ⟨rfl,rfl⟩
   .rw[az rfl];rw[c2]at n3;refine df (Sb:=sb) (r1:=.tup [.agg [.ms 34 1 0 1,.ms 36 1 0 1],.bool true]) (σ1:=[(34,cR [1]),(36,cR [t])]) [(34,1),(36,2)] ?_ rfl rfl rfl;refine b_ aL ?_;simp only[go_sem,aL];refine aa (m0) ?_;refine aa (n0) ?_;refine aa (n1) ?_;refine ae (n2) ?_;simp only[go_sem,aD c1];refine aa (n3) ?_;refine gQ (R:=[1]) (L:=[t]) lh (by decide) (by decide) (by decide) (by rfl) (by rfl) ?_;simp only[go_sem];exact done [] _ [(34,cR [1]),(36,cR [t])] (by rfl) (by simp only[go_sem]) rfl ⟨rfl,rfl⟩
  rw[an c1];by_cases d69:op=69
  .rw[az (.inl d69)];refine df (Sb:=sb) (r1:=.tup [.agg [.ms 22 1 0 1,.ms 53 1 0 1],.bool true]) (σ1:=[(22,cR [t]),(53,cR [1])]) [(22,1),(53,2)] ?_ rfl rfl rfl;refine b_ aL ?_;simp only[go_sem,aL];refine aa (m0) ?_;refine aa (n0) ?_;refine aa (n1) ?_;refine ae (n2) ?_;simp only[go_sem,ac c1];refine ae (n2) ?_;simp only[go_sem,ac c1,aD d69];refine gQ (R:=[t]) (L:=[1]) lh (by decide) (by decide) (by decide) (by rfl) (by rfl) ?_;simp only[go_sem];exact done [] _ [(22,cR [t]),(53,cR [1])] (by rfl) (by simp only[go_sem]) rfl ⟨rfl,rfl⟩
  by_cases d80:op=80
  .rw[az (.inr d80)];refine df (Sb:=sb) (r1:=.tup [.agg [.ms 22 1 0 1,.ms 53 1 0 1],.bool true]) (σ1:=[(22,cR [t]),(53,cR [1])]) [(22,1),(53,2)] ?_ rfl rfl rfl;refine b_ aL ?_;simp only[go_sem,aL];refine aa (m0) ?_;refine aa (n0) ?_;refine aa (n1) ?_;refine ae (n2) ?_;simp only[go_sem,ac c1];refine ae (n2) ?_;simp only[go_sem,ac c1,ac d69,aD d80];refine gQ (R:=[t]) (L:=[1]) lh (by decide) (by decide) (by decide) (by rfl) (by rfl) ?_;simp only[go_sem];exact done [] _ [(22,cR [t]),(53,cR [1])] (by rfl) (by simp only[go_sem]) rfl ⟨rfl,rfl⟩
  rw[an (λh=>h.elim d69 d80)];by_cases g0:op<=68
  .rw[an (by omega)];cases c4:mH s [101,120,116,101,110,100]
   .rw[an (by rintro(h|h|h);omega;omega;cases h)];rw[c4]at n4;rw[an (by omega)];refine df (Sb:=sb) (r1:=.tup [.agg [.nl,.nl],.bool false]) (σ1:=[]) [] ?_ rfl rfl rfl;refine b_ aL ?_;simp only[go_sem,aL];refine aa (m0) ?_;refine aa (n0) ?_;refine aa (n1) ?_;refine ae (n2) ?_;simp only[go_sem,ac c1];refine ae (n2) ?_;simp only[go_sem,ac c1,ac d69,ac d80,aI (show ¬op>69 by omega),aF (show op<=79 by omega),aI (show ¬op>80 by omega),aF (show op<=90 by omega),aI (show ¬op>=103 by omega),aF (show op<=105 by omega),aI (show ¬op>=121 by omega),aF (show op<=123 by omega),aI (show ¬op>=106 by omega),aF (show op<=120 by omega),aI (show ¬op>=124 by omega),aF (show op<=138 by omega)];refine ae (n4) ?_;simp only[go_sem,ac c1,ac d69,ac d80,aI (show ¬op>69 by omega),aF (show op<=79 by omega),aI (show ¬op>80 by omega),aF (show op<=90 by omega),aI (show ¬op>=103 by omega),aF (show op<=105 by omega),aI (show ¬op>=121 by omega),aF (show op<=123 by omega),aI (show ¬op>=106 by omega),aF (show op<=120 by omega),aI (show ¬op>=124 by omega),aF (show op<=138 by omega)];exact done [] _ [] (by rfl) trivial rfl ⟨rfl,rfl⟩
   .rw[az (.inr (.inr rfl))];rw[c4]at n4;refine df (Sb:=sb) (r1:=.tup [.agg [.ms 22 1 0 1,.ms 94 1 0 1],.bool true]) (σ1:=[(22,cR [t]),(94,cR [t])]) [(22,1),(94,2)] ?_ rfl rfl rfl;refine b_ aL ?_;simp only[go_sem,aL];refine aa (m0) ?_;refine aa (n0) ?_;refine aa (n1) ?_;refine ae (n2) ?_;simp only[go_sem,ac c1];refine ae (n2) ?_;simp only[go_sem,ac c1,ac d69,ac d80,aI (show ¬op>69 by omega),aF (show op<=79 by omega),aI (show ¬op>80 by omega),aF (show op<=90 by omega),aI (show ¬op>=103 by omega),aF (show op<=105 by omega),aI (show ¬op>=121 by omega),aF (show op<=123 by omega),aI (show ¬op>=106 by omega),aF (show op<=120 by omega),aI (show ¬op>=124 by omega),aF (show op<=138 by omega)];refine aa (n4) ?_;refine gQ (R:=[t]) (L:=[t]) lh (by decide) (by decide) (by decide) (by rfl) (by rfl) ?_;simp only[go_sem];exact done [] _ [(22,cR [t]),(94,cR [t])] (by rfl) (by simp only[go_sem]) rfl ⟨rfl,rfl⟩
  by_cases g1:op<=79
  .rw[az (by omega)];refine df (Sb:=sb) (r1:=.tup [.agg [.ms 25 1 0 2,.ms 71 1 0 1],.bool true]) (σ1:=[(25,cR [t,t]),(71,cR [1])]) [(25,1),(71,2)] ?_ rfl rfl rfl;refine b_ aL ?_;simp only[go_sem,aL];refine aa (m0) ?_;refine aa (n0) ?_;refine aa (n1) ?_;refine ae (n2) ?_;simp only[go_sem,ac c1];refine ae (n2) ?_;simp only[go_sem,ac c1,ac d69,ac d80,aF (show op>69 by omega),aF (show op<=79 by omega),aI (show ¬op>80 by omega),aF (show op<=90 by omega),aI (show ¬op>=103 by omega),aF (show op<=105 by omega),aI (show ¬op>=121 by omega),aF (show op<=123 by omega),aI (show ¬op>=106 by omega),aF (show op<=120 by omega),aI (show ¬op>=124 by omega),aF (show op<=138 by omega)];refine gQ (R:=[t,t]) (L:=[1]) lh (by decide) (by decide) (by decide) (by rfl) (by rfl) ?_;simp only[go_sem];exact done [] _ [(25,cR [t,t]),(71,cR [1])] (by rfl) (by simp only[go_sem]) rfl ⟨rfl,rfl⟩
  by_cases g2:op<=90
  .rw[az (by omega)];refine df (Sb:=sb) (r1:=.tup [.agg [.ms 25 1 0 2,.ms 71 1 0 1],.bool true]) (σ1:=[(25,cR [t,t]),(71,cR [1])]) [(25,1),(71,2)] ?_ rfl rfl rfl;refine b_ aL ?_;simp only[go_sem,aL];refine aa (m0) ?_;refine aa (n0) ?_;refine aa (n1) ?_;refine ae (n2) ?_;simp only[go_sem,ac c1];refine ae (n2) ?_;simp only[go_sem,ac c1,ac d69,ac d80,aF (show op>69 by omega),aI (show ¬op<=79 by omega),aF (show op>80 by omega),aF (show op<=90 by omega),aI (show ¬op>=103 by omega),aF (show op<=105 by omega),aI (show ¬op>=121 by omega),aF (show op<=123 by omega),aI (show ¬op>=106 by omega),aF (show op<=120 by omega),aI (show ¬op>=124 by omega),aF (show op<=138 by omega)];refine gQ (R:=[t,t]) (L:=[1]) lh (by decide) (by decide) (by decide) (by rfl) (by rfl) ?_;simp only[go_sem];exact done [] _ [(25,cR [t,t]),(71,cR [1])] (by rfl) (by simp only[go_sem]) rfl ⟨rfl,rfl⟩
  by_cases g3:op<=102
  .rw[an (by omega)];cases c4:mH s [101,120,116,101,110,100]
   .rw[an (by rintro(h|h|h);omega;omega;cases h)];rw[c4]at n4;rw[an (by omega)];refine df (Sb:=sb) (r1:=.tup [.agg [.nl,.nl],.bool false]) (σ1:=[]) [] ?_ rfl rfl rfl;refine b_ aL ?_;simp only[go_sem,aL];refine aa (m0) ?_;refine aa (n0) ?_;refine aa (n1) ?_;refine ae (n2) ?_;simp only[go_sem,ac c1];refine ae (n2) ?_;simp only[go_sem,ac c1,ac d69,ac d80,aF (show op>69 by omega),aI (show ¬op<=79 by omega),aF (show op>80 by omega),aI (show ¬op<=90 by omega),aI (show ¬op>=103 by omega),aF (show op<=105 by omega),aI (show ¬op>=121 by omega),aF (show op<=123 by omega),aI (show ¬op>=106 by omega),aF (show op<=120 by omega),aI (show ¬op>=124 by omega),aF (show op<=138 by omega)];refine ae (n4) ?_;simp only[go_sem,ac c1,ac d69,ac d80,aF (show op>69 by omega),aI (show ¬op<=79 by omega),aF (show op>80 by omega),aI (show ¬op<=90 by omega),aI (show ¬op>=103 by omega),aF (show op<=105 by omega),aI (show ¬op>=121 by omega),aF (show op<=123 by omega),aI (show ¬op>=106 by omega),aF (show op<=120 by omega),aI (show ¬op>=124 by omega),aF (show op<=138 by omega)];exact done [] _ [] (by rfl) trivial rfl ⟨rfl,rfl⟩
   .rw[az (.inr (.inr rfl))];rw[c4]at n4;refine df (Sb:=sb) (r1:=.tup [.agg [.ms 22 1 0 1,.ms 94 1 0 1],.bool true]) (σ1:=[(22,cR [t]),(94,cR [t])]) [(22,1),(94,2)] ?_ rfl rfl rfl;refine b_ aL ?_;simp only[go_sem,aL];refine aa (m0) ?_;refine aa (n0) ?_;refine aa (n1) ?_;refine ae (n2) ?_;simp only[go_sem,ac c1];refine ae (n2) ?_;simp only[go_sem,ac c1,ac d69,ac d80,aF (show op>69 by omega),aI (show ¬op<=79 by omega),aF (show op>80 by omega),aI (show ¬op<=90 by omega),aI (show ¬op>=103 by omega),aF (show op<=105 by omega),aI (show ¬op>=121 by omega),aF (show op<=123 by omega),aI (show ¬op>=106 by omega),aF (show op<=120 by omega),aI (show ¬op>=124 by omega),aF (show op<=138 by omega)];refine aa (n4) ?_;refine gQ (R:=[t]) (L:=[t]) lh (by decide) (by decide) (by decide) (by rfl) (by rfl) ?_;simp only[go_sem];exact done [] _ [(22,cR [t]),(94,cR [t])] (by rfl) (by simp only[go_sem]) rfl ⟨rfl,rfl⟩
  by_cases g4:op<=105
  .rw[an (by omega)];rw[az (.inl ⟨by omega,by omega⟩)];refine df (Sb:=sb) (r1:=.tup [.agg [.ms 22 1 0 1,.ms 94 1 0 1],.bool true]) (σ1:=[(22,cR [t]),(94,cR [t])]) [(22,1),(94,2)] ?_ rfl rfl rfl;refine b_ aL ?_;simp only[go_sem,aL];refine aa (m0) ?_;refine aa (n0) ?_;refine aa (n1) ?_;refine ae (n2) ?_;simp only[go_sem,ac c1];refine ae (n2) ?_;simp only[go_sem,ac c1,ac d69,ac d80,aF (show op>69 by omega),aI (show ¬op<=79 by omega),aF (show op>80 by omega),aI (show ¬op<=90 by omega),aF (show op>=103 by omega),aF (show op<=105 by omega),aI (show ¬op>=121 by omega),aF (show op<=123 by omega),aI (show ¬op>=106 by omega),aF (show op<=120 by omega),aI (show ¬op>=124 by omega),aF (show op<=138 by omega)];refine gQ (R:=[t]) (L:=[t]) lh (by decide) (by decide) (by decide) (by rfl) (by rfl) ?_;simp only[go_sem];exact done [] _ [(22,cR [t]),(94,cR [t])] (by rfl) (by simp only[go_sem]) rfl ⟨rfl,rfl⟩
  by_cases g5:op<=120
  .rw[an (by omega)];cases c4:mH s [101,120,116,101,110,100]
   .rw[an (by rintro(h|h|h);omega;omega;cases h)];rw[c4]at n4;rw[az (by omega)];refine df (Sb:=sb) (r1:=.tup [.agg [.ms 25 1 0 2,.ms 113 1 0 1],.bool true]) (σ1:=[(25,cR [t,t]),(113,cR [t])]) [(25,1),(113,2)] ?_ rfl rfl rfl;refine b_ aL ?_;simp only[go_sem,aL];refine aa (m0) ?_;refine aa (n0) ?_;refine aa (n1) ?_;refine ae (n2) ?_;simp only[go_sem,ac c1];refine ae (n2) ?_;simp only[go_sem,ac c1,ac d69,ac d80,aF (show op>69 by omega),aI (show ¬op<=79 by omega),aF (show op>80 by omega),aI (show ¬op<=90 by omega),aF (show op>=103 by omega),aI (show ¬op<=105 by omega),aI (show ¬op>=121 by omega),aF (show op<=123 by omega),aF (show op>=106 by omega),aF (show op<=120 by omega),aI (show ¬op>=124 by omega),aF (show op<=138 by omega)];refine ae (n4) ?_;simp only[go_sem,ac c1,ac d69,ac d80,aF (show op>69 by omega),aI (show ¬op<=79 by omega),aF (show op>80 by omega),aI (show ¬op<=90 by omega),aF (show op>=103 by omega),aI (show ¬op<=105 by omega),aI (show ¬op>=121 by omega),aF (show op<=123 by omega),aF (show op>=106 by omega),aF (show op<=120 by omega),aI (show ¬op>=124 by omega),aF (show op<=138 by omega)];refine gQ (R:=[t,t]) (L:=[t]) lh (by decide) (by decide) (by decide) (by rfl) (by rfl) ?_;simp only[go_sem];exact done [] _ [(25,cR [t,t]),(113,cR [t])] (by rfl) (by simp only[go_sem]) rfl ⟨rfl,rfl⟩
   .rw[az (.inr (.inr rfl))];rw[c4]at n4;refine df (Sb:=sb) (r1:=.tup [.agg [.ms 22 1 0 1,.ms 94 1 0 1],.bool true]) (σ1:=[(22,cR [t]),(94,cR [t])]) [(22,1),(94,2)] ?_ rfl rfl rfl;refine b_ aL ?_;simp only[go_sem,aL];refine aa (m0) ?_;refine aa (n0) ?_;refine aa (n1) ?_;refine ae (n2) ?_;simp only[go_sem,ac c1];refine ae (n2) ?_;simp only[go_sem,ac c1,ac d69,ac d80,aF (show op>69 by omega),aI (show ¬op<=79 by omega),aF (show op>80 by omega),aI (show ¬op<=90 by omega),aF (show op>=103 by omega),aI (show ¬op<=105 by omega),aI (show ¬op>=121 by omega),aF (show op<=123 by omega),aF (show op>=106 by omega),aF (show op<=120 by omega),aI (show ¬op>=124 by omega),aF (show op<=138 by omega)];refine aa (n4) ?_;refine gQ (R:=[t]) (L:=[t]) lh (by decide) (by decide) (by decide) (by rfl) (by rfl) ?_;simp only[go_sem];exact done [] _ [(22,cR [t]),(94,cR [t])] (by rfl) (by simp only[go_sem]) rfl ⟨rfl,rfl⟩
  by_cases g6:op<=123
  .rw[an (by omega)];rw[az (.inr (.inl ⟨by omega,by omega⟩))];refine df (Sb:=sb) (r1:=.tup [.agg [.ms 22 1 0 1,.ms 94 1 0 1],.bool true]) (σ1:=[(22,cR [t]),(94,cR [t])]) [(22,1),(94,2)] ?_ rfl rfl rfl;refine b_ aL ?_;simp only[go_sem,aL];refine aa (m0) ?_;refine aa (n0) ?_;refine aa (n1) ?_;refine ae (n2) ?_;simp only[go_sem,ac c1];refine ae (n2) ?_;simp only[go_sem,ac c1,ac d69,ac d80,aF (show op>69 by omega),aI (show ¬op<=79 by omega),aF (show op>80 by omega),aI (show ¬op<=90 by omega),aF (show op>=103 by omega),aI (show ¬op<=105 by omega),aF (show op>=121 by omega),aF (show op<=123 by omega),aF (show op>=106 by omega),aI (show ¬op<=120 by omega),aI (show ¬op>=124 by omega),aF (show op<=138 by omega)];refine gQ (R:=[t]) (L:=[t]) lh (by decide) (by decide) (by decide) (by rfl) (by rfl) ?_;simp only[go_sem];exact done [] _ [(22,cR [t]),(94,cR [t])] (by rfl) (by simp only[go_sem]) rfl ⟨rfl,rfl⟩
  by_cases g7:op<=138
  .rw[an (by omega)];cases c4:mH s [101,120,116,101,110,100]
   .rw[an (by rintro(h|h|h);omega;omega;cases h)];rw[c4]at n4;rw[az (by omega)];refine df (Sb:=sb) (r1:=.tup [.agg [.ms 25 1 0 2,.ms 113 1 0 1],.bool true]) (σ1:=[(25,cR [t,t]),(113,cR [t])]) [(25,1),(113,2)] ?_ rfl rfl rfl;refine b_ aL ?_;simp only[go_sem,aL];refine aa (m0) ?_;refine aa (n0) ?_;refine aa (n1) ?_;refine ae (n2) ?_;simp only[go_sem,ac c1];refine ae (n2) ?_;simp only[go_sem,ac c1,ac d69,ac d80,aF (show op>69 by omega),aI (show ¬op<=79 by omega),aF (show op>80 by omega),aI (show ¬op<=90 by omega),aF (show op>=103 by omega),aI (show ¬op<=105 by omega),aF (show op>=121 by omega),aI (show ¬op<=123 by omega),aF (show op>=106 by omega),aI (show ¬op<=120 by omega),aF (show op>=124 by omega),aF (show op<=138 by omega)];refine ae (n4) ?_;simp only[go_sem,ac c1,ac d69,ac d80,aF (show op>69 by omega),aI (show ¬op<=79 by omega),aF (show op>80 by omega),aI (show ¬op<=90 by omega),aF (show op>=103 by omega),aI (show ¬op<=105 by omega),aF (show op>=121 by omega),aI (show ¬op<=123 by omega),aF (show op>=106 by omega),aI (show ¬op<=120 by omega),aF (show op>=124 by omega),aF (show op<=138 by omega)];refine gQ (R:=[t,t]) (L:=[t]) lh (by decide) (by decide) (by decide) (by rfl) (by rfl) ?_;simp only[go_sem];exact done [] _ [(25,cR [t,t]),(113,cR [t])] (by rfl) (by simp only[go_sem]) rfl ⟨rfl,rfl⟩
   .rw[az (.inr (.inr rfl))];rw[c4]at n4;refine df (Sb:=sb) (r1:=.tup [.agg [.ms 22 1 0 1,.ms 94 1 0 1],.bool true]) (σ1:=[(22,cR [t]),(94,cR [t])]) [(22,1),(94,2)] ?_ rfl rfl rfl;refine b_ aL ?_;simp only[go_sem,aL];refine aa (m0) ?_;refine aa (n0) ?_;refine aa (n1) ?_;refine ae (n2) ?_;simp only[go_sem,ac c1];refine ae (n2) ?_;simp only[go_sem,ac c1,ac d69,ac d80,aF (show op>69 by omega),aI (show ¬op<=79 by omega),aF (show op>80 by omega),aI (show ¬op<=90 by omega),aF (show op>=103 by omega),aI (show ¬op<=105 by omega),aF (show op>=121 by omega),aI (show ¬op<=123 by omega),aF (show op>=106 by omega),aI (show ¬op<=120 by omega),aF (show op>=124 by omega),aF (show op<=138 by omega)];refine aa (n4) ?_;refine gQ (R:=[t]) (L:=[t]) lh (by decide) (by decide) (by decide) (by rfl) (by rfl) ?_;simp only[go_sem];exact done [] _ [(22,cR [t]),(94,cR [t])] (by rfl) (by simp only[go_sem]) rfl ⟨rfl,rfl⟩
  rw[an (by omega)];cases c4:mH s [101,120,116,101,110,100]
  .rw[an (by rintro(h|h|h);omega;omega;cases h)];rw[c4]at n4;rw[an (by omega)];refine df (Sb:=sb) (r1:=.tup [.agg [.nl,.nl],.bool false]) (σ1:=[]) [] ?_ rfl rfl rfl;refine b_ aL ?_;simp only[go_sem,aL];refine aa (m0) ?_;refine aa (n0) ?_;refine aa (n1) ?_;refine ae (n2) ?_;simp only[go_sem,ac c1];refine ae (n2) ?_;simp only[go_sem,ac c1,ac d69,ac d80,aF (show op>69 by omega),aI (show ¬op<=79 by omega),aF (show op>80 by omega),aI (show ¬op<=90 by omega),aF (show op>=103 by omega),aI (show ¬op<=105 by omega),aF (show op>=121 by omega),aI (show ¬op<=123 by omega),aF (show op>=106 by omega),aI (show ¬op<=120 by omega),aF (show op>=124 by omega),aI (show ¬op<=138 by omega)];refine ae (n4) ?_;simp only[go_sem,ac c1,ac d69,ac d80,aF (show op>69 by omega),aI (show ¬op<=79 by omega),aF (show op>80 by omega),aI (show ¬op<=90 by omega),aF (show op>=103 by omega),aI (show ¬op<=105 by omega),aF (show op>=121 by omega),aI (show ¬op<=123 by omega),aF (show op>=106 by omega),aI (show ¬op<=120 by omega),aF (show op>=124 by omega),aI (show ¬op<=138 by omega)];exact done [] _ [] (by rfl) trivial rfl ⟨rfl,rfl⟩
  .rw[az (.inr (.inr rfl))];rw[c4]at n4;refine df (Sb:=sb) (r1:=.tup [.agg [.ms 22 1 0 1,.ms 94 1 0 1],.bool true]) (σ1:=[(22,cR [t]),(94,cR [t])]) [(22,1),(94,2)] ?_ rfl rfl rfl;refine b_ aL ?_;simp only[go_sem,aL];refine aa (m0) ?_;refine aa (n0) ?_;refine aa (n1) ?_;refine ae (n2) ?_;simp only[go_sem,ac c1];refine ae (n2) ?_;simp only[go_sem,ac c1,ac d69,ac d80,aF (show op>69 by omega),aI (show ¬op<=79 by omega),aF (show op>80 by omega),aI (show ¬op<=90 by omega),aF (show op>=103 by omega),aI (show ¬op<=105 by omega),aF (show op>=121 by omega),aI (show ¬op<=123 by omega),aF (show op>=106 by omega),aI (show ¬op<=120 by omega),aF (show op>=124 by omega),aI (show ¬op<=138 by omega)];refine aa (n4) ?_;refine gQ (R:=[t]) (L:=[t]) lh (by decide) (by decide) (by decide) (by rfl) (by rfl) ?_;simp only[go_sem];exact done [] _ [(22,cR [t]),(94,cR [t])] (by rfl) (by simp only[go_sem]) rfl ⟨rfl,rfl⟩
end
open Go Go.Mw
section
attribute[local go_sem] uF nA DA Dz oh zu uE nV lZ uD p8 nR p_ nU lY nS nT p9 qa
def Sn(r:Ft×Int):List AV:=[.sl 1 (r.1.ps.map aS),.sl 1 (r.1.rs.map aS),.int .i64 r.2]
def vi(r:Ft×Int):Sn r=[.sl 1 (r.1.ps.map aS),.sl 1 (r.1.rs.map aS),.int .i64 r.2]:=rfl
def nz:AV->AV
 | .nl=>.sl 1 []
 | x=>x
def Pz(x y:AV)(hx:x = .nl\/∃l,x = .sl 1 l)(hy:y = .nl\/∃l,y = .sl 1 l)(e:Int)(bl:Nat->Option Nat)(M:Nat->Prop)(w:World)(v:Value)(h:bv bl M w v (.agg [x,y,.int .i64 e])):bv bl M w v (.agg [nz x,nz y,.int .i64 e]):=by
 refine C0 (x:=.agg [x,y,.int .i64 e]) (y:=.agg [nz x,nz y,.int .i64 e]) (.inr (.inr ⟨_,_,rfl,rfl,?_,?_,.inl rfl,trivial⟩)) h
 .rcases hx with rfl|⟨l,rfl⟩
  .exact .inr ⟨rfl,1,rfl⟩
  .exact .inl rfl
 .rcases hy with rfl|⟨l,rfl⟩
  .exact .inr ⟨rfl,1,rfl⟩
  .exact .inl rfl
attribute[local go_sem] bY aW cX bT lc bV zn zo vi
def qr(e:Int):aj pg Lr [.int .i64 e] (.agg (Sn (default,e))):=by
 refine gP (r:=.agg [.nl,.nl,.int .i64 e]) ?_ (Pz .nl .nl (.inl rfl) (.inl rfl) e) rfl;refine ao BK ?_;simp only[go_sem,BK];exact ah
def lB(l:List (List AV)):aj pg Jb [.sl 1 l] (.sl 1 l):=by
 refine ao yZ ?_;simp only[go_sem,yZ];exact ah
def je(p r:List (List AV)):aj pg Gz [.sl 1 p,.sl 1 r] (.agg [.sl 1 p,.sl 1 r,.int .i64 0]):=by
 refine ao xf ?_;simp only[go_sem,xf];exact ah
def pL(d:XX):Ft:=⟨match d.1 with|some x=>x.2.take x.1|none=>[],d.2.getD []⟩
def Xx:XX->Bool
 | (none,q)=>decide ((q.getD []).length<1000000)
 | (some (n,R),q)=>decide (n<=R.length)&&(decide (R.length<1000000)&&decide ((q.getD []).length<1000000))
def PP(op:Int)(d:XX)(hd:EY op=(d,true))(hs:Xx d=true):aj pg uQ [.int .i64 op] (.agg (Sn (pL d,0))):=by
 have c:=afi op;rw[hd]at c;obtain⟨p,q⟩:=d;cases p with
 | none =>
  cases q with
  | none =>
   refine gP (r:=.agg [.nl,.nl,.int .i64 0]) ?_ (Pz .nl .nl (.inl rfl) (.inl rfl) 0) rfl;have c':aj pg B6 [.int .i64 op] (.tup [.agg [.nl,.nl],.bool true]):=c;refine ao gE ?_;simp only[go_sem,gE];refine aa (c') ?_;exact ah
  | some L =>
   simp only[Xx,cG,ol]at hs;refine gP (r:=.agg [.nl,.sl 1 (L.map aS),.int .i64 0]) ?_ (Pz .nl _ (.inl rfl) (.inr ⟨_,rfl⟩) 0) (by rfl);have c':=df (r3:=.tup [.agg [.nl,.ms 902 1 0 L.length],.bool true]) (σ3:=[(902,cR L)]) [(2,902)] c rfl rfl rfl;refine ao gE ?_;simp only[go_sem,gE];refine gZ c' [902] (λp hp=>by cases hp) ?_ (λp hp=>by cases hp) ?_
   .intro p hp;simp only[fS]at hp;subst hp;exact .inr ⟨by simp,.inl (show 902<1000 by decide),.inr (by rfl)⟩
   simp only[go_sem];exact aq [902] (by simp only[go_sem,cR,aQ,fo,iF (show(L.map aS).length<=L.length by simp)]) (by rfl)
 | some x =>
  obtain⟨n,R⟩:=x;simp only[Xx,dX,ol]at hs;obtain⟨h1,h2,h3⟩:=hs;cases q with
  | none =>
   refine gP (r:=.agg [.sl 1 ((R.take n).map aS),.nl,.int .i64 0]) ?_ (Pz _ .nl (.inr ⟨_,rfl⟩) (.inl rfl) 0) (by rfl);have c':=df (r3:=.tup [.agg [.ms 901 1 0 n,.nl],.bool true]) (σ3:=[(901,cR R)]) [(1,901)] c rfl rfl rfl;refine ao gE ?_;simp only[go_sem,gE];refine gZ c' [901] (λp hp=>by cases hp) ?_ (λp hp=>by cases hp) ?_
   .intro p hp;simp only[fS]at hp;subst hp;exact .inr ⟨by simp,.inl (show 901<1000 by decide),.inr (by rfl)⟩
   simp only[go_sem];exact aq [901] (by simp only[go_sem,cR,h1,dk,fo,List.map_take]) (by rfl)
  | some L =>
   have c':=df (r3:=.tup [.agg [.ms 901 1 0 n,.ms 902 1 0 L.length],.bool true]) (σ3:=[(901,cR R),(902,cR L)]) [(1,901),(2,902)] c rfl rfl rfl;refine ao gE ?_;simp only[go_sem,gE];refine gZ c' [901,902] (λp hp=>by cases hp) ?_ (λp hp=>by cases hp) ?_
   .intro p hp;simp only[bM,cH,or_false]at hp;rcases hp with rfl|rfl
    .exact .inr ⟨by simp,.inl (show 901<1000 by decide),.inr (by rfl)⟩
    .exact .inr ⟨by simp,.inl (show 902<1000 by decide),.inr (by rfl)⟩
   simp only[go_sem];exact aq [901,902] (by simp only[go_sem,cR,pL,h1,aQ,dk,fo,List.map_take,cG,iF (show(L.map aS).length<=L.length by simp)]) (by rfl)
end
section
attribute[local go_sem] uF nA DA Dz oh zu uE nV lZ uD p8 nR p_ nU lY nS nT p9 qa
attribute[local go_sem] bY aW cX bT lc bV zn zo vi aM
def WS(lo:List Int)(x:bj)(h0:0<=x.a)(h:lo.length<=9000000):aj pg GA [.sl 1 (lo.map aS),fN x] (.agg (Sn (lcA lo x))):=by
 refine ao o_ ?_;have w1:=qr 11;unfold lcA;by_cases h1:x.a>=lo.length
 .rw[az h1];simp only[go_sem,o_,aF h1];refine aa (w1) ?_;exact ah
 obtain⟨n,hn⟩:∃n:Nat,x.a=(n:Int):=⟨x.a.toNat,by omega⟩
 have hn':n<lo.length:=by omega
 rw[an h1,hn,cL];have h1':¬((n:Int)>=lo.length):=by omega
 have w2:=je [] [aS (av lo n)];have w3:=je [aS (av lo n)] [];have w4:=je [aS (av lo n)] [aS (av lo n)];have wl:=lB [aS (av lo n)];simp only[go_sem,o_,hn,aI h1',cL,dk];refine⟨by omega,by omega,?_⟩;by_cases h2:x.op=32
 .rw[az h2];simp only[go_sem,aD h2];refine be ((eJ.nil1 _ _).trans (eJ.frzs [22] _ _)) ?_;simp only[go_sem];refine aa (w2) ?_;exact ah
 by_cases h3:x.op=33
 .rw[an h2,az h3];simp only[go_sem,ac h2,aD h3];refine be (eJ.frzs [27] _ _) ?_;simp only[go_sem];refine aa (wl) ?_;refine be (eJ.nil2 _ _) ?_;refine aa (w3) ?_;exact ah
 .rw[an h2,an h3];simp only[go_sem,ac h2,ac h3];refine be (eJ.frzs [31] _ _) ?_;simp only[go_sem];refine aa (wl) ?_;refine be (eJ.frzs [34] _ _) ?_;simp only[go_sem];refine aa (w4) ?_;exact ah
def RW(m:Md)(x:bj)(hb:B_ m)(ha:0<=x.a/\x.a<9223372036854775808):aj pg EA [ba m,fN x] (.agg (Sn (glA (bO m) x))):=by
 refine ao ug ?_;have c1:=HN m hb.ims hb.gs x.a ha.1 ha.2;have w1:=qr 11;have w2:=qr 18;unfold glA;generalize cx (bO m).gs x.a=q at c1⊢;simp only[ba,aM,lc]at c1;simp only[go_sem,ug,ba];refine ae (c1) ?_;cases q with
 | none =>
  simp only[go_sem,Option.isSome_none];refine aa (w1) ?_;exact ah
 | some g =>
  have w3:=je [] [aS g.v];have w4:=je [aS g.v] [];have wl:=lB [aS g.v];by_cases h1:x.op=35
  .simp only[go_sem,Option.isSome_some,cG,aD h1,az h1];refine be ((eJ.nil1 _ _).trans (eJ.frzs [24] _ _)) ?_;simp only[go_sem];refine aa (w3) ?_;exact ah
  cases h2:g.mu
  .simp only[go_sem,Option.isSome_some,cG,ac h1,an h1,h2];refine aa (w2) ?_;exact ah
  .simp only[go_sem,Option.isSome_some,cG,ac h1,an h1,h2];refine be (eJ.frzs [33] _ _) ?_;simp only[go_sem];refine aa (wl) ?_;refine be (eJ.nil2 _ _) ?_;refine aa (w4) ?_;exact ah
def WT(m:Md)(x:bj)(hb:B_ m)(ha:0<=x.a/\x.a<9223372036854775808)(ho:x.op=37\/x.op=38\/x.op=64527\/x.op=64528\/x.op=64529):aj pg GB [ba m,fN x] (.agg (Sn (tbA (bO m) x))):=by
 refine cE (ic:=fc 21 [21] pc.body) fD (cF pc) rfl rfl ?_;have c1:=uZ m hb.ims hb.tb x.a ha.1 ha.2;have w1:=qr 11;unfold tbA;generalize cx (bO m).tb x.a=q at c1⊢;simp only[ba,aM,bT]at c1;simp only[go_sem,pc,ba];refine ae (c1) ?_;cases q with
 | none =>
  simp only[go_sem,Option.isSome_none];refine aa (w1) ?_;exact ah
 | some t =>
  simp only[go_sem,Option.isSome_some,cG];by_cases h0:x.op=37
  .have w3:=je [aS 1] [aS t.e];have wl:=lB [aS 1];rw[az h0];simp only[go_sem,aD h0];refine ax wl (by simp[go_sem]) rfl ?_;simp only[go_sem];refine be (eJ.frzs [25] _ _) ?_;simp only[go_sem];refine aa (w3) ?_;exact ah
  by_cases h1:x.op=38
  .have w3:=je [aS 1,aS t.e] [];have wl:=lB [aS 1,aS t.e];rw[an h0,az h1];simp only[go_sem,ac h0,aD h1];refine be (eJ.frzs [31] _ _) ?_;simp only[go_sem];refine aa (wl) ?_;refine be (eJ.nil2 _ _) ?_;refine aa (w3) ?_;exact ah
  by_cases h2:x.op=64527
  .have w3:=je [aS t.e,aS 1] [aS 1];have wl:=lB [aS t.e,aS 1];rw[an h0,an h1,az h2];simp only[go_sem,ac h0,ac h1,aD h2,ac (show x.op≠64528 by omega)];refine be (eJ.frzs [42] _ _) ?_;simp only[go_sem];refine aa (wl) ?_;refine be (eJ.frzs [44] _ _) ?_;simp only[go_sem];refine aa (w3) ?_;exact ah
  by_cases h3:x.op=64529
  .have w3:=je [aS 1,aS t.e,aS 1] [];have wl:=lB [aS 1,aS t.e,aS 1];rw[an h0,an h1,an h2,az h3];simp only[go_sem,ac h0,ac h1,ac h2,ac (show x.op≠64528 by omega)];refine be (eJ.frzs [48] _ _) ?_;simp only[go_sem];refine aa (wl) ?_;refine be (eJ.nil2 _ _) ?_;refine aa (w3) ?_;exact ah
  have h4:x.op=64528:=by omega
  have w3:=je [] [aS 1];rw[an h0,an h1,an h2,an h3];simp only[go_sem,ac h0,ac h1,aD h4];refine be ((eJ.nil1 _ _).trans (eJ.frzs [36] _ _)) ?_;simp only[go_sem];refine aa (w3) ?_;exact ah
def abm(m:Md)(x:bj)(hb:B_ m)(ha:0<=x.a/\x.a<9223372036854775808)(ho:x.op=16\/x.op=210):aj pg I_ [ba m,fN x] (.agg (Sn (fnA (bO m) x))):=by
 refine ao yX ?_;have c1:=PM m hb.ims hb.fs hb.ts x.a ha.1 ha.2;have c2:=PK m hb x.a;have w1:=qr 11;have w2:=qr 22;have w3:=PP 210 (none,some [3]) rfl rfl;rw[show pL (none,some [3]) =⟨[],[3]⟩ from rfl]at w3;unfold fnA;generalize (bO m).fn x.a=q at c1⊢;simp only[ba,aM,aW]at c1 c2;simp only[go_sem,yX,ba];refine ae (c1) ?_;cases q with
 | none =>
  simp only[go_sem,Option.isSome_none];refine aa (w1) ?_;exact ah
 | some f =>
  by_cases h1:x.op=16
  .simp only[go_sem,Option.isSome_some,cG,aD h1,az h1];exact ah
  have h3:x.op=210:=by omega
  cases h2:(bO m).dec x.a
  .rw[h2]at c2;simp only[go_sem,Option.isSome_some,cG,ac h1,an h1,h2];refine aa (c2) ?_;refine aa (w2) ?_;exact ah
  .rw[h2]at c2;simp only[go_sem,Option.isSome_some,cG,ac h1,an h1,h2];refine ae (c2) ?_;simp only[go_sem,h3];refine aa (w3) ?_;exact ah
def Mc(m:Md)(x:bj)(hb:B_ m)(ha:0<=x.a/\x.a<9223372036854775808)(hx:0<=x.b/\x.b<9223372036854775808):aj pg A3 [ba m,fN x] (.agg (Sn (inA (bO m) x))):=by
 refine ao pS ?_;have c1:=C6 m x.a hb.ts;have c2:=uZ m hb.ims hb.tb x.b hx.1 hx.2;have w1:=qr 11;have w2:=qr 12;have hl:=Sj (s:=bO m) hb.tb2 x.a;unfold inA;rw[show(bO m).ty x.a=cx m.ts x.a from rfl]at hl⊢;generalize cx m.ts x.a=q at c1 hl⊢;generalize cx (bO m).tb x.b=r at c2⊢;simp only[ba,aM,aW,bT]at c1 c2;simp only[go_sem,pS,ba];refine aa (c1) ?_;refine ae (c2) ?_;cases q with
 | none =>
  simp only[go_sem,Option.isSome_none];refine aa (w1) ?_;exact ah
 | some f =>
  simp only[cG]at hl;cases r with
  | none =>
   simp only[go_sem,Option.isSome_none,Option.isSome_some];refine aa (w1) ?_;exact ah
  | some t =>
   simp only[cG];by_cases q1:t.e=3
   .rw[an (λz=>z q1)];have w3:=je ((f.ps++[1]).map aS) (f.rs.map aS);have a0:=H7 36 48 1 aS f.ps (by omega) (by decide);have ha:=cC 36 48 1 f.ps.length aS f.ps [[.int .i64 1]] rfl;have et:(f.ps.map aS++[[AV.int .i64 1]]).take (f.ps.length+1)=(f.ps++[1]).map aS:=by
     rw[iF (by simp)];simp[aS]
    simp only[go_sem,Option.isSome_some,cG,ay q1,a0,ha];refine⟨?_,?_⟩
    .omega
    refine be (eJ.frzs [36] _ _) ?_;simp only[go_sem,aQ,fo,dk,dN,i9,eG,et];refine aa (w3) ?_;exact ah
   .rw[az q1];simp only[go_sem,Option.isSome_some,cG,aE q1];refine aa (w2) ?_;exact ah
def acO(m:Md)(i:Int)(hb:B_ m)(ha:0<=i/\i<9223372036854775808):aj pg Ls [ba m,.int .i64 i] (.bool (cx (bO m).ms i).isSome):=by
 refine ao BL ?_;have c1:=af3 m hb.ims hb.ms i ha.1 ha.2;simp only[ba,aM,cX]at c1;simp only[go_sem,BL,ba];refine aa (c1) ?_;exact ah
def alQ{s:Sp}{x:bj}(h:bN x.op=10):cS s x=iN ((cx s.tb x.a).isSome&&(cx s.tb x.b).isSome) ((cx s.tb x.a).getD default).e ((cx s.tb x.b).getD default).e:=by unfold cS;rw[az h]
def alR{s:Sp}{x:bj}(h:bN x.op=11):cS s x=iN ((cx s.el x.a).isSome&&(cx s.tb x.b).isSome) ((cx s.el x.a).getD 0) ((cx s.tb x.b).getD default).e:=by unfold cS;rw[an (by omega),az h]
def thR(e:Int)(F:Ft):Ft×Int:=if e≠0 then(default,e)else(F,0)
def z6(F:Ft):thR 0 F=(F,0):=rfl
def z7{e:Int}(h:e≠0)(F:Ft):thR e F=(default,e):=az h
def YL(x y:Int):iN false x y=11:=rfl
def Qe(F:Ft):thR 11 F=(default,11):=rfl
def age(m:Md)(x:bj)(hb:B_ m)(ha:0<=x.a/\x.a<9223372036854775808)(hx:0<=x.b/\x.b<9223372036854775808)(F:Ft)(cs:aj pg uQ [.int .i64 x.op] (.agg (Sn (F,0))))
  (ho:(x.op=64526/\bN x.op=10)\/(x.op≠64526/\bN x.op=11)):aj pg Lt [ba m,fN x] (.agg (Sn (thR (cS (bO m) x) F))):=by
 refine ao uh ?_;have c1:=PL m x.a hb.els;have c2:=uZ m hb.ims hb.tb x.a ha.1 ha.2;have c3:=uZ m hb.ims hb.tb x.b hx.1 hx.2;have w1:=qr 11;have w2:=qr 12;rcases ho with⟨o1,o2⟩|⟨o1,o2⟩
 .rw[alQ o2];generalize cx (bO m).el x.a=p at c1⊢;generalize cx (bO m).tb x.a=q at c2⊢;generalize cx (bO m).tb x.b=r at c3⊢;clear o2;simp only[ba,aM,bT]at c1 c2 c3;simp only[go_sem,uh,ba];refine ae (c1) ?_;simp only[go_sem,aD o1];refine aa (c2) ?_;refine ae (c3) ?_;cases q with
  | none =>
   simp only[go_sem,Option.isSome_none];refine aa (w1) ?_;exact aq [] (by simp only[go_sem,Option.isSome_none,Option.isSome_some,dF,Bool.and_false,YL,Qe];try rfl) (by rfl)
  | some t =>
   cases r with
   | none =>
    simp only[go_sem,Option.isSome_none,Option.isSome_some];refine aa (w1) ?_;exact aq [] (by simp only[go_sem,Option.isSome_none,Option.isSome_some,dF,Bool.and_false,YL,Qe];try rfl) (by rfl)
   | some u =>
    by_cases q1:t.e=u.e
    .simp only[go_sem,Option.isSome_some,cG,ay q1];refine aa (cs) ?_;have e:iN true t.e u.e=0:=by unfold iN;rw[an (by decide),an (λz=>z q1)]
     exact aq [] (by simp only[go_sem,Option.isSome_some,cG,e,z6];try rfl) (by rfl)
    .simp only[go_sem,Option.isSome_some,cG,aE q1];refine aa (w2) ?_;have e:iN true t.e u.e=12:=by unfold iN;rw[an (by decide),az q1]
     exact aq [] (by simp only[go_sem,Option.isSome_some,cG,e,thR];try rfl) (by rfl)
 .rw[alR o2];generalize cx (bO m).el x.a=p at c1⊢;generalize cx (bO m).tb x.b=r at c3⊢;clear o2;simp only[ba,aM,bT]at c1 c2 c3;simp only[go_sem,uh,ba];refine ae (c1) ?_;simp only[go_sem,ac o1];refine ae (c3) ?_;cases p with
  | none =>
   simp only[go_sem,Option.isSome_none];refine aa (w1) ?_;exact aq [] (by simp only[go_sem,Option.isSome_none,Option.isSome_some,dF,Bool.and_false,YL,Qe];try rfl) (by rfl)
  | some t =>
   cases r with
   | none =>
    simp only[go_sem,Option.isSome_none,Option.isSome_some];refine aa (w1) ?_;exact aq [] (by simp only[go_sem,Option.isSome_none,Option.isSome_some,dF,Bool.and_false,YL,Qe];try rfl) (by rfl)
   | some u =>
    by_cases q1:t=u.e
    .simp only[go_sem,Option.isSome_some,cG,ay q1];refine aa (cs) ?_;have e:iN true t u.e=0:=by unfold iN;rw[an (by decide),an (λz=>z q1)]
     exact aq [] (by simp only[go_sem,Option.isSome_some,cG,e,z6];try rfl) (by rfl)
    .simp only[go_sem,Option.isSome_some,cG,aE q1];refine aa (w2) ?_;have e:iN true t u.e=12:=by unfold iN;rw[an (by decide),az q1]
     exact aq [] (by simp only[go_sem,Option.isSome_some,cG,e,thR];try rfl) (by rfl)
def alT{s:Sp}{x:bj}(h:bN x.op=13):cS s x=gV (cx s.ms x.b).isSome:=by unfold cS;simp[h]
def alU{s:Sp}{x:bj}(h:bN x.op=14):cS s x=if(cx s.ms x.a).isSome=false then 11 else gV (cx s.ms x.b).isSome:=by unfold cS;simp[h]
def alV{s:Sp}{x:bj}(h:bN x.op=15):cS s x=gV ((cx s.ms x.b).isSome&&decide (x.a<s.ds)):=by unfold cS;simp[h]
def alX{s:Sp}{x:bj}(h:bN x.op=17):cS s x=if(cx s.ms x.b).isSome=true/\x.a>oy (mj x.op)then 19 else gV (cx s.ms x.b).isSome:=by unfold cS;simp[h]
def RX(m:Md)(x:bj)(hb:B_ m)(ha:0<=x.a/\x.a<9223372036854775808)(hx:0<=x.b/\x.b<9223372036854775808)(hds:m.ds.length<=10000)(F:Ft)(cs:aj pg uQ [.int .i64 x.op] (.agg (Sn (F,0))))
  (him:bN x.op=13\/bN x.op=14\/bN x.op=15\/bN x.op=17) (h14:x.op=64522↔bN x.op=14) (h15:x.op=64520↔bN x.op=15):aj pg EB [ba m,fN x] (.agg (Sn (thR (cS (bO m) x) F))):=by
 refine ao iK ?_;have c1:=acO m x.a hb ha;have c2:=acO m x.b hb hx;have c3:=L4 m hds;have c4:=Mb x.op;have c5:=abb x.op;obtain⟨_,_,t3,_,t5,_⟩:=Qd x.op;rw[<-t3]at c4;rw[<-t5]at c5;have w1:=qr 11;have w2:=qr 19;simp only[ba,aM]at c1 c2 c3;rcases him with h|h|h|h
 .rw[alT h];rw[h]at c4;have n1:x.op≠64522:=λz=>by have:=h14.1 z;omega
  have n2:x.op≠64520:=λz=>by have:=h15.1 z;omega
  clear h h14 h15 c1 c3 c5 t3 t5;simp only[go_sem,iK,ba,ac n1,ac n2];refine ae (c2) ?_;cases hB:(cx (bO m).ms x.b).isSome
  .rw[show gV false=11 from rfl,z7 (by decide)];simp only[go_sem];refine aa (w1) ?_;exact ah
  rw[show gV true=0 from rfl,z6];simp only[go_sem];refine aa (c4) ?_;refine aa (cs) ?_;exact ah
 .rw[alU h];rw[h]at c4;have n1:x.op=64522:=h14.2 h;have n2:x.op≠64520:=by omega
  clear h h14 h15 c3 c5 t3 t5;simp only[go_sem,iK,ba,aD n1];refine ae (c1) ?_;cases hA:(cx (bO m).ms x.a).isSome
  .rw[az rfl,z7 (by decide)];simp only[go_sem];refine aa (w1) ?_;exact ah
  rw[an (by decide)];simp only[go_sem,ac n2];refine ae (c2) ?_;cases hB:(cx (bO m).ms x.b).isSome
  .rw[show gV false=11 from rfl,z7 (by decide)];simp only[go_sem];refine aa (w1) ?_;exact ah
  rw[show gV true=0 from rfl,z6];simp only[go_sem];refine aa (c4) ?_;refine aa (cs) ?_;exact ah
 .rw[alV h];rw[h]at c4;have n2:x.op=64520:=h15.2 h;have n1:x.op≠64522:=by omega
  clear h h14 h15 c1 c5 t3 t5;simp only[go_sem,iK,ba,ac n1,aD n2];refine ax c3 (by simp[go_sem]) rfl ?_;by_cases hD:x.a>=(bO m).ds
  .rw[aI (show ¬x.a<(bO m).ds by omega),Bool.and_false,show gV false=11 from rfl,z7 (by decide)];simp only[go_sem,aF hD];refine aa (w1) ?_;exact ah
  rw[aF (show x.a<(bO m).ds by omega),Bool.and_true];simp only[go_sem,aI hD];refine ae (c2) ?_;cases hB:(cx (bO m).ms x.b).isSome
  .rw[show gV false=11 from rfl,z7 (by decide)];simp only[go_sem];refine aa (w1) ?_;exact ah
  rw[show gV true=0 from rfl,z6];simp only[go_sem];refine aa (c4) ?_;refine aa (cs) ?_;exact ah
 .rw[alX h];rw[h]at c4;have n1:x.op≠64522:=λz=>by have:=h14.1 z;omega
  have n2:x.op≠64520:=λz=>by have:=h15.1 z;omega
  clear h h14 h15 c1 c3 t3 t5;generalize oy (mj x.op)=al at c5⊢;simp only[go_sem,iK,ba,ac n1,ac n2];refine ae (c2) ?_;cases hB:(cx (bO m).ms x.b).isSome
  .rw[an (show ¬(false=true/\x.a>al) from λz=>by cases z.1),show gV false=11 from rfl,z7 (by decide)];simp only[go_sem];refine aa (w1) ?_;exact ah
  rw[show gV true=0 from rfl];simp only[go_sem];refine aa (c4) ?_;refine ax c5 (by simp[go_sem]) rfl ?_;by_cases hD:x.a>al
  .first|rw[az (show True/\x.a>al from⟨trivial,hD⟩)]|rw[az (show true=true/\x.a>al from⟨rfl,hD⟩)]|rw[az hD]
   rw[z7 (by decide)];simp only[go_sem,aF hD];refine aa (w2) ?_;exact ah
  first|rw[an (show ¬(true=true/\x.a>al) from λz=>hD z.2)]|rw[an hD]
  rw[z6];simp only[go_sem,aI hD];refine aa (cs) ?_;exact ah
