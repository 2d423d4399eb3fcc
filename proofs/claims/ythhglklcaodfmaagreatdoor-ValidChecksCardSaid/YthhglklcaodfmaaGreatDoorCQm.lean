import Derived.Test.YthhglklcaodfmaaGreatDoorCQl
set_option linter.all false
set_option maxRecDepth 100000
set_option maxHeartbeats 40000000
namespace Go.Proofs.YthhglklcaodfmaaGreatDoor
open Go Go.Mw
def vo(t:Int):UInt8×Bool:=if t=1 then(127,true)else if t=2 then(126,true)else if t=3 then(112,true)else if t=4 then(111,true)else(0,false)
def ov(b:UInt8):Int×Bool:=if b=127 then(1,true)else if b=126 then(2,true)else if b=112 then(3,true)else if b=111 then(4,true)else(0,false)
def z0:bj:=⟨0,0,0,0,0,0,0,[],[]⟩
def same(t:Int):List Int->Nat
 | []=>0
 | x::l=>if x=t then same t l+1 else 0
def wv(m:Md):List Int :=
 (if m.ts.length>0 then[1]else[])++(if m.ims.length>0 then[2]else[])++(if m.fs.length>0 then[3]else[])++(if m.tbs.length>0 then[4]else[]) ++
 (if m.ms.length>0 then[5]else[])++(if m.gs.length>0 then[6]else[])++(if m.exs.length>0 then[7]else[])++(if m.hs=true then[8]else[]) ++
 (if m.els.length>0 then[9]else[])++(if m.ds.length>0 then[10]else[])++(if m.fs.length>0 then[11]else[])++(if m.ds.length>0 then[12]else[])
def Fx(op:Int):Bool:=op==2||op==3||op==4
def ql(l:List Int)(i:Nat)(op:Int):List Int:=if Fx op then l++[(i:Int)]else if op==11 then l.dropLast else l
def bh(B:List bj):Nat->List Int
 | 0=>[-1]
 | i+1=>ql (bh B i) i (av B i).op
def ym(B:List bj)(i:Nat):Int:=av (bh B i) ((bh B i).length-1)
def rp(B:List bj)(h:Int)(i:Nat):Bool:=(List.range i).any λj=>decide (h<j)&&(av B j).op==5&&decide (0<(bh B j).length)&&ym B j==h
def cD(B:List bj)(i:Nat):Bool:=(av B i).op==5&&(decide (ym B i<0)||(av B (ym B i).toNat).op != 4||rp B (ym B i) i)
def gB(B:List bj)(i:Nat):Int:=if(bh B i).length=0 then 16 else if cD B i then 16 else if Fx (av B i).op&&decide (32<=(bh B i).length)then 6 else 0
def B7(B:List bj):Nat->Nat->Int×Int
 | _,0=>if 0<(bh B B.length).length then(B.length,3)else(0,0)
 | i,k+1=>if gB B i≠0 then(i,gB B i)else B7 B (i+1) k
def nchk(B:List bj):Int×Int:=B7 B 0 B.length
def uV(B:List bj):∀i,(bh B i).length<=i+1
 | 0=>by simp[bh]
 | i+1=>by
  have:=uV B i;simp only[bh,ql];split
  .simp;omega
  .split
   .simp;omega
   .omega
def GL{l:List Int}{k:Nat}(h:k<l.length-1):av l.dropLast k=av l k:=by
 rw[List.dropLast_eq_take,LT h]
def yo(B:List bj):∀(i:Nat),(∀j,j<i->0<(bh B j).length)->∀k,k<(bh B i).length->(k=0/\av (bh B i) k = -1)\/(0<k/\∃j:Nat,av (bh B i) k=j/\j<i/\bh B j=(bh B i).take k/\Fx (av B j).op=true)
 | 0,_,k,hk=>by
  simp only[bh,Ss]at hk⊢;have:k=0:=by omega
  subst this;exact .inl ⟨rfl,rfl⟩
 | i+1,hne,k,hk=>by
  have ih:=yo B i (λj hj=>hne j (by omega)) k;have h0:=hne i (by omega);simp only[bh]at hk⊢;unfold ql at hk⊢;by_cases hb:Fx (av B i).op
  .rw[az hb]at hk⊢;simp only[dN,Ss]at hk;by_cases h2:k<(bh B i).length
   .rw[HE h2,List.take_append_of_le_length (by omega)];rcases ih h2 with h|⟨h3,j,h4,h5,h6,h7⟩
    .exact .inl h
    .exact .inr ⟨h3,j,h4,by omega,h6,h7⟩
   .have hk2:k=(bh B i).length:=by omega
    subst hk2;exact .inr ⟨h0,i,LR,by omega,by simp,hb⟩
  .rw[an hb]at hk⊢;by_cases h11:((av B i).op==11)=true
   .rw[az h11]at hk⊢;simp only[List.length_dropLast]at hk;rw[GL hk,List.dropLast_eq_take,List.take_take,MG (by omega)];rcases ih (by omega)with h|⟨h3,j,h4,h5,h6,h7⟩
    .exact .inl h
    .exact .inr ⟨h3,j,h4,by omega,h6,h7⟩
   .rw[an h11]at hk⊢;rcases ih hk with h|⟨h3,j,h4,h5,h6,h7⟩
    .exact .inl h
    .exact .inr ⟨h3,j,h4,by omega,h6,h7⟩
def HA{B:List bj}{i:Nat}(hne:∀j,j<i->0<(bh B j).length)(h0:0<(bh B i).length) :
  ((bh B i).length=1/\ym B i = -1)\/(1<(bh B i).length/\∃j:Nat,ym B i=j/\j<i/\bh B j=(bh B i).take ((bh B i).length-1)/\Fx (av B j).op=true):=by
 rcases yo B i hne ((bh B i).length-1) (by omega)with⟨h1,h2⟩|⟨h1,h2⟩
 .exact .inl ⟨by omega,h2⟩
 .exact .inr ⟨by omega,h2⟩
def EI{B:List bj}{i:Nat}(hne:∀j,j<i->0<(bh B j).length)(h0:0<(bh B i).length):-1<=ym B i/\ym B i<i:=by
 rcases HA hne h0 with⟨_,h⟩|⟨_,j,h,h2,_⟩<;>omega
def Py{B:List bj}{i:Nat}(h:gB B i=0):0<(bh B i).length:=by
 unfold gB at h;split at h
 .cases h
 .omega
def V3{B:List bj}{i:Nat}(h:gB B i=0):cD B i=false/\(Fx (av B i).op&&decide (32<=(bh B i).length))=false:=by
 unfold gB at h;split at h
 .cases h
 split at h
 .cases h
 split at h
 .cases h
 .rename_i h1 h2 h3;exact⟨by simpa using h2,by simpa using h3⟩
def NT{B:List bj}{i k:Nat}(h:gB B i=0):B7 B i (k+1)=B7 B (i+1) k:=by simp[B7,h]
def NU{B:List bj}{i k:Nat}(h:gB B i≠0):B7 B i (k+1)=((i:Int),gB B i):=by simp[B7,h]
def Hz{B:List bj}{i:Nat}(hi:i<=B.length)(h:∀j,j<i->gB B j=0):nchk B=B7 B i (B.length-i):=by
 induction i with
 | zero=>rfl
 | succ i ih =>
  rw[ih (by omega) (λj hj=>h j (by omega)),show B.length-i=(B.length-(i+1))+1 by omega,NT (h i (by omega))]
def vy{B:List bj}{i:Nat}(hi:i<B.length)(h:∀j,j<i->gB B j=0)(he:gB B i≠0):nchk B=((i:Int),gB B i):=by
 rw[Hz (by omega) h,show B.length-i=(B.length-(i+1))+1 by omega,NU he]
def LE{B:List bj}(h:∀j,j<B.length->gB B j=0):nchk B=if 0<(bh B B.length).length then((B.length:Int),3)else(0,0):=by
 rw[Hz (aQ _) h,Cc];rfl
section
def gP{P:Program}[bE P]{f:FuncId}{args:List AV}{r r':AV}(hp:aj P f args r)(hw:∀bl M w v,bv bl M w v r->bv bl M w v r')(hid:aV r'=[]):aj P f args r' :=
 λbl MF w cargs h1 h2 h3 h4 h5=>(hp bl MF w cargs h1 h2 h3 h4 h5).mono λe w' h=>by
  obtain⟨v,r0,σ',bl',he,⟨rfl,rfl⟩,_,h6,h7,h8⟩:=h;exact⟨v,r',[],bl',he,⟨rfl,rfl⟩,⟨λi hi=>(by rw[hid]at hi;cases hi),λp hp=>absurd hp cH⟩,h6,hw _ _ _ _ h7,h8⟩
def HV(p q:List Int):AV:=.agg [.sl 1 (p.map aS),.sl 1 (q.map aS)]
def GM(op t:Int)(s:List UInt8):List Int×List Int :=
 if CV s [108,111,97,100]=true then([1],[t])else
 if CV s [115,116,111,114,101]=true then([1,t],[])else
 if(s==[101,113,122])=true then([t],[1])else
 if op>=70/\op<=90 then([t,t],[1])else
 if(s==[99,108,122])=true then([t],[t])else
 if(s==[99,116,122])=true then([t],[t])else
 if(s==[112,111,112,99,110,116])=true then([t],[t])else
 if CV s [101,120,116,101,110,100]=true then([t],[t])else([t,t],[t])
attribute[local go_sem] fg bY
def R7(op t:Int)(s:List UInt8)(hs:s.length<1000000):aj pg Cv [.int .i64 op,.int .i64 t,.str s] (HV (GM op t s).1 (GM op t s).2):=by
 refine ao rZ ?_;unfold GM HV;simp only[go_sem,rZ];refine ae (JM s [108,111,97,100] ⟨hs,by decide⟩) ?_;cases q1:CV s [108,111,97,100]
 case true =>
  rw[az rfl];simp only[go_sem];refine bR [10,12] ?_ (kQ [1] [t]) (by simp[go_sem,fg]) ?_
  .simp only[go_sem,aQ]
   try rfl
  simp only[go_sem];exact aw
 rw[an (by decide)];simp only[go_sem];refine ae (JM s [115,116,111,114,101] ⟨hs,by decide⟩) ?_;cases q2:CV s [115,116,111,114,101]
 case true =>
  rw[az rfl];simp only[go_sem];refine km [.ms 18 1 0 2,.sl 1 []] ⟨.inl rfl,.inr (.inl ⟨rfl,1,rfl⟩),trivial⟩ ?_;refine bR [18] ?_ (kQ [1,t] []) (by simp[go_sem,fg]) ?_
  .simp only[go_sem,aQ]
   try rfl
  simp only[go_sem];exact aw
 rw[an (by decide)];cases q3:s==[101,113,122]
 case true =>
  rw[az rfl];simp only[go_sem,q3];refine bR [24,25] ?_ (kQ [t] [1]) (by simp[go_sem,fg]) ?_
  .simp only[go_sem,aQ]
   try rfl
  simp only[go_sem];exact aw
 rw[an (by decide)];by_cases q4:op>=70/\op<=90
 .rw[az q4];simp only[go_sem,q3,aF q4.1,aF q4.2];refine bR [36,37] ?_ (kQ [t,t] [1]) (by simp[go_sem,fg]) ?_
  .simp only[go_sem,aQ]
   try rfl
  simp only[go_sem];exact aw
 rw[an q4];by_cases q5:op>=70
 .have q6:¬op<=90:=λh=>q4 ⟨q5,h⟩;simp only[go_sem,q3,aF q5,aI q6];cases q7:s==[99,108,122]
  case true =>
   rw[az rfl];simp only[go_sem,q7];refine bR [55,57] ?_ (kQ [t] [t]) (by simp[go_sem,fg]) ?_
   .simp only[go_sem,aQ]
    try rfl
   simp only[go_sem];exact aw
  rw[an (by decide)];cases q8:s==[99,116,122]
  case true =>
   rw[az rfl];simp only[go_sem,q7,q8];refine bR [55,57] ?_ (kQ [t] [t]) (by simp[go_sem,fg]) ?_
   .simp only[go_sem,aQ]
    try rfl
   simp only[go_sem];exact aw
  rw[an (by decide)];cases q9:s==[112,111,112,99,110,116]
  case true =>
   rw[az rfl];simp only[go_sem,q7,q8,q9];refine bR [55,57] ?_ (kQ [t] [t]) (by simp[go_sem,fg]) ?_
   .simp only[go_sem,aQ]
    try rfl
   simp only[go_sem];exact aw
  rw[an (by decide)];simp only[go_sem,q7,q8,q9];refine ae (JM s [101,120,116,101,110,100] ⟨hs,by decide⟩) ?_;cases q10:CV s [101,120,116,101,110,100]
  case true =>
   rw[az rfl];simp only[go_sem];refine bR [55,57] ?_ (kQ [t] [t]) (by simp[go_sem,fg]) ?_
   .simp only[go_sem,aQ]
    try rfl
   simp only[go_sem];exact aw
  rw[an (by decide)];simp only[go_sem];refine bR [61,63] ?_ (kQ [t,t] [t]) (by simp[go_sem,fg]) ?_
  .simp only[go_sem,aQ]
   try rfl
  simp only[go_sem];exact aw
 .simp only[go_sem,q3,aI q5];cases q7:s==[99,108,122]
  case true =>
   rw[az rfl];simp only[go_sem,q7];refine bR [55,57] ?_ (kQ [t] [t]) (by simp[go_sem,fg]) ?_
   .simp only[go_sem,aQ]
    try rfl
   simp only[go_sem];exact aw
  rw[an (by decide)];cases q8:s==[99,116,122]
  case true =>
   rw[az rfl];simp only[go_sem,q7,q8];refine bR [55,57] ?_ (kQ [t] [t]) (by simp[go_sem,fg]) ?_
   .simp only[go_sem,aQ]
    try rfl
   simp only[go_sem];exact aw
  rw[an (by decide)];cases q9:s==[112,111,112,99,110,116]
  case true =>
   rw[az rfl];simp only[go_sem,q7,q8,q9];refine bR [55,57] ?_ (kQ [t] [t]) (by simp[go_sem,fg]) ?_
   .simp only[go_sem,aQ]
    try rfl
   simp only[go_sem];exact aw
  rw[an (by decide)];simp only[go_sem,q7,q8,q9];refine ae (JM s [101,120,116,101,110,100] ⟨hs,by decide⟩) ?_;cases q10:CV s [101,120,116,101,110,100]
  case true =>
   rw[az rfl];simp only[go_sem];refine bR [55,57] ?_ (kQ [t] [t]) (by simp[go_sem,fg]) ?_
   .simp only[go_sem,aQ]
    try rfl
   simp only[go_sem];exact aw
  rw[an (by decide)];simp only[go_sem];refine bR [61,63] ?_ (kQ [t,t] [t]) (by simp[go_sem,fg]) ?_
  .simp only[go_sem,aQ]
   try rfl
  simp only[go_sem];exact aw
def sgT:List (Int×List Int×List Int):=[(1,[],[]),(64525,[],[]),(64521,[],[]),(65,[],[1]),(63,[],[1]),(64528,[],[1]),(66,[],[2]),(210,[],[3]),(64,[1],[1]),(64523,[1,1,1],[]),(64522,[1,1,1],[]),(64520,[1,1,1],[]),(64526,[1,1,1],[]),(64524,[1,1,1],[]),(167,[2],[1]),(172,[1],[2]),(173,[1],[2])]
def rJ(op:Int):List Int×List Int×Bool:=match sgT.find? (λp=>p.1==op)with
 | some p=>(p.2.1,p.2.2,true)
 | none=>if(CV (bP op) [105,51,50,46]||CV (bP op) [105,54,52,46])=true then((GM op (if CV (bP op) [105,54,52]=true then 2 else 1) ((bP op).drop 4)).1,(GM op (if CV (bP op) [105,54,52]=true then 2 else 1) ((bP op).drop 4)).2,true)else([],[],false)
def Jm(b:Bool)(bl:Nat->Option Nat)(M:Nat->Prop)(w:World)(v:Value)(h:bv bl M w v (.tup [.agg [.nl,.nl],.bool b])):bv bl M w v (.tup [HV [] [],.bool b]):=by
 obtain⟨cs,rfl,h⟩:=h;refine⟨cs,rfl,?_⟩
 match cs,h with
 | [c,d],⟨h1,h2,_⟩=>exact⟨C0 (bl:=bl) (M:=M) (w:=w) (v:=c) (x:=.agg [.nl,.nl]) (y:=.agg [.sl 1 [],.sl 1 []]) (.inr (.inr ⟨_,_,rfl,rfl,.inr ⟨rfl,1,rfl⟩,.inr ⟨rfl,1,rfl⟩,trivial⟩)) h1,h2,trivial⟩
def Pc{s p:List UInt8}(h:CV s p=true):p.length<=s.length:=by
 simp only[CV,dX,ol]at h;exact h.1
def ags(op:Int):aj pg II [.int .i64 op] (.tup [HV (rJ op).1 (rJ op).2.1,.bool (rJ op).2.2]):=by
 by_cases h0:op=1
 .subst h0;have r:rJ 1=([],[],true):=rfl;rw[r];refine gP (r:=.tup [.agg [.nl,.nl],.bool true]) ?_ (Jm true) rfl;refine ao aN ?_;simp only[go_sem,aN];exact aw
 by_cases h1:op=64525
 .subst h1;have r:rJ 64525=([],[],true):=rfl;rw[r];refine gP (r:=.tup [.agg [.nl,.nl],.bool true]) ?_ (Jm true) rfl;refine ao aN ?_;simp only[go_sem,aN];exact aw
 by_cases h2:op=64521
 .subst h2;have r:rJ 64521=([],[],true):=rfl;rw[r];refine gP (r:=.tup [.agg [.nl,.nl],.bool true]) ?_ (Jm true) rfl;refine ao aN ?_;simp only[go_sem,aN];exact aw
 by_cases h3:op=65
 .subst h3;have r:rJ 65=([],[1],true):=rfl;rw[r];unfold HV;refine ao aN ?_;simp only[go_sem,aN];refine km [.sl 1 [],.ms 17 1 0 1] ⟨.inr (.inl ⟨rfl,1,rfl⟩),.inl rfl,trivial⟩ ?_;refine bR [17] ?_ (kQ [] [1]) (by simp[go_sem,fg]) ?_
  .simp only[go_sem,aQ]
   try rfl
  simp only[go_sem];exact aw
 by_cases h4:op=63
 .subst h4;have r:rJ 63=([],[1],true):=rfl;rw[r];unfold HV;refine ao aN ?_;simp only[go_sem,aN];refine km [.sl 1 [],.ms 17 1 0 1] ⟨.inr (.inl ⟨rfl,1,rfl⟩),.inl rfl,trivial⟩ ?_;refine bR [17] ?_ (kQ [] [1]) (by simp[go_sem,fg]) ?_
  .simp only[go_sem,aQ]
   try rfl
  simp only[go_sem];exact aw
 by_cases h5:op=64528
 .subst h5;have r:rJ 64528=([],[1],true):=rfl;rw[r];unfold HV;refine ao aN ?_;simp only[go_sem,aN];refine km [.sl 1 [],.ms 17 1 0 1] ⟨.inr (.inl ⟨rfl,1,rfl⟩),.inl rfl,trivial⟩ ?_;refine bR [17] ?_ (kQ [] [1]) (by simp[go_sem,fg]) ?_
  .simp only[go_sem,aQ]
   try rfl
  simp only[go_sem];exact aw
 by_cases h6:op=66
 .subst h6;have r:rJ 66=([],[2],true):=rfl;rw[r];unfold HV;refine ao aN ?_;simp only[go_sem,aN];refine km [.sl 1 [],.ms 21 1 0 1] ⟨.inr (.inl ⟨rfl,1,rfl⟩),.inl rfl,trivial⟩ ?_;refine bR [21] ?_ (kQ [] [2]) (by simp[go_sem,fg]) ?_
  .simp only[go_sem,aQ]
   try rfl
  simp only[go_sem];exact aw
 by_cases h7:op=210
 .subst h7;have r:rJ 210=([],[3],true):=rfl;rw[r];unfold HV;refine ao aN ?_;simp only[go_sem,aN];refine km [.sl 1 [],.ms 25 1 0 1] ⟨.inr (.inl ⟨rfl,1,rfl⟩),.inl rfl,trivial⟩ ?_;refine bR [25] ?_ (kQ [] [3]) (by simp[go_sem,fg]) ?_
  .simp only[go_sem,aQ]
   try rfl
  simp only[go_sem];exact aw
 by_cases h8:op=64
 .subst h8;have r:rJ 64=([1],[1],true):=rfl;rw[r];unfold HV;refine ao aN ?_;simp only[go_sem,aN];refine⟨⟨by decide,by decide⟩,?_⟩;refine bR [6,31] ?_ (kQ [1] [1]) (by simp[go_sem,fg]) ?_
  .simp only[go_sem,aQ]
   try rfl
  simp only[go_sem];exact aw
 by_cases h9:op=64523
 .subst h9;have r:rJ 64523=([1,1,1],[],true):=rfl;rw[r];unfold HV;refine ao aN ?_;simp only[go_sem,aN];refine km [.ms 6 1 0 3,.sl 1 []] ⟨.inl rfl,.inr (.inl ⟨rfl,1,rfl⟩),trivial⟩ ?_;refine bR [6] ?_ (kQ [1,1,1] []) (by simp[go_sem,fg]) ?_
  .simp only[go_sem,aQ]
   try rfl
  simp only[go_sem];exact aw
 by_cases h10:op=64522
 .subst h10;have r:rJ 64522=([1,1,1],[],true):=rfl;rw[r];unfold HV;refine ao aN ?_;simp only[go_sem,aN];refine km [.ms 6 1 0 3,.sl 1 []] ⟨.inl rfl,.inr (.inl ⟨rfl,1,rfl⟩),trivial⟩ ?_;refine bR [6] ?_ (kQ [1,1,1] []) (by simp[go_sem,fg]) ?_
  .simp only[go_sem,aQ]
   try rfl
  simp only[go_sem];exact aw
 by_cases h11:op=64520
 .subst h11;have r:rJ 64520=([1,1,1],[],true):=rfl;rw[r];unfold HV;refine ao aN ?_;simp only[go_sem,aN];refine km [.ms 6 1 0 3,.sl 1 []] ⟨.inl rfl,.inr (.inl ⟨rfl,1,rfl⟩),trivial⟩ ?_;refine bR [6] ?_ (kQ [1,1,1] []) (by simp[go_sem,fg]) ?_
  .simp only[go_sem,aQ]
   try rfl
  simp only[go_sem];exact aw
 by_cases h12:op=64526
 .subst h12;have r:rJ 64526=([1,1,1],[],true):=rfl;rw[r];unfold HV;refine ao aN ?_;simp only[go_sem,aN];refine km [.ms 6 1 0 3,.sl 1 []] ⟨.inl rfl,.inr (.inl ⟨rfl,1,rfl⟩),trivial⟩ ?_;refine bR [6] ?_ (kQ [1,1,1] []) (by simp[go_sem,fg]) ?_
  .simp only[go_sem,aQ]
   try rfl
  simp only[go_sem];exact aw
 by_cases h13:op=64524
 .subst h13;have r:rJ 64524=([1,1,1],[],true):=rfl;rw[r];unfold HV;refine ao aN ?_;simp only[go_sem,aN];refine km [.ms 6 1 0 3,.sl 1 []] ⟨.inl rfl,.inr (.inl ⟨rfl,1,rfl⟩),trivial⟩ ?_;refine bR [6] ?_ (kQ [1,1,1] []) (by simp[go_sem,fg]) ?_
  .simp only[go_sem,aQ]
   try rfl
  simp only[go_sem];exact aw
 by_cases h14:op=167
 .subst h14;have r:rJ 167=([2],[1],true):=rfl;rw[r];unfold HV;refine ao aN ?_;simp only[go_sem,aN];refine bR [43,44] ?_ (kQ [2] [1]) (by simp[go_sem,fg]) ?_
  .simp only[go_sem,aQ]
   try rfl
  simp only[go_sem];exact aw
 by_cases h15:op=172
 .subst h15;have r:rJ 172=([1],[2],true):=rfl;rw[r];unfold HV;refine ao aN ?_;simp only[go_sem,aN];refine⟨⟨by decide,by decide⟩,?_⟩;refine bR [6,51] ?_ (kQ [1] [2]) (by simp[go_sem,fg]) ?_
  .simp only[go_sem,aQ]
   try rfl
  simp only[go_sem];exact aw
 by_cases h16:op=173
 .subst h16;have r:rJ 173=([1],[2],true):=rfl;rw[r];unfold HV;refine ao aN ?_;simp only[go_sem,aN];refine⟨⟨by decide,by decide⟩,?_⟩;refine bR [6,51] ?_ (kQ [1] [2]) (by simp[go_sem,fg]) ?_
  .simp only[go_sem,aQ]
   try rfl
  simp only[go_sem];exact aw
 have e:sgT.find? (λp=>p.1==op)=none:=by
  simp only[sgT,List.find?_cons,List.find?_nil,ac (λe:(1:Int)=op=>h0 e.symm),ac (λe:(64525:Int)=op=>h1 e.symm),ac (λe:(64521:Int)=op=>h2 e.symm),ac (λe:(65:Int)=op=>h3 e.symm),ac (λe:(63:Int)=op=>h4 e.symm),ac (λe:(64528:Int)=op=>h5 e.symm),ac (λe:(66:Int)=op=>h6 e.symm),ac (λe:(210:Int)=op=>h7 e.symm),ac (λe:(64:Int)=op=>h8 e.symm),ac (λe:(64523:Int)=op=>h9 e.symm),ac (λe:(64522:Int)=op=>h10 e.symm),ac (λe:(64520:Int)=op=>h11 e.symm),ac (λe:(64526:Int)=op=>h12 e.symm),ac (λe:(64524:Int)=op=>h13 e.symm),ac (λe:(167:Int)=op=>h14 e.symm),ac (λe:(172:Int)=op=>h15 e.symm),ac (λe:(173:Int)=op=>h16 e.symm)]
 have hl:=EH op;cases q1:CV (bP op) [105,51,50,46]||CV (bP op) [105,54,52,46]
 .have r:rJ op=([],[],false):=by rw[rJ,e];simp only[q1];rfl
  rw[r];refine gP (r:=.tup [.agg [.nl,.nl],.bool false]) ?_ (Jm false) rfl;refine ao aN ?_;have q2:CV (bP op) [105,51,50,46]=false:=by
   cases h:CV (bP op) [105,51,50,46]
   .rfl
   .rw[h]at q1;cases q1
  rw[q2,jW]at q1;have b1:=JM (bP op) [105,51,50,46] ⟨by omega,by decide⟩;have b2:=JM (bP op) [105,54,52,46] ⟨by omega,by decide⟩;rw[q2]at b1;rw[q1]at b2;simp only[go_sem,aN,ac h0,ac h1,ac h2,ac h3,ac h4,ac h5,ac h6,ac h7,ac h8,ac h9,ac h10,ac h11,ac h12,ac h13,ac h14,ac h15,ac h16];refine aa (C9 op) ?_;refine aa (b1) ?_;refine aa (b2) ?_;exact aw
 .have r:rJ op=((GM op (if CV (bP op) [105,54,52]=true then 2 else 1) ((bP op).drop 4)).1,(GM op (if CV (bP op) [105,54,52]=true then 2 else 1) ((bP op).drop 4)).2,true):=by rw[rJ,e];simp only[q1,dR]
  rw[r];refine ao aN ?_;have hq4:4<=(bP op).length:=by
   rcases Bool.or_eq_true_iff.1 q1 with h|h
   .exact Pc h
   .exact Pc h
  have b1:=JM (bP op) [105,51,50,46] ⟨by omega,by decide⟩;have b2:=JM (bP op) [105,54,52,46] ⟨by omega,by decide⟩;have b3:=Xg (bP op) (by omega);generalize (if CV (bP op) [105,54,52]=true then(2:Int)else 1)=t at b3;have e4:((bP op).drop 4).take ((bP op).length-4)=(bP op).drop 4:=iF (by simp);have b4:=R7 op t ((bP op).drop 4) (by simp;omega);unfold HV at b4⊢;have n0:=C9 op;generalize bP op=s at n0 b1 b2 b3 b4 hq4 e4 hl q1;simp only[go_sem,aN,ac h0,ac h1,ac h2,ac h3,ac h4,ac h5,ac h6,ac h7,ac h8,ac h9,ac h10,ac h11,ac h12,ac h13,ac h14,ac h15,ac h16];refine aa (n0) ?_;refine ae (b1) ?_;cases q2:CV s [105,51,50,46]
  .rw[q2,jW]at q1;rw[q1]at b2;simp only[go_sem];refine aa (b2) ?_;refine ax b3 (by simp[go_sem]) rfl ?_;simp only[go_sem];refine⟨⟨by decide,by omega⟩,?_⟩;refine aa (b4) ?_;exact aw
  .simp only[go_sem];refine ax b3 (by simp[go_sem]) rfl ?_;simp only[go_sem];refine⟨⟨by decide,by omega⟩,?_⟩;refine aa (b4) ?_;exact aw
end
structure Sp where
 ts:List Ft
 fs:List Int
 tb:List Tb
 ms:List Lm
 gs:List Gl
 el:List Int
 ds:Int
 im:List (Int×Int)
 de:List Int
def k9(k:Int):List (Int×Int)->List (Int×Int)
 | []=>[(k,1)]
 | e::r=>if e.1=k then(k,e.2+1)::r else e::k9 k r
def x_(k:Int):List (Int×Int)->Int
 | []=>0
 | e::r=>if e.1=k then e.2 else x_ k r
def xQ(l:List Int)(i:Int):List Int:=if i∈l then l else l++[i]
def zQ(l:List bj):List Int:=(l.filter λx=>x.op==210).map (·.a)
def OS(m:Md):List Int:=(m.gs.flatMap λg=>zQ g.i)++(m.els.flatMap λe=>e.it.flatMap zQ)++((m.exs.filter λe=>e.k==0).map (·.i))
def bO(m:Md):Sp where
 ts:=m.ts
 fs:=(m.ims.filter λx=>x.k==0).map (·.f)++m.fs.map (·.t)
 tb:=(m.ims.filter λx=>x.k==1).map (λx=>⟨x.te,x.tl⟩)++m.tbs
 ms:=(m.ims.filter λx=>x.k==2).map (·.me)++m.ms
 gs:=(m.ims.filter λx=>x.k==3).map (·.g)++m.gs.map (·.g)
 el:=m.els.map (·.ty)
 ds:=m.ds.length
 im:=m.ims.foldl (λl x=>k9 x.k l) []
 de:=(OS m).foldl xQ []
def cx{α:Type}(l:List α)(i:Int):Option α:=if 0<=i then l[i.toNat]? else none
def Sp.ty(s:Sp)(i:Int):Option Ft:=cx s.ts i
def Sp.fn(s:Sp)(i:Int):Option Ft:=(cx s.fs i).bind s.ty
def Sp.dec(s:Sp)(i:Int):Bool:=decide (0<=i/\i<s.fs.length)&&decide (i∈s.de)
def Sp.blk(s:Sp)(k v x:Int):Option Ft:=if k=0 then some ⟨[],[]⟩else if k=1 then(if rM v then some ⟨[],[v]⟩else none)else if k=2 then s.ty x else none
structure Sg where
 l:List Int
 lo:Bool
structure Sk where
 t:Sg
 u:List Sg
 ov:Bool
def bI:List Sg->List Int
 | []=>[]
 | g::r=>bI r++g.l
def cu:List Sg->List (Int×Bool)
 | []=>[]
 | g::r=>cu r++[(((bI r).length:Int),g.lo)]
def Sk.all(s:Sk):List Int:=bI (s.t::s.u)
def dP(lo:Bool):List Int->List Int->Option (List Int)×Int
 | ts,[]=>(some ts,0)
 | [],_::ws=>if lo then dP lo [] ws else(none,13)
 | t::ts,w::ws=>if t≠w/\t≠0/\w≠0 then(none,12)else dP lo ts ws
def Sk.left(s:Sk)(l:List Int):Option (List Int)×Int:=dP s.t.lo s.t.l.reverse l.reverse
def Sk.want(s:Sk)(l:List Int):Int×Sk:=match s.left l with
 | (some r,_)=>(0,{s with t:=⟨r.reverse,s.t.lo⟩})
 | (none,e)=>(e,s)
def Sk.push(s:Sk)(l:List Int):Sk:={s with t:=⟨s.t.l++l,s.t.lo⟩,ov:=s.ov||decide (((s.all.length+l.length:Nat):Int)>256)}
def Sk.pop(s:Sk):Int×Int×Sk:=match s.t.l.reverse with
 | t::r=>(t,0,{s with t:=⟨r.reverse,s.t.lo⟩})
 | []=>if s.t.lo then(0,0,s)else(0,13,s)
def Sk.opn(s:Sk):Sk:={s with t:=⟨[],false⟩,u:=s.t::s.u}
def Sk.shut(s:Sk)(l:List Int):Int×Sk:=match s.left l with
 | (none,e)=>(e,s)
 | (some (_::_),_)=>(14,s)
 | (some [],_)=>match s.u with
  | []=>(0,{s with t:=⟨[],false⟩})
  | g::r=>(0,{s with t:=g,u:=r})
def Sk.loose(s:Sk):Sk:={s with t:=⟨[],true⟩}
structure Bk where
 k:Int
 t:Ft
 ot:Bool
 lv:Bool
instance:Inhabited Bk:=⟨⟨0,default,false,false⟩⟩
structure Ct where
 s:Sk
 bs:List Bk
 rs:List Int
 lv:Bool
 br:Int
def BY(rs:List Int):Ct:=⟨(⟨⟨[],false⟩,[],false⟩:Sk).opn,[⟨0,⟨[],rs⟩,false,true⟩],rs,true,0⟩
def Ct.broke(c:Ct)(e:Int):Int×Ct:=(e,{c with br:=e})
def Ct.begin(c:Ct)(b:Bk):Ct:={c with s:=c.s.opn.push b.t.ps,bs:=c.bs++[b],lv:=b.lv}
def Ct.enter2(c:Ct)(op:Int)(t:Ft):Int×Ct :=
 if(c.s.want t.ps).1≠0 then({c with s:=(c.s.want t.ps).2}:Ct).broke (c.s.want t.ps).1 else(0,({c with s:=(c.s.want t.ps).2}:Ct).begin ⟨op,t,false,c.lv⟩)
def Ct.enter(c:Ct)(op:Int)(t:Ft):Int×Ct :=
 if c.br≠0 then(c.br,c)else
 if op≠2/\op≠3/\op≠4 then(1,c)else
 if c.bs.length=0 then(16,c)else
 if op=4 then
  if(c.s.want [1]).1≠0 then({c with s:=(c.s.want [1]).2}:Ct).broke (c.s.want [1]).1 else({c with s:=(c.s.want [1]).2}:Ct).enter2 op t
 else c.enter2 op t
def Ct.top(c:Ct):Bk:=av c.bs (c.bs.length-1)
def Ct.els(c:Ct):Int×Ct :=
 if c.br≠0 then(c.br,c)else
 if c.bs.length=0\/c.top.k≠4\/c.top.ot=true then(16,c)else
 if(c.s.shut c.top.t.rs).1≠0 then({c with s:=(c.s.shut c.top.t.rs).2}:Ct).broke (c.s.shut c.top.t.rs).1 else
 (0,({c with s:=(c.s.shut c.top.t.rs).2,bs:=c.bs.dropLast}:Ct).begin {c.top with ot:=true})
def Ct.leave(c:Ct):Int×Ct :=
 if c.br≠0 then(c.br,c)else
 if c.bs.length=0 then(16,c)else
 if(c.s.shut c.top.t.rs).1≠0 then({c with s:=(c.s.shut c.top.t.rs).2}:Ct).broke (c.s.shut c.top.t.rs).1 else
 if c.top.k=4/\c.top.ot=false/\¬c.top.t.ps=c.top.t.rs then({c with s:=(c.s.shut c.top.t.rs).2,bs:=c.bs.dropLast}:Ct).broke 12 else
 (0,{c with s:=(c.s.shut c.top.t.rs).2.push c.top.t.rs,bs:=c.bs.dropLast,lv:=c.top.lv})
def Ct.label(c:Ct)(n:Int):List Int×Int :=
 if c.br≠0 then([],c.br)else if n<0\/n>=c.bs.length then([],15)else
 if(av c.bs (c.bs.length-1-n.toNat)).k=3 then((av c.bs (c.bs.length-1-n.toNat)).t.ps,0)else((av c.bs (c.bs.length-1-n.toNat)).t.rs,0)
def Ct.retn(c:Ct):List Int:=if c.br≠0 then[]else c.rs
def Ct.dead(c:Ct):Ct:=if c.br≠0\/c.bs.length=0 then c else{c with s:=c.s.loose,lv:=false}
def iN(b:Bool)(x y:Int):Int:=if b=false then 11 else if x≠y then 12 else 0
def gV(b:Bool):Int:=if b then 0 else 11
def cS(s:Sp)(x:bj):Int :=
 if bN x.op=10 then iN ((cx s.tb x.a).isSome&&(cx s.tb x.b).isSome) ((cx s.tb x.a).getD default).e ((cx s.tb x.b).getD default).e else
 if bN x.op=11 then iN ((cx s.el x.a).isSome&&(cx s.tb x.b).isSome) ((cx s.el x.a).getD 0) ((cx s.tb x.b).getD default).e else
 if bN x.op=12 then gV (cx s.el x.a).isSome else
 if bN x.op=16 then gV (decide (x.a<s.ds))else
 if bN x.op=15 then gV ((cx s.ms x.b).isSome&&decide (x.a<s.ds))else
 if bN x.op=14 then(if(cx s.ms x.a).isSome=false then 11 else gV (cx s.ms x.b).isSome)else
 if bN x.op=13 then gV (cx s.ms x.b).isSome else
 if bN x.op=17 then(if(cx s.ms x.b).isSome=true/\x.a>oy (mj x.op)then 19 else gV (cx s.ms x.b).isSome)else 0
def i3(s:Sp)(lo:List Int)(x:bj):Ft×Int :=
 if bN x.op=4 then(match s.fn x.a with
  | none=>(default,11)
  | some f=>if x.op=16 then(f,0)else if s.dec x.a=false then(default,22)else(⟨[],[3]⟩,0))else
 if bN x.op=5 then(match s.ty x.a,cx s.tb x.b with
  | some f,some t=>if t.e≠3 then(default,12)else(⟨f.ps++[1],f.rs⟩,0)
  | _,_=>(default,11))else
 if bN x.op=6 then(⟨[av x.ty 0,av x.ty 0,1],[av x.ty 0]⟩,0)else
 if bN x.op=7 then(if x.a>=lo.length then(default,11)else
  if x.op=32 then(⟨[],[av lo x.a.toNat]⟩,0)else if x.op=33 then(⟨[av lo x.a.toNat],[]⟩,0)else(⟨[av lo x.a.toNat],[av lo x.a.toNat]⟩,0))else
 if bN x.op=8 then(match cx s.gs x.a with
  | none=>(default,11)
  | some g=>if x.op=35 then(⟨[],[g.v]⟩,0)else if g.mu=false then(default,18)else(⟨[g.v],[]⟩,0))else
 if bN x.op=9 then(match cx s.tb x.a with
  | none=>(default,11)
  | some t=>if x.op=37 then(⟨[1],[t.e]⟩,0)else if x.op=38 then(⟨[1,t.e],[]⟩,0)else if x.op=64527 then(⟨[t.e,1],[1]⟩,0)else if x.op=64529 then(⟨[1,t.e,1],[]⟩,0)else(⟨[],[1]⟩,0))else
 if bN x.op=20 then(⟨[],[x.a]⟩,0)else
 if cS s x≠0 then(default,cS s x)else(⟨(rJ x.op).1,(rJ x.op).2.1⟩,0)
def i1(k:Sk)(f:Ft):Int×Sk:=if(k.want f.ps).1≠0 then(k.want f.ps)else(0,(k.want f.ps).2.push f.rs)
def dL(c:Ct):List Int->List (List Int)×Int
 | []=>([],0)
 | n::r=>if(c.label n).2≠0 then([],(c.label n).2)else if(dL c r).2≠0 then dL c r else((c.label n).1::(dL c r).1,0)
def gI:Nat->Sk->List Int->List Int×Int×Sk
 | 0,k,l=>(l,0,k)
 | n+1,k,l=>if k.pop.2.1≠0 then(l,k.pop.2.1,k.pop.2.2)else gI n k.pop.2.2 (k.pop.1::l)
def g_(p:List Int)(l:List Int):Bool:=(p.zip l).all λq=>q.1==0||q.1==q.2
def ey(c:Ct)(x:bj):Int×Ct :=
 let R:=dL c (x.lb++[x.a])
 if R.2≠0 then(R.2,c)else
 let last:=av R.1 (R.1.length-1)
 if(R.1.all λl=>l.length==last.length)=false then(12,c)else
 if(c.s.want [1]).1≠0 then((c.s.want [1]).1,{c with s:=(c.s.want [1]).2})else
 let P:=gI last.length (c.s.want [1]).2 []
 if P.2.1≠0 then(P.2.1,{c with s:=P.2.2})else
 if(R.1.all λl=>g_ P.1 l)=false then(12,{c with s:=P.2.2})else(0,{c with s:=P.2.2})
def eP(r:Int×Ct):Int×Ct:=if r.1=0 then(0,r.2.dead)else r
def eO(c:Ct)(x:bj):Int×Ct :=
 let L:=if x.op≠15/\x.op≠14 then c.label x.a else(c.retn,0)
 if L.2≠0 then(L.2,c)else
 if x.op=14 then eP (ey c x)else
 if x.op=13 then
  if(c.s.want [1]).1≠0 then((c.s.want [1]).1,{c with s:=(c.s.want [1]).2})else((i1 (c.s.want [1]).2 ⟨L.1,L.1⟩).1,{c with s:=(i1 (c.s.want [1]).2 ⟨L.1,L.1⟩).2})
 else eP ((c.s.want L.1).1,{c with s:=(c.s.want L.1).2})
def CG(t:Int):Bool:=t==3||t==4
def zJ(k:Sk)(a:Int):Int×Sk :=
 if k.pop.2.1≠0 then(k.pop.2.1,k.pop.2.2)else
 if CG a=true\/CG k.pop.1=true\/(a≠k.pop.1/\a≠0/\k.pop.1≠0)then(12,k.pop.2.2)else
 (0,k.pop.2.2.push [if a=0 then k.pop.1 else a])
def uW(k:Sk)(op:Int):Int×Sk :=
 if k.pop.2.1≠0 then(k.pop.2.1,k.pop.2.2)else
 if op=209 then(if k.pop.1=1\/k.pop.1=2 then(12,k.pop.2.2)else(0,k.pop.2.2.push [1]))else
 if op=27 then zJ k.pop.2.2 k.pop.1 else(0,k.pop.2.2)
def f_(k:Sk)(op:Int):Int×Sk :=
 if op=27 then(if(k.want [1]).1≠0 then(k.want [1])else uW (k.want [1]).2 op)else uW k op
def fE(c:Ct)(s:Sp)(lo:List Int)(x:bj):Int×Ct :=
 if rA x=false then(10,c)else
 if x.op=2\/x.op=3\/x.op=4 then(match s.blk x.k x.v x.x with
  | none=>(11,c)
  | some t=>c.enter x.op t)else
 if x.op=5 then c.els else
 if x.op=11 then c.leave else
 if x.op=0 then(0,c.dead)else
 if x.op=12\/x.op=13\/x.op=14\/x.op=15 then eO c x else
 if x.op=26\/x.op=27\/x.op=209 then((f_ c.s x.op).1,{c with s:=(f_ c.s x.op).2})else
 if(i3 s lo x).2≠0 then((i3 s lo x).2,c)else
 ((i1 c.s (i3 s lo x).1).1,{c with s:=(i1 c.s (i3 s lo x).1).2})
def z_(s:Sp)(lo:List Int):Nat->List bj->Ct->Int×Int
 | _,[],_=>(0,0)
 | i,x::r,c=>if(fE c s lo x).1≠0 then((i:Int),(fE c s lo x).1)else if(fE c s lo x).2.s.ov=true then((i:Int),6)else z_ s lo (i+1) r (fE c s lo x).2
def iw(m:Md)(s:Sp)(f:Cd):Int×Int:=match s.ty f.t with
 | none=>(0,11)
 | some t=>if(nchk f.b).2≠0 then nchk f.b else z_ s (t.ps++f.lo) 0 f.b (BY t.rs)
def f8(op:Int):Int:=if op=106\/op=107\/op=108 then 1 else if op=124\/op=125\/op=126 then 2 else 0
def dO(s:Sp)(x:bj)(gl:Int):Int×Int :=
 if x.op=65 then(1,0)else if x.op=66 then(2,0)else if x.op=208 then(x.a,0)else
 if x.op=210 then(if x.a<0\/x.a>=s.fs.length then(0,11)else if s.dec x.a=false then(0,22)else(3,0))else
 if x.op=35 then(match cx s.gs x.a with
  | none=>(0,11)
  | some g=>if x.a>=gl\/g.mu=true then(0,17)else(g.v,0))else(0,17)
def pn(s:Sp)(want gl:Int):Nat->List bj->List Int->Int×Int
 | i,[],_=>((i:Int),3)
 | i,x::r,k =>
  if f8 x.op≠0 then(match k with
   | a::b::k'=>if a≠f8 x.op\/b≠f8 x.op then((i:Int),12)else pn s want gl (i+1) r (b::k')
   | [a]=>if a≠f8 x.op then((i:Int),12)else((i:Int),13)
   | []=>((i:Int),13))else
  if x.op=11 then(if r≠[]then(((i+1:Nat):Int),16)else match k with
   | []=>((i:Int),13)
   | a::k'=>if a≠want then((i:Int),12)else if k'≠[]then((i:Int),14)else(0,0))else
  if(dO s x gl).2≠0 then((i:Int),(dO s x gl).2)else pn s want gl (i+1) r ((dO s x gl).1::k)
def dD(s:Sp)(l:List bj)(want:Int):Int×Int:=pn s want (x_ 3 s.im) 0 l []
def mD(s:Sp)(k i:Int):Bool:=decide (0<=i)&&decide (i<(if k=0 then(s.fs.length:Int)else if k=1 then s.tb.length else if k=2 then s.ms.length else if k=3 then s.gs.length else 0))
def th(s:Sp)(i:Int):Int×Int:=(0,if(s.ty i).isSome=true then 0 else 11)
def z8(s:Sp)(x:Im):Int×Int:=if x.k≠0 then(0,0)else th s x.f
def kR(s:Sp):List (List UInt8)->List Ex->List (Int×Int)
 | _,[]=>[]
 | seen,x::r=>(if x.n∈seen then(0,21)else if mD s x.k x.i=false then(0,11)else(0,0))::kR s (seen++[x.n]) r
def CJ(s:Sp)(i:Int):Int×Int:=(0,match s.fn i with
 | none=>11
 | some f=>if f.ps.length+f.rs.length>0 then 23 else 0)
def rL(s:Sp)(ty:Int):List (List bj)->Int×Int
 | []=>(0,0)
 | l::r=>if(dD s l ty).2≠0 then dD s l ty else rL s ty r
def yw(s:Sp)(x:El):Int×Int :=
 if x.mo=0 then(match cx s.tb x.tb with
  | none=>(0,11)
  | some t=>if t.e≠x.ty then(0,12)else if(dD s x.o 1).2≠0 then dD s x.o 1 else rL s x.ty x.it)
 else rL s x.ty x.it
def CI(s:Sp)(x:Da):Int×Int:=if x.mo≠0 then(0,0)else if mD s 2 x.me=false then(0,11)else dD s x.o 1
def mE(p:List Int):Int->List Cu->List (Int×Int)
 | _,[]=>[]
 | last,x::r=>(if x.af<last\/(x.af≠0/\x.af∉p)then(0,7)else(0,0))::mE p x.af r
def ck1(m:Md)(s:Sp):Fa:=ee 2 0 (m.ims.map (z8 s)) cB
def OP(m:Md)(s:Sp):Fa:=ee 3 0 (m.fs.map λf=>th s f.t) (ck1 m s)
def ck3(m:Md)(s:Sp):Fa:=ee 6 0 (m.gs.map λg=>dD s g.i g.g.v) (OP m s)
def Sy(m:Md)(s:Sp):Fa:=ee 7 0 (kR s [] m.exs) (ck3 m s)
def QH(m:Md)(s:Sp):Fa:=if m.hs=true then ee 8 0 [CJ s m.st] (Sy m s)else Sy m s
def ck6(m:Md)(s:Sp):Fa:=ee 9 0 (m.els.map (yw s)) (QH m s)
def Y4(m:Md)(s:Sp):Fa:=ee 10 0 (m.ds.map (CI s)) (ck6 m s)
def TJ(m:Md)(s:Sp):Fa:=ee 11 0 (mE (wv m) 0 m.cs) (Y4 m s)
def XZ(m:Md)(s:Sp):Fa:=ee 12 0 (m.fs.map (iw m s)) (TJ m s)
def kO(m:Md):Fa:=if(kB rA m).c≠0 then kB rA m else XZ m (bO m)
section
def zq(p:Int×Int):AV×AV:=(.int .i64 p.1,.int .i64 p.2)
def sX(i:Int):AV×AV:=(.int .i64 i,.bool true)
def spC(s:Sp):List AV:=[.sl 2 (s.ts.map pt),.sl 1 (s.fs.map aS),.sl 4 (s.tb.map Dd),.sl 3 (s.ms.map B5),.sl 2 (s.gs.map Nq),.sl 1 (s.el.map aS),.int .i64 s.ds,.fm (s.im.map zq),.fm (s.de.map sX)]
def aR(s:Sp):spC s=[.sl 2 (s.ts.map pt),.sl 1 (s.fs.map aS),.sl 4 (s.tb.map Dd),.sl 3 (s.ms.map B5),.sl 2 (s.gs.map Nq),.sl 1 (s.el.map aS),.int .i64 s.ds,.fm (s.im.map zq),.fm (s.de.map sX)]:=rfl
def tg(s:Sp):AV:=.ip [.ip (spC s)]
def bF(s:Sp):tg s = .ip [.ip (spC s)]:=rfl
def DI(k:Int):∀es:List (Int×Int),iR .i (.int .i64 k) (es.map zq)=some (es.findIdx? λp=>k==p.1)
 | []=>rfl
 | e::r=>by
  simp only[cM,iR,zq,Fe,dR,List.findIdx?_cons];cases h:(k==e.1)
  .simp only[DI k r];cases r.findIdx? (λp=>k==p.1)<;>rfl
  .rfl
def Vs(k:Int):∀(es:List (Int×Int)),(∀i,es.findIdx? (λp=>k==p.1)=some i->∃e,es[i]?=some e/\e.2=x_ k es)/\(es.findIdx? (λp=>k==p.1)=none->x_ k es=0)
 | []=>⟨(λi h=>by cases h),λ_=>rfl⟩
 | e::r=>by
  obtain⟨h1,h2⟩:=Vs k r;rw[List.findIdx?_cons];cases h:(k==e.1)
  .have he:¬e.1=k:=λq=>by rw[q,beq_self_eq_true]at h;cases h
   simp only[lD,ij,x_,an he];refine⟨λi hi=>?_,λhi=>h2 (by cases hq:r.findIdx? (λp=>k==p.1)with|none=>rfl|some j=>rw[hq]at hi;cases hi)⟩;cases hq:r.findIdx? (λp=>k==p.1)with
   | none=>rw[hq]at hi;cases hi
   | some j =>
    rw[hq]at hi;simp only[fR,dt]at hi;subst hi;obtain⟨e',q1,q2⟩:=h1 j hq;exact⟨e',by rw[Fs];exact q1,q2⟩
  .have he:e.1=k:=(eq_of_beq h).symm;simp only[dR,x_,az he];refine⟨λi hi=>?_,λhi=>by cases hi⟩;cases hi;exact⟨e,rfl,rfl⟩
def NG(K:AV->bD->Prop)(k:Int)(es:List (Int×Int)):Vt K false (.int .i64 0) (es.map zq) (iR .i (.int .i64 k) (es.map zq))=K (.int .i64 (x_ k es)) .no:=by
 obtain⟨h1,h2⟩:=Vs k es;rw[DI];cases h:es.findIdx? (λp=>k==p.1)with
 | none=>simp only[Vt,h2 h,lD,ij]
 | some i =>
  obtain⟨e,he,hv⟩:=h1 i h;simp only[Vt,iG,he,fR,zq,hv,lD,ij]
def DH(k:Int):∀es:List Int,iR .i (.int .i64 k) (es.map sX)=some (es.findIdx? λp=>k==p)
 | []=>rfl
 | e::r=>by
  simp only[cM,iR,sX,Fe,dR,List.findIdx?_cons];cases h:(k==e)
  .simp only[DH k r];cases r.findIdx? (λp=>k==p)<;>rfl
  .rfl
def Vu(K:AV->bD->Prop)(k:Int)(es:List Int):Vt K false (.bool false) (es.map sX) (iR .i (.int .i64 k) (es.map sX))=K (.bool (decide (k∈es))) .no:=by
 rw[DH];cases h:es.findIdx? (λp=>k==p)with
 | none =>
  have hn:k∉es:=λhk=>by
   have:=List.findIdx?_eq_none_iff.1 h k hk;simp at this
  simp only[Vt,lD,ij,aI hn]
 | some i =>
  obtain⟨hi,h1,_⟩:=List.findIdx?_eq_some_iff_getElem.1 h;have hm:k∈es:=by
   have:k=es[i]:=by simpa using h1
   rw[this];exact eH hi
  simp only[Vt,iG,kS hi,fR,sX,lD,ij,aF hm]
attribute[local go_sem] NG Vu
def dI{α:Type}{l:List α}{i:Int}(h:i<0\/i>=l.length):cx l i=none:=by
 unfold cx;split
 .exact MI (by omega)
 .rfl
def my{α:Type}[Inhabited α]{l:List α}{n:Nat}(h:n<l.length):cx l (n:Int)=some (av l n):=by
 unfold cx;rw[az (by omega),cL,md h]
attribute[local go_sem] bY aW cX bT
def ajH(l:List Int)(i:Int):aj pg EF [.sl 1 (l.map aS),.int .i64 i] (.tup [.int .i64 ((cx l i).getD 0),.bool (cx l i).isSome]):=by
 refine ao iL ?_;have FF:=iL;by_cases h0:i<0
 .rw[dI (.inl h0)];simp only[go_sem,iL,aF h0];exact aw
 by_cases h1:i>=(l.length:Int)
 .rw[dI (.inr h1)];simp only[go_sem,iL,aI h0,aF h1];exact aw
 obtain⟨n,rfl⟩:∃n:Nat,i=(n:Int):=⟨i.toNat,by omega⟩
 have hn:n<l.length:=by omega
 rw[my hn];simp only[go_sem,iL,aI h0,aI h1];refine⟨by omega,by omega,?_⟩;exact aq [] (by simp only[go_sem,cL,cG,Option.isSome_some]) (by first|rfl|simp[go_sem,bJ])
end
section
def lc(x:Gl):Nq x=[.int .i64 x.v,.bool x.mu]:=rfl
attribute[local go_sem] lc NG Vu
def i0{α β:Type}(f:α->β)(l:List α):(l.map f).take l.length=l.map f:=iF (by simp)
def Sj{s:Sp}(h:∀x∈s.ts,x.ps.length<=1000000/\x.rs.length<=1000000)(i:Int):((s.ty i).getD default).ps.length<=1000000/\((s.ty i).getD default).rs.length<=1000000:=by
 unfold Sp.ty cx;split
 .cases hq:s.ts[i.toNat]? with
  | none=>exact⟨dx _,dx _⟩
  | some x=>exact h x (rO hq)
 .exact⟨dx _,dx _⟩
attribute[local go_sem] bY aW cX bT bF aR
def acW(l:List Ft)(i:Int):aj pg wo [.sl 2 (l.map pt),.int .i64 i] (.tup [.agg (pt ((cx l i).getD default)),.bool (cx l i).isSome]):=by
 refine ao gc ?_;by_cases h0:i<0
 .rw[dI (.inl h0)];simp only[go_sem,gc,aF h0];exact dB (Wk.nlh _ 4 (r:=[.nl,.nl]) (r':=[.sl 1 [],.sl 1 []]) (by rfl) ⟨.inr ⟨rfl,1,rfl⟩,.inr ⟨rfl,1,rfl⟩,trivial⟩) [] (by rfl) rfl
 by_cases h1:i>=(l.length:Int)
 .rw[dI (.inr h1)];simp only[go_sem,gc,aI h0,aF h1];exact dB (Wk.nlh _ 4 (r:=[.nl,.nl]) (r':=[.sl 1 [],.sl 1 []]) (by rfl) ⟨.inr ⟨rfl,1,rfl⟩,.inr ⟨rfl,1,rfl⟩,trivial⟩) [] (by rfl) rfl
 obtain⟨n,rfl⟩:∃n:Nat,i=(n:Int):=⟨i.toNat,by omega⟩
 have hn:n<l.length:=by omega
 rw[my hn];simp only[go_sem,gc,aI h0,aI h1];refine⟨by omega,by omega,?_⟩;exact aq [] (by simp only[go_sem,cL,cG,Option.isSome_some]) (by first|rfl|simp[go_sem,bJ])
def ajJ(l:List Tb)(i:Int):aj pg uS [.sl 4 (l.map Dd),.int .i64 i] (.tup [.agg (Dd ((cx l i).getD default)),.bool (cx l i).isSome]):=by
 refine ao fJ ?_;by_cases h0:i<0
 .rw[dI (.inl h0)];simp only[go_sem,fJ,aF h0];exact aw
 by_cases h1:i>=(l.length:Int)
 .rw[dI (.inr h1)];simp only[go_sem,fJ,aI h0,aF h1];exact aw
 obtain⟨n,rfl⟩:∃n:Nat,i=(n:Int):=⟨i.toNat,by omega⟩
 have hn:n<l.length:=by omega
 rw[my hn];simp only[go_sem,fJ,aI h0,aI h1];refine⟨by omega,by omega,?_⟩;exact aq [] (by simp only[go_sem,cL,cG,Option.isSome_some]) (by first|rfl|simp[go_sem,bJ])
def ajI(l:List Lm)(i:Int):aj pg s9 [.sl 3 (l.map B5),.int .i64 i] (.tup [.agg (B5 ((cx l i).getD default)),.bool (cx l i).isSome]):=by
 refine ao fv ?_;by_cases h0:i<0
 .rw[dI (.inl h0)];simp only[go_sem,fv,aF h0];exact aw
 by_cases h1:i>=(l.length:Int)
 .rw[dI (.inr h1)];simp only[go_sem,fv,aI h0,aF h1];exact aw
 obtain⟨n,rfl⟩:∃n:Nat,i=(n:Int):=⟨i.toNat,by omega⟩
 have hn:n<l.length:=by omega
 rw[my hn];simp only[go_sem,fv,aI h0,aI h1];refine⟨by omega,by omega,?_⟩;exact aq [] (by simp only[go_sem,cL,cG,Option.isSome_some]) (by first|rfl|simp[go_sem,bJ])
def ajG(l:List Gl)(i:Int):aj pg s8 [.sl 2 (l.map Nq),.int .i64 i] (.tup [.agg (Nq ((cx l i).getD default)),.bool (cx l i).isSome]):=by
 refine ao fu ?_;by_cases h0:i<0
 .rw[dI (.inl h0)];simp only[go_sem,fu,aF h0];exact aw
 by_cases h1:i>=(l.length:Int)
 .rw[dI (.inr h1)];simp only[go_sem,fu,aI h0,aF h1];exact aw
 obtain⟨n,rfl⟩:∃n:Nat,i=(n:Int):=⟨i.toNat,by omega⟩
 have hn:n<l.length:=by omega
 rw[my hn];simp only[go_sem,fu,aI h0,aI h1];refine⟨by omega,by omega,?_⟩;exact aq [] (by simp only[go_sem,cL,cG,Option.isSome_some]) (by first|rfl|simp[go_sem,bJ])
def ajK(l:List Int)(i:Int):aj pg yh [.sl 1 (l.map aS),.int .i64 i] (.tup [.int .i64 ((cx l i).getD 0),.bool (cx l i).isSome]):=by
 refine ao gO ?_;by_cases h0:i<0
 .rw[dI (.inl h0)];simp only[go_sem,gO,aF h0];exact aw
 by_cases h1:i>=(l.length:Int)
 .rw[dI (.inr h1)];simp only[go_sem,gO,aI h0,aF h1];exact aw
 obtain⟨n,rfl⟩:∃n:Nat,i=(n:Int):=⟨i.toNat,by omega⟩
 have hn:n<l.length:=by omega
 rw[my hn];simp only[go_sem,gO,aI h0,aI h1];refine⟨by omega,by omega,?_⟩;exact aq [] (by simp only[go_sem,cL,cG,Option.isSome_some]) (by first|rfl|simp[go_sem,bJ])
def iD(s:Sp):aj pg uM [tg s] (.ip (spC s)):=by
 refine ao lO ?_;simp only[go_sem,lO];exact aw
def Fd(s:Sp):aj pg uK [tg s] (.int .i64 (s.fs.length:Int)):=by
 refine ao lM ?_;have c:=iD s;simp only[bF,aR]at c;simp only[go_sem,lM];refine aa (c) ?_;exact ah
def R6(s:Sp):aj pg sZ [tg s] (.int .i64 (s.tb.length:Int)):=by
 refine ao kW ?_;have c:=iD s;simp only[bF,aR]at c;simp only[go_sem,kW];refine aa (c) ?_;exact ah
def abz(s:Sp):aj pg vY [tg s] (.int .i64 (s.ms.length:Int)):=by
 refine ao mN ?_;have c:=iD s;simp only[bF,aR]at c;simp only[go_sem,mN];refine aa (c) ?_;exact ah
def Ok(s:Sp):aj pg rj [tg s] (.int .i64 (s.gs.length:Int)):=by
 refine ao j9 ?_;have c:=iD s;simp only[bF,aR]at c;simp only[go_sem,j9];refine aa (c) ?_;exact ah
def Xm(s:Sp):aj pg uJ [tg s] (.int .i64 s.ds):=by
 refine ao lL ?_;have c:=iD s;simp only[bF,aR]at c;simp only[go_sem,lL];refine aa (c) ?_;exact ah
def vg(s:Sp)(i:Int):aj pg uL [tg s,.int .i64 i] (.tup [.agg (Dd ((cx s.tb i).getD default)),.bool (cx s.tb i).isSome]):=by
 refine ao lN ?_;have c:=iD s;simp only[bF,aR]at c;have c2:=ajJ s.tb i;generalize cx s.tb i=q at c2⊢;simp only[go_sem,lN];refine aa (c) ?_;refine aa (c2) ?_;exact ah
def Xt(s:Sp)(i:Int):aj pg ye [tg s,.int .i64 i] (.tup [.agg (B5 ((cx s.ms i).getD default)),.bool (cx s.ms i).isSome]):=by
 refine ao nG ?_;have c:=iD s;simp only[bF,aR]at c;have c2:=ajI s.ms i;generalize cx s.ms i=q at c2⊢;simp only[go_sem,nG];refine aa (c) ?_;refine aa (c2) ?_;exact ah
def HU(s:Sp)(i:Int):aj pg sY [tg s,.int .i64 i] (.tup [.agg (Nq ((cx s.gs i).getD default)),.bool (cx s.gs i).isSome]):=by
 refine ao kV ?_;have c:=iD s;simp only[bF,aR]at c;have c2:=ajG s.gs i;generalize cx s.gs i=q at c2⊢;simp only[go_sem,kV];refine aa (c) ?_;refine aa (c2) ?_;exact ah
def abC(s:Sp)(i:Int):aj pg vW [tg s,.int .i64 i] (.tup [.int .i64 ((cx s.el i).getD 0),.bool (cx s.el i).isSome]):=by
 refine ao mL ?_;have c:=iD s;simp only[bF,aR]at c;have c2:=ajK s.el i;generalize cx s.el i=q at c2⊢;simp only[go_sem,mL];refine aa (c) ?_;refine aa (c2) ?_;exact ah
def Mj(x:Ft)(h:x.ps.length<=1000000/\x.rs.length<=1000000):aj pg uT [.agg (pt x)] (.agg (pt x)):=by
 refine ao kj ?_;simp only[go_sem,kj];refine Ny (x.ps.map aS) (adC rfl (by rfl) (by simp only[bY];omega)) (by simp only[go_sem]) (by simp only[go_sem]) ?_;simp only[go_sem];refine⟨by omega,aq [8] ?_ rfl⟩;simp only[go_sem,aQ,i0]
def R5(x:Ft)(h:x.ps.length<=1000000/\x.rs.length<=1000000):bA pg uT [.agg (pt x)] [] (λid=>1000<=id/\id<2000) (λr σ'=>r = .agg [.ms 5 1 0 x.ps.length,.sl 1 (x.rs.map aS)]/\σ'=[(5,⟨48,1,x.ps.map aS,false⟩)]):=by
 refine b_ kj ?_;simp only[go_sem,kj];refine KF ?_;simp only[go_sem];refine⟨by omega,by omega,?_⟩;refine done [8] _ [(5,⟨48,1,x.ps.map aS,false⟩)] ?_ (by simp only[go_sem]) rfl ⟨rfl,rfl⟩;simp only[go_sem,aQ,i0]
def JL(s:Sp)(i:Int)(h:∀x∈s.ts,x.ps.length<=1000000/\x.rs.length<=1000000):aj pg mZ [tg s,.int .i64 i] (.tup [.agg (pt ((s.ty i).getD default)),.bool (s.ty i).isSome]):=by
 refine ao gb ?_;have c:=iD s;simp only[bF,aR]at c;have c2:=acW s.ts i;have hb:((s.ty i).getD default).ps.length<=1000000/\((s.ty i).getD default).rs.length<=1000000:=Sj h i;have c3:=Mj ((s.ty i).getD default) hb;rw[show cx s.ts i=s.ty i from rfl]at c2;generalize s.ty i=q at c2 c3⊢;simp only[aW]at c2 c3;simp only[go_sem,gb];refine aa (c) ?_;refine aa (c2) ?_;refine aa (c3) ?_;exact ah
def abt(s:Sp)(i:Int)(h:∀x∈s.ts,x.ps.length<=1000000/\x.rs.length<=1000000):bA pg mZ [tg s,.int .i64 i] [] (λid=>1000<=id/\id<2000) (λr σ'=>r = .tup [.agg [.ms 905 1 0 ((s.ty i).getD default).ps.length,.sl 1 (((s.ty i).getD default).rs.map aS)],.bool (s.ty i).isSome]/\σ'=[(905,⟨48,1,((s.ty i).getD default).ps.map aS,false⟩)]):=by
 refine b_ gb ?_;have c:=iD s;simp only[bF,aR]at c;have c2:=acW s.ts i;have hb:((s.ty i).getD default).ps.length<=1000000/\((s.ty i).getD default).rs.length<=1000000:=Sj h i;have c3:=R5 ((s.ty i).getD default) hb;rw[show cx s.ts i=s.ty i from rfl]at c2;generalize s.ty i=q at c2 c3⊢;simp only[aW]at c2 c3;simp only[go_sem,gb];refine aa (c) ?_;refine aa (c2) ?_;refine dU (σ2:=[]) (r3:=.agg [.ms 905 1 0 (q.getD default).ps.length,.sl 1 ((q.getD default).rs.map aS)]) (σ3:=[(905,⟨48,1,(q.getD default).ps.map aS,false⟩)]) c3 [(5,905)] [905] rfl rfl rfl rfl (λp hp=>by cases hp) ?_ (λp hp=>by cases hp) ?_
 .intro p hp;simp only[fS]at hp;subst hp;exact .inr ⟨by simp,.inl (show 905<1000 by decide),.inr (by simp only[go_sem])⟩
 simp only[go_sem];exact aZ [] _ [(905,⟨48,1,(q.getD default).ps.map aS,false⟩)] ⟨rfl,rfl⟩
def Xc(s:Sp)(i:Int)(h:∀x∈s.ts,x.ps.length<=1000000/\x.rs.length<=1000000):aj pg vX [tg s,.int .i64 i] (.tup [.agg (pt ((s.fn i).getD default)),.bool (s.fn i).isSome]):=by
 refine ao mM ?_;have c:=iD s;have c2:=ajH s.fs i;have c3:=JL s ((cx s.fs i).getD 0) h;rw[show s.fn i=(cx s.fs i).bind s.ty from rfl];simp only[bF,aR,aW]at c c3;generalize cx s.fs i=q at c2 c3⊢;simp only[go_sem,mM];refine aa (c) ?_;refine aa (c2) ?_;cases q with
 | none =>
  simp only[go_sem,Option.isSome_none,Option.bind_none];exact dB (Wk.nlh _ 4 (r:=[.nl,.nl]) (r':=[.sl 1 [],.sl 1 []]) (by rfl) ⟨.inr ⟨rfl,1,rfl⟩,.inr ⟨rfl,1,rfl⟩,trivial⟩) [] (by rfl) rfl
 | some k =>
  simp only[go_sem,Option.isSome_some,cG,Option.bind_some];refine aa (c3) ?_;exact ah
def Oj(s:Sp)(k:Int):aj pg qe [tg s,.int .i64 k] (.int .i64 (x_ k s.im)):=by
 refine ao jX ?_;have c:=iD s;simp only[bF,aR]at c;simp only[go_sem,jX];refine aa (c) ?_;exact ah
def Fc(s:Sp)(i:Int):aj pg qd [tg s,.int .i64 i] (.bool (s.dec i)):=by
 refine ao gg ?_;have c:=iD s;have c2:=Fd s;simp only[bF,aR]at c c2;unfold Sp.dec;by_cases h0:i>=0;rotate_left
 .rw[aI (show ¬(0<=i/\i<(s.fs.length:Int))by omega),dF];simp only[go_sem,gg,aI h0];exact ah
 simp only[go_sem,gg,aF h0];refine ae (c2) ?_;by_cases h1:i<(s.fs.length:Int);rotate_left
 .rw[aI (show ¬(0<=i/\i<(s.fs.length:Int))by omega),dF];simp only[go_sem,aI h1];exact ah
 rw[aF (show 0<=i/\i<(s.fs.length:Int)by omega),dM];simp only[go_sem,aF h1];refine aa (c) ?_;exact ah
def PX(s:Sp)(k v x:Int)(h:∀x∈s.ts,x.ps.length<=1000000/\x.rs.length<=1000000):aj pg uI [tg s,.agg [.int .i64 k,.int .i64 v,.int .i64 x]] (.tup [.agg (pt ((s.blk k v x).getD default)),.bool (s.blk k v x).isSome]):=by
 refine ao dS ?_;have c2:=VR v;have c3:=JL s x h;simp only[bF,aR,aW]at c3;unfold Sp.blk;by_cases h0:k=0
 .subst h0;simp only[go_sem,dS];exact dB (Wk.nlh _ 4 (r:=[.nl,.nl]) (r':=[.sl 1 [],.sl 1 []]) (by rfl) ⟨.inr ⟨rfl,1,rfl⟩,.inr ⟨rfl,1,rfl⟩,trivial⟩) [] (by rfl) rfl
 by_cases h1:k=1
 .subst h1;simp only[go_sem,dS];refine ae (c2) ?_;cases rM v
  .simp only[go_sem];exact dB (Wk.nlh _ 4 (r:=[.nl,.nl]) (r':=[.sl 1 [],.sl 1 []]) (by rfl) ⟨.inr ⟨rfl,1,rfl⟩,.inr ⟨rfl,1,rfl⟩,trivial⟩) [] (by rfl) rfl
  .simp only[go_sem];exact dB (Wk.nlm _ 4 (r:=[.nl,.ms 28 1 0 1]) (r':=[.sl 1 [],.ms 28 1 0 1]) (by rfl) ⟨.inr ⟨rfl,.inl ⟨1,rfl⟩⟩,.inl rfl,trivial⟩) [28] (by simp only[go_sem];rfl) rfl
 by_cases h2:k=2
 .subst h2;rw[an h0,an h1,az rfl];simp only[go_sem,dS];refine aa (c3) ?_;exact ah
 rw[an h0,an h1,an h2];simp only[go_sem,dS,ac h0,ac h1,ac h2];exact dB (Wk.nlh _ 4 (r:=[.nl,.nl]) (r':=[.sl 1 [],.sl 1 []]) (by rfl) ⟨.inr ⟨rfl,1,rfl⟩,.inr ⟨rfl,1,rfl⟩,trivial⟩) [] (by rfl) rfl
