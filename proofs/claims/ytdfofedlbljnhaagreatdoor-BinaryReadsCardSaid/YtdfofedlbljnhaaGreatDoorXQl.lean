import Derived.Test.YtdfofedlbljnhaaGreatDoorXQk
set_option linter.all false
set_option maxRecDepth 100000
set_option maxHeartbeats 40000000
namespace Go.Proofs.YtdfofedlbljnhaaGreatDoor
section
open Go Go.Mw
attribute[local go_sem] afw
def PD:aQ pg 355 [] [] sb (λr' σ'=>r' = .ms 24 3 0 23/\σ'=[(24,⟨373,3,Bz.map EZ,false⟩)]):=by
 refine bA sP ?_;simp only[go_sem,sP];exact done [] _ [(24,⟨373,3,Bz.map EZ,false⟩)] (by rfl) (by simp only[go_sem];rfl) rfl ⟨rfl,rfl⟩
def Um:aj pg 356 [] (.sl 3 (CA.map EZ)):=by
 refine aC ui ?_;simp only[go_sem,ui];exact aB [24] (by rfl) rfl
def af6:aj pg 360 [] (.sl 3 (aa4.map EZ)):=by
 refine aC AT ?_;simp only[go_sem,AT];exact aB [14] (by rfl) rfl
def NX(s:Af):List AV:=[.str s]
def aiT(s:Af):NX s=[.str s]:=rfl
attribute[go_sem] aiT
def DO:aj pg 358 [] (.sl 1 (KS.map NX)):=by
 refine aC qO ?_;simp only[go_sem,qO];exact aB [1] (by rfl) rfl
def Us:aj pg 359 [] (.sl 1 (Mj.map NX)):=by
 refine aC x6 ?_;simp only[go_sem,x6];exact aB [1] (by rfl) rfl
def HG(f:Int)(t:Af):∀(l:List (Af))(k:Nat),(num f t k l).length=l.length
 | [],_=>rfl
 | _::l,k=>by simp[num,HG f t l]
def Nj(f:Int)(t:Af):∀(l:List (Af))(k j:Nat),j<l.length->(num f t k l)[j]?=some ⟨f+((k+j:Nat):Int),t++[46]++ac l j,0⟩
 | [],_,j,hj=>by simp at hj
 | s::l,k,0,_=>rfl
 | s::l,k,j+1,hj=>by
  have:=Nj f t l (k+1) j (by simpa using hj);simp only[num,Ie];rw[this,show k+1+j=k+(j+1)by omega];rfl
def TK{f:Int}{t:Af}{l:List (Af)}{j:Nat}(hj:j<l.length):(num f t 0 l).take (j+1)=(num f t 0 l).take j++[⟨f+(j:Int),t++[46]++ac l j,0⟩]:=by
 rw[Ei,Nj f t l 0 j hj,Eh,zE]
def oH(f:Int)(t:Af)(l:List (Af))(hf:0<=f/\f<1000000)(ht:t.length<1000)(hl:l.length<1000)(hs:∀s∈l,s.length<1000):aj pg 357 [.int .i64 f,.str t,.sl 1 (l.map NX)] (.sl 3 ((num f t 0 l).map EZ)):=by
 refine aC sQ ?_;simp only[go_sem,sQ];refine aq (λi:Nat=>⟨[(7,.ms 900 3 0 i),(8,.int .i64 i),(0,.int .i64 f),(1,.str t),(2,.sl 1 (l.map NX))],[(900,⟨373,3,((num f t 0 l).take i).map EZ,false⟩)]⟩) (λi=>i<=l.length) (λi=>l.length-i) 0 (cm _) ((Wk.nil _ 7 900 3 373 (by simp only[go_sem]) (.inl (by decide))).trans (Wk.of ?_ ?_)) ?_
 .simp only[go_sem,St.mknil];try simp[go_sem]
 .simp only[go_sem,St.mknil];try simp[go_sem]
 intro i hi;have e8:=wi (n:=(i:Int)+1) (by omega) (by omega);by_cases h1:(i:Int)<(l.length:Int)
 .have hi':i<l.length:=by omega
  have hsi:=hs (ac l i) (by rw[bv hi'];exact tL _);have e9:=wi (n:=f+(i:Int)) (by omega) (by omega);have hlen:((num f t 0 l).take i).length=i:=by rw[qD,HG];omega
  have happ:=λys=>bq 900 373 3 i EZ ((num f t 0 l).take i) ys hlen;simp only[go_sem,aK h1,happ,e9];refine⟨by omega,by omega,h1,by simp;omega,by omega,aF (i+1) (by omega) (show l.length-(i+1)<l.length-i by omega) (Wk.of ?_ ?_)⟩
  .simp only[go_sem,e8]
   try simp
  .simp only[go_sem];rw[TK hi',oz];rfl
 .obtain rfl:i=l.length:=by omega
  simp only[go_sem,aL h1];have hlen:=HG f t l 0;rw[cI (by omega)];refine aB [900] ?_ rfl;simp only[go_sem,bZ,hlen,a_];rw[cI (by rw[bZ];omega)]
def Ev:List Oc:=num 69 [105,51,50] 0 KS
def GG:List Oc:=num 80 [105,54,52] 0 KS
def Kl:List Oc:=num 103 [105,51,50] 0 Mj
def Mi:List Oc:=num 121 [105,54,52] 0 Mj
def wrp:List Oc:=[⟨167,[105,51,50,46,119,114,97,112,95,105,54,52],0⟩,⟨172,[105,54,52,46,101,120,116,101,110,100,95,105,51,50,95,115],0⟩,⟨173,[105,54,52,46,101,120,116,101,110,100,95,105,51,50,95,117],0⟩]
def RF:List (Af):=[[101,120,116,101,110,100,56,95,115],[101,120,116,101,110,100,49,54,95,115]]
def Ww:List (Af):=[[101,120,116,101,110,100,56,95,115],[101,120,116,101,110,100,49,54,95,115],[101,120,116,101,110,100,51,50,95,115]]
def RG:List Oc:=num 192 [105,51,50] 0 RF
def Wx:List Oc:=num 194 [105,54,52] 0 Ww
def Ql:((((((((Bz++CA)++Ev)++GG)++Kl)++Mi)++wrp)++RG)++Wx)++aa4=OC:=by rfl
def YF:aj pg 343 [] (.sl 3 (OC.map EZ)):=by
 refine aC xZ ?_;have ap:=λ(L:List Oc)(n:Nat)(h:L.length=n) ys=>bq 901 373 3 n EZ L ys h;have n1:aj pg 357 [.int .i64 69,.str [105,51,50],.sl 1 (KS.map NX)] (.sl 3 (Ev.map EZ)):=oH 69 [105,51,50] KS (by decide) (by decide) (by decide) (by decide +kernel);have n2:aj pg 357 [.int .i64 80,.str [105,54,52],.sl 1 (KS.map NX)] (.sl 3 (GG.map EZ)):=oH 80 [105,54,52] KS (by decide) (by decide) (by decide) (by decide +kernel);have n3:aj pg 357 [.int .i64 103,.str [105,51,50],.sl 1 (Mj.map NX)] (.sl 3 (Kl.map EZ)):=oH 103 [105,51,50] Mj (by decide) (by decide) (by decide) (by decide +kernel);have n4:aj pg 357 [.int .i64 121,.str [105,54,52],.sl 1 (Mj.map NX)] (.sl 3 (Mi.map EZ)):=oH 121 [105,54,52] Mj (by decide) (by decide) (by decide) (by decide +kernel);have n5:aj pg 357 [.int .i64 192,.str [105,51,50],.sl 1 (RF.map NX)] (.sl 3 (RG.map EZ)):=oH 192 [105,51,50] RF (by decide) (by decide) (by decide) (by decide +kernel);have n6:aj pg 357 [.int .i64 194,.str [105,54,52],.sl 1 (Ww.map NX)] (.sl 3 (Wx.map EZ)):=oH 194 [105,54,52] Ww (by decide) (by decide) (by decide) (by decide +kernel);have e1:(RF.map NX)=[[.str [101,120,116,101,110,100,56,95,115]],[.str [101,120,116,101,110,100,49,54,95,115]]]:=rfl;have e2:(Ww.map NX)=[[.str [101,120,116,101,110,100,56,95,115]],[.str [101,120,116,101,110,100,49,54,95,115]],[.str [101,120,116,101,110,100,51,50,95,115]]]:=rfl;rw[e1]at n5;rw[e2]at n6;have ew:[[AV.int .i64 167,.str [105,51,50,46,119,114,97,112,95,105,54,52],.int .i64 0],[.int .i64 172,.str [105,54,52,46,101,120,116,101,110,100,95,105,51,50,95,115],.int .i64 0],[.int .i64 173,.str [105,54,52,46,101,120,116,101,110,100,95,105,51,50,95,117],.int .i64 0]]=wrp.map EZ:=rfl;simp only[go_sem,xZ];refine Or PD rfl (by simp) 901 (by decide) (by simp only[go_sem]) ?_;simp only[go_sem];refine ab (Um) ?_;have la:CA.length=23:=rfl;have l1:Ev.length=11:=rfl;have l2:GG.length=11:=rfl;have l3:Kl.length=18:=rfl;have l4:Mi.length=18:=rfl;have lw:wrp.length=3:=rfl;have l5:RG.length=2:=rfl;have l6:Wx.length=3:=rfl;have le:aa4.length=13:=rfl;simp only[go_sem,ap Bz 23 rfl,<-oz,bZ,la,true_and];refine aa (DO) ?_;refine ab (n1) ?_;simp only[go_sem,ap (Bz++CA) 46 rfl,<-oz,bZ,l1,true_and];refine aa (DO) ?_;refine ab (n2) ?_;simp only[go_sem,ap ((Bz++CA)++Ev) 57 rfl,<-oz,bZ,l2,true_and];refine aa (Us) ?_;refine ab (n3) ?_;simp only[go_sem,ap (((Bz++CA)++Ev)++GG) 68 rfl,<-oz,bZ,l3,true_and];refine aa (Us) ?_;refine ab (n4) ?_;have er:LS 3 0 3 (some ⟨373,3,wrp.map EZ,false⟩)=some (wrp.map EZ):=rfl;have es1:[[AV.str [101,120,116,101,110,100,56,95,115]],[.str [101,120,116,101,110,100,49,54,95,115]]]=RF.map NX:=rfl;simp only[go_sem,ap ((((Bz++CA)++Ev)++GG)++Kl) 86 rfl,ap (((((Bz++CA)++Ev)++GG)++Kl)++Mi) 104 rfl,ew,er,<-oz,bZ,l4,lw,true_and];refine yc [28] ?_ n5 (by simp[go_sem]) ?_
 .simp only[go_sem,a_]
 simp only[go_sem,ap ((((((Bz++CA)++Ev)++GG)++Kl)++Mi)++wrp) 107 rfl,<-oz,bZ,l5,true_and];refine yc [32] ?_ n6 (by simp[go_sem]) ?_
 .simp only[go_sem,a_]
 simp only[go_sem,ap (((((((Bz++CA)++Ev)++GG)++Kl)++Mi)++wrp)++RG) 109 rfl,<-oz,bZ,l6,true_and];refine ab (af6) ?_;simp only[go_sem,ap ((((((((Bz++CA)++Ev)++GG)++Kl)++Mi)++wrp)++RG)++Wx) 112 rfl,<-oz,bZ,le,true_and,Ql];refine aB [901] ?_ rfl;have lo:OC.length=125:=rfl;simp only[go_sem,bZ,lo,a_];rw[cI (by rw[bZ];exact a_ _)]
end
section
open Go Go.Mw
def MQ{α:Type}[Inhabited α]{f:α->Bool}:∀{l:List α}{i:Nat},i<l.length->(∀k,k<i->f (ac l k)=false)->f (ac l i)=true->l.find? f=some (ac l i)
 | [],i,h,_,_=>by simp at h
 | a::l,0,_,_,h=>by
  have h':f a=true:=h;rw[List.find?_cons_of_pos h'];rfl
 | a::l,i+1,hi,hk,h=>by
  have h0:f a=false:=hk 0 (by omega);rw[List.find?_cons_of_neg (by rw[h0];decide)];exact MQ (l:=l) (by simpa using hi) (λk hk2=>hk (k+1) (by omega)) h
def Wz{α:Type}[Inhabited α]{f:α->Bool}{l:List α}(h:∀k,k<l.length->f (ac l k)=false):l.find? f=none:=by
 rw[List.find?_eq_none];intro x hx;obtain⟨k,hk,rfl⟩:=List.mem_iff_getElem.1 hx;have:=h k hk;rw[bv hk]at this;rw[this];decide
def tw(op:Int):Option Oc:=OC.find? (λo=>o.op==op)
def rNm(op:Int):Af:=((tw op).getD default).nm
def qx(op:Int):Int:=((tw op).getD default).im
def vQ(op:Int):Bool:=(tw op).isSome
def aao:OC.length=125:=rfl
attribute[local go_sem] afw
def NF(op:Int):aj pg 320 [.int .i64 op] (.tup [.agg (EZ ((tw op).getD default)),.bool (vQ op)]):=by
 refine aC xY ?_;have hOL:=aao;simp only[go_sem,xY];refine aa (YF) ?_;refine aq (λi:Nat=>⟨[(4,.sl 3 (OC.map EZ)),(5,.int .i64 i),(0,.int .i64 op),(2,.mp 2 3 0 0),(3,.bool false)],[(2,⟨373,3,[[.int .i64 0,.str [],.int .i64 0]],true⟩)]⟩) (λi=>i<=OC.length/\∀k,k<i->((ac OC k).op==op)=false) (λi=>OC.length-i) 0 ⟨cm _,λk hk=>absurd hk (Nat.not_lt_zero k)⟩ (Wk.of ?_ ?_) ?_
 .simp only[go_sem];try simp
 .simp only[go_sem]
 rintro i ⟨hi,hk⟩;have e8:=wi (n:=(i:Int)+1) (by omega) (by omega);by_cases h1:(i:Int)<(OC.length:Int)
 .have hi':i<OC.length:=by omega
  by_cases h2:(ac OC i).op=op
  .have r:tw op=some (ac OC i):=MQ hi' hk (by simpa using h2);simp only[go_sem,aK h1,dt h2];refine⟨by omega,h1,by omega,h1,?_⟩;have rk:vQ op=true:=by rw[vQ,r];rfl
   rw[rk,r];exact an
  .simp only[go_sem,aK h1,aA h2];refine⟨by omega,h1,aF (i+1) ⟨by omega,λk hk2=>?_⟩ (show OC.length-(i+1)<OC.length-i by omega) (Wk.of ?_ ?_)⟩
   .rcases fV k i with h4|h4
    .exact hk k h4
    .obtain rfl:k=i:=by omega
     exact aA h2
   .simp only[go_sem,e8]
    try simp
   .simp only[go_sem]
 .have r:tw op=none:=Wz λk hk2=>hk k (by omega);have rk:vQ op=false:=by rw[vQ,r];rfl
  simp only[go_sem,aL h1];rw[rk,r];exact ay
def NG(op:Int):aj pg 315 [.int .i64 op] (.bool (vQ op)):=by
 refine aC we ?_;simp only[go_sem,we];refine aa (NF op) ?_;exact an
def Z5(op:Int):aj pg 282 [.int .i64 op] (.int .i64 (qx op)):=by
 refine aC Cw ?_;simp only[go_sem,Cw];refine aa (NF op) ?_;exact ay
def P5(s p:Af):Bool:=(List.range (s.length+1)).any λi=>decide (i+p.length<=s.length)&&((s.drop i).take p.length==p)
def wR(s:Af):Int:=if P5 s [100,56]=true then 1 else if P5 s [101,56]=true then 1 else if P5 s [100,49,54]=true then 2 else if P5 s [101,49,54]=true then 2 else
 if P5 s [100,51,50]=true then 4 else if P5 s [101,51,50]=true then 4 else if(s.drop 1).take 2=[51,50]then 4 else 8
def PZ(op:Int):Int:=if qx op≠17 then 0 else wR (rNm op)
def aem(w:Int):Int:=if w=2 then 1 else if w=4 then 2 else if w=8 then 3 else 0
def free(op:Int):Bool:=op==1||(op==2||(op==3||(op==5||op==11)))
def Rj(op:Int):Int:=if free op=true then 0 else if vQ op=true then 1 else 0
end
open Go Go.Mw
def JE{p:Int->Af->Bool}(h:EN.all (λx=>p x.1 x.2)=true)(op:Int):dx op=[]\/p op (dx op)=true:=by
 unfold dx;cases hr:EN.find? (λx=>x.1==op)with
 | none=>exact .inl rfl
 | some o =>
  have h1:=fk.1 h o (List.mem_of_find?_eq_some hr);have h2:=List.find?_some hr;simp only[beq_iff_eq]at h2;rw[h2]at h1;exact .inr h1
def Lo(op:Int):(dx op).length<1000:=by
 rcases JE (p:=λ_ s=>decide (s.length<1000)) (by decide +kernel) op with h|h
 .rw[h];decide
 .exact of_decide_eq_true h
def Zs(op:Int):Bool:=decide (op>=40)&&(decide (op<=62) && !(dx op==[]))
def VZ(op:Int)(h:Zs op=true):5<=(dx op).length:=by
 simp only[Zs,cW,gj,tK,fK,ne_eq]at h;rcases JE (p:=λk s=>decide (40<=k->k<=62->5<=s.length)) (by decide +kernel) op with h1|h1
 .exact absurd h1 h.2.2
 .exact(of_decide_eq_true h1) h.1 h.2.1
def yX(op:Int):aj pg 263 [.int .i64 op] (.bool (!(dx op==[]))):=by
 refine aC uc ?_;simp only[go_sem,uc];refine aa (NK op) ?_;exact an
def hpf(s p:Af):Bool:=decide (p.length<=s.length)&&(s.take p.length==p)
def UN(op:Int):aj pg 339 [.int .i64 op] (.bool (Zs op)):=by
 refine aC jf ?_;unfold Zs;by_cases h1:op>=40
 .by_cases h2:op<=62
  .simp only[go_sem,jf,aK h1,aK h2,bY];refine aa (yX op) ?_;exact an
  .simp only[go_sem,jf,aK h1,aL h2,bY,qC];exact an
 .simp only[go_sem,jf,aL h1,qC];exact an
def wNm(s:Af):Int:=if Lib.contains (s.drop 4) [56]=true then 1 else if Lib.contains (s.drop 4) [49,54]=true then 2 else if Lib.contains (s.drop 4) [51,50]=true then 4 else if s.take 3=[105,51,50]then 4 else 8
def y_(op:Int):Int:=if Zs op=true then wNm (dx op)else 0
def UW(op:Int):aj pg 309 [.int .i64 op] (.int .i64 (y_ op)):=by
 refine aC ue ?_;simp only[go_sem,ue];refine ab (UN op) ?_;cases hac:Zs op
 .have r:y_ op=0:=by rw[y_,hac];rfl
  rw[r];simp only[go_sem];exact ay
 .have r:y_ op=wNm (dx op):=by rw[y_,hac];rfl
  have hl:=Lo op;have hl2:=VZ op hac;rw[r];simp only[go_sem];refine aa (NK op) ?_;generalize dx op=s at hl hl2;obtain⟨Inv,hInv⟩:∃Inv:Nat->Prop,Inv=λi=>i<=3/\(0<i->Lib.contains (s.drop 4) [56]=false)/\(1<i->Lib.contains (s.drop 4) [49,54]=false)/\(2<i->Lib.contains (s.drop 4) [51,50]=false):=⟨_,rfl⟩
  refine aq (λi:Nat=>⟨[(11,.ms 11 1 0 3),(12,.int .i64 3),(13,.int .i64 i),(3,.str s),(2,.int .i64 0)],[(11,⟨3,1,[[.int .i64 8],[.int .i64 16],[.int .i64 32]],false⟩)]⟩) Inv (λi=>3-i) 0 (by rw[hInv];exact⟨by decide,λh=>absurd h (by decide),λh=>absurd h (by decide),λh=>absurd h (by decide)⟩) (Wk.of ?_ ?_) ?_
  .simp only[go_sem];try simp
  .simp only[go_sem];try simp
  intro i hInv1;rw[hInv]at hInv1;obtain⟨hi,h1,h2,h3⟩:=hInv1;have hd:(s.drop 4).length<4294967281:=by simp;omega
  have e4:(s.drop 4).take (s.length-4)=s.drop 4:=cI (by simp);have hl4:4<=s.length:=by omega
  have c0:((0:Nat):Int)=0:=rfl;have c1:((1:Nat):Int)=1:=rfl;have c2:((2:Nat):Int)=2:=rfl;have c3:((3:Nat):Int)=3:=rfl;have ld:∀k:Nat,O_ none 1 k 0 (some ⟨3,1,[[.int .i64 8],[.int .i64 16],[.int .i64 32]],false⟩)=(match k with|0=>some (.int .i64 8)|1=>some (.int .i64 16)|2=>some (.int .i64 32)|_=>none):=λk=>by
   rcases k with _|_|_|k<;>rfl
  have ls:∀k:Nat,O_ none 1 k 0 (some ⟨9,1,[[.str [56]],[.str [49,54]],[.str [51,50]]],false⟩)=(match k with|0=>some (.str [56])|1=>some (.str [49,54])|2=>some (.str [51,50])|_=>none):=λk=>by
   rcases k with _|_|_|k<;>rfl
  have q0:IntKind.i64.wrap ((8:Int).tdiv 16)=0:=by decide
  have q1:IntKind.i64.wrap ((16:Int).tdiv 16)=1:=by decide
  have q2:IntKind.i64.wrap ((32:Int).tdiv 16)=2:=by decide
  have p0:IntKind.i64.wrap ((8:Int).tdiv 8)=1:=by decide
  have p1:IntKind.i64.wrap ((16:Int).tdiv 8)=2:=by decide
  have p2:IntKind.i64.wrap ((32:Int).tdiv 8)=4:=by decide
  have s0:IntKind.i64.wrap ((0:Int)+1)=1:=by decide
  have s1:IntKind.i64.wrap ((1:Int)+1)=2:=by decide
  have s2:IntKind.i64.wrap ((2:Int)+1)=3:=by decide
  have t0:(0:Int).toNat=0:=rfl;have t1:(1:Int).toNat=1:=rfl;have t2:(2:Int).toNat=2:=rfl;unfold wNm;rcases(show i=0\/i=1\/i=2\/i=3 by omega)with rfl|rfl|rfl|rfl
  .simp only[go_sem,hl4,e4,c0,c1,c2,c3,aK (show(0:Int)<3 by decide),ld,ls,q0,q1,q2,t0,t1,t2];refine⟨⟨by decide,by decide⟩,⟨by decide,by omega⟩,by decide,⟨by decide,by decide⟩,?_⟩;refine ab (xJ (s.drop 4) [56] hd) ?_;cases hc:Lib.contains (s.drop 4) [56]
   .simp only[go_sem];refine aF 1 (by rw[hInv];exact⟨by decide,λ_=>hc,λh=>absurd h (by decide),λh=>absurd h (by decide)⟩) (show 3-1<3-0 by decide) (Wk.of ?_ ?_)
    .simp only[go_sem,s0,s1,s2,c0,c1,c2,c3]
     try simp
    .simp only[go_sem]
   .simp only[go_sem,p0,p1,p2];exact⟨by decide,by exact ay⟩
  .rw[h1 (by decide)];simp only[go_sem,hl4,e4,c0,c1,c2,c3,aK (show(1:Int)<3 by decide),ld,ls,q0,q1,q2,t0,t1,t2];refine⟨⟨by decide,by decide⟩,⟨by decide,by omega⟩,by decide,⟨by decide,by decide⟩,?_⟩;refine ab (xJ (s.drop 4) [49,54] hd) ?_;cases hc:Lib.contains (s.drop 4) [49,54]
   .simp only[go_sem];refine aF 2 (by rw[hInv];exact⟨by decide,λ_=>h1 (by decide),λ_=>hc,λh=>absurd h (by decide)⟩) (show 3-2<3-1 by decide) (Wk.of ?_ ?_)
    .simp only[go_sem,s0,s1,s2,c0,c1,c2,c3]
     try simp
    .simp only[go_sem]
   .simp only[go_sem,p0,p1,p2];exact⟨by decide,by exact ay⟩
  .rw[h1 (by decide)];rw[h2 (by decide)];simp only[go_sem,hl4,e4,c0,c1,c2,c3,aK (show(2:Int)<3 by decide),ld,ls,q0,q1,q2,t0,t1,t2];refine⟨⟨by decide,by decide⟩,⟨by decide,by omega⟩,by decide,⟨by decide,by decide⟩,?_⟩;refine ab (xJ (s.drop 4) [51,50] hd) ?_;cases hc:Lib.contains (s.drop 4) [51,50]
   .simp only[go_sem];refine aF 3 (by rw[hInv];exact⟨by decide,λ_=>h1 (by decide),λ_=>h2 (by decide),λ_=>hc⟩) (show 3-3<3-2 by decide) (Wk.of ?_ ?_)
    .simp only[go_sem,s0,s1,s2,c0,c1,c2,c3]
     try simp
    .simp only[go_sem]
   .simp only[go_sem,p0,p1,p2];exact⟨by decide,by exact ay⟩
  .rw[h1 (by decide),h2 (by decide),h3 (by decide)];have e5:((3:Int)).toNat=3:=rfl;simp only[go_sem,c3,aL (show ¬(3:Int)<3 by decide),vX,e5];refine⟨by omega,λh=>?_,λh=>?_⟩
   .rw[au (by simpa using h)];exact ay
   .rw[ak (by simpa using h)];exact ay
def ael(w:Int):Int:=if w=1 then 0 else if w=2 then 1 else if w=4 then 2 else if w=8 then 3 else 0
def adr:List (Int×Int):=[(37,9),(38,9),(64528,9),(64527,9),(64529,9),(64526,10),(64524,11),(64525,12),(63,13),(64,13),(64523,13),(64522,14),(64520,15),(64521,16)]
def Mg(op:Int):Int:=match adr.find? (λp=>p.1==op)with
 | some p=>p.2
 | none=>0
def PT(op:Int):aj pg 310 [.int .i64 op] (.int .i64 (Mg op)):=by
 refine aC bu ?_;by_cases h0:op=37
 .subst h0;simp only[go_sem,bu];exact ay
 by_cases h1:op=38
 .subst h1;simp only[go_sem,bu];exact ay
 by_cases h2:op=64528
 .subst h2;simp only[go_sem,bu];exact ay
 by_cases h3:op=64527
 .subst h3;simp only[go_sem,bu];exact ay
 by_cases h4:op=64529
 .subst h4;simp only[go_sem,bu];exact ay
 by_cases h5:op=64526
 .subst h5;simp only[go_sem,bu];exact ay
 by_cases h6:op=64524
 .subst h6;simp only[go_sem,bu];exact ay
 by_cases h7:op=64525
 .subst h7;simp only[go_sem,bu];exact ay
 by_cases h8:op=63
 .subst h8;simp only[go_sem,bu];exact ay
 by_cases h9:op=64
 .subst h9;simp only[go_sem,bu];exact ay
 by_cases h10:op=64523
 .subst h10;simp only[go_sem,bu];exact ay
 by_cases h11:op=64522
 .subst h11;simp only[go_sem,bu];exact ay
 by_cases h12:op=64520
 .subst h12;simp only[go_sem,bu];exact ay
 by_cases h13:op=64521
 .subst h13;simp only[go_sem,bu];exact ay
 have r:Mg op=0:=by
  simp only[Mg,adr,List.find?_cons,List.find?_nil,aA (λe:(37:Int)=op=>h0 e.symm),aA (λe:(38:Int)=op=>h1 e.symm),aA (λe:(64528:Int)=op=>h2 e.symm),aA (λe:(64527:Int)=op=>h3 e.symm),aA (λe:(64529:Int)=op=>h4 e.symm),aA (λe:(64526:Int)=op=>h5 e.symm),aA (λe:(64524:Int)=op=>h6 e.symm),aA (λe:(64525:Int)=op=>h7 e.symm),aA (λe:(63:Int)=op=>h8 e.symm),aA (λe:(64:Int)=op=>h9 e.symm),aA (λe:(64523:Int)=op=>h10 e.symm),aA (λe:(64522:Int)=op=>h11 e.symm),aA (λe:(64520:Int)=op=>h12 e.symm),aA (λe:(64521:Int)=op=>h13 e.symm)]
 rw[r];simp only[go_sem,bu,aA h0,aA h1,aA h2,aA h3,aA h4,aA h5,aA h6,aA h7,aA h8,aA h9,aA h10,aA h11,aA h12,aA h13];exact ay
def abt:List (Int×Int):=[(2,1),(3,1),(4,1),(12,2),(13,2),(14,3),(16,4),(210,4),(17,5),(28,6),(32,7),(33,7),(34,7),(35,8),(36,8),(65,18),(66,19),(208,20)]
def I6(op:Int):Int:=match abt.find? (λp=>p.1==op)with
 | some p=>p.2
 | none=>if y_ op>0 then 17 else Mg op
def US(op:Int):aj pg 261 [.int .i64 op] (.int .i64 (I6 op)):=by
 refine aC bH ?_;by_cases h0:op=2
 .subst h0;simp only[go_sem,bH];exact ay
 by_cases h1:op=3
 .subst h1;simp only[go_sem,bH];exact ay
 by_cases h2:op=4
 .subst h2;simp only[go_sem,bH];exact ay
 by_cases h3:op=12
 .subst h3;simp only[go_sem,bH];exact ay
 by_cases h4:op=13
 .subst h4;simp only[go_sem,bH];exact ay
 by_cases h5:op=14
 .subst h5;simp only[go_sem,bH];exact ay
 by_cases h6:op=16
 .subst h6;simp only[go_sem,bH];exact ay
 by_cases h7:op=210
 .subst h7;simp only[go_sem,bH];exact ay
 by_cases h8:op=17
 .subst h8;simp only[go_sem,bH];exact ay
 by_cases h9:op=28
 .subst h9;simp only[go_sem,bH];exact ay
 by_cases h10:op=32
 .subst h10;simp only[go_sem,bH];exact ay
 by_cases h11:op=33
 .subst h11;simp only[go_sem,bH];exact ay
 by_cases h12:op=34
 .subst h12;simp only[go_sem,bH];exact ay
 by_cases h13:op=35
 .subst h13;simp only[go_sem,bH];exact ay
 by_cases h14:op=36
 .subst h14;simp only[go_sem,bH];exact ay
 by_cases h15:op=65
 .subst h15;simp only[go_sem,bH];exact ay
 by_cases h16:op=66
 .subst h16;simp only[go_sem,bH];exact ay
 by_cases h17:op=208
 .subst h17;simp only[go_sem,bH];exact ay
 have r:I6 op=if y_ op>0 then 17 else Mg op:=by
  simp only[I6,abt,List.find?_cons,List.find?_nil,aA (λe:(2:Int)=op=>h0 e.symm),aA (λe:(3:Int)=op=>h1 e.symm),aA (λe:(4:Int)=op=>h2 e.symm),aA (λe:(12:Int)=op=>h3 e.symm),aA (λe:(13:Int)=op=>h4 e.symm),aA (λe:(14:Int)=op=>h5 e.symm),aA (λe:(16:Int)=op=>h6 e.symm),aA (λe:(210:Int)=op=>h7 e.symm),aA (λe:(17:Int)=op=>h8 e.symm),aA (λe:(28:Int)=op=>h9 e.symm),aA (λe:(32:Int)=op=>h10 e.symm),aA (λe:(33:Int)=op=>h11 e.symm),aA (λe:(34:Int)=op=>h12 e.symm),aA (λe:(35:Int)=op=>h13 e.symm),aA (λe:(36:Int)=op=>h14 e.symm),aA (λe:(65:Int)=op=>h15 e.symm),aA (λe:(66:Int)=op=>h16 e.symm),aA (λe:(208:Int)=op=>h17 e.symm)]
 rw[r];simp only[go_sem,bH,aA h0,aA h1,aA h2,aA h3,aA h4,aA h5,aA h6,aA h7,aA h8,aA h9,aA h10,aA h11,aA h12,aA h13,aA h14,aA h15,aA h16,aA h17];refine ab (UW op) ?_;by_cases hw:y_ op>0
 .simp only[go_sem,aK hw,au hw];exact ay
 .simp only[go_sem,aL hw,ak hw];refine aa (PT op) ?_;exact ay
def Ri(op:Int):Int:=if free op=true then 0 else if dx op=[]then 0 else 1
def adD:List (Int×Bool×Bool×Bool):=[(2,true,false,false),(3,true,false,false),(4,true,false,false),(7,true,false,false),(8,true,false,false),(9,true,false,false),(12,true,false,false),(16,true,false,false),(20,true,false,false),(5,true,true,false),(10,true,true,false),(11,true,true,false),(14,true,true,false),(15,true,true,false),(13,false,true,false),(17,true,true,true),(18,false,false,true),(19,false,false,true)]
def Km(i:Int):Bool×Bool×Bool:=match adD.find? (λp=>p.1==i)with
 | some p=>p.2
 | none=>(false,false,false)
def ada(i:Int):aj pg 262 [.int .i64 i] (.tup [.bool (Km i).1,.bool (Km i).2.1,.bool (Km i).2.2]):=by
 refine aC bp ?_;by_cases h0:i=2
 .subst h0;simp only[go_sem,bp];exact ay
 by_cases h1:i=3
 .subst h1;simp only[go_sem,bp];exact ay
 by_cases h2:i=4
 .subst h2;simp only[go_sem,bp];exact ay
 by_cases h3:i=7
 .subst h3;simp only[go_sem,bp];exact ay
 by_cases h4:i=8
 .subst h4;simp only[go_sem,bp];exact ay
 by_cases h5:i=9
 .subst h5;simp only[go_sem,bp];exact ay
 by_cases h6:i=12
 .subst h6;simp only[go_sem,bp];exact ay
 by_cases h7:i=16
 .subst h7;simp only[go_sem,bp];exact ay
 by_cases h8:i=20
 .subst h8;simp only[go_sem,bp];exact ay
 by_cases h9:i=5
 .subst h9;simp only[go_sem,bp];exact ay
 by_cases h10:i=10
 .subst h10;simp only[go_sem,bp];exact ay
 by_cases h11:i=11
 .subst h11;simp only[go_sem,bp];exact ay
 by_cases h12:i=14
 .subst h12;simp only[go_sem,bp];exact ay
 by_cases h13:i=15
 .subst h13;simp only[go_sem,bp];exact ay
 by_cases h14:i=13
 .subst h14;simp only[go_sem,bp];exact ay
 by_cases h15:i=17
 .subst h15;simp only[go_sem,bp];exact ay
 by_cases h16:i=18
 .subst h16;simp only[go_sem,bp];exact ay
 by_cases h17:i=19
 .subst h17;simp only[go_sem,bp];exact ay
 have r:Km i=(false,false,false):=by
  simp only[Km,adD,List.find?_cons,List.find?_nil,aA (λe:(2:Int)=i=>h0 e.symm),aA (λe:(3:Int)=i=>h1 e.symm),aA (λe:(4:Int)=i=>h2 e.symm),aA (λe:(7:Int)=i=>h3 e.symm),aA (λe:(8:Int)=i=>h4 e.symm),aA (λe:(9:Int)=i=>h5 e.symm),aA (λe:(12:Int)=i=>h6 e.symm),aA (λe:(16:Int)=i=>h7 e.symm),aA (λe:(20:Int)=i=>h8 e.symm),aA (λe:(5:Int)=i=>h9 e.symm),aA (λe:(10:Int)=i=>h10 e.symm),aA (λe:(11:Int)=i=>h11 e.symm),aA (λe:(14:Int)=i=>h12 e.symm),aA (λe:(15:Int)=i=>h13 e.symm),aA (λe:(13:Int)=i=>h14 e.symm),aA (λe:(17:Int)=i=>h15 e.symm),aA (λe:(18:Int)=i=>h16 e.symm),aA (λe:(19:Int)=i=>h17 e.symm)]
 rw[r];simp only[go_sem,bp,aA h0,aA h1,aA h2,aA h3,aA h4,aA h5,aA h6,aA h7,aA h8,aA h9,aA h10,aA h11,aA h12,aA h13,aA h14,aA h15,aA h16,aA h17];exact ay
def YX(n:Int):aj pg 264 [.int .i64 n] (.bool (decide (n>=0)&&decide (n<4294967296))):=by
 refine aC oR ?_;by_cases h:n>=0
 .simp only[go_sem,oR,aK h,bY];exact an
 .simp only[go_sem,oR,aL h,qC];exact an
section
def qn(n:Int):Bool:=decide (n>=0)&&decide (n<4294967296)
def BZ(n:Int):Bool:=decide (n>=1)&&decide (n<=4)
def Ok(k v z:Int):Bool:=if k=0 then(v==0)&&(z==0)else if k=1 then BZ v&&(z==0)else if k=2 then(v==0)&&qn z else false
def YY(n:Int):aj pg 264 [.int .i64 n] (.bool (qn n)):=YX n
attribute[local go_sem] ce bZ
def ags(n:Int):aj pg 266 [.int .i64 n] (.bool (BZ n)):=by
 refine aC rV ?_;unfold BZ;by_cases h:n>=1
 .simp only[go_sem,rV,aK h,bY];exact an
 .simp only[go_sem,rV,aL h,qC];exact an
def nt_{a b:Int}(h:(a != b)=true):(a==b)=false:=by simpa using h
def nf_{a b:Int}(h:(a != b)=false):(a==b)=true:=by simpa using h
def nb_{b:Bool}(h:(!b)=true):b=false:=by cases b<;>first|rfl|cases h
def nc_{b:Bool}(h:(!b)=false):b=true:=by cases b<;>first|rfl|cases h
def UO(k v z:Int):aj pg 265 [.agg [.int .i64 k,.int .i64 v,.int .i64 z]] (.bool (Ok k v z)):=by
 refine aC g_ ?_;unfold Ok;by_cases h0:k=0
 .subst h0;rw[au rfl];simp only[go_sem,g_];exact ay
 by_cases h1:k=1
 .subst h1;rw[ak h0,au rfl];simp only[go_sem,g_];refine ab (ags v) ?_;cases BZ v
  .simp only[go_sem];exact ay
  .simp only[go_sem];exact ay
 by_cases h2:k=2
 .subst h2;rw[ak h0,ak h1,au rfl];simp only[go_sem,g_];refine⟨λh=>?_,λh=>?_⟩
  .refine ab (YY z) ?_;rw[h];simp only[go_sem];exact ay
  .rw[h];exact ay
 rw[ak h0,ak h1,ak h2];simp only[go_sem,g_,aA h0,aA h1,aA h2];exact ay
def We{f:Int->Bool}{l:List Int}(h:∀k,k<l.length->f (ac l k)=true):l.all f=true:=by
 rw[fk];intro x hx;obtain⟨k,hk,rfl⟩:=List.mem_iff_getElem.1 hx;have:=h k hk;rwa[bv hk]at this
def Wd{f:Int->Bool}{l:List Int}{k:Nat}(hk:k<l.length)(h:f (ac l k)=false):l.all f=false:=by
 rw[List.all_eq_false];exact⟨ac l k,by rw[bv hk];exact tL hk,by rw[h];decide⟩
end
section
def BC(i:Int)(x:be):Bool :=
 if i=1 then Ok x.k x.v x.x else if i=6 then((x.ty.length:Int)==1)&&BZ (ac x.ty 0)else if i=17 then decide (x.a<=63)else if i=20 then(x.a==3)||(x.a==4)else x.lb.all qn
def plP(i:Int)(kn:Bool)(u:Bool×Bool×Bool)(x:be):Bool :=
 kn&&((u.1||(x.a==0))&&((u.2.1||(x.b==0))&&((u.2.2||(x.n==0))&&(qn x.a&&(qn x.b &&
 (((i==19) || !decide (x.n>=4294967296))&&(((i==1)||((x.k==0)&&((x.v==0)&&(x.x==0))))&&(((i==6) || !decide ((x.ty.length:Int)>0))&&(((i==3) || !decide ((x.lb.length:Int)>0))&&BC i x)))))))))
def CL:List (Bool×Bool×Bool×Bool×Bool×Bool×Bool×Bool×Bool) :=
 [(false,false,false,true,false,false,false,false,false),
  (true,false,false,false,true,false,false,false,false),
  (false,false,false,false,false,true,false,false,false),
  (true,true,true,false,false,false,true,false,false),
  (false,false,true,false,false,false,false,true,false),
  (true,false,false,false,false,false,false,false,true),
  (true,false,false,false,false,false,false,false,false),
  (true,true,false,false,false,false,false,false,false),
  (false,true,false,false,false,false,false,false,false),
  (false,false,true,false,false,false,false,false,false),
  (false,false,false,false,false,false,false,false,false)]
def cls(i:Int)(hi:0<=i/\i<=20):((Km i).1,(Km i).2.1,(Km i).2.2,(i==1),(i==3),(i==6),(i==17),(i==19),(i==20))∈CL:=by
 obtain⟨h1,h2⟩:=hi;obtain⟨n,rfl⟩:=Ks h1;have hn:n<=20:=by omega
 clear h1 h2;have:∀n:Fin 21,((Km (n.val:Nat)).1,(Km (n.val:Nat)).2.1,(Km (n.val:Nat)).2.2,(((n.val:Nat):Int)==1),(((n.val:Nat):Int)==3),(((n.val:Nat):Int)==6),(((n.val:Nat):Int)==17),(((n.val:Nat):Int)==19),(((n.val:Nat):Int)==20))∈CL:=by decide +kernel
 exact this ⟨n,by omega⟩
attribute[local go_sem] ce bZ dw
def Kb(x:be)(i:Int)(hi:0<=i/\i<=20)(him:I6 x.op=i)(hl:x.lb.length<=9223372036854775807):aj pg 187 [bn x] (.bool (plP i (!(dx x.op==[])) (Km i) x)):=by
 refine aC ud ?_;have a1:=US x.op;rw[him]at a1;have a2:=ada i;have a3:=yX x.op;have hc:=cls i hi;unfold plP;generalize (Km i).1=ua at hc a2;generalize (Km i).2.1=ub at hc a2;generalize (Km i).2.2=un at hc a2;generalize h1:(i==1)=k1 at hc;generalize h3:(i==3)=k3 at hc;generalize h6:(i==6)=k6 at hc;generalize h17:(i==17)=k17 at hc;generalize h19:(i==19)=k19 at hc;generalize h20:(i==20)=k20 at hc;simp only[CL,dQ,tN,or_false,vf]at hc;rcases hc with⟨rfl,rfl,rfl,rfl,rfl,rfl,rfl,rfl,rfl⟩|⟨rfl,rfl,rfl,rfl,rfl,rfl,rfl,rfl,rfl⟩|⟨rfl,rfl,rfl,rfl,rfl,rfl,rfl,rfl,rfl⟩|⟨rfl,rfl,rfl,rfl,rfl,rfl,rfl,rfl,rfl⟩|⟨rfl,rfl,rfl,rfl,rfl,rfl,rfl,rfl,rfl⟩|⟨rfl,rfl,rfl,rfl,rfl,rfl,rfl,rfl,rfl⟩|⟨rfl,rfl,rfl,rfl,rfl,rfl,rfl,rfl,rfl⟩|⟨rfl,rfl,rfl,rfl,rfl,rfl,rfl,rfl,rfl⟩|⟨rfl,rfl,rfl,rfl,rfl,rfl,rfl,rfl,rfl⟩|⟨rfl,rfl,rfl,rfl,rfl,rfl,rfl,rfl,rfl⟩|⟨rfl,rfl,rfl,rfl,rfl,rfl,rfl,rfl,rfl⟩
 all_goals
  have d1:(i != 1) = !(i==1):=rfl;have d3:(i != 3) = !(i==3):=rfl;have d6:(i != 6) = !(i==6):=rfl;have d19:(i != 19) = !(i==19):=rfl;rw[h1]at d1;rw[h3]at d3;rw[h6]at d6;rw[h19]at d19;simp only[h1,h3,h6,h19,eC,eH,bY];simp only[go_sem,ud];refine aa (a1) ?_;refine aa (a2) ?_;refine ab (a3) ?_;cases hk:!(dx x.op==[])
  .simp only[go_sem];exact ay
  rw[bY];simp only[go_sem]
  iterate 3 (first|(refine⟨λh=>?_,λh=>?_⟩
                    .rw[nt_ h,qC];exact ay
                    rw[nf_ h,bY])|skip)
  refine ab (YY x.a) ?_;cases hA:qn x.a
  .rw[qC];simp only[go_sem];exact ay
  rw[bY];simp only[go_sem];refine ab (YY x.b) ?_;cases hB:qn x.b
  .rw[qC];simp only[go_sem];exact ay
  rw[bY];simp only[go_sem,d1,d3,d6,d19,h1,h6,h17,h20,dk,cG]
  iterate 4 (first|(refine⟨λh=>?_,λh=>?_⟩
                    ·(first|rw[aK h,dk,qC]|rw[nb_ h,qC])
                     exact ay
                    (first|rw[aL h,cG,bY]|rw[nc_ h,bY]))|skip)
 .have r:BC i x=Ok x.k x.v x.x:=by rw[BC,au (eq_of_beq h1)]
  rw[r];refine aa (UO x.k x.v x.x) ?_;exact ay
 rotate_left
 .have r:BC i x=(((x.ty.length:Int)==1)&&BZ (ac x.ty 0)):=by rw[BC,ak (ne_of_beq_false h1),au (eq_of_beq h6)]
  rw[r];refine⟨λh=>⟨by decide,?_,?_⟩,λh=>?_⟩
  .have:=eq_of_beq h;omega
  .rw[h,bY];refine aa (ags (ac x.ty 0)) ?_;exact ay
  .rw[h,qC];exact ay
 .have r:BC i x=decide (x.a<=63):=by rw[BC,ak (ne_of_beq_false h1),ak (ne_of_beq_false h6),au (eq_of_beq h17)]
  rw[r];exact ay
 rotate_left
 .have r:BC i x=((x.a==3)||(x.a==4)):=by rw[BC,ak (ne_of_beq_false h1),ak (ne_of_beq_false h6),ak (ne_of_beq_false h17),au (eq_of_beq h20)]
  rw[r];refine⟨λh=>?_,λh=>?_⟩
  .rw[h,eC];exact ay
  .rw[h,eH];exact ay
 all_goals
  have r:BC i x=x.lb.all qn:=by rw[BC,ak (ne_of_beq_false h1),ak (ne_of_beq_false h6),ak (ne_of_beq_false h17),ak (ne_of_beq_false h20)]
  rw[r];refine aq (λi:Nat=>⟨[(133,.sl 1 (x.lb.map jM)),(134,.int .i64 x.lb.length),(135,.int .i64 i)],[]⟩) (λi=>i<=x.lb.length/\∀k,k<i->qn (ac x.lb k)=true) (λi=>x.lb.length-i) 0 ⟨cm _,λk hk=>absurd hk (Nat.not_lt_zero k)⟩ (Wk.of ?_ ?_) ?_
  .simp only[go_sem];try simp
  .trivial
  rintro j ⟨hj,hk⟩;by_cases q1:(j:Int)<(x.lb.length:Int)
  .have e8:=wi (n:=(j:Int)+1) (by omega) (by omega);simp only[go_sem,aK q1];refine⟨by omega,q1,?_⟩;refine ab (YY (ac x.lb j)) ?_;cases q2:qn (ac x.lb j)
   .rw[Wd (by omega) q2];simp only[go_sem];exact ay
   .simp only[go_sem];refine aF (j+1) ⟨by omega,λk hk2=>?_⟩ (show x.lb.length-(j+1)<x.lb.length-j by omega) (Wk.of ?_ ?_)
    .rcases fV k j with h4|h4
     .exact hk k h4
     .obtain rfl:k=j:=by omega
      exact q2
    .simp only[go_sem,e8]
     try simp
    .simp only[go_sem]
  .rw[We (λk hk2=>hk k (by omega))];simp only[go_sem,aL q1];exact ay
end
section
def mj(i:Int)(x:be):Bool :=
 if i=0 then(x.a==0)&&((x.b==0)&&(x.n==0))else
 if i=1 then(x.a==0)&&((x.b==0)&&((x.n==0)&&Ok x.k x.v x.x))else
 if i=3 then qn x.a&&((x.b==0)&&((x.n==0)&&x.lb.all qn))else
 if i=6 then(x.a==0)&&((x.b==0)&&((x.n==0)&&(((x.ty.length:Int)==1)&&BZ (ac x.ty 0))))else
 if i=13 then(x.a==0)&&(qn x.b&&(x.n==0))else
 if i=17 then decide (x.a>=0)&&(decide (x.a<=63)&&(qn x.b&&decide (x.n<4294967296)))else
 if i=18 then(x.a==0)&&((x.b==0)&&decide (x.n<4294967296))else
 if i=19 then(x.a==0)&&(x.b==0)else
 if i=20 then((x.a==3)||(x.a==4))&&((x.b==0)&&(x.n==0))else
 if i=5\/i=10\/i=11\/i=14\/i=15 then qn x.a&&(qn x.b&&(x.n==0))else
 qn x.a&&((x.b==0)&&(x.n==0))
def vp(i:Int)(kn:Bool)(x:be):Bool :=
 kn&&(((i==1)||((x.k==0)&&((x.v==0)&&(x.x==0))))&&(((i==3) || !decide ((x.lb.length:Int)>0))&&(((i==6) || !decide ((x.ty.length:Int)>0))&&mj i x)))
attribute[local go_sem] ce bZ dw
end
def DX(op:Int):dx op=rNm op:=by
 have h:∀l:List Oc,(match (l.map λo=>(o.op,o.nm)).find? (λx=>x.1==op)with|some o=>o.2|none=>[])=((l.find? (λo=>o.op==op)).getD default).nm:=by
  intro l
  induction l with
  | nil=>rfl
  | cons a l ih =>
   simp only[eG,List.find?_cons];cases ha:a.op==op
   .exact ih
   .rfl
 exact h OC
def J7{op:Int}(h:tw op=none):rNm op=[]/\qx op=0/\vQ op=false:=by
 simp only[rNm,qx,vQ,h];exact⟨rfl,rfl,rfl⟩
def LT{p:Int->Bool}(h:OC.all (λo=>p o.op)=true){op:Int}(hr:tw op≠none):p op=true:=by
 cases hf:tw op with
 | none=>exact absurd hf hr
 | some o =>
  have h1:=fk.1 h o (List.mem_of_find?_eq_some hf);have h2:=List.find?_some hf;simp only[beq_iff_eq]at h2;rw[h2]at h1;exact h1
def Gn(op:Int):(!(dx op==[]))=vQ op/\dx op=rNm op/\I6 op=qx op/\y_ op=PZ op/\ael (y_ op)=aem (PZ op)/\Ri op=Rj op:=by
 by_cases h:tw op=none
 .obtain⟨h1,h2,h3⟩:=J7 h;have hn:dx op=[]:=by rw[DX,h1]
  have hw:y_ op=0:=by
   have:Zs op=false:=by simp[Zs,hn]
   rw[y_,this];rfl
  have hw2:PZ op=0:=by rw[PZ,h2];rfl
  have hi:I6 op=0:=by
   have ht:∀(l:List (Int×Int)),l.all (λp=>(tw p.1).isSome)=true->l.find? (λp=>p.1==op)=none:=by
    intro l hl;rw[List.find?_eq_none];intro p hp hq;have:=fk.1 hl p hp;simp only[beq_iff_eq]at hq;rw[hq,h]at this;cases this
   have hs:Mg op=0:=by rw[Mg,ht adr (by decide +kernel)]
   rw[I6,ht abt (by decide +kernel),hw,hs];rfl
  refine⟨by rw[hn,h3];rfl,DX op,by rw[hi,h2],by rw[hw,hw2],by rw[hw,hw2];rfl,?_⟩;rw[Ri,Rj,hn,h3];rfl
 .have:=LT (p:=λop=>(!(dx op==[]))==vQ op&&I6 op==qx op&&y_ op==PZ op&&ael (y_ op)==aem (PZ op)&&Ri op==Rj op) (by decide +kernel) h;simp only[cW,beq_iff_eq]at this;obtain⟨⟨⟨⟨h1,h2⟩,h3⟩,h4⟩,h5⟩:=this;exact⟨h1,DX op,h2,h3,h4,h5⟩
def Z1(i:Int)(hi:0<=i/\i<=20)(kn:Bool)(x:be)(hn:0<=x.n):plP i kn (Km i) x=vp i kn x:=by
 obtain⟨op,a,b,n,k,v,z,ty,lb⟩:=x;replace hn:0<=n:=hn;have hal:¬((lb.length:Int)>0)->lb.all qn=true:=λh=>by
  cases lb with
  | nil=>rfl
  | cons y l=>simp at h
 unfold plP vp BC mj;simp only;generalize lb.all qn=al at hal;generalize (lb.length:Int)=ll at hal;generalize BZ (ac ty 0)=vv;generalize (ty.length:Int)=tl;generalize Ok k v z=bb;generalize ((k==0)&&((v==0)&&(z==0)))=kk;have ea:a=0->qn a=true:=λh=>by subst h;decide
 have eb:b=0->qn b=true:=λh=>by subst h;decide
 have ec:a=3\/a=4->qn a=true:=λh=>by rcases h with rfl|rfl<;>decide
 have ed:qn a=true/\a<=63↔a>=0/\a<=63:=by
  simp only[qn,cW,gj];omega
 generalize qn a=xa at ea ec ed;generalize qn b=xb at eb;rcases(show i=0\/i=1\/i=2\/i=3\/i=4\/i=5\/i=6\/i=7\/i=8\/i=9\/i=10\/i=11\/i=12\/i=13\/i=14\/i=15\/i=16\/i=17\/i=18\/i=19\/i=20 by omega)with rfl|rfl|rfl|rfl|rfl|rfl|rfl|rfl|rfl|rfl|rfl|rfl|rfl|rfl|rfl|rfl|rfl|rfl|rfl|rfl|rfl
 all_goals
  simp only[Km,adD,List.find?_cons,List.find?_nil,Int.reduceBEq,Int.reduceEq,aN,bB,eC,eH,bY,qC,false_or,or_false,or_true,true_or,or_self];rw[Bv];simp only[cW,sC,beq_iff_eq,gj,tK,decide_eq_false_iff_not]
  grind
def nW(op:Int):0<=qx op/\qx op<=20:=by
 by_cases h:tw op=none
 .rw[(J7 h).2.1];decide
 .have:=LT (p:=λop=>decide (0<=qx op)&&decide (qx op<=20)) (by decide +kernel) h;simpa using this
def PL(x:be):Bool:=vp (qx x.op) (vQ x.op) x
def vo(t:Int):UInt8×Bool:=if t=1 then(127,true)else if t=2 then(126,true)else if t=3 then(112,true)else if t=4 then(111,true)else(0,false)
def ov(b:UInt8):Int×Bool:=if b=127 then(1,true)else if b=126 then(2,true)else if b=112 then(3,true)else if b=111 then(4,true)else(0,false)
def Ey(k v x:Int):Af:=if k=0 then[64]else if k=1 then[(vo v).1]else gQ x
def pA(op:Int):Af:=if op>=64512 then 252::aD (op-64512).toNat else[UInt8.ofNat op.toNat]
def gH(l:List Int):Af:=l.flatMap λn=>aD n.toNat
def jF(i:Int)(x:be):Af :=
 if i=1 then Ey x.k x.v x.x else
 if i=3 then aD x.lb.length++gH x.lb++aD x.a.toNat else
 if i=5\/i=10\/i=11\/i=14\/i=15 then aD x.a.toNat++aD x.b.toNat else
 if i=6 then aD 1++[(vo (ac x.ty 0)).1]else
 if i=13 then aD x.b.toNat else
 if i=17 then(if x.b=0 then aD x.a.toNat else aD (x.a+64).toNat++aD x.b.toNat)++aD x.n.toNat else
 if i=18 then gQ (PK x.n)else
 if i=19 then gQ (IntKind.i64.wrap x.n)else
 if i=20 then[(vo x.a).1]else
 if i=0 then[]else aD x.a.toNat
def BA(x:be):Af:=pA x.op++jF (qx x.op) x
def xF(x:be)(l:Af)(e:Int):Af×Int :=
 if PL x=true then(if qx x.op=3/\4294967296<=x.lb.length then(wB (e==0) l (pA x.op),if e=0 then 1 else e)else(wB (e==0) l (BA x),e))else(l,if e=0 then 10 else e)
abbrev Rd(α:Type):=Except (Int×Nat) (α×Nat)
def gB(b:Af)(a:Nat):Rd UInt8:=if a<b.length then .ok (ac b a,a+1)else .error (3,a)
def gU(b:Af)(a:Nat):Rd Nat:=if(dm (b.drop a) 32).2.2=0 then .ok ((dm (b.drop a) 32).1,a+(dm (b.drop a) 32).2.1)else .error ((dm (b.drop a) 32).2.2,a)
def gS(bits:Nat)(b:Af)(a:Nat):Rd Int:=if(di (b.drop a) bits).2.2=0 then .ok ((di (b.drop a) bits).1,a+(di (b.drop a) bits).2.1)else .error ((di (b.drop a) bits).2.2,a)
def gC(b:Af)(a:Nat)(most:Int):Rd Nat:=match gU b a with
 | .ok (n,k)=>if(n:Int)>most then .error (6,a)else .ok (n,k)
 | .error e=>.error e
def gV(b:Af)(a:Nat):Rd Int:=match gB b a with
 | .ok (x,k)=>if(ov x).2=true then .ok ((ov x).1,k)else .error (4,k)
 | .error e=>.error e
def gK(b:Af)(a:Nat):Rd (Int×Int×Int):=match gS 33 b a with
 | .ok (n,k)=>if n = -64 then .ok ((0,0,0),k)else if n>=0 then .ok ((2,0,n),k)else
   if n>=-17/\(ov (UInt8.ofNat (n+128).toNat)).2=true then .ok ((1,(ov (UInt8.ofNat (n+128).toNat)).1,0),k)else .error (4,k)
 | .error e=>.error e
def gO(b:Af)(a:Nat):Rd Int:=match gB b a with
 | .ok (x,k)=>if x=252 then(match gU b k with
   | .ok (n,k')=>if vQ (64512+n)=true then .ok (64512+n,k')else .error (10,k')
   | .error e=>.error e)else if vQ x.toNat=true then .ok ((x.toNat:Int),k)else .error (10,k)
 | .error e=>.error e
def gL:Nat->Af->Nat->Rd (List Int)
 | 0,_,a=>.ok ([],a)
 | n+1,b,a=>match gU b a with
  | .ok (x,k)=>(match gL n b k with
   | .ok (l,k')=>.ok ((x:Int)::l,k')
   | .error e=>.error e)
  | .error e=>.error e
def gA(b:Af)(a:Nat):Rd (Int×Int×Int):=match gU b a with
 | .ok (x,k)=>if x>=128 then .error (4,k)else if x>=64 then(match gU b k with
   | .ok (y,k1)=>(match gU b k1 with
    | .ok (z,k2)=>.ok (((x:Int)-64,(y:Int),(z:Int)),k2)
    | .error e=>.error e)
   | .error e=>.error e)else(match gU b k with
   | .ok (z,k2)=>.ok (((x:Int),0,(z:Int)),k2)
   | .error e=>.error e)
 | .error e=>.error e
def z0:be:=⟨0,0,0,0,0,0,0,[],[]⟩
def gM(i:Int)(b:Af)(a:Nat):Rd be :=
 if i=1 then(match gK b a with
  | .ok ((k,v,x),a1)=>.ok ({z0 with k:=k,v:=v,x:=x},a1)
  | .error e=>.error e)else
 if i=3 then(match gC b a 64 with
  | .ok (n,a1)=>(match gL n b a1 with
   | .ok (l,a2)=>(match gU b a2 with
    | .ok (x,a3)=>.ok ({z0 with a:=x,lb:=l},a3)
    | .error e=>.error e)
   | .error e=>.error e)
  | .error e=>.error e)else
 if i=5\/i=10\/i=11\/i=14\/i=15 then(match gU b a with
  | .ok (x,a1)=>(match gU b a1 with
   | .ok (y,a2)=>.ok ({z0 with a:=x,b:=y},a2)
   | .error e=>.error e)
  | .error e=>.error e)else
 if i=6 then(match gU b a with
  | .ok (x,a1)=>if x=1 then(match gV b a1 with
   | .ok (t,a2)=>.ok ({z0 with ty:=[t]},a2)
   | .error e=>.error e)else .error (4,a1)
  | .error e=>.error e)else
 if i=13 then(match gU b a with
  | .ok (x,a1)=>.ok ({z0 with b:=x},a1)
  | .error e=>.error e)else
 if i=17 then(match gA b a with
  | .ok ((x,y,z),a1)=>.ok ({z0 with a:=x,b:=y,n:=z},a1)
  | .error e=>.error e)else
 if i=18 then(match gS 32 b a with
  | .ok (n,a1)=>.ok ({z0 with n:=IntKind.u64.wrap (IntKind.u32.wrap n)},a1)
  | .error e=>.error e)else
 if i=19 then(match gS 64 b a with
  | .ok (n,a1)=>.ok ({z0 with n:=IntKind.u64.wrap n},a1)
  | .error e=>.error e)else
 if i=20 then(match gV b a with
  | .ok (t,a1)=>if t=3\/t=4 then .ok ({z0 with a:=t},a1)else .error (12,a1)
  | .error e=>.error e)else
 if i=0 then .ok (z0,a)else(match gU b a with
  | .ok (x,a1)=>.ok ({z0 with a:=x},a1)
  | .error e=>.error e)
def gI(b:Af)(a:Nat):Rd be:=match gO b a with
 | .ok (op,k)=>(match gM (qx op) b k with
  | .ok (x,k')=>.ok ({x with op:=op},k')
  | .error e=>.error e)
 | .error e=>.error e
def gE:Nat->Nat->Af->Nat->Int->Rd (List be)
 | 0,_,_,a,_=>.error (6,a)
 | f+1,deep,b,a,most=>if most<=0 then .error (6,a)else match gI b a with
  | .error e=>.error e
  | .ok (x,k) =>
   if x.op=11/\deep=1 then .ok ([x],k)else match gE f (if x.op=2\/x.op=3\/x.op=4 then deep+1 else if x.op=11 then deep-1 else deep) b k (most-1)with
    | .ok (l,k')=>.ok (x::l,k')
    | .error e=>.error e
def ow(b:Af)(a:Nat):(∃x,gB b a = .ok (x,a+1)/\eD true b a 0=(x,a+1,0)/\a+1<=b.length)\/(gB b a = .error (3,a)/\eD true b a 0=(0,a,3)):=by
 unfold gB eD;by_cases h:a<b.length
 .rw[au h,au rfl,ak (by omega)];exact .inl ⟨_,rfl,rfl,h⟩
 .rw[ak h,au rfl,au (by omega)];exact .inr ⟨rfl,rfl⟩
def d_{b:Af}{a:Nat}(ha:a<=b.length):(∃n k,gU b a = .ok (n,k)/\rU true 32 b a 0=(n,k,0)/\n<4294967296/\k<=b.length)\/∃e,e≠0/\gU b a = .error (e,a)/\rU true 32 b a 0=(0,a,e):=by
 have h1:=B_ (b.drop a) 32 (by decide);have h2:=CF (b.drop a) 32;simp only[jK]at h2;unfold gU rU;by_cases h:(dm (b.drop a) 32).2.2=0
 .rw[au h,au rfl,ak (by simp[h])];exact .inl ⟨_,_,rfl,rfl,h1,by omega⟩
 .rw[ak h,au rfl,au h];exact .inr ⟨_,h,rfl,rfl⟩
def Ui{b:Af}{a:Nat}(bits:Nat)(ha:a<=b.length):(∃n k,gS bits b a = .ok (n,k)/\rS true bits b a 0=(n,k,0)/\k<=b.length)\/∃e,e≠0/\gS bits b a = .error (e,a)/\rS true bits b a 0=(0,a,e):=by
 have h2:=CE (b.drop a) bits;simp only[jK]at h2;unfold gS rS;by_cases h:(di (b.drop a) bits).2.2=0
 .rw[au h,au rfl,ak (by simp[h])];exact .inl ⟨_,_,rfl,rfl,by omega⟩
 .rw[ak h,au rfl,au h];exact .inr ⟨_,h,rfl,rfl⟩
def yQ{b:Af}{a:Nat}(most:Int)(ha:a<=b.length):(∃n k,gC b a most = .ok (n,k)/\ba true b a 0 most=(n,k,0)/\(n:Int)<=most/\n<4294967296/\k<=b.length)\/∃e,e≠0/\gC b a most = .error (e,a)/\ba true b a 0 most=(0,a,e):=by
 unfold gC ba;rcases d_ ha with⟨n,k,h1,h2,h3,h4⟩|⟨e,he,h1,h2⟩
 .rw[h1,h2,au rfl];by_cases h:(n:Int)>most
  .exact .inr ⟨6,by decide,au h,au ⟨rfl,h⟩⟩
  .exact .inl ⟨n,k,ak h,ak (λq=>h q.2),by omega,h3,h4⟩
 .rw[h1,h2,au rfl];exact .inr ⟨e,he,rfl,ak (λq=>he q.1)⟩
def li(b:Af)(a:Nat)(e:Int):eD false b a e=(0,a,e):=rfl
def mZ(bits:Nat)(b:Af)(a:Nat)(e:Int):rU false bits b a e=(0,a,e):=rfl
def DN(b:Af)(a:Nat)(e most:Int):ba false b a e most=(0,a,e):=rfl
def i8(t:Int):Af:=[(vo t).1]
def br{α:Type}(f:α->Af)(l:List α):Af:=aD l.length++l.flatMap f
def wz(x:Ft):Af:=96::(br i8 x.ps++br i8 x.rs)
def o6(l:Lm):Af:=if l.hs=true then 1::(aD l.mn.toNat++aD l.mx.toNat)else 0::aD l.mn.toNat
def uE(x:Tb):Af:=i8 x.e++o6 x.l
def FB(g:Gl):Af:=i8 g.v++[if g.mu=true then 1 else 0]
def A6(s:Af):Af:=aD s.length++s
def wC(x:Im):Af:=A6 x.m++A6 x.n++[UInt8.ofNat x.k.toNat] ++
 (if x.k=0 then aD x.f.toNat else if x.k=1 then uE ⟨x.te,x.tl⟩else if x.k=2 then o6 x.me else FB x.g)
def j5(l:List be):Af:=l.flatMap BA
def wA(x:Gd):Af:=FB x.g++j5 x.i
def wy(x:Ex):Af:=A6 x.n++[UInt8.ofNat x.k.toNat]++aD x.i.toNat
def same(t:Int):List Int->Nat
 | []=>0
 | x::l=>if x=t then same t l+1 else 0
def BY:Nat->List Int->List (Nat×Int)
 | 0,_=>[]
 | _,[]=>[]
 | f+1,x::l=>(same x l+1,x)::BY f (l.drop (same x l))
def pn(l:List Int):List (Nat×Int):=BY l.length l
def EA(r:Nat×Int):Af:=aD r.1++i8 r.2
def MM(l:List Int):Af:=br EA (pn l)
def oZ(x:Cd):Af:=MM x.lo++j5 x.b
def qY(x:Cd):Af:=aD (oZ x).length++oZ x
def C7(l:List be):Bool:=(l.length==2)&&((ac l 0).op==210)&&((ac l 1).op==11)
def jz(x:El):Bool:=(x.ty != 3)||x.it.any (λl=>!C7 l)
def gJ(x:El):Nat:=(if jz x=true then 4 else 0)+(if x.mo=1 then 1 else if x.mo=2 then 3 else if x.tb≠0\/x.ty≠3 then 2 else 0)
def CG(n:Nat)(l:List be):Af:=if n<4 then aD (ac l 0).a.toNat else j5 l
def ww(x:El):Af:=aD (gJ x)++(if gJ x%4=2 then aD x.tb.toNat else[])++(if gJ x%2=0 then j5 x.o else[]) ++
 (if gJ x%4=0 then[]else if gJ x<4 then[0]else i8 x.ty)++br (CG (gJ x)) x.it
def wv(x:Da):Af:=(if x.mo=1 then aD 1 else if x.me=0 then aD 0++j5 x.o else aD 2++aD x.me.toNat++j5 x.o)++aD x.b.length++x.b
def CH(m:Md)(p:Int):Af :=
 if p=1 then br wz m.ts else if p=2 then br wC m.ims else if p=3 then br (λx:Cd=>aD x.t.toNat) m.fs else
 if p=4 then br uE m.tbs else if p=5 then br o6 m.ms else if p=6 then br wA m.gs else if p=7 then br wy m.exs else
 if p=8 then aD m.st.toNat else if p=9 then br ww m.els else if p=10 then aD m.ds.length else
 if p=11 then br qY m.fs else if p=12 then br wv m.ds else[]
def xG(m:Md):List Int :=
 (if m.ts.length>0 then[1]else[])++(if m.ims.length>0 then[2]else[])++(if m.fs.length>0 then[3]else[])++(if m.tbs.length>0 then[4]else[]) ++
 (if m.ms.length>0 then[5]else[])++(if m.gs.length>0 then[6]else[])++(if m.exs.length>0 then[7]else[])++(if m.hs=true then[8]else[]) ++
 (if m.els.length>0 then[9]else[])++(if m.ds.length>0 then[10]else[])++(if m.fs.length>0 then[11]else[])++(if m.ds.length>0 then[12]else[])
def fq{α β:Type}(r:Rd α)(f:α->Nat->Rd β):Rd β:=match r with
 | .ok (x,k)=>f x k
 | .error e=>.error e
def dq{α β:Type}(x:α)(k:Nat)(f:α->Nat->Rd β):fq (.ok (x,k)) f=f x k:=rfl
def fF{α β:Type}(e:Int×Nat)(f:α->Nat->Rd β):fq (.error e) f = .error e:=rfl
def gN{α:Type}(one:Af->Nat->Rd α):Nat->Af->Nat->Rd (List α)
 | 0,_,a=>.ok ([],a)
 | n+1,b,a=>fq (one b a) λx k=>fq (gN one n b k) λl k'=>.ok (x::l,k')
def zG{α:Type}(one:Af->Nat->Rd α)(most:Int)(b:Af)(a:Nat):Rd (List α):=fq (gC b a most) λn k=>gN one n b k
def gFt(b:Af)(a:Nat):Rd Ft:=fq (gB b a) λx k=>if x=96 then fq (zG gV 8 b k) λps k1=>fq (zG gV 8 b k1) λrs k2=>.ok (⟨ps,rs⟩,k2)else .error (4,k)
def yl(b:Af)(a:Nat):Rd Lm:=fq (gB b a) λx k=>if x>1 then .error (4,k)else fq (gU b k) λmn k1 =>
 if x=1 then fq (gU b k1) λmx k2=>if mx<mn then .error (20,k2)else .ok (⟨mn,mx,true⟩,k2)else .ok (⟨mn,0,false⟩,k1)
def Ce(b:Af)(a:Nat):Rd Tb:=fq (gV b a) λt k=>if t=3\/t=4 then fq (yl b k) λl k1=>.ok (⟨t,l⟩,k1)else .error (12,k)
def CV(b:Af)(a:Nat):Rd Gl:=fq (gV b a) λt k=>fq (gB b k) λx k1=>if x>1 then .error (4,k1)else .ok (⟨t,x==1⟩,k1)
def gNm(b:Af)(a:Nat):Rd (Af):=if(ci true b a 0).2.2=0 then .ok ((ci true b a 0).1,(ci true b a 0).2.1)else .error ((ci true b a 0).2.2,(ci true b a 0).2.1)
def gIm(b:Af)(a:Nat):Rd Im:=fq (gNm b a) λm k=>fq (gNm b k) λn k1=>fq (gB b k1) λx k2 =>
 if x=0 then fq (gU b k2) λf k3=>.ok (⟨m,n,0,f,0,⟨0,0,false⟩,⟨0,0,false⟩,⟨0,false⟩⟩,k3)else
 if x=1 then fq (Ce b k2) λt k3=>.ok (⟨m,n,1,0,t.e,t.l,⟨0,0,false⟩,⟨0,false⟩⟩,k3)else
 if x=2 then fq (yl b k2) λl k3=>.ok (⟨m,n,2,0,0,⟨0,0,false⟩,l,⟨0,false⟩⟩,k3)else
 if x=3 then fq (CV b k2) λg k3=>.ok (⟨m,n,3,0,0,⟨0,0,false⟩,⟨0,0,false⟩,g⟩,k3)else .error (4,k2)
def gX(b:Af)(a:Nat):Rd (List be):=gE (b.length+1) 1 b a 2048
def gGd(b:Af)(a:Nat):Rd Gd:=fq (CV b a) λg k=>fq (gX b k) λl k1=>.ok (⟨g,l⟩,k1)
def gEx(b:Af)(a:Nat):Rd Ex:=fq (gNm b a) λn k=>fq (gB b k) λx k1=>if x>3 then .error (4,k1)else fq (gU b k1) λi k2=>.ok (⟨n,(x.toNat:Int),i⟩,k2)
def E7(k:Int):List be:=[⟨210,k,0,0,0,0,0,[],[]⟩,⟨11,0,0,0,0,0,0,[],[]⟩]
def gIt(n:Nat)(b:Af)(a:Nat):Rd (List be):=if n<4 then fq (gU b a) λx k=>.ok (E7 x,k)else gX b a
def cg(n:Nat):Int:=if n%4=1 then 1 else if n%4=3 then 2 else 0
def gEl(b:Af)(a:Nat):Rd El:=fq (gU b a) λn k=>if n>7 then .error (4,k)else
 fq (if n%4=2 then fq (gU b k) λx k1=>.ok ((x:Int),k1)else .ok (0,k)) λtb k1 =>
 fq (if n%2=0 then gX b k1 else .ok ([],k1)) λo k2 =>
 fq (if n%4=0 then .ok (3,k2)else if n<4 then fq (gB b k2) λx k3=>if x=0 then .ok (3,k3)else .error (4,k3)else gV b k2) λt k3 =>
 fq (zG (gIt n) 256 b k3) λl k4=>.ok (⟨cg n,tb,o,t,l⟩,k4)
def gDa(b:Af)(a:Nat):Rd Da:=fq (gU b a) λn k=>if n>2 then .error (4,k)else
 fq (if n=2 then fq (gU b k) λx k1=>.ok ((x:Int),k1)else .ok (0,k)) λme k1 =>
 fq (if n=1 then .ok ([],k1)else gX b k1) λo k2 =>
 fq (gC b k2 4096) λn2 k3=>if n2>b.length-k3 then .error (3,k3)else .ok (⟨if n=1 then 1 else 0,me,o,(b.drop k3).take n2⟩,k3+n2)
def gLo:Nat->Af->Nat->List Int->Rd (List Int)
 | 0,_,a,l=>.ok (l,a)
 | n+1,b,a,l=>fq (gU b a) λmany k=>fq (gV b k) λt k1=>if(many:Int)>64-l.length then .error (6,k1)else gLo n b k1 (l++List.replicate many t)
def RW(b:Af):Rd (List Int×List be):=fq (gC b 0 64) λn k=>fq (gLo n b k []) λl k1=>fq (gX b k1) λx k2=>if k2=b.length then .ok ((l,x),k2)else .error (5,k2)
def gCd(b:Af)(a:Nat):Rd (List Int×List be):=fq (gU b a) λn k=>if n>b.length-k then .error (3,k)else
 match RW ((b.drop k).take n)with
 | .ok (x,_)=>.ok (x,k+n)
 | .error e=>.error (e.1,k+n)
def Vu(b:Af)(a:Nat):Rd Int:=fq (gU b a) λn k=>.ok ((n:Int),k)
def ED{α:Type}(r:Rd α)(b:Af):Except Int α:=match r with
 | .ok (x,k)=>if k=b.length then .ok x else .error 5
 | .error e=>.error e.1
structure Dc where
 m:Md
 place:Int
 codes:Nat
 data:Int
def UY(d:Dc)(p:Int)(b:Af):Except Int Dc :=
 let d:={d with place:=p}
 let put {α:Type} (r:Rd α) (f:α->Dc):Except Int Dc:=(ED r b).map f
 if p=1 then put (zG gFt 64 b 0) λl=>{d with m:={d.m with ts:=l}}else
 if p=2 then put (zG gIm 32 b 0) λl=>{d with m:={d.m with ims:=l}}else
 if p=3 then put (zG Vu 64 b 0) λl=>{d with m:={d.m with fs:=l.map λt=>⟨t,[],[]⟩}}else
 if p=4 then put (zG Ce 4 b 0) λl=>{d with m:={d.m with tbs:=l}}else
 if p=5 then put (zG yl 2 b 0) λl=>{d with m:={d.m with ms:=l}}else
 if p=6 then put (zG gGd 32 b 0) λl=>{d with m:={d.m with gs:=l}}else
 if p=7 then put (zG gEx 64 b 0) λl=>{d with m:={d.m with exs:=l}}else
 if p=8 then put (Vu b 0) λn=>{d with m:={d.m with hs:=true,st:=n}}else
 if p=9 then put (zG gEl 16 b 0) λl=>{d with m:={d.m with els:=l}}else
 if p=10 then put (Vu b 0) λn=>{d with data:=n}else
 if p=11 then put (zG gCd 64 b 0) λl=>{d with codes:=l.length,m:={d.m with fs:=(d.m.fs.zipIdx).map λx=>if x.2<l.length then⟨x.1.t,(ac l x.2).1,(ac l x.2).2⟩else x.1}}else
 put (zG gDa 16 b 0) λl=>{d with m:={d.m with ds:=l}}
