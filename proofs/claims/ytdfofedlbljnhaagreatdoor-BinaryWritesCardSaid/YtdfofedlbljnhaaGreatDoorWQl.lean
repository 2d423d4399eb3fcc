import Derived.Test.YtdfofedlbljnhaaGreatDoorWQk
set_option linter.all false
set_option maxRecDepth 100000
set_option maxHeartbeats 40000000
namespace Go.Proofs.YtdfofedlbljnhaaGreatDoor
section
open Go Go.Mw
attribute[local go_sem] afI
def Qd:aX pg BG [] [] sb (λr' σ'=>r' = .ms 24 3 0 23/\σ'=[(24,⟨373,3,Bw.map Fo,false⟩)]):=by
 refine bT sO ?_;simp only[go_sem,sO];exact done [] _ [(24,⟨373,3,Bw.map Fo,false⟩)] (by rfl) (by simp only[go_sem];rfl) rfl ⟨rfl,rfl⟩
def Us:ac pg Dj [] (.sl 3 (Cw.map Fo)):=by
 refine aD uo ?_;simp only[go_sem,uo];exact aq [24] (by rfl) rfl
def ago:ac pg J6 [] (.sl 3 (abc.map Fo)):=by
 refine aD AQ ?_;simp only[go_sem,AQ];exact aq [14] (by rfl) rfl
def OD(s:List UInt8):List AV:=[.str s]
def aiW(s:List UInt8):OD s=[.str s]:=rfl
attribute[go_sem] aiW
def DU:ac pg Ap [] (.sl 1 (Lw.map OD)):=by
 refine aD qI ?_;simp only[go_sem,qI];exact aq [1] (by rfl) rfl
def UD:ac pg HM [] (.sl 1 (MY.map OD)):=by
 refine aD yN ?_;simp only[go_sem,yN];exact aq [1] (by rfl) rfl
def Ie(f:Int)(t:List UInt8):∀(l:List (List UInt8))(k:Nat),(num f t k l).length=l.length
 | [],_=>rfl
 | _::l,k=>by simp[num,Ie f t l]
def N3(f:Int)(t:List UInt8):∀(l:List (List UInt8))(k j:Nat),j<l.length->(num f t k l)[j]?=some ⟨f+((k+j:Nat):Int),t++[46]++ah l j,0⟩
 | [],_,j,hj=>by simp at hj
 | s::l,k,0,_=>rfl
 | s::l,k,j+1,hj=>by
  have:=N3 f t l (k+1) j (by simpa using hj);simp only[num,IN];rw[this,show k+1+j=k+(j+1)by omega];rfl
def TV{f:Int}{t:List UInt8}{l:List (List UInt8)}{j:Nat}(hj:j<l.length):(num f t 0 l).take (j+1)=(num f t 0 l).take j++[⟨f+(j:Int),t++[46]++ah l j,0⟩]:=by
 rw[Eu,N3 f t l 0 j hj,Et,AJ]
def oC(f:Int)(t:List UInt8)(l:List (List UInt8))(hf:0<=f/\f<1000000)(ht:t.length<1000)(hl:l.length<1000)(hs:∀s∈l,s.length<1000):ac pg dI [.int .i64 f,.str t,.sl 1 (l.map OD)] (.sl 3 ((num f t 0 l).map Fo)):=by
 refine aD sP ?_;simp only[go_sem,sP];refine an (λi:Nat=>⟨[(7,.ms 900 3 0 i),(8,.int .i64 i),(0,.int .i64 f),(1,.str t),(2,.sl 1 (l.map OD))],[(900,⟨373,3,((num f t 0 l).take i).map Fo,false⟩)]⟩) (λi=>i<=l.length) (λi=>l.length-i) 0 (cQ _) ((Wk.nil _ 7 900 3 373 (by simp only[go_sem]) (.inl (by decide))).trans (Wk.of ?_ ?_)) ?_
 .simp only[go_sem,St.mknil];try simp[go_sem]
 .simp only[go_sem,St.mknil];try simp[go_sem]
 intro i hi;have e8:=wi (n:=(i:Int)+1) (by omega) (by omega);by_cases h1:(i:Int)<(l.length:Int)
 .have hi':i<l.length:=by omega
  have hsi:=hs (ah l i) (by rw[bD hi'];exact na _);have e9:=wi (n:=f+(i:Int)) (by omega) (by omega);have hlen:((num f t 0 l).take i).length=i:=by rw[pA,Ie];omega
  have happ:=λys=>bX 900 373 3 i Fo ((num f t 0 l).take i) ys hlen;simp only[go_sem,aL h1,happ,e9];refine⟨by omega,by omega,h1,by simp;omega,by omega,aE (i+1) (by omega) (show l.length-(i+1)<l.length-i by omega) (Wk.of ?_ ?_)⟩
  .simp only[go_sem,e8]
   try simp
  .simp only[go_sem];rw[TV hi',kr];rfl
 .obtain rfl:i=l.length:=by omega
  simp only[go_sem,aM h1];have hlen:=Ie f t l 0;rw[dQ (by omega)];refine aq [900] ?_ rfl;simp only[go_sem,cU,hlen,bG];rw[dQ (by rw[cU];omega)]
def EJ:List Oc:=num 69 [105,51,50] 0 Lw
def G7:List Oc:=num 80 [105,54,52] 0 Lw
def K0:List Oc:=num 103 [105,51,50] 0 MY
def MX:List Oc:=num 121 [105,54,52] 0 MY
def wrp:List Oc:=[⟨167,[105,51,50,46,119,114,97,112,95,105,54,52],0⟩,⟨172,[105,54,52,46,101,120,116,101,110,100,95,105,51,50,95,115],0⟩,⟨173,[105,54,52,46,101,120,116,101,110,100,95,105,51,50,95,117],0⟩]
def R6:List (List UInt8):=[[101,120,116,101,110,100,56,95,115],[101,120,116,101,110,100,49,54,95,115]]
def WA:List (List UInt8):=[[101,120,116,101,110,100,56,95,115],[101,120,116,101,110,100,49,54,95,115],[101,120,116,101,110,100,51,50,95,115]]
def R8:List Oc:=num 192 [105,51,50] 0 R6
def WB:List Oc:=num 194 [105,54,52] 0 WA
def QO:((((((((Bw++Cw)++EJ)++G7)++K0)++MX)++wrp)++R8)++WB)++abc=OC:=by rfl
def YH:ac pg HL [] (.sl 3 (OC.map Fo)):=by
 refine aD yM ?_;have ap:=λ(L:List Oc)(n:Nat)(h:L.length=n) ys=>bX 901 373 3 n Fo L ys h;have n1:ac pg dI [.int .i64 69,.str [105,51,50],.sl 1 (Lw.map OD)] (.sl 3 (EJ.map Fo)):=oC 69 [105,51,50] Lw (by decide) (by decide) (by decide) (by decide +kernel);have n2:ac pg dI [.int .i64 80,.str [105,54,52],.sl 1 (Lw.map OD)] (.sl 3 (G7.map Fo)):=oC 80 [105,54,52] Lw (by decide) (by decide) (by decide) (by decide +kernel);have n3:ac pg dI [.int .i64 103,.str [105,51,50],.sl 1 (MY.map OD)] (.sl 3 (K0.map Fo)):=oC 103 [105,51,50] MY (by decide) (by decide) (by decide) (by decide +kernel);have n4:ac pg dI [.int .i64 121,.str [105,54,52],.sl 1 (MY.map OD)] (.sl 3 (MX.map Fo)):=oC 121 [105,54,52] MY (by decide) (by decide) (by decide) (by decide +kernel);have n5:ac pg dI [.int .i64 192,.str [105,51,50],.sl 1 (R6.map OD)] (.sl 3 (R8.map Fo)):=oC 192 [105,51,50] R6 (by decide) (by decide) (by decide) (by decide +kernel);have n6:ac pg dI [.int .i64 194,.str [105,54,52],.sl 1 (WA.map OD)] (.sl 3 (WB.map Fo)):=oC 194 [105,54,52] WA (by decide) (by decide) (by decide) (by decide +kernel);have e1:(R6.map OD)=[[.str [101,120,116,101,110,100,56,95,115]],[.str [101,120,116,101,110,100,49,54,95,115]]]:=rfl;have e2:(WA.map OD)=[[.str [101,120,116,101,110,100,56,95,115]],[.str [101,120,116,101,110,100,49,54,95,115]],[.str [101,120,116,101,110,100,51,50,95,115]]]:=rfl;rw[e1]at n5;rw[e2]at n6;have ew:[[AV.int .i64 167,.str [105,51,50,46,119,114,97,112,95,105,54,52],.int .i64 0],[.int .i64 172,.str [105,54,52,46,101,120,116,101,110,100,95,105,51,50,95,115],.int .i64 0],[.int .i64 173,.str [105,54,52,46,101,120,116,101,110,100,95,105,51,50,95,117],.int .i64 0]]=wrp.map Fo:=rfl;simp only[go_sem,yM];refine FJ Qd rfl (by simp) 901 (by decide) (by simp only[go_sem]) ?_;simp only[go_sem];refine aj (Us) ?_;have la:Cw.length=23:=rfl;have l1:EJ.length=11:=rfl;have l2:G7.length=11:=rfl;have l3:K0.length=18:=rfl;have l4:MX.length=18:=rfl;have lw:wrp.length=3:=rfl;have l5:R8.length=2:=rfl;have l6:WB.length=3:=rfl;have le:abc.length=13:=rfl;simp only[go_sem,ap Bw 23 rfl,<-kr,cU,la,true_and];refine aa (DU) ?_;refine aj (n1) ?_;simp only[go_sem,ap (Bw++Cw) 46 rfl,<-kr,cU,l1,true_and];refine aa (DU) ?_;refine aj (n2) ?_;simp only[go_sem,ap ((Bw++Cw)++EJ) 57 rfl,<-kr,cU,l2,true_and];refine aa (UD) ?_;refine aj (n3) ?_;simp only[go_sem,ap (((Bw++Cw)++EJ)++G7) 68 rfl,<-kr,cU,l3,true_and];refine aa (UD) ?_;refine aj (n4) ?_;have er:Mx 3 0 3 (some ⟨373,3,wrp.map Fo,false⟩)=some (wrp.map Fo):=rfl;have es1:[[AV.str [101,120,116,101,110,100,56,95,115]],[.str [101,120,116,101,110,100,49,54,95,115]]]=R6.map OD:=rfl;simp only[go_sem,ap ((((Bw++Cw)++EJ)++G7)++K0) 86 rfl,ap (((((Bw++Cw)++EJ)++G7)++K0)++MX) 104 rfl,ew,er,<-kr,cU,l4,lw,true_and];refine oU [28] ?_ n5 (by simp[go_sem]) ?_
 .simp only[go_sem,bG]
 simp only[go_sem,ap ((((((Bw++Cw)++EJ)++G7)++K0)++MX)++wrp) 107 rfl,<-kr,cU,l5,true_and];refine oU [32] ?_ n6 (by simp[go_sem]) ?_
 .simp only[go_sem,bG]
 simp only[go_sem,ap (((((((Bw++Cw)++EJ)++G7)++K0)++MX)++wrp)++R8) 109 rfl,<-kr,cU,l6,true_and];refine aj (ago) ?_;simp only[go_sem,ap ((((((((Bw++Cw)++EJ)++G7)++K0)++MX)++wrp)++R8)++WB) 112 rfl,<-kr,cU,le,true_and,QO];refine aq [901] ?_ rfl;have lo:OC.length=125:=rfl;simp only[go_sem,cU,lo,bG];rw[dQ (by rw[cU];exact bG _)]
end
section
open Go Go.Mw
def Nx{α:Type}[Inhabited α]{f:α->Bool}:∀{l:List α}{i:Nat},i<l.length->(∀k,k<i->f (ah l k)=false)->f (ah l i)=true->l.find? f=some (ah l i)
 | [],i,h,_,_=>by simp at h
 | a::l,0,_,_,h=>by
  have h':f a=true:=h;rw[List.find?_cons_of_pos h'];rfl
 | a::l,i+1,hi,hk,h=>by
  have h0:f a=false:=hk 0 (by omega);rw[List.find?_cons_of_neg (by rw[h0];decide)];exact Nx (l:=l) (by simpa using hi) (λk hk2=>hk (k+1) (by omega)) h
def WC{α:Type}[Inhabited α]{f:α->Bool}{l:List α}(h:∀k,k<l.length->f (ah l k)=false):l.find? f=none:=by
 rw[List.find?_eq_none];intro x hx;obtain⟨k,hk,rfl⟩:=List.mem_iff_getElem.1 hx;have:=h k hk;rw[bD hk]at this;rw[this];decide
def tw(op:Int):Option Oc:=OC.find? (λo=>o.op==op)
def rNm(op:Int):List UInt8:=((tw op).getD default).nm
def qu(op:Int):Int:=((tw op).getD default).im
def x7(op:Int):Bool:=(tw op).isSome
def aaq:OC.length=125:=rfl
attribute[local go_sem] afI
def Of(op:Int):ac pg HK [.int .i64 op] (.tup [.agg (Fo ((tw op).getD default)),.bool (x7 op)]):=by
 refine aD yL ?_;have hOL:=aaq;simp only[go_sem,yL];refine aa (YH) ?_;refine an (λi:Nat=>⟨[(4,.sl 3 (OC.map Fo)),(5,.int .i64 i),(0,.int .i64 op),(2,.mp 2 3 0 0),(3,.bool false)],[(2,⟨373,3,[[.int .i64 0,.str [],.int .i64 0]],true⟩)]⟩) (λi=>i<=OC.length/\∀k,k<i->((ah OC k).op==op)=false) (λi=>OC.length-i) 0 ⟨cQ _,λk hk=>absurd hk (Nat.not_lt_zero k)⟩ (Wk.of ?_ ?_) ?_
 .simp only[go_sem];try simp
 .simp only[go_sem]
 rintro i ⟨hi,hk⟩;have e8:=wi (n:=(i:Int)+1) (by omega) (by omega);by_cases h1:(i:Int)<(OC.length:Int)
 .have hi':i<OC.length:=by omega
  by_cases h2:(ah OC i).op=op
  .have r:tw op=some (ah OC i):=Nx hi' hk (by simpa using h2);simp only[go_sem,aL h1,be h2];refine⟨by omega,h1,by omega,h1,?_⟩;have rk:x7 op=true:=by rw[x7,r];rfl
   rw[rk,r];exact az
  .simp only[go_sem,aL h1,aw h2];refine⟨by omega,h1,aE (i+1) ⟨by omega,λk hk2=>?_⟩ (show OC.length-(i+1)<OC.length-i by omega) (Wk.of ?_ ?_)⟩
   .rcases kz k i with h4|h4
    .exact hk k h4
    .obtain rfl:k=i:=by omega
     exact aw h2
   .simp only[go_sem,e8]
    try simp
   .simp only[go_sem]
 .have r:tw op=none:=WC λk hk2=>hk k (by omega);have rk:x7 op=false:=by rw[x7,r];rfl
  simp only[go_sem,aM h1];rw[rk,r];exact ax
def YF(op:Int):ac pg E5 [.int .i64 op] (.bool (x7 op)):=by
 refine aD wY ?_;simp only[go_sem,wY];refine aa (Of op) ?_;exact az
def ZV(op:Int):ac pg L3 [.int .i64 op] (.int .i64 (qu op)):=by
 refine aD Cq ?_;simp only[go_sem,Cq];refine aa (Of op) ?_;exact ax
def Qx(s p:List UInt8):Bool:=(List.range (s.length+1)).any λi=>decide (i+p.length<=s.length)&&((s.drop i).take p.length==p)
def wR(s:List UInt8):Int:=if Qx s [100,56]=true then 1 else if Qx s [101,56]=true then 1 else if Qx s [100,49,54]=true then 2 else if Qx s [101,49,54]=true then 2 else
 if Qx s [100,51,50]=true then 4 else if Qx s [101,51,50]=true then 4 else if(s.drop 1).take 2=[51,50]then 4 else 8
def Qr(op:Int):Int:=if qu op≠17 then 0 else wR (rNm op)
def aeE(w:Int):Int:=if w=2 then 1 else if w=4 then 2 else if w=8 then 3 else 0
def free(op:Int):Bool:=op==1||(op==2||(op==3||(op==5||op==11)))
def RO(op:Int):Int:=if free op=true then 0 else if x7 op=true then 1 else 0
end
open Go Go.Mw
def Kb{p:Int->List UInt8->Bool}(h:EN.all (λx=>p x.1 x.2)=true)(op:Int):dw op=[]\/p op (dw op)=true:=by
 unfold dw;cases hr:EN.find? (λx=>x.1==op)with
 | none=>exact .inl rfl
 | some o =>
  have h1:=fz.1 h o (List.mem_of_find?_eq_some hr);have h2:=List.find?_some hr;simp only[beq_iff_eq]at h2;rw[h2]at h1;exact .inr h1
def L6(op:Int):(dw op).length<1000:=by
 rcases Kb (p:=λ_ s=>decide (s.length<1000)) (by decide +kernel) op with h|h
 .rw[h];decide
 .exact of_decide_eq_true h
def Zn(op:Int):Bool:=decide (op>=40)&&(decide (op<=62) && !(dw op==[]))
def VU(op:Int)(h:Zn op=true):5<=(dw op).length:=by
 simp only[Zn,cE,eQ,sz,iS,ne_eq]at h;rcases Kb (p:=λk s=>decide (40<=k->k<=62->5<=s.length)) (by decide +kernel) op with h1|h1
 .exact absurd h1 h.2.2
 .exact(of_decide_eq_true h1) h.1 h.2.1
def zA(op:Int):ac pg De [.int .i64 op] (.bool (!(dw op==[]))):=by
 refine aD uh ?_;simp only[go_sem,uh];refine aa (Om op) ?_;exact az
def hpf(s p:List UInt8):Bool:=decide (p.length<=s.length)&&(s.take p.length==p)
def UQ(op:Int):ac pg BD [.int .i64 op] (.bool (Zn op)):=by
 refine aD ja ?_;unfold Zn;by_cases h1:op>=40
 .by_cases h2:op<=62
  .simp only[go_sem,ja,aL h1,aL h2,bW];refine aa (zA op) ?_;exact az
  .simp only[go_sem,ja,aL h1,aM h2,bW,dR];exact az
 .simp only[go_sem,ja,aM h1,dR];exact az
def wNm(s:List UInt8):Int:=if Lib.contains (s.drop 4) [56]=true then 1 else if Lib.contains (s.drop 4) [49,54]=true then 2 else if Lib.contains (s.drop 4) [51,50]=true then 4 else if s.take 3=[105,51,50]then 4 else 8
def zI(op:Int):Int:=if Zn op=true then wNm (dw op)else 0
def UY(op:Int):ac pg Df [.int .i64 op] (.int .i64 (zI op)):=by
 refine aD uj ?_;simp only[go_sem,uj];refine aj (UQ op) ?_;cases hac:Zn op
 .have r:zI op=0:=by rw[zI,hac];rfl
  rw[r];simp only[go_sem];exact ax
 .have r:zI op=wNm (dw op):=by rw[zI,hac];rfl
  have hl:=L6 op;have hl2:=VU op hac;rw[r];simp only[go_sem];refine aa (Om op) ?_;generalize dw op=s at hl hl2;obtain⟨Inv,hInv⟩:∃Inv:Nat->Prop,Inv=λi=>i<=3/\(0<i->Lib.contains (s.drop 4) [56]=false)/\(1<i->Lib.contains (s.drop 4) [49,54]=false)/\(2<i->Lib.contains (s.drop 4) [51,50]=false):=⟨_,rfl⟩
  refine an (λi:Nat=>⟨[(11,.ms 11 1 0 3),(12,.int .i64 3),(13,.int .i64 i),(3,.str s),(2,.int .i64 0)],[(11,⟨3,1,[[.int .i64 8],[.int .i64 16],[.int .i64 32]],false⟩)]⟩) Inv (λi=>3-i) 0 (by rw[hInv];exact⟨by decide,λh=>absurd h (by decide),λh=>absurd h (by decide),λh=>absurd h (by decide)⟩) (Wk.of ?_ ?_) ?_
  .simp only[go_sem];try simp
  .simp only[go_sem];try simp
  intro i hInv1;rw[hInv]at hInv1;obtain⟨hi,h1,h2,h3⟩:=hInv1;have hd:(s.drop 4).length<4294967281:=by simp;omega
  have e4:(s.drop 4).take (s.length-4)=s.drop 4:=dQ (by simp);have hl4:4<=s.length:=by omega
  have c0:((0:Nat):Int)=0:=rfl;have c1:((1:Nat):Int)=1:=rfl;have c2:((2:Nat):Int)=2:=rfl;have c3:((3:Nat):Int)=3:=rfl;have ld:∀k:Nat,Xs none 1 k 0 (some ⟨3,1,[[.int .i64 8],[.int .i64 16],[.int .i64 32]],false⟩)=(match k with|0=>some (.int .i64 8)|1=>some (.int .i64 16)|2=>some (.int .i64 32)|_=>none):=λk=>by
   rcases k with _|_|_|k<;>rfl
  have ls:∀k:Nat,Xs none 1 k 0 (some ⟨9,1,[[.str [56]],[.str [49,54]],[.str [51,50]]],false⟩)=(match k with|0=>some (.str [56])|1=>some (.str [49,54])|2=>some (.str [51,50])|_=>none):=λk=>by
   rcases k with _|_|_|k<;>rfl
  have q0:IntKind.i64.wrap ((8:Int).tdiv 16)=0:=by decide
  have q1:IntKind.i64.wrap ((16:Int).tdiv 16)=1:=by decide
  have q2:IntKind.i64.wrap ((32:Int).tdiv 16)=2:=by decide
  have p0:IntKind.i64.wrap ((8:Int).tdiv 8)=1:=by decide
  have p1:IntKind.i64.wrap ((16:Int).tdiv 8)=2:=by decide
  have p2:IntKind.i64.wrap ((32:Int).tdiv 8)=4:=by decide
  have s0:IntKind.i64.wrap ((0:Int)+1)=1:=by decide
  have s1:IntKind.i64.wrap ((1:Int)+1)=2:=by decide
  have s2:IntKind.i64.wrap ((2:Int)+1)=3:=by decide
  have t0:(0:Int).toNat=0:=rfl;have t1:(1:Int).toNat=1:=rfl;have t2:(2:Int).toNat=2:=rfl;unfold wNm;rcases(show i=0\/i=1\/i=2\/i=3 by omega)with rfl|rfl|rfl|rfl
  .simp only[go_sem,hl4,e4,c0,c1,c2,c3,aL (show(0:Int)<3 by decide),ld,ls,q0,q1,q2,t0,t1,t2];refine⟨⟨by decide,by decide⟩,⟨by decide,by omega⟩,by decide,⟨by decide,by decide⟩,?_⟩;refine aj (x_ (s.drop 4) [56] hd) ?_;cases hc:Lib.contains (s.drop 4) [56]
   .simp only[go_sem];refine aE 1 (by rw[hInv];exact⟨by decide,λ_=>hc,λh=>absurd h (by decide),λh=>absurd h (by decide)⟩) (show 3-1<3-0 by decide) (Wk.of ?_ ?_)
    .simp only[go_sem,s0,s1,s2,c0,c1,c2,c3]
     try simp
    .simp only[go_sem]
   .simp only[go_sem,p0,p1,p2];exact⟨by decide,by exact ax⟩
  .rw[h1 (by decide)];simp only[go_sem,hl4,e4,c0,c1,c2,c3,aL (show(1:Int)<3 by decide),ld,ls,q0,q1,q2,t0,t1,t2];refine⟨⟨by decide,by decide⟩,⟨by decide,by omega⟩,by decide,⟨by decide,by decide⟩,?_⟩;refine aj (x_ (s.drop 4) [49,54] hd) ?_;cases hc:Lib.contains (s.drop 4) [49,54]
   .simp only[go_sem];refine aE 2 (by rw[hInv];exact⟨by decide,λ_=>h1 (by decide),λ_=>hc,λh=>absurd h (by decide)⟩) (show 3-2<3-1 by decide) (Wk.of ?_ ?_)
    .simp only[go_sem,s0,s1,s2,c0,c1,c2,c3]
     try simp
    .simp only[go_sem]
   .simp only[go_sem,p0,p1,p2];exact⟨by decide,by exact ax⟩
  .rw[h1 (by decide)];rw[h2 (by decide)];simp only[go_sem,hl4,e4,c0,c1,c2,c3,aL (show(2:Int)<3 by decide),ld,ls,q0,q1,q2,t0,t1,t2];refine⟨⟨by decide,by decide⟩,⟨by decide,by omega⟩,by decide,⟨by decide,by decide⟩,?_⟩;refine aj (x_ (s.drop 4) [51,50] hd) ?_;cases hc:Lib.contains (s.drop 4) [51,50]
   .simp only[go_sem];refine aE 3 (by rw[hInv];exact⟨by decide,λ_=>h1 (by decide),λ_=>h2 (by decide),λ_=>hc⟩) (show 3-3<3-2 by decide) (Wk.of ?_ ?_)
    .simp only[go_sem,s0,s1,s2,c0,c1,c2,c3]
     try simp
    .simp only[go_sem]
   .simp only[go_sem,p0,p1,p2];exact⟨by decide,by exact ax⟩
  .rw[h1 (by decide),h2 (by decide),h3 (by decide)];have e5:((3:Int)).toNat=3:=rfl;simp only[go_sem,c3,aM (show ¬(3:Int)<3 by decide),M8,e5];refine⟨by omega,λh=>?_,λh=>?_⟩
   .rw[aF (by simpa using h)];exact ax
   .rw[au (by simpa using h)];exact ax
def aeD(w:Int):Int:=if w=1 then 0 else if w=2 then 1 else if w=4 then 2 else if w=8 then 3 else 0
def adw:List (Int×Int):=[(37,9),(38,9),(64528,9),(64527,9),(64529,9),(64526,10),(64524,11),(64525,12),(63,13),(64,13),(64523,13),(64522,14),(64520,15),(64521,16)]
def MU(op:Int):Int:=match adw.find? (λp=>p.1==op)with
 | some p=>p.2
 | none=>0
def Qn(op:Int):ac pg BE [.int .i64 op] (.int .i64 (MU op)):=by
 refine aD bz ?_;by_cases h0:op=37
 .subst h0;simp only[go_sem,bz];exact ax
 by_cases h1:op=38
 .subst h1;simp only[go_sem,bz];exact ax
 by_cases h2:op=64528
 .subst h2;simp only[go_sem,bz];exact ax
 by_cases h3:op=64527
 .subst h3;simp only[go_sem,bz];exact ax
 by_cases h4:op=64529
 .subst h4;simp only[go_sem,bz];exact ax
 by_cases h5:op=64526
 .subst h5;simp only[go_sem,bz];exact ax
 by_cases h6:op=64524
 .subst h6;simp only[go_sem,bz];exact ax
 by_cases h7:op=64525
 .subst h7;simp only[go_sem,bz];exact ax
 by_cases h8:op=63
 .subst h8;simp only[go_sem,bz];exact ax
 by_cases h9:op=64
 .subst h9;simp only[go_sem,bz];exact ax
 by_cases h10:op=64523
 .subst h10;simp only[go_sem,bz];exact ax
 by_cases h11:op=64522
 .subst h11;simp only[go_sem,bz];exact ax
 by_cases h12:op=64520
 .subst h12;simp only[go_sem,bz];exact ax
 by_cases h13:op=64521
 .subst h13;simp only[go_sem,bz];exact ax
 have r:MU op=0:=by
  simp only[MU,adw,List.find?_cons,List.find?_nil,aw (λe:(37:Int)=op=>h0 e.symm),aw (λe:(38:Int)=op=>h1 e.symm),aw (λe:(64528:Int)=op=>h2 e.symm),aw (λe:(64527:Int)=op=>h3 e.symm),aw (λe:(64529:Int)=op=>h4 e.symm),aw (λe:(64526:Int)=op=>h5 e.symm),aw (λe:(64524:Int)=op=>h6 e.symm),aw (λe:(64525:Int)=op=>h7 e.symm),aw (λe:(63:Int)=op=>h8 e.symm),aw (λe:(64:Int)=op=>h9 e.symm),aw (λe:(64523:Int)=op=>h10 e.symm),aw (λe:(64522:Int)=op=>h11 e.symm),aw (λe:(64520:Int)=op=>h12 e.symm),aw (λe:(64521:Int)=op=>h13 e.symm)]
 rw[r];simp only[go_sem,bz,aw h0,aw h1,aw h2,aw h3,aw h4,aw h5,aw h6,aw h7,aw h8,aw h9,aw h10,aw h11,aw h12,aw h13];exact ax
def abD:List (Int×Int):=[(2,1),(3,1),(4,1),(12,2),(13,2),(14,3),(16,4),(210,4),(17,5),(28,6),(32,7),(33,7),(34,7),(35,8),(36,8),(65,18),(66,19),(208,20)]
def JH(op:Int):Int:=match abD.find? (λp=>p.1==op)with
 | some p=>p.2
 | none=>if zI op>0 then 17 else MU op
def UV(op:Int):ac pg J5 [.int .i64 op] (.int .i64 (JH op)):=by
 refine aD bM ?_;by_cases h0:op=2
 .subst h0;simp only[go_sem,bM];exact ax
 by_cases h1:op=3
 .subst h1;simp only[go_sem,bM];exact ax
 by_cases h2:op=4
 .subst h2;simp only[go_sem,bM];exact ax
 by_cases h3:op=12
 .subst h3;simp only[go_sem,bM];exact ax
 by_cases h4:op=13
 .subst h4;simp only[go_sem,bM];exact ax
 by_cases h5:op=14
 .subst h5;simp only[go_sem,bM];exact ax
 by_cases h6:op=16
 .subst h6;simp only[go_sem,bM];exact ax
 by_cases h7:op=210
 .subst h7;simp only[go_sem,bM];exact ax
 by_cases h8:op=17
 .subst h8;simp only[go_sem,bM];exact ax
 by_cases h9:op=28
 .subst h9;simp only[go_sem,bM];exact ax
 by_cases h10:op=32
 .subst h10;simp only[go_sem,bM];exact ax
 by_cases h11:op=33
 .subst h11;simp only[go_sem,bM];exact ax
 by_cases h12:op=34
 .subst h12;simp only[go_sem,bM];exact ax
 by_cases h13:op=35
 .subst h13;simp only[go_sem,bM];exact ax
 by_cases h14:op=36
 .subst h14;simp only[go_sem,bM];exact ax
 by_cases h15:op=65
 .subst h15;simp only[go_sem,bM];exact ax
 by_cases h16:op=66
 .subst h16;simp only[go_sem,bM];exact ax
 by_cases h17:op=208
 .subst h17;simp only[go_sem,bM];exact ax
 have r:JH op=if zI op>0 then 17 else MU op:=by
  simp only[JH,abD,List.find?_cons,List.find?_nil,aw (λe:(2:Int)=op=>h0 e.symm),aw (λe:(3:Int)=op=>h1 e.symm),aw (λe:(4:Int)=op=>h2 e.symm),aw (λe:(12:Int)=op=>h3 e.symm),aw (λe:(13:Int)=op=>h4 e.symm),aw (λe:(14:Int)=op=>h5 e.symm),aw (λe:(16:Int)=op=>h6 e.symm),aw (λe:(210:Int)=op=>h7 e.symm),aw (λe:(17:Int)=op=>h8 e.symm),aw (λe:(28:Int)=op=>h9 e.symm),aw (λe:(32:Int)=op=>h10 e.symm),aw (λe:(33:Int)=op=>h11 e.symm),aw (λe:(34:Int)=op=>h12 e.symm),aw (λe:(35:Int)=op=>h13 e.symm),aw (λe:(36:Int)=op=>h14 e.symm),aw (λe:(65:Int)=op=>h15 e.symm),aw (λe:(66:Int)=op=>h16 e.symm),aw (λe:(208:Int)=op=>h17 e.symm)]
 rw[r];simp only[go_sem,bM,aw h0,aw h1,aw h2,aw h3,aw h4,aw h5,aw h6,aw h7,aw h8,aw h9,aw h10,aw h11,aw h12,aw h13,aw h14,aw h15,aw h16,aw h17];refine aj (UY op) ?_;by_cases hw:zI op>0
 .simp only[go_sem,aL hw,aF hw];exact ax
 .simp only[go_sem,aM hw,au hw];refine aa (Qn op) ?_;exact ax
def RN(op:Int):Int:=if free op=true then 0 else if dw op=[]then 0 else 1
def adI:List (Int×Bool×Bool×Bool):=[(2,true,false,false),(3,true,false,false),(4,true,false,false),(7,true,false,false),(8,true,false,false),(9,true,false,false),(12,true,false,false),(16,true,false,false),(20,true,false,false),(5,true,true,false),(10,true,true,false),(11,true,true,false),(14,true,true,false),(15,true,true,false),(13,false,true,false),(17,true,true,true),(18,false,false,true),(19,false,false,true)]
def K2(i:Int):Bool×Bool×Bool:=match adI.find? (λp=>p.1==i)with
 | some p=>p.2
 | none=>(false,false,false)
def adc(i:Int):ac pg E0 [.int .i64 i] (.tup [.bool (K2 i).1,.bool (K2 i).2.1,.bool (K2 i).2.2]):=by
 refine aD bt ?_;by_cases h0:i=2
 .subst h0;simp only[go_sem,bt];exact ax
 by_cases h1:i=3
 .subst h1;simp only[go_sem,bt];exact ax
 by_cases h2:i=4
 .subst h2;simp only[go_sem,bt];exact ax
 by_cases h3:i=7
 .subst h3;simp only[go_sem,bt];exact ax
 by_cases h4:i=8
 .subst h4;simp only[go_sem,bt];exact ax
 by_cases h5:i=9
 .subst h5;simp only[go_sem,bt];exact ax
 by_cases h6:i=12
 .subst h6;simp only[go_sem,bt];exact ax
 by_cases h7:i=16
 .subst h7;simp only[go_sem,bt];exact ax
 by_cases h8:i=20
 .subst h8;simp only[go_sem,bt];exact ax
 by_cases h9:i=5
 .subst h9;simp only[go_sem,bt];exact ax
 by_cases h10:i=10
 .subst h10;simp only[go_sem,bt];exact ax
 by_cases h11:i=11
 .subst h11;simp only[go_sem,bt];exact ax
 by_cases h12:i=14
 .subst h12;simp only[go_sem,bt];exact ax
 by_cases h13:i=15
 .subst h13;simp only[go_sem,bt];exact ax
 by_cases h14:i=13
 .subst h14;simp only[go_sem,bt];exact ax
 by_cases h15:i=17
 .subst h15;simp only[go_sem,bt];exact ax
 by_cases h16:i=18
 .subst h16;simp only[go_sem,bt];exact ax
 by_cases h17:i=19
 .subst h17;simp only[go_sem,bt];exact ax
 have r:K2 i=(false,false,false):=by
  simp only[K2,adI,List.find?_cons,List.find?_nil,aw (λe:(2:Int)=i=>h0 e.symm),aw (λe:(3:Int)=i=>h1 e.symm),aw (λe:(4:Int)=i=>h2 e.symm),aw (λe:(7:Int)=i=>h3 e.symm),aw (λe:(8:Int)=i=>h4 e.symm),aw (λe:(9:Int)=i=>h5 e.symm),aw (λe:(12:Int)=i=>h6 e.symm),aw (λe:(16:Int)=i=>h7 e.symm),aw (λe:(20:Int)=i=>h8 e.symm),aw (λe:(5:Int)=i=>h9 e.symm),aw (λe:(10:Int)=i=>h10 e.symm),aw (λe:(11:Int)=i=>h11 e.symm),aw (λe:(14:Int)=i=>h12 e.symm),aw (λe:(15:Int)=i=>h13 e.symm),aw (λe:(13:Int)=i=>h14 e.symm),aw (λe:(17:Int)=i=>h15 e.symm),aw (λe:(18:Int)=i=>h16 e.symm),aw (λe:(19:Int)=i=>h17 e.symm)]
 rw[r];simp only[go_sem,bt,aw h0,aw h1,aw h2,aw h3,aw h4,aw h5,aw h6,aw h7,aw h8,aw h9,aw h10,aw h11,aw h12,aw h13,aw h14,aw h15,aw h16,aw h17];exact ax
def YS(n:Int):ac pg ve [.int .i64 n] (.bool (decide (n>=0)&&decide (n<4294967296))):=by
 refine aD oO ?_;by_cases h:n>=0
 .simp only[go_sem,oO,aL h,bW];exact az
 .simp only[go_sem,oO,aM h,dR];exact az
section
def ik(n:Int):Bool:=decide (n>=0)&&decide (n<4294967296)
def yF(n:Int):Bool:=decide (n>=1)&&decide (n<=4)
def Lb(k v z:Int):Bool:=if k=0 then(v==0)&&(z==0)else if k=1 then yF v&&(z==0)else if k=2 then(v==0)&&ik z else false
def YT(n:Int):ac pg ve [.int .i64 n] (.bool (ik n)):=YS n
attribute[local go_sem] dm cU
def YD(n:Int):ac pg E7 [.int .i64 n] (.bool (ik n)):=by
 refine aD qf ?_;unfold ik;by_cases h:n>=0
 .simp only[go_sem,qf,aL h,bW];exact az
 .simp only[go_sem,qf,aM h,dR];exact az
def agN(n:Int):ac pg HF [.int .i64 n] (.bool (yF n)):=by
 refine aD rY ?_;unfold yF;by_cases h:n>=1
 .simp only[go_sem,rY,aL h,bW];exact az
 .simp only[go_sem,rY,aM h,dR];exact az
def agw(n:Int):ac pg J7 [.int .i64 n] (.bool (yF n)):=by
 refine aD uq ?_;unfold yF;by_cases h:n>=1
 .simp only[go_sem,uq,aL h,bW];exact az
 .simp only[go_sem,uq,aM h,dR];exact az
def nt_{a b:Int}(h:(a != b)=true):(a==b)=false:=by simpa using h
def nf_{a b:Int}(h:(a != b)=false):(a==b)=true:=by simpa using h
def nb_{b:Bool}(h:(!b)=true):b=false:=by cases b<;>first|rfl|cases h
def nc_{b:Bool}(h:(!b)=false):b=true:=by cases b<;>first|rfl|cases h
def UR(k v z:Int):ac pg Dg [.agg [.int .i64 k,.int .i64 v,.int .i64 z]] (.bool (Lb k v z)):=by
 refine aD gJ ?_;unfold Lb;by_cases h0:k=0
 .subst h0;rw[aF rfl];simp only[go_sem,gJ];exact ax
 by_cases h1:k=1
 .subst h1;rw[au h0,aF rfl];simp only[go_sem,gJ];refine aj (agN v) ?_;cases yF v
  .simp only[go_sem];exact ax
  .simp only[go_sem];exact ax
 by_cases h2:k=2
 .subst h2;rw[au h0,au h1,aF rfl];simp only[go_sem,gJ];refine⟨λh=>?_,λh=>?_⟩
  .refine aj (YT z) ?_;rw[h];simp only[go_sem];exact ax
  .rw[h];exact ax
 rw[au h0,au h1,au h2];simp only[go_sem,gJ,aw h0,aw h1,aw h2];exact ax
def Ut(k v z:Int):ac pg E6 [.agg [.int .i64 k,.int .i64 v,.int .i64 z]] (.bool (Lb k v z)):=by
 refine aD iX ?_;unfold Lb;by_cases h0:k=0
 .subst h0;rw[aF rfl];simp only[go_sem,iX];refine⟨λh=>?_,λh=>?_⟩
  .rw[h];exact ax
  .rw[h];exact ax
 by_cases h1:k=1
 .subst h1;rw[au h0,aF rfl];simp only[go_sem,iX];refine aj (agw v) ?_;cases yF v
  .simp only[go_sem];exact ax
  .simp only[go_sem];exact ax
 by_cases h2:k=2
 .subst h2;rw[au h0,au h1,aF rfl];simp only[go_sem,iX];refine⟨λh=>?_,λh=>?_⟩
  .refine aj (YD z) ?_;rw[h];simp only[go_sem];exact ax
  .rw[h];exact ax
 rw[au h0,au h1,au h2];simp only[go_sem,iX,aw h0,aw h1,aw h2];exact ax
def Nk{f:Int->Bool}{l:List Int}(h:∀k,k<l.length->f (ah l k)=true):l.all f=true:=by
 rw[fz];intro x hx;obtain⟨k,hk,rfl⟩:=List.mem_iff_getElem.1 hx;have:=h k hk;rwa[bD hk]at this
def Nj{f:Int->Bool}{l:List Int}{k:Nat}(hk:k<l.length)(h:f (ah l k)=false):l.all f=false:=by
 rw[List.all_eq_false];exact⟨ah l k,by rw[bD hk];exact na hk,by rw[h];decide⟩
def Qf(l:List Int)(hl:l.length<=9223372036854775807):ac pg Dk [.sl 1 (l.map oE)] (.bool (l.all ik)):=by
 refine aD up ?_;simp only[go_sem,up];refine an (λi:Nat=>⟨[(0,.sl 1 (l.map oE)),(3,.int .i64 i)],[]⟩) (λi=>i<=l.length/\∀k,k<i->ik (ah l k)=true) (λi=>l.length-i) 0 ⟨cQ _,λk hk=>absurd hk (Nat.not_lt_zero k)⟩ (Wk.of ?_ ?_) ?_
 .simp only[go_sem];try simp
 .simp only[go_sem]
 rintro i ⟨hi,hk⟩;by_cases h1:(i:Int)<(l.length:Int)
 .have e8:=wi (n:=(i:Int)+1) (by omega) (by omega);simp only[go_sem,aL h1];refine⟨by omega,h1,?_⟩;refine aj (YD (ah l i)) ?_;cases h2:ik (ah l i)
  .rw[Nj (by omega) h2];simp only[go_sem];exact ax
  .simp only[go_sem];refine aE (i+1) ⟨by omega,λk hk2=>?_⟩ (show l.length-(i+1)<l.length-i by omega) (Wk.of ?_ ?_)
   .rcases kz k i with h4|h4
    .exact hk k h4
    .obtain rfl:k=i:=by omega
     exact h2
   .simp only[go_sem,e8]
    try simp
   .simp only[go_sem]
 .rw[Nk (λk hk2=>hk k (by omega))];simp only[go_sem,aM h1];exact ax
end
section
def Bz(i:Int)(x:bj):Bool :=
 if i=1 then Lb x.k x.v x.x else if i=6 then((x.ty.length:Int)==1)&&yF (ah x.ty 0)else if i=17 then decide (x.a<=63)else if i=20 then(x.a==3)||(x.a==4)else x.lb.all ik
def plP(i:Int)(kn:Bool)(u:Bool×Bool×Bool)(x:bj):Bool :=
 kn&&((u.1||(x.a==0))&&((u.2.1||(x.b==0))&&((u.2.2||(x.n==0))&&(ik x.a&&(ik x.b &&
 (((i==19) || !decide (x.n>=4294967296))&&(((i==1)||((x.k==0)&&((x.v==0)&&(x.x==0))))&&(((i==6) || !decide ((x.ty.length:Int)>0))&&(((i==3) || !decide ((x.lb.length:Int)>0))&&Bz i x)))))))))
def CL:List (Bool×Bool×Bool×Bool×Bool×Bool×Bool×Bool×Bool) :=
 [(false,false,false,true,false,false,false,false,false),
  (true,false,false,false,true,false,false,false,false),
  (false,false,false,false,false,true,false,false,false),
  (true,true,true,false,false,false,true,false,false),
  (false,false,true,false,false,false,false,true,false),
  (true,false,false,false,false,false,false,false,true),
  (true,false,false,false,false,false,false,false,false),
  (true,true,false,false,false,false,false,false,false),
  (false,true,false,false,false,false,false,false,false),
  (false,false,true,false,false,false,false,false,false),
  (false,false,false,false,false,false,false,false,false)]
def cls(i:Int)(hi:0<=i/\i<=20):((K2 i).1,(K2 i).2.1,(K2 i).2.2,(i==1),(i==3),(i==6),(i==17),(i==19),(i==20))∈CL:=by
 obtain⟨h1,h2⟩:=hi;obtain⟨n,rfl⟩:=Fw h1;have hn:n<=20:=by omega
 clear h1 h2;have:∀n:Fin 21,((K2 (n.val:Nat)).1,(K2 (n.val:Nat)).2.1,(K2 (n.val:Nat)).2.2,(((n.val:Nat):Int)==1),(((n.val:Nat):Int)==3),(((n.val:Nat):Int)==6),(((n.val:Nat):Int)==17),(((n.val:Nat):Int)==19),(((n.val:Nat):Int)==20))∈CL:=by decide +kernel
 exact this ⟨n,by omega⟩
attribute[local go_sem] dm cU cL
def KS(x:bj)(i:Int)(hi:0<=i/\i<=20)(him:JH x.op=i)(hl:x.lb.length<=9223372036854775807):ac pg cM [di x] (.bool (plP i (!(dw x.op==[])) (K2 i) x)):=by
 refine aD ui ?_;have a1:=UV x.op;rw[him]at a1;have a2:=adc i;have a3:=zA x.op;have hc:=cls i hi;unfold plP;generalize (K2 i).1=ua at hc a2;generalize (K2 i).2.1=ub at hc a2;generalize (K2 i).2.2=un at hc a2;generalize h1:(i==1)=k1 at hc;generalize h3:(i==3)=k3 at hc;generalize h6:(i==6)=k6 at hc;generalize h17:(i==17)=k17 at hc;generalize h19:(i==19)=k19 at hc;generalize h20:(i==20)=k20 at hc;simp only[CL,eA,wH,or_false,yB]at hc;rcases hc with⟨rfl,rfl,rfl,rfl,rfl,rfl,rfl,rfl,rfl⟩|⟨rfl,rfl,rfl,rfl,rfl,rfl,rfl,rfl,rfl⟩|⟨rfl,rfl,rfl,rfl,rfl,rfl,rfl,rfl,rfl⟩|⟨rfl,rfl,rfl,rfl,rfl,rfl,rfl,rfl,rfl⟩|⟨rfl,rfl,rfl,rfl,rfl,rfl,rfl,rfl,rfl⟩|⟨rfl,rfl,rfl,rfl,rfl,rfl,rfl,rfl,rfl⟩|⟨rfl,rfl,rfl,rfl,rfl,rfl,rfl,rfl,rfl⟩|⟨rfl,rfl,rfl,rfl,rfl,rfl,rfl,rfl,rfl⟩|⟨rfl,rfl,rfl,rfl,rfl,rfl,rfl,rfl,rfl⟩|⟨rfl,rfl,rfl,rfl,rfl,rfl,rfl,rfl,rfl⟩|⟨rfl,rfl,rfl,rfl,rfl,rfl,rfl,rfl,rfl⟩
 all_goals
  have d1:(i != 1) = !(i==1):=rfl;have d3:(i != 3) = !(i==3):=rfl;have d6:(i != 6) = !(i==6):=rfl;have d19:(i != 19) = !(i==19):=rfl;rw[h1]at d1;rw[h3]at d3;rw[h6]at d6;rw[h19]at d19;simp only[h1,h3,h6,h19,iT,kA,bW];simp only[go_sem,ui];refine aa (a1) ?_;refine aa (a2) ?_;refine aj (a3) ?_;cases hk:!(dw x.op==[])
  .simp only[go_sem];exact ax
  rw[bW];simp only[go_sem]
  iterate 3 (first|(refine⟨λh=>?_,λh=>?_⟩
                    .rw[nt_ h,dR];exact ax
                    rw[nf_ h,bW])|skip)
  refine aj (YT x.a) ?_;cases hA:ik x.a
  .rw[dR];simp only[go_sem];exact ax
  rw[bW];simp only[go_sem];refine aj (YT x.b) ?_;cases hB:ik x.b
  .rw[dR];simp only[go_sem];exact ax
  rw[bW];simp only[go_sem,d1,d3,d6,d19,h1,h6,h17,h20,pq,wE]
  iterate 4 (first|(refine⟨λh=>?_,λh=>?_⟩
                    ·(first|rw[aL h,pq,dR]|rw[nb_ h,dR])
                     exact ax
                    (first|rw[aM h,wE,bW]|rw[nc_ h,bW]))|skip)
 .have r:Bz i x=Lb x.k x.v x.x:=by rw[Bz,aF (eq_of_beq h1)]
  rw[r];refine aa (UR x.k x.v x.x) ?_;exact ax
 rotate_left
 .have r:Bz i x=(((x.ty.length:Int)==1)&&yF (ah x.ty 0)):=by rw[Bz,au (ne_of_beq_false h1),aF (eq_of_beq h6)]
  rw[r];refine⟨λh=>⟨by decide,?_,?_⟩,λh=>?_⟩
  .have:=eq_of_beq h;omega
  .rw[h,bW];refine aa (agN (ah x.ty 0)) ?_;exact ax
  .rw[h,dR];exact ax
 .have r:Bz i x=decide (x.a<=63):=by rw[Bz,au (ne_of_beq_false h1),au (ne_of_beq_false h6),aF (eq_of_beq h17)]
  rw[r];exact ax
 rotate_left
 .have r:Bz i x=((x.a==3)||(x.a==4)):=by rw[Bz,au (ne_of_beq_false h1),au (ne_of_beq_false h6),au (ne_of_beq_false h17),aF (eq_of_beq h20)]
  rw[r];refine⟨λh=>?_,λh=>?_⟩
  .rw[h,iT];exact ax
  .rw[h,kA];exact ax
 all_goals
  have r:Bz i x=x.lb.all ik:=by rw[Bz,au (ne_of_beq_false h1),au (ne_of_beq_false h6),au (ne_of_beq_false h17),au (ne_of_beq_false h20)]
  rw[r];refine an (λi:Nat=>⟨[(133,.sl 1 (x.lb.map oE)),(134,.int .i64 x.lb.length),(135,.int .i64 i)],[]⟩) (λi=>i<=x.lb.length/\∀k,k<i->ik (ah x.lb k)=true) (λi=>x.lb.length-i) 0 ⟨cQ _,λk hk=>absurd hk (Nat.not_lt_zero k)⟩ (Wk.of ?_ ?_) ?_
  .simp only[go_sem];try simp
  .trivial
  rintro j ⟨hj,hk⟩;by_cases q1:(j:Int)<(x.lb.length:Int)
  .have e8:=wi (n:=(j:Int)+1) (by omega) (by omega);simp only[go_sem,aL q1];refine⟨by omega,q1,?_⟩;refine aj (YT (ah x.lb j)) ?_;cases q2:ik (ah x.lb j)
   .rw[Nj (by omega) q2];simp only[go_sem];exact ax
   .simp only[go_sem];refine aE (j+1) ⟨by omega,λk hk2=>?_⟩ (show x.lb.length-(j+1)<x.lb.length-j by omega) (Wk.of ?_ ?_)
    .rcases kz k j with h4|h4
     .exact hk k h4
     .obtain rfl:k=j:=by omega
      exact q2
    .simp only[go_sem,e8]
     try simp
    .simp only[go_sem]
  .rw[Nk (λk hk2=>hk k (by omega))];simp only[go_sem,aM q1];exact ax
end
section
def KJ(i:Int)(x:bj):Bool :=
 if i=0 then(x.a==0)&&((x.b==0)&&(x.n==0))else
 if i=1 then(x.a==0)&&((x.b==0)&&((x.n==0)&&Lb x.k x.v x.x))else
 if i=3 then ik x.a&&((x.b==0)&&((x.n==0)&&x.lb.all ik))else
 if i=6 then(x.a==0)&&((x.b==0)&&((x.n==0)&&(((x.ty.length:Int)==1)&&yF (ah x.ty 0))))else
 if i=13 then(x.a==0)&&(ik x.b&&(x.n==0))else
 if i=17 then decide (x.a>=0)&&(decide (x.a<=63)&&(ik x.b&&decide (x.n<4294967296)))else
 if i=18 then(x.a==0)&&((x.b==0)&&decide (x.n<4294967296))else
 if i=19 then(x.a==0)&&(x.b==0)else
 if i=20 then((x.a==3)||(x.a==4))&&((x.b==0)&&(x.n==0))else
 if i=5\/i=10\/i=11\/i=14\/i=15 then ik x.a&&(ik x.b&&(x.n==0))else
 ik x.a&&((x.b==0)&&(x.n==0))
def Mm(i:Int)(kn:Bool)(x:bj):Bool :=
 kn&&(((i==1)||((x.k==0)&&((x.v==0)&&(x.x==0))))&&(((i==3) || !decide ((x.lb.length:Int)>0))&&(((i==6) || !decide ((x.ty.length:Int)>0))&&KJ i x)))
attribute[local go_sem] dm cU cL
def KE(x:bj)(i:Int)(hi:0<=i/\i<=20)(him:qu x.op=i)(hl:x.lb.length<=9223372036854775807):ac pg dq [di x] (.bool (Mm i (x7 x.op) x)):=by
 refine aD wZ ?_;have a1:=ZV x.op;rw[him]at a1;have a2:=YF x.op;unfold Mm;clear him;rcases(show i=0\/i=1\/i=2\/i=3\/i=4\/i=5\/i=6\/i=7\/i=8\/i=9\/i=10\/i=11\/i=12\/i=13\/i=14\/i=15\/i=16\/i=17\/i=18\/i=19\/i=20 by omega)with rfl|rfl|rfl|rfl|rfl|rfl|rfl|rfl|rfl|rfl|rfl|rfl|rfl|rfl|rfl|rfl|rfl|rfl|rfl|rfl|rfl
 all_goals
  simp only[go_sem,wZ];refine aa (a1) ?_;refine aj (a2) ?_;cases hk:x7 x.op
  .rw[dR];simp only[go_sem];exact ax
  simp only[Int.reduceBEq,iT,kA,bW];simp only[KJ,Int.reduceEq,false_or,or_false,or_true,true_or,or_self,br,cD];simp only[go_sem]
  iterate 3 (first|(refine⟨λh=>?_,λh=>?_⟩
                    ·(first|rw[aL h,pq,dR]|rw[nb_ h,dR])
                     exact ax
                    (first|rw[aM h,wE,bW]|rw[nc_ h,bW]))|skip)
  iterate 8 (first
   | (refine⟨λh=>?_,λh=>?_⟩
      rotate_left
      ·(first|rw[h,dR]|rw[aM h,dR])
       exact ax
      (first|rw[h,bW]|rw[aL h,bW]))
   | (refine aj (YD x.a) ?_
      cases hA:ik x.a
      .rw[dR];simp only[go_sem];exact ax
      rw[bW];simp only[go_sem])
   | (refine aj (YD x.b) ?_
      cases hB:ik x.b
      .rw[dR];simp only[go_sem];exact ax
      rw[bW];simp only[go_sem])
   | (refine aj (Ut x.k x.v x.x) ?_
      simp only[go_sem];exact ax)
   | (refine aj (Qf x.lb hl) ?_
      simp only[go_sem];exact ax)
   | skip)
  try exact ax
 .have h9:=‹((x.ty.length:Int)==1)=true›;refine⟨by decide,?_,?_⟩
  .have:=eq_of_beq h9;omega
  .refine aa (agw (ah x.ty 0)) ?_;exact ax
 .refine⟨λh=>?_,λh=>?_⟩;rw[h,iT,bW];rotate_left;rw[h,kA]
  all_goals
   iterate 3 (first
    | (refine⟨λh=>?_,λh=>?_⟩
       rotate_left
       .rw[h,dR];exact ax
       rw[h,bW])
    | skip)
   exact ax
end
def D4(op:Int):dw op=rNm op:=by
 have h:∀l:List Oc,(match (l.map λo=>(o.op,o.nm)).find? (λx=>x.1==op)with|some o=>o.2|none=>[])=((l.find? (λo=>o.op==op)).getD default).nm:=by
  intro l
  induction l with
  | nil=>rfl
  | cons a l ih =>
   simp only[eR,List.find?_cons];cases ha:a.op==op
   .exact ih
   .rfl
 exact h OC
def KN{op:Int}(h:tw op=none):rNm op=[]/\qu op=0/\x7 op=false:=by
 simp only[rNm,qu,x7,h];exact⟨rfl,rfl,rfl⟩
def My{p:Int->Bool}(h:OC.all (λo=>p o.op)=true){op:Int}(hr:tw op≠none):p op=true:=by
 cases hf:tw op with
 | none=>exact absurd hf hr
 | some o =>
  have h1:=fz.1 h o (List.mem_of_find?_eq_some hf);have h2:=List.find?_some hf;simp only[beq_iff_eq]at h2;rw[h2]at h1;exact h1
def GK(op:Int):(!(dw op==[]))=x7 op/\dw op=rNm op/\JH op=qu op/\zI op=Qr op/\aeD (zI op)=aeE (Qr op)/\RN op=RO op:=by
 by_cases h:tw op=none
 .obtain⟨h1,h2,h3⟩:=KN h;have hn:dw op=[]:=by rw[D4,h1]
  have hw:zI op=0:=by
   have:Zn op=false:=by simp[Zn,hn]
   rw[zI,this];rfl
  have hw2:Qr op=0:=by rw[Qr,h2];rfl
  have hi:JH op=0:=by
   have ht:∀(l:List (Int×Int)),l.all (λp=>(tw p.1).isSome)=true->l.find? (λp=>p.1==op)=none:=by
    intro l hl;rw[List.find?_eq_none];intro p hp hq;have:=fz.1 hl p hp;simp only[beq_iff_eq]at hq;rw[hq,h]at this;cases this
   have hs:MU op=0:=by rw[MU,ht adw (by decide +kernel)]
   rw[JH,ht abD (by decide +kernel),hw,hs];rfl
  refine⟨by rw[hn,h3];rfl,D4 op,by rw[hi,h2],by rw[hw,hw2],by rw[hw,hw2];rfl,?_⟩;rw[RN,RO,hn,h3];rfl
 .have:=My (p:=λop=>(!(dw op==[]))==x7 op&&JH op==qu op&&zI op==Qr op&&aeD (zI op)==aeE (Qr op)&&RN op==RO op) (by decide +kernel) h;simp only[cE,beq_iff_eq]at this;obtain⟨⟨⟨⟨h1,h2⟩,h3⟩,h4⟩,h5⟩:=this;exact⟨h1,D4 op,h2,h3,h4,h5⟩
def ZS(i:Int)(hi:0<=i/\i<=20)(kn:Bool)(x:bj)(hn:0<=x.n):plP i kn (K2 i) x=Mm i kn x:=by
 obtain⟨op,a,b,n,k,v,z,ty,lb⟩:=x;replace hn:0<=n:=hn;have hal:¬((lb.length:Int)>0)->lb.all ik=true:=λh=>by
  cases lb with
  | nil=>rfl
  | cons y l=>simp at h
 unfold plP Mm Bz KJ;simp only;generalize lb.all ik=al at hal;generalize (lb.length:Int)=ll at hal;generalize yF (ah ty 0)=vv;generalize (ty.length:Int)=tl;generalize Lb k v z=bb;generalize ((k==0)&&((v==0)&&(z==0)))=kk;have ea:a=0->ik a=true:=λh=>by subst h;decide
 have eb:b=0->ik b=true:=λh=>by subst h;decide
 have ec:a=3\/a=4->ik a=true:=λh=>by rcases h with rfl|rfl<;>decide
 have ed:ik a=true/\a<=63↔a>=0/\a<=63:=by
  simp only[ik,cE,eQ];omega
 generalize ik a=xa at ea ec ed;generalize ik b=xb at eb;rcases(show i=0\/i=1\/i=2\/i=3\/i=4\/i=5\/i=6\/i=7\/i=8\/i=9\/i=10\/i=11\/i=12\/i=13\/i=14\/i=15\/i=16\/i=17\/i=18\/i=19\/i=20 by omega)with rfl|rfl|rfl|rfl|rfl|rfl|rfl|rfl|rfl|rfl|rfl|rfl|rfl|rfl|rfl|rfl|rfl|rfl|rfl|rfl|rfl
 all_goals
  simp only[K2,adI,List.find?_cons,List.find?_nil,Int.reduceBEq,Int.reduceEq,br,cD,iT,kA,bW,dR,false_or,or_false,or_true,true_or,or_self];rw[zT];simp only[cE,pz,beq_iff_eq,eQ,sz,decide_eq_false_iff_not]
  grind
def lm(op:Int):0<=qu op/\qu op<=20:=by
 by_cases h:tw op=none
 .rw[(KN h).2.1];decide
 .have:=My (p:=λop=>decide (0<=qu op)&&decide (qu op<=20)) (by decide +kernel) h;simpa using this
def PL(x:bj):Bool:=Mm (qu x.op) (x7 x.op) x
def vo(t:Int):UInt8×Bool:=if t=1 then(127,true)else if t=2 then(126,true)else if t=3 then(112,true)else if t=4 then(111,true)else(0,false)
def ov(b:UInt8):Int×Bool:=if b=127 then(1,true)else if b=126 then(2,true)else if b=112 then(3,true)else if b=111 then(4,true)else(0,false)
def CD(k v x:Int):List UInt8:=if k=0 then[64]else if k=1 then[(vo v).1]else ej x
def kO(op:Int):List UInt8:=if op>=64512 then 252::ay (op-64512).toNat else[UInt8.ofNat op.toNat]
def eN(l:List Int):List UInt8:=l.flatMap λn=>ay n.toNat
def nV(i:Int)(x:bj):List UInt8 :=
 if i=1 then CD x.k x.v x.x else
 if i=3 then ay x.lb.length++eN x.lb++ay x.a.toNat else
 if i=5\/i=10\/i=11\/i=14\/i=15 then ay x.a.toNat++ay x.b.toNat else
 if i=6 then ay 1++[(vo (ah x.ty 0)).1]else
 if i=13 then ay x.b.toNat else
 if i=17 then(if x.b=0 then ay x.a.toNat else ay (x.a+64).toNat++ay x.b.toNat)++ay x.n.toNat else
 if i=18 then ej (I5 x.n)else
 if i=19 then ej (IntKind.i64.wrap x.n)else
 if i=20 then[(vo x.a).1]else
 if i=0 then[]else ay x.a.toNat
def Ab(x:bj):List UInt8:=kO x.op++nV (qu x.op) x
def py(x:bj)(l:List UInt8)(e:Int):List UInt8×Int :=
 if PL x=true then(if qu x.op=3/\4294967296<=x.lb.length then(wB (e==0) l (kO x.op),if e=0 then 1 else e)else(wB (e==0) l (Ab x),e))else(l,if e=0 then 10 else e)
abbrev Rd(α:Type):=Except (Int×Nat) (α×Nat)
def gB(b:List UInt8)(a:Nat):Rd UInt8:=if a<b.length then .ok (ah b a,a+1)else .error (3,a)
def gU(b:List UInt8)(a:Nat):Rd Nat:=if(jh (b.drop a) 32).2.2=0 then .ok ((jh (b.drop a) 32).1,a+(jh (b.drop a) 32).2.1)else .error ((jh (b.drop a) 32).2.2,a)
def gS(bits:Nat)(b:List UInt8)(a:Nat):Rd Int:=if(iK (b.drop a) bits).2.2=0 then .ok ((iK (b.drop a) bits).1,a+(iK (b.drop a) bits).2.1)else .error ((iK (b.drop a) bits).2.2,a)
def gC(b:List UInt8)(a:Nat)(most:Int):Rd Nat:=match gU b a with
 | .ok (n,k)=>if(n:Int)>most then .error (6,a)else .ok (n,k)
 | .error e=>.error e
def gV(b:List UInt8)(a:Nat):Rd Int:=match gB b a with
 | .ok (x,k)=>if(ov x).2=true then .ok ((ov x).1,k)else .error (4,k)
 | .error e=>.error e
def gK(b:List UInt8)(a:Nat):Rd (Int×Int×Int):=match gS 33 b a with
 | .ok (n,k)=>if n = -64 then .ok ((0,0,0),k)else if n>=0 then .ok ((2,0,n),k)else
   if n>=-17/\(ov (UInt8.ofNat (n+128).toNat)).2=true then .ok ((1,(ov (UInt8.ofNat (n+128).toNat)).1,0),k)else .error (4,k)
 | .error e=>.error e
def gO(b:List UInt8)(a:Nat):Rd Int:=match gB b a with
 | .ok (x,k)=>if x=252 then(match gU b k with
   | .ok (n,k')=>if x7 (64512+n)=true then .ok (64512+n,k')else .error (10,k')
   | .error e=>.error e)else if x7 x.toNat=true then .ok ((x.toNat:Int),k)else .error (10,k)
 | .error e=>.error e
def gL:Nat->List UInt8->Nat->Rd (List Int)
 | 0,_,a=>.ok ([],a)
 | n+1,b,a=>match gU b a with
  | .ok (x,k)=>(match gL n b k with
   | .ok (l,k')=>.ok ((x:Int)::l,k')
   | .error e=>.error e)
  | .error e=>.error e
def gA(b:List UInt8)(a:Nat):Rd (Int×Int×Int):=match gU b a with
 | .ok (x,k)=>if x>=128 then .error (4,k)else if x>=64 then(match gU b k with
   | .ok (y,k1)=>(match gU b k1 with
    | .ok (z,k2)=>.ok (((x:Int)-64,(y:Int),(z:Int)),k2)
    | .error e=>.error e)
   | .error e=>.error e)else(match gU b k with
   | .ok (z,k2)=>.ok (((x:Int),0,(z:Int)),k2)
   | .error e=>.error e)
 | .error e=>.error e
def z0:bj:=⟨0,0,0,0,0,0,0,[],[]⟩
def gM(i:Int)(b:List UInt8)(a:Nat):Rd bj :=
 if i=1 then(match gK b a with
  | .ok ((k,v,x),a1)=>.ok ({z0 with k:=k,v:=v,x:=x},a1)
  | .error e=>.error e)else
 if i=3 then(match gC b a 64 with
  | .ok (n,a1)=>(match gL n b a1 with
   | .ok (l,a2)=>(match gU b a2 with
    | .ok (x,a3)=>.ok ({z0 with a:=x,lb:=l},a3)
    | .error e=>.error e)
   | .error e=>.error e)
  | .error e=>.error e)else
 if i=5\/i=10\/i=11\/i=14\/i=15 then(match gU b a with
  | .ok (x,a1)=>(match gU b a1 with
   | .ok (y,a2)=>.ok ({z0 with a:=x,b:=y},a2)
   | .error e=>.error e)
  | .error e=>.error e)else
 if i=6 then(match gU b a with
  | .ok (x,a1)=>if x=1 then(match gV b a1 with
   | .ok (t,a2)=>.ok ({z0 with ty:=[t]},a2)
   | .error e=>.error e)else .error (4,a1)
  | .error e=>.error e)else
 if i=13 then(match gU b a with
  | .ok (x,a1)=>.ok ({z0 with b:=x},a1)
  | .error e=>.error e)else
 if i=17 then(match gA b a with
  | .ok ((x,y,z),a1)=>.ok ({z0 with a:=x,b:=y,n:=z},a1)
  | .error e=>.error e)else
 if i=18 then(match gS 32 b a with
  | .ok (n,a1)=>.ok ({z0 with n:=IntKind.u64.wrap (IntKind.u32.wrap n)},a1)
  | .error e=>.error e)else
 if i=19 then(match gS 64 b a with
  | .ok (n,a1)=>.ok ({z0 with n:=IntKind.u64.wrap n},a1)
  | .error e=>.error e)else
 if i=20 then(match gV b a with
  | .ok (t,a1)=>if t=3\/t=4 then .ok ({z0 with a:=t},a1)else .error (12,a1)
  | .error e=>.error e)else
 if i=0 then .ok (z0,a)else(match gU b a with
  | .ok (x,a1)=>.ok ({z0 with a:=x},a1)
  | .error e=>.error e)
def gI(b:List UInt8)(a:Nat):Rd bj:=match gO b a with
 | .ok (op,k)=>(match gM (qu op) b k with
  | .ok (x,k')=>.ok ({x with op:=op},k')
  | .error e=>.error e)
 | .error e=>.error e
def gE:Nat->Nat->List UInt8->Nat->Int->Rd (List bj)
 | 0,_,_,a,_=>.error (6,a)
 | f+1,deep,b,a,most=>if most<=0 then .error (6,a)else match gI b a with
  | .error e=>.error e
  | .ok (x,k) =>
   if x.op=11/\deep=1 then .ok ([x],k)else match gE f (if x.op=2\/x.op=3\/x.op=4 then deep+1 else if x.op=11 then deep-1 else deep) b k (most-1)with
    | .ok (l,k')=>.ok (x::l,k')
    | .error e=>.error e
def zq(b:List UInt8)(a:Nat):(∃x,gB b a = .ok (x,a+1)/\kG true b a 0=(x,a+1,0)/\a+1<=b.length)\/(gB b a = .error (3,a)/\kG true b a 0=(0,a,3)):=by
 unfold gB kG;by_cases h:a<b.length
 .rw[aF h,aF rfl,au (by omega)];exact .inl ⟨_,rfl,rfl,h⟩
 .rw[au h,aF rfl,aF (by omega)];exact .inr ⟨rfl,rfl⟩
def vm{b:List UInt8}{a:Nat}(ha:a<=b.length):(∃n k,gU b a = .ok (n,k)/\rU true 32 b a 0=(n,k,0)/\n<4294967296/\k<=b.length)\/∃e,e≠0/\gU b a = .error (e,a)/\rU true 32 b a 0=(0,a,e):=by
 have h1:=Hc (b.drop a) 32 (by decide);have h2:=Hb (b.drop a) 32;simp only[jJ]at h2;unfold gU rU;by_cases h:(jh (b.drop a) 32).2.2=0
 .rw[aF h,aF rfl,au (by simp[h])];exact .inl ⟨_,_,rfl,rfl,h1,by omega⟩
 .rw[au h,aF rfl,aF h];exact .inr ⟨_,h,rfl,rfl⟩
def acQ{b:List UInt8}{a:Nat}(bits:Nat)(ha:a<=b.length):(∃n k,gS bits b a = .ok (n,k)/\rS true bits b a 0=(n,k,0)/\k<=b.length)\/∃e,e≠0/\gS bits b a = .error (e,a)/\rS true bits b a 0=(0,a,e):=by
 have h2:=Ha (b.drop a) bits;simp only[jJ]at h2;unfold gS rS;by_cases h:(iK (b.drop a) bits).2.2=0
 .rw[aF h,aF rfl,au (by simp[h])];exact .inl ⟨_,_,rfl,rfl,by omega⟩
 .rw[au h,aF rfl,aF h];exact .inr ⟨_,h,rfl,rfl⟩
def DR{b:List UInt8}{a:Nat}(most:Int)(ha:a<=b.length):(∃n k,gC b a most = .ok (n,k)/\cA true b a 0 most=(n,k,0)/\(n:Int)<=most/\n<4294967296/\k<=b.length)\/∃e,e≠0/\gC b a most = .error (e,a)/\cA true b a 0 most=(0,a,e):=by
 unfold gC cA;rcases vm ha with⟨n,k,h1,h2,h3,h4⟩|⟨e,he,h1,h2⟩
 .rw[h1,h2,aF rfl];by_cases h:(n:Int)>most
  .exact .inr ⟨6,by decide,aF h,aF ⟨rfl,h⟩⟩
  .exact .inl ⟨n,k,au h,au (λq=>h q.2),by omega,h3,h4⟩
 .rw[h1,h2,aF rfl];exact .inr ⟨e,he,rfl,au (λq=>he q.1)⟩
def vV(b:List UInt8)(a:Nat)(e:Int):kG false b a e=(0,a,e):=rfl
def BW(bits:Nat)(b:List UInt8)(a:Nat)(e:Int):rU false bits b a e=(0,a,e):=rfl
def KB(b:List UInt8)(a:Nat)(e most:Int):cA false b a e most=(0,a,e):=rfl
def fh(t:Int):List UInt8:=[(vo t).1]
def aQ{α:Type}(f:α->List UInt8)(l:List α):List UInt8:=ay l.length++l.flatMap f
def pX(x:Ft):List UInt8:=96::(aQ fh x.ps++aQ fh x.rs)
def iw(l:Lm):List UInt8:=if l.hs=true then 1::(ay l.mn.toNat++ay l.mx.toNat)else 0::ay l.mn.toNat
def oY(x:Tb):List UInt8:=fh x.e++iw x.l
def AZ(g:Gl):List UInt8:=fh g.v++[if g.mu=true then 1 else 0]
def uT(s:List UInt8):List UInt8:=ay s.length++s
def pY(x:Im):List UInt8:=uT x.m++uT x.n++[UInt8.ofNat x.k.toNat] ++
 (if x.k=0 then ay x.f.toNat else if x.k=1 then oY ⟨x.te,x.tl⟩else if x.k=2 then iw x.me else AZ x.g)
def et(l:List bj):List UInt8:=l.flatMap Ab
def qU(x:Gd):List UInt8:=AZ x.g++et x.i
def qT(x:Ex):List UInt8:=uT x.n++[UInt8.ofNat x.k.toNat]++ay x.i.toNat
def same(t:Int):List Int->Nat
 | []=>0
 | x::l=>if x=t then same t l+1 else 0
def vr:Nat->List Int->List (Nat×Int)
 | 0,_=>[]
 | _,[]=>[]
 | f+1,x::l=>(same x l+1,x)::vr f (l.drop (same x l))
def gD(l:List Int):List (Nat×Int):=vr l.length l
def kP(r:Nat×Int):List UInt8:=ay r.1++fh r.2
def Jq(l:List Int):List UInt8:=aQ kP (gD l)
def jX(x:Cd):List UInt8:=Jq x.lo++et x.b
def nA(x:Cd):List UInt8:=ay (jX x).length++jX x
def tF(l:List bj):Bool:=(l.length==2)&&((ah l 0).op==210)&&((ah l 1).op==11)
def dL(x:El):Bool:=(x.ty != 3)||x.it.any (λl=>!tF l)
def dp(x:El):Nat:=(if dL x=true then 4 else 0)+(if x.mo=1 then 1 else if x.mo=2 then 3 else if x.tb≠0\/x.ty≠3 then 2 else 0)
def fS(n:Nat)(l:List bj):List UInt8:=if n<4 then ay (ah l 0).a.toNat else et l
def pW(x:El):List UInt8:=ay (dp x)++(if dp x%4=2 then ay x.tb.toNat else[])++(if dp x%2=0 then et x.o else[]) ++
 (if dp x%4=0 then[]else if dp x<4 then[0]else fh x.ty)++aQ (fS (dp x)) x.it
def pV(x:Da):List UInt8:=(if x.mo=1 then ay 1 else if x.me=0 then ay 0++et x.o else ay 2++ay x.me.toNat++et x.o)++ay x.b.length++x.b
def dF(m:Md)(p:Int):List UInt8 :=
 if p=1 then aQ pX m.ts else if p=2 then aQ pY m.ims else if p=3 then aQ (λx:Cd=>ay x.t.toNat) m.fs else
 if p=4 then aQ oY m.tbs else if p=5 then aQ iw m.ms else if p=6 then aQ qU m.gs else if p=7 then aQ qT m.exs else
 if p=8 then ay m.st.toNat else if p=9 then aQ pW m.els else if p=10 then ay m.ds.length else
 if p=11 then aQ nA m.fs else if p=12 then aQ pV m.ds else[]
def qt(m:Md):List Int :=
 (if m.ts.length>0 then[1]else[])++(if m.ims.length>0 then[2]else[])++(if m.fs.length>0 then[3]else[])++(if m.tbs.length>0 then[4]else[]) ++
 (if m.ms.length>0 then[5]else[])++(if m.gs.length>0 then[6]else[])++(if m.exs.length>0 then[7]else[])++(if m.hs=true then[8]else[]) ++
 (if m.els.length>0 then[9]else[])++(if m.ds.length>0 then[10]else[])++(if m.fs.length>0 then[11]else[])++(if m.ds.length>0 then[12]else[])
section
def ag6{t:Int}(h:yF t=true):t=1\/t=2\/t=3\/t=4:=by
 simp only[yF,cE,eQ]at h;omega
def M0(t:Int):(vo t).2=yF t:=by
 by_cases h:t=1\/t=2\/t=3\/t=4
 .rcases h with rfl|rfl|rfl|rfl<;>rfl
 .have:yF t=false:=by simp only[yF,Bool.and_eq_false_iff,decide_eq_false_iff_not];omega
  rw[this];unfold vo;rw[au (by omega),au (by omega),au (by omega),au (by omega)]
attribute[local go_sem] ro wo wa wx rx
def Oo(t:Int):ac pg H1 [.int .i64 t] (.tup [.int .u8 (vo t).1.toNat,.bool (vo t).2]):=by
 refine aD r6 ?_;by_cases h:t=1\/t=2\/t=3\/t=4
 .rcases h with rfl|rfl|rfl|rfl
  all_goals
   simp only[go_sem,r6];exact ax
 .have h1:(t==1)=false:=iS.2 (by omega);have h2:(t==2)=false:=iS.2 (by omega);have h3:(t==3)=false:=iS.2 (by omega);have h4:(t==4)=false:=iS.2 (by omega);have e:vo t=(0,false):=by unfold vo;rw[au (by omega),au (by omega),au (by omega),au (by omega)]
  rw[e];simp only[go_sem,r6,h1,h2,h3,h4];exact ax
def Oh(t:Int):ac pg A9 [.int .i64 t] (.bool (yF t)):=by
 refine aD lO ?_;unfold yF;simp only[go_sem,lO];refine⟨λh=>?_,λh=>?_⟩
 .rw[aL h,bW];exact ax
 .rw[aM h,dR];exact ax
def YJ(t:Int):ac pg HN [.int .i64 t] (.tup [.int .u8 (vo t).1.toNat,.bool (vo t).2]):=by
 refine aD yO ?_;simp only[go_sem,yO];refine aj (Oh t) ?_;cases h:yF t
 .have h':=M0 t;rw[h]at h';have e:vo t=(0,false):=by
   unfold vo at h'⊢
   repeat' split at h'
   all_goals first|(cases h';done)|skip
   simp_all
  rw[e];simp only[go_sem];exact ax
 .rcases ag6 h with rfl|rfl|rfl|rfl
  all_goals
   simp only[go_sem];refine⟨⟨by decide,by decide⟩,?_⟩;simp only[go_sem,Xs,IN,List.getElem?_cons_zero];exact ax
def loT(b:UInt8)(k:Nat):Prop:=∀t:Int,1<=t->t<k->(vo t).1≠b
def afV{b:UInt8}{t:Int}(ht:1<=t/\t<=4)(h:(vo t).1=b):ov b=(t,true):=by
 subst h;rcases(show t=1\/t=2\/t=3\/t=4 by omega)with rfl|rfl|rfl|rfl<;>rfl
def afW{b:UInt8}(h:loT b 5):ov b=(0,false):=by
 have h1:=h 1 (by decide) (by decide);have h2:=h 2 (by decide) (by decide);have h3:=h 3 (by decide) (by decide);have h4:=h 4 (by decide) (by decide);unfold ov;rw[au (λe=>h1 e.symm),au (λe=>h2 e.symm),au (λe=>h3 e.symm),au (λe=>h4 e.symm)]
def Vf(x y:UInt8):(((x.toNat:Nat):Int)==((y.toNat:Nat):Int))=(x==y):=by
 by_cases h:x=y
 .subst h;simp
 .have:¬((x.toNat:Nat):Int)=((y.toNat:Nat):Int):=λe=>h (IP.1 (by omega));rw[iS.2 this,iS.2 h]
def UX(b:UInt8):ac pg DB [.int .u8 b.toNat] (.tup [.int .i64 (ov b).1,.bool (ov b).2]):=by
 refine aD uH ?_;simp only[go_sem,uH];refine an (λk:Nat=>⟨[(0,.int .u8 b.toNat),(4,.int .i64 k)],[]⟩) (λk=>1<=k/\k<=5/\loT b k) (λk=>5-k) 1 ⟨by decide,by decide,λt h1 h2=>by omega⟩ (Wk.of ?_ ?_) ?_
 .simp only[go_sem];try simp
 .simp only[go_sem]
 rintro k ⟨k1,k2,hk⟩;by_cases h:k=5
 .have hd:decide ((k:Int)<=4)=false:=aM (by omega);subst h;rw[afW hk];simp only[go_sem,hd];exact ax
 .have hd:decide ((k:Int)<=4)=true:=aL (by omega);have e8:=wi (n:=(k:Int)+1) (by omega) (by omega);simp only[go_sem,hd];refine aj (Oo (k:Int)) ?_;have hb:=Vf (vo (k:Int)).1 b;simp only[go_sem,hb];cases hq:((vo (k:Int)).1==b)
  .simp only[go_sem,hq];refine aE (k+1) ⟨by omega,by omega,λt h1 h2=>?_⟩ (show 5-(k+1)<5-k by omega) (Wk.of ?_ ?_)
   .by_cases e:t=k
    .subst e;exact iS.1 hq
    .exact hk t h1 (by omega)
   .simp only[go_sem,e8]
    try simp
   .simp only[go_sem]
  .have e:=afV (b:=b) (t:=(k:Int)) ⟨by omega,by omega⟩ (by simpa using hq);rw[e];simp only[go_sem,hq];exact ax
