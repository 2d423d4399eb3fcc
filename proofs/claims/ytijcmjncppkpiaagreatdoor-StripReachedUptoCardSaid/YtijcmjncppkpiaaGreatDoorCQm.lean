import Derived.Test.YtijcmjncppkpiaaGreatDoorCQl
set_option linter.all false
set_option maxRecDepth 100000
set_option maxHeartbeats 40000000
namespace Go.Proofs.YtijcmjncppkpiaaGreatDoor
section
open Go Go.Mw
def mS{P:Program}[ba P]{f:FuncId}{args:List AV}{r r':AV}(hp:ah P f args r)(hw:∀bl M w v,aY bl M w v r->aY bl M w v r')(hid:aI r'=[]):ah P f args r' :=
 λbl MF w cargs h1 h2 h3 h4 h5=>(hp bl MF w cargs h1 h2 h3 h4 h5).mono λe w' h=>by
  obtain⟨v,r0,σ',bl',he,⟨rfl,rfl⟩,_,h6,h7,h8⟩:=h;exact⟨v,r',[],bl',he,⟨rfl,rfl⟩,⟨λi hi=>(by rw[hid]at hi;cases hi),λp hp=>absurd hp bZ⟩,h6,hw _ _ _ _ h7,h8⟩
def DM(p q:List Int):AV:=.agg [.sl 1 (p.map bg),.sl 1 (q.map bg)]
def CK(op t:Int)(s:List UInt8):List Int×List Int :=
 if Ad s [108,111,97,100]=true then([1],[t])else
 if Ad s [115,116,111,114,101]=true then([1,t],[])else
 if(s==[101,113,122])=true then([t],[1])else
 if op>=70/\op<=90 then([t,t],[1])else
 if(s==[99,108,122])=true then([t],[t])else
 if(s==[99,116,122])=true then([t],[t])else
 if(s==[112,111,112,99,110,116])=true then([t],[t])else
 if Ad s [101,120,116,101,110,100]=true then([t],[t])else([t,t],[t])
attribute[local go_sem] eE bP
def Mq(op t:Int)(s:List UInt8)(hs:s.length<1000000):ah pg zL [.int .i64 op,.int .i64 t,.str s] (DM (CK op t s).1 (CK op t s).2):=by
 refine au qf ?_;unfold CK DM;simp only[go_sem,qf];refine ak (Fn s [108,111,97,100] ⟨hs,by decide⟩) ?_;cases q1:Ad s [108,111,97,100]
 case true =>
  rw[aF rfl];simp only[go_sem];refine bS [10,12] ?_ (j4 [1] [t]) (by simp[go_sem,eE]) ?_
  .simp only[go_sem,aN]
   try rfl
  simp only[go_sem];exact an
 rw[ax (by decide)];simp only[go_sem];refine ak (Fn s [115,116,111,114,101] ⟨hs,by decide⟩) ?_;cases q2:Ad s [115,116,111,114,101]
 case true =>
  rw[aF rfl];simp only[go_sem];refine jG [.ms 18 1 0 2,.sl 1 []] ⟨.inl rfl,.inr (.inl ⟨rfl,1,rfl⟩),trivial⟩ ?_;refine bS [18] ?_ (j4 [1,t] []) (by simp[go_sem,eE]) ?_
  .simp only[go_sem,aN]
   try rfl
  simp only[go_sem];exact an
 rw[ax (by decide)];cases q3:s==[101,113,122]
 case true =>
  rw[aF rfl];simp only[go_sem,q3];refine bS [24,25] ?_ (j4 [t] [1]) (by simp[go_sem,eE]) ?_
  .simp only[go_sem,aN]
   try rfl
  simp only[go_sem];exact an
 rw[ax (by decide)];by_cases q4:op>=70/\op<=90
 .rw[aF q4];simp only[go_sem,q3,aw q4.1,aw q4.2];refine bS [36,37] ?_ (j4 [t,t] [1]) (by simp[go_sem,eE]) ?_
  .simp only[go_sem,aN]
   try rfl
  simp only[go_sem];exact an
 rw[ax q4];by_cases q5:op>=70
 .have q6:¬op<=90:=λh=>q4 ⟨q5,h⟩;simp only[go_sem,q3,aw q5,aC q6];cases q7:s==[99,108,122]
  case true =>
   rw[aF rfl];simp only[go_sem,q7];refine bS [55,57] ?_ (j4 [t] [t]) (by simp[go_sem,eE]) ?_
   .simp only[go_sem,aN]
    try rfl
   simp only[go_sem];exact an
  rw[ax (by decide)];cases q8:s==[99,116,122]
  case true =>
   rw[aF rfl];simp only[go_sem,q7,q8];refine bS [55,57] ?_ (j4 [t] [t]) (by simp[go_sem,eE]) ?_
   .simp only[go_sem,aN]
    try rfl
   simp only[go_sem];exact an
  rw[ax (by decide)];cases q9:s==[112,111,112,99,110,116]
  case true =>
   rw[aF rfl];simp only[go_sem,q7,q8,q9];refine bS [55,57] ?_ (j4 [t] [t]) (by simp[go_sem,eE]) ?_
   .simp only[go_sem,aN]
    try rfl
   simp only[go_sem];exact an
  rw[ax (by decide)];simp only[go_sem,q7,q8,q9];refine ak (Fn s [101,120,116,101,110,100] ⟨hs,by decide⟩) ?_;cases q10:Ad s [101,120,116,101,110,100]
  case true =>
   rw[aF rfl];simp only[go_sem];refine bS [55,57] ?_ (j4 [t] [t]) (by simp[go_sem,eE]) ?_
   .simp only[go_sem,aN]
    try rfl
   simp only[go_sem];exact an
  rw[ax (by decide)];simp only[go_sem];refine bS [61,63] ?_ (j4 [t,t] [t]) (by simp[go_sem,eE]) ?_
  .simp only[go_sem,aN]
   try rfl
  simp only[go_sem];exact an
 .simp only[go_sem,q3,aC q5];cases q7:s==[99,108,122]
  case true =>
   rw[aF rfl];simp only[go_sem,q7];refine bS [55,57] ?_ (j4 [t] [t]) (by simp[go_sem,eE]) ?_
   .simp only[go_sem,aN]
    try rfl
   simp only[go_sem];exact an
  rw[ax (by decide)];cases q8:s==[99,116,122]
  case true =>
   rw[aF rfl];simp only[go_sem,q7,q8];refine bS [55,57] ?_ (j4 [t] [t]) (by simp[go_sem,eE]) ?_
   .simp only[go_sem,aN]
    try rfl
   simp only[go_sem];exact an
  rw[ax (by decide)];cases q9:s==[112,111,112,99,110,116]
  case true =>
   rw[aF rfl];simp only[go_sem,q7,q8,q9];refine bS [55,57] ?_ (j4 [t] [t]) (by simp[go_sem,eE]) ?_
   .simp only[go_sem,aN]
    try rfl
   simp only[go_sem];exact an
  rw[ax (by decide)];simp only[go_sem,q7,q8,q9];refine ak (Fn s [101,120,116,101,110,100] ⟨hs,by decide⟩) ?_;cases q10:Ad s [101,120,116,101,110,100]
  case true =>
   rw[aF rfl];simp only[go_sem];refine bS [55,57] ?_ (j4 [t] [t]) (by simp[go_sem,eE]) ?_
   .simp only[go_sem,aN]
    try rfl
   simp only[go_sem];exact an
  rw[ax (by decide)];simp only[go_sem];refine bS [61,63] ?_ (j4 [t,t] [t]) (by simp[go_sem,eE]) ?_
  .simp only[go_sem,aN]
   try rfl
  simp only[go_sem];exact an
def sgT:List (Int×List Int×List Int):=[(1,[],[]),(64525,[],[]),(64521,[],[]),(65,[],[1]),(63,[],[1]),(64528,[],[1]),(66,[],[2]),(210,[],[3]),(64,[1],[1]),(64523,[1,1,1],[]),(64522,[1,1,1],[]),(64520,[1,1,1],[]),(64526,[1,1,1],[]),(64524,[1,1,1],[]),(167,[2],[1]),(172,[1],[2]),(173,[1],[2])]
def vL(op:Int):List Int×List Int×Bool:=match sgT.find? (λp=>p.1==op)with
 | some p=>(p.2.1,p.2.2,true)
 | none=>if(Ad (bB op) [105,51,50,46]||Ad (bB op) [105,54,52,46])=true then((CK op (if Ad (bB op) [105,54,52]=true then 2 else 1) ((bB op).drop 4)).1,(CK op (if Ad (bB op) [105,54,52]=true then 2 else 1) ((bB op).drop 4)).2,true)else([],[],false)
def EW(b:Bool)(bl:Nat->Option Nat)(M:Nat->Prop)(w:World)(v:Value)(h:aY bl M w v (.tup [.agg [.nl,.nl],.bool b])):aY bl M w v (.tup [DM [] [],.bool b]):=by
 obtain⟨cs,rfl,h⟩:=h;refine⟨cs,rfl,?_⟩
 match cs,h with
 | [c,d],⟨h1,h2,_⟩=>exact⟨EX (bl:=bl) (M:=M) (w:=w) (v:=c) (x:=.agg [.nl,.nl]) (y:=.agg [.sl 1 [],.sl 1 []]) (.inr (.inr ⟨_,_,rfl,rfl,.inr ⟨rfl,1,rfl⟩,.inr ⟨rfl,1,rfl⟩,trivial⟩)) h1,h2,trivial⟩
def JS{s p:List UInt8}(h:Ad s p=true):p.length<=s.length:=by
 simp only[Ad,fQ,tT]at h;exact h.1
def ZM(op:Int):ah pg EG [.int .i64 op] (.tup [DM (vL op).1 (vL op).2.1,.bool (vL op).2.2]):=by
 by_cases h0:op=1
 .subst h0;have r:vL 1=([],[],true):=rfl;rw[r];refine mS (r:=.tup [.agg [.nl,.nl],.bool true]) ?_ (EW true) rfl;refine au az ?_;simp only[go_sem,az];exact an
 by_cases h1:op=64525
 .subst h1;have r:vL 64525=([],[],true):=rfl;rw[r];refine mS (r:=.tup [.agg [.nl,.nl],.bool true]) ?_ (EW true) rfl;refine au az ?_;simp only[go_sem,az];exact an
 by_cases h2:op=64521
 .subst h2;have r:vL 64521=([],[],true):=rfl;rw[r];refine mS (r:=.tup [.agg [.nl,.nl],.bool true]) ?_ (EW true) rfl;refine au az ?_;simp only[go_sem,az];exact an
 by_cases h3:op=65
 .subst h3;have r:vL 65=([],[1],true):=rfl;rw[r];unfold DM;refine au az ?_;simp only[go_sem,az];refine jG [.sl 1 [],.ms 17 1 0 1] ⟨.inr (.inl ⟨rfl,1,rfl⟩),.inl rfl,trivial⟩ ?_;refine bS [17] ?_ (j4 [] [1]) (by simp[go_sem,eE]) ?_
  .simp only[go_sem,aN]
   try rfl
  simp only[go_sem];exact an
 by_cases h4:op=63
 .subst h4;have r:vL 63=([],[1],true):=rfl;rw[r];unfold DM;refine au az ?_;simp only[go_sem,az];refine jG [.sl 1 [],.ms 17 1 0 1] ⟨.inr (.inl ⟨rfl,1,rfl⟩),.inl rfl,trivial⟩ ?_;refine bS [17] ?_ (j4 [] [1]) (by simp[go_sem,eE]) ?_
  .simp only[go_sem,aN]
   try rfl
  simp only[go_sem];exact an
 by_cases h5:op=64528
 .subst h5;have r:vL 64528=([],[1],true):=rfl;rw[r];unfold DM;refine au az ?_;simp only[go_sem,az];refine jG [.sl 1 [],.ms 17 1 0 1] ⟨.inr (.inl ⟨rfl,1,rfl⟩),.inl rfl,trivial⟩ ?_;refine bS [17] ?_ (j4 [] [1]) (by simp[go_sem,eE]) ?_
  .simp only[go_sem,aN]
   try rfl
  simp only[go_sem];exact an
 by_cases h6:op=66
 .subst h6;have r:vL 66=([],[2],true):=rfl;rw[r];unfold DM;refine au az ?_;simp only[go_sem,az];refine jG [.sl 1 [],.ms 21 1 0 1] ⟨.inr (.inl ⟨rfl,1,rfl⟩),.inl rfl,trivial⟩ ?_;refine bS [21] ?_ (j4 [] [2]) (by simp[go_sem,eE]) ?_
  .simp only[go_sem,aN]
   try rfl
  simp only[go_sem];exact an
 by_cases h7:op=210
 .subst h7;have r:vL 210=([],[3],true):=rfl;rw[r];unfold DM;refine au az ?_;simp only[go_sem,az];refine jG [.sl 1 [],.ms 25 1 0 1] ⟨.inr (.inl ⟨rfl,1,rfl⟩),.inl rfl,trivial⟩ ?_;refine bS [25] ?_ (j4 [] [3]) (by simp[go_sem,eE]) ?_
  .simp only[go_sem,aN]
   try rfl
  simp only[go_sem];exact an
 by_cases h8:op=64
 .subst h8;have r:vL 64=([1],[1],true):=rfl;rw[r];unfold DM;refine au az ?_;simp only[go_sem,az];refine⟨⟨by decide,by decide⟩,?_⟩;refine bS [6,31] ?_ (j4 [1] [1]) (by simp[go_sem,eE]) ?_
  .simp only[go_sem,aN]
   try rfl
  simp only[go_sem];exact an
 by_cases h9:op=64523
 .subst h9;have r:vL 64523=([1,1,1],[],true):=rfl;rw[r];unfold DM;refine au az ?_;simp only[go_sem,az];refine jG [.ms 6 1 0 3,.sl 1 []] ⟨.inl rfl,.inr (.inl ⟨rfl,1,rfl⟩),trivial⟩ ?_;refine bS [6] ?_ (j4 [1,1,1] []) (by simp[go_sem,eE]) ?_
  .simp only[go_sem,aN]
   try rfl
  simp only[go_sem];exact an
 by_cases h10:op=64522
 .subst h10;have r:vL 64522=([1,1,1],[],true):=rfl;rw[r];unfold DM;refine au az ?_;simp only[go_sem,az];refine jG [.ms 6 1 0 3,.sl 1 []] ⟨.inl rfl,.inr (.inl ⟨rfl,1,rfl⟩),trivial⟩ ?_;refine bS [6] ?_ (j4 [1,1,1] []) (by simp[go_sem,eE]) ?_
  .simp only[go_sem,aN]
   try rfl
  simp only[go_sem];exact an
 by_cases h11:op=64520
 .subst h11;have r:vL 64520=([1,1,1],[],true):=rfl;rw[r];unfold DM;refine au az ?_;simp only[go_sem,az];refine jG [.ms 6 1 0 3,.sl 1 []] ⟨.inl rfl,.inr (.inl ⟨rfl,1,rfl⟩),trivial⟩ ?_;refine bS [6] ?_ (j4 [1,1,1] []) (by simp[go_sem,eE]) ?_
  .simp only[go_sem,aN]
   try rfl
  simp only[go_sem];exact an
 by_cases h12:op=64526
 .subst h12;have r:vL 64526=([1,1,1],[],true):=rfl;rw[r];unfold DM;refine au az ?_;simp only[go_sem,az];refine jG [.ms 6 1 0 3,.sl 1 []] ⟨.inl rfl,.inr (.inl ⟨rfl,1,rfl⟩),trivial⟩ ?_;refine bS [6] ?_ (j4 [1,1,1] []) (by simp[go_sem,eE]) ?_
  .simp only[go_sem,aN]
   try rfl
  simp only[go_sem];exact an
 by_cases h13:op=64524
 .subst h13;have r:vL 64524=([1,1,1],[],true):=rfl;rw[r];unfold DM;refine au az ?_;simp only[go_sem,az];refine jG [.ms 6 1 0 3,.sl 1 []] ⟨.inl rfl,.inr (.inl ⟨rfl,1,rfl⟩),trivial⟩ ?_;refine bS [6] ?_ (j4 [1,1,1] []) (by simp[go_sem,eE]) ?_
  .simp only[go_sem,aN]
   try rfl
  simp only[go_sem];exact an
 by_cases h14:op=167
 .subst h14;have r:vL 167=([2],[1],true):=rfl;rw[r];unfold DM;refine au az ?_;simp only[go_sem,az];refine bS [43,44] ?_ (j4 [2] [1]) (by simp[go_sem,eE]) ?_
  .simp only[go_sem,aN]
   try rfl
  simp only[go_sem];exact an
 by_cases h15:op=172
 .subst h15;have r:vL 172=([1],[2],true):=rfl;rw[r];unfold DM;refine au az ?_;simp only[go_sem,az];refine⟨⟨by decide,by decide⟩,?_⟩;refine bS [6,51] ?_ (j4 [1] [2]) (by simp[go_sem,eE]) ?_
  .simp only[go_sem,aN]
   try rfl
  simp only[go_sem];exact an
 by_cases h16:op=173
 .subst h16;have r:vL 173=([1],[2],true):=rfl;rw[r];unfold DM;refine au az ?_;simp only[go_sem,az];refine⟨⟨by decide,by decide⟩,?_⟩;refine bS [6,51] ?_ (j4 [1] [2]) (by simp[go_sem,eE]) ?_
  .simp only[go_sem,aN]
   try rfl
  simp only[go_sem];exact an
 have e:sgT.find? (λp=>p.1==op)=none:=by
  simp only[sgT,List.find?_cons,List.find?_nil,ab (λe:(1:Int)=op=>h0 e.symm),ab (λe:(64525:Int)=op=>h1 e.symm),ab (λe:(64521:Int)=op=>h2 e.symm),ab (λe:(65:Int)=op=>h3 e.symm),ab (λe:(63:Int)=op=>h4 e.symm),ab (λe:(64528:Int)=op=>h5 e.symm),ab (λe:(66:Int)=op=>h6 e.symm),ab (λe:(210:Int)=op=>h7 e.symm),ab (λe:(64:Int)=op=>h8 e.symm),ab (λe:(64523:Int)=op=>h9 e.symm),ab (λe:(64522:Int)=op=>h10 e.symm),ab (λe:(64520:Int)=op=>h11 e.symm),ab (λe:(64526:Int)=op=>h12 e.symm),ab (λe:(64524:Int)=op=>h13 e.symm),ab (λe:(167:Int)=op=>h14 e.symm),ab (λe:(172:Int)=op=>h15 e.symm),ab (λe:(173:Int)=op=>h16 e.symm)]
 have hl:=Bu op;cases q1:Ad (bB op) [105,51,50,46]||Ad (bB op) [105,54,52,46]
 .have r:vL op=([],[],false):=by rw[vL,e];simp only[q1];rfl
  rw[r];refine mS (r:=.tup [.agg [.nl,.nl],.bool false]) ?_ (EW false) rfl;refine au az ?_;have q2:Ad (bB op) [105,51,50,46]=false:=by
   cases h:Ad (bB op) [105,51,50,46]
   .rfl
   .rw[h]at q1;cases q1
  rw[q2,x7]at q1;have b1:=Fn (bB op) [105,51,50,46] ⟨by omega,by decide⟩;have b2:=Fn (bB op) [105,54,52,46] ⟨by omega,by decide⟩;rw[q2]at b1;rw[q1]at b2;simp only[go_sem,az,ab h0,ab h1,ab h2,ab h3,ab h4,ab h5,ab h6,ab h7,ab h8,ab h9,ab h10,ab h11,ab h12,ab h13,ab h14,ab h15,ab h16];refine aa (Al op) ?_;refine aa (b1) ?_;refine aa (b2) ?_;exact an
 .have r:vL op=((CK op (if Ad (bB op) [105,54,52]=true then 2 else 1) ((bB op).drop 4)).1,(CK op (if Ad (bB op) [105,54,52]=true then 2 else 1) ((bB op).drop 4)).2,true):=by rw[vL,e];simp only[q1,dP]
  rw[r];refine au az ?_;have hq4:4<=(bB op).length:=by
   rcases Bool.or_eq_true_iff.1 q1 with h|h
   .exact JS h
   .exact JS h
  have b1:=Fn (bB op) [105,51,50,46] ⟨by omega,by decide⟩;have b2:=Fn (bB op) [105,54,52,46] ⟨by omega,by decide⟩;have b3:=QO (bB op) (by omega);generalize (if Ad (bB op) [105,54,52]=true then(2:Int)else 1)=t at b3;have e4:((bB op).drop 4).take ((bB op).length-4)=(bB op).drop 4:=gN (by simp);have b4:=Mq op t ((bB op).drop 4) (by simp;omega);unfold DM at b4⊢;have n0:=Al op;generalize bB op=s at n0 b1 b2 b3 b4 hq4 e4 hl q1;simp only[go_sem,az,ab h0,ab h1,ab h2,ab h3,ab h4,ab h5,ab h6,ab h7,ab h8,ab h9,ab h10,ab h11,ab h12,ab h13,ab h14,ab h15,ab h16];refine aa (n0) ?_;refine ak (b1) ?_;cases q2:Ad s [105,51,50,46]
  .rw[q2,x7]at q1;rw[q1]at b2;simp only[go_sem];refine aa (b2) ?_;refine aL b3 (by simp[go_sem]) rfl ?_;simp only[go_sem];refine⟨⟨by decide,by omega⟩,?_⟩;refine aa (b4) ?_;exact an
  .simp only[go_sem];refine aL b3 (by simp[go_sem]) rfl ?_;simp only[go_sem];refine⟨⟨by decide,by omega⟩,?_⟩;refine aa (b4) ?_;exact an
end
open Go Go.Mw
structure Sp where
 ts:List Ft
 fs:List Int
 tb:List Tb
 ms:List Lm
 gs:List Gl
 el:List Int
 ds:Int
 im:List (Int×Int)
 de:List Int
def g_(k:Int):List (Int×Int)->List (Int×Int)
 | []=>[(k,1)]
 | e::r=>if e.1=k then(k,e.2+1)::r else e::g_ k r
def oY(k:Int):List (Int×Int)->Int
 | []=>0
 | e::r=>if e.1=k then e.2 else oY k r
def zE(l:List Int)(i:Int):List Int:=if i∈l then l else l++[i]
def aP(l:List a_):List Int:=(l.filter λx=>x.op==210).map (·.a)
def VV(m:Md):List Int:=(m.gs.flatMap λg=>aP g.i)++(m.els.flatMap λe=>e.it.flatMap aP)++((m.exs.filter λe=>e.k==0).map (·.i))
def I6(m:Md):Sp where
 ts:=m.ts
 fs:=(m.ims.filter λx=>x.k==0).map (·.f)++m.fs.map (·.t)
 tb:=(m.ims.filter λx=>x.k==1).map (λx=>⟨x.te,x.tl⟩)++m.tbs
 ms:=(m.ims.filter λx=>x.k==2).map (·.me)++m.ms
 gs:=(m.ims.filter λx=>x.k==3).map (·.g)++m.gs.map (·.g)
 el:=m.els.map (·.ty)
 ds:=m.ds.length
 im:=m.ims.foldl (λl x=>g_ x.k l) []
 de:=(VV m).foldl zE []
def d9{α:Type}(l:List α)(i:Int):Option α:=if 0<=i then l[i.toNat]? else none
def Sp.ty(s:Sp)(i:Int):Option Ft:=d9 s.ts i
def Sp.fn(s:Sp)(i:Int):Option Ft:=(d9 s.fs i).bind s.ty
def Sp.dec(s:Sp)(i:Int):Bool:=decide (0<=i/\i<s.fs.length)&&decide (i∈s.de)
def Sp.blk(s:Sp)(k v x:Int):Option Ft:=if k=0 then some ⟨[],[]⟩else if k=1 then(if CU v then some ⟨[],[v]⟩else none)else if k=2 then s.ty x else none
structure Sg where
 l:List Int
 lo:Bool
structure Sk where
 t:Sg
 u:List Sg
 ov:Bool
def bW:List Sg->List Int
 | []=>[]
 | g::r=>bW r++g.l
def cw:List Sg->List (Int×Bool)
 | []=>[]
 | g::r=>cw r++[(((bW r).length:Int),g.lo)]
def Sk.all(s:Sk):List Int:=bW (s.t::s.u)
def nj(lo:Bool):List Int->List Int->Option (List Int)×Int
 | ts,[]=>(some ts,0)
 | [],_::ws=>if lo then nj lo [] ws else(none,13)
 | t::ts,w::ws=>if t≠w/\t≠0/\w≠0 then(none,12)else nj lo ts ws
def Sk.left(s:Sk)(l:List Int):Option (List Int)×Int:=nj s.t.lo s.t.l.reverse l.reverse
def Sk.want(s:Sk)(l:List Int):Int×Sk:=match s.left l with
 | (some r,_)=>(0,{s with t:=⟨r.reverse,s.t.lo⟩})
 | (none,e)=>(e,s)
def Sk.push(s:Sk)(l:List Int):Sk:={s with t:=⟨s.t.l++l,s.t.lo⟩,ov:=s.ov||decide (((s.all.length+l.length:Nat):Int)>256)}
def Sk.pop(s:Sk):Int×Int×Sk:=match s.t.l.reverse with
 | t::r=>(t,0,{s with t:=⟨r.reverse,s.t.lo⟩})
 | []=>if s.t.lo then(0,0,s)else(0,13,s)
def Sk.opn(s:Sk):Sk:={s with t:=⟨[],false⟩,u:=s.t::s.u}
def Sk.shut(s:Sk)(l:List Int):Int×Sk:=match s.left l with
 | (none,e)=>(e,s)
 | (some (_::_),_)=>(14,s)
 | (some [],_)=>match s.u with
  | []=>(0,{s with t:=⟨[],false⟩})
  | g::r=>(0,{s with t:=g,u:=r})
def Sk.loose(s:Sk):Sk:={s with t:=⟨[],true⟩}
structure Bk where
 k:Int
 t:Ft
 ot:Bool
 lv:Bool
instance:Inhabited Bk:=⟨⟨0,default,false,false⟩⟩
structure Ct where
 s:Sk
 bs:List Bk
 rs:List Int
 lv:Bool
 br:Int
def Ju(rs:List Int):Ct:=⟨(⟨⟨[],false⟩,[],false⟩:Sk).opn,[⟨0,⟨[],rs⟩,false,true⟩],rs,true,0⟩
def Ct.broke(c:Ct)(e:Int):Int×Ct:=(e,{c with br:=e})
def Ct.begin(c:Ct)(b:Bk):Ct:={c with s:=c.s.opn.push b.t.ps,bs:=c.bs++[b],lv:=b.lv}
def Ct.enter2(c:Ct)(op:Int)(t:Ft):Int×Ct :=
 if(c.s.want t.ps).1≠0 then({c with s:=(c.s.want t.ps).2}:Ct).broke (c.s.want t.ps).1 else(0,({c with s:=(c.s.want t.ps).2}:Ct).begin ⟨op,t,false,c.lv⟩)
def Ct.enter(c:Ct)(op:Int)(t:Ft):Int×Ct :=
 if c.br≠0 then(c.br,c)else
 if op≠2/\op≠3/\op≠4 then(1,c)else
 if c.bs.length=0 then(16,c)else
 if op=4 then
  if(c.s.want [1]).1≠0 then({c with s:=(c.s.want [1]).2}:Ct).broke (c.s.want [1]).1 else({c with s:=(c.s.want [1]).2}:Ct).enter2 op t
 else c.enter2 op t
def Ct.top(c:Ct):Bk:=ap c.bs (c.bs.length-1)
def Ct.els(c:Ct):Int×Ct :=
 if c.br≠0 then(c.br,c)else
 if c.bs.length=0\/c.top.k≠4\/c.top.ot=true then(16,c)else
 if(c.s.shut c.top.t.rs).1≠0 then({c with s:=(c.s.shut c.top.t.rs).2}:Ct).broke (c.s.shut c.top.t.rs).1 else
 (0,({c with s:=(c.s.shut c.top.t.rs).2,bs:=c.bs.dropLast}:Ct).begin {c.top with ot:=true})
def Ct.leave(c:Ct):Int×Ct :=
 if c.br≠0 then(c.br,c)else
 if c.bs.length=0 then(16,c)else
 if(c.s.shut c.top.t.rs).1≠0 then({c with s:=(c.s.shut c.top.t.rs).2}:Ct).broke (c.s.shut c.top.t.rs).1 else
 if c.top.k=4/\c.top.ot=false/\¬c.top.t.ps=c.top.t.rs then({c with s:=(c.s.shut c.top.t.rs).2,bs:=c.bs.dropLast}:Ct).broke 12 else
 (0,{c with s:=(c.s.shut c.top.t.rs).2.push c.top.t.rs,bs:=c.bs.dropLast,lv:=c.top.lv})
def Ct.label(c:Ct)(n:Int):List Int×Int :=
 if c.br≠0 then([],c.br)else if n<0\/n>=c.bs.length then([],15)else
 if(ap c.bs (c.bs.length-1-n.toNat)).k=3 then((ap c.bs (c.bs.length-1-n.toNat)).t.ps,0)else((ap c.bs (c.bs.length-1-n.toNat)).t.rs,0)
def Ct.retn(c:Ct):List Int:=if c.br≠0 then[]else c.rs
def Ct.dead(c:Ct):Ct:=if c.br≠0\/c.bs.length=0 then c else{c with s:=c.s.loose,lv:=false}
def yc(b:Bool)(x y:Int):Int:=if b=false then 11 else if x≠y then 12 else 0
def pp(b:Bool):Int:=if b then 0 else 11
def pX(s:Sp)(x:a_):Int :=
 if gF x.op=10 then yc ((d9 s.tb x.a).isSome&&(d9 s.tb x.b).isSome) ((d9 s.tb x.a).getD default).e ((d9 s.tb x.b).getD default).e else
 if gF x.op=11 then yc ((d9 s.el x.a).isSome&&(d9 s.tb x.b).isSome) ((d9 s.el x.a).getD 0) ((d9 s.tb x.b).getD default).e else
 if gF x.op=12 then pp (d9 s.el x.a).isSome else
 if gF x.op=16 then pp (decide (x.a<s.ds))else
 if gF x.op=15 then pp ((d9 s.ms x.b).isSome&&decide (x.a<s.ds))else
 if gF x.op=14 then(if(d9 s.ms x.a).isSome=false then 11 else pp (d9 s.ms x.b).isSome)else
 if gF x.op=13 then pp (d9 s.ms x.b).isSome else
 if gF x.op=17 then(if(d9 s.ms x.b).isSome=true/\x.a>oS (mD x.op)then 19 else pp (d9 s.ms x.b).isSome)else 0
def oD(s:Sp)(lo:List Int)(x:a_):Ft×Int :=
 if gF x.op=4 then(match s.fn x.a with
  | none=>(default,11)
  | some f=>if x.op=16 then(f,0)else if s.dec x.a=false then(default,22)else(⟨[],[3]⟩,0))else
 if gF x.op=5 then(match s.ty x.a,d9 s.tb x.b with
  | some f,some t=>if t.e≠3 then(default,12)else(⟨f.ps++[1],f.rs⟩,0)
  | _,_=>(default,11))else
 if gF x.op=6 then(⟨[ap x.ty 0,ap x.ty 0,1],[ap x.ty 0]⟩,0)else
 if gF x.op=7 then(if x.a>=lo.length then(default,11)else
  if x.op=32 then(⟨[],[ap lo x.a.toNat]⟩,0)else if x.op=33 then(⟨[ap lo x.a.toNat],[]⟩,0)else(⟨[ap lo x.a.toNat],[ap lo x.a.toNat]⟩,0))else
 if gF x.op=8 then(match d9 s.gs x.a with
  | none=>(default,11)
  | some g=>if x.op=35 then(⟨[],[g.v]⟩,0)else if g.mu=false then(default,18)else(⟨[g.v],[]⟩,0))else
 if gF x.op=9 then(match d9 s.tb x.a with
  | none=>(default,11)
  | some t=>if x.op=37 then(⟨[1],[t.e]⟩,0)else if x.op=38 then(⟨[1,t.e],[]⟩,0)else if x.op=64527 then(⟨[t.e,1],[1]⟩,0)else if x.op=64529 then(⟨[1,t.e,1],[]⟩,0)else(⟨[],[1]⟩,0))else
 if gF x.op=20 then(⟨[],[x.a]⟩,0)else
 if pX s x≠0 then(default,pX s x)else(⟨(vL x.op).1,(vL x.op).2.1⟩,0)
def qK(k:Sk)(f:Ft):Int×Sk:=if(k.want f.ps).1≠0 then(k.want f.ps)else(0,(k.want f.ps).2.push f.rs)
def fI(c:Ct):List Int->List (List Int)×Int
 | []=>([],0)
 | n::r=>if(c.label n).2≠0 then([],(c.label n).2)else if(fI c r).2≠0 then fI c r else((c.label n).1::(fI c r).1,0)
def uJ:Nat->Sk->List Int->List Int×Int×Sk
 | 0,k,l=>(l,0,k)
 | n+1,k,l=>if k.pop.2.1≠0 then(l,k.pop.2.1,k.pop.2.2)else uJ n k.pop.2.2 (k.pop.1::l)
def qn(p:List Int)(l:List Int):Bool:=(p.zip l).all λq=>q.1==0||q.1==q.2
def pW(c:Ct)(x:a_):Int×Ct :=
 let R:=fI c (x.lb++[x.a])
 if R.2≠0 then(R.2,c)else
 let last:=ap R.1 (R.1.length-1)
 if(R.1.all λl=>l.length==last.length)=false then(12,c)else
 if(c.s.want [1]).1≠0 then((c.s.want [1]).1,{c with s:=(c.s.want [1]).2})else
 let P:=uJ last.length (c.s.want [1]).2 []
 if P.2.1≠0 then(P.2.1,{c with s:=P.2.2})else
 if(R.1.all λl=>qn P.1 l)=false then(12,{c with s:=P.2.2})else(0,{c with s:=P.2.2})
def n9(r:Int×Ct):Int×Ct:=if r.1=0 then(0,r.2.dead)else r
def nK(c:Ct)(x:a_):Int×Ct :=
 let L:=if x.op≠15/\x.op≠14 then c.label x.a else(c.retn,0)
 if L.2≠0 then(L.2,c)else
 if x.op=14 then n9 (pW c x)else
 if x.op=13 then
  if(c.s.want [1]).1≠0 then((c.s.want [1]).1,{c with s:=(c.s.want [1]).2})else((qK (c.s.want [1]).2 ⟨L.1,L.1⟩).1,{c with s:=(qK (c.s.want [1]).2 ⟨L.1,L.1⟩).2})
 else n9 ((c.s.want L.1).1,{c with s:=(c.s.want L.1).2})
def Ht(t:Int):Bool:=t==3||t==4
def DC(k:Sk)(a:Int):Int×Sk :=
 if k.pop.2.1≠0 then(k.pop.2.1,k.pop.2.2)else
 if Ht a=true\/Ht k.pop.1=true\/(a≠k.pop.1/\a≠0/\k.pop.1≠0)then(12,k.pop.2.2)else
 (0,k.pop.2.2.push [if a=0 then k.pop.1 else a])
def BB(k:Sk)(op:Int):Int×Sk :=
 if k.pop.2.1≠0 then(k.pop.2.1,k.pop.2.2)else
 if op=209 then(if k.pop.1=1\/k.pop.1=2 then(12,k.pop.2.2)else(0,k.pop.2.2.push [1]))else
 if op=27 then DC k.pop.2.2 k.pop.1 else(0,k.pop.2.2)
def pi(k:Sk)(op:Int):Int×Sk :=
 if op=27 then(if(k.want [1]).1≠0 then(k.want [1])else BB (k.want [1]).2 op)else BB k op
def jF(c:Ct)(s:Sp)(lo:List Int)(x:a_):Int×Ct :=
 if B9 x=false then(10,c)else
 if x.op=2\/x.op=3\/x.op=4 then(match s.blk x.k x.v x.x with
  | none=>(11,c)
  | some t=>c.enter x.op t)else
 if x.op=5 then c.els else
 if x.op=11 then c.leave else
 if x.op=0 then(0,c.dead)else
 if x.op=12\/x.op=13\/x.op=14\/x.op=15 then nK c x else
 if x.op=26\/x.op=27\/x.op=209 then((pi c.s x.op).1,{c with s:=(pi c.s x.op).2})else
 if(oD s lo x).2≠0 then((oD s lo x).2,c)else
 ((qK c.s (oD s lo x).1).1,{c with s:=(qK c.s (oD s lo x).1).2})
def B1(s:Sp)(lo:List Int):Nat->List a_->Ct->Int×Int
 | _,[],_=>(0,0)
 | i,x::r,c=>if(jF c s lo x).1≠0 then((i:Int),(jF c s lo x).1)else if(jF c s lo x).2.s.ov=true then((i:Int),6)else B1 s lo (i+1) r (jF c s lo x).2
def rH(m:Md)(s:Sp)(f:Cd):Int×Int:=match s.ty f.t with
 | none=>(0,11)
 | some t=>if(nchk f.b).2≠0 then nchk f.b else B1 s (t.ps++f.lo) 0 f.b (Ju t.rs)
def ss(op:Int):Int:=if op=106\/op=107\/op=108 then 1 else if op=124\/op=125\/op=126 then 2 else 0
def rQ(s:Sp)(x:a_)(gl:Int):Int×Int :=
 if x.op=65 then(1,0)else if x.op=66 then(2,0)else if x.op=208 then(x.a,0)else
 if x.op=210 then(if x.a<0\/x.a>=s.fs.length then(0,11)else if s.dec x.a=false then(0,22)else(3,0))else
 if x.op=35 then(match d9 s.gs x.a with
  | none=>(0,11)
  | some g=>if x.a>=gl\/g.mu=true then(0,17)else(g.v,0))else(0,17)
def wN(s:Sp)(want gl:Int):Nat->List a_->List Int->Int×Int
 | i,[],_=>((i:Int),3)
 | i,x::r,k =>
  if ss x.op≠0 then(match k with
   | a::b::k'=>if a≠ss x.op\/b≠ss x.op then((i:Int),12)else wN s want gl (i+1) r (b::k')
   | [a]=>if a≠ss x.op then((i:Int),12)else((i:Int),13)
   | []=>((i:Int),13))else
  if x.op=11 then(if r≠[]then(((i+1:Nat):Int),16)else match k with
   | []=>((i:Int),13)
   | a::k'=>if a≠want then((i:Int),12)else if k'≠[]then((i:Int),14)else(0,0))else
  if(rQ s x gl).2≠0 then((i:Int),(rQ s x gl).2)else wN s want gl (i+1) r ((rQ s x gl).1::k)
def jk(s:Sp)(l:List a_)(want:Int):Int×Int:=wN s want (oY 3 s.im) 0 l []
def vP(s:Sp)(k i:Int):Bool:=decide (0<=i)&&decide (i<(if k=0 then(s.fs.length:Int)else if k=1 then s.tb.length else if k=2 then s.ms.length else if k=3 then s.gs.length else 0))
def CS(s:Sp)(i:Int):Int×Int:=(0,if(s.ty i).isSome=true then 0 else 11)
def MD(s:Sp)(x:Im):Int×Int:=if x.k≠0 then(0,0)else CS s x.f
def mB(s:Sp):List (List UInt8)->List Ex->List (Int×Int)
 | _,[]=>[]
 | seen,x::r=>(if x.n∈seen then(0,21)else if vP s x.k x.i=false then(0,11)else(0,0))::mB s (seen++[x.n]) r
def Je(s:Sp)(i:Int):Int×Int:=(0,match s.fn i with
 | none=>11
 | some f=>if f.ps.length+f.rs.length>0 then 23 else 0)
def zV(s:Sp)(ty:Int):List (List a_)->Int×Int
 | []=>(0,0)
 | l::r=>if(jk s l ty).2≠0 then jk s l ty else zV s ty r
def Fz(s:Sp)(x:El):Int×Int :=
 if x.mo=0 then(match d9 s.tb x.tb with
  | none=>(0,11)
  | some t=>if t.e≠x.ty then(0,12)else if(jk s x.o 1).2≠0 then jk s x.o 1 else zV s x.ty x.it)
 else zV s x.ty x.it
def MC(s:Sp)(x:Da):Int×Int:=if x.mo≠0 then(0,0)else if vP s 2 x.me=false then(0,11)else jk s x.o 1
def oG(p:List Int):Int->List Cu->List (Int×Int)
 | _,[]=>[]
 | last,x::r=>(if x.af<last\/(x.af≠0/\x.af∉p)then(0,7)else(0,0))::oG p x.af r
def ck1(m:Md)(s:Sp):Fa:=kH 2 0 (m.ims.map (MD s)) Wa
def ck2(m:Md)(s:Sp):Fa:=kH 3 0 (m.fs.map λf=>CS s f.t) (ck1 m s)
def ck3(m:Md)(s:Sp):Fa:=kH 6 0 (m.gs.map λg=>jk s g.i g.g.v) (ck2 m s)
def ck4(m:Md)(s:Sp):Fa:=kH 7 0 (mB s [] m.exs) (ck3 m s)
def ck5(m:Md)(s:Sp):Fa:=if m.hs=true then kH 8 0 [Je s m.st] (ck4 m s)else ck4 m s
def ck6(m:Md)(s:Sp):Fa:=kH 9 0 (m.els.map (Fz s)) (ck5 m s)
def ck7(m:Md)(s:Sp):Fa:=kH 10 0 (m.ds.map (MC s)) (ck6 m s)
def ck8(m:Md)(s:Sp):Fa:=kH 11 0 (oG (IS m) 0 m.cs) (ck7 m s)
def ck9(m:Md)(s:Sp):Fa:=kH 12 0 (m.fs.map (rH m s)) (ck8 m s)
def Ea(m:Md):Fa:=if(w9 B9 m).c≠0 then w9 B9 m else ck9 m (I6 m)
def vb(l:List a_):List Int:=(l.filter λx=>x.op==16).map (·.a)
def yM(bs:List (List a_))(k:Nat):List Int:=aP (ap bs k)++vb (ap bs k)
def fZ(m:Md):List Int:=((m.exs.filter λe=>e.k==0).map (·.i))++(if m.hs then[m.st]else[])++(m.gs.flatMap λg=>aP g.i)++(m.els.flatMap λe=>e.it.flatMap aP)
structure Cl(f:Nat)(bs:List (List a_))(rt:List Int)(S:Nat->Prop):Prop where
 im:∀i,i<f->S i
 rt:∀i:Nat,i<f+bs.length->(i:Int)∈rt->S i
 sc:∀i,f<=i->i<f+bs.length->S i->∀j:Nat,j<f+bs.length->(j:Int)∈yM bs (i-f)->S j
def DT(f:Nat)(bs:List (List a_))(rt:List Int)(i:Nat):Prop:=i<f+bs.length/\∀S,Cl f bs rt S->S i
def DT.cl{f:Nat}{bs:List (List a_)}{rt:List Int}:Cl f bs rt (DT f bs rt) where
 im i h:=⟨by omega,λS c=>c.im i h⟩
 rt i h hr:=⟨h,λS c=>c.rt i h hr⟩
 sc i h1 h2 hi j hj hs:=⟨hj,λS c=>c.sc i h1 h2 (hi.2 S c) j hj hs⟩
structure CY(f:Nat)(bs:List (List a_))(rt:List Int)(met:List Nat)(todo:List Int):Prop where
 nd:met.Nodup
 im:∀i,i<f->i∈met
 mr:∀i∈met,DT f bs rt i
 tr:∀i:Nat,i<f+bs.length->(i:Int)∈todo->DT f bs rt i
 rr:∀i:Nat,i<f+bs.length->(i:Int)∈rt->i∈met\/(i:Int)∈todo
 sr:∀i∈met,f<=i->∀j:Nat,j<f+bs.length->(j:Int)∈yM bs (i-f)->j∈met\/(j:Int)∈todo
def CY.start{f:Nat}{bs:List (List a_)}{rt:List Int}:CY f bs rt (List.range f) rt where
 nd:=List.nodup_range
 im i h:=List.mem_range.2 h
 mr i h:=DT.cl.im i (List.mem_range.1 h)
 tr i h hi:=DT.cl.rt i h hi
 rr i h hi:=.inr hi
 sr i h hf:=absurd (List.mem_range.1 h) (by omega)
def CY.skip{f:Nat}{bs:List (List a_)}{rt:List Int}{met:List Nat}{i:Int}{todo:List Int}(c:CY f bs rt met (i::todo))(h:i<(f:Int)\/i>=(f:Int)+bs.length\/(0<=i/\i.toNat∈met)):CY f bs rt met todo:=by
 have key:∀j:Nat,j<f+bs.length->(j:Int)∈i::todo->j∈met\/(j:Int)∈todo:=by
  intro j hj hm;rcases bp.1 hm with e|e
  .subst e;rcases h with h|h|h
   .exact .inl (c.im j (by omega))
   .omega
   .exact .inl (by simpa using h.2)
  .exact .inr e
 refine⟨c.nd,c.im,c.mr,λj hj hm=>c.tr j hj (List.mem_cons_of_mem _ hm),λj hj hr=>?_,λk hk hf j hj hs=>?_⟩
 .rcases c.rr j hj hr with h|h
  .exact .inl h
  .exact key j hj h
 .rcases c.sr k hk hf j hj hs with h|h
  .exact .inl h
  .exact key j hj h
def CY.take{f:Nat}{bs:List (List a_)}{rt:List Int}{met:List Nat}{k:Nat}{todo:List Int}(c:CY f bs rt met (((f+k:Nat):Int)::todo))(hk:k<bs.length)(hn:f+k∉met):CY f bs rt (met++[f+k]) (todo++yM bs k):=by
 have hR:DT f bs rt (f+k):=c.tr (f+k) (by omega) (List.mem_cons_self ..);have key:∀j:Nat,(j:Int)∈((f+k:Nat):Int)::todo->j∈met++[f+k]\/(j:Int)∈todo++yM bs k:=by
  intro j hm;rcases bp.1 hm with e|e
  .exact .inl (by rw[Int.ofNat.inj e];simp)
  .exact .inr (List.mem_append_left _ e)
 refine⟨?_,λi h=>List.mem_append_left _ (c.im i h),λi h=>?_,λj hj hm=>?_,λj hj hr=>?_,λi hi hf j hj hs=>?_⟩
 .rw[List.nodup_append];exact⟨c.nd,by simp,λa ha b hb e=>hn (by rw[eF]at hb;rw[<-hb,<-e];exact ha)⟩
 .rcases gh.1 h with h|h
  .exact c.mr i h
  .rw[eF.1 h];exact hR
 .rcases gh.1 hm with h|h
  .exact c.tr j hj (List.mem_cons_of_mem _ h)
  .exact DT.cl.sc (f+k) (by omega) (by omega) hR j hj (by rw[Nat.add_sub_cancel_left];exact h)
 .rcases c.rr j hj hr with h|h
  .exact .inl (List.mem_append_left _ h)
  .exact key j h
 .rcases gh.1 hi with h|h
  .rcases c.sr i h hf j hj hs with h|h
   .exact .inl (List.mem_append_left _ h)
   .exact key j h
  .rw[eF.1 h,Nat.add_sub_cancel_left]at hs;exact .inr (List.mem_append_right _ hs)
def CY.stop{f:Nat}{bs:List (List a_)}{rt:List Int}{met:List Nat}(c:CY f bs rt met [])(i:Nat):i∈met↔DT f bs rt i:=by
 refine⟨c.mr i,λh=>h.2 (·∈met) ⟨c.im,λj hj hr=>?_,λk h1 h2 hk j hj hs=>?_⟩⟩
 .rcases c.rr j hj hr with h|h
  .exact h
  .cases h
 .rcases c.sr k hk h1 j hj hs with h|h
  .exact h
  .cases h
def wtA(f:Nat)(bs:List (List a_))(met:List Nat):Nat:=(((List.range bs.length).filter λk=>decide (f+k∉met)).map λk=>1+(yM bs k).length).sum
def HO{p:Nat->Bool}{w:Nat->Nat}{k:Nat}(hp:p k=true):∀{l:List Nat},l.Nodup->k∈l->((l.filter λx=>p x&&decide (x≠k)).map w).sum+w k=((l.filter p).map w).sum
 | x::l,hd,hk=>by
  rw[List.nodup_cons]at hd;by_cases e:x=k
  .subst e;rw[List.filter_cons_of_neg (by simp),List.filter_cons_of_pos hp,bY,List.sum_cons];have:(l.filter λy=>p y&&decide (y≠x))=l.filter p:=List.filter_congr λy hy=>by
    have:y≠x:=λe=>hd.1 (e▸hy);simp[this]
   rw[this];omega
  .have hk':k∈l:=by rcases bp.1 hk with h|h;exact absurd h.symm e;exact h
   have ih:=HO (w:=w) hp hd.2 hk';by_cases hx:p x=true
   .rw[List.filter_cons_of_pos (by simp[hx,e]),List.filter_cons_of_pos hx,bY,bY,List.sum_cons,List.sum_cons];omega
   .rw[List.filter_cons_of_neg (by simp[hx]),List.filter_cons_of_neg hx];exact ih
def VH{f:Nat}{bs:List (List a_)}{met:List Nat}{k:Nat}(hk:k<bs.length)(hn:f+k∉met):wtA f bs (met++[f+k])+(1+(yM bs k).length)=wtA f bs met:=by
 have h:=HO (p:=λx=>decide (f+x∉met)) (w:=λk=>1+(yM bs k).length) (k:=k) (by simpa using hn) (List.nodup_range (n:=bs.length)) (List.mem_range.2 hk);have e:((List.range bs.length).filter λx=>decide (f+x∉met++[f+k]))=(List.range bs.length).filter λx=>decide (f+x∉met)&&decide (x≠k):=List.filter_congr λx _=>by
  simp only[gh,eF,not_or,Nat.add_left_cancel_iff,Bool.decide_and]
 unfold wtA;rw[e];exact h
def FJ(o:List Bool)(i:Int):List Bool:=if 0<=i/\i<o.length then o.set i.toNat true else o
def cS(L:List Int)(o:List Bool):List Bool:=L.foldl FJ o
def J_(o:List Bool)(i:Int):(FJ o i).length=o.length:=by unfold FJ;split<;>simp
def fO(L:List Int):∀o:List Bool,(cS L o).length=o.length:=by
 induction L with
 | nil=>intro o;rfl
 | cons i L ih=>intro o;rw[cS,List.foldl_cons];exact(ih _).trans (J_ o i)
def YH(o:List Bool)(i:Int)(j:Nat)(hj:j<o.length):(FJ o i)[j]?=some true↔o[j]?=some true\/(j:Int)=i:=by
 unfold FJ;split
 .rename_i h;rw[List.getElem?_set];split
  .rename_i e;subst e;simp only[aF (show i.toNat<o.length by omega),true_iff];exact .inr (by omega)
  .rename_i e;exact⟨.inl,λh=>h.resolve_right (by omega)⟩
 .rename_i h;exact⟨.inl,λh'=>h'.resolve_right (by omega)⟩
def sT(L:List Int):∀(o:List Bool)(j:Nat),j<o.length->((cS L o)[j]?=some true↔o[j]?=some true\/(j:Int)∈L):=by
 induction L with
 | nil=>intro o j hj;simp[cS]
 | cons i L ih =>
  intro o j hj;have h:=ih (FJ o i) j (by rw[J_];exact hj);rw[cS,List.foldl_cons];refine h.trans ?_;rw[YH o i j hj,bp,or_assoc]
def G9(l:List a_):List Int:=(l.filter λx=>x.op==210||x.op==16).map (·.a)
def G_(l:List a_)(j:Int):j∈G9 l↔j∈aP l++vb l:=by
 unfold G9 aP vb;simp only[gh,dN,List.mem_filter,B4,<-exists_or];refine exists_congr λx=>?_;rw[<-or_and_right,<-and_or_left]
def He(f:Nat)(bs:List (List a_))(o:List Bool)(k:Nat):List Bool:=if o[f+k]?=some true then cS (G9 (ap bs k)) o else o
def Vv(f:Nat)(bs:List (List a_))(o:List Bool):List Bool:=(List.range bs.length).foldl (He f bs) o
def FI(o p:List Bool):Prop:=o.length=p.length/\∀j:Nat,o[j]?=some true->p[j]?=some true
def FI.rfl'(o:List Bool):FI o o:=⟨rfl,λ_ h=>h⟩
def FI.trans{o p q:List Bool}(h:FI o p)(g:FI p q):FI o q:=⟨h.1.trans g.1,λj e=>g.2 j (h.2 j e)⟩
def FI.anti{o p:List Bool}(h:FI o p)(g:FI p o):o=p:=by
 refine List.ext_getElem? λj=>?_;by_cases hj:j<o.length
 .have hp:j<p.length:=h.1▸hj;have h1:=h.2 j;have h2:=g.2 j;rw[jZ hj]at h1 h2⊢;rw[jZ hp]at h1 h2⊢;cases hq:o[j]<;>cases hr:p[j]<;>simp_all
 .rw[tV (by omega),tV (by have:=h.1;omega)]
def Fb(f:Nat)(bs:List (List a_))(o:List Bool)(k:Nat):FI o (He f bs o k):=by
 unfold He;split
 .refine⟨(fO _ _).symm,λj h=>?_⟩;have hj:j<o.length:=by rcases eJ j o.length with h1|h1;exact h1;rw[tV h1]at h;cases h
  exact(sT _ o j hj).2 (.inl h)
 .exact FI.rfl' o
def Ef(f:Nat)(bs:List (List a_)):∀(l:List Nat)(o:List Bool),FI o (l.foldl (He f bs) o)
 | [],o=>FI.rfl' o
 | k::l,o=>(Fb f bs o k).trans (Ef f bs l _)
def Kz(f:Nat)(bs:List (List a_))(o:List Bool):FI o (Vv f bs o):=Ef f bs _ o
def ZY(f:Nat)(bs:List (List a_))(o:List Bool):(Vv f bs o).length=o.length:=(Kz f bs o).1.symm
def Ge(f:Nat)(bs:List (List a_)):∀(l:List Nat)(o:List Bool),l.foldl (He f bs) o=o->∀k∈l,He f bs o k=o
 | k::l,o,h,x,hx=>by
  have h1:He f bs o k=o:=FI.anti ⟨(Fb f bs o k).1.symm,λj hj=>by
   have:=(Ef f bs l (He f bs o k)).2 j hj;rw[List.foldl_cons]at h;rw[h]at this;exact this⟩ (Fb f bs o k)
  rcases bp.1 hx with e|e
  .rw[e];exact h1
  .rw[List.foldl_cons,h1]at h;exact Ge f bs l o h x e
def iX(o:List Bool):Nat:=(o.filter id).length
def Eb{o p:List Bool}(h:FI o p):iX o<=iX p/\(iX p<=iX o->o=p):=by
 obtain⟨hl,h⟩:=h
 induction o generalizing p with
 | nil=>cases p with
  | nil=>exact⟨aN _,λ_=>rfl⟩
  | cons a p=>cases hl
 | cons a o ih=>cases p with
  | nil=>cases hl
  | cons b p =>
   have i:=ih (p:=p) (by simpa using hl) (λj e=>h (j+1) e);have h0:=h 0;simp only[List.getElem?_cons_zero,cI]at h0;cases a<;>cases b<;>simp only[iX,List.filter_cons,id,dP,fS,j1,jr,reduceCtorEq]at i⊢ <;> simp at h0<;>(refine⟨by omega,λg=>?_⟩)<;>(first|(exfalso;omega)|(rw[i.2 (by omega)]))
def AG(o:List Bool):iX o<=o.length:=List.length_filter_le _ _
structure HQ(f:Nat)(bs:List (List a_))(rt:List Int)(o:List Bool):Prop where
 ln:o.length=f+bs.length
 im:∀i,i<f->o[i]?=some true
 rr:∀i:Nat,i<f+bs.length->(i:Int)∈rt->o[i]?=some true
 mr:∀i:Nat,o[i]?=some true->DT f bs rt i
def HQ.start{f:Nat}{bs:List (List a_)}{rt:List Int}:HQ f bs rt (cS rt (List.replicate f true++List.replicate bs.length false)):=by
 have hl:(List.replicate f true++List.replicate bs.length false).length=f+bs.length:=by simp
 have h0:∀i:Nat,i<f+bs.length->((List.replicate f true++List.replicate bs.length false)[i]?=some true↔i<f):=by
  intro i hi;rw[List.getElem?_append];simp only[List.length_replicate,List.getElem?_replicate];split
  .rename_i h;simp[h]
  .rename_i h;rw[aF (by omega)];simp[h]
 refine⟨by rw[fO,hl],λi h=>(sT _ _ i (by omega)).2 (.inl ((h0 i (by omega)).2 h)),λi h hr=>(sT _ _ i (by omega)).2 (.inr hr),λi h=>?_⟩;have hi:i<f+bs.length:=by
  rcases eJ i (f+bs.length)with h1|h1
  .exact h1
  .rw[tV (by rw[fO,hl];exact h1)]at h;cases h
 rcases(sT _ _ i (by omega)).1 h with h|h
 .exact DT.cl.im i ((h0 i hi).1 h)
 .exact DT.cl.rt i hi h
def HQ.on{f:Nat}{bs:List (List a_)}{rt:List Int}{o:List Bool}(c:HQ f bs rt o)(k:Nat)(hk:k<bs.length):HQ f bs rt (He f bs o k):=by
 have g:=Fb f bs o k;refine⟨g.1.symm.trans c.ln,λi h=>g.2 i (c.im i h),λi h hr=>g.2 i (c.rr i h hr),λi h=>?_⟩;unfold He at h;split at h
 .rename_i hq;have hi:i<o.length:=by
   rcases eJ i o.length with h1|h1
   .exact h1
   .rw[tV (by rw[fO];exact h1)]at h;cases h
  rcases(sT _ _ i hi).1 h with h|h
  .exact c.mr i h
  .refine DT.cl.sc (f+k) (by omega) (by omega) (c.mr _ hq) i (c.ln▸hi) ?_;rw[Nat.add_sub_cancel_left];exact(G_ _ _).1 h
 .exact c.mr i h
def HQ.sw{f:Nat}{bs:List (List a_)}{rt:List Int}{o:List Bool}(c:HQ f bs rt o):HQ f bs rt (Vv f bs o):=by
 have:∀(l:List Nat)(o:List Bool),(∀k∈l,k<bs.length)->HQ f bs rt o->HQ f bs rt (l.foldl (He f bs) o):=by
  intro l
  induction l with
  | nil=>intro o _ c;exact c
  | cons k l ih=>intro o hl c;exact ih _ (λx hx=>hl x (List.mem_cons_of_mem _ hx)) (c.on k (hl k (List.mem_cons_self ..)))
 exact this _ o (λk hk=>List.mem_range.1 hk) c
open Classical in
noncomputable def yG(f:Nat)(bs:List (List a_))(rt:List Int):List Bool:=(List.range (f+bs.length)).map λi=>decide (DT f bs rt i)
def nn(f:Nat)(bs:List (List a_))(rt:List Int):(yG f bs rt).length=f+bs.length:=by simp[yG]
def Ak(f:Nat)(bs:List (List a_))(rt:List Int)(i:Nat)(hi:i<f+bs.length):(yG f bs rt)[i]?=some true↔DT f bs rt i:=by
 unfold yG;rw[fR,B2 hi];simp
def HQ.stop{f:Nat}{bs:List (List a_)}{rt:List Int}{o:List Bool}(c:HQ f bs rt o)(h:iX (Vv f bs o)=iX o):o=yG f bs rt:=by
 have e:Vv f bs o=o:=((Eb (Kz f bs o)).2 (Nat.le_of_eq h)).symm;have hx:=Ge f bs _ o e;refine FI.anti ⟨c.ln.trans (nn f bs rt).symm,λj hj=>?_⟩ ⟨(nn f bs rt).trans c.ln.symm,λj hj=>?_⟩
 .have hR:=c.mr j hj;exact(Ak f bs rt j hR.1).2 hR
 .have hl:j<f+bs.length:=by
   rcases eJ j (f+bs.length)with h1|h1
   .exact h1
   .rw[tV (by rw[nn];exact h1)]at hj;cases hj
  refine((Ak f bs rt j hl).1 hj).2 (λi=>o[i]?=some true) ⟨c.im,c.rr,λi h1 h2 hi j hj hs=>?_⟩;have h3:=hx (i-f) (List.mem_range.2 (by omega));unfold He at h3;rw[show f+(i-f)=i by omega,aF hi]at h3;rw[<-h3];exact(sT _ _ j (by rw[c.ln];exact hj)).2 (.inr ((G_ _ _).2 hs))
section
def wX(p:Int×Int):AV×AV:=(.int .i64 p.1,.int .i64 p.2)
def qP(i:Int):AV×AV:=(.int .i64 i,.bool true)
def spC(s:Sp):List AV:=[.sl 2 (s.ts.map kz),.sl 1 (s.fs.map bg),.sl 4 (s.tb.map ya),.sl 3 (s.ms.map w_),.sl 2 (s.gs.map JO),.sl 1 (s.el.map bg),.int .i64 s.ds,.fm (s.im.map wX),.fm (s.de.map qP)]
def aD(s:Sp):spC s=[.sl 2 (s.ts.map kz),.sl 1 (s.fs.map bg),.sl 4 (s.tb.map ya),.sl 3 (s.ms.map w_),.sl 2 (s.gs.map JO),.sl 1 (s.el.map bg),.int .i64 s.ds,.fm (s.im.map wX),.fm (s.de.map qP)]:=rfl
def qZ(s:Sp):AV:=.ip [.ip (spC s)]
def bc(s:Sp):qZ s = .ip [.ip (spC s)]:=rfl
def AQ(k:Int):∀es:List (Int×Int),dq .i (.int .i64 k) (es.map wX)=some (es.findIdx? λp=>k==p.1)
 | []=>rfl
 | e::r=>by
  simp only[bY,dq,wX,xI,dP,List.findIdx?_cons];cases h:(k==e.1)
  .simp only[AQ k r];cases r.findIdx? (λp=>k==p.1)<;>rfl
  .rfl
def Pp(k:Int):∀(es:List (Int×Int)),(∀i,es.findIdx? (λp=>k==p.1)=some i->∃e,es[i]?=some e/\e.2=oY k es)/\(es.findIdx? (λp=>k==p.1)=none->oY k es=0)
 | []=>⟨(λi h=>by cases h),λ_=>rfl⟩
 | e::r=>by
  obtain⟨h1,h2⟩:=Pp k r;rw[List.findIdx?_cons];cases h:(k==e.1)
  .have he:¬e.1=k:=λq=>by rw[q,beq_self_eq_true]at h;cases h
   simp only[jr,fS,oY,ax he];refine⟨λi hi=>?_,λhi=>h2 (by cases hq:r.findIdx? (λp=>k==p.1)with|none=>rfl|some j=>rw[hq]at hi;cases hi)⟩;cases hq:r.findIdx? (λp=>k==p.1)with
   | none=>rw[hq]at hi;cases hi
   | some j =>
    rw[hq]at hi;simp only[fo,cI]at hi;subst hi;obtain⟨e',q1,q2⟩:=h1 j hq;exact⟨e',by rw[zW];exact q1,q2⟩
  .have he:e.1=k:=(eq_of_beq h).symm;simp only[dP,oY,aF he];refine⟨λi hi=>?_,λhi=>by cases hi⟩;cases hi;exact⟨e,rfl,rfl⟩
def IA(K:AV->aW->Prop)(k:Int)(es:List (Int×Int)):GB K false (.int .i64 0) (es.map wX) (dq .i (.int .i64 k) (es.map wX))=K (.int .i64 (oY k es)) .no:=by
 obtain⟨h1,h2⟩:=Pp k es;rw[AQ];cases h:es.findIdx? (λp=>k==p.1)with
 | none=>simp only[GB,h2 h,jr,fS]
 | some i =>
  obtain⟨e,he,hv⟩:=h1 i h;simp only[GB,fR,he,fo,wX,hv,jr,fS]
def AP(k:Int):∀es:List Int,dq .i (.int .i64 k) (es.map qP)=some (es.findIdx? λp=>k==p)
 | []=>rfl
 | e::r=>by
  simp only[bY,dq,qP,xI,dP,List.findIdx?_cons];cases h:(k==e)
  .simp only[AP k r];cases r.findIdx? (λp=>k==p)<;>rfl
  .rfl
def Pq(K:AV->aW->Prop)(k:Int)(es:List Int):GB K false (.bool false) (es.map qP) (dq .i (.int .i64 k) (es.map qP))=K (.bool (decide (k∈es))) .no:=by
 rw[AP];cases h:es.findIdx? (λp=>k==p)with
 | none =>
  have hn:k∉es:=λhk=>by
   have:=List.findIdx?_eq_none_iff.1 h k hk;simp at this
  simp only[GB,jr,fS,aC hn]
 | some i =>
  obtain⟨hi,h1,_⟩:=List.findIdx?_eq_some_iff_getElem.1 h;have hm:k∈es:=by
   have:k=es[i]:=by simpa using h1
   rw[this];exact gO hi
  simp only[GB,fR,jZ hi,fo,qP,jr,fS,aw hm]
attribute[local go_sem] IA Pq
def lw{α:Type}{l:List α}{i:Int}(h:i<0\/i>=l.length):d9 l i=none:=by
 unfold d9;split
 .exact tV (by omega)
 .rfl
def yd{α:Type}[Inhabited α]{l:List α}{n:Nat}(h:n<l.length):d9 l (n:Int)=some (ap l n):=by
 unfold d9;rw[aF (by omega),cY,dV h]
attribute[local go_sem] bP aU cC bT
def acu(l:List Int)(i:Int):ah pg Bs [.sl 1 (l.map bg),.int .i64 i] (.tup [.int .i64 ((d9 l i).getD 0),.bool (d9 l i).isSome]):=by
 refine au gx ?_;have FF:=gx;by_cases h0:i<0
 .rw[lw (.inl h0)];simp only[go_sem,gx,aw h0];exact an
 by_cases h1:i>=(l.length:Int)
 .rw[lw (.inr h1)];simp only[go_sem,gx,aC h0,aw h1];exact an
 obtain⟨n,rfl⟩:∃n:Nat,i=(n:Int):=⟨i.toNat,by omega⟩
 have hn:n<l.length:=by omega
 rw[yd hn];simp only[go_sem,gx,aC h0,aC h1];refine⟨by omega,by omega,?_⟩;exact aE [] (by simp only[go_sem,cY,gb,Option.isSome_some]) (by first|rfl|simp[go_sem,bv])
end
section
def rO(x:Gl):JO x=[.int .i64 x.v,.bool x.mu]:=rfl
attribute[local go_sem] rO IA Pq
def lD{α β:Type}(f:α->β)(l:List α):(l.map f).take l.length=l.map f:=gN (by simp)
def Vz{s:Sp}(h:∀x∈s.ts,x.ps.length<=1000000/\x.rs.length<=1000000)(i:Int):((s.ty i).getD default).ps.length<=1000000/\((s.ty i).getD default).rs.length<=1000000:=by
 unfold Sp.ty d9;split
 .cases hq:s.ts[i.toNat]? with
  | none=>exact⟨cR _,cR _⟩
  | some x=>exact h x (nF hq)
 .exact⟨cR _,cR _⟩
attribute[local go_sem] bP aU cC bT bc aD
def Wv(l:List Ft)(i:Int):ah pg tO [.sl 2 (l.map kz),.int .i64 i] (.tup [.agg (kz ((d9 l i).getD default)),.bool (d9 l i).isSome]):=by
 refine au eR ?_;by_cases h0:i<0
 .rw[lw (.inl h0)];simp only[go_sem,eR,aw h0];exact gM (Wk.nlh _ 4 (r:=[.nl,.nl]) (r':=[.sl 1 [],.sl 1 []]) (by rfl) ⟨.inr ⟨rfl,1,rfl⟩,.inr ⟨rfl,1,rfl⟩,trivial⟩) [] (by rfl) rfl
 by_cases h1:i>=(l.length:Int)
 .rw[lw (.inr h1)];simp only[go_sem,eR,aC h0,aw h1];exact gM (Wk.nlh _ 4 (r:=[.nl,.nl]) (r':=[.sl 1 [],.sl 1 []]) (by rfl) ⟨.inr ⟨rfl,1,rfl⟩,.inr ⟨rfl,1,rfl⟩,trivial⟩) [] (by rfl) rfl
 obtain⟨n,rfl⟩:∃n:Nat,i=(n:Int):=⟨i.toNat,by omega⟩
 have hn:n<l.length:=by omega
 rw[yd hn];simp only[go_sem,eR,aC h0,aC h1];refine⟨by omega,by omega,?_⟩;exact aE [] (by simp only[go_sem,cY,gb,Option.isSome_some]) (by first|rfl|simp[go_sem,bv])
def acw(l:List Tb)(i:Int):ah pg si [.sl 4 (l.map ya),.int .i64 i] (.tup [.agg (ya ((d9 l i).getD default)),.bool (d9 l i).isSome]):=by
 refine au ew ?_;by_cases h0:i<0
 .rw[lw (.inl h0)];simp only[go_sem,ew,aw h0];exact an
 by_cases h1:i>=(l.length:Int)
 .rw[lw (.inr h1)];simp only[go_sem,ew,aC h0,aw h1];exact an
 obtain⟨n,rfl⟩:∃n:Nat,i=(n:Int):=⟨i.toNat,by omega⟩
 have hn:n<l.length:=by omega
 rw[yd hn];simp only[go_sem,ew,aC h0,aC h1];refine⟨by omega,by omega,?_⟩;exact aE [] (by simp only[go_sem,cY,gb,Option.isSome_some]) (by first|rfl|simp[go_sem,bv])
def acv(l:List Lm)(i:Int):ah pg qY [.sl 3 (l.map w_),.int .i64 i] (.tup [.agg (w_ ((d9 l i).getD default)),.bool (d9 l i).isSome]):=by
 refine au dY ?_;by_cases h0:i<0
 .rw[lw (.inl h0)];simp only[go_sem,dY,aw h0];exact an
 by_cases h1:i>=(l.length:Int)
 .rw[lw (.inr h1)];simp only[go_sem,dY,aC h0,aw h1];exact an
 obtain⟨n,rfl⟩:∃n:Nat,i=(n:Int):=⟨i.toNat,by omega⟩
 have hn:n<l.length:=by omega
 rw[yd hn];simp only[go_sem,dY,aC h0,aC h1];refine⟨by omega,by omega,?_⟩;exact aE [] (by simp only[go_sem,cY,gb,Option.isSome_some]) (by first|rfl|simp[go_sem,bv])
def act(l:List Gl)(i:Int):ah pg qX [.sl 2 (l.map JO),.int .i64 i] (.tup [.agg (JO ((d9 l i).getD default)),.bool (d9 l i).isSome]):=by
 refine au dX ?_;by_cases h0:i<0
 .rw[lw (.inl h0)];simp only[go_sem,dX,aw h0];exact an
 by_cases h1:i>=(l.length:Int)
 .rw[lw (.inr h1)];simp only[go_sem,dX,aC h0,aw h1];exact an
 obtain⟨n,rfl⟩:∃n:Nat,i=(n:Int):=⟨i.toNat,by omega⟩
 have hn:n<l.length:=by omega
 rw[yd hn];simp only[go_sem,dX,aC h0,aC h1];refine⟨by omega,by omega,?_⟩;exact aE [] (by simp only[go_sem,cY,gb,Option.isSome_some]) (by first|rfl|simp[go_sem,bv])
def acx(l:List Int)(i:Int):ah pg vw [.sl 1 (l.map bg),.int .i64 i] (.tup [.int .i64 ((d9 l i).getD 0),.bool (d9 l i).isSome]):=by
 refine au fG ?_;by_cases h0:i<0
 .rw[lw (.inl h0)];simp only[go_sem,fG,aw h0];exact an
 by_cases h1:i>=(l.length:Int)
 .rw[lw (.inr h1)];simp only[go_sem,fG,aC h0,aw h1];exact an
 obtain⟨n,rfl⟩:∃n:Nat,i=(n:Int):=⟨i.toNat,by omega⟩
 have hn:n<l.length:=by omega
 rw[yd hn];simp only[go_sem,fG,aC h0,aC h1];refine⟨by omega,by omega,?_⟩;exact aE [] (by simp only[go_sem,cY,gb,Option.isSome_some]) (by first|rfl|simp[go_sem,bv])
def gg(s:Sp):ah pg rX [qZ s] (.ip (spC s)):=by
 refine au kR ?_;simp only[go_sem,kR];exact an
def BO(s:Sp):ah pg rV [qZ s] (.int .i64 (s.fs.length:Int)):=by
 refine au kP ?_;have c:=gg s;simp only[bc,aD]at c;simp only[go_sem,kP];refine aa (c) ?_;exact ac
def Mo(s:Sp):ah pg qS [qZ s] (.int .i64 (s.tb.length:Int)):=by
 refine au j7 ?_;have c:=gg s;simp only[bc,aD]at c;simp only[go_sem,j7];refine aa (c) ?_;exact ac
def Ve(s:Sp):ah pg tA [qZ s] (.int .i64 (s.ms.length:Int)):=by
 refine au lL ?_;have c:=gg s;simp only[bc,aD]at c;simp only[go_sem,lL];refine aa (c) ?_;exact ac
def I1(s:Sp):ah pg pN [qZ s] (.int .i64 (s.gs.length:Int)):=by
 refine au js ?_;have c:=gg s;simp only[bc,aD]at c;simp only[go_sem,js];refine aa (c) ?_;exact ac
def QV(s:Sp):ah pg rU [qZ s] (.int .i64 s.ds):=by
 refine au kO ?_;have c:=gg s;simp only[bc,aD]at c;simp only[go_sem,kO];refine aa (c) ?_;exact ac
def sF(s:Sp)(i:Int):ah pg rW [qZ s,.int .i64 i] (.tup [.agg (ya ((d9 s.tb i).getD default)),.bool (d9 s.tb i).isSome]):=by
 refine au kQ ?_;have c:=gg s;simp only[bc,aD]at c;have c2:=acw s.tb i;generalize d9 s.tb i=q at c2⊢;simp only[go_sem,kQ];refine aa (c) ?_;refine aa (c2) ?_;exact ac
def Q5(s:Sp)(i:Int):ah pg vt [qZ s,.int .i64 i] (.tup [.agg (w_ ((d9 s.ms i).getD default)),.bool (d9 s.ms i).isSome]):=by
 refine au mM ?_;have c:=gg s;simp only[bc,aD]at c;have c2:=acv s.ms i;generalize d9 s.ms i=q at c2⊢;simp only[go_sem,mM];refine aa (c) ?_;refine aa (c2) ?_;exact ac
def DL(s:Sp)(i:Int):ah pg qQ [qZ s,.int .i64 i] (.tup [.agg (JO ((d9 s.gs i).getD default)),.bool (d9 s.gs i).isSome]):=by
 refine au j5 ?_;have c:=gg s;simp only[bc,aD]at c;have c2:=act s.gs i;generalize d9 s.gs i=q at c2⊢;simp only[go_sem,j5];refine aa (c) ?_;refine aa (c2) ?_;exact ac
def Vi(s:Sp)(i:Int):ah pg tx [qZ s,.int .i64 i] (.tup [.int .i64 ((d9 s.el i).getD 0),.bool (d9 s.el i).isSome]):=by
 refine au lJ ?_;have c:=gg s;simp only[bc,aD]at c;have c2:=acx s.el i;generalize d9 s.el i=q at c2⊢;simp only[go_sem,lJ];refine aa (c) ?_;refine aa (c2) ?_;exact ac
def Hx(x:Ft)(h:x.ps.length<=2000000/\x.rs.length<=2000000):ah pg sj [.agg (kz x)] (.agg (kz x)):=by
 refine au jD ?_;simp only[go_sem,jD];refine It (x.ps.map bg) (Xe rfl (by rfl) (by simp only[bP];omega)) (by simp only[go_sem]) (by simp only[go_sem]) ?_;simp only[go_sem];refine⟨by omega,aE [8] ?_ rfl⟩;simp only[go_sem,aN,lD]
def Ml(x:Ft)(h:x.ps.length<=1000000/\x.rs.length<=1000000):aZ pg sj [.agg (kz x)] [] (λid=>1000<=id/\id<2000) (λr σ'=>r = .agg [.ms 5 1 0 x.ps.length,.sl 1 (x.rs.map bg)]/\σ'=[(5,⟨71,1,x.ps.map bg,false⟩)]):=by
 refine dj jD ?_;simp only[go_sem,jD];refine Gq ?_;simp only[go_sem];refine⟨by omega,by omega,?_⟩;refine done [8] _ [(5,⟨71,1,x.ps.map bg,false⟩)] ?_ (by simp only[go_sem]) rfl ⟨rfl,rfl⟩;simp only[go_sem,aN,lD]
def Fm(s:Sp)(i:Int)(h:∀x∈s.ts,x.ps.length<=1000000/\x.rs.length<=1000000):ah pg lX [qZ s,.int .i64 i] (.tup [.agg (kz ((s.ty i).getD default)),.bool (s.ty i).isSome]):=by
 refine au eQ ?_;have c:=gg s;simp only[bc,aD]at c;have c2:=Wv s.ts i;have hb:((s.ty i).getD default).ps.length<=1000000/\((s.ty i).getD default).rs.length<=1000000:=Vz h i;have c3:=Hx ((s.ty i).getD default) ⟨cZ hb.1 (by decide),cZ hb.2 (by decide)⟩;rw[show d9 s.ts i=s.ty i from rfl]at c2;generalize s.ty i=q at c2 c3⊢;simp only[aU]at c2 c3;simp only[go_sem,eQ];refine aa (c) ?_;refine aa (c2) ?_;refine aa (c3) ?_;exact ac
def U8(s:Sp)(i:Int)(h:∀x∈s.ts,x.ps.length<=1000000/\x.rs.length<=1000000):aZ pg lX [qZ s,.int .i64 i] [] (λid=>1000<=id/\id<2000) (λr σ'=>r = .tup [.agg [.ms 905 1 0 ((s.ty i).getD default).ps.length,.sl 1 (((s.ty i).getD default).rs.map bg)],.bool (s.ty i).isSome]/\σ'=[(905,⟨71,1,((s.ty i).getD default).ps.map bg,false⟩)]):=by
 refine dj eQ ?_;have c:=gg s;simp only[bc,aD]at c;have c2:=Wv s.ts i;have hb:((s.ty i).getD default).ps.length<=1000000/\((s.ty i).getD default).rs.length<=1000000:=Vz h i;have c3:=Ml ((s.ty i).getD default) hb;rw[show d9 s.ts i=s.ty i from rfl]at c2;generalize s.ty i=q at c2 c3⊢;simp only[aU]at c2 c3;simp only[go_sem,eQ];refine aa (c) ?_;refine aa (c2) ?_;refine ey (σ2:=[]) (r3:=.agg [.ms 905 1 0 (q.getD default).ps.length,.sl 1 ((q.getD default).rs.map bg)]) (σ3:=[(905,⟨71,1,(q.getD default).ps.map bg,false⟩)]) c3 [(5,905)] [905] rfl rfl rfl rfl (λp hp=>by cases hp) ?_ (λp hp=>by cases hp) ?_
 .intro p hp;simp only[eF]at hp;subst hp;exact .inr ⟨by simp,.inl (show 905<1000 by decide),.inr (by simp only[go_sem])⟩
 simp only[go_sem];exact aM [] _ [(905,⟨71,1,(q.getD default).ps.map bg,false⟩)] ⟨rfl,rfl⟩
def QK(s:Sp)(i:Int)(h:∀x∈s.ts,x.ps.length<=1000000/\x.rs.length<=1000000):ah pg tz [qZ s,.int .i64 i] (.tup [.agg (kz ((s.fn i).getD default)),.bool (s.fn i).isSome]):=by
 refine au lK ?_;have c:=gg s;have c2:=acu s.fs i;have c3:=Fm s ((d9 s.fs i).getD 0) h;rw[show s.fn i=(d9 s.fs i).bind s.ty from rfl];simp only[bc,aD,aU]at c c3;generalize d9 s.fs i=q at c2 c3⊢;simp only[go_sem,lK];refine aa (c) ?_;refine aa (c2) ?_;cases q with
 | none =>
  simp only[go_sem,Option.isSome_none,Option.bind_none];exact gM (Wk.nlh _ 4 (r:=[.nl,.nl]) (r':=[.sl 1 [],.sl 1 []]) (by rfl) ⟨.inr ⟨rfl,1,rfl⟩,.inr ⟨rfl,1,rfl⟩,trivial⟩) [] (by rfl) rfl
 | some k =>
  simp only[go_sem,Option.isSome_some,gb,Option.bind_some];refine aa (c3) ?_;exact ac
def BN(s:Sp)(k:Int):ah pg o3 [qZ s,.int .i64 k] (.int .i64 (oY k s.im)):=by
 refine au je ?_;have c:=gg s;simp only[bc,aD]at c;simp only[go_sem,je];refine aa (c) ?_;exact ac
def BM(s:Sp)(i:Int):ah pg oZ [qZ s,.int .i64 i] (.bool (s.dec i)):=by
 refine au eT ?_;have c:=gg s;have c2:=BO s;simp only[bc,aD]at c c2;unfold Sp.dec;by_cases h0:i>=0;rotate_left
 .rw[aC (show ¬(0<=i/\i<(s.fs.length:Int))by omega),gX];simp only[go_sem,eT,aC h0];exact ac
 simp only[go_sem,eT,aw h0];refine ak (c2) ?_;by_cases h1:i<(s.fs.length:Int);rotate_left
 .rw[aC (show ¬(0<=i/\i<(s.fs.length:Int))by omega),gX];simp only[go_sem,aC h1];exact ac
 rw[aw (show 0<=i/\i<(s.fs.length:Int)by omega),gp];simp only[go_sem,aw h1];refine aa (c) ?_;exact ac
def Kq(s:Sp)(k v x:Int)(h:∀x∈s.ts,x.ps.length<=1000000/\x.rs.length<=1000000):ah pg rT [qZ s,.agg [.int .i64 k,.int .i64 v,.int .i64 x]] (.tup [.agg (kz ((s.blk k v x).getD default)),.bool (s.blk k v x).isSome]):=by
 refine au dh ?_;have c2:=PM v;have c3:=Fm s x h;simp only[bc,aD,aU]at c3;unfold Sp.blk;by_cases h0:k=0
 .subst h0;simp only[go_sem,dh];exact gM (Wk.nlh _ 4 (r:=[.nl,.nl]) (r':=[.sl 1 [],.sl 1 []]) (by rfl) ⟨.inr ⟨rfl,1,rfl⟩,.inr ⟨rfl,1,rfl⟩,trivial⟩) [] (by rfl) rfl
 by_cases h1:k=1
 .subst h1;simp only[go_sem,dh];refine ak (c2) ?_;cases CU v
  .simp only[go_sem];exact gM (Wk.nlh _ 4 (r:=[.nl,.nl]) (r':=[.sl 1 [],.sl 1 []]) (by rfl) ⟨.inr ⟨rfl,1,rfl⟩,.inr ⟨rfl,1,rfl⟩,trivial⟩) [] (by rfl) rfl
  .simp only[go_sem];exact gM (Wk.nlm _ 4 (r:=[.nl,.ms 28 1 0 1]) (r':=[.sl 1 [],.ms 28 1 0 1]) (by rfl) ⟨.inr ⟨rfl,.inl ⟨1,rfl⟩⟩,.inl rfl,trivial⟩) [28] (by simp only[go_sem];rfl) rfl
 by_cases h2:k=2
 .subst h2;rw[ax h0,ax h1,aF rfl];simp only[go_sem,dh];refine aa (c3) ?_;exact ac
 rw[ax h0,ax h1,ax h2];simp only[go_sem,dh,ab h0,ab h1,ab h2];exact gM (Wk.nlh _ 4 (r:=[.nl,.nl]) (r':=[.sl 1 [],.sl 1 []]) (by rfl) ⟨.inr ⟨rfl,1,rfl⟩,.inr ⟨rfl,1,rfl⟩,trivial⟩) [] (by rfl) rfl
