import Derived.Test.YthhglklcaodfmaaGreatDoorQr
set_option linter.all false
set_option maxRecDepth 100000
set_option maxHeartbeats 40000000
namespace Go.Proofs.YthhglklcaodfmaaGreatDoor
section
open Go Go.Mw
def Q7 (m:Md):Nat:=m.ts.length+m.ims.length+m.fs.length+m.exs.length+m.els.length+m.ds.length+m.cs.length+m.gs.length
def yS (m:Md):Bool:=decide (Ou m≤600)&&decide ((Q7 m:Int)≤300)
attribute [local go_sem] bT bM
theorem od {m:Md} (h:ol m):aj Tryz.prog ZD [gY m] (.bool (yS m)):=by
 refine ac (ic:=GG.body) ap Xj rfl rfl ?_
 have c:=LI m h
 simp only [gY,bM] at c
 simp only [go_sem,GG,gY]
 refine aa (c) ?_
 unfold yS
 by_cases q:Ou m≤600
 rotate_left
 ·rw [bF q]
  simp only [go_sem,bF q]
  exact ak
 rw [bH q]
 have b1:=h.ts.1
 have b2:=h.ims
 have b3:=h.fs.1
 have b4:=h.exs
 have b5:=h.els.1
 have b6:=h.ds.1
 have b7:=h.cs.1
 have b8:=h.gs.1
 have w1:=wi (n:=(m.ts.length:Int)+m.ims.length) (by omega) (by omega)
 have w2:=wi (n:=(m.ts.length:Int)+m.ims.length+m.fs.length) (by omega) (by omega)
 have w3:=wi (n:=(m.ts.length:Int)+m.ims.length+m.fs.length+m.exs.length) (by omega) (by omega)
 have w4:=wi (n:=(m.ts.length:Int)+m.ims.length+m.fs.length+m.exs.length+m.els.length) (by omega) (by omega)
 have w5:=wi (n:=(m.ts.length:Int)+m.ims.length+m.fs.length+m.exs.length+m.els.length+m.ds.length) (by omega) (by omega)
 have w6:=wi (n:=(m.ts.length:Int)+m.ims.length+m.fs.length+m.exs.length+m.els.length+m.ds.length+m.cs.length) (by omega) (by omega)
 have w7:=wi (n:=(m.ts.length:Int)+m.ims.length+m.fs.length+m.exs.length+m.els.length+m.ds.length+m.cs.length+m.gs.length) (by omega) (by omega)
 have e:(Q7 m:Int)=(m.ts.length:Int)+m.ims.length+m.fs.length+m.exs.length+m.els.length+m.ds.length+m.cs.length+m.gs.length:=by unfold Q7;omega
 rw [e]
 simp only [go_sem,bH q,w1,w2,w3,w4,w5,w6,w7]
 exact ak
theorem uK {B:Nat} (hB:B≤140737488355328) {l:List bv} (h:bL zE B l):Ca l:=⟨by have:=h.1;omega,fun x hx=>⟨by have:=(h.2 x hx).2.1.1;omega,by have:=(h.2 x hx).2.2.1;omega,(h.2 x hx).1.1⟩⟩
theorem AS {B:Nat} (hB:B≤140737488355328) {m:Md} (hm:WL B m):ol m:=by
 obtain ⟨b1,b2,b3,b4,b5,b6,b7,b8,b9,b10⟩:=hm
 exact ⟨⟨eJ b1.1 hB,fun x hx=>⟨by have:=(b1.2 x hx).1.1;omega,by have:=(b1.2 x hx).2.1;omega⟩⟩,eJ b2.1 hB,⟨eJ b3.1 hB,fun x hx=>⟨by have:=(b3.2 x hx).1.1;omega,uK hB (b3.2 x hx).2⟩⟩,eJ b4.1 hB,eJ b5.1 hB,⟨eJ b6.1 hB,fun x hx=>uK hB (b6.2 x hx)⟩,eJ b7.1 hB,⟨eJ b8.1 hB,fun x hx=>⟨uK hB (b8.2 x hx).1,eJ (b8.2 x hx).2.1 hB,fun l hl=>uK hB ((b8.2 x hx).2.2 l hl)⟩⟩,⟨eJ b9.1 hB,fun x hx=>⟨uK hB (b9.2 x hx).1,by have:=(b9.2 x hx).2.1;omega⟩⟩,⟨eJ b10.1 hB,fun x hx=>by have:=(b10.2 x hx).2.1;show x.b.length≤_;omega⟩⟩
def exT:List Ft:=[⟨[],[1]⟩]
def EH:Md:=⟨exT,[],[⟨0,[],[⟨66,0,0,1,0,0,0,[],[]⟩,⟨11,0,0,0,0,0,0,[],[]⟩]⟩],[],[],[],[],false,0,[],[],[]⟩
def EI:Md:=⟨exT,[],[⟨0,[],[⟨65,0,0,1,0,0,0,[],[]⟩,⟨11,0,0,0,0,0,0,[],[]⟩]⟩],[],[],[],[⟨[120],0,0⟩,⟨[120],0,7⟩],false,0,[],[],[]⟩
def IN:Md:=⟨[],[],[],[],[],[],[],false,0,[],[],[]⟩
theorem adT:dD EH =⟨12,0,1,12⟩:=by kernel_rfl
theorem adU:dD EI =⟨7,1,0,21⟩:=by kernel_rfl
theorem Yh:dD IN =⟨0,0,0,0⟩:=by kernel_rfl
def rw0:List AV:=[.nl,.nl,.nl,.nl,.nl,.nl,.nl,.bool false,.int .i64 0,.nl,.nl,.nl]
def Gq (op n:Int):List AV:=[.int .i64 op,.int .i64 0,.int .i64 0,.int .u64 n,.int .i64 0,.int .i64 0,.int .i64 0,.nl,.nl]
def rwA:List AV:=[.sl 2 [[.nl,.sl 1 [[.int .i64 1]]]],.nl,.sl 3 [[.int .i64 0,.nl,.sl 9 [Gq 66 1,Gq 11 0]]],.nl,.nl,.nl,.nl,.bool false,.int .i64 0,.nl,.nl,.nl]
def rwB:List AV:=[.sl 2 [[.nl,.sl 1 [[.int .i64 1]]]],.nl,.sl 3 [[.int .i64 0,.nl,.sl 9 [Gq 65 1,Gq 11 0]]],.nl,.nl,.nl,.sl 3 [[.str [120],.int .i64 0,.int .i64 0],[.str [120],.int .i64 0,.int .i64 7]],.bool false,.int .i64 0,.nl,.nl,.nl]
theorem aaO (op n:Int):aH Nd (Gq op n) (cD ⟨op,0,0,n,0,0,0,[],[]⟩):=⟨.rfl _,.rfl _,.rfl _,.rfl _,.rfl _,.rfl _,.rfl _,.nl _,.nl _,trivial⟩
theorem UG (op n op' n':Int):Nd (.sl 9 [Gq op n,Gq op' n']) (.sl 9 [cD ⟨op,0,0,n,0,0,0,[],[]⟩,cD ⟨op',0,0,n',0,0,0,[],[]⟩]):=jU ⟨aaO _ _,aaO _ _,trivial⟩
theorem Re:Rf (.agg rw0) (gY IN):=.inr ⟨_,_,rfl,rfl,.nl _,.nl _,.nl _,.nl _,.nl _,.nl _,.nl _,.rfl _,.rfl _,.nl _,.nl _,.nl _,trivial⟩
theorem aaP:Rf (.agg rwA) (gY EH):=.inr ⟨_,_,rfl,rfl,jU ⟨⟨.nl _,.rfl _,trivial⟩,trivial⟩,.nl _,jU ⟨⟨.rfl _,.nl _,UG _ _ _ _,trivial⟩,trivial⟩,.nl _,.nl _,.nl _,.nl _,.rfl _,.rfl _,.nl _,.nl _,.nl _,trivial⟩
theorem aaQ:Rf (.agg rwB) (gY EI):=.inr ⟨_,_,rfl,rfl,jU ⟨⟨.nl _,.rfl _,trivial⟩,trivial⟩,.nl _,jU ⟨⟨.rfl _,.nl _,UG _ _ _ _,trivial⟩,trivial⟩,.nl _,.nl _,.nl _,.rfl _,.rfl _,.rfl _,.nl _,.nl _,.nl _,trivial⟩
theorem Rq:ol IN:=⟨⟨by decide,fun x h=>by cases h⟩,by decide,⟨by decide,fun x h=>by cases h⟩,by decide,by decide,⟨by decide,fun x h=>by cases h⟩,by decide,⟨by decide,fun x h=>by cases h⟩,⟨by decide,fun x h=>by cases h⟩,⟨by decide,fun x h=>by cases h⟩⟩
theorem Ms (op n op' n':Int) (h:0≤n) (h':0≤n'):∀y∈[(⟨op,0,0,n,0,0,0,[],[]⟩:bv),⟨op',0,0,n',0,0,0,[],[]⟩],DQ y:=fun y hy=>by
 simp only [bc,List.not_mem_nil,or_false] at hy
 rcases hy with rfl | rfl
 ·exact ⟨by simp,by simp,h⟩
 ·exact ⟨by simp,by simp,h'⟩
theorem abq:ol EH:=⟨⟨by decide,fun x hx=>by
  simp only [EH,exT,du] at hx;subst hx;exact ⟨by decide,by decide⟩⟩,by decide,⟨by decide,fun x hx=>by
  simp only [EH,du] at hx;subst hx
  exact ⟨by decide,by decide,Ms _ _ _ _ (by decide) (by decide)⟩⟩,by decide,by decide,⟨by decide,fun x h=>by cases h⟩,by decide,⟨by decide,fun x h=>by cases h⟩,⟨by decide,fun x h=>by cases h⟩,⟨by decide,fun x h=>by cases h⟩⟩
theorem abr:ol EI:=⟨⟨by decide,fun x hx=>by
  simp only [EI,exT,du] at hx;subst hx;exact ⟨by decide,by decide⟩⟩,by decide,⟨by decide,fun x hx=>by
  simp only [EI,du] at hx;subst hx
  exact ⟨by decide,by decide,Ms _ _ _ _ (by decide) (by decide)⟩⟩,by decide,by decide,⟨by decide,fun x h=>by cases h⟩,by decide,⟨by decide,fun x h=>by cases h⟩,⟨by decide,fun x h=>by cases h⟩,⟨by decide,fun x h=>by cases h⟩⟩
theorem jE:aj Tryz.prog ZC [] (.bool true):=by
 refine ac (ic:=GF.body) ap Xi rfl rfl ?_
 have c0:=ly IN Rq
 rw [Yh] at c0
 replace c0:=cW (xs:=[.agg rw0]) c0 ⟨Re,trivial⟩
 have k0:=Co IN Rq
 rw [Yh] at k0
 replace k0:=cW (xs:=[.agg rw0]) k0 ⟨Re,trivial⟩
 have ca:=ly EH abq
 rw [adT] at ca
 replace ca:=cW (xs:=[.agg rwA]) ca ⟨aaP,trivial⟩
 have cb:=ly EI abr
 rw [adU] at cb
 replace cb:=cW (xs:=[.agg rwB]) cb ⟨aaQ,trivial⟩
 simp only [rw0] at c0 k0
 simp only [rwA,Gq] at ca
 simp only [rwB,Gq] at cb
 simp only [go_sem,GF]
 refine ⟨_,Wk.frzs [4] _,?_⟩
 simp only [oZ]
 simp only [go_sem,aO,List.take_succ_cons,gN]
 refine ⟨_,Wk.frzs [10,6] _,?_⟩
 simp only [oZ]
 simp only [go_sem,aO,List.take_succ_cons,gN]
 refine a_ [12] ?_ ca (by simp [go_sem]) ?_
 ·simp only [go_sem,aO,List.take_succ_cons,gN]
  try rfl
 simp only [go_sem]
 refine ⟨_,Wk.frzs [18] _,?_⟩
 simp only [oZ]
 simp only [go_sem,aO,List.take_succ_cons,gN]
 refine a_ [20,23] ?_ cb (by simp [go_sem]) ?_
 ·simp only [go_sem,aO,List.take_succ_cons,gN]
  try rfl
 simp only [go_sem]
 refine aa (k0) ?_
 simp only [go_sem]
 refine aa (c0) ?_
 simp only [go_sem]
 exact ak
end
section
open Go Go.Mw
theorem Er (id:Nat) (t:TypeId) (st:Nat) {α:Type} (f:α→List AV) (l:List α) (h:l.length<137438953472) (hid:id<1000):s8 id t st 0 0 (l.map f) (some ⟨t,st,[],false⟩)=some (.ms id st 0 l.length,.reb id ⟨t,st,l.map f,false⟩):=by
 have:=oz id t st 0 [] (l.map f) rfl
 rw [this,av ⟨by rw [bT];exact h,by decide,.inl hid⟩,bT,Nat.zero_add,e_]
theorem WA (id:Nat) (t:TypeId) (st:Nat) {α:Type} (f:α→List AV) (l:List α) (r:List AV) (h:l.length<137438953472) (hid:id<1000):s8 id t st 0 l.length [r] (some ⟨t,st,l.map f,false⟩)=some (.ms id st 0 (l.length+1),.reb id ⟨t,st,l.map f++[r],false⟩):=by
 rw [oz _ _ _ _ _ _ (bT f),av ⟨by simp,h,.inl hid⟩]
 rfl
theorem VT {α:Type} (f:α→List AV) (l:List α) (r:List AV):(l.map f++[r]).take (l.length+1)=l.map f++[r]:=iq (by simp)
theorem yp:∀l:List AV,aH Nd l l
 | []=>trivial
 | x :: l=>⟨.rfl x,yp l⟩
theorem ui:∀l:List (List AV),aH (aH Nd) l l
 | []=>trivial
 | x :: l=>⟨yp x,ui l⟩
theorem Mu {m:Md} (h:yS m=true):Q7 m≤300:=by
 simp only [yS,dV,qc] at h
 omega
attribute [local go_sem] bT bM
theorem V5 (m:Md) (hs:ol m):aj Tryz.prog afn [gY m] (.bool true):=by
 refine ac (ic:=So.body) ap adw rfl rfl ?_
 have cs:=od hs
 have al:=jE
 have co:=Co m hs
 simp only [gY,bM] at cs co
 simp only [go_sem,So,gY]
 refine aa (cs) ?_
 cases hq:yS m
 ·simp only [go_sem]
  refine aa (al) ?_
  simp only [go_sem]
  exact ak
 simp only [go_sem]
 refine aa (co) ?_
 by_cases h0:(dD m).c=0
 rotate_left
 ·simp only [go_sem,ab h0]
  refine aa (al) ?_
  simp only [go_sem]
  exact ak
 by_cases h1:(m.cs.length:Int)=0
 ·simp only [go_sem,aF h0,aF h1]
  refine aa (al) ?_
  simp only [go_sem]
  exact ak
 have hl:=Mu hq
 have hl2:m.cs.length≤300:=by unfold Q7 at hl;omega
 have hsl:ol (Ah m):=⟨hs.ts,hs.ims,hs.fs,hs.tbs,hs.ms,hs.gs,hs.exs,hs.els,hs.ds,⟨by simp only [Ah,List.length_dropLast];omega,fun x hx=>hs.cs.2 x (List.dropLast_subset _ hx)⟩⟩
 have c2:=Co (Ah m) hsl
 rw [aF (Pp (by omega) h0)] at c2
 simp only [gY,bM,Ah] at c2
 have w:=wi (n:=(m.cs.length:Int) - 1) (by omega) (by omega)
 have e:((m.cs.length:Int) - 1).toNat=m.cs.length - 1:=by omega
 rw [List.dropLast_eq_take] at c2
 simp only [go_sem,aF h0,ab h1,w,e]
 refine ⟨⟨by omega,by omega⟩,?_⟩
 refine aa (c2) ?_
 simp only [go_sem]
 refine aa (al) ?_
 simp only [go_sem]
 exact ak
theorem Qk {m:Md} (hs:ol m) (ht:m.ts.length<64) (hd:m.ds.length<16):ol (mK m) :=
 ⟨⟨by simp only [mK,ee,vK];omega,fun x hx=>by
  rcases dL.1 hx with q | q
  ·exact hs.ts.2 x q
  ·rw [du.1 q];exact ⟨by decide,by decide⟩⟩,hs.ims,hs.fs,hs.tbs,hs.ms,hs.gs,hs.exs,hs.els,⟨by simp only [mK,ee,vK];omega,fun x hx=>by
  rcases dL.1 hx with q | q
  ·exact hs.ds.2 x q
  ·rw [du.1 q];exact ⟨⟨by simp,fun y hy=>(by cases hy)⟩,by simp⟩⟩,hs.cs⟩
theorem V6 (m:Md) (hs:ol m):aj Tryz.prog afo [gY m] (.bool true):=by
 refine ac (ic:=Sq.body) ap adx rfl rfl ?_
 have cs:=od hs
 have al:=jE
 have co:=Co m hs
 simp only [gY,bM] at cs co
 simp only [go_sem,Sq,gY]
 refine aa (cs) ?_
 cases hq:yS m
 ·simp only [go_sem]
  refine aa (al) ?_
  simp only [go_sem]
  exact ak
 simp only [go_sem]
 refine aa (co) ?_
 by_cases h0:(dD m).c=0
 rotate_left
 ·simp only [go_sem,ab h0]
  refine aa (al) ?_
  simp only [go_sem]
  exact ak
 by_cases h1:(m.ts.length:Int)≥64
 ·simp only [go_sem,aF h0,bH h1]
  refine aa (al) ?_
  simp only [go_sem]
  exact ak
 by_cases h2:(m.ds.length:Int)≥16
 ·simp only [go_sem,aF h0,bF h1,bH h2]
  refine aa (al) ?_
  simp only [go_sem]
  exact ak
 have c2:=Co (mK m) (Qk hs (by omega) (by omega))
 rw [aF (Px (by omega) (by omega) h0)] at c2
 have a1:=Er 26 59 2 jp m.ts (by omega) (by decide)
 have a2:=WA 26 59 2 jp m.ts [.nl,.nl] (by omega) (by decide)
 have a3:=Er 34 43 4 x5 m.ds (by omega) (by decide)
 have a4:=WA 34 43 4 x5 m.ds [.int .i64 1,.int .i64 0,.nl,.nl] (by omega) (by decide)
 replace c2:=cW (xs:=[.agg [.sl 2 (m.ts.map jp++[[.nl,.nl]]),.sl 13 (m.ims.map tR),.sl 3 (m.fs.map lB),.sl 4 (m.tbs.map ow),.sl 3 (m.ms.map nJ),.sl 3 (m.gs.map BD),.sl 3 (m.exs.map A7),.bool m.hs,.int .i64 m.st,.sl 5 (m.els.map wU),.sl 4 (m.ds.map x5++[[.int .i64 1,.int .i64 0,.nl,.nl]]),.sl 3 (m.cs.map zK)]]) c2 ⟨.inr ⟨_,_,rfl,rfl,by
  rw [mK]
  simp only [List.map_append,cF,List.map_nil,bM]
  refine ⟨jU (aH.append (ui _) ⟨⟨.nl _,.nl _,trivial⟩,trivial⟩),.rfl _,.rfl _,.rfl _,.rfl _,.rfl _,.rfl _,.rfl _,.rfl _,.rfl _,jU (aH.append (ui _) ⟨⟨.rfl _,.rfl _,.nl _,.nl _,trivial⟩,trivial⟩),.rfl _,trivial⟩⟩,trivial⟩
 simp only [go_sem,aF h0,bF h1,bF h2,a1,a2,a3,a4]
 refine a_ [26,34] ?_ c2 (by simp [go_sem]) ?_
 ·simp only [go_sem,ee,iw,fZ,List.drop_zero,aO,VT]
  try rfl
 simp only [go_sem]
 refine aa (al) ?_
 simp only [go_sem]
 exact ak
theorem mH {α:Type} (g:α→α) (l:List α):l.mapIdx (fun _=>g)=l.map g:=by
 refine List.ext_getElem? fun i=>?_
 rw [List.getElem?_mapIdx,db]
theorem VI {m:Md} (hs:ol m):ol (nL m):=⟨hs.ts,by simp only [nL,bT];exact hs.ims,hs.fs,hs.tbs,hs.ms,hs.gs,hs.exs,hs.els,hs.ds,hs.cs⟩
theorem aaU:vO [109]=0:=by kernel_rfl
theorem aaT:vO []=0:=by kernel_rfl
theorem Qz (m:Md) (hs:ol m):aj Tryz.prog afj [gY m] (.bool true):=by
 refine ac (ic:=Sl.body) ap ads rfl rfl ?_
 have cs:=od hs
 have al:=jE
 have co:=Co m hs
 simp only [gY,bM] at cs co
 simp only [go_sem,Sl,gY]
 refine aa (cs) ?_
 cases hq:yS m
 ·simp only [go_sem]
  refine aa (al) ?_
  simp only [go_sem]
  exact ak
 simp only [go_sem]
 refine aa (co) ?_
 by_cases h0:(dD m).c=0
 rotate_left
 ·simp only [go_sem,ab h0]
  refine aa (al) ?_
  simp only [go_sem]
  exact ak
 have hl:=Mu hq
 have hl2:m.ims.length≤300:=by unfold Q7 at hl;omega
 have a1:=Er 15 56 13 tR m.ims (by omega) (by decide)
 have c2:=Co (nL m) (VI hs)
 rw [aF (K1 aaU aaT h0)] at c2
 simp only [gY,bM,nL] at c2
 simp only [go_sem,aF h0,a1]
 refine aJ (fun j:Nat=>⟨[(23,.int .i64 j),(22,.int .i64 m.ims.length),(3,.mp 3 12 0 0),(2,.bool false)],[(15,⟨56,13,(iN (fun _=>iT) m.ims j).map tR,false⟩),(3,⟨33,12,[[.sl 2 (m.ts.map jp),.ms 15 13 0 m.ims.length,.sl 3 (m.fs.map lB),.sl 4 (m.tbs.map ow),.sl 3 (m.ms.map nJ),.sl 3 (m.gs.map BD),.sl 3 (m.exs.map A7),.bool m.hs,.int .i64 m.st,.sl 5 (m.els.map wU),.sl 4 (m.ds.map x5),.sl 3 (m.cs.map zK)]],true⟩)]⟩) (fun j=>j≤m.ims.length) (fun j=>m.ims.length - j) 0 (ef _) (Wk.of ?_ ?_) ?_
 ·simp only [go_sem];try simp
 ·simp only [go_sem,yY];try simp
 intro j hj
 by_cases h1:(j:Int)<(m.ims.length:Int)
 ·have hj':j<m.ims.length:=by omega
  have e8:=ep hj' (by omega)
  obtain ⟨L,hL⟩:∃L,iN (fun _=>iT) m.ims j=L:=⟨_,rfl⟩
  have hLl:j<L.length:=by rw [← hL,iO];exact hj'
  have hLn:au L j=au m.ims j:=by rw [← hL];exact kY hj'
  obtain ⟨x,hx⟩:∃x,au m.ims j=x:=⟨_,rfl⟩
  rw [hx] at hLn
  have s1:=DS 15 1 13 j 0 56 tR L [.str [109]] { x with m:=[109] } false hLl rfl (by rw [hLn];exact Nat.le_of_ble_eq_true rfl) rfl (by rw [hLn];rfl)
  have s2:=DS 15 1 13 j 1 56 tR (L.set j { x with m:=[109] }) [.str []] (iT x) false (by rw [List.length_set];exact hLl) rfl (by rw [jW hLl];exact Nat.le_of_ble_eq_true rfl) rfl (by rw [jW hLl];rfl)
  rw [List.set_set] at s2
  simp only [go_sem,bH h1,hL,s1,s2]
  refine ⟨⟨by omega,by omega⟩,⟨by omega,by omega⟩,bA (j+1) (show j+1≤m.ims.length by omega) (show m.ims.length - (j+1)<m.ims.length - j by omega) (Wk.of ?_ ?_)⟩
  ·simp only [go_sem,e8];try simp
  ·have hs2:=kZ (g:=fun _=>iT) hj'
   rw [hx,hL] at hs2
   simp only [go_sem,hs2];try simp
 ·have e:iN (fun _=>iT) m.ims j=m.ims.map iT:=by rw [oa (by omega),mH]
  simp only [go_sem,bF h1,e]
  refine a_ [15] ?_ c2 (by simp [go_sem]) ?_
  ·simp only [go_sem,List.drop_zero,aO,Nat.zero_add]
   rw [iq (by simp)]
  simp only [go_sem]
  refine aa (al) ?_
  simp only [go_sem]
  exact ak
end
section
open Go Go.Mw
theorem VH {m:Md} {b:List UInt8} (hs:ol m) (hb:b.length≤100):ol (ja m b):=⟨hs.ts,hs.ims,hs.fs,hs.tbs,hs.ms,hs.gs,hs.exs,hs.els,
 ⟨by simp only [ja,bT];exact hs.ds.1,fun x hx=>by
  obtain ⟨y,hy,rfl⟩:=List.mem_map.1 hx
  exact ⟨(hs.ds.2 y hy).1,by simp only [tj];omega⟩⟩,
 ⟨by simp only [ja,bT];exact hs.cs.1,fun x hx=>by
  obtain ⟨y,hy,rfl⟩:=List.mem_map.1 hx
  show b.length≤_
  omega⟩⟩
theorem zC {α:Type} [Inhabited α] {p:α→Prop} {l:List α} (h:∀i,i<l.length→p (au l i)):∀x∈l,p x:=fun x hx=>by
 obtain ⟨i,hi,e⟩:=List.getElem_of_mem hx
 have:=h i hi
 rw [aX hi,e] at this
 exact this
attribute [local go_sem] bT bM eB dx
theorem Qy (m:Md) (b:List UInt8) (hs:ol m):aj Tryz.prog afi [gY m,.sl 1 (b.map CS)] (.bool true):=by
 refine ac (ic:=Sj.body) ap adr rfl rfl ?_
 have cs:=od hs
 have al:=jE
 have co:=ly m hs
 simp only [gY,bM] at cs co
 simp only [go_sem,Sj,gY]
 refine aa (cs) ?_
 cases hq:yS m
 ·simp only [go_sem]
  refine aa (al) ?_
  simp only [go_sem]
  exact ak
 by_cases hb:(b.length:Int)>100
 ·simp only [go_sem,bH hb]
  refine aa (al) ?_
  simp only [go_sem]
  exact ak
 have hl:=Mu hq
 have hl2:m.ds.length≤300:=by unfold Q7 at hl;omega
 have hl3:m.cs.length≤300:=by unfold Q7 at hl;omega
 have a1:=Er 18 43 4 x5 m.ds (by omega) (by decide)
 have a2:=Er 45 45 3 zK m.cs (by omega) (by decide)
 have c2:=ly (ja m b) (VH hs (by omega))
 simp only [go_sem,bF hb,a1]
 refine aJ (fun j:Nat=>⟨[(26,.int .i64 j),(25,.int .i64 m.ds.length),(5,.mp 5 12 0 0),(4,.bool false),(1,.sl 1 (b.map CS)),(2,.mp 2 12 0 0)],[(18,⟨43,4,(iN (fun _=>tj b) m.ds j).map x5,false⟩),(5,⟨33,12,[[.sl 2 (m.ts.map jp),.sl 13 (m.ims.map tR),.sl 3 (m.fs.map lB),.sl 4 (m.tbs.map ow),.sl 3 (m.ms.map nJ),.sl 3 (m.gs.map BD),.sl 3 (m.exs.map A7),.bool m.hs,.int .i64 m.st,.sl 5 (m.els.map wU),.ms 18 4 0 m.ds.length,.sl 3 (m.cs.map zK)]],true⟩),(2,⟨33,12,[qF m],true⟩)]⟩) (fun j=>j≤m.ds.length∧∀i,i<j→(au m.ds i).b.length≤4096) (fun j=>m.ds.length - j) 0 ⟨ef _,fun i h=>absurd h (Nat.not_lt_zero _)⟩ (Wk.of ?_ ?_) ?_
 ·simp only [go_sem];try simp
 ·simp only [go_sem,yY];try simp
 rintro j ⟨hj,hi⟩
 by_cases h1:(j:Int)<(m.ds.length:Int)
 ·have hj':j<m.ds.length:=by omega
  have e8:=ep hj' (by omega)
  obtain ⟨L,hL⟩:∃L,iN (fun _=>tj b) m.ds j=L:=⟨_,rfl⟩
  have hLl:j<L.length:=by rw [← hL,iO];exact hj'
  have hLn:au L j=au m.ds j:=by rw [← hL];exact kY hj'
  by_cases h2:((au m.ds j).b.length:Int)>4096
  ·simp only [go_sem,bH h1,hL,hLn,bH h2]
   refine ⟨⟨by omega,by omega⟩,hLl,?_⟩
   refine aa (al) ?_
   simp only [go_sem]
   exact ak
  have s1:=DS 18 1 4 j 3 43 x5 L [.sl 1 (b.map CS)] (tj b (au m.ds j)) false hLl rfl (by rw [hLn];exact Nat.le_of_ble_eq_true rfl) rfl (by rw [hLn];rfl)
  have hs2:=kZ (g:=fun _=>tj b) hj'
  rw [hL] at hs2
  simp only [go_sem,bH h1,hL,hLn,bF h2,s1,hs2]
  refine ⟨⟨by omega,by omega⟩,hLl,⟨by omega,by omega⟩,bA (j+1) ⟨show j+1≤m.ds.length by omega,fun i h=>?_⟩ (show m.ds.length - (j+1)<m.ds.length - j by omega) (Wk.of ?_ ?_)⟩
  ·by_cases z:i=j
   ·rw [z];omega
   ·exact hi i (by omega)
  ·simp only [go_sem,e8];try simp
  ·simp only [go_sem];try simp
 have e1:iN (fun _=>tj b) m.ds j=m.ds.map (tj b):=by rw [oa (by omega),mH]
 have hd:∀x∈m.ds,x.b.length≤4096:=zC (fun i h=>hi i (by omega))
 simp only [go_sem,bF h1,e1,a2]
 refine aJ (fun j:Nat=>⟨[(53,.int .i64 j),(52,.int .i64 m.cs.length),(5,.mp 5 12 0 0),(4,.bool false),(1,.sl 1 (b.map CS)),(2,.mp 2 12 0 0)],[(18,⟨43,4,(m.ds.map (tj b)).map x5,false⟩),(45,⟨45,3,(iN (fun _=>qz b) m.cs j).map zK,false⟩),(5,⟨33,12,[[.sl 2 (m.ts.map jp),.sl 13 (m.ims.map tR),.sl 3 (m.fs.map lB),.sl 4 (m.tbs.map ow),.sl 3 (m.ms.map nJ),.sl 3 (m.gs.map BD),.sl 3 (m.exs.map A7),.bool m.hs,.int .i64 m.st,.sl 5 (m.els.map wU),.ms 18 4 0 m.ds.length,.ms 45 3 0 m.cs.length]],true⟩),(2,⟨33,12,[qF m],true⟩)]⟩) (fun j=>j≤m.cs.length∧∀i,i<j→(au m.cs i).b.length≤4096) (fun j=>m.cs.length - j) 0 ⟨ef _,fun i h=>absurd h (Nat.not_lt_zero _)⟩ (Wk.of ?_ ?_) ?_
 ·simp only [go_sem];try simp
 ·simp only [go_sem,yY];try simp
 rintro k ⟨hk,hi2⟩
 by_cases h3:(k:Int)<(m.cs.length:Int)
 ·have hk':k<m.cs.length:=by omega
  have e8:=ep hk' (by omega)
  obtain ⟨L,hL⟩:∃L,iN (fun _=>qz b) m.cs k=L:=⟨_,rfl⟩
  have hLl:k<L.length:=by rw [← hL,iO];exact hk'
  have hLn:au L k=au m.cs k:=by rw [← hL];exact kY hk'
  by_cases h2:((au m.cs k).b.length:Int)>4096
  ·simp only [go_sem,bH h3,hL,hLn,bH h2]
   refine ⟨⟨by omega,by omega⟩,hLl,?_⟩
   refine aa (al) ?_
   simp only [go_sem]
   exact ak
  have s1:=DS 45 1 3 k 2 45 zK L [.sl 1 (b.map CS)] (qz b (au m.cs k)) false hLl rfl (by rw [hLn];exact Nat.le_of_ble_eq_true rfl) rfl (by rw [hLn];rfl)
  have hs2:=kZ (g:=fun _=>qz b) hk'
  rw [hL] at hs2
  simp only [go_sem,bH h3,hL,hLn,bF h2,s1,hs2]
  refine ⟨⟨by omega,by omega⟩,hLl,⟨by omega,by omega⟩,bA (k+1) ⟨show k+1≤m.cs.length by omega,fun i h=>?_⟩ (show m.cs.length - (k+1)<m.cs.length - k by omega) (Wk.of ?_ ?_)⟩
  ·by_cases z:i=k
   ·rw [z];omega
   ·exact hi2 i (by omega)
  ·simp only [go_sem,e8];try simp
  ·simp only [go_sem];try simp
 have e2:iN (fun _=>qz b) m.cs k=m.cs.map (qz b):=by rw [oa (by omega),mH]
 have hc:∀x∈m.cs,x.b.length≤4096:=zC (fun i h=>hi2 i (by omega))
 rw [Ir (by omega) hd hc] at c2
 generalize dD m=F at co c2
 simp only [gY,bM,ja] at c2
 simp only [go_sem,bF h3,e2]
 refine bP co (by simp [go_sem]) rfl ?_
 simp only [go_sem]
 refine a_ [18,45] ?_ c2 (by simp [go_sem]) ?_
 ·simp only [go_sem,List.drop_zero,aO,Nat.zero_add]
  rw [iq (by simp),iq (by simp)]
 simp only [go_sem,beq_self_eq_true]
 refine aa (al) ?_
 simp only [go_sem]
 exact ak
end
section
open Go Go.Mw
def Cn:List (List AV):=[Gq 0 0,Gq 11 0]
def qL (a:Nat) (i:Nat) (r:List AV):List AV:=if i=a then r else r.take 2++[.sl 9 Cn]
def mW (a j:Nat) (l:List Cd):List (List AV):=iN (qL a) (l.map lB) j
theorem Vp {a j:Nat} {l:List Cd} (h:j≤l.length):∀r∈mW a j l,∀x∈r,fH x=true∧gI x=false:=by
 intro r hr x hx
 obtain ⟨i,hi⟩:=List.mem_iff_getElem?.1 hr
 unfold mW at hi
 rw [sP (by rw [bT];exact h)] at hi
 have key:∀y:Cd,∀x∈lB y,fH x=true∧gI x=false:=fun y x hx=>by
  simp only [lB,bc,List.not_mem_nil,or_false] at hx
  rcases hx with rfl | rfl | rfl<;>exact ⟨rfl,rfl⟩
 have key2:∀y:Cd,∀x∈(lB y).take 2++[.sl 9 Cn],fH x=true∧gI x=false:=fun y x hx=>by
  have e:(lB y).take 2++[.sl 9 Cn]=[.int .i64 y.t,.sl 1 (y.lo.map bp),.sl 9 Cn]:=rfl
  rw [e] at hx
  simp only [bc,List.not_mem_nil,or_false] at hx
  rcases hx with rfl | rfl | rfl<;>exact ⟨rfl,rfl⟩
 cases e:l[i]? with
 | none =>
  rw [db,e] at hi
  split at hi<;>cases hi
 | some y =>
  rw [db,e] at hi
  split at hi
  ·cases hi
   simp only [qL] at hx
   split at hx
   ·exact key y x hx
   ·exact key2 y x hx
  ·cases hi
   exact key y x hx
theorem Ot {x:AV} (h:fH x=true) (i:Nat):jk i x=x:=by
 cases x<;>first | rfl | (simp [fH] at h;done)
theorem Or {x:AV} (h:fH x=true) (i:Nat) (o:ah):kI i o x=x:=by
 cases x<;>first | rfl | (simp [fH] at h;done)
theorem nK {α:Type} {f:α→α}:∀{l:List α},(∀x∈l,f x=x)→l.map f=l
 | [],_=>rfl
 | x :: l,h=>by rw [cF,h x List.mem_cons_self,nK (fun y hy=>h y (List.mem_cons_of_mem _ hy))]
theorem L3 {R:List (List AV)} (h:∀r∈R,∀x∈r,fH x=true∧gI x=false) (i:Nat):R.map (fun r=>r.map (jk i))=R:=nK fun r hr=>nK fun x hx=>Ot (h r hr x hx).1 i
theorem L2 {R:List (List AV)} (h:∀r∈R,∀x∈r,fH x=true∧gI x=false) (i:Nat) (o:ah):R.map (fun r=>r.map (kI i o))=R:=nK fun r hr=>nK fun x hx=>Or (h r hr x hx).1 i o
theorem abv (id n st row off:Nat) (t:TypeId) (R:List (List AV)) (cs r:List AV) (h:row<R.length) (hr:au R row=r) (hn:cs.length=n) (ho:off+n≤r.length) :
  sO id n st row off (some ⟨t,st,R,true⟩) (some cs)=some (.put id ⟨t,st,R.set row (dP r off cs),true⟩):=by
 have hr:R[row]? = some r:=by rw [di h,hr]
 simp only [sO,hr]
 rw [av ⟨trivial,hn,rfl⟩,av ho]
theorem Vq (a:Nat) (l:List Cd):Nd (.sl 3 ((l.map lB).mapIdx (qL a))) (.sl 3 ((yD a l).map lB)):=by
 refine jU (aH.of_get (by simp [yD]) fun i r r' h1 h2=>?_)
 rw [List.getElem?_mapIdx,db] at h1
 rw [db,yD,List.getElem?_mapIdx] at h2
 cases e:l[i]? with
 | none=>rw [e] at h1;cases h1
 | some y =>
  rw [e] at h1 h2
  simp only [eH,bV] at h1 h2
  subst h1 h2
  unfold qL
  by_cases q:i=a
  ·rw [av q,av q];exact yp _
  ·rw [ar q,ar q]
   exact ⟨.rfl _,.rfl _,UG 0 0 11 0,trivial⟩
theorem VJ {m:Md} (hs:ol m) (a:Nat):ol (BZ m a):=⟨hs.ts,hs.ims,⟨by simp only [BZ,yD,List.length_mapIdx];exact hs.fs.1,fun x hx=>by
  obtain ⟨i,hi⟩:=List.mem_iff_getElem?.1 hx
  simp only [BZ,yD,List.getElem?_mapIdx] at hi
  cases e:m.fs[i]? with
  | none=>rw [e] at hi;cases hi
  | some y =>
   rw [e] at hi
   have hy:=hs.fs.2 y (gM e)
   simp only [eH,bV] at hi
   split at hi
   ·rw [← hi];exact hy
   ·rw [← hi];exact ⟨hy.1,by simp [aa2,RG],Ms 0 0 11 0 (by decide) (by decide)⟩⟩,hs.tbs,hs.ms,hs.gs,hs.exs,hs.els,hs.ds,hs.cs⟩
attribute [local go_sem] bT bM df
theorem abD (m:Md) (k:Int) (hs:ol m):aj Tryz.prog afp [gY m,.int .i64 k] (.bool true):=by
 refine ac (ic:=Sr.body) ap ady rfl rfl ?_
 have cs:=od hs
 have al:=jE
 simp only [gY,bM] at cs
 simp only [go_sem,Sr,gY]
 refine aa (cs) ?_
 cases hq:yS m
 ·simp only [go_sem]
  refine aa (al) ?_
  simp only [go_sem]
  exact ak
 by_cases h1:k<0
 ·simp only [go_sem,bH h1]
  refine aa (al) ?_
  simp only [go_sem]
  exact ak
 by_cases h2:k≥(m.fs.length:Int)
 ·simp only [go_sem,bF h1,bH h2]
  refine aa (al) ?_
  simp only [go_sem]
  exact ak
 by_cases h3:(m.fs.length:Int)>64
 ·simp only [go_sem,bF h1,bF h2,bH h3]
  refine aa (al) ?_
  simp only [go_sem]
  exact ak
 obtain ⟨a,rfl⟩:∃a:Nat,k=a:=⟨k.toNat,by omega⟩
 have a1:=Er 30 68 3 lB m.fs (by omega) (by decide)
 have c2:=ly (BZ m a) (VJ hs a)
 simp only [go_sem,bF h1,bF h2,bF h3,a1]
 refine aJ (fun j:Nat=>⟨[(38,.int .i64 j),(37,.int .i64 m.fs.length),(5,.mp 5 12 0 0),(4,.bool false),(1,.int .i64 (a:Int))],[(30,⟨68,3,mW a j m.fs,true⟩),(5,⟨33,12,[[.sl 2 (m.ts.map jp),.sl 13 (m.ims.map tR),.ms 30 3 0 m.fs.length,.sl 4 (m.tbs.map ow),.sl 3 (m.ms.map nJ),.sl 3 (m.gs.map BD),.sl 3 (m.exs.map A7),.bool m.hs,.int .i64 m.st,.sl 5 (m.els.map wU),.sl 4 (m.ds.map x5),.sl 3 (m.cs.map zK)]],true⟩)]⟩) (fun j=>j≤m.fs.length) (fun j=>m.fs.length - j) 0 (ef _) ((Wk.flag _ 30 (t:=68) (st:=3) (rs:=m.fs.map lB) (q:=false) true (by simp only [go_sem]) (fun _ h=>by have:=congrArg List.length h;simp at this;rw [this] at h2;simp at h2) (fun h=>by cases h)).trans (Wk.of ?_ ?_)) ?_
 ·simp only [go_sem];try simp
 ·simp only [go_sem,mW,yY];try simp
 intro j hj
 have hin:=Vp (a:=a) hj
 by_cases h4:(j:Int)<(m.fs.length:Int)
 ·have hj':j<m.fs.length:=by omega
  have e8:=ep hj' (by omega)
  have hLl:j<(mW a j m.fs).length:=by unfold mW;rw [iO,bT];exact hj'
  have hLn:au (mW a j m.fs) j=lB (au m.fs j):=by unfold mW;rw [kY (by rw [bT];exact hj'),Mw.nth_map hj']
  have hst:=kZ (g:=qL a) (l:=m.fs.map lB) (j:=j) (by rw [bT];exact hj')
  rw [Mw.nth_map hj'] at hst
  have hsame:j=a→mW a j m.fs=mW a (j+1) m.fs:=fun z=>Ga (by rw [bT];exact hj') (by unfold qL;rw [av z])
  by_cases h5:(j:Int)=a
  ·simp only [go_sem,bH h4,ay h5]
   refine bA (j+1) (show j+1≤m.fs.length by omega) (show m.fs.length - (j+1)<m.fs.length - j by omega) (Wk.of ?_ ?_)
   ·simp only [go_sem,e8];try simp
   ·rw [← hsame (by omega)]
    simp only [go_sem];try simp
  ·have hraw:qL a j (lB (au m.fs j))=(lB (au m.fs j)).take 2++[.sl 9 Cn]:=by unfold qL;rw [ar (by omega)]
   have e1:mW a (j+1) m.fs=(mW a j m.fs).set j [.int .i64 (au m.fs j).t,.sl 1 ((au m.fs j).lo.map bp),.sl 9 Cn]:=by
    unfold mW
    rw [← hst,hraw];rfl
   obtain ⟨R,hR⟩:∃R,mW a j m.fs=R:=⟨_,rfl⟩
   rw [hR] at hin hLl hLn e1
   have s1:=abv 30 1 3 j 2 68 R [.ms 49 9 0 2] _ hLl hLn rfl (Nat.le_of_ble_eq_true rfl)
   have hp:=L3 hin 49
   have hf:=fun o=>L2 hin 49 o
   simp only [Cn,Gq] at e1
   simp only [go_sem,bH h4,aK h5,hR,hp,s1]
   refine ⟨⟨by omega,by omega⟩,bA (j+1) (show j+1≤m.fs.length by omega) (show m.fs.length - (j+1)<m.fs.length - j by omega) (Wk.frz_of [49] ?_ ?_)⟩
   ·simp only [go_sem,e8];try simp
   ·simp only [go_sem,e1,List.map_set,hf,aO,List.drop_zero,List.take_succ_cons,gN];try simp
 ·obtain rfl:j=m.fs.length:=by omega
  have hnd:=Vq a m.fs
  have e1:mW a m.fs.length m.fs=(m.fs.map lB).mapIdx (qL a):=oa (by rw [bT])
  rw [e1] at hin
  have hne:(m.fs.map lB).mapIdx (qL a)≠[]:=fun h=>by
   have:=congrArg List.length h
   simp at this
   rw [this] at h2
   simp at h2
  have hlen:((m.fs.map lB).mapIdx (qL a)).length=m.fs.length:=by simp
  have ho:=U9 (m:=BZ m a) (a:=a) (by simp only [BZ,yD,List.length_mapIdx];omega) (fun i f hi h=>U8 h hi)
  generalize (m.fs.map lB).mapIdx (qL a)=R at *
  generalize hF:dD (BZ m a)=F at c2 ho
  replace c2:=cW (xs:=[.agg [.sl 2 (m.ts.map jp),.sl 13 (m.ims.map tR),.sl 3 R,.sl 4 (m.tbs.map ow),.sl 3 (m.ms.map nJ),.sl 3 (m.gs.map BD),.sl 3 (m.exs.map A7),.bool m.hs,.int .i64 m.st,.sl 5 (m.els.map wU),.sl 4 (m.ds.map x5),.sl 3 (m.cs.map zK)]]) c2 ⟨.inr ⟨_,_,rfl,rfl,.rfl _,.rfl _,hnd,.rfl _,.rfl _,.rfl _,.rfl _,.rfl _,.rfl _,.rfl _,.rfl _,.rfl _,trivial⟩,trivial⟩
  simp only [go_sem,bF h4,e1]
  refine bD (dC.flag _ _ 30 (t:=68) (st:=3) (rs:=R) (q:=true) false (by simp only [go_sem]) (fun h=>by cases h) (fun _=>hin)) ?_
  refine a_ [30] ?_ c2 (by simp [go_sem]) ?_
  ·simp only [go_sem,List.drop_zero,aO,Nat.zero_add,hlen]
   rw [iq (by omega)]
  by_cases q1:F.c=0
  ·simp only [go_sem,aF q1]
   refine aa (al) ?_
   simp only [go_sem]
   exact ak
  by_cases q2:F.p=12
  rotate_left
  ·simp only [go_sem,ab q1,aK q2]
   refine aa (al) ?_
   simp only [go_sem]
   exact ak
  simp only [go_sem,ab q1,ay q2,aF (ho q1 q2)]
  refine aa (al) ?_
  simp only [go_sem]
  exact ak
end
end Go.Proofs.YthhglklcaodfmaaGreatDoor