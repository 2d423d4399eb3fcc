import Derived.Test.YthhglklcaodfmaaGreatDoorQp
set_option linter.all false
set_option maxRecDepth 100000
set_option maxHeartbeats 40000000
namespace Go.Proofs.YthhglklcaodfmaaGreatDoor
section
open Go Go.Mw
theorem PD (x:bv):m_ none (cD x)=some (.int .i64 x.op):=rfl
theorem Lb (x:bv):m_ (some 9) (cD x)=some (.agg (cD x)):=rfl
theorem Le (x:bv):(cD x).length=9:=rfl
theorem K_ (d:Nat) (x:bv):(cD x).any (mC d)=false:=rfl
theorem Lf (d:Nat) (x:bv):((cD x).all fun y=>!(mC d y))=true:=rfl
theorem K9 (x:bv):(cD x).all fH=true:=rfl
theorem Lg (d:Nat) (x:bv):(cD x).map (jk d)=cD x:=rfl
theorem La (x:bv):(cD x).flatMap dO=[]:=rfl
attribute [local go_sem high] PD Lb Le K_ Lf K9 Lg La
def fL (B:List bv):Nat→List Int
 | 0=>List.replicate B.length (-1)
 | i+1=>if (au B i).op==11&&decide (0≤oW B i) then (fL B i).set (oW B i).toNat i else fL B i
def dR (B:List bv):Nat→List Int
 | 0=>List.replicate B.length (-1)
 | i+1=>if (au B i).op==5 then (dR B i).set (oW B i).toNat i else dR B i
def fJ (B:List bv) (i:Nat):List Int:=(List.range i).map fun j=>((bh B j).length:Int)
def g_ (B:List bv) (i:Nat):List Int:=(List.range i).map fun j=>oW B j
theorem jV (B:List bv):∀i,(fL B i).length=B.length
 | 0=>by simp [fL]
 | i+1=>by simp only [fL];split<;>simp [jV B i]
theorem i0 (B:List bv):∀i,(dR B i).length=B.length
 | 0=>by simp [dR]
 | i+1=>by simp only [dR];split<;>simp [i0 B i]
theorem Li (a b:Int) (i m:Nat) (h:0<m):(List.replicate i a++List.replicate m b).set i a=List.replicate (i+1) a++List.replicate (m - 1) b:=by
 obtain ⟨m,rfl⟩:∃k,m=k+1:=⟨m - 1,by omega⟩
 rw [List.set_append_right _ _ (by simp)]
 simp only [List.length_replicate,Nat.sub_self,List.replicate_succ,List.set_cons_zero,Nat.add_sub_cancel]
 rw [← List.replicate_succ,List.replicate_succ']
 simp
theorem sG (n:Nat) (hn:n<1073741824):bu Tryz.prog Z_ [.int .i64 n] [] (fun id=>1000≤id∧id<2000) (fun r σ'=>r = .ms 6 1 0 n∧σ'=[(6,⟨3,1,(List.replicate n (-1)).map ri,false⟩)]):=by
 refine aB (ic:=G0.body) ap XT rfl rfl ?_
 simp only [G0,go_sem]
 refine ⟨by omega,?_⟩
 refine aJ (fun i:Nat=>⟨[(9,.int .i64 i),(8,.int .i64 n),(3,.ms 6 1 0 n)],[(6,⟨3,1,(List.replicate i (-1)++List.replicate (n - i) 0).map ri,false⟩)]⟩) (fun i=>i≤n) (fun i=>n - i) 0 (ef _) (Wk.of ?_ ?_) ?_
 ·simp [go_sem]
 ·simp [go_sem]
 intro i hi
 simp only [go_sem]
 refine ⟨fun h=>⟨by omega,by simp;omega,bA (i+1) (by omega) (by omega) (Wk.of ?_ ?_)⟩,fun h=>done [] (.ms 6 1 0 n) [(6,⟨3,1,(List.replicate n (-1)).map ri,false⟩)] ?_ ?_ rfl ⟨rfl,rfl⟩⟩
 ·simp [go_sem,wi (n:=i+1) (by omega) (by omega)]
 ·simp only [go_sem,↓reduceIte,Nat.zero_add,Li (-1) 0 i (n - i) (by omega),show n - i - 1=n - (i+1) by omega]
 ·simp [go_sem]
 ·have:i=n:=by omega
  subst this
  simp [go_sem]
theorem oV (B:List bv) (h:Int) (i:Nat):qG B h (i+1)=(qG B h i||(decide (h<i)&&(au B i).op==5&&decide (0<(bh B i).length)&&oW B i==h)):=by
 simp only [qG,List.range_succ,List.any_append,List.any_cons,List.any_nil,Bool.or_false]
def mQ (B:List bv) (l:List Int):AV:=if (nchk B).2=0 then .sl 1 (l.map ri) else .nl
theorem vX (B:List bv) (i:Nat):fJ B (i+1)=fJ B i++[((bh B i).length:Int)]:=by simp [fJ,List.range_succ]
theorem yq (B:List bv) (i:Nat):g_ B (i+1)=g_ B i++[oW B i]:=by simp [g_,List.range_succ]
theorem gZ (B:List bv) (i:Nat):(fJ B i).length=i:=by simp [fJ]
theorem i1 (B:List bv) (i:Nat):(g_ B i).length=i:=by simp [g_]
def Wi (p:Int×Bool):List AV:=[.int .i64 p.1,.bool p.2]
theorem aaW (p:Int×Bool):Wi p=[.int .i64 p.1,.bool p.2]:=rfl
attribute [local go_sem] aaW
def fK (B:List bv) (i:Nat):List Int:=fJ B i++List.replicate (B.length - i) (-1)
def ib (B:List bv) (i:Nat):List Int:=g_ B i++List.replicate (B.length - i) (-1)
def fv (B:List bv) (i:Nat):List (Int×Bool):=(bh B i).map fun h=>(h,qG B h i)
def oX (B:List bv):AV:=.tup [.agg [mQ B (fL B B.length),mQ B (dR B B.length),mQ B (fJ B B.length),mQ B (g_ B B.length)],.int .i64 (nchk B).1,.int .i64 (nchk B).2]
theorem cH {B:List bv} {a e:Int} (h:nchk B=(a,e)) (he:e≠0):oX B = .tup [.agg [.nl,.nl,.nl,.nl],.int .i64 a,.int .i64 e]:=by simp [oX,mQ,h,he]
theorem xo {B:List bv} (h:nchk B=(0,0)):oX B = .tup [.agg [.sl 1 ((fL B B.length).map ri),.sl 1 ((dR B B.length).map ri),.sl 1 ((fJ B B.length).map ri),.sl 1 ((g_ B B.length).map ri)],.int .i64 0,.int .i64 0]:=by simp [oX,mQ,h]
theorem Rg {l:List Int} {i n:Nat} {x:Int} (hl:l.length=i) (hi:i<n):(l++List.replicate (n - i) (-1)).set i x=(l++[x])++List.replicate (n - (i+1)) (-1):=by
 subst hl
 rw [List.set_append_right _ _ (aO _),Nat.sub_self,show n - l.length=(n - (l.length+1))+1 by omega,List.replicate_succ,List.set_cons_zero]
 simp
theorem gw {B:List bv} {i:Nat} (hi:i<B.length):(fK B i).set i ((bh B i).length:Int)=fK B (i+1):=by
 rw [fK,Rg (gZ B i) hi,← vX,fK]
theorem ig {B:List bv} {i:Nat} (hi:i<B.length):(ib B i).set i (oW B i)=ib B (i+1):=by
 rw [ib,Rg (i1 B i) hi,← yq,ib]
theorem uk (B:List bv) (i:Nat):(fv B i).length=(bh B i).length:=by simp [fv]
theorem Ll {B:List bv} {i:Nat} {J:List (Int×Bool)} (h:0<(bh B i).length):au (fv B i++J) ((bh B i).length - 1)=(oW B i,qG B (oW B i) i):=by
 rw [xr (by rw [uk];omega),fv,nth_map (by omega)]
 rfl
theorem lm {B:List bv} {h:Int} {i:Nat} (h5:((au B i).op==5)=false):qG B h (i+1)=qG B h i:=by rw [oV,h5];simp
theorem K6 {B:List bv} {i:Nat}:qG B i (i+1)=false:=by
 simp only [qG,List.any_eq_false]
 intro j hj
 simp at hj ⊢
 omega
theorem Fw {B:List bv} {i:Nat} (h5:((au B i).op==5)=false) (hb:Aq (au B i).op=true):fv B (i+1)=fv B i++[((i:Int),false)]:=by
 have hi0:qG B i i=false:=by rw [← lm h5];exact K6
 simp only [fv,bh,qI,hb,dl,List.map_append,cF,List.map_nil,lm h5,hi0]
theorem Lk {B:List bv} {i:Nat} (h5:((au B i).op==5)=false) (hb:Aq (au B i).op=false) (h11:((au B i).op==11)=true):fv B (i+1)=(fv B i).dropLast:=by
 simp only [fv,bh,qI,hb,h11,dl,iR,fA,lm h5,List.map_dropLast]
theorem Fx {B:List bv} {i:Nat} (h5:((au B i).op==5)=false) (hb:Aq (au B i).op=false) (h11:((au B i).op==11)=false):fv B (i+1)=fv B i:=by
 simp only [fv,bh,qI,hb,h11,iR,fA,lm h5]
theorem Fv {B:List bv} {i:Nat} (hne:∀j,j<i→0<(bh B j).length) (h0:0<(bh B i).length) (hh:oW B i<i) (h5:((au B i).op==5)=true):fv B (i+1)=(fv B i).set ((bh B i).length - 1) (oW B i,true):=by
 have h5':(au B i).op=5:=by simpa using h5
 have hr:bh B (i+1)=bh B i:=by simp [bh,qI,Aq,h5']
 refine List.ext_getElem (by simp [fv,hr]) fun k h1 h2=>?_
 have hk:k<(bh B i).length:=by rw [uk,hr] at h1;exact h1
 simp only [fv,List.getElem_map,hr,List.getElem_set]
 by_cases hkl:(bh B i).length - 1=k
 ·subst hkl
  rw [av rfl]
  have:(bh B i)[(bh B i).length - 1]=oW B i:=(aX hk).symm
  rw [this,oV,h5]
  simp [hh,h0]
 ·rw [ar hkl,oV,h5]
  have:(oW B i==(bh B i)[k])=false:=by
   rw [QD]
   intro he
   rcases xn hne h0 with ⟨g1,_⟩ | ⟨_,j,g2,g3,g4,_⟩
   ·omega
   ·have hkj:k<(bh B j).length:=by rw [g4,sw];omega
    have e1:au (bh B j) k=(bh B i)[k]:=by rw [g4,Av (by omega),aX hk]
    rcases mR B j (fun m hm=>hne m (by omega)) k hkj with ⟨_,g5⟩ | ⟨_,m,g5,g6,_⟩<;>omega
  rw [this]
  simp
theorem xq (B:List bv):∀i,(∀j,j<i→fM B j=0)→(bh B i).length≤32
 | 0,_=>by simp [bh]
 | i+1,he=>by
  have ih:=xq B i (fun j hj=>he j (by omega))
  have:=(K7 (he i (by omega))).2
  simp only [bh,qI]
  split
  ·rename_i hb
   rw [hb] at this
   simp at this ⊢
   omega
  ·split
   ·simp;omega
   ·exact ih
theorem Lj (id row:Nat) (t:TypeId) (l:List (Int×Bool)):sO id 1 2 row 1 (some ⟨t,2,l.map Wi,false⟩) (some [.bool true])=if row<l.length then some (.put id ⟨t,2,(l.set row ((au l row).1,true)).map Wi,false⟩) else none :=
 uM id 1 2 row 1 t Wi l [.bool true] (fun p=>(p.1,true)) rfl rfl (fun _=>aO 2) (fun _=>rfl)
theorem PE (B:List bv) (hn:B.length<1000000):aj Tryz.prog Z9 [.sl 9 (B.map cD)] (oX B):=by
 refine ac (ic:=GZ.body) ap XS rfl rfl ?_
 simp only [GZ,go_sem]
 refine nc (sG B.length (by omega)) rfl (by simp [go_sem]) 901 (by omega) (by simp [go_sem]) ?_
 simp only [go_sem]
 refine nc (sG B.length (by omega)) rfl (by simp [go_sem]) 902 (by omega) (by simp [go_sem]) ?_
 simp only [go_sem]
 refine nc (sG B.length (by omega)) rfl (by simp [go_sem]) 903 (by omega) (by simp [go_sem]) ?_
 simp only [go_sem]
 refine nc (sG B.length (by omega)) rfl (by simp [go_sem]) 904 (by omega) (by simp [go_sem]) ?_
 simp only [go_sem]
 refine aJ (fun q:Nat×List (Int×Bool)=>⟨[(26,.int .i64 q.1),(25,.int .i64 B.length),(24,.sl 9 (B.map cD)),(7,.ms 23 2 0 (bh B q.1).length),(6,.mp 6 4 0 0),(5,.int .i64 B.length),(2,.mp 2 4 0 0),(0,.sl 9 (B.map cD))],
   [(23,⟨256,2,(fv B q.1++q.2).map Wi,false⟩),(6,⟨208,4,[[.ms 901 1 0 B.length,.ms 902 1 0 B.length,.ms 903 1 0 B.length,.ms 904 1 0 B.length]],true⟩),
      (904,⟨3,1,(ib B q.1).map ri,false⟩),(903,⟨3,1,(fK B q.1).map ri,false⟩),(902,⟨3,1,(dR B q.1).map ri,false⟩),(901,⟨3,1,(fL B q.1).map ri,false⟩),(2,⟨208,4,[[.nl,.nl,.nl,.nl]],true⟩)]⟩)
  (fun q=>q.1≤B.length∧∀j,j<q.1→fM B j=0) (fun q=>B.length - q.1) (0,[]) ⟨ef _,fun j hj=>absurd hj (Nat.not_lt_zero _)⟩ (Wk.of ?_ ?_) ?_
 ·simp [go_sem,bh]
 ·simp [go_sem,fv,bh,ib,fK,g_,fJ,fL,dR,qG]
 rintro ⟨i,J⟩ ⟨hi,he⟩
 replace hi:i≤B.length:=hi
 replace he:∀j,j<i→fM B j=0:=he
 have hl:=At B i
 have hsl:=uk B i
 have hdl:(fK B i).length=B.length:=by simp [fK,gZ];omega
 have hhl:(ib B i).length=B.length:=by simp [ib,i1];omega
 have hw:(IntKind.i64.wrap (↑(bh B i).length - 1))=((bh B i).length:Int) - 1:=wi (by omega) (by omega)
 have hnt:((bh B i).length - 1:Int).toNat=(bh B i).length - 1:=by omega
 have hne:∀j,j<i→0<(bh B j).length:=fun j hj=>PA (he j hj)
 rcases jn i B.length with hlt | hge
 ·have hd1:decide ((i:Int)<(B.length:Int))=true:=by simp;omega
  by_cases h0:(bh B i).length=0
  ·have h0':(((bh B i).length:Int)==0)=true:=by simp [h0]
   have h16:fM B i=16:=by simp only [fM,h0,dl]
   have hc:nchk B=((i:Int),16):=by rw [Dz hlt he (by rw [h16];decide),h16]
   simp only [go_sem,hd1,h0']
   refine ⟨by omega,by omega,aN [] ?_ ?_⟩
   ·rw [cH hc (by decide)];simp [go_sem]
   ·rw [cH hc (by decide)];rfl
  have h0':(((bh B i).length:Int)==0)=false:=by simp;exact fun h=>h0 (by simp [h])
  have hp:0<(bh B i).length:=by omega
  obtain ⟨hb1,hb2⟩:=BV hne hp
  have htop:=Ll (J:=J) hp
  have herr:∀e:Int,e≠0→fM B i=e→nchk B=((i:Int),e):=fun e h1 h2=>by rw [Dz hlt he (by rw [h2];exact h1),h2]
  have hsucc:fM B i=0→∀j,j<i+1→fM B j=0:=fun h0 j hj=>by
   rcases Nat.lt_or_eq_of_le (Nat.le_of_lt_succ hj) with h1 | h1
   ·exact he j h1
   ·rw [h1];exact h0
  have happ:=fun ys=>Eu 23 256 2 (bh B i).length Wi (fv B i++J) ys (by simp [hsl])
  have htk:List.take (bh B i).length (fv B i++J)=fv B i:=by rw [← hsl];simp
  have hwi:=wi (n:=(i:Int)+1) (by omega) (by omega)
  by_cases hb:Aq (au B i).op=true
  ·have h5:((au B i).op==5)=false:=by simp [Aq] at hb ⊢;omega
   have hbe:cY B i=false:=by simp [cY,h5]
   have key:∀b2 b3 b4:Bool,((au B i).op==2)=b2→((au B i).op==3)=b3→((au B i).op==4)=b4→(b2||b3||b4)=true→True:=fun _ _ _ _ _ _ _=>trivial
   have hop:(au B i).op=2∨(au B i).op=3∨(au B i).op=4:=by simp [Aq] at hb;omega
   by_cases h32:(bh B i).length=32
   ·have h32':(((bh B i).length:Int)==32)=true:=by simp [h32]
    have hc:=herr 6 (by decide) (by simp only [fM,ar h0,hbe,hb];simp [h32])
    rcases hop with hop | hop | hop
    all_goals
     simp only [go_sem,hd1,h0',hw,hnt,htop,hop,Int.reduceBEq,h32']
     refine ⟨by omega,by omega,by omega,by omega,by omega,by simp;omega,by omega,by omega,aN [] ?_ ?_⟩
     ·rw [cH hc (by decide)];simp [go_sem]
     ·rw [cH hc (by decide)];rfl
   ·have h32':(((bh B i).length:Int)==32)=false:=by simp;omega
    have hlt32:(bh B i).length<32:=by have:=xq B i he;omega
    have he0:fM B i=0:=by simp only [fM,ar h0,hbe,hb];simp;omega
    rcases hop with hop | hop | hop
    all_goals
     have hpu:=Fw h5 hb
     simp only [go_sem,hd1,h0',hw,hnt,htop,hop,Int.reduceBEq,h32',happ,htk,gw hlt,ig hlt]
     refine ⟨by omega,by omega,by omega,by omega,by omega,by simp;omega,by omega,by omega,by omega,bA (i+1,[]) ⟨show i+1≤B.length by omega,hsucc he0⟩ (show B.length - (i+1)<B.length - i by omega) (Wk.of ?_ ?_)⟩
     ·simp [go_sem,hwi,bh,qI,hb]
     ·simp [go_sem,hpu,fL,dR,hop]
  ·have hb':Aq (au B i).op=false:=by simpa using hb
   have h2:((au B i).op==2)=false:=by simp [Aq] at hb';simp [hb']
   have h3:((au B i).op==3)=false:=by simp [Aq] at hb';simp [hb']
   have h4:((au B i).op==4)=false:=by simp [Aq] at hb';simp [hb']
   by_cases h5:((au B i).op==5)=true
   ·have h11:((au B i).op==11)=false:=by simp at h5 ⊢;omega
    have hr:bh B (i+1)=bh B i:=by simp [bh,qI,hb',h11]
    have hel:=Fv hne hp hb2 h5
    have hns:au ((fv B i++J).set ((bh B i).length - 1) (oW B i,true)) ((bh B i).length - 1)=(oW B i,true):=jW (by simp;omega)
    simp only [go_sem,hd1,h0',hw,hnt,htop,h2,h3,h4,h5,Lj,hns,gw hlt,ig hlt]
    have hbad:cY B i=true→nchk B=((i:Int),16):=fun hbe=>herr 16 (by decide) (by simp only [fM,ar h0,hbe,dl])
    refine ⟨by omega,by omega,by omega,by omega,by omega,by simp;omega,by omega,by omega,by simp;omega,fun hneg=>aN [] ?_ ?_,fun hneg=>⟨by simp;omega,by omega,by omega,fun h4'=>aN [] ?_ ?_,fun h4'=>⟨by simp;omega,fun hels=>aN [] ?_ ?_,fun hels=>⟨by simp;omega,by simp;omega,by omega,?_,bA (i+1,J) ⟨show i+1≤B.length by omega,hsucc ?_⟩ (show B.length - (i+1)<B.length - i by omega) (Wk.of ?_ ?_)⟩⟩⟩⟩
    ·rw [cH (hbad (by simp [cY,h5,hneg])) (by decide)];simp [go_sem]
    ·rw [cH (hbad (by simp [cY,h5,hneg])) (by decide)];rfl
    ·rw [cH (hbad (by simp [cY,h5,h4'])) (by decide)];simp [go_sem]
    ·rw [cH (hbad (by simp [cY,h5,h4'])) (by decide)];rfl
    ·rw [cH (hbad (by simp [cY,h5,hels])) (by decide)];simp [go_sem]
    ·rw [cH (hbad (by simp [cY,h5,hels])) (by decide)];rfl
    ·rw [i0];omega
    ·have hbe:cY B i=false:=by simp [cY,h4',hels];intro _;omega
     simp only [fM,ar h0,hbe,hb']
     rfl
    ·simp [go_sem,hwi,hr]
    ·have e1:(fv B i++J).set ((bh B i).length - 1) (oW B i,true)=(fv B i).set ((bh B i).length - 1) (oW B i,true)++J:=List.set_append_left _ _ (by omega)
     simp only [go_sem,hel,e1,fL,dR,h11,h5,gp,iR]
   ·have h5':((au B i).op==5)=false:=by simpa using h5
    have hbe:cY B i=false:=by simp [cY,h5']
    have he0:fM B i=0:=by simp only [fM,ar h0,hbe,hb'];rfl
    by_cases h11:((au B i).op==11)=true
    ·have hpo:=Lk h5' hb' h11
     have hr:bh B (i+1)=(bh B i).dropLast:=by simp [bh,qI,hb',h11]
     have e1:fv B i++J=(fv B i).dropLast++((fv B i).drop ((bh B i).length - 1)++J):=by
      rw [List.dropLast_eq_take,hsl,← oe,List.take_append_drop]
     simp only [go_sem,hd1,h0',hw,hnt,htop,h2,h3,h4,h5',h11,gw hlt,ig hlt]
     refine ⟨by omega,by omega,by omega,by omega,by omega,by simp;omega,by omega,by omega,by simp;omega,fun hge=>⟨by simp;omega,by omega,?_,by omega,bA (i+1,(fv B i).drop ((bh B i).length - 1)++J) ⟨show i+1≤B.length by omega,hsucc he0⟩ (show B.length - (i+1)<B.length - i by omega) (Wk.of ?_ ?_)⟩,fun hge=>⟨by omega,bA (i+1,(fv B i).drop ((bh B i).length - 1)++J) ⟨show i+1≤B.length by omega,hsucc he0⟩ (show B.length - (i+1)<B.length - i by omega) (Wk.of ?_ ?_)⟩⟩
     ·rw [jV];omega
     ·simp [go_sem,hwi,hr]
     ·have hge':decide (0≤oW B i)=true:=by simp;omega
      simp only [go_sem,hpo,← e1,fL,dR,h11,h5',hge',iR,Bool.and_self]
     ·simp [go_sem,hwi,hr]
     ·have hge':decide (0≤oW B i)=false:=by simp;omega
      simp only [go_sem,hpo,← e1,fL,dR,h11,h5',hge',iR,Bool.and_false]
    ·have h11':((au B i).op==11)=false:=by simpa using h11
     have hsm:=Fx h5' hb' h11'
     have hr:bh B (i+1)=bh B i:=by simp [bh,qI,hb',h11']
     simp only [go_sem,hd1,h0',hw,hnt,htop,h2,h3,h4,h5',h11',gw hlt,ig hlt]
     refine ⟨by omega,by omega,by omega,by omega,by omega,by simp;omega,by omega,by omega,bA (i+1,J) ⟨show i+1≤B.length by omega,hsucc he0⟩ (show B.length - (i+1)<B.length - i by omega) (Wk.of ?_ ?_)⟩
     ·simp [go_sem,hwi,hr]
     ·simp only [go_sem,hsm,fL,dR,h11',h5',iR,gp]
 ·have hd1:decide ((i:Int)<(B.length:Int))=false:=by simp;omega
  have hiB:i=B.length:=by omega
  subst hiB
  simp only [go_sem,hd1]
  have hc:=K5 he
  refine ⟨fun hp=>aN [] ?_ ?_,fun hp=>aN [901,902,903,904] ?_ ?_⟩
  ·rw [av (by omega)] at hc
   rw [cH hc (by decide)];simp [go_sem]
  ·rw [av (by omega)] at hc
   rw [cH hc (by decide)];rfl
  ·rw [ar (by omega)] at hc
   rw [xo hc]
   simp [go_sem,jV,i0,gZ,i1,fK,ib]
   exact ⟨iq (by simp [jV]),iq (by simp [i0]),iq (by simp [gZ]),iq (by simp [i1])⟩
  ·rw [ar (by omega)] at hc
   rw [xo hc];rfl
theorem Lh (B:List bv) (hn:B.length<1000000):aj Tryz.prog ZT [.sl 9 (B.map cD)] (.tup [.int .i64 (nchk B).1,.int .i64 (nchk B).2]):=by
 refine ac (ic:=GR.body) ap XB rfl rfl ?_
 simp only [GR,go_sem]
 refine aa (PE B hn) ?_
 by_cases h:(nchk B).2=0
 all_goals
  simp only [oX,mQ,h,go_sem]
  refine aN [] ?_ rfl
  simp [go_sem,h]
end
section
open Go Go.Mw
theorem KU (m:Md):gY m = .agg (qF m):=rfl
attribute [local go_sem] bT nZ n7 n8 n6 jF qg js aY dB cD Rp Yk Yl zS zT KU bM df
theorem L_ (m:Md) (s:Sp) (n:Nat) (h:uS s) (hn:n<m.fs.length) (hl:m.fs.length≤9000000):aj Tryz.prog aaj [gY m,kj s,.int .i64 n] (.tup [.agg (jp ((s.ty (au m.fs n).t).getD default)),.bool (s.ty (au m.fs n).t).isSome]):=by
 refine ac (ic:=G7.body) ap X3 rfl rfl ?_
 have c1:=yM s (au m.fs n).t h
 have h0:¬((n:Int)<0):=by omega
 have h1:¬((n:Int)≥(m.fs.length:Int)):=by omega
 have h2:(n:Int)<(m.fs.length:Int):=by omega
 simp only [aU,aA,aY] at c1
 simp only [go_sem,G7,aU,aA,bF h0,bF h1,cZ]
 refine ⟨by omega,h2,?_⟩
 refine aa (c1) ?_
 simp only [go_sem]
 exact ak
theorem FR (m:Md) (s:Sp) (n:Nat) (h:uS s) (hn:n<m.fs.length) (hl:m.fs.length≤9000000) (hlo:(au m.fs n).lo.length≤1000000):aj Tryz.prog ZA [gY m,kj s,.int .i64 n] (.tup [.sl 1 ((if (s.ty (au m.fs n).t).isSome=true then ((s.ty (au m.fs n).t).getD default).ps++(au m.fs n).lo else []).map bp),.bool (s.ty (au m.fs n).t).isSome]):=by
 refine ac (ic:=GE.body) ap Xg rfl rfl ?_
 have c1:=L_ m s n h hn hl
 have h2:(n:Int)<(m.fs.length:Int):=by omega
 have hb:=Qu h (au m.fs n).t
 generalize s.ty (au m.fs n).t=q at c1 hb ⊢
 simp only [aU,aA,aY,KU,bM] at c1
 simp only [go_sem,GE,aU,aA]
 refine aa (c1) ?_
 cases q with
 | none =>
  simp only [go_sem,Option.isSome_none]
  exact iQ (Wk.nls _ 6 1 (by rfl)) [] (by rfl) rfl
 | some f =>
  simp only [Option.getD_some] at hb
  obtain ⟨hb1,hb2⟩:=hb
  have ha:=eQ 22 48 1 f.ps.length bp f.ps ((au m.fs n).lo.map bp) rfl
  have et:(f.ps.map bp++(au m.fs n).lo.map bp).take (f.ps.length+(au m.fs n).lo.length)=(f.ps++(au m.fs n).lo).map bp:=by
   rw [iq (by simp),List.map_append]
  simp only [go_sem,Option.isSome_some,Option.getD_some]
  simp only [go_sem,ha,cZ]
  refine ⟨by omega,by omega,h2,⟨by omega,by omega⟩,?_⟩
  exact aN [22] (by simp only [go_sem,et,aO,List.drop_zero,Nat.zero_add,ee]) (by rfl)
theorem YP (C:Ct):xN KX [] C (.tup []) C:=by
 refine aB (ic:=Gu.body) ap W4 rfl rfl ?_
 simp only [go_sem,Gu]
 exact gc [] _ (dv C) (by rfl) (by exact ⟨rfl,rfl,rfl,rfl,rfl,trivial⟩) rfl ⟨rfl,rfl⟩
theorem QA (s:Sp) (lo:List Int) (C:Ct) {l:List bv} {j:Nat} (h:j<l.length):kf s lo j (l.drop j) C=if (cK C s lo (au l j)).1≠0 then ((j:Int),(cK C s lo (au l j)).1) else if (cK C s lo (au l j)).2.s.ov=true then ((j:Int),6) else kf s lo (j+1) (l.drop (j+1)) (cK C s lo (au l j)).2:=by
 rw [fc h,kf]
structure WS (f:Cd):Prop where
 lo:f.lo.length≤64
 b:f.b.length≤2048
 i:∀x∈f.b,DQ x∧x.lb.length≤64
theorem P9 (hLeft:dd) (m:Md) (s:Sp) (n:Nat) (hs:lG s) (hn:n<m.fs.length) (hl:m.fs.length≤9000000) (hf:WS (au m.fs n)):aj Tryz.prog Z2 [gY m,kj s,.int .i64 n,.fn KX []] (.tup [.int .i64 (gD m s (au m.fs n)).1,.int .i64 (gD m s (au m.fs n)).2]):=by
 refine ac (ic:=GW.body) ap XL rfl rfl ?_
 have c1:=L_ m s n hs.sm hn hl
 have c2:=FR m s n hs.sm hn hl (by have:=hf.lo;omega)
 have h2:(n:Int)<(m.fs.length:Int):=by omega
 have hty:=fun t=>Qv hs (au m.fs n).t (f:=t)
 have cn:=Lh (au m.fs n).b (by have:=hf.b;omega)
 obtain ⟨T,hT⟩:∃T,gD m s (au m.fs n)=T:=⟨_,rfl⟩
 rw [hT]
 unfold gD at hT
 generalize s.ty (au m.fs n).t=q at c1 c2 hT hty
 simp only [aU,aA,aY,KU,bM] at c1 c2
 simp only [go_sem,GW,aU,aA]
 refine aa (c2) ?_
 cases q with
 | none =>
  dsimp only at hT
  subst hT
  simp only [go_sem,Option.isSome_none]
  exact an
 | some t =>
  dsimp only at hT
  obtain ⟨ht1,ht2⟩:=hty t rfl
  simp only [Option.isSome_some,Option.getD_some,dl] at c1
  have hlo:=hf.lo
  have hbl:=hf.b
  have hbi:=hf.i
  generalize hF:au m.fs n=F at *
  obtain ⟨lo,hloE⟩:∃lo,t.ps++F.lo=lo:=⟨_,rfl⟩
  have hlol:lo.length≤200:=by rw [← hloE,ee];omega
  rw [hloE] at hT
  simp only [go_sem,Option.isSome_some,Option.getD_some,hloE,hF,cZ]
  refine ⟨by omega,h2,?_⟩
  refine aa (cn) ?_
  by_cases e1:(nchk F.b).2=0
  rotate_left
  ·rw [av e1] at hT
   subst hT
   simp only [go_sem,aK e1]
   exact an
  rw [ar (fun q=>q e1)] at hT
  simp only [go_sem,ay e1]
  refine aa (c1) ?_
  simp only [go_sem]
  refine fD (T4 t.rs (by omega)) [901,902,2000,2001,2002] (fun p hp=>by cases hp) ?_ (fun p hp=>by cases hp) ?_
  ·intro p hp
   simp only [IE,bc,List.not_mem_nil,or_false] at hp
   rcases hp with rfl | rfl | rfl | rfl | rfl
   ·exact .inr ⟨by simp,.inl (show 901<1000 by decide),.inr rfl⟩
   ·exact .inr ⟨by simp,.inr (show 2000≤2000 by decide),.inr rfl⟩
   ·exact .inr ⟨by simp,.inl (show 902<1000 by decide),.inr rfl⟩
   ·exact .inr ⟨by simp,.inr (show 2000≤2001 by decide),.inr rfl⟩
   ·exact .inr ⟨by simp,.inr (show 2000≤2002 by decide),.inr rfl⟩
  simp only [go_sem]
  refine aJ (fun q:Nat×Ct=>⟨[(58,.int .i64 q.1),(57,.int .i64 F.b.length),(17,.mp 901 5 0 0),(12,.sl 9 (F.b.map cD)),(10,.sl 1 (lo.map bp)),(3,.fn KX []),(1,kj s)],IE q.2⟩)
   (fun q=>q.1≤F.b.length∧lO q.1 q.2∧kf s lo q.1 (F.b.drop q.1) q.2=T) (fun q=>F.b.length - q.1) (0,ju t.rs) ⟨ef _,?_,hT⟩ (Wk.of ?_ ?_) ?_
  ·refine ⟨aO 1,aO 0,aO 1,ht2,fun b hb=>?_⟩
   rw [du.1 hb]
   exact ⟨ef _,by show t.rs.length≤100;omega⟩
  ·simp only [go_sem,aU,aA];try simp
  ·simp only [go_sem];try rfl
  rintro ⟨j,C⟩ ⟨hj,hg,hx⟩
  dsimp only at hj hg hx
  by_cases h1:(j:Int)<(F.b.length:Int)
  rotate_left
  ·rw [bY (by omega)] at hx
   simp only [kf] at hx
   subst hx
   simp only [go_sem,bF h1]
   exact an
  have hj':j<F.b.length:=by omega
  have e8:=ep hj' (by omega)
  rw [QA s lo C hj'] at hx
  have hxm:=hbi (au F.b j) (by rw [aX hj'];exact List.getElem_mem _)
  have ka:=O2 hLeft C s lo (au F.b j) (hg.ok (by omega)) hs (by omega) hxm.1 (by omega)
  have hg2:=Og hg s hs lo (au F.b j)
  simp only [dB] at ka
  generalize cK C s lo (au F.b j)=R at ka hx hg2
  obtain ⟨e,C2⟩:=R
  dsimp only at ka hx hg2
  simp only [go_sem,bH h1,aU,aA]
  rw [av (by decide)]
  refine ⟨by kernel_rfl,?_⟩
  refine x4 (r3:=.tup []) (YP C) rfl rfl rfl (by simp only [go_sem]) (by simp only [go_sem]) (by simp only [go_sem]) (by simp only [go_sem]) (by simp only [go_sem]) ?_
  simp only [go_sem]
  refine ⟨by omega,h1,?_⟩
  refine x4 (r3:=.int .i64 e) ka rfl rfl rfl (by simp only [go_sem]) (by simp only [go_sem]) (by simp only [go_sem]) (by simp only [go_sem]) (by simp only [go_sem]) ?_
  by_cases e2:e=0
  rotate_left
  ·rw [av e2] at hx
   subst hx
   simp only [go_sem,aK e2]
   exact an
  rw [ar (fun q=>q e2)] at hx
  simp only [go_sem,ay e2]
  refine x4 (r3:=.mp 902 3 0 0) (cL C2) rfl rfl rfl (by simp only [go_sem]) (by simp only [go_sem]) (by simp only [go_sem]) (by simp only [go_sem]) (by simp only [go_sem]) ?_
  simp only [go_sem]
  refine CU (r3:=.bool C2.s.ov) (T7 C2.s) rfl rfl rfl (by simp only [go_sem]) (by simp only [go_sem]) (by simp only [go_sem]) ?_
  cases e3:C2.s.ov
  rotate_left
  ·rw [av e3] at hx
   subst hx
   simp only [go_sem,e3]
   exact an
  rw [ar (by rw [e3];decide)] at hx
  simp only [go_sem,e3]
  refine bA (j+1,C2) ⟨show j+1≤F.b.length by omega,hg2,hx⟩ (show F.b.length - (j+1)<F.b.length - j by omega) (Wk.of ?_ ?_)
  ·simp only [go_sem,e8];try simp
  ·simp only [go_sem,e3];try rfl
theorem L7 (hLeft:dd) (m:Md) (s:Sp) (n:Nat) (hs:lG s) (hn:n<m.fs.length) (hl:m.fs.length≤9000000) (hf:WS (au m.fs n)):aj Tryz.prog ZP [gY m,kj s,.int .i64 n] (.tup [.int .i64 (gD m s (au m.fs n)).1,.int .i64 (gD m s (au m.fs n)).2]):=by
 refine ac (ic:=GP.body) ap Xx rfl rfl ?_
 have c1:=P9 hLeft m s n hs hn hl hf
 simp only [aU,aA,KU,bM] at c1
 simp only [go_sem,GP,aU,aA]
 refine aa (c1) ?_
 simp only [go_sem]
 exact ak
end
section
open Go Go.Mw
attribute [local go_sem] bT ql bM aU aA aY bO Ad lc e_ kK eB eS eV dy dx
theorem Tq (m:Md) (s:Sp) (hb:m.gs.length≤1000000) (hi1:∀g∈m.gs,g.i.length≤1000000):sS aez Gk m s eC (m.gs.map fun g=>dX s g.i g.g.v):=by
 intro i hi _ F hF
 rw [bT] at hi
 rw [jz _ hi]
 refine aB (ic:=RL.body) ap acp rfl rfl ?_
 have hX2:=hi1 (au m.gs i) (by rw [aX hi];exact List.getElem_mem _)
 generalize hX:au m.gs i=X at hX2
 have kt:=nD m s F X.i X.g.v hX2
 have hi2:(i:Int)<(m.gs.length:Int):=by omega
 generalize dX s X.i X.g.v=R at kt ⊢
 simp only [go_sem,RL,Gk,eC,cZ,hX]
 refine ⟨by omega,hi2,by omega,hi2,?_⟩
 refine gr kt (by simp only [go_sem]) (by simp only [go_sem]) ?_
 simp only [go_sem]
 exact aG [] _ [(1000,dF m s F),(1001,lj)] ⟨rfl,rfl⟩
theorem Tt (m:Md) (s:Sp) (h:lG s):sS aeA Gk m s eC [wh s m.st]:=by
 intro i hi _ F hF
 have hi0:i=0:=by simp at hi;omega
 subst hi0
 rw [show au [wh s m.st] 0=wh s m.st from rfl]
 refine aB (ic:=RM.body) ap acr rfl rfl ?_
 have c1:=L4 s m.st h.sm
 have hn:=fun f=>Yz h (i:=m.st) (f:=f)
 unfold wh
 generalize s.fn m.st=q at c1 hn ⊢
 simp only [aU,aA,aY] at c1
 simp only [go_sem,RM,Gk,eC]
 refine bP c1 (by simp [go_sem]) rfl ?_
 cases q with
 | none =>
  simp only [go_sem,Option.isSome_none]
  exact aG [] _ [(1000,dF m s F),(1001,lj)] ⟨rfl,rfl⟩
 | some f =>
  obtain ⟨h1,h2⟩:=hn f rfl
  have hw:IntKind.i64.wrap ((f.ps.length:Int)+f.rs.length)=((f.ps.length+f.rs.length:Nat):Int):=by rw [wi (by omega) (by omega)];omega
  dsimp only
  by_cases g:((f.ps.length+f.rs.length:Nat):Int)>0
  ·rw [av (by omega)]
   simp only [go_sem,Option.isSome_some,Option.getD_some,hw,bH g]
   exact aG [] _ [(1000,dF m s F),(1001,lj)] ⟨rfl,rfl⟩
  ·rw [ar (by omega)]
   simp only [go_sem,Option.isSome_some,Option.getD_some,hw,bF g]
   exact aG [] _ [(1000,dF m s F),(1001,lj)] ⟨rfl,rfl⟩
theorem Tu (m:Md) (s:Sp) (hb:m.ds.length≤1000000) (hi1:∀d∈m.ds,d.o.length≤1000000):sS nX6 Gk m s eC (m.ds.map (wg s)):=by
 intro i hi _ F hF
 rw [bT] at hi
 rw [jz _ hi]
 refine aB (ic:=FX6.body) ap cX6 rfl rfl ?_
 have hX2:=hi1 (au m.ds i) (by rw [aX hi];exact List.getElem_mem _)
 generalize hX:au m.ds i=X at hX2
 have kt:=nD m s F X.o 1 hX2
 have kh:=Dk m s F 2 X.me
 have hi2:(i:Int)<(m.ds.length:Int):=by omega
 obtain ⟨T,hT⟩:∃T,wg s X=T:=⟨_,rfl⟩
 rw [hT]
 unfold wg at hT
 generalize dX s X.o 1=R at kt hT
 simp only [go_sem,FX6,Gk,eC,cZ,hX]
 refine ⟨by omega,hi2,?_⟩
 by_cases h1:X.mo=0
 rotate_left
 ·rw [av h1] at hT
  subst hT
  simp only [go_sem,aK h1]
  exact aG [] _ [(1000,dF m s F),(1001,lj)] ⟨rfl,rfl⟩
 rw [ar (fun q=>q h1)] at hT
 simp only [go_sem,ay h1]
 refine gr kh (by simp only [go_sem]) (by simp only [go_sem]) ?_
 cases h2:m0 s 2 X.me
 ·rw [av h2] at hT
  subst hT
  simp only [go_sem]
  exact aG [] _ [(1000,dF m s F),(1001,lj)] ⟨rfl,rfl⟩
 rw [ar (by rw [h2];decide)] at hT
 subst hT
 simp only [go_sem]
 refine gr kt (by simp only [go_sem]) (by simp only [go_sem]) ?_
 simp only [go_sem]
 exact aG [] _ [(1000,dF m s F),(1001,lj)] ⟨rfl,rfl⟩
theorem J7 (s:Sp) (ty:Int) {l:List (List bv)} {j:Nat} (h:j<l.length):lH s ty (l.drop j)=if (dX s (au l j) ty).2≠0 then dX s (au l j) ty else lH s ty (l.drop (j+1)):=by
 rw [fc h,lH]
theorem T5 (m:Md) (s:Sp) (F:Fa) (i:Nat) (hi:i<m.els.length) (hb:m.els.length≤1000000) (ho:(au m.els i).o.length≤1000000) (hit:(au m.els i).it.length≤1000000∧∀l∈(au m.els i).it,l.length≤1000000):Wq UE [.int .i64 i] m s F (.tup [.int .i64 (ph s (au m.els i)).1,.int .i64 (ph s (au m.els i)).2]):=by
 refine aB (ic:=Si.body) ap adq rfl rfl ?_
 obtain ⟨hit1,hit2⟩:=hit
 generalize hX:au m.els i=X at *
 have kt:=nD m s F X.o 1 ho
 have cv:=kX s X.tb
 have hi2:(i:Int)<(m.els.length:Int):=by omega
 simp only [aU,aA,bO] at cv
 obtain ⟨T,hT⟩:∃T,ph s X=T:=⟨_,rfl⟩
 rw [hT]
 unfold ph at hT
 simp only [go_sem,Si,cZ,hX]
 refine ⟨by omega,hi2,?_⟩
 by_cases h1:X.mo=0
 rotate_left
 ·rw [ar h1] at hT
  simp only [go_sem,ab h1]
  refine aJ (fun q:Nat=>⟨[(59,.int .i64 q),(58,.int .i64 X.it.length),(57,.sl 1 (X.it.map tS)),(6,.mp 6 5 0 0),(0,.mp 1000 17 0 0)],[(1000,dF m s F),(6,⟨86,5,[wU X],true⟩)]⟩)
   (fun q=>q≤X.it.length∧lH s X.ty (X.it.drop q)=T) (fun q=>X.it.length - q) 0 ⟨ef _,hT⟩ (Wk.of ?_ ?_) ?_
  ·simp only [go_sem];try simp
  ·simp only [go_sem];try rfl
  intro j hh
  obtain ⟨hj,hx⟩:j≤X.it.length∧lH s X.ty (X.it.drop j)=T:=hh
  by_cases h2:(j:Int)<(X.it.length:Int)
  rotate_left
  ·rw [bY (by omega)] at hx
   simp only [lH] at hx
   subst hx
   simp only [go_sem,bF h2]
   exact aG [] _ [(1000,dF m s F)] ⟨rfl,rfl⟩
  have hj':j<X.it.length:=by omega
  have e8:=ep hj' (by omega)
  have hYl:=hit2 (au X.it j) (by rw [aX hj'];exact List.getElem_mem _)
  rw [J7 s X.ty hj'] at hx
  generalize hY:au X.it j=Y at hx hYl
  have ky:=nD m s F Y X.ty hYl
  generalize dX s Y X.ty=R2 at ky hx
  simp only [go_sem,bH h2,hY]
  refine ⟨by omega,h2,?_⟩
  refine gr ky (by simp only [go_sem]) (by simp only [go_sem]) ?_
  by_cases h3:R2.2=0
  rotate_left
  ·rw [av h3] at hx
   subst hx
   simp only [go_sem,aK h3]
   exact aG [] _ [(1000,dF m s F)] ⟨rfl,rfl⟩
  rw [ar (fun q=>q h3)] at hx
  simp only [go_sem,ay h3]
  refine bA (j+1) ⟨show j+1≤X.it.length by omega,hx⟩ (show X.it.length - (j+1)<X.it.length - j by omega) (Wk.of ?_ ?_)
  ·simp only [go_sem,e8];try simp
  ·simp only [go_sem];try rfl
 rw [av h1] at hT
 simp only [go_sem,aF h1]
 refine bP cv (by simp [go_sem]) rfl ?_
 generalize cO s.tb X.tb=q at hT
 cases q with
 | none =>
  dsimp only at hT
  subst hT
  simp only [go_sem,Option.isSome_none]
  exact aG [] _ [(1000,dF m s F)] ⟨rfl,rfl⟩
 | some t =>
  dsimp only at hT
  by_cases h4:t.e=X.ty
  rotate_left
  ·rw [av h4] at hT
   subst hT
   simp only [go_sem,Option.isSome_some,Option.getD_some,aK h4]
   exact aG [] _ [(1000,dF m s F)] ⟨rfl,rfl⟩
  rw [ar (fun q=>q h4)] at hT
  generalize dX s X.o 1=R at kt hT
  simp only [go_sem,Option.isSome_some,Option.getD_some,ay h4]
  refine gr kt (by simp only [go_sem]) (by simp only [go_sem]) ?_
  by_cases h5:R.2=0
  rotate_left
  ·rw [av h5] at hT
   subst hT
   simp only [go_sem,aK h5]
   exact aG [] _ [(1000,dF m s F)] ⟨rfl,rfl⟩
  rw [ar (fun q=>q h5)] at hT
  simp only [go_sem,ay h5]
  refine aJ (fun q:Nat=>⟨[(59,.int .i64 q),(58,.int .i64 X.it.length),(57,.sl 1 (X.it.map tS)),(6,.mp 6 5 0 0),(0,.mp 1000 17 0 0)],[(1000,dF m s F),(6,⟨86,5,[wU X],true⟩)]⟩)
   (fun q=>q≤X.it.length∧lH s X.ty (X.it.drop q)=T) (fun q=>X.it.length - q) 0 ⟨ef _,hT⟩ (Wk.of ?_ ?_) ?_
  ·simp only [go_sem];try simp
  ·simp only [go_sem];try rfl
  intro j hh
  obtain ⟨hj,hx⟩:j≤X.it.length∧lH s X.ty (X.it.drop j)=T:=hh
  by_cases h2:(j:Int)<(X.it.length:Int)
  rotate_left
  ·rw [bY (by omega)] at hx
   simp only [lH] at hx
   subst hx
   simp only [go_sem,bF h2]
   exact aG [] _ [(1000,dF m s F)] ⟨rfl,rfl⟩
  have hj':j<X.it.length:=by omega
  have e8:=ep hj' (by omega)
  have hYl:=hit2 (au X.it j) (by rw [aX hj'];exact List.getElem_mem _)
  rw [J7 s X.ty hj'] at hx
  generalize hY:au X.it j=Y at hx hYl
  have ky:=nD m s F Y X.ty hYl
  generalize dX s Y X.ty=R2 at ky hx
  simp only [go_sem,bH h2,hY]
  refine ⟨by omega,h2,?_⟩
  refine gr ky (by simp only [go_sem]) (by simp only [go_sem]) ?_
  by_cases h3:R2.2=0
  rotate_left
  ·rw [av h3] at hx
   subst hx
   simp only [go_sem,aK h3]
   exact aG [] _ [(1000,dF m s F)] ⟨rfl,rfl⟩
  rw [ar (fun q=>q h3)] at hx
  simp only [go_sem,ay h3]
  refine bA (j+1) ⟨show j+1≤X.it.length by omega,hx⟩ (show X.it.length - (j+1)<X.it.length - j by omega) (Wk.of ?_ ?_)
  ·simp only [go_sem,e8];try simp
  ·simp only [go_sem];try rfl
def bme (i:Nat):List AV:=[.mp 1000 17 0 0,.int .i64 i]
def eN (i:Nat):List (Nat×ah):=[]
theorem Yv:Wl eN:=⟨(fun i p hp=>by cases hp),(fun i p hp=>by cases hp),(fun i j p hp=>by cases hp)⟩
theorem Tp (m:Md) (s:Sp) (hb:m.els.length≤1000000) (h:∀e∈m.els,e.o.length≤1000000∧e.it.length≤1000000∧∀l∈e.it,l.length≤1000000):sS UE bme m s eN (m.els.map (ph s)):=by
 intro i hi _ F hF
 rw [bT] at hi
 rw [jz _ hi]
 have hm:=h (au m.els i) (by rw [aX hi];exact List.getElem_mem _)
 exact T5 m s F i hi hb hm.1 hm.2
def Uz (m:Md):ah:=⟨33,12,[qF m],true⟩
theorem Du (m:Md):Uz m =⟨33,12,[qF m],true⟩:=rfl
def eM (m:Md) (i:Nat):List (Nat×ah):=[(1001,Uz m),(1002,lj)]
def clm (i:Nat):List AV:=[.int .i64 i,.mp 1001 12 0 0,.mp 1002 1 0 0]
theorem Yu (m:Md):Wl (eM m):=⟨(fun i p hp=>by simp only [eM,bc,List.not_mem_nil,or_false] at hp;rcases hp with rfl | rfl<;>rfl),(fun i p hp=>by
 simp only [eM,bc,List.not_mem_nil,or_false] at hp
 rcases hp with rfl | rfl
 ·exact ⟨show (1001:Nat)≠1000 by decide,.inl ⟨show 1000≤1001 by decide,show 1001<2000 by decide⟩⟩
 ·exact ⟨show (1002:Nat)≠1000 by decide,.inl ⟨show 1000≤1002 by decide,show 1002<2000 by decide⟩⟩),(fun i j p hp=>by simp only [eM,bc,List.not_mem_nil,or_false] at hp;rcases hp with rfl | rfl<;>rfl)⟩
theorem To (hLeft:dd) (m:Md) (s:Sp) (hs:lG s) (hb:m.fs.length≤1000000) (hf:∀f∈m.fs,WS f):sS KW clm m s (eM m) (m.fs.map (gD m s)):=by
 intro i hi _ F hF
 rw [bT] at hi
 rw [jz _ hi]
 refine aB (ic:=Gt.body) ap WZ rfl rfl ?_
 have kb:=L7 hLeft m s i hs hi (by omega) (hf (au m.fs i) (by rw [aX hi];exact List.getElem_mem _))
 generalize gD m s (au m.fs i)=R at kb ⊢
 simp only [KU,bM,aU,aA] at kb
 simp only [go_sem,Gt,clm,eM,Du]
 refine aa (kb) ?_
 simp only [go_sem]
 exact done [] _ [(1000,dF m s F),(1001,Uz m),(1002,lj)] (by simp only [go_sem]) (by simp only [go_sem,Du]) rfl ⟨rfl,rfl⟩
end
section
open Go Go.Mw
def oY (n:List UInt8):AV×AV:=(.str n,.bool true)
theorem tC (k:List UInt8):∀es:List (List UInt8),dZ .s (.str k) (es.map oY)=some (es.findIdx? fun p=>k==p)
 | []=>rfl
 | e :: r=>by
  simp only [cF,dZ,oY,uJ,List.findIdx?_cons]
  cases h:(k==e)
  ·simp only [tC k r]
   cases r.findIdx? (fun p=>k==p)<;>rfl
  ·rfl
theorem BP (K:AV→aT→Prop) (k:List UInt8) (es:List (List UInt8)):Ky K false (.bool false) (es.map oY) (dZ .s (.str k) (es.map oY))=K (.bool (decide (k∈es))) .no:=by
 rw [tC]
 cases h:es.findIdx? (fun p=>k==p) with
 | none =>
  have hn:k∉es:=fun hk=>by
   have:=List.findIdx?_eq_none_iff.1 h k hk
   simp at this
  simp only [Ky,iR,fA,bF hn]
 | some i =>
  obtain ⟨hi,h1,_⟩:=List.findIdx?_eq_some_iff_getElem.1 h
  have hm:k∈es:=by
   have:k=es[i]:=by simpa using h1
   rw [this];exact List.getElem_mem hi
  simp only [Ky,db,gn hi,eH,oY,iR,fA,bH hm]
theorem Vo {k:List UInt8} {es:List (List UInt8)} (h:k∉es):ur .s (.str k) (.bool true) (es.map oY)=some ((es++[k]).map oY):=by
 unfold ur
 rw [tC]
 cases hf:es.findIdx? (fun p=>k==p) with
 | none=>simp [oY]
 | some i =>
  obtain ⟨hi,h1,_⟩:=List.findIdx?_eq_some_iff_getElem.1 hf
  exact absurd (by rw [show k=es[i] from by simpa using h1];exact List.getElem_mem hi) h
theorem y6 (s:Sp):∀(l:List Ex) (seen:List (List UInt8)),(fT s seen l).length=l.length
 | [],_=>rfl
 | x :: l,seen=>by rw [fT,iw,y6 s l,iw]
def exA (s:Sp) (seen:List (List UInt8)) (x:Ex):Int×Int:=if x.n∈seen then (0,21) else if m0 s x.k x.i=false then (0,11) else (0,0)
theorem D0 (s:Sp):∀(l:List Ex) (seen:List (List UInt8)) (i:Nat),i<l.length→au (fT s seen l) i=exA s (seen++(l.take i).map (·.n)) (au l i)
 | [],_,i,h=>by simp at h
 | x :: l,seen,0,h=>by rw [fT,gN,List.map_nil,jJ];rfl
 | x :: l,seen,i+1,h=>by
  have h':i<l.length:=by simpa using h
  have:=D0 s l (seen++[x.n]) i h'
  rw [fT,List.take_succ_cons,cF]
  show au (fT s (seen++[x.n]) l) i=exA s (seen++x.n :: _) (au l i)
  rw [this,oe]
  rfl
def sN (m:Md) (res:List (Int×Int)):Nat→List (List UInt8)
 | 0=>[]
 | i+1=>if (au res i).2≠0 then sN m res i else sN m res i++[(au m.exs i).n]
theorem Rm (m:Md) (res:List (Int×Int)):∀i,i≤m.exs.length→(∀j,j<i→(au res j).2=0)→sN m res i=(m.exs.take i).map (·.n)
 | 0,_,_=>rfl
 | i+1,hi,h=>by
  rw [sN,ar (fun q=>q (h i (by omega))),Rm m res i (by omega) (fun j hj=>h j (by omega)),Cl (by omega),List.map_append]
  rfl
def nmC:ah:=⟨136,1,[[.mm 2000 true]],true⟩
theorem xp:nmC =⟨136,1,[[.mm 2000 true]],true⟩:=rfl
def eX (m:Md) (s:Sp) (i:Nat):List (Nat×ah):=[(1001,lj),(1002,nmC),(2000,@ah.mk 0 0 [] false (.mp ((sN m (fT s [] m.exs) i).map oY)))]
def Yi (i:Nat):List AV:=[.int .i64 i,.mp 1001 1 0 0,.mp 1002 1 0 0]
attribute [local go_sem] bT ql bM aU aA aY bO Ad lc e_ dy dx
theorem Ts (m:Md) (s:Sp) (hb:m.exs.length≤1000000):sS UB Yi m s (eX m s) (fT s [] m.exs):=by
 intro i hi hok F hF
 rw [y6] at hi
 have hN:=Rm m (fT s [] m.exs) i (by omega) hok
 have hr:=D0 s m.exs [] i hi
 rw [e_,← hN] at hr
 have hS:sN m (fT s [] m.exs) (i+1)=if (au (fT s [] m.exs) i).2≠0 then sN m (fT s [] m.exs) i else sN m (fT s [] m.exs) i++[(au m.exs i).n]:=rfl
 unfold eX
 rw [hS,hr]
 generalize sN m (fT s [] m.exs) i=N
 refine aB (ic:=GA.body) ap acq rfl rfl ?_
 generalize hX:au m.exs i=X
 have kh:=Dk m s F X.k X.i
 have hi2:(i:Int)<(m.exs.length:Int):=by omega
 unfold exA
 by_cases h1:X.n∈N
 ·rw [av h1]
  simp only [go_sem,GA,Yi,cZ,hX,xp,BP,bH h1]
  refine ⟨by omega,hi2,?_⟩
  exact done [] _ [(1000,dF m s F),(1001,lj),(1002,nmC),(2000,@ah.mk 0 0 [] false (.mp (N.map oY)))] (by simp only [go_sem]) (by simp only [go_sem,xp]) rfl ⟨rfl,rfl⟩
 rw [ar h1]
 cases h2:m0 s X.k X.i
 ·rw [h2] at kh
  rw [av rfl]
  simp only [go_sem,GA,Yi,cZ,hX,xp,BP,bF h1]
  refine ⟨by omega,hi2,?_⟩
  refine gr kh (by simp only [go_sem]) (by simp only [go_sem]) ?_
  simp only [go_sem]
  exact done [] _ [(1000,dF m s F),(1001,lj),(1002,nmC),(2000,@ah.mk 0 0 [] false (.mp (N.map oY)))] (by simp only [go_sem]) (by simp only [go_sem,xp]) rfl ⟨rfl,rfl⟩
 ·rw [h2] at kh
  rw [ar (show ¬(true=false) by decide)]
  have hp:=Vo h1
  simp only [go_sem,GA,Yi,cZ,hX,xp,BP,bF h1]
  refine ⟨by omega,hi2,?_⟩
  refine gr kh (by simp only [go_sem]) (by simp only [go_sem]) ?_
  simp only [go_sem]
  refine ⟨rfl,rfl,_,hp,?_⟩
  exact done [] _ [(1000,dF m s F),(1001,lj),(1002,nmC),(2000,@ah.mk 0 0 [] false (.mp ((N++[X.n]).map oY)))] (by simp only [go_sem]) (by simp only [go_sem,xp]) rfl ⟨rfl,rfl⟩
theorem Mb (l:List Int) (v:Int) (hl:l.length≤1000000):∃r:Int,aj Tryz.prog aeF [.sl 1 (l.map ri),.int .i64 v] (.int .i64 r)∧(r≥0↔v∈l):=by
 refine ⟨match l.findIdx? (fun x=>v==x) with | some i=>(i:Int) | none=>-1,?_,?_⟩
 ·obtain ⟨T,hT⟩:∃T,(match l.findIdx? (fun x=>v==x) with | some i=>(i:Int) | none=>-1)=T:=⟨_,rfl⟩
  rw [hT]
  refine ac (ic:=RQ.body) ap acA rfl rfl ?_
  simp only [go_sem,RQ]
  refine aJ (fun q:Nat=>⟨[(8,.int .i64 q),(7,.int .i64 l.length),(1,.int .i64 v),(0,.sl 1 (l.map ri))],[]⟩)
   (fun q=>q≤l.length∧∀j,j<q→¬v=au l j) (fun q=>l.length - q) 0 ⟨ef _,fun j hj=>absurd hj (Nat.not_lt_zero j)⟩ (Wk.of ?_ ?_) ?_
  ·simp only [go_sem];try simp
  ·simp only [go_sem];try rfl
  intro i hh
  obtain ⟨hi,hx⟩:i≤l.length∧∀j,j<i→¬v=au l j:=hh
  by_cases h1:(i:Int)<(l.length:Int)
  ·have hi':i<l.length:=by omega
   have e8:=ep hi' (by omega)
   by_cases h2:v=au l i
   ·have hf:l.findIdx? (fun x=>v==x)=some i:=by
     rw [List.findIdx?_eq_some_iff_getElem]
     refine ⟨hi',by rw [← aX hi'];exact beq_iff_eq.2 h2,fun j hj=>?_⟩
     have:=hx j hj
     rw [aX (by omega)] at this
     simpa using this
    rw [hf] at hT
    subst hT
    simp only [go_sem,bH h1,aF h2]
    refine ⟨by omega,h1,?_⟩
    exact an
   ·simp only [go_sem,bH h1,ab h2]
    refine ⟨by omega,h1,?_⟩
    refine bA (i+1) ⟨show i+1≤l.length by omega,fun j hj=>?_⟩ (show l.length - (i+1)<l.length - i by omega) (Wk.of ?_ ?_)
    ·by_cases hji:j=i
     ·rw [hji];exact h2
     ·exact hx j (by have hj:j<i+1:=hj;omega)
    ·simp only [go_sem,e8];try simp
    ·simp only [go_sem];try rfl
  have hie:i=l.length:=by omega
  have hf:l.findIdx? (fun x=>v==x)=none:=by
   rw [List.findIdx?_eq_none_iff]
   intro x hxm
   obtain ⟨j,hj,rfl⟩:=List.mem_iff_getElem.1 hxm
   have:=hx j (by omega)
   rw [aX hj] at this
   simpa using this
  rw [hf] at hT
  subst hT
  simp only [go_sem,bF h1]
  exact an
 ·cases hf:l.findIdx? (fun x=>v==x) with
  | none =>
   have hn:v∉l:=fun hk=>by
    have:=List.findIdx?_eq_none_iff.1 hf v hk
    simp at this
   exact ⟨fun q=>absurd q (by decide),fun q=>absurd q hn⟩
  | some i =>
   obtain ⟨hi,h1,_⟩:=List.findIdx?_eq_some_iff_getElem.1 hf
   exact ⟨fun _=>by rw [show v=l[i] from by simpa using h1];exact List.getElem_mem hi,fun _=>by show (i:Int)≥0;omega⟩
theorem Qa (l:List Int) (v:Int) (hl:l.length≤1000000):aj Tryz.prog nX5 [.sl 1 (l.map ri),.int .i64 v] (.bool (decide (v∈l))):=by
 obtain ⟨r,hr,hm⟩:=Mb l v hl
 refine ac (ic:=FX5.body) ap cX5 rfl rfl ?_
 rw [show decide (v∈l)=decide (r≥0) from by simp only [hm]]
 simp only [go_sem,FX5]
 refine aa (hr) ?_
 simp only [go_sem]
 exact ak
theorem yZ (p:List Int):∀(l:List Cu) (last:Int),(ey p last l).length=l.length
 | [],_=>rfl
 | x :: l,last=>by rw [ey,iw,yZ p l,iw]
def Ym (p:List Int) (last:Int) (x:Cu):Int×Int:=if x.af<last∨(x.af≠0∧x.af∉p) then (0,7) else (0,0)
def Q3 (last:Int) (l:List Cu) (i:Nat):Int:=if i=0 then last else (au l (i - 1)).af
theorem DY (p:List Int):∀(l:List Cu) (last:Int) (i:Nat),i<l.length→au (ey p last l) i=Ym p (Q3 last l i) (au l i)
 | [],_,i,h=>by simp at h
 | x :: l,last,0,h=>rfl
 | x :: l,last,i+1,h=>by
  have h':i<l.length:=by simpa using h
  have:=DY p l x.af i h'
  rw [ey]
  show au (ey p x.af l) i=_
  rw [this]
  cases i with
  | zero=>rfl
  | succ i=>rfl
def sL (m:Md) (res:List (Int×Int)):Nat→Int
 | 0=>0
 | i+1=>if (au res i).2≠0 then sL m res i else (au m.cs i).af
theorem abc (m:Md) (res:List (Int×Int)):∀i,(∀j,j<i→(au res j).2=0)→sL m res i=Q3 0 m.cs i
 | 0,_=>rfl
 | i+1,h=>by
  rw [sL,ar (fun q=>q (h i (by omega)))]
  rfl
def Pg (v:Int):ah:=⟨3,1,[[.int .i64 v]],true⟩
theorem nF (v:Int):Pg v =⟨3,1,[[.int .i64 v]],true⟩:=rfl
def yF (p:List Int):ah:=⟨64,1,[[.sl 1 (p.map ri)]],true⟩
theorem nR (p:List Int):yF p =⟨64,1,[[.sl 1 (p.map ri)]],true⟩:=rfl
def eU (m:Md) (p:List Int) (i:Nat):List (Nat×ah):=[(1001,lj),(1002,Pg (sL m (ey p 0 m.cs) i)),(1003,yF p)]
def Wc (i:Nat):List AV:=[.int .i64 i,.mp 1001 1 0 0,.mp 1002 1 0 0,.mp 1003 1 0 0]
theorem Tv (m:Md) (s:Sp) (p:List Int) (hp:p.length≤1000000) (hb:m.cs.length≤1000000):sS nX7 Wc m s (eU m p) (ey p 0 m.cs):=by
 intro i hi hok F hF
 rw [yZ] at hi
 have hN:=abc m (ey p 0 m.cs) i hok
 have hr:=DY p m.cs 0 i hi
 rw [← hN] at hr
 have hS:sL m (ey p 0 m.cs) (i+1)=if (au (ey p 0 m.cs) i).2≠0 then sL m (ey p 0 m.cs) i else (au m.cs i).af:=rfl
 unfold eU
 rw [hS,hr]
 generalize sL m (ey p 0 m.cs) i=N
 refine aB (ic:=V7.body) ap cX7 rfl rfl ?_
 generalize hX:au m.cs i=X
 have kc:=Qa p X.af hp
 have hi2:(i:Int)<(m.cs.length:Int):=by omega
 unfold Ym
 by_cases h1:X.af<N
 ·rw [av (.inl h1)]
  simp only [go_sem,V7,Wc,cZ,hX,nF,nR,bH h1]
  refine ⟨by omega,hi2,?_⟩
  exact done [] _ [(1000,dF m s F),(1001,lj),(1002,Pg N),(1003,yF p)] (by simp only [go_sem]) (by simp only [go_sem,nF,nR]) rfl ⟨rfl,rfl⟩
 by_cases h2:X.af=0
 ·rw [ar (by rintro (q | q);exact h1 q;exact q.1 h2)]
  simp only [go_sem,V7,Wc,cZ,hX,nF,nR,bF h1,ay h2]
  refine ⟨by omega,hi2,?_⟩
  exact done [] _ [(1000,dF m s F),(1001,lj),(1002,Pg X.af),(1003,yF p)] (by simp only [go_sem]) (by simp only [go_sem,nF,nR]) rfl ⟨rfl,rfl⟩
 by_cases h3:X.af∈p
 ·rw [ar (by rintro (q | q);exact h1 q;exact q.2 h3)]
  rw [bH h3] at kc
  simp only [go_sem,V7,Wc,cZ,hX,nF,nR,bF h1,aK h2]
  refine ⟨by omega,hi2,?_⟩
  refine aa (kc) ?_
  simp only [go_sem]
  exact done [] _ [(1000,dF m s F),(1001,lj),(1002,Pg X.af),(1003,yF p)] (by simp only [go_sem]) (by simp only [go_sem,nF,nR]) rfl ⟨rfl,rfl⟩
 ·rw [av (.inr ⟨h2,h3⟩)]
  rw [bF h3] at kc
  simp only [go_sem,V7,Wc,cZ,hX,nF,nR,bF h1,aK h2]
  refine ⟨by omega,hi2,?_⟩
  refine aa (kc) ?_
  simp only [go_sem]
  exact done [] _ [(1000,dF m s F),(1001,lj),(1002,Pg N),(1003,yF p)] (by simp only [go_sem]) (by simp only [go_sem,nF,nR]) rfl ⟨rfl,rfl⟩
end
section
open Go Go.Mw
theorem C3 {f:FuncId} {caps:List AV} (h4:f<4000000) (hB:bU Tryz.prog f=true) (i:Nat) (d:Option Nat) (w:St) (K:St→Prop) (h:ci Tryz.prog f (.int .i64 i :: caps) d w K):C4 Tryz.prog (.fn f caps) [.int .i64 i] d w K:=by
 rw [nt,av h4]
 exact ⟨hB,h⟩
theorem nb {f:FuncId} {m:Md} {s:Sp} {res:List (Int×Int)} {part:Int} {F:Fa} (hf:sS f Gk m s eC res) (h4:f<4000000) (hB:bU Tryz.prog f=true) (hr:res.length≤1000000) {n:Int} {d:Option Nat} {w:St} {K:St→Prop} (hn:n=(res.length:Int)) (h0:ae w.heap 1000=some (dF m s F)) (h1:ae w.heap 1=some lj)
  (hk:K ((St.mk w.env ([(1000,dF m s (eL part 0 res F)),(1,lj)]++w.heap)).put d (.tup []))):ci Tryz.prog Fu [.mp 1000 17 0 0,.int .i64 part,.int .i64 n,.fn f [.mp 1 1 0 0]] d w K:=by
 subst hn
 have h:=tX (caps:=[.mp 1001 1 0 0]) (f:=f) hf Yt (C3 h4 hB) (fun i F=>rfl) rfl hr part F
 refine eR (σ2:=[(1000,dF m s F),(1,lj)]) (σ3:=[(1000,dF m s (eL part 0 res F)),(1,lj)]) (r3:=.tup []) h [(1001,1)] [] rfl rfl rfl rfl (fun p hp=>?_) (fun p hp=>?_) (fun p hp=>?_) hk
 ·simp only [bc,List.not_mem_nil,or_false] at hp
  rcases hp with rfl | rfl
  ·exact h0
  ·exact h1
 ·simp only [bc,List.not_mem_nil,or_false] at hp
  rcases hp with rfl | rfl
  ·exact .inl ⟨⟨show 1000≤1000 by decide,show 1000<2000 by decide⟩,rfl⟩
  ·exact .inl ⟨⟨show 1000≤1001 by decide,show 1001<2000 by decide⟩,rfl⟩
 ·simp only [bc,List.not_mem_nil,or_false] at hp
  rcases hp with rfl | rfl<;>rfl
def LkT (f:FuncId) (m:Md) (s:Sp) (F F':Fa):Prop:=bu Tryz.prog f [.mp 1000 17 0 0] [(1000,dF m s F)] DM (fun r' σ'=>r' = .tup []∧σ'=[(1000,dF m s F')])
attribute [local go_sem] bT ql bM aU aA aY bO Ad lc e_
theorem O9 (m:Md) (s:Sp) (F:Fa) (h:uS s) (h1:m.ims.length≤1000000) (h2:m.fs.length≤1000000):LkT afa m s F (eL 3 0 (m.fs.map fun f=>qT s f.t) (eL 2 0 (m.ims.map (AZ s)) F)):=by
 refine aB (ic:=Sc.body) ap adf rfl rfl ?_
 simp only [go_sem,Sc]
 refine nb (F:=F) (IP m s h h1) (by decide) (by kernel_rfl) (by rw [bT];exact h1) (by rw [bT]) (by simp only [go_sem]) (by simp only [go_sem]) ?_
 simp only [go_sem]
 refine nb (F:=eL 2 0 (m.ims.map (AZ s)) F) (IQ m s h h2) (by decide) (by kernel_rfl) (by rw [bT];exact h2) (by rw [bT]) (by simp only [go_sem]) (by simp only [go_sem]) ?_
 simp only [go_sem]
 exact nn [] _ [(1000,dF m s (eL 3 0 (m.fs.map fun f=>qT s f.t) (eL 2 0 (m.ims.map (AZ s)) F)))] ⟨rfl,rfl⟩
theorem NX {m:Md} {s:Sp} {F:Fa} (hb:m.exs.length≤1000000) {n:Int} {d:Option Nat} {w:St} {K:St→Prop} (hn:n=(m.exs.length:Int)) (h0:ae w.heap 1000=some (dF m s F)) (h1:ae w.heap 1=some lj) (h2:ae w.heap 2=some ⟨136,1,[[.mm 12 true]],true⟩) (h3:ae w.heap 12=some (@ah.mk 0 0 [] false (.mp [])))
  (hk:∀X,K ((St.mk (fP [2000,12] w.env) ([(1000,dF m s (eL 7 0 (fT s [] m.exs) F)),(1,lj)]++X)).put d (.tup []))):ci Tryz.prog Fu [.mp 1000 17 0 0,.int .i64 7,.int .i64 n,.fn UB [.mp 1 1 0 0,.mp 2 1 0 0]] d w K:=by
 subst hn
 have hl:(fT s [] m.exs).length=m.exs.length:=y6 s m.exs []
 have hok:Wl (eX m s):=⟨(fun i p hp=>by simp only [eX,bc,List.not_mem_nil,or_false] at hp;rcases hp with rfl | rfl | rfl<;>rfl),(fun i p hp=>by
  simp only [eX,bc,List.not_mem_nil,or_false] at hp
  rcases hp with rfl | rfl | rfl
  ·exact ⟨show (1001:Nat)≠1000 by decide,.inl ⟨show 1000≤1001 by decide,show 1001<2000 by decide⟩⟩
  ·exact ⟨show (1002:Nat)≠1000 by decide,.inl ⟨show 1000≤1002 by decide,show 1002<2000 by decide⟩⟩
  ·exact ⟨show (2000:Nat)≠1000 by decide,.inr rfl⟩),(fun i j p hp=>by simp only [eX,bc,List.not_mem_nil,or_false] at hp;rcases hp with rfl | rfl | rfl<;>rfl)⟩
 have h:=tX (caps:=[.mp 1001 1 0 0,.mp 1002 1 0 0]) (f:=UB) (ag:=Yi) (Ts m s hb) hok (C3 (by decide) (by kernel_rfl)) (fun i F=>rfl) rfl (by rw [hl];exact hb) 7 F
 rw [hl] at h
 generalize (if F.c≠0 then 0 else we (fT s [] m.exs))=J at h
 refine eR (σ2:=[(1000,dF m s F),(1,lj),(2,⟨136,1,[[.mm 12 true]],true⟩),(12,@ah.mk 0 0 [] false (.mp []))]) (σ3:=[(1000,dF m s (eL 7 0 (fT s [] m.exs) F)),(1,lj),(2,⟨136,1,[[.mm 12 true]],true⟩),(12,@ah.mk 0 0 [] false (.mp ((sN m (fT s [] m.exs) J).map oY)))]) (r3:=.tup []) h [(1001,1),(1002,2),(2000,12)] [2000,12] rfl rfl rfl rfl (fun p hp=>?_) (fun p hp=>?_) (fun p hp=>?_) (hk _)
 ·simp only [bc,List.not_mem_nil,or_false] at hp
  rcases hp with rfl | rfl | rfl | rfl
  ·exact h0
  ·exact h1
  ·exact h2
  ·exact h3
 ·simp only [bc,List.not_mem_nil,or_false] at hp
  rcases hp with rfl | rfl | rfl | rfl
  ·exact .inl ⟨⟨show 1000≤1000 by decide,show 1000<2000 by decide⟩,rfl⟩
  ·exact .inl ⟨⟨show 1000≤1001 by decide,show 1001<2000 by decide⟩,rfl⟩
  ·exact .inl ⟨⟨show 1000≤1002 by decide,show 1002<2000 by decide⟩,rfl⟩
  ·exact .inr ⟨by simp,.inl (show 12<1000 by decide),.inl rfl⟩
 ·simp only [bc,List.not_mem_nil,or_false] at hp
  rcases hp with rfl | rfl | rfl | rfl<;>rfl
theorem Fi (m:Md) (s:Sp) (F:Fa) (h:lG s) (h1:m.gs.length≤1000000) (h1b:∀g∈m.gs,g.i.length≤1000000) (h2:m.exs.length≤1000000):LkT aeI m s F (if m.hs=true then eL 8 0 [wh s m.st] (eL 7 0 (fT s [] m.exs) (eL 6 0 (m.gs.map fun g=>dX s g.i g.g.v) F)) else eL 7 0 (fT s [] m.exs) (eL 6 0 (m.gs.map fun g=>dX s g.i g.g.v) F)):=by
 refine aB (ic:=RT.body) ap acE rfl rfl ?_
 obtain ⟨F1,hF1⟩:∃G,eL 6 0 (m.gs.map fun g=>dX s g.i g.g.v) F=G:=⟨_,rfl⟩
 obtain ⟨F2,hF2⟩:∃G,eL 7 0 (fT s [] m.exs) F1=G:=⟨_,rfl⟩
 rw [hF1,hF2]
 simp only [go_sem,RT]
 refine nb (F:=F) (Tq m s h1 h1b) (by decide) (by kernel_rfl) (by rw [bT];exact h1) (by rw [bT]) (by simp only [go_sem]) (by simp only [go_sem]) ?_
 rw [hF1]
 simp only [go_sem]
 refine NX (s:=s) (F:=F1) h2 rfl (by simp only [go_sem]) (by simp only [go_sem]) (by simp only [go_sem]) (by simp only [go_sem]) (fun X=>?_)
 rw [hF2]
 cases hh:m.hs
 ·simp only [go_sem,hh]
  exact done [] _ [(1000,dF m s F2)] (by simp only [go_sem]) (by simp only [go_sem,hh]) rfl ⟨rfl,by simp only [go_sem,hh]⟩
 ·simp only [go_sem,hh]
  refine nb (F:=F2) (Tt m s h) (by decide) (by kernel_rfl) (by simp) rfl (by simp only [go_sem,hh]) (by simp only [go_sem]) ?_
  simp only [go_sem,hh]
  exact gc [] _ [(1000,dF m s (eL 8 0 [wh s m.st] F2))] (by simp only [go_sem]) (by simp only [go_sem,hh]) rfl ⟨rfl,by simp only [go_sem,hh]⟩
theorem O4 {m:Md} {s:Sp} {F:Fa} (h1:m.els.length≤1000000) (h:∀e∈m.els,e.o.length≤1000000∧e.it.length≤1000000∧∀l∈e.it,l.length≤1000000) {n:Int} {d:Option Nat} {w:St} {K:St→Prop} (hn:n=(m.els.length:Int)) (h0:ae w.heap 1000=some (dF m s F))
  (hk:K ((St.mk w.env ([(1000,dF m s (eL 9 0 (m.els.map (ph s)) F))]++w.heap)).put d (.tup []))):ci Tryz.prog Fu [.mp 1000 17 0 0,.int .i64 9,.int .i64 n,.fn 4000078 [.mp 1000 17 0 0]] d w K:=by
 subst hn
 have h:=tX (caps:=[.mp 1000 17 0 0]) (f:=4000078) (g:=UE) (ag:=bme) (Tp m s h1 h) Yv (fun i d w K hh=>by
  rw [nt,ar (by decide)]
  exact ⟨by kernel_rfl,hh⟩) (fun i F=>rfl) rfl (by rw [bT];exact h1) 9 F
 rw [bT] at h
 refine fD h [] (fun p hp=>?_) (fun p hp=>?_) (fun p hp=>?_) hk
 ·rw [du.1 hp];exact h0
 ·rw [du.1 hp];exact .inl ⟨⟨show 1000≤1000 by decide,show 1000<2000 by decide⟩,rfl⟩
 ·rw [du.1 hp];rfl
end
section
open Go Go.Mw
def nQ (c:Prop) [Decidable c] (p:Int):List Int:=if c then [p] else []
theorem Lz (m:Md):mS m=nQ (m.ts.length>0) 1++nQ (m.ims.length>0) 2++nQ (m.fs.length>0) 3++nQ (m.tbs.length>0) 4++nQ (m.ms.length>0) 5++nQ (m.gs.length>0) 6++nQ (m.exs.length>0) 7++nQ (m.hs=true) 8++nQ (m.els.length>0) 9++nQ (m.ds.length>0) 10++nQ (m.fs.length>0) 11++nQ (m.ds.length>0) 12:=rfl
def bx (q:Nat) (l:List Int):ah:=⟨64,1,[[.ms q 1 0 l.length]],true⟩
def ia (l:List Int):ah:=⟨3,1,l.map ri,false⟩
def oB (b:Bool) (p:Int):List Int:=if b=true then [p] else []
attribute [local go_sem] bT ez cD bx ia
theorem Y_ (p:Int) (b:Bool) (l:List Int) (hl:l.length≤1000):bu Tryz.prog aaA [.int .i64 p,.bool b,.mp 1000 1 0 0] [(1000,bx 2000 l),(2000,ia l)] DM (fun r' σ'=>r' = .tup []∧σ'=[(1000,bx 2000 (l++oB b p)),(2000,ia (l++oB b p))]):=by
 refine aB (ic:=M5.body) ap adg rfl rfl ?_
 cases b
 ·rw [show l++oB false p=l from jJ l]
  simp only [go_sem,M5]
  exact nn [] _ [(1000,bx 2000 l),(2000,ia l)] ⟨rfl,rfl⟩
 ·have hap:s8 2000 3 1 0 l.length [[.int .i64 p]] (some ⟨3,1,l.map ri,false⟩)=some (.ms 2000 1 0 (l++oB true p).length,.reb 2000 ⟨3,1,(l++oB true p).map ri,false⟩):=by
   rw [eQ 2000 3 1 _ ri _ _ rfl,av ⟨by simp,by omega,.inr (by decide)⟩]
   simp [oB,ri]
  simp only [go_sem,M5,hap]
  exact nn [] _ [(1000,bx 2000 (l++oB true p)),(2000,ia (l++oB true p))] ⟨rfl,rfl⟩
theorem dI {p:Int} {b:Bool} {l:List Int} {d:Option Nat} {s:St} {K:St→Prop} (hl:l.length≤1000) (h1:ae s.heap 3=some (bx 900 l)) (h2:ae s.heap 900=some (ia l))
  (hK:K (((St.mk (fP [900] s.env) ([(3,bx 900 (l++oB b p)),(900,ia (l++oB b p))]++fQ [900] s.heap)).put d (.tup [])))):ci Tryz.prog aaA [.int .i64 p,.bool b,.mp 3 1 0 0] d s K:=by
 refine eR (σ2:=[(3,bx 900 l),(900,ia l)]) (r3:=.tup []) (σ3:=[(3,bx 900 (l++oB b p)),(900,ia (l++oB b p))]) (Y_ p b l hl) [(1000,3),(2000,900)] [900] rfl rfl rfl rfl ?_ ?_ ?_ hK
 ·simp [h1,h2]
 ·simp [DM,bw,ou,ae]
 ·simp [ae]
theorem iG (n:Nat) (p:Int):oB (decide ((n:Int)>0)) p=nQ (n>0) p:=by
 unfold oB nQ
 by_cases h:n>0
 ·rw [av h,bH (by omega)];rfl
 ·rw [ar h,bF (by omega)];rfl
theorem aaX (b:Bool) (p:Int):oB b p=nQ (b=true) p:=rfl
theorem cM (c:Prop) [Decidable c] (p:Int):(nQ c p).length≤1:=by unfold nQ;split<;>simp
theorem Ux (m:Md):aj Tryz.prog afm [gY m] (.sl 1 ((mS m).map ri)):=by
 refine ac (ic:=Sn.body) ap adv rfl rfl ?_
 rw [Lz]
 simp only [go_sem,Sn,gY,bM]
 refine ⟨by kernel_rfl,?_⟩
 refine bD (dC.new0 _ _ 900 1 3 (by decide) (by simp [go_sem])) ?_
 refine bD (dC.nlm _ _ 3 (t:=64) (st:=1) (r:=[.nl]) (r':=[.ms 900 1 0 0]) (by simp only [go_sem]) ⟨.inr ⟨rfl,.inr ⟨900,1,rfl⟩⟩,trivial⟩) ?_
 refine dI (l:=[]) (by simp) (by simp only [go_sem]) (by simp only [go_sem]) ?_
 simp only [go_sem,iG,e_]
 generalize h1:nQ (m.ts.length>0) 1=l1
 have g1:l1.length≤1:=by rw [← h1];exact cM _ _
 refine ⟨by kernel_rfl,?_⟩
 refine dI (l:=l1) (by omega) (by simp only [go_sem]) (by simp only [go_sem]) ?_
 simp only [go_sem,iG,e_]
 generalize h2:l1++nQ (m.ims.length>0) 2=l2
 have g2:l2.length≤2:=by rw [← h2,ee];have:=cM (m.ims.length>0) 2;omega
 refine ⟨by kernel_rfl,?_⟩
 refine dI (l:=l2) (by omega) (by simp only [go_sem]) (by simp only [go_sem]) ?_
 simp only [go_sem,iG,e_]
 generalize h3:l2++nQ (m.fs.length>0) 3=l3
 have g3:l3.length≤3:=by rw [← h3,ee];have:=cM (m.fs.length>0) 3;omega
 refine ⟨by kernel_rfl,?_⟩
 refine dI (l:=l3) (by omega) (by simp only [go_sem]) (by simp only [go_sem]) ?_
 simp only [go_sem,iG,e_]
 generalize h4:l3++nQ (m.tbs.length>0) 4=l4
 have g4:l4.length≤4:=by rw [← h4,ee];have:=cM (m.tbs.length>0) 4;omega
 refine ⟨by kernel_rfl,?_⟩
 refine dI (l:=l4) (by omega) (by simp only [go_sem]) (by simp only [go_sem]) ?_
 simp only [go_sem,iG,e_]
 generalize h5:l4++nQ (m.ms.length>0) 5=l5
 have g5:l5.length≤5:=by rw [← h5,ee];have:=cM (m.ms.length>0) 5;omega
 refine ⟨by kernel_rfl,?_⟩
 refine dI (l:=l5) (by omega) (by simp only [go_sem]) (by simp only [go_sem]) ?_
 simp only [go_sem,iG,e_]
 generalize h6:l5++nQ (m.gs.length>0) 6=l6
 have g6:l6.length≤6:=by rw [← h6,ee];have:=cM (m.gs.length>0) 6;omega
 refine ⟨by kernel_rfl,?_⟩
 refine dI (l:=l6) (by omega) (by simp only [go_sem]) (by simp only [go_sem]) ?_
 simp only [go_sem,iG,e_]
 generalize h7:l6++nQ (m.exs.length>0) 7=l7
 have g7:l7.length≤7:=by rw [← h7,ee];have:=cM (m.exs.length>0) 7;omega
 refine ⟨by kernel_rfl,?_⟩
 refine dI (l:=l7) (by omega) (by simp only [go_sem]) (by simp only [go_sem]) ?_
 simp only [go_sem,aaX,e_]
 generalize h8:l7++nQ (m.hs=true) 8=l8
 have g8:l8.length≤8:=by rw [← h8,ee];have:=cM (m.hs=true) 8;omega
 refine ⟨by kernel_rfl,?_⟩
 refine dI (l:=l8) (by omega) (by simp only [go_sem]) (by simp only [go_sem]) ?_
 simp only [go_sem,iG,e_]
 generalize h9:l8++nQ (m.els.length>0) 9=l9
 have g9:l9.length≤9:=by rw [← h9,ee];have:=cM (m.els.length>0) 9;omega
 refine ⟨by kernel_rfl,?_⟩
 refine dI (l:=l9) (by omega) (by simp only [go_sem]) (by simp only [go_sem]) ?_
 simp only [go_sem,iG,e_]
 generalize h10:l9++nQ (m.ds.length>0) 10=l10
 have g10:l10.length≤10:=by rw [← h10,ee];have:=cM (m.ds.length>0) 10;omega
 refine ⟨by kernel_rfl,?_⟩
 refine dI (l:=l10) (by omega) (by simp only [go_sem]) (by simp only [go_sem]) ?_
 simp only [go_sem,iG,e_]
 generalize h11:l10++nQ (m.fs.length>0) 11=l11
 have g11:l11.length≤11:=by rw [← h11,ee];have:=cM (m.fs.length>0) 11;omega
 refine ⟨by kernel_rfl,?_⟩
 refine dI (l:=l11) (by omega) (by simp only [go_sem]) (by simp only [go_sem]) ?_
 simp only [go_sem,iG,e_]
 generalize h12:l11++nQ (m.ds.length>0) 12=l12
 have g12:l12.length≤12:=by rw [← h12,ee];have:=cM (m.ds.length>0) 12;omega
 exact aN [900] (by simp only [go_sem,aO];rw [iq (by simp)]) rfl
end
section
open Go Go.Mw
theorem NW {m:Md} {s:Sp} {F:Fa} {p:List Int} (hp:p.length≤1000000) (hb:m.cs.length≤1000000) {n:Int} {d:Option Nat} {w:St} {K:St→Prop} (hn:n=(m.cs.length:Int)) (h0:ae w.heap 1000=some (dF m s F)) (h1:ae w.heap 1=some lj) (h2:ae w.heap 2=some (yF p)) (h3:ae w.heap 3=some (Pg 0))
  (hk:∀X,K ((St.mk w.env ([(1000,dF m s (eL 11 0 (ey p 0 m.cs) F))]++X)).put d (.tup []))):ci Tryz.prog Fu [.mp 1000 17 0 0,.int .i64 11,.int .i64 n,.fn nX7 [.mp 1 1 0 0,.mp 3 1 0 0,.mp 2 1 0 0]] d w K:=by
 subst hn
 have hl:(ey p 0 m.cs).length=m.cs.length:=yZ p m.cs 0
 have hok:Wl (eU m p):=⟨(fun i p hp=>by simp only [eU,bc,List.not_mem_nil,or_false] at hp;rcases hp with rfl | rfl | rfl<;>rfl),(fun i p hp=>by
  simp only [eU,bc,List.not_mem_nil,or_false] at hp
  rcases hp with rfl | rfl | rfl
  ·exact ⟨show (1001:Nat)≠1000 by decide,.inl ⟨show 1000≤1001 by decide,show 1001<2000 by decide⟩⟩
  ·exact ⟨show (1002:Nat)≠1000 by decide,.inl ⟨show 1000≤1002 by decide,show 1002<2000 by decide⟩⟩
  ·exact ⟨show (1003:Nat)≠1000 by decide,.inl ⟨show 1000≤1003 by decide,show 1003<2000 by decide⟩⟩),(fun i j p hp=>by simp only [eU,bc,List.not_mem_nil,or_false] at hp;rcases hp with rfl | rfl | rfl<;>rfl)⟩
 have h:=tX (caps:=[.mp 1001 1 0 0,.mp 1002 1 0 0,.mp 1003 1 0 0]) (f:=nX7) (ag:=Wc) (Tv m s p hp hb) hok (C3 (by decide) (by kernel_rfl)) (fun i F=>rfl) rfl (by rw [hl];exact hb) 11 F
 rw [hl] at h
 generalize (if F.c≠0 then 0 else we (ey p 0 m.cs))=J at h
 refine eR (σ2:=[(1000,dF m s F),(1,lj),(3,Pg 0),(2,yF p)]) (σ3:=[(1000,dF m s (eL 11 0 (ey p 0 m.cs) F)),(1,lj),(3,Pg (sL m (ey p 0 m.cs) J)),(2,yF p)]) (r3:=.tup []) h [(1001,1),(1002,3),(1003,2)] [] rfl rfl rfl rfl (fun p hp=>?_) (fun p hp=>?_) (fun p hp=>?_) (hk _)
 ·simp only [bc,List.not_mem_nil,or_false] at hp
  rcases hp with rfl | rfl | rfl | rfl
  ·exact h0
  ·exact h1
  ·exact h3
  ·exact h2
 ·simp only [bc,List.not_mem_nil,or_false] at hp
  rcases hp with rfl | rfl | rfl | rfl
  ·exact .inl ⟨⟨show 1000≤1000 by decide,show 1000<2000 by decide⟩,rfl⟩
  ·exact .inl ⟨⟨show 1000≤1001 by decide,show 1001<2000 by decide⟩,rfl⟩
  ·exact .inl ⟨⟨show 1000≤1002 by decide,show 1002<2000 by decide⟩,rfl⟩
  ·exact .inl ⟨⟨show 1000≤1003 by decide,show 1003<2000 by decide⟩,rfl⟩
 ·simp only [bc,List.not_mem_nil,or_false] at hp
  rcases hp with rfl | rfl | rfl | rfl<;>rfl
theorem PZ (m:Md):(mS m).length≤1000:=by
 rw [Lz]
 simp only [ee]
 have:=cM (m.ts.length>0) 1
 have:=cM (m.ims.length>0) 2
 have:=cM (m.fs.length>0) 3
 have:=cM (m.tbs.length>0) 4
 have:=cM (m.ms.length>0) 5
 have:=cM (m.gs.length>0) 6
 have:=cM (m.exs.length>0) 7
 have:=cM (m.hs=true) 8
 have:=cM (m.els.length>0) 9
 have:=cM (m.ds.length>0) 10
 have:=cM (m.fs.length>0) 11
 have:=cM (m.ds.length>0) 12
 omega
attribute [local go_sem] bT ql bM aU aA aY bO Ad lc e_ nF nR
theorem BN (m:Md) (s:Sp) (F:Fa) (h1:m.els.length≤1000000) (h:∀e∈m.els,e.o.length≤1000000∧e.it.length≤1000000∧∀l∈e.it,l.length≤1000000) (h2:m.ds.length≤1000000) (h2b:∀d∈m.ds,d.o.length≤1000000) (h3:m.cs.length≤1000000):LkT aeE m s F (eL 11 0 (ey (mS m) 0 m.cs) (eL 10 0 (m.ds.map (wg s)) (eL 9 0 (m.els.map (ph s)) F))):=by
 refine aB (ic:=RP.body) ap acv rfl rfl ?_
 have cs:=Ux m
 simp only [gY,bM] at cs
 have hpl:=PZ m
 obtain ⟨F1,hF1⟩:∃G,eL 9 0 (m.els.map (ph s)) F=G:=⟨_,rfl⟩
 obtain ⟨F2,hF2⟩:∃G,eL 10 0 (m.ds.map (wg s)) F1=G:=⟨_,rfl⟩
 rw [hF1,hF2]
 simp only [go_sem,RP]
 refine O4 (s:=s) (F:=F) h1 h rfl (by simp only [go_sem]) ?_
 rw [hF1]
 simp only [go_sem]
 refine nb (F:=F1) (Tu m s h2 h2b) (by decide) (by kernel_rfl) (by rw [bT];exact h2) (by rw [bT]) (by simp only [go_sem]) (by simp only [go_sem]) ?_
 rw [hF2]
 simp only [go_sem]
 refine aa (cs) ?_
 simp only [go_sem]
 refine NW (s:=s) (F:=F2) (p:=mS m) (by omega) h3 rfl (by simp only [go_sem]) (by simp only [go_sem]) (by simp only [go_sem]) (by simp only [go_sem]) (fun X=>?_)
 simp only [go_sem]
 exact nn [] _ [(1000,dF m s (eL 11 0 (ey (mS m) 0 m.cs) F2))] ⟨rfl,rfl⟩
theorem Bn {f:FuncId} {m:Md} {s:Sp} {F F':Fa} (h:LkT f m s F F') {d:Option Nat} {w:St} {K:St→Prop} (h0:ae w.heap 15=some (dF m s F))
  (hk:K ((St.mk w.env ([(15,dF m s F')]++w.heap)).put d (.tup []))):ci Tryz.prog f [.mp 15 17 0 0] d w K:=by
 refine eR (σ2:=[(15,dF m s F)]) (σ3:=[(15,dF m s F')]) (r3:=.tup []) h [(1000,15)] [] rfl rfl rfl rfl (fun p hp=>?_) (fun p hp=>?_) (fun p hp=>?_) hk
 ·rw [du.1 hp];exact h0
 ·rw [du.1 hp];exact .inl ⟨⟨show 1000≤1000 by decide,show 1000<2000 by decide⟩,rfl⟩
 ·rw [du.1 hp];rfl
def Kk:ah:=⟨73,1,[[.mp 15 17 0 0]],true⟩
theorem Kl:Kk =⟨73,1,[[.mp 15 17 0 0]],true⟩:=rfl
theorem NV {m:Md} {s:Sp} {F:Fa} (hLeft:dd) (hs:lG s) (hb:m.fs.length≤1000000) (hf:∀f∈m.fs,WS f) {n:Int} {d:Option Nat} {w:St} {K:St→Prop} (hn:n=(m.fs.length:Int)) (h0:ae w.heap 15=some (dF m s F)) (h1:ae w.heap 1=some (Uz m)) (h2:ae w.heap 4=some Kk)
  (hk:K ((St.mk w.env ([(15,dF m s (eL 12 0 (m.fs.map (gD m s)) F)),(1,Uz m),(4,Kk)]++w.heap)).put d (.tup []))):ci Tryz.prog Fu [.mp 15 17 0 0,.int .i64 12,.int .i64 n,.fn KW [.mp 1 12 0 0,.mp 4 1 0 0]] d w K:=by
 subst hn
 have h:=tX (caps:=[.mp 1001 12 0 0,.mp 1002 1 0 0]) (f:=KW) (ag:=clm) (To hLeft m s hs hb hf) (Yu m) (C3 (by decide) (by kernel_rfl)) (fun i F=>rfl) rfl (by rw [bT];exact hb) 12 F
 rw [bT] at h
 refine eR (σ2:=[(15,dF m s F),(1,Uz m),(4,Kk)]) (σ3:=[(15,dF m s (eL 12 0 (m.fs.map (gD m s)) F)),(1,Uz m),(4,Kk)]) (r3:=.tup []) h [(1000,15),(1001,1),(1002,4)] [] rfl rfl rfl rfl (fun p hp=>?_) (fun p hp=>?_) (fun p hp=>?_) hk
 ·simp only [bc,List.not_mem_nil,or_false] at hp
  rcases hp with rfl | rfl | rfl
  ·exact h0
  ·exact h1
  ·exact h2
 ·simp only [bc,List.not_mem_nil,or_false] at hp
  rcases hp with rfl | rfl | rfl
  ·exact .inl ⟨⟨show 1000≤1000 by decide,show 1000<2000 by decide⟩,rfl⟩
  ·exact .inl ⟨⟨show 1000≤1001 by decide,show 1001<2000 by decide⟩,rfl⟩
  ·exact .inl ⟨⟨show 1000≤1002 by decide,show 1002<2000 by decide⟩,rfl⟩
 ·simp only [bc,List.not_mem_nil,or_false] at hp
  rcases hp with rfl | rfl | rfl<;>rfl
structure ckB (m:Md):Prop where
 sp:spB m
 t:∀x∈m.ts,x.ps.length≤100∧x.rs.length≤100
 f:∀f∈m.fs,WS f
 g:∀g∈m.gs,g.i.length≤1000000
 e:∀e∈m.els,e.o.length≤1000000∧e.it.length≤1000000∧∀l∈e.it,l.length≤1000000
 d:m.ds.length≤1000000∧∀d∈m.ds,d.o.length≤1000000
 c:m.cs.length≤1000000
theorem Mv {m:Md} (h:∀x∈m.ts,x.ps.length≤100∧x.rs.length≤100):lG (lV m):=h
theorem AO (hLeft:dd) (m:Md) (hm:ol m) (h:(iF jA m).c=0→ckB m):aj Tryz.prog KY [gY m] (.agg [.int .i64 (dD m).p,.int .i64 (dD m).i,.int .i64 (dD m).l,.int .i64 (dD m).c]):=by
 refine ac (ic:=GO.body) ap Xw rfl rfl ?_
 have cl:=KG jA m hm (fun y hy=>Ro y hy)
 unfold dD
 generalize hL:iF jA m=L at cl h ⊢
 simp only [gY,bM] at cl
 simp only [go_sem,GO,gY]
 refine aa (cl) ?_
 by_cases h0:L.c=0
 rotate_left
 ·rw [av h0]
  simp only [go_sem,aK h0]
  exact an
 rw [ar (fun q=>q h0)]
 have hb:=h h0
 have cs:=VD m hb.sp
 rw [Zg] at cs
 have hsp:=hb.sp
 simp only [gY,bM] at cs
 simp only [go_sem,ay h0]
 refine bP cs (by simp [go_sem]) rfl ?_
 have k1:=O9 m (lV m) Q6 (Mv hb.t).sm (by have:=hsp.ims;omega) (by have:=hsp.fs;omega)
 have k2:=Fi m (lV m) (Wa m (lV m)) (Mv hb.t) (by have:=hsp.gs;omega) hb.g (by have:=hsp.exs;omega)
 have k3:=BN m (lV m) (NY m (lV m)) (by have:=hsp.els;omega) hb.e hb.d.1 hb.d.2 hb.c
 generalize hsA:lV m=s at *
 have hty:lG s:=by rw [← hsA];exact Mv hb.t
 simp only [go_sem]
 refine Bn k1 (by simp only [go_sem,Q6]) ?_
 simp only [go_sem]
 refine Bn (F:=Wa m s) k2 (by simp only [go_sem,Wa,ck1]) ?_
 simp only [go_sem]
 refine Bn (F:=NY m s) k3 (by simp only [go_sem,NY,Tj,ck3]) ?_
 simp only [go_sem]
 refine NV (s:=s) (F:=MQ m s) hLeft hty (by have:=hsp.fs;omega) hb.f rfl (by simp only [go_sem,MQ,Wb,Ye]) (by simp only [go_sem,Du]) (by simp only [go_sem,Kl]) ?_
 simp only [go_sem,QP,Du,Kl]
 exact ak
theorem abm (hLeft:dd) (m:Md) (hm:ol m) (h:(iF jA m).c=0→ckB m):aj Tryz.prog KZ [gY m] (.bool ((dD m).c==0)):=by
 refine ac (ic:=G_.body) ap X_ rfl rfl ?_
 have c:=AO hLeft m hm h
 simp only [gY,bM] at c
 simp only [go_sem,G_,gY]
 refine aa (c) ?_
 simp only [go_sem]
 exact ak
end
open Go Go.Mw
theorem sB {F:Fa} {p i l e:Int} (h:(dh F p i l e).c=0):F.c=0∧e=0:=by
 unfold dh at h
 by_cases h1:F.c=0
 ·by_cases h2:e=0
  ·exact ⟨h1,h2⟩
  ·rw [av ⟨h1,h2⟩] at h
   exact absurd h h2
 ·rw [ar (fun q=>h1 q.1)] at h
  exact absurd h h1
theorem nw {n:Int}:∀{l:List (Int×Int)} {i:Nat} {F:Fa},(eL n i l F).c=0→F.c=0∧∀r∈l,r.2=0
 | [],i,F,h=>⟨h,fun r hr=>by cases hr⟩
 | r :: l,i,F,h=>by
  rw [eL] at h
  by_cases h1:F.c≠0
  ·rw [av h1] at h;exact absurd h h1
  rw [ar h1] at h
  obtain ⟨h2,h3⟩:=nw h
  obtain ⟨h4,h5⟩:=sB h2
  refine ⟨h4,fun r' hr'=>?_⟩
  rcases bc.1 hr' with rfl | q
  ·exact h5
  ·exact h3 r' q
theorem eu {n most imp:Int} {res:List (Int×Int)} {F:Fa} (h:(cE n most imp res F).c=0):F.c=0∧IntKind.i64.wrap ((res.length:Int)+imp)≤most∧∀r∈res,r.2=0:=by
 unfold cE at h
 obtain ⟨h1,h2⟩:=nw h
 by_cases h3:IntKind.i64.wrap ((res.length:Int)+imp)>most
 ·rw [av h3] at h1
  exact absurd (sB h1).2 (by decide)
 ·rw [ar h3] at h1
  exact ⟨h1,by omega,h2⟩
theorem LW {P:bv→Bool}:∀{l:List bv} {i:Nat},(yK P i l).2=0→∀x∈l,P x=true∧x.lb.length≤64
 | [],i,h,x,hx=>by cases hx
 | y :: l,i,h,x,hx=>by
  rw [yK] at h
  by_cases h1:P y=false
  ·rw [av h1] at h;exact absurd h (show ¬(10:Int)=0 by decide)
  rw [ar h1] at h
  by_cases h2:y.lb.length>64
  ·rw [av h2] at h;exact absurd h (show ¬(6:Int)=0 by decide)
  rw [ar h2] at h
  rcases bc.1 hx with rfl | q
  ·exact ⟨by simpa using h1,by omega⟩
  ·exact LW h x q
theorem yJ {P:bv→Bool} {l:List bv} (h:(fz P l).2=0):l.length≤2048∧∀x∈l,P x=true∧x.lb.length≤64:=by
 unfold fz at h
 by_cases h1:l.length>2048
 ·rw [av h1] at h;exact absurd h (show ¬(6:Int)=0 by decide)
 rw [ar h1] at h
 exact ⟨by omega,LW h⟩
theorem DH {P:bv→Bool}:∀{l:List (List bv)},(lT P l).2=0→∀x∈l,(fz P x).2=0
 | [],h,x,hx=>by cases hx
 | y :: l,h,x,hx=>by
  rw [lT] at h
  by_cases h1:(fz P y).2≠0
  ·rw [av h1] at h;exact absurd h h1
  rw [ar h1] at h
  rcases bc.1 hx with rfl | q
  ·exact Decidable.of_not_not h1
  ·exact DH h x q
theorem Yw {P:bv→Bool} {x:El} (h:(IR P x).2=0):x.it.length≤256∧∀l∈x.o :: x.it,(fz P l).2=0:=by
 unfold IR at h
 split at h
 ·exact absurd h (show ¬(1:Int)=0 by decide)
 split at h
 ·exact absurd h (show ¬(11:Int)=0 by decide)
 split at h
 ·exact absurd h (show ¬(12:Int)=0 by decide)
 split at h
 ·exact absurd h (show ¬(6:Int)=0 by decide)
 ·exact ⟨by omega,DH h⟩
theorem Yq {P:bv→Bool} {x:Da} (h:(CX P x).2=0):(fz P x.o).2=0:=by
 unfold CX at h
 split at h
 ·exact absurd h (show ¬(1:Int)=0 by decide)
 split at h
 ·exact absurd h (show ¬(11:Int)=0 by decide)
 split at h
 ·exact absurd h (show ¬(6:Int)=0 by decide)
 ·exact h
theorem YC {P:bv→Bool} {x:Gd} (h:(Oj P x).2=0):(fz P x.i).2=0:=by
 unfold Oj at h
 split at h
 ·rename_i q;exact absurd h q
 ·exact h
theorem Yd {x:Cd} (h:MP x=0):x.lo.length≤64:=by
 unfold MP at h
 split at h
 ·exact absurd h (by decide)
 split at h
 ·exact absurd h (by decide)
 ·omega
theorem QT {x:Ft} (h:MT x=0):x.ps.length≤8∧x.rs.length≤8:=by
 unfold MT at h
 split at h
 ·exact absurd h (by decide)
 ·omega
theorem Iz (m:Md) (hm:ol m) (h:(iF jA m).c=0):ckB m:=by
 unfold iF at h
 by_cases h11:(jx jA m).c=0
 rotate_left
 ·rw [ar h11] at h;exact absurd h h11
 rw [av h11] at h
 obtain ⟨_,_,r12⟩:=eu h
 obtain ⟨h10,l11,r11⟩:=eu h11
 obtain ⟨h9,l10,r10⟩:=eu h10
 obtain ⟨h8,l9,r9⟩:=eu h9
 have h7:(Gp jA m).c=0:=by
  unfold BQ at h8
  split at h8
  ·exact (sB h8).1
  ·exact h8
 obtain ⟨h6,l7,r7⟩:=eu h7
 obtain ⟨h5,l6,r6⟩:=eu h6
 obtain ⟨h4,l5,r5⟩:=eu h5
 obtain ⟨h3,l4,r4⟩:=eu h4
 obtain ⟨h2,l3,r3⟩:=eu h3
 obtain ⟨h1,l2,r2⟩:=eu h2
 obtain ⟨h0,l1,r1⟩:=eu h1
 simp only [bT] at l1 l2 l3 l4 l5 l6 l7 l9 l10 l11
 have c0:=tf 0 m.ims
 have c1:=tf 1 m.ims
 have c2:=tf 2 m.ims
 have c3:=tf 3 m.ims
 have b1:=hm.ts.1
 have b2:=hm.ims
 have b3:=hm.fs.1
 have b4:=hm.tbs
 have b5:=hm.ms
 have b6:=hm.gs.1
 have b7:=hm.exs
 have b9:=hm.els.1
 have b10:=hm.ds.1
 have b11:=hm.cs.1
 rw [wi (by omega) (by omega)] at l1 l2 l3 l4 l5 l6 l7 l9 l10 l11
 have e1:∀x∈m.ts,x.ps.length≤8∧x.rs.length≤8:=fun x hx=>QT (r1 (0,MT x) (List.mem_map.2 ⟨x,hx,rfl⟩))
 have e3:∀x∈m.fs,x.lo.length≤64:=fun x hx=>Yd (r3 (0,MP x) (List.mem_map.2 ⟨x,hx,rfl⟩))
 have e6:∀x∈m.gs,x.i.length≤2048:=fun x hx=>(yJ (YC (r6 (Oj jA x) (List.mem_map.2 ⟨x,hx,rfl⟩)))).1
 have e9:∀x∈m.els,x.it.length≤256∧∀l∈x.o :: x.it,l.length≤2048:=fun x hx=>by
  obtain ⟨q1,q2⟩:=Yw (r9 (IR jA x) (List.mem_map.2 ⟨x,hx,rfl⟩))
  exact ⟨q1,fun l hl=>(yJ (q2 l hl)).1⟩
 have e10:∀x∈m.ds,x.o.length≤2048:=fun x hx=>(yJ (Yq (r10 (CX jA x) (List.mem_map.2 ⟨x,hx,rfl⟩)))).1
 have e12:∀x∈m.fs,x.b.length≤2048∧∀y∈x.b,jA y=true∧y.lb.length≤64:=fun x hx=>yJ (r12 (fz jA x.b) (List.mem_map.2 ⟨x,hx,rfl⟩))
 refine ⟨⟨by omega,by omega,by omega,by omega,by omega,by omega,by omega,by omega,fun g hg=>?_,fun e he=>?_,fun x hx=>?_⟩,fun x hx=>?_,fun f hf=>?_,fun g hg=>?_,fun e he=>?_,⟨by omega,fun d hd=>?_⟩,by omega⟩
 ·have:=e6 g hg;omega
 ·obtain ⟨q1,q2⟩:=e9 e he
  exact ⟨by omega,fun l hl=>by have:=q2 l (List.mem_cons_of_mem _ hl);omega⟩
 ·have:=e1 x hx;omega
 ·have:=e1 x hx;omega
 ·exact ⟨e3 f hf,(e12 f hf).1,fun y hy=>⟨((hm.fs.2 f hf).2).2 y hy,((e12 f hf).2 y hy).2⟩⟩
 ·have:=e6 g hg;omega
 ·obtain ⟨q1,q2⟩:=e9 e he
  exact ⟨by have:=q2 e.o List.mem_cons_self;omega,by omega,fun l hl=>by have:=q2 l (List.mem_cons_of_mem _ hl);omega⟩
 ·have:=e10 d hd;omega
theorem P_ (hLeft:dd) (m:Md) (hm:ol m):aj Tryz.prog KY [gY m] (.agg [.int .i64 (dD m).p,.int .i64 (dD m).i,.int .i64 (dD m).l,.int .i64 (dD m).c]):=AO hLeft m hm (Iz m hm)
theorem afU (hLeft:dd) (m:Md) (hm:ol m):aj Tryz.prog KZ [gY m] (.bool ((dD m).c==0)):=abm hLeft m hm (Iz m hm)
end Go.Proofs.YthhglklcaodfmaaGreatDoor