import Derived.Test.YtdfofedlbljnhaaGreatDoorQu
set_option linter.all false
set_option maxRecDepth 100000
set_option maxHeartbeats 40000000
namespace Go.Proofs.YtdfofedlbljnhaaGreatDoor
section
open Go Go.Mw
attribute [local go_sem] di bC
theorem Vy (m:Md) (hs:Gi m) (hn:yB m):ao pg xy [dH m] (.bool true):=by
 refine aL oz ?_
 have cs:=y8 hs
 have al:=qX
 simp only [dH,bC] at cs
 simp only [go_sem,oz,dH]
 refine ax (cs) ?_
 cases hq:I_ m
 ·simp only [go_sem]
  refine aa (al) ?_
  exact aj
 have c1:=lV hs hn (Or hq)
 simp only [dH,bC] at c1
 simp only [go_sem]
 refine ax (c1) ?_
 by_cases he:(cW m).1=0
 rotate_left
 ·rw [Nn he]
  simp only [go_sem,bv he,show (((0:Nat):Int)==0)=true from rfl]
  refine aa (al) ?_
  exact aj
 have c2:=ud (cW m).2 (by have:=HT hs hn;omega)
 rw [JN hs hn he] at c2
 have c3:=DC m (pt m) hs
 rw [aO (U9 m)] at c3
 simp only [dH,bC] at c2 c3
 generalize pt m=M at *
 simp only [go_sem,aD he]
 refine aa (c2) ?_
 refine aa (c3) ?_
 refine aa (al) ?_
 exact aj
theorem Vz (m n:Md) (hs:Gi m) (hn:yB m) (hs2:Gi n) (hn2:yB n):ao pg xz [dH m,dH n] (.bool true):=by
 refine aL oA ?_
 have cs:=y8 hs
 have cs2:=y8 hs2
 have al:=qX
 simp only [dH,bC] at cs cs2
 simp only [go_sem,oA,dH]
 refine ax (cs) ?_
 cases hq:I_ m
 ·simp only [go_sem]
  refine aa (al) ?_
  exact aj
 simp only [go_sem]
 refine ax (cs2) ?_
 cases hq2:I_ n
 ·simp only [go_sem]
  refine aa (al) ?_
  exact aj
 have c1:=lV hs hn (Or hq)
 have c2:=lV hs2 hn2 (Or hq2)
 simp only [dH,bC] at c1 c2
 simp only [go_sem]
 refine aa (c1) ?_
 refine ax (c2) ?_
 by_cases he:(cW m).1=0
 rotate_left
 ·simp only [go_sem,bv he]
  refine aa (al) ?_
  exact aj
 by_cases he2:(cW n).1=0
 rotate_left
 ·simp only [go_sem,aD he,bv he2]
  refine aa (al) ?_
  exact aj
 obtain ⟨o1,j1⟩:=DX hs hn he
 obtain ⟨o2,j2⟩:=DX hs2 hn2 he2
 have key:((cW m).2==(cW n).2)=decide (dm m n):=by
  have:=U8 o1 o2 j1 j2
  by_cases q:(cW m).2=(cW n).2
  ·rw [aO (this.1 q)];simpa using q
  ·rw [aQ fun z=>q (this.2 z)];simpa using q
 have c3:=DC m n hs
 simp only [dH,bC] at c3
 generalize decide (dm m n)=S at *
 simp only [go_sem,aD he,aD he2,fP,key]
 refine fG c3 (by simp [go_sem]) rfl ?_
 simp only [go_sem,beq_self_eq_true]
 refine aa (al) ?_
 exact aj
theorem ZC (m:Md) (k:Int) (hs:Gi m) (hn:yB m):ao pg yp [dH m,.int .i64 k] (.bool true):=by
 refine aL pG ?_
 have cs:=y8 hs
 have al:=qX
 simp only [dH,bC] at cs
 simp only [go_sem,pG,dH]
 refine ax (cs) ?_
 cases hq:I_ m
 ·simp only [go_sem]
  refine aa (al) ?_
  exact aj
 have c1:=lV hs hn (Or hq)
 simp only [dH,bC] at c1
 simp only [go_sem]
 refine ax (c1) ?_
 by_cases he:(cW m).1=0
 rotate_left
 ·simp only [go_sem,bv he]
  refine aa (al) ?_
  exact aj
 by_cases h1:k<0
 ·simp only [go_sem,aD he,aO h1]
  refine aa (al) ?_
  exact aj
 by_cases h2:k≥((cW m).2.length:Int)
 ·simp only [go_sem,aD he,aQ h1,aO h2]
  refine aa (al) ?_
  exact aj
 obtain ⟨o1,j1⟩:=DX hs hn he
 have hl:=HT hs hn
 obtain ⟨a,rfl⟩:∃a:Nat,k=a:=⟨k.toNat,by omega⟩
 have hc:=fun M h=>WD (at_:=a) o1 j1 (by omega) (n:=M) h
 have ha:=Nb (cW m).2 a (by omega)
 have c2:=ud ((cW m).2.take a) (by rw [pm];omega)
 have hd:=fun h=>JM (b:=(cW m).2.take a) h
 obtain ⟨M,hM⟩:∃M,(rI ((cW m).2.take a)).1=M:=⟨_,rfl⟩
 obtain ⟨e,hE⟩:∃e,(rI ((cW m).2.take a)).2=e:=⟨_,rfl⟩
 rw [hM,hE] at c2 hd
 simp only [dH,bC] at c2
 simp only [go_sem,aD he,aQ h1,aQ h2,ha]
 refine ax (c2) ?_
 by_cases h0:e=0
 rotate_left
 ·simp only [go_sem,bv h0]
  refine aa (al) ?_
  exact aj
 have c3:=DC m M hs
 rw [aQ fun z=>hc M (hd h0) (Zj.2 z)] at c3
 simp only [dH,bC] at c3
 simp only [go_sem,aD h0]
 refine aa (c3) ?_
 refine aa (al) ?_
 exact aj
end
section
open Go Go.Mw
def Xd (m:Md):List Bool:=[decide ((m.ts.length:Int)>0),decide ((m.ims.length:Int)>0),decide ((m.fs.length:Int)>0),decide ((m.tbs.length:Int)>0),decide ((m.ms.length:Int)>0),decide ((m.gs.length:Int)>0),decide ((m.exs.length:Int)>0),m.hs,decide ((m.els.length:Int)>0),decide ((m.ds.length:Int)>0),decide ((m.fs.length:Int)>0),decide ((m.ds.length:Int)>0)]
def FV:Nat→List Bool→List Int
 | _,[]=>[]
 | k,b :: l=>(if b=true then [(k:Int)] else [])++FV (k+1) l
theorem NI:∀(a b:List Bool) (k:Nat),FV k (a++b)=FV k a++FV (k+a.length) b
 | [],b,k=>by simp [FV]
 | x :: a,b,k=>by
  rw [jR,FV,FV,NI a b,eA,du]
  congr 3
  omega
theorem NJ:∀(a:List Bool) (k:Nat),(FV k a).length≤a.length
 | [],k=>bt _
 | x :: a,k=>by
  have:=NJ a (k+1)
  rw [FV,bE,eA]
  split<;>simp<;>omega
theorem ab1 (n:Nat) (p:Int):(if decide ((n:Int)>0)=true then [p] else [])=lq (n>0) p:=by
 unfold lq
 by_cases h:n>0
 ·rw [ap h,ap (aO (by omega))]
 ·rw [ah h,aQ (by omega),ah (by decide)]
theorem YQ (m:Md):kq m=FV 1 (Xd m):=by
 rw [rX]
 unfold Xd
 simp only [FV,ab1,du,mz]
 rfl
theorem afM {l:List Bool} {i:Nat} (h:i<l.length):FV 1 (l.take (i+1))=FV 1 (l.take i)++if ac l i=true then [((i:Int)+1)] else []:=by
 rw [xJ h,NI,pm]
 congr 1
 rw [FV,FV,mz]
 have e:((1+min i l.length:Nat):Int)=(i:Int)+1:=by omega
 rw [e]
attribute [local go_sem] di bC
theorem UJ (m:Md):ao pg Ab [dH m] (.sl 1 ((kq m).map ri)):=by
 refine aL qC ?_
 rw [YQ]
 simp only [go_sem,qC,dH]
 obtain ⟨H,hH⟩:∃H,Xd m=H:=⟨_,rfl⟩
 have hl:H.length=12:=by rw [← hH];rfl
 rw [hH]
 refine aw (fun i:Nat=>⟨[(5,.int .i64 i),(4,.ms 900 1 0 (FV 1 (H.take i)).length),(3,.sl 1 (H.map rt))],[(900,⟨3,1,(FV 1 (H.take i)).map ri,false⟩)]⟩) (fun i=>i≤H.length) (fun i=>H.length - i) 0 (cX _) (((Wk.frzs [52] _).trans (Wk.nil _ 4 900 1 3 (by simp only [go_sem]) (.inl (by decide)))).trans (Wk.of ?_ ?_)) ?_
 ·simp only [go_sem,St.mknil,← hH];try simp [Xd,FV,rt]
 ·simp only [go_sem,St.mknil];try simp [go_sem,FV]
 intro i hi
 have hln:=NJ (H.take i) 1
 rw [pm] at hln
 by_cases q:(i:Int)<(H.length:Int)
 rotate_left
 ·obtain rfl:i=H.length:=by omega
  rw [kC]
  simp only [go_sem,aQ q]
  refine aJ [900] ?_ rfl
  simp only [go_sem,bt]
  rw [fL (by simp)]
 have hi':i<H.length:=by omega
 have e8:=dz hi' (by omega)
 have hs:=afM hi'
 have happ:=fun ys=>cZ 900 3 1 (FV 1 (H.take i)).length ri (FV 1 (H.take i)) ys rfl
 cases hb:ac H i
 ·rw [hb,ah (by decide),mz] at hs
  simp only [go_sem,aO q,hb]
  refine ⟨by omega,q,?_⟩
  refine aG (i+1) (show i+1≤H.length by omega) (show H.length - (i+1)<H.length - i by omega) (Wk.of ?_ ?_)
  ·simp only [go_sem,e8,hs];try simp
  ·simp only [go_sem,hs];try simp [go_sem]
 ·rw [hb,ap rfl] at hs
  simp only [go_sem,aO q,hb,e8,happ]
  refine ⟨by omega,q,by omega,?_⟩
  refine aG (i+1) (show i+1≤H.length by omega) (show H.length - (i+1)<H.length - i by omega) (Wk.of ?_ ?_)
  ·simp only [go_sem,e8,hs];try simp
  ·simp only [go_sem,hs];try simp [go_sem]
theorem aen (a b:List Int) (ha:a.length<1000000):ao pg Iq [.sl 1 (a.map ri),.sl 1 (b.map ri)] (.bool (decide (a=b))):=by
 refine aL rA ?_
 by_cases hl:(a.length:Int)=(b.length:Int)
 rotate_left
 ·rw [aQ fun h=>hl (by rw [h])]
  simp only [go_sem,rA,bv hl]
  exact aj
 have hl':a.length=b.length:=by omega
 simp only [go_sem,rA,aD hl]
 refine aw (fun i:Nat=>⟨[(13,.int .i64 i),(12,.int .i64 a.length),(0,.sl 1 (a.map ri)),(1,.sl 1 (b.map ri)),(4,.bool false)],[]⟩) (fun i=>i≤a.length∧∀k,k<i→ac a k=ac b k) (fun i=>a.length - i) 0 ⟨cX _,fun k h=>absurd h (Nat.not_lt_zero _)⟩ (Wk.of ?_ ?_) ?_
 ·simp only [go_sem];try simp
 ·simp only [go_sem];try simp
 rintro i ⟨hi,hk⟩
 by_cases q:(i:Int)<(a.length:Int)
 rotate_left
 ·obtain rfl:i=a.length:=by omega
  rw [aO (Dw hl' hk)]
  simp only [go_sem,aQ q]
  exact aj
 have hi':i<a.length:=by omega
 have e8:=dz hi' (by omega)
 by_cases q2:ac a i=ac b i
 ·simp only [go_sem,aO q,aD q2]
  refine ⟨by omega,q,by omega,by omega,?_⟩
  refine aG (i+1) ⟨show i+1≤a.length by omega,fun k h=>?_⟩ (show a.length - (i+1)<a.length - i by omega) (Wk.of ?_ ?_)
  ·by_cases z:k=i
   ·rw [z];exact q2
   ·exact hk k (by omega)
  ·simp only [go_sem,e8];try simp
  ·simp only [go_sem];try simp
 ·rw [aQ fun h=>q2 (by rw [h])]
  simp only [go_sem,aO q,bv q2]
  refine ⟨by omega,q,by omega,by omega,?_⟩
  exact aj
theorem VB (m:Md) (hs:Gi m) (hn:yB m):ao pg rT [dH m] (.bool true):=by
 refine aL jW ?_
 have cs:=y8 hs
 have al:=qX
 have c1:=L9 m
 have c2:=UJ m
 have hpl:=yG m
 have c3:=aen (kq m) (kq m) (by omega)
 rw [aO rfl] at c3
 have hpi:=yF m
 have hpw:=(List.pairwise_cons.1 (yH m)).2
 simp only [dH,bC] at cs c1 c2
 generalize kq m=p at *
 simp only [go_sem,jW,dH]
 refine ax (cs) ?_
 cases hq:I_ m
 ·simp only [go_sem]
  refine aa (al) ?_
  exact aj
 simp only [go_sem]
 refine aa (c1) ?_
 refine aw (fun i:Nat=>⟨[(13,.int .i64 i),(12,.int .i64 p.length),(3,.sl 1 (p.map ri)),(2,.bool false),(1,.mp 1 12 0 0)],[(1,⟨33,12,[G3 m],true⟩)]⟩) (fun i=>i≤p.length) (fun i=>p.length - i) 0 (cX _) (Wk.of ?_ ?_) ?_
 ·simp only [go_sem];try simp
 ·simp only [go_sem];try simp
 intro i hi
 by_cases q:(i:Int)<(p.length:Int)
 rotate_left
 ·simp only [go_sem,aQ q]
  refine aa (c2) ?_
  refine aa (c3) ?_
  refine aa (al) ?_
  exact aj
 have hi':i<p.length:=by omega
 have e8:=dz hi' (by omega)
 have hin:ac p i∈p:=by rw [bp hi'];exact List.getElem_mem hi'
 obtain ⟨z1,z2⟩:=hpi _ hin
 by_cases h0:i=0
 ·subst h0
  simp only [go_sem,aO q,aQ (show ¬ac p 0<1 by omega),aQ (show ¬ac p 0>12 by omega),show decide (((0:Nat):Int)>0)=false from rfl]
  refine ⟨by omega,q,by omega,q,?_⟩
  refine aG (0+1) (show 0+1≤p.length by omega) (show p.length - (0+1)<p.length - 0 by omega) (Wk.of ?_ ?_)
  ·simp only [go_sem,e8];try simp
  ·simp only [go_sem];try simp
 have e9:IntKind.i64.wrap ((i:Int) - 1)=((i - 1:Nat):Int):=by rw [wi (by omega) (by omega)];omega
 have hlt:ac p (i - 1)<ac p i:=by
  rw [bp hi',bp (show i - 1<p.length by omega)]
  exact List.pairwise_iff_getElem.1 hpw (i - 1) i (by omega) hi' (by omega)
 simp only [go_sem,aO q,aQ (show ¬ac p i<1 by omega),aQ (show ¬ac p i>12 by omega),aO (show (i:Int)>0 by omega),e9,aQ (show ¬ac p i≤ac p (i - 1) by omega)]
 refine ⟨by omega,q,by omega,q,by omega,q,by omega,by omega,?_⟩
 refine aG (i+1) (show i+1≤p.length by omega) (show p.length - (i+1)<p.length - i by omega) (Wk.of ?_ ?_)
 ·simp only [go_sem,e8];try simp
 ·simp only [go_sem];try simp
end
end Go.Proofs.YtdfofedlbljnhaaGreatDoor