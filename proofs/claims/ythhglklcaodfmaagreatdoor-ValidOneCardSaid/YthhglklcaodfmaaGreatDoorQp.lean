import Derived.Test.YthhglklcaodfmaaGreatDoorQo
set_option linter.all false
set_option maxRecDepth 100000
set_option maxHeartbeats 40000000
namespace Go.Proofs.YthhglklcaodfmaaGreatDoor
section
open Go Go.Mw
attribute [local go_sem] bT aY cw df bO b_ kK dy eB dx eS eV cD dB bM
theorem Uy (a b:List Int) (ha:a.length≤9223372036854775807):aj Tryz.prog aeV [.sl 1 (a.map bp),.sl 1 (b.map bp)] (.bool (decide (a=b))):=by
 refine ac (ic:=M2.body) ap acW rfl rfl ?_
 by_cases hl:(a.length:Int)=(b.length:Int)
 rotate_left
 ·rw [bF (fun h=>hl (by rw [h]))]
  simp only [go_sem,M2,aK hl]
  exact ak
 simp only [go_sem,M2,ay hl]
 refine aJ (fun j:Nat=>⟨[(14,.int .i64 j),(13,.int .i64 a.length),(12,.sl 1 (a.map bp)),(1,.sl 1 (b.map bp))],[]⟩) (fun j=>j≤a.length∧∀k,k<j→au a k=au b k) (fun j=>a.length - j) 0 ⟨ef _,fun k hk=>by omega⟩ (Wk.of ?_ ?_) ?_
 ·simp only [go_sem,hl];try simp
 ·simp only [go_sem]
 rintro j ⟨hj,hx⟩
 by_cases h1:(j:Int)<(a.length:Int)
 rotate_left
 ·rw [bH (TN (by omega) fun k hk=>hx k (by omega))]
  simp only [go_sem,bF h1]
  exact ak
 have hj':j<a.length:=by omega
 have hjb:(j:Int)<(b.length:Int):=by omega
 have e8:=ep hj' (by omega)
 by_cases h2:au a j=au b j
 ·simp only [go_sem,bH h1,ay h2]
  refine ⟨by omega,h1,by omega,hjb,bA (j+1) ⟨show j+1≤a.length by omega,fun k hk=>?_⟩ (show a.length - (j+1)<a.length - j by omega) (Wk.of ?_ ?_)⟩
  ·rcases jn k j with h | h
   ·exact hx k h
   ·rw [show k=j by omega];exact h2
  ·simp only [go_sem,e8];try simp
  ·simp only [go_sem]
 ·rw [bF (fun e=>h2 (by rw [e]))]
  simp only [go_sem,bH h1,aK h2]
  refine ⟨by omega,h1,by omega,hjb,?_⟩
  exact ak
theorem Pv (a b:List Int) (ha:a.length≤9223372036854775807):aj Tryz.prog afq [.sl 1 (a.map bp),.sl 1 (b.map bp)] (.bool (decide (a=b))):=by
 refine ac (ic:=Sv.body) ap adB rfl rfl ?_
 simp only [go_sem,Sv]
 refine aa (Uy a b ha) ?_
 simp only [go_sem]
 exact ak
end
section
open Go Go.Mw
theorem d_ (S:Sk) (l:List Int):(S.want l).2.u=S.u∧(S.want l).2.all.length≤S.all.length:=by
 unfold Sk.want
 cases h:S.left l with
 | mk o e =>
  cases o with
  | none=>exact ⟨rfl,aO _⟩
  | some r =>
   obtain ⟨_,q,hq⟩:=oQ h
   refine ⟨rfl,?_⟩
   show (bK S.u++r.reverse).length≤_
   rw [iA,hq]
   simp only [ee];omega
theorem yP (S:Sk) (l:List Int):(S.shut l).2.u.length≤S.u.length∧(S.shut l).2.all.length≤S.all.length:=by
 unfold Sk.shut
 split
 ·exact ⟨aO _,aO _⟩
 ·exact ⟨aO _,aO _⟩
 ·have ha:S.all.length=(bK S.u).length+S.t.l.length:=by rw [iA,ee]
  split
  ·rename_i hu
   refine ⟨aO _,?_⟩
   show (bK S.u++[]).length≤_
   rw [jJ];omega
  ·rename_i g r hu
   refine ⟨by rw [hu];simp,?_⟩
   show (bK (g :: r)).length≤_
   rw [← hu];omega
structure yB (n:Nat) (C:Ct):Prop where
 u:C.s.u.length≤n
 l:C.s.all.length≤n
 b:C.bs.length≤n
 r:C.rs.length≤1000
 t:∀b∈C.bs,b.t.ps.length≤1000∧b.t.rs.length≤1000
theorem yB.top {n:Nat} {C:Ct} (h:yB n C) (h0:C.bs≠[]):C.top.t.ps.length≤1000∧C.top.t.rs.length≤1000:=by
 have hpos:0<C.bs.length:=List.length_pos_iff.2 h0
 refine h.t _ ?_
 unfold Ct.top
 rw [aX (by omega)]
 exact List.getElem_mem _
theorem MD (C:Ct):au C.bs (C.bs.length - 1)=C.top:=rfl
attribute [local go_sem] bT nZ n7 n8 n6 jF tg th qg qh js aY
theorem T6 (hLeft:dd) (C:Ct) (h:yB 800000 C):xN afe [] C (.int .i64 C.els.1) C.els.2:=by
 refine aB (ic:=zf.body) ap adk rfl rfl ?_
 have hu:=h.u
 have hl:=h.l
 have hb:=h.b
 unfold Ct.els
 by_cases e1:C.br=0
 rotate_left
 ·rw [av e1]
  simp only [go_sem,zf]
  refine aw (bZ C) (by simp only [go_sem]) (by simp only [go_sem]) (by simp only [go_sem]) (by simp only [go_sem]) (by simp only [go_sem]) (by simp only [go_sem]) ?_
  simp only [go_sem,aK e1]
  exact aG [] _ (dv C) ⟨rfl,rfl⟩
 rw [ar (fun q=>q e1)]
 by_cases e2:C.bs.length=0
 ·rw [av (.inl e2)]
  simp only [go_sem,zf]
  refine aw (bZ C) (by simp only [go_sem]) (by simp only [go_sem]) (by simp only [go_sem]) (by simp only [go_sem]) (by simp only [go_sem]) (by simp only [go_sem]) ?_
  simp only [go_sem,ay e1,aF (show (C.bs.length:Int)=0 by omega)]
  exact aG [] _ (dv C) ⟨rfl,rfl⟩
 have hne:C.bs≠[]:=fun q=>e2 (by rw [q];rfl)
 have hw:IntKind.i64.wrap ((C.bs.length:Int) - 1)=((C.bs.length - 1:Nat):Int):=by rw [wi (by omega) (by omega)];omega
 have htop:=MD C
 have e2':¬(C.bs.length:Int)=0:=by omega
 by_cases e3:C.top.k=4
 rotate_left
 ·rw [av (.inr (.inl e3))]
  simp only [go_sem,zf]
  refine aw (bZ C) (by simp only [go_sem]) (by simp only [go_sem]) (by simp only [go_sem]) (by simp only [go_sem]) (by simp only [go_sem]) (by simp only [go_sem]) ?_
  simp only [go_sem,ay e1,ab e2',hw,cZ,Nat.zero_add,htop,aK e3]
  refine ⟨⟨by omega,by omega⟩,by omega,?_⟩
  exact aG [] _ (dv C) ⟨rfl,rfl⟩
 cases e4:C.top.ot
 rotate_left
 ·rw [av (.inr (.inr rfl))]
  simp only [go_sem,zf]
  refine aw (bZ C) (by simp only [go_sem]) (by simp only [go_sem]) (by simp only [go_sem]) (by simp only [go_sem]) (by simp only [go_sem]) (by simp only [go_sem]) ?_
  simp only [go_sem,ay e1,ab e2',hw,cZ,Nat.zero_add,htop,ay e3,e4]
  refine ⟨⟨by omega,by omega⟩,by omega,⟨by omega,by omega⟩,by omega,?_⟩
  exact aG [] _ (dv C) ⟨rfl,rfl⟩
 rw [ar (by rintro (q | q | q);exact e2 q;exact q e3;cases q)]
 obtain ⟨t1,t2⟩:=h.top hne
 have ks:=Kh C.s C.top.t.rs (by omega) (by omega) (hLeft _ _ (by omega) (by omega) (by omega))
 obtain ⟨b1,b2⟩:=yP C.s C.top.t.rs
 generalize C.s.shut C.top.t.rs=R at ks b1 b2 ⊢
 obtain ⟨e,S1⟩:=R
 dsimp only at ks b1 b2 ⊢
 by_cases e5:e=0
 rotate_left
 ·rw [av e5]
  have kb:=jR { C with s:=S1 } e
  simp only [go_sem,zf]
  refine aw (bZ C) (by simp only [go_sem]) (by simp only [go_sem]) (by simp only [go_sem]) (by simp only [go_sem]) (by simp only [go_sem]) (by simp only [go_sem]) ?_
  simp only [go_sem,ay e1,ab e2',hw,cZ,Nat.zero_add,htop,ay e3,e4]
  refine ⟨⟨by omega,by omega⟩,by omega,⟨by omega,by omega⟩,by omega,⟨by omega,by omega⟩,by omega,?_⟩
  refine aD (ks) (by simp only [go_sem]) (by simp only [go_sem]) (by simp only [go_sem]) (by simp only [go_sem]) ?_
  simp only [go_sem,aK e5]
  refine aw (kb) (by simp only [go_sem]) (by simp only [go_sem]) (by simp only [go_sem]) (by simp only [go_sem]) (by simp only [go_sem]) (by simp only [go_sem]) ?_
  simp only [go_sem]
  exact done [] _ (dv (({ C with s:=S1 }:Ct).broke e).2) (by simp only [go_sem,Ct.broke]) (by simp only [go_sem,Ct.broke]) rfl ⟨rfl,rfl⟩
 rw [ar (fun q=>q e5)]
 have kp:=Ke { C with s:=S1 } hne (show C.bs.length<900000 by omega)
 have kg:=sE { C with s:=S1,bs:=C.bs.dropLast } { C.top with ot:=true } (by show S1.u.length<900000;omega) (by show S1.all.length<900000;omega) (by show C.bs.dropLast.length<900000;rw [List.length_dropLast];omega) (by show C.top.t.ps.length<900000;omega)
 rw [show ({ C with s:=S1 }:Ct).top=C.top from rfl] at kp
 simp only [js] at kp kg
 simp only [go_sem,zf]
 refine aw (bZ C) (by simp only [go_sem]) (by simp only [go_sem]) (by simp only [go_sem]) (by simp only [go_sem]) (by simp only [go_sem]) (by simp only [go_sem]) ?_
 simp only [go_sem,ay e1,ab e2',hw,cZ,Nat.zero_add,htop,ay e3,e4]
 refine ⟨⟨by omega,by omega⟩,by omega,⟨by omega,by omega⟩,by omega,⟨by omega,by omega⟩,by omega,?_⟩
 refine aD (ks) (by simp only [go_sem]) (by simp only [go_sem]) (by simp only [go_sem]) (by simp only [go_sem]) ?_
 simp only [go_sem,ay e5]
 refine aw (kp) (by simp only [go_sem]) (by simp only [go_sem]) (by simp only [go_sem]) (by simp only [go_sem]) (by simp only [go_sem]) (by simp only [go_sem]) ?_
 simp only [go_sem]
 refine aw (kg) (by simp only [go_sem]) (by simp only [go_sem]) (by simp only [go_sem]) (by simp only [go_sem]) (by simp only [go_sem]) (by simp only [go_sem]) ?_
 simp only [go_sem]
 exact aG [] _ (dv (({ C with s:=S1,bs:=C.bs.dropLast }:Ct).begin { C.top with ot:=true })) ⟨rfl,rfl⟩
theorem O6 (hLeft:dd) (C:Ct) (h:yB 800000 C):xN aeY [] C (.int .i64 C.leave.1) C.leave.2:=by
 refine aB (ic:=D3.body) ap acZ rfl rfl ?_
 have hu:=h.u
 have hl:=h.l
 have hb:=h.b
 unfold Ct.leave
 by_cases e1:C.br=0
 rotate_left
 ·rw [av e1]
  simp only [go_sem,D3]
  refine aw (bZ C) (by simp only [go_sem]) (by simp only [go_sem]) (by simp only [go_sem]) (by simp only [go_sem]) (by simp only [go_sem]) (by simp only [go_sem]) ?_
  simp only [go_sem,aK e1]
  exact aG [] _ (dv C) ⟨rfl,rfl⟩
 rw [ar (fun q=>q e1)]
 by_cases e2:C.bs.length=0
 ·rw [av e2]
  simp only [go_sem,D3]
  refine aw (bZ C) (by simp only [go_sem]) (by simp only [go_sem]) (by simp only [go_sem]) (by simp only [go_sem]) (by simp only [go_sem]) (by simp only [go_sem]) ?_
  simp only [go_sem,ay e1,aF (show (C.bs.length:Int)=0 by omega)]
  exact aG [] _ (dv C) ⟨rfl,rfl⟩
 rw [ar e2]
 have hne:C.bs≠[]:=fun q=>e2 (by rw [q];rfl)
 have hw:IntKind.i64.wrap ((C.bs.length:Int) - 1)=((C.bs.length - 1:Nat):Int):=by rw [wi (by omega) (by omega)];omega
 have htop:=MD C
 have e2':¬(C.bs.length:Int)=0:=by omega
 obtain ⟨t1,t2⟩:=h.top hne
 have ks:=Kh C.s C.top.t.rs (by omega) (by omega) (hLeft _ _ (by omega) (by omega) (by omega))
 obtain ⟨b1,b2⟩:=yP C.s C.top.t.rs
 generalize C.s.shut C.top.t.rs=R at ks b1 b2 ⊢
 obtain ⟨e,S1⟩:=R
 dsimp only at ks b1 b2 ⊢
 by_cases e5:e=0
 rotate_left
 ·rw [av e5]
  have kb:=jR { C with s:=S1 } e
  simp only [go_sem,D3]
  refine aw (bZ C) (by simp only [go_sem]) (by simp only [go_sem]) (by simp only [go_sem]) (by simp only [go_sem]) (by simp only [go_sem]) (by simp only [go_sem]) ?_
  simp only [go_sem,ay e1,ab e2',hw,cZ,Nat.zero_add,htop]
  refine ⟨⟨by omega,by omega⟩,by omega,?_⟩
  refine aD (ks) (by simp only [go_sem]) (by simp only [go_sem]) (by simp only [go_sem]) (by simp only [go_sem]) ?_
  simp only [go_sem,aK e5]
  refine aw (kb) (by simp only [go_sem]) (by simp only [go_sem]) (by simp only [go_sem]) (by simp only [go_sem]) (by simp only [go_sem]) (by simp only [go_sem]) ?_
  simp only [go_sem]
  exact done [] _ (dv (({ C with s:=S1 }:Ct).broke e).2) (by simp only [go_sem,Ct.broke]) (by simp only [go_sem,Ct.broke]) rfl ⟨rfl,rfl⟩
 rw [ar (fun q=>q e5)]
 have kp:=Ke { C with s:=S1 } hne (show C.bs.length<900000 by omega)
 rw [show ({ C with s:=S1 }:Ct).top=C.top from rfl] at kp
 simp only [js] at kp
 have kv:=Pv C.top.t.ps C.top.t.rs (by omega)
 have kq:=mE S1 C.top.t.rs (by omega) (by omega) (by omega)
 have kb:=jR { C with s:=S1,bs:=C.bs.dropLast } 12
 simp only [go_sem,D3]
 refine aw (bZ C) (by simp only [go_sem]) (by simp only [go_sem]) (by simp only [go_sem]) (by simp only [go_sem]) (by simp only [go_sem]) (by simp only [go_sem]) ?_
 simp only [go_sem,ay e1,ab e2',hw,cZ,Nat.zero_add,htop]
 refine ⟨⟨by omega,by omega⟩,by omega,?_⟩
 refine aD (ks) (by simp only [go_sem]) (by simp only [go_sem]) (by simp only [go_sem]) (by simp only [go_sem]) ?_
 simp only [go_sem,ay e5]
 refine aw (kp) (by simp only [go_sem]) (by simp only [go_sem]) (by simp only [go_sem]) (by simp only [go_sem]) (by simp only [go_sem]) (by simp only [go_sem]) ?_
 simp only [go_sem]
 by_cases e3:C.top.k=4
 rotate_left
 ·rw [ar (fun q=>e3 q.1)]
  simp only [go_sem,ab e3]
  refine aD (kq) (by simp only [go_sem]) (by simp only [go_sem]) (by simp only [go_sem]) (by simp only [go_sem]) ?_
  simp only [go_sem]
  exact aG [] _ (dv { C with s:=S1.push C.top.t.rs,bs:=C.bs.dropLast,lv:=C.top.lv }) ⟨rfl,rfl⟩
 cases e4:C.top.ot
 rotate_left
 ·rw [ar (fun q=>by cases q.2.1)]
  simp only [go_sem,aF e3]
  refine aD (kq) (by simp only [go_sem]) (by simp only [go_sem]) (by simp only [go_sem]) (by simp only [go_sem]) ?_
  simp only [go_sem]
  exact aG [] _ (dv { C with s:=S1.push C.top.t.rs,bs:=C.bs.dropLast,lv:=C.top.lv }) ⟨rfl,rfl⟩
 simp only [go_sem,aF e3]
 refine aa (kv) ?_
 by_cases e6:C.top.t.ps=C.top.t.rs
 ·rw [ar (fun q=>q.2 e6)]
  simp only [go_sem,bH e6]
  refine aD (kq) (by simp only [go_sem]) (by simp only [go_sem]) (by simp only [go_sem]) (by simp only [go_sem]) ?_
  simp only [go_sem]
  exact aG [] _ (dv { C with s:=S1.push C.top.t.rs,bs:=C.bs.dropLast,lv:=C.top.lv }) ⟨rfl,rfl⟩
 ·rw [av ⟨e3,e6⟩]
  simp only [go_sem,bF e6]
  refine aw (kb) (by simp only [go_sem]) (by simp only [go_sem]) (by simp only [go_sem]) (by simp only [go_sem]) (by simp only [go_sem]) (by simp only [go_sem]) ?_
  simp only [go_sem]
  exact done [] _ (dv (({ C with s:=S1,bs:=C.bs.dropLast }:Ct).broke 12).2) (by simp only [go_sem,Ct.broke]) (by simp only [go_sem,Ct.broke]) rfl ⟨rfl,rfl⟩
theorem yh (C:Ct) (h:yB 800000 C):xN afd [] C (.tup []) C.dead:=by
 refine aB (ic:=Hg.body) ap adj rfl rfl ?_
 have hu:=h.u
 have hl:=h.l
 unfold Ct.dead
 have kl:=O7 C.s (by omega) (by omega)
 by_cases e1:C.br=0
 rotate_left
 ·rw [av (.inl e1)]
  simp only [go_sem,Hg]
  refine aw (bZ C) (by simp only [go_sem]) (by simp only [go_sem]) (by simp only [go_sem]) (by simp only [go_sem]) (by simp only [go_sem]) (by simp only [go_sem]) ?_
  simp only [go_sem,aK e1]
  exact aG [] _ (dv C) ⟨rfl,rfl⟩
 by_cases e2:C.bs.length=0
 ·rw [av (.inr e2)]
  simp only [go_sem,Hg]
  refine aw (bZ C) (by simp only [go_sem]) (by simp only [go_sem]) (by simp only [go_sem]) (by simp only [go_sem]) (by simp only [go_sem]) (by simp only [go_sem]) ?_
  simp only [go_sem,ay e1,aF (show (C.bs.length:Int)=0 by omega)]
  exact aG [] _ (dv C) ⟨rfl,rfl⟩
 rw [ar (by rintro (q | q);exact q e1;exact e2 q)]
 simp only [go_sem,Hg]
 refine aw (bZ C) (by simp only [go_sem]) (by simp only [go_sem]) (by simp only [go_sem]) (by simp only [go_sem]) (by simp only [go_sem]) (by simp only [go_sem]) ?_
 simp only [go_sem,ay e1,ab (show ¬(C.bs.length:Int)=0 by omega)]
 refine aD (kl) (by simp only [go_sem]) (by simp only [go_sem]) (by simp only [go_sem]) (by simp only [go_sem]) ?_
 simp only [go_sem]
 exact nn [] _ (dv { C with s:=C.s.loose,lv:=false }) ⟨rfl,rfl⟩
theorem O5 (hLeft:dd) (C:Ct) (h:yB 800000 C) (op:Int) (t:Ft) (ht:t.ps.length≤1000∧t.rs.length≤1000):xN aeW [.int .i64 op,.agg (jp t)] C (.int .i64 (C.enter op t).1) (C.enter op t).2:=by
 refine aB (ic:=zd.body) ap acX rfl rfl ?_
 have hu:=h.u
 have hl:=h.l
 have hb:=h.b
 obtain ⟨ht1,ht2⟩:=ht
 unfold Ct.enter
 by_cases e1:C.br=0
 rotate_left
 ·rw [av e1]
  simp only [go_sem,zd]
  refine aw (bZ C) (by simp only [go_sem]) (by simp only [go_sem]) (by simp only [go_sem]) (by simp only [go_sem]) (by simp only [go_sem]) (by simp only [go_sem]) ?_
  simp only [go_sem,aK e1]
  exact aG [] _ (dv C) ⟨rfl,rfl⟩
 rw [ar (fun q=>q e1)]
 by_cases e2:op=2∨op=3∨op=4
 rotate_left
 ·have n2:¬op=2:=fun q=>e2 (.inl q)
  have n3:¬op=3:=fun q=>e2 (.inr (.inl q))
  have n4:¬op=4:=fun q=>e2 (.inr (.inr q))
  rw [av ⟨n2,n3,n4⟩]
  simp only [go_sem,zd]
  refine aw (bZ C) (by simp only [go_sem]) (by simp only [go_sem]) (by simp only [go_sem]) (by simp only [go_sem]) (by simp only [go_sem]) (by simp only [go_sem]) ?_
  simp only [go_sem,ay e1,aK n2,aK n3,aK n4]
  exact aG [] _ (dv C) ⟨rfl,rfl⟩
 rw [ar (by rintro ⟨n2,n3,n4⟩;rcases e2 with q | q | q;exact n2 q;exact n3 q;exact n4 q)]
 by_cases e3:C.bs.length=0
 ·rw [av e3]
  rcases e2 with rfl | rfl | rfl
  all_goals
   simp only [go_sem,zd]
   refine aw (bZ C) (by simp only [go_sem]) (by simp only [go_sem]) (by simp only [go_sem]) (by simp only [go_sem]) (by simp only [go_sem]) (by simp only [go_sem]) ?_
   simp only [go_sem,ay e1,aF (show (C.bs.length:Int)=0 by omega)]
   exact aG [] _ (dv C) ⟨rfl,rfl⟩
 rw [ar e3]
 have e3':¬(C.bs.length:Int)=0:=by omega
 rcases e2 with rfl | rfl | rfl
 rotate_left 2
 ·have kw:=jf C.s [1] (hLeft _ _ (by omega) (by omega) (by simp))
  obtain ⟨b1,b2⟩:=d_ C.s [1]
  generalize C.s.want [1]=R at kw b1 b2 ⊢
  obtain ⟨e,S1⟩:=R
  dsimp only at kw b1 b2 ⊢
  rw [av rfl]
  by_cases e5:e=0
  rotate_left
  ·rw [av e5]
   have kb:=jR { C with s:=S1 } e
   simp only [go_sem,zd]
   refine aw (bZ C) (by simp only [go_sem]) (by simp only [go_sem]) (by simp only [go_sem]) (by simp only [go_sem]) (by simp only [go_sem]) (by simp only [go_sem]) ?_
   simp only [go_sem,ay e1,ab e3']
   refine bD (dC.frzs [39] _ _) ?_
   simp only [go_sem]
   refine aD (kw) (by simp only [go_sem]) (by simp only [go_sem]) (by simp only [go_sem]) (by simp only [go_sem]) ?_
   simp only [go_sem,aK e5]
   refine aw (kb) (by simp only [go_sem]) (by simp only [go_sem]) (by simp only [go_sem]) (by simp only [go_sem]) (by simp only [go_sem]) (by simp only [go_sem]) ?_
   simp only [go_sem]
   exact done [] _ (dv (({ C with s:=S1 }:Ct).broke e).2) (by simp only [go_sem,Ct.broke]) (by simp only [go_sem,Ct.broke]) rfl ⟨rfl,rfl⟩
  rw [ar (fun q=>q e5)]
  simp only [go_sem,zd]
  refine aw (bZ C) (by simp only [go_sem]) (by simp only [go_sem]) (by simp only [go_sem]) (by simp only [go_sem]) (by simp only [go_sem]) (by simp only [go_sem]) ?_
  simp only [go_sem,ay e1,ab e3']
  refine bD (dC.frzs [39] _ _) ?_
  simp only [go_sem]
  refine aD (kw) (by simp only [go_sem]) (by simp only [go_sem]) (by simp only [go_sem]) (by simp only [go_sem]) ?_
  simp only [go_sem,ay e5]
  obtain ⟨op',hop⟩:∃o:Int,o=4:=⟨_,rfl⟩
  rw [← hop]
  have kp:=jf S1 t.ps (hLeft _ _ (by rw [b1];omega) (by omega) (by omega))
  obtain ⟨b3,b4⟩:=d_ S1 t.ps
  unfold Ct.enter2
  dsimp only
  generalize S1.want t.ps=R at kp b3 b4 ⊢
  obtain ⟨e',S2⟩:=R
  dsimp only at kp b3 b4 ⊢
  refine aD (kp) (by simp only [go_sem]) (by simp only [go_sem]) (by simp only [go_sem]) (by simp only [go_sem]) ?_
  by_cases e6:e'=0
  rotate_left
  ·rw [av e6]
   have kb':=jR { C with s:=S2 } e'
   simp only [go_sem,aK e6]
   refine aw (kb') (by simp only [go_sem]) (by simp only [go_sem]) (by simp only [go_sem]) (by simp only [go_sem]) (by simp only [go_sem]) (by simp only [go_sem]) ?_
   simp only [go_sem]
   exact done [] _ (dv (({ C with s:=S2 }:Ct).broke e').2) (by simp only [go_sem,Ct.broke]) (by simp only [go_sem,Ct.broke]) rfl ⟨rfl,rfl⟩
  rw [ar (fun q=>q e6)]
  have kg:=sE { C with s:=S2 } ⟨op',t,false,C.lv⟩ (by show S2.u.length<900000;rw [b3,b1];omega) (by show S2.all.length<900000;omega) (by show C.bs.length<900000;omega) (by show t.ps.length<900000;omega)
  simp only [js] at kg
  simp only [go_sem,ay e6]
  refine bP (jd (t.ps.map bp) (by rw [bT];omega)) (by simp [go_sem]) rfl ?_
  simp only [go_sem]
  refine aa (jd (t.rs.map bp) (by rw [bT];omega)) ?_
  simp only [go_sem]
  refine aw (kg) (by simp only [go_sem]) (by simp only [go_sem]) (by simp only [go_sem]) (by simp only [go_sem]) (by simp only [go_sem]) (by simp only [go_sem]) ?_
  simp only [go_sem]
  exact aG [] _ (dv (({ C with s:=S2 }:Ct).begin ⟨op',t,false,C.lv⟩)) ⟨rfl,rfl⟩
 all_goals
  rw [ar (by decide)]
  simp only [go_sem,zd]
  refine aw (bZ C) (by simp only [go_sem]) (by simp only [go_sem]) (by simp only [go_sem]) (by simp only [go_sem]) (by simp only [go_sem]) (by simp only [go_sem]) ?_
  simp only [go_sem,ay e1,ab e3']
  obtain ⟨S1,hS⟩:∃S1,S1=C.s:=⟨_,rfl⟩
  obtain ⟨b1,b2⟩:S1.u=C.s.u∧S1.all.length≤C.s.all.length:=by rw [hS];exact ⟨rfl,aO _⟩
  rw [← hS]
  first
   | rw [show C.enter2 2 t=({ C with s:=S1 }:Ct).enter2 2 t by rw [hS]]
     obtain ⟨op',hop⟩:∃o:Int,o=2:=⟨_,rfl⟩
     rw [← hop]
     have kp:=jf S1 t.ps (hLeft _ _ (by rw [b1];omega) (by omega) (by omega))
     obtain ⟨b3,b4⟩:=d_ S1 t.ps
     unfold Ct.enter2
     dsimp only
     generalize S1.want t.ps=R at kp b3 b4 ⊢
     obtain ⟨e',S2⟩:=R
     dsimp only at kp b3 b4 ⊢
     refine aD (kp) (by simp only [go_sem]) (by simp only [go_sem]) (by simp only [go_sem]) (by simp only [go_sem]) ?_
     by_cases e6:e'=0
     rotate_left
     ·rw [av e6]
      have kb':=jR { C with s:=S2 } e'
      simp only [go_sem,aK e6]
      refine aw (kb') (by simp only [go_sem]) (by simp only [go_sem]) (by simp only [go_sem]) (by simp only [go_sem]) (by simp only [go_sem]) (by simp only [go_sem]) ?_
      simp only [go_sem]
      exact done [] _ (dv (({ C with s:=S2 }:Ct).broke e').2) (by simp only [go_sem,Ct.broke]) (by simp only [go_sem,Ct.broke]) rfl ⟨rfl,rfl⟩
     rw [ar (fun q=>q e6)]
     have kg:=sE { C with s:=S2 } ⟨op',t,false,C.lv⟩ (by show S2.u.length<900000;rw [b3,b1];omega) (by show S2.all.length<900000;omega) (by show C.bs.length<900000;omega) (by show t.ps.length<900000;omega)
     simp only [js] at kg
     simp only [go_sem,ay e6]
     refine bP (jd (t.ps.map bp) (by rw [bT];omega)) (by simp [go_sem]) rfl ?_
     simp only [go_sem]
     refine aa (jd (t.rs.map bp) (by rw [bT];omega)) ?_
     simp only [go_sem]
     refine aw (kg) (by simp only [go_sem]) (by simp only [go_sem]) (by simp only [go_sem]) (by simp only [go_sem]) (by simp only [go_sem]) (by simp only [go_sem]) ?_
     simp only [go_sem]
     exact aG [] _ (dv (({ C with s:=S2 }:Ct).begin ⟨op',t,false,C.lv⟩)) ⟨rfl,rfl⟩
   | rw [show C.enter2 3 t=({ C with s:=S1 }:Ct).enter2 3 t by rw [hS]]
     obtain ⟨op',hop⟩:∃o:Int,o=3:=⟨_,rfl⟩
     rw [← hop]
     have kp:=jf S1 t.ps (hLeft _ _ (by rw [b1];omega) (by omega) (by omega))
     obtain ⟨b3,b4⟩:=d_ S1 t.ps
     unfold Ct.enter2
     dsimp only
     generalize S1.want t.ps=R at kp b3 b4 ⊢
     obtain ⟨e',S2⟩:=R
     dsimp only at kp b3 b4 ⊢
     refine aD (kp) (by simp only [go_sem]) (by simp only [go_sem]) (by simp only [go_sem]) (by simp only [go_sem]) ?_
     by_cases e6:e'=0
     rotate_left
     ·rw [av e6]
      have kb':=jR { C with s:=S2 } e'
      simp only [go_sem,aK e6]
      refine aw (kb') (by simp only [go_sem]) (by simp only [go_sem]) (by simp only [go_sem]) (by simp only [go_sem]) (by simp only [go_sem]) (by simp only [go_sem]) ?_
      simp only [go_sem]
      exact done [] _ (dv (({ C with s:=S2 }:Ct).broke e').2) (by simp only [go_sem,Ct.broke]) (by simp only [go_sem,Ct.broke]) rfl ⟨rfl,rfl⟩
     rw [ar (fun q=>q e6)]
     have kg:=sE { C with s:=S2 } ⟨op',t,false,C.lv⟩ (by show S2.u.length<900000;rw [b3,b1];omega) (by show S2.all.length<900000;omega) (by show C.bs.length<900000;omega) (by show t.ps.length<900000;omega)
     simp only [js] at kg
     simp only [go_sem,ay e6]
     refine bP (jd (t.ps.map bp) (by rw [bT];omega)) (by simp [go_sem]) rfl ?_
     simp only [go_sem]
     refine aa (jd (t.rs.map bp) (by rw [bT];omega)) ?_
     simp only [go_sem]
     refine aw (kg) (by simp only [go_sem]) (by simp only [go_sem]) (by simp only [go_sem]) (by simp only [go_sem]) (by simp only [go_sem]) (by simp only [go_sem]) ?_
     simp only [go_sem]
     exact aG [] _ (dv (({ C with s:=S2 }:Ct).begin ⟨op',t,false,C.lv⟩)) ⟨rfl,rfl⟩
theorem Dj (C:Ct) (h:yB 900000 C) (i:Int):xN aeX [.int .i64 i] C (.tup [.sl 1 ((C.label i).1.map bp),.int .i64 (C.label i).2]) C:=by
 refine aB (ic:=D2.body) ap acY rfl rfl ?_
 have hb:=h.b
 unfold Ct.label
 by_cases e1:C.br=0
 rotate_left
 ·rw [av e1]
  simp only [go_sem,D2]
  refine aw (bZ C) (by simp only [go_sem]) (by simp only [go_sem]) (by simp only [go_sem]) (by simp only [go_sem]) (by simp only [go_sem]) (by simp only [go_sem]) ?_
  simp only [go_sem,aK e1]
  exact k_ (Wk.nls _ 4 1 (by rfl)) [] _ (dv C) (by simp only [go_sem]) (by simp only [go_sem]) rfl ⟨rfl,rfl⟩
 rw [ar (fun q=>q e1)]
 by_cases e2:i<0
 ·rw [av (.inl e2)]
  simp only [go_sem,D2]
  refine aw (bZ C) (by simp only [go_sem]) (by simp only [go_sem]) (by simp only [go_sem]) (by simp only [go_sem]) (by simp only [go_sem]) (by simp only [go_sem]) ?_
  simp only [go_sem,ay e1,bH e2]
  exact k_ (Wk.nls _ 4 1 (by rfl)) [] _ (dv C) (by simp only [go_sem]) (by simp only [go_sem]) rfl ⟨rfl,rfl⟩
 by_cases e3:i≥C.bs.length
 ·rw [av (.inr e3)]
  simp only [go_sem,D2]
  refine aw (bZ C) (by simp only [go_sem]) (by simp only [go_sem]) (by simp only [go_sem]) (by simp only [go_sem]) (by simp only [go_sem]) (by simp only [go_sem]) ?_
  simp only [go_sem,ay e1,bF e2,bH e3]
  exact k_ (Wk.nls _ 4 1 (by rfl)) [] _ (dv C) (by simp only [go_sem]) (by simp only [go_sem]) rfl ⟨rfl,rfl⟩
 rw [ar (by omega)]
 obtain ⟨n,rfl⟩:∃n:Nat,i=(n:Int):=⟨i.toNat,by omega⟩
 have hn:n<C.bs.length:=by omega
 have w1:IntKind.i64.wrap ((C.bs.length:Int) - 1)=((C.bs.length - 1:Nat):Int):=by rw [wi (by omega) (by omega)];omega
 have w2:IntKind.i64.wrap (((C.bs.length - 1:Nat):Int) - n)=((C.bs.length - 1 - n:Nat):Int):=by rw [wi (by omega) (by omega)];omega
 rw [cZ]
 have hm:=h.t (au C.bs (C.bs.length - 1 - n)) (by rw [aX (by omega)];exact List.getElem_mem _)
 generalize hB:au C.bs (C.bs.length - 1 - n)=B at hm ⊢
 simp only [go_sem,D2]
 refine aw (bZ C) (by simp only [go_sem]) (by simp only [go_sem]) (by simp only [go_sem]) (by simp only [go_sem]) (by simp only [go_sem]) (by simp only [go_sem]) ?_
 simp only [go_sem,ay e1,bF e2,bF e3,w1,w2,cZ,Nat.zero_add,hB]
 refine ⟨⟨by omega,by omega⟩,by omega,?_⟩
 by_cases e4:B.k=3
 ·rw [av e4]
  simp only [go_sem,aF e4]
  refine aa (jd (B.t.ps.map bp) (by rw [bT];omega)) ?_
  simp only [go_sem]
  exact aG [] _ (dv C) ⟨rfl,rfl⟩
 ·rw [ar e4]
  simp only [go_sem,ab e4]
  refine aa (jd (B.t.rs.map bp) (by rw [bT];omega)) ?_
  simp only [go_sem]
  exact aG [] _ (dv C) ⟨rfl,rfl⟩
theorem T9 (C:Ct) (h:yB 900000 C):xN aeN [] C (.sl 1 (C.retn.map bp)) C:=by
 refine aB (ic:=M1.body) ap acK rfl rfl ?_
 have hr:=h.r
 unfold Ct.retn
 by_cases e1:C.br=0
 rotate_left
 ·rw [av e1]
  simp only [go_sem,M1]
  refine aw (bZ C) (by simp only [go_sem]) (by simp only [go_sem]) (by simp only [go_sem]) (by simp only [go_sem]) (by simp only [go_sem]) (by simp only [go_sem]) ?_
  simp only [go_sem,aK e1]
  exact k_ (Wk.nls _ 2 1 (by rfl)) [] _ (dv C) (by simp only [go_sem]) (by simp only [go_sem]) rfl ⟨rfl,rfl⟩
 rw [ar (fun q=>q e1)]
 simp only [go_sem,M1]
 refine aw (bZ C) (by simp only [go_sem]) (by simp only [go_sem]) (by simp only [go_sem]) (by simp only [go_sem]) (by simp only [go_sem]) (by simp only [go_sem]) ?_
 simp only [go_sem,ay e1]
 refine aa (jd (C.rs.map bp) (by rw [bT];omega)) ?_
 simp only [go_sem]
 exact aG [] _ (dv C) ⟨rfl,rfl⟩
end
section
open Go Go.Mw
theorem WT {a b c d id:Nat} (h1:id≠a) (h2:id≠b) (h3:id≠c) (h4:id≠d):bw [(a,b),(c,d)] id=id:=by simp [bw,ou,h1,h2,h3,h4]
def MW (S:Sk):List (Nat×ah):=[(902,A9 S.all.length (bR (S.t :: S.u)).length S.ov),(2001,DP S.all),(2002,DO (bR (S.t :: S.u)))]
theorem Rp (S:Sk):MW S=[(902,A9 S.all.length (bR (S.t :: S.u)).length S.ov),(2001,DP S.all),(2002,DO (bR (S.t :: S.u)))]:=rfl
def sk0:Sk:=⟨⟨[],false⟩,[],false⟩
attribute [local go_sem] bT nZ n7 n8 n6 jF tg th qg qh js aY Vd Rp
theorem T_:bu Tryz.prog aaf [] [] DM (fun r' σ'=>r' = .mp 902 3 0 0∧σ'=MW sk0):=by
 refine aB (ic:=G3.body) ap XZ rfl rfl ?_
 simp only [go_sem,G3]
 refine k_ (((Wk.new0 _ 2001 1 48 (by decide)).trans (Wk.nlm _ 4 (r:=[.nl,.ms 2 2 0 1,.bool false]) (r':=[.ms 2001 1 0 0,.ms 2 2 0 1,.bool false]) (by rfl) ⟨.inr ⟨rfl,.inr ⟨2001,1,rfl⟩⟩,.inl rfl,.inl rfl,trivial⟩)).trans (Wk.ren _ [(4,902),(2,2002)] (fun id h1 h2=>?_))) [] _ (MW sk0) ?_ ?_ rfl ⟨rfl,rfl⟩
 ·exact WT (by omega) (by omega) (by omega) (by omega)
 ·rfl
 ·exact ⟨rfl,rfl,rfl,trivial⟩
def ctQ (n:Nat) (rs:List Int) (lv:Bool) (br:Int):ah:=⟨214,5,[[.mp 902 3 0 0,.ms 2000 5 0 n,.sl 1 (rs.map bp),.bool lv,.int .i64 br]],true⟩
theorem Yl (n:Nat) (rs:List Int) (lv:Bool) (br:Int):ctQ n rs lv br =⟨214,5,[[.mp 902 3 0 0,.ms 2000 5 0 n,.sl 1 (rs.map bp),.bool lv,.int .i64 br]],true⟩:=rfl
def IE (C:Ct):List (Nat×ah):=[(901,ctQ C.bs.length C.rs C.lv C.br),(2000,QQ C.bs),(902,A9 C.s.all.length (bR (C.s.t :: C.s.u)).length C.s.ov),(2001,DP C.s.all),(2002,DO (bR (C.s.t :: C.s.u)))]
theorem Yk (C:Ct):IE C=[(901,ctQ C.bs.length C.rs C.lv C.br),(2000,QQ C.bs),(902,A9 C.s.all.length (bR (C.s.t :: C.s.u)).length C.s.ov),(2001,DP C.s.all),(2002,DO (bR (C.s.t :: C.s.u)))]:=rfl
theorem CU {f:FuncId} {rest:List AV} {S S':Sk} {r r3:AV} (h:Bd f rest S r S') {args:List AV} {d:Option Nat} {s:St} {K:St→Prop} (ha:args = .mp 902 3 0 0 :: rest) (hr:rest.map (iL (bw [(1001,902)]))=rest) (h3:iL (fw [(1001,902)]) r=r3) (h1:ae s.heap 902=some (A9 S.all.length (bR (S.t :: S.u)).length S.ov)) (h2:ae s.heap 2001=some (DP S.all)) (h3':ae s.heap 2002=some (DO (bR (S.t :: S.u))))
  (hk:K ((St.mk (fP [2001,2002] s.env) (MW S'++fQ [2001,2002] s.heap)).put d r3)):ci Tryz.prog f args d s K:=by
 subst ha
 refine eR (σ2:=MW S) (σ3:=MW S') h [(1001,902)] [2001,2002] ?_ rfl h3 rfl (fun p hp=>?_) (fun p hp=>?_) (fun p hp=>?_) hk
 ·rw [cF,hr];rfl
 ·simp only [MW,bc,List.not_mem_nil,or_false] at hp
  rcases hp with rfl | rfl | rfl
  ·exact h1
  ·exact h2
  ·exact h3'
 ·simp only [MW,bc,List.not_mem_nil,or_false] at hp
  rcases hp with rfl | rfl | rfl
  ·exact .inl ⟨⟨show 1000≤1001 by decide,show 1001<2000 by decide⟩,rfl⟩
  ·exact .inr ⟨by simp,.inr (show 2000≤2001 by decide),.inl rfl⟩
  ·exact .inr ⟨by simp,.inr (show 2000≤2002 by decide),.inl rfl⟩
 ·simp only [MW,bc,List.not_mem_nil,or_false] at hp
  rcases hp with rfl | rfl | rfl<;>rfl
theorem x4 {f:FuncId} {rest:List AV} {C C':Ct} {r r3:AV} (h:xN f rest C r C') {args:List AV} {d:Option Nat} {s:St} {K:St→Prop} (ha:args = .mp 901 5 0 0 :: rest) (hr:rest.map (iL (bw [(1000,901),(1001,902)]))=rest) (h3:iL (fw [(1000,901),(1001,902)]) r=r3) (g1:ae s.heap 901=some (ctQ C.bs.length C.rs C.lv C.br)) (g2:ae s.heap 2000=some (QQ C.bs)) (h1:ae s.heap 902=some (A9 C.s.all.length (bR (C.s.t :: C.s.u)).length C.s.ov)) (h2:ae s.heap 2001=some (DP C.s.all)) (h3':ae s.heap 2002=some (DO (bR (C.s.t :: C.s.u))))
  (hk:K ((St.mk (fP [2000,2001,2002] s.env) (IE C'++fQ [2000,2001,2002] s.heap)).put d r3)):ci Tryz.prog f args d s K:=by
 subst ha
 refine eR (σ2:=IE C) (σ3:=IE C') h [(1000,901),(1001,902)] [2000,2001,2002] ?_ rfl h3 rfl (fun p hp=>?_) (fun p hp=>?_) (fun p hp=>?_) hk
 ·rw [cF,hr];rfl
 ·simp only [IE,bc,List.not_mem_nil,or_false] at hp
  rcases hp with rfl | rfl | rfl | rfl | rfl
  ·exact g1
  ·exact g2
  ·exact h1
  ·exact h2
  ·exact h3'
 ·simp only [IE,bc,List.not_mem_nil,or_false] at hp
  rcases hp with rfl | rfl | rfl | rfl | rfl
  ·exact .inl ⟨⟨show 1000≤1000 by decide,show 1000<2000 by decide⟩,rfl⟩
  ·exact .inr ⟨by simp,.inr (show 2000≤2000 by decide),.inl rfl⟩
  ·exact .inl ⟨⟨show 1000≤1001 by decide,show 1001<2000 by decide⟩,rfl⟩
  ·exact .inr ⟨by simp,.inr (show 2000≤2001 by decide),.inl rfl⟩
  ·exact .inr ⟨by simp,.inr (show 2000≤2002 by decide),.inl rfl⟩
 ·simp only [IE,bc,List.not_mem_nil,or_false] at hp
  rcases hp with rfl | rfl | rfl | rfl | rfl<;>rfl
theorem T4 (rs:List Int) (h:rs.length≤1000):bu Tryz.prog aak [.sl 1 (rs.map bp)] [] DM (fun r' σ'=>r' = .mp 901 5 0 0∧σ'=IE (ju rs)):=by
 refine aB (ic:=G8.body) ap X6 rfl rfl ?_
 have ko:=Kg sk0 (by decide) (by decide)
 simp only [go_sem,G8]
 refine fD T_ [902,2001,2002] (fun p hp=>by cases hp) ?_ (fun p hp=>by cases hp) ?_
 ·intro p hp
  simp only [MW,bc,List.not_mem_nil,or_false] at hp
  rcases hp with rfl | rfl | rfl
  ·exact .inr ⟨by simp,.inl (show 902<1000 by decide),.inr rfl⟩
  ·exact .inr ⟨by simp,.inr (show 2000≤2001 by decide),.inr rfl⟩
  ·exact .inr ⟨by simp,.inr (show 2000≤2002 by decide),.inr rfl⟩
 simp only [go_sem]
 refine aa (jd (rs.map bp) (by rw [bT];omega)) ?_
 simp only [go_sem]
 refine CU ko rfl rfl rfl (by simp only [go_sem]) (by simp only [go_sem]) (by simp only [go_sem]) ?_
 simp only [go_sem]
 refine k_ ((Wk.nlr1 _ 21 (r:=[.int .i64 0,.nl,.sl 1 (rs.map bp),.bool false,.bool true]) (r':=[.int .i64 0,.sl 1 [],.sl 1 (rs.map bp),.bool false,.bool true]) (by rfl) ⟨.inl rfl,.inr ⟨rfl,1,rfl⟩,.inl rfl,.inl rfl,.inl rfl,trivial⟩).trans (Wk.ren _ [(8,901),(21,2000)] (fun id h1 h2=>WT (by omega) (by omega) (by omega) (by omega)))) [] _ (IE (ju rs)) ?_ ?_ rfl ⟨rfl,rfl⟩
 ·rfl
 ·exact ⟨rfl,rfl,rfl,rfl,rfl,trivial⟩
end
section
open Go Go.Mw
attribute [local go_sem] bT nZ n7 n8 n6 jF tg th qg qh js aY dB
theorem Qe (s:Sp) (x:bv) (h:uS s) (hx:DQ x):aj Tryz.prog aac [kj s,iE x] (.int .i64 (if jA x=false then 10 else 0)):=by
 refine ac (ic:=G2.body) ap XW rfl rfl ?_
 have c1:=DJ s 0 0 0 h
 have c2:=Ro x hx
 simp only [aU,aA,aY,dB,show s.blk 0 0 0=some ⟨[],[]⟩ from rfl,Option.getD_some,Option.isSome_some] at c1 c2
 simp only [go_sem,G2,aU,aA]
 refine aa (c1) ?_
 simp only [go_sem]
 refine aa (c2) ?_
 cases jA x
 ·simp only [go_sem]
  exact ak
 ·simp only [go_sem]
  exact ak
structure okS (n:Nat) (S:Sk):Prop where
 u:S.u.length≤n
 l:S.all.length≤n
theorem Kj (hLeft:dd) (S:Sk) (f:Ft) (h:okS 850000 S) (hf:f.ps.length≤10000∧f.rs.length≤10000):Bd aae [.agg (jp f)] S (.int .i64 (j_ S f).1) (j_ S f).2:=by
 refine aB (ic:=CF.body) ap XY rfl rfl ?_
 obtain ⟨hf1,hf2⟩:=hf
 have hu:=h.u
 have hl:=h.l
 have kw:=jf S f.ps (hLeft _ _ (by omega) (by omega) (by omega))
 obtain ⟨b1,b2⟩:=d_ S f.ps
 unfold j_
 generalize S.want f.ps=R at kw b1 b2 ⊢
 obtain ⟨e,S1⟩:=R
 dsimp only at kw b1 b2 ⊢
 by_cases e5:e=0
 rotate_left
 ·rw [av e5]
  simp only [go_sem,CF]
  refine aD (kw) (by simp only [go_sem]) (by simp only [go_sem]) (by simp only [go_sem]) (by simp only [go_sem]) ?_
  simp only [go_sem,aK e5]
  exact aG [] _ (gK S1) ⟨rfl,rfl⟩
 rw [ar (fun q=>q e5)]
 have kq:=mE S1 f.rs (by rw [b1];omega) (by omega) (by omega)
 simp only [go_sem,CF]
 refine aD (kw) (by simp only [go_sem]) (by simp only [go_sem]) (by simp only [go_sem]) (by simp only [go_sem]) ?_
 simp only [go_sem,ay e5]
 refine aD (kq) (by simp only [go_sem]) (by simp only [go_sem]) (by simp only [go_sem]) (by simp only [go_sem]) ?_
 simp only [go_sem]
 exact aG [] _ (gK (S1.push f.rs)) ⟨rfl,rfl⟩
theorem qq (S:Sk):S.pop.2.2.u=S.u∧S.pop.2.2.all.length≤S.all.length:=by
 obtain ⟨⟨l,lo⟩,u,ov⟩:=S
 rcases K8 l with rfl | ⟨l',x,rfl⟩
 ·rw [DE];exact ⟨rfl,aO _⟩
 ·rw [AC]
  refine ⟨rfl,?_⟩
  show (bK u++l').length≤(bK u++(l'++[x])).length
  simp only [ee];omega
theorem T8 (hLeft:dd) (S:Sk) (op:Int) (h:okS 850000 S):Bd aad [.int .i64 op] S (.int .i64 (iI S op).1) (iI S op).2:=by
 refine aB (ic:=CE.body) ap XX rfl rfl ?_
 have hu:=h.u
 have hl:=h.l
 unfold iI
 by_cases o0:op=27
 ·rw [av o0]
  have kw:=jf S [1] (hLeft _ _ (by omega) (by omega) (by simp))
  obtain ⟨b1,b2⟩:=d_ S [1]
  generalize S.want [1]=R at kw b1 b2 ⊢
  obtain ⟨e,S1⟩:=R
  dsimp only at kw b1 b2 ⊢
  simp only [go_sem,CE,aF o0]
  refine bD (dC.frzs [13] _ _) ?_
  simp only [go_sem]
  refine aD (kw) (by simp only [go_sem]) (by simp only [go_sem]) (by simp only [go_sem]) (by simp only [go_sem]) ?_
  by_cases e5:e=0
  rotate_left
  ·rw [av e5]
   simp only [go_sem,aK e5]
   exact aG [] _ (gK S1) ⟨rfl,rfl⟩
  rw [ar (fun q=>q e5)]
  simp only [go_sem,ay e5]
  have kp:=Ac S1 (by rw [b1];omega) (by omega)
  obtain ⟨b3,b4⟩:=qq S1
  unfold um
  generalize S1.pop=R at kp b3 b4 ⊢
  obtain ⟨a,e2,S2⟩:=R
  dsimp only at kp b3 b4 ⊢
  refine aD (kp) (by simp only [go_sem]) (by simp only [go_sem]) (by simp only [go_sem]) (by simp only [go_sem]) ?_
  by_cases e6:e2=0
  rotate_left
  ·rw [av e6]
   simp only [go_sem,aK e6]
   exact aG [] _ (gK S2) ⟨rfl,rfl⟩
  rw [ar (fun q=>q e6)]
  by_cases o1:op=209
  ·rw [av o1]
   by_cases a1:a=1
   ·rw [av (.inl a1)]
    simp only [go_sem,ay e6,aF o1,aF a1]
    exact aG [] _ (gK S2) ⟨rfl,rfl⟩
   by_cases a2:a=2
   ·rw [av (.inr a2)]
    simp only [go_sem,ay e6,aF o1,ab a1,aF a2]
    exact aG [] _ (gK S2) ⟨rfl,rfl⟩
   rw [ar (by rintro (q | q);exact a1 q;exact a2 q)]
   have kq:=mE S2 [1] (by rw [b3,b1];omega) (by omega) (by simp)
   simp only [go_sem,ay e6,aF o1,ab a1,ab a2]
   refine bD (dC.frzs [36] _ _) ?_
   simp only [go_sem]
   refine aD (kq) (by simp only [go_sem]) (by simp only [go_sem]) (by simp only [go_sem]) (by simp only [go_sem]) ?_
   simp only [go_sem]
   exact aG [] _ (gK (S2.push [1])) ⟨rfl,rfl⟩
  rw [ar o1]
  by_cases o2:op=27
  rotate_left
  ·rw [ar o2]
   simp only [go_sem,ay e6,ab o1,ab o2]
   exact aG [] _ (gK S2) ⟨rfl,rfl⟩
  rw [av o2]
  have kp2:=Ac S2 (by rw [b3,b1];omega) (by omega)
  obtain ⟨b5,b6⟩:=qq S2
  unfold xu
  generalize S2.pop=R at kp2 b5 b6 ⊢
  obtain ⟨b,e3,S3⟩:=R
  dsimp only at kp2 b5 b6 ⊢
  simp only [go_sem,ay e6,ab o1,aF o2]
  refine aD (kp2) (by simp only [go_sem]) (by simp only [go_sem]) (by simp only [go_sem]) (by simp only [go_sem]) ?_
  by_cases e7:e3=0
  rotate_left
  ·rw [av e7]
   simp only [go_sem,aK e7]
   exact aG [] _ (gK S3) ⟨rfl,rfl⟩
  rw [ar (fun q=>q e7)]
  have r1:=yO a
  have r2:=yO b
  have kq (t:Int):=mE S3 [t] (by rw [b5,b3,b1];omega) (by omega) (by simp)
  cases h1:AH a
  rotate_left
  ·rw [h1] at r1
   rw [av (.inl rfl)]
   simp only [go_sem,ay e7]
   refine aa (r1) ?_
   simp only [go_sem]
   exact aG [] _ (gK S3) ⟨rfl,rfl⟩
  rw [h1] at r1
  cases h2:AH b
  rotate_left
  ·rw [h2] at r2
   rw [av (.inr (.inl rfl))]
   simp only [go_sem,ay e7]
   refine aa (r1) ?_
   simp only [go_sem]
   refine aa (r2) ?_
   simp only [go_sem]
   exact aG [] _ (gK S3) ⟨rfl,rfl⟩
  rw [h2] at r2
  by_cases q1:a=b
  ·rw [ar (by rintro (q | q | q);cases q;cases q;exact q.1 q1)]
   by_cases q2:a=0
   ·rw [av q2]
    simp only [go_sem,ay e7]
    refine aa (r1) ?_
    simp only [go_sem]
    refine aa (r2) ?_
    simp only [go_sem,ay q1,aF q2]
    refine bD (dC.frzs [72] _ _) ?_
    simp only [go_sem]
    refine aD (kq b) (by simp only [go_sem]) (by simp only [go_sem]) (by simp only [go_sem]) (by simp only [go_sem]) ?_
    simp only [go_sem]
    exact aG [] _ (gK (S3.push [b])) ⟨rfl,rfl⟩
   ·rw [ar q2]
    simp only [go_sem,ay e7]
    refine aa (r1) ?_
    simp only [go_sem]
    refine aa (r2) ?_
    simp only [go_sem,ay q1,ab q2]
    refine bD (dC.frzs [72] _ _) ?_
    simp only [go_sem]
    refine aD (kq a) (by simp only [go_sem]) (by simp only [go_sem]) (by simp only [go_sem]) (by simp only [go_sem]) ?_
    simp only [go_sem]
    exact aG [] _ (gK (S3.push [a])) ⟨rfl,rfl⟩
  by_cases q2:a=0
  ·rw [ar (by rintro (q | q | q);cases q;cases q;exact q.2.1 q2),av q2]
   simp only [go_sem,ay e7]
   refine aa (r1) ?_
   simp only [go_sem]
   refine aa (r2) ?_
   simp only [go_sem,aK q1,ay q2,aF q2]
   refine bD (dC.frzs [72] _ _) ?_
   simp only [go_sem]
   refine aD (kq b) (by simp only [go_sem]) (by simp only [go_sem]) (by simp only [go_sem]) (by simp only [go_sem]) ?_
   simp only [go_sem]
   exact aG [] _ (gK (S3.push [b])) ⟨rfl,rfl⟩
  by_cases q3:b=0
  ·rw [ar (by rintro (q | q | q);cases q;cases q;exact q.2.2 q3),ar q2]
   simp only [go_sem,ay e7]
   refine aa (r1) ?_
   simp only [go_sem]
   refine aa (r2) ?_
   simp only [go_sem,aK q1,aK q2,ay q3,ab q2]
   refine bD (dC.frzs [72] _ _) ?_
   simp only [go_sem]
   refine aD (kq a) (by simp only [go_sem]) (by simp only [go_sem]) (by simp only [go_sem]) (by simp only [go_sem]) ?_
   simp only [go_sem]
   exact aG [] _ (gK (S3.push [a])) ⟨rfl,rfl⟩
  rw [av (.inr (.inr ⟨q1,q2,q3⟩))]
  simp only [go_sem,ay e7]
  refine aa (r1) ?_
  simp only [go_sem]
  refine aa (r2) ?_
  simp only [go_sem,aK q1,aK q2,aK q3]
  exact aG [] _ (gK S3) ⟨rfl,rfl⟩
 ·rw [ar o0]
  simp only [go_sem,CE,ab o0]
  obtain ⟨S1,hS⟩:∃S1,S1=S:=⟨_,rfl⟩
  rw [← hS]
  have b1:S1.u=S.u:=by rw [hS]
  have b2:S1.all.length≤S.all.length:=by rw [hS];exact aO _
  have kp:=Ac S1 (by rw [b1];omega) (by omega)
  obtain ⟨b3,b4⟩:=qq S1
  unfold um
  generalize S1.pop=R at kp b3 b4 ⊢
  obtain ⟨a,e2,S2⟩:=R
  dsimp only at kp b3 b4 ⊢
  refine aD (kp) (by simp only [go_sem]) (by simp only [go_sem]) (by simp only [go_sem]) (by simp only [go_sem]) ?_
  by_cases e6:e2=0
  rotate_left
  ·rw [av e6]
   simp only [go_sem,aK e6]
   exact aG [] _ (gK S2) ⟨rfl,rfl⟩
  rw [ar (fun q=>q e6)]
  by_cases o1:op=209
  ·rw [av o1]
   by_cases a1:a=1
   ·rw [av (.inl a1)]
    simp only [go_sem,ay e6,aF o1,aF a1]
    exact aG [] _ (gK S2) ⟨rfl,rfl⟩
   by_cases a2:a=2
   ·rw [av (.inr a2)]
    simp only [go_sem,ay e6,aF o1,ab a1,aF a2]
    exact aG [] _ (gK S2) ⟨rfl,rfl⟩
   rw [ar (by rintro (q | q);exact a1 q;exact a2 q)]
   have kq:=mE S2 [1] (by rw [b3,b1];omega) (by omega) (by simp)
   simp only [go_sem,ay e6,aF o1,ab a1,ab a2]
   refine bD (dC.frzs [36] _ _) ?_
   simp only [go_sem]
   refine aD (kq) (by simp only [go_sem]) (by simp only [go_sem]) (by simp only [go_sem]) (by simp only [go_sem]) ?_
   simp only [go_sem]
   exact aG [] _ (gK (S2.push [1])) ⟨rfl,rfl⟩
  rw [ar o1]
  by_cases o2:op=27
  rotate_left
  ·rw [ar o2]
   simp only [go_sem,ay e6,ab o1,ab o2]
   exact aG [] _ (gK S2) ⟨rfl,rfl⟩
  rw [av o2]
  have kp2:=Ac S2 (by rw [b3,b1];omega) (by omega)
  obtain ⟨b5,b6⟩:=qq S2
  unfold xu
  generalize S2.pop=R at kp2 b5 b6 ⊢
  obtain ⟨b,e3,S3⟩:=R
  dsimp only at kp2 b5 b6 ⊢
  simp only [go_sem,ay e6,ab o1,aF o2]
  refine aD (kp2) (by simp only [go_sem]) (by simp only [go_sem]) (by simp only [go_sem]) (by simp only [go_sem]) ?_
  by_cases e7:e3=0
  rotate_left
  ·rw [av e7]
   simp only [go_sem,aK e7]
   exact aG [] _ (gK S3) ⟨rfl,rfl⟩
  rw [ar (fun q=>q e7)]
  have r1:=yO a
  have r2:=yO b
  have kq (t:Int):=mE S3 [t] (by rw [b5,b3,b1];omega) (by omega) (by simp)
  cases h1:AH a
  rotate_left
  ·rw [h1] at r1
   rw [av (.inl rfl)]
   simp only [go_sem,ay e7]
   refine aa (r1) ?_
   simp only [go_sem]
   exact aG [] _ (gK S3) ⟨rfl,rfl⟩
  rw [h1] at r1
  cases h2:AH b
  rotate_left
  ·rw [h2] at r2
   rw [av (.inr (.inl rfl))]
   simp only [go_sem,ay e7]
   refine aa (r1) ?_
   simp only [go_sem]
   refine aa (r2) ?_
   simp only [go_sem]
   exact aG [] _ (gK S3) ⟨rfl,rfl⟩
  rw [h2] at r2
  by_cases q1:a=b
  ·rw [ar (by rintro (q | q | q);cases q;cases q;exact q.1 q1)]
   by_cases q2:a=0
   ·rw [av q2]
    simp only [go_sem,ay e7]
    refine aa (r1) ?_
    simp only [go_sem]
    refine aa (r2) ?_
    simp only [go_sem,ay q1,aF q2]
    refine bD (dC.frzs [72] _ _) ?_
    simp only [go_sem]
    refine aD (kq b) (by simp only [go_sem]) (by simp only [go_sem]) (by simp only [go_sem]) (by simp only [go_sem]) ?_
    simp only [go_sem]
    exact aG [] _ (gK (S3.push [b])) ⟨rfl,rfl⟩
   ·rw [ar q2]
    simp only [go_sem,ay e7]
    refine aa (r1) ?_
    simp only [go_sem]
    refine aa (r2) ?_
    simp only [go_sem,ay q1,ab q2]
    refine bD (dC.frzs [72] _ _) ?_
    simp only [go_sem]
    refine aD (kq a) (by simp only [go_sem]) (by simp only [go_sem]) (by simp only [go_sem]) (by simp only [go_sem]) ?_
    simp only [go_sem]
    exact aG [] _ (gK (S3.push [a])) ⟨rfl,rfl⟩
  by_cases q2:a=0
  ·rw [ar (by rintro (q | q | q);cases q;cases q;exact q.2.1 q2),av q2]
   simp only [go_sem,ay e7]
   refine aa (r1) ?_
   simp only [go_sem]
   refine aa (r2) ?_
   simp only [go_sem,aK q1,ay q2,aF q2]
   refine bD (dC.frzs [72] _ _) ?_
   simp only [go_sem]
   refine aD (kq b) (by simp only [go_sem]) (by simp only [go_sem]) (by simp only [go_sem]) (by simp only [go_sem]) ?_
   simp only [go_sem]
   exact aG [] _ (gK (S3.push [b])) ⟨rfl,rfl⟩
  by_cases q3:b=0
  ·rw [ar (by rintro (q | q | q);cases q;cases q;exact q.2.2 q3),ar q2]
   simp only [go_sem,ay e7]
   refine aa (r1) ?_
   simp only [go_sem]
   refine aa (r2) ?_
   simp only [go_sem,aK q1,aK q2,ay q3,ab q2]
   refine bD (dC.frzs [72] _ _) ?_
   simp only [go_sem]
   refine aD (kq a) (by simp only [go_sem]) (by simp only [go_sem]) (by simp only [go_sem]) (by simp only [go_sem]) ?_
   simp only [go_sem]
   exact aG [] _ (gK (S3.push [a])) ⟨rfl,rfl⟩
  rw [av (.inr (.inr ⟨q1,q2,q3⟩))]
  simp only [go_sem,ay e7]
  refine aa (r1) ?_
  simp only [go_sem]
  refine aa (r2) ?_
  simp only [go_sem,aK q1,aK q2,aK q3]
  exact aG [] _ (gK S3) ⟨rfl,rfl⟩
end
section
open Go Go.Mw
def Pr (l:List Int):List AV:=[.sl 1 (l.map bp)]
theorem Ur (l:List Int):Pr l=[.sl 1 (l.map bp)]:=rfl
theorem Do {C:Ct} (h:yB 900000 C) (i:Int):(C.label i).1.length≤1000:=by
 unfold Ct.label
 split
 ·exact ef _
 split
 ·exact ef _
 rename_i h1 h2
 have hm:=h.t (au C.bs (C.bs.length - 1 - i.toNat)) (by rw [aX (by omega)];exact List.getElem_mem _)
 split
 ·exact hm.1
 ·exact hm.2
theorem P7 (C:Ct) {l:List Int} {j:Nat} (h:j<l.length):dH C (l.drop j)=if (C.label (au l j)).2≠0 then ([],(C.label (au l j)).2) else if (dH C (l.drop (j+1))).2≠0 then dH C (l.drop (j+1)) else ((C.label (au l j)).1 :: (dH C (l.drop (j+1))).1,0):=by
 rw [fc h,dH]
theorem Vc {n:Nat} (h0:0<n) (h:n<1000000000):IntKind.i64.wrap ((n:Int) - 1)=((n - 1:Nat):Int):=by rw [wi (by omega) (by omega)];omega
theorem EO (a b:Int) (p l:List Int):j7 (a :: p) (b :: l)=((a==0||a==b)&&j7 p l):=rfl
attribute [local go_sem] bT nZ n7 n8 n6 jF tg th qg qh js aY dB Ur
theorem O8 (hLeft:dd) (C:Ct) (x:bv) (h:yB 850000 C) (hl:x.lb.length≤1000):xN ZZ [iE x] C (.int .i64 (jX C x).1) (jX C x).2:=by
 refine aB (ic:=GS.body) ap XG rfl rfl ?_
 have ha:=eQ 24 3 1 x.lb.length bp x.lb [[.int .i64 x.a]] rfl
 obtain ⟨L,hL⟩:∃L,x.lb++[x.a]=L:=⟨_,rfl⟩
 have hLl:L.length=x.lb.length+1:=by rw [← hL];simp
 have et:(x.lb.map bp++[[AV.int .i64 x.a]])=L.map bp:=by rw [← hL];simp [bp]
 obtain ⟨T,hT⟩:∃T,jX C x=T:=⟨_,rfl⟩
 rw [hT]
 unfold jX at hT
 rw [hL] at hT
 simp only [go_sem,GS]
 refine zZ ?_
 simp only [go_sem,aO,gR,ha,kT,et]
 refine ⟨by omega,by omega,?_⟩
 obtain ⟨G,hG⟩:∃G,dH C L=G:=⟨_,rfl⟩
 rw [hG] at hT
 refine aJ (fun q:Nat×List (List Int)=>⟨[(30,.int .i64 q.1),(29,.int .i64 L.length),(28,.sl 1 (L.map bp)),(5,.ms 900 1 0 q.2.length),(3,.mp 3 9 0 0),(0,.mp 1000 5 0 0)],dv C++[(900,⟨57,1,q.2.map Pr,false⟩)]⟩)
  (fun q=>q.1≤L.length∧q.2.length=q.1∧(∀l∈q.2,l.length≤1000)∧G=if (dH C (L.drop q.1)).2≠0 then dH C (L.drop q.1) else (q.2++(dH C (L.drop q.1)).1,0)) (fun q=>L.length - q.1) (0,[]) ⟨ef _,rfl,(fun l hl=>by cases hl),?_⟩ ((Wk.nil _ 5 900 1 57 (by simp only [go_sem]) (by decide)).trans (Wk.frz_of [24] ?_ ?_)) ?_
 ·rw [List.drop_zero,hG]
  split
  ·rfl
  ·rename_i hh
   have hh:G.2=0:=Decidable.of_not_not hh
   rw [e_,← hh]
 ·simp only [go_sem,St.mknil,hLl,aO,gR,List.drop_zero,Nat.zero_add,iw,fZ]
  try (rw [show x.lb.length+1=L.length from hLl.symm,gR];trivial)
 ·simp only [go_sem,St.mknil];try rfl
 rintro ⟨j,R⟩ ⟨hj,hR,hRb,hx⟩
 dsimp only at hj hR hRb hx
 by_cases h1:(j:Int)<(L.length:Int)
 ·have hj':j<L.length:=by omega
  have e8:=ep hj' (by omega)
  rw [P7 C hj'] at hx
  have kl:=Dj C ⟨by have:=h.u;omega,by have:=h.l;omega,by have:=h.b;omega,h.r,h.t⟩ (au L j)
  have lb:=Do (C:=C) ⟨by have:=h.u;omega,by have:=h.l;omega,by have:=h.b;omega,h.r,h.t⟩ (au L j)
  generalize C.label (au L j)=Q at kl hx lb
  obtain ⟨l,e⟩:=Q
  dsimp only at kl hx lb
  by_cases h2:e=0
  rotate_left
  ·rw [av h2] at hx
   simp only at hx
   rw [av h2] at hx
   subst hx
   dsimp only at hT
   rw [av h2] at hT
   subst hT
   simp only [go_sem,bH h1]
   refine ⟨by omega,h1,?_⟩
   refine aw (kl) (by simp only [go_sem]) (by simp only [go_sem]) (by simp only [go_sem]) (by simp only [go_sem]) (by simp only [go_sem]) (by simp only [go_sem]) ?_
   simp only [go_sem,aK h2]
   exact aG [] _ (dv C) ⟨rfl,rfl⟩
  have ha2:=eQ 900 57 1 R.length Pr R [Pr l] rfl
  rw [Ur] at ha2
  simp only [go_sem,bH h1]
  refine ⟨by omega,h1,?_⟩
  refine aw (kl) (by simp only [go_sem]) (by simp only [go_sem]) (by simp only [go_sem]) (by simp only [go_sem]) (by simp only [go_sem]) (by simp only [go_sem]) ?_
  simp only [go_sem,ay h2,ha2,kT]
  refine ⟨by omega,?_⟩
  refine bA (j+1,R++[l]) ⟨show j+1≤L.length by omega,by simp [hR],?_,?_⟩ (show L.length - (j+1)<L.length - j by omega) (Wk.of ?_ ?_)
  ·intro l' hl'
   rcases dL.1 hl' with q | q
   ·exact hRb l' q
   ·rw [du.1 q];exact lb
  ·rw [hx]
   simp only [h2]
   by_cases h3:(dH C (L.drop (j+1))).2=0
   ·simp [h3]
   ·simp [h3]
  ·simp only [go_sem,e8];try simp
  ·simp only [go_sem];try simp [Ur]
 have hend:j=L.length:=by omega
 rw [hend,bY (aO _)] at hx
 have hx:G=(R,0):=by rw [hx];simp [dH]
 subst hx
 have hR0:R.length=L.length:=by rw [hR,hend]
 dsimp only at hT
 rw [ar (by simp)] at hT
 have hw:=Vc (n:=R.length) (by omega) (by omega)
 have hlast:(au R (R.length - 1)).length≤1000:=hRb _ (by rw [aX (by omega)];exact List.getElem_mem _)
 obtain ⟨la,hla⟩:∃la,au R (R.length - 1)=la:=⟨_,rfl⟩
 rw [hla] at hT hlast
 simp only [go_sem,bF h1,hw,cZ,Nat.zero_add,hla]
 refine ⟨⟨by omega,by omega⟩,by omega,?_⟩
 refine aJ (fun q:Nat=>⟨[(56,.int .i64 q),(55,.int .i64 R.length),(54,.sl 1 (R.map Pr)),(10,.sl 1 (la.map bp)),(5,.sl 1 (R.map Pr)),(0,.mp 1000 5 0 0)],dv C⟩)
  (fun q=>q≤R.length∧(R.all fun l=>l.length==la.length)=((R.drop q).all fun l=>l.length==la.length)) (fun q=>R.length - q) 0 ⟨ef _,rfl⟩ (Wk.frz_of [900] ?_ ?_) ?_
 ·simp only [go_sem,aO,gR,List.drop_zero,Nat.zero_add];try simp
 ·simp only [go_sem];try rfl
 intro j2 hh
 obtain ⟨hj2,hx2⟩:j2≤R.length∧(R.all fun l=>l.length==la.length)=((R.drop j2).all fun l=>l.length==la.length):=hh
 by_cases h2:(j2:Int)<(R.length:Int)
 ·have hj2':j2<R.length:=by omega
  have e8:=ep hj2' (by omega)
  rw [fc hj2',List.all_cons] at hx2
  have hrb:(au R j2).length≤1000:=hRb _ (by rw [aX hj2'];exact List.getElem_mem _)
  by_cases h3:(au R j2).length=la.length
  ·rw [show ((au R j2).length==la.length)=true from beq_iff_eq.2 h3,fV] at hx2
   have h3':((au R j2).length:Int)=(la.length:Int):=by omega
   simp only [go_sem,bH h2,ay h3']
   refine ⟨by omega,h2,?_⟩
   refine bA (j2+1) ⟨show j2+1≤R.length by omega,hx2⟩ (show R.length - (j2+1)<R.length - j2 by omega) (Wk.of ?_ ?_)
   ·simp only [go_sem,e8];try simp
   ·simp only [go_sem];try simp
  ·rw [show ((au R j2).length==la.length)=false from QD.2 h3,gp] at hx2
   have h3':¬((au R j2).length:Int)=(la.length:Int):=by omega
   rw [av hx2] at hT
   subst hT
   simp only [go_sem,bH h2,aK h3']
   refine ⟨by omega,h2,?_⟩
   exact aG [] _ (dv C) ⟨rfl,rfl⟩
 have hend2:j2=R.length:=by omega
 rw [hend2,bY (aO _)] at hx2
 have hall:(R.all fun l=>l.length==la.length)=true:=hx2
 rw [ar (by rw [hall];decide)] at hT
 have kw:=jf C.s [1] (hLeft _ _ (by have:=h.u;omega) (by have:=h.l;omega) (by simp))
 obtain ⟨b1,b2⟩:=d_ C.s [1]
 have hu:=h.u
 have hlC:=h.l
 generalize C.s.want [1]=Q at kw b1 b2 hT
 obtain ⟨e,S1⟩:=Q
 dsimp only at kw b1 b2 hT
 simp only [go_sem,bF h2]
 refine aw (cL C) (by simp only [go_sem]) (by simp only [go_sem]) (by simp only [go_sem]) (by simp only [go_sem]) (by simp only [go_sem]) (by simp only [go_sem]) ?_
 simp only [go_sem]
 refine bD (dC.frzs [68] _ _) ?_
 simp only [go_sem]
 refine aD (kw) (by simp only [go_sem]) (by simp only [go_sem]) (by simp only [go_sem]) (by simp only [go_sem]) ?_
 by_cases e5:e=0
 rotate_left
 ·rw [av e5] at hT
  subst hT
  simp only [go_sem,aK e5]
  exact aG [] _ (dv { C with s:=S1 }) ⟨rfl,rfl⟩
 rw [ar (fun q=>q e5)] at hT
 simp only [go_sem,ay e5]
 refine ⟨⟨by omega,by omega,by omega⟩,?_⟩
 have w0:IntKind.i64.wrap ((la.length:Int) - 1)=(la.length:Int) - 1:=wi (by omega) (by omega)
 refine aJ (fun q:Nat×List Int×Sk=>⟨[(15,.int .i64 ((q.1:Int) - 1)),(14,.ms 75 1 0 la.length),(10,.sl 1 (la.map bp)),(5,.sl 1 (R.map Pr)),(0,.mp 1000 5 0 0)],dv { C with s:=q.2.2 }++[(75,⟨48,1,(List.replicate q.1 0++q.2.1).map bp,false⟩)]⟩)
  (fun q=>q.1+q.2.1.length=la.length∧q.2.2.u=S1.u∧q.2.2.all.length≤S1.all.length∧lQ la.length S1 []=lQ q.1 q.2.2 q.2.1) (fun q=>q.1) (la.length,[],S1) ⟨rfl,rfl,aO _,rfl⟩ (Wk.of ?_ ?_) ?_
 ·simp only [go_sem,w0];try simp
 ·simp only [go_sem];try simp [bp]
 rintro ⟨m,l,S⟩ ⟨hm,hSu,hSl,hP⟩
 dsimp only at hm hSu hSl hP
 cases m with
 | succ m =>
  have h6:((m+1:Nat):Int) - 1≥0:=by omega
  have qA:=cL { C with s:=S }
  have kp:=Ac S (by rw [hSu,b1];omega) (by omega)
  obtain ⟨b3,b4⟩:=qq S
  rw [lQ] at hP
  generalize S.pop=Q at kp b3 b4 hP
  obtain ⟨t,e6,S2⟩:=Q
  dsimp only at kp b3 b4 hP
  by_cases e7:e6=0
  rotate_left
  ·rw [av e7] at hP
   rw [hP,av e7] at hT
   subst hT
   simp only [go_sem,bH h6]
   refine aw (qA) (by simp only [go_sem]) (by simp only [go_sem]) (by simp only [go_sem]) (by simp only [go_sem]) (by simp only [go_sem]) (by simp only [go_sem]) ?_
   simp only [go_sem]
   refine aD (kp) (by simp only [go_sem]) (by simp only [go_sem]) (by simp only [go_sem]) (by simp only [go_sem]) ?_
   simp only [go_sem,aK e7]
   exact aG [] _ (dv { C with s:=S2 }) ⟨rfl,rfl⟩
  rw [ar (fun q=>q e7)] at hP
  have w1:((m+1:Nat):Int) - 1=(m:Int):=by omega
  have w2:IntKind.i64.wrap ((m:Int) - 1)=(m:Int) - 1:=wi (by omega) (by omega)
  rw [w1] at h6 ⊢
  simp only [go_sem,bH h6]
  refine aw (qA) (by simp only [go_sem]) (by simp only [go_sem]) (by simp only [go_sem]) (by simp only [go_sem]) (by simp only [go_sem]) (by simp only [go_sem]) ?_
  simp only [go_sem]
  refine aD (kp) (by simp only [go_sem]) (by simp only [go_sem]) (by simp only [go_sem]) (by simp only [go_sem]) ?_
  have hs:sO 75 1 1 m 0 (some ⟨48,1,(List.replicate (m+1) 0++l).map bp,false⟩) (some [.int .i64 t])=if m<(List.replicate (m+1) 0++l).length then some (.put 75 ⟨48,1,((List.replicate (m+1) 0++l).set m t).map bp,false⟩) else none:=n9 75 1 1 m 48 bp _ t (fun _=>rfl) rfl
  have hset:(List.replicate (m+1) (0:Int)++l).set m t=List.replicate m 0++(t :: l):=by
   rw [List.replicate_succ',oe,List.set_append_right _ _ (by simp)]
   simp
  rw [hset] at hs
  have hlen:(List.replicate (m+1) (0:Int)++l).length=m+1+l.length:=by simp
  simp only [go_sem,ay e7,cZ,Nat.zero_add,hs,hlen,w2]
  refine ⟨⟨by omega,by omega⟩,by omega,?_⟩
  refine bA (m,t :: l,S2) ⟨show m+(l.length+1)=la.length by omega,show S2.u=S1.u by rw [b3,hSu],show S2.all.length≤S1.all.length by omega,hP⟩ (show m<m+1 by omega) (Wk.of ?_ ?_)
  ·simp only [go_sem];try simp
  ·simp only [go_sem];try simp
 | zero =>
  have h6:¬(((0:Nat):Int) - 1≥0):=by omega
  have hml:l.length=la.length:=by omega
  rw [lQ] at hP
  rw [hP] at hT
  dsimp only at hT
  rw [ar (fun q=>q rfl)] at hT
  simp only [go_sem,bF h6,List.replicate_zero,e_]
  refine aJ (fun q:Nat=>⟨[(98,.int .i64 q),(97,.int .i64 R.length),(96,.sl 1 (R.map Pr)),(14,.sl 1 (l.map bp)),(0,.mp 1000 5 0 0)],dv { C with s:=S }⟩)
   (fun q=>q≤R.length∧(R.all fun r=>j7 l r)=((R.drop q).all fun r=>j7 l r)) (fun q=>R.length - q) 0 ⟨ef _,rfl⟩ (Wk.frz_of [75] ?_ ?_) ?_
  ·simp only [go_sem,← hml,aO,gR,List.drop_zero,Nat.zero_add];try simp
  ·simp only [go_sem];try rfl
  intro q hh
  obtain ⟨hq,hx3⟩:q≤R.length∧(R.all fun r=>j7 l r)=((R.drop q).all fun r=>j7 l r):=hh
  by_cases h7:(q:Int)<(R.length:Int)
  ·have hq':q<R.length:=by omega
   have e8:=ep hq' (by omega)
   rw [fc hq',List.all_cons] at hx3
   have hrl:(au R q).length=l.length:=by
    have:=eA.1 hall (au R q) (by rw [aX hq'];exact List.getElem_mem _)
    rw [hml];exact beq_iff_eq.1 this
   obtain ⟨rw1,hrw⟩:∃r,au R q=r:=⟨_,rfl⟩
   rw [hrw] at hx3 hrl
   simp only [go_sem,bH h7,hrw]
   refine ⟨by omega,h7,?_⟩
   refine aJ (fun p:Nat=>⟨[(104,.int .i64 p),(103,.int .i64 rw1.length),(102,.sl 1 (rw1.map bp)),(98,.int .i64 q),(97,.int .i64 R.length),(96,.sl 1 (R.map Pr)),(14,.sl 1 (l.map bp)),(0,.mp 1000 5 0 0)],dv { C with s:=S }⟩)
    (fun p=>p≤rw1.length∧j7 l rw1=j7 (l.drop p) (rw1.drop p)) (fun p=>rw1.length - p) 0 ⟨ef _,rfl⟩ (Wk.of ?_ ?_) ?_
   ·simp only [go_sem];try simp
   ·simp only [go_sem];try rfl
   intro p hh
   obtain ⟨hp,hx4⟩:p≤rw1.length∧j7 l rw1=j7 (l.drop p) (rw1.drop p):=hh
   by_cases h8:(p:Int)<(rw1.length:Int)
   ·have hp':p<rw1.length:=by omega
    have e9:=ep hp' (by omega)
    rw [fc hp',fc (l:=l) (by omega),EO] at hx4
    have h9:(p:Int)<(l.length:Int):=by omega
    by_cases g1:au l p=0
    ·rw [aF g1,vM,fV] at hx4
     simp only [go_sem,bH h8,ay g1]
     refine ⟨by omega,h8,by omega,h9,?_⟩
     refine bA (p+1) ⟨show p+1≤rw1.length by omega,hx4⟩ (show rw1.length - (p+1)<rw1.length - p by omega) (Wk.of ?_ ?_)
     ·simp only [go_sem,e9];try simp
     ·simp only [go_sem];try rfl
    by_cases g2:au l p=au rw1 p
    ·rw [aF g2,Bool.or_true,fV] at hx4
     simp only [go_sem,bH h8,aK g1]
     refine ⟨by omega,h8,by omega,h9,by omega,h9,?_⟩
     simp only [go_sem,ay g2]
     refine bA (p+1) ⟨show p+1≤rw1.length by omega,hx4⟩ (show rw1.length - (p+1)<rw1.length - p by omega) (Wk.of ?_ ?_)
     ·simp only [go_sem,e9];try simp
     ·simp only [go_sem];try rfl
    ·rw [ab g1,ab g2,Bool.or_self,gp] at hx4
     rw [hx4,gp] at hx3
     rw [av hx3] at hT
     subst hT
     simp only [go_sem,bH h8,aK g1]
     refine ⟨by omega,h8,by omega,h9,by omega,h9,?_⟩
     simp only [go_sem,aK g2]
     exact aG [] _ (dv { C with s:=S }) ⟨rfl,rfl⟩
   have hpe:p=rw1.length:=by omega
   rw [hpe,bY (aO _),hrl,bY (aO _)] at hx4
   rw [show j7 l rw1=true from hx4,fV] at hx3
   simp only [go_sem,bF h8]
   refine bA (q+1) ⟨show q+1≤R.length by omega,hx3⟩ (show R.length - (q+1)<R.length - q by omega) (Wk.of ?_ ?_)
   ·simp only [go_sem,e8];try simp
   ·simp only [go_sem];try rfl
  have hqe:q=R.length:=by omega
  rw [hqe,bY (aO _)] at hx3
  rw [ar (by rw [hx3];simp)] at hT
  subst hT
  simp only [go_sem,bF h7]
  exact aG [] _ (dv { C with s:=S }) ⟨rfl,rfl⟩
end
section
open Go Go.Mw
theorem yB.mono {n m:Nat} {C:Ct} (h:yB n C) (hm:n≤m):yB m C:=⟨by have:=h.u;omega,by have:=h.l;omega,by have:=h.b;omega,h.r,h.t⟩
theorem yB.sk {n:Nat} {C:Ct} (h:yB n C) {S:Sk} (h1:S.u.length≤n) (h2:S.all.length≤n):yB n { C with s:=S }:=⟨h1,h2,h.b,h.r,h.t⟩
theorem LB:∀(n:Nat) (S:Sk) (l:List Int),(lQ n S l).2.2.u=S.u∧(lQ n S l).2.2.all.length≤S.all.length
 | 0,S,l=>⟨rfl,aO _⟩
 | n+1,S,l=>by
  obtain ⟨h1,h2⟩:=qq S
  unfold lQ
  split
  ·exact ⟨h1,h2⟩
  ·obtain ⟨h3,h4⟩:=LB n S.pop.2.2 (S.pop.1 :: l)
   exact ⟨by rw [h3,h1],by omega⟩
theorem DU (C:Ct) (x:bv):∃S,(jX C x).2={ C with s:=S }∧S.u=C.s.u∧S.all.length≤C.s.all.length:=by
 obtain ⟨w1,w2⟩:=d_ C.s [1]
 unfold jX
 dsimp only
 split
 ·exact ⟨C.s,rfl,rfl,aO _⟩
 split
 ·exact ⟨C.s,rfl,rfl,aO _⟩
 split
 ·exact ⟨(C.s.want [1]).2,rfl,w1,w2⟩
 have hp:=LB (au (dH C (x.lb++[x.a])).1 ((dH C (x.lb++[x.a])).1.length - 1)).length (C.s.want [1]).2 []
 generalize lQ (au (dH C (x.lb++[x.a])).1 ((dH C (x.lb++[x.a])).1.length - 1)).length (C.s.want [1]).2 []=P at hp ⊢
 obtain ⟨p1,p2⟩:=hp
 split
 ·exact ⟨P.2.2,rfl,by rw [p1,w1],by omega⟩
 split
 ·exact ⟨P.2.2,rfl,by rw [p1,w1],by omega⟩
 ·exact ⟨P.2.2,rfl,by rw [p1,w1],by omega⟩
attribute [local go_sem] bT nZ n7 n8 n6 jF tg th qg qh js aY dB
theorem Kf (hLeft:dd) (C:Ct) (x:bv) (h:yB 700000 C) (hl:x.lb.length≤1000):xN ZL [iE x] C (.int .i64 (iW C x).1) (iW C x).2:=by
 refine aB (ic:=sV.body) ap Xs rfl rfl ?_
 obtain ⟨T,hT⟩:∃T,iW C x=T:=⟨_,rfl⟩
 rw [hT]
 unfold iW at hT
 dsimp only at hT
 have hu:=h.u
 have hlC:=h.l
 have kr:=T9 C (h.mono (by decide))
 have kl:=Dj C (h.mono (by decide)) x.a
 have lb:=Do (h.mono (by decide)) x.a
 have rb:C.retn.length≤1000:=by
  unfold Ct.retn
  split
  ·exact ef _
  ·exact h.r
 have kt:=O8 hLeft C x (h.mono (by decide)) hl
 generalize C.retn=rt at kr rb hT
 generalize C.label x.a=Q at kl lb hT
 obtain ⟨l,e⟩:=Q
 dsimp only at kl lb hT
 obtain ⟨LL,hLL⟩:∃LL,(if x.op≠15∧x.op≠14 then (l,e) else (rt,0))=LL:=⟨_,rfl⟩
 rw [hLL] at hT
 by_cases o14:x.op=14
 ·rw [ar (fun q=>q.2 o14)] at hLL
  subst hLL
  rw [ar (fun q=>q rfl),av o14] at hT
  obtain ⟨S1,hS,t1,t2⟩:=DU C x
  generalize jX C x=Q at kt hT hS
  obtain ⟨e1,C1⟩:=Q
  dsimp only at kt hT hS
  subst hS
  have kd:=yh { C with s:=S1 } ((h.mono (by decide)).sk (by rw [t1];omega) (by omega))
  simp only [go_sem,sV]
  refine aw (kr) (by simp only [go_sem]) (by simp only [go_sem]) (by simp only [go_sem]) (by simp only [go_sem]) (by simp only [go_sem]) (by simp only [go_sem]) ?_
  simp only [go_sem,aK (show ¬x.op=15 by omega),ay o14,aF o14]
  refine aw (kt) (by simp only [go_sem]) (by simp only [go_sem]) (by simp only [go_sem]) (by simp only [go_sem]) (by simp only [go_sem]) (by simp only [go_sem]) ?_
  by_cases e2:e1=0
  ·rw [je,av e2] at hT
   subst hT
   simp only [go_sem,aF e2]
   refine aw (kd) (by simp only [go_sem]) (by simp only [go_sem]) (by simp only [go_sem]) (by simp only [go_sem]) (by simp only [go_sem]) (by simp only [go_sem]) ?_
   simp only [go_sem,e2]
   exact aG [] _ (dv ({ C with s:=S1 }:Ct).dead) ⟨rfl,rfl⟩
  ·rw [je,ar e2] at hT
   subst hT
   simp only [go_sem,ab e2]
   exact aG [] _ (dv { C with s:=S1 }) ⟨rfl,rfl⟩
 by_cases o15:x.op=15
 ·rw [ar (fun q=>q.1 o15)] at hLL
  subst hLL
  rw [ar (fun q=>q rfl),ar o14,ar (show ¬x.op=13 by omega)] at hT
  dsimp only at hT
  have kw:=jf C.s rt (hLeft _ _ (by omega) (by omega) (by omega))
  obtain ⟨b1,b2⟩:=d_ C.s rt
  generalize C.s.want rt=Q at kw b1 b2 hT
  obtain ⟨e1,S1⟩:=Q
  dsimp only at kw b1 b2 hT
  have kd:=yh { C with s:=S1 } ((h.mono (by decide)).sk (by rw [b1];omega) (by omega))
  simp only [go_sem,sV]
  refine aw (kr) (by simp only [go_sem]) (by simp only [go_sem]) (by simp only [go_sem]) (by simp only [go_sem]) (by simp only [go_sem]) (by simp only [go_sem]) ?_
  simp only [go_sem,ay o15,ab o14,ab (show ¬x.op=13 by omega)]
  refine aw (cL C) (by simp only [go_sem]) (by simp only [go_sem]) (by simp only [go_sem]) (by simp only [go_sem]) (by simp only [go_sem]) (by simp only [go_sem]) ?_
  simp only [go_sem]
  refine aD (kw) (by simp only [go_sem]) (by simp only [go_sem]) (by simp only [go_sem]) (by simp only [go_sem]) ?_
  by_cases e2:e1=0
  ·rw [je,av e2] at hT
   subst hT
   simp only [go_sem,aF e2]
   refine aw (kd) (by simp only [go_sem]) (by simp only [go_sem]) (by simp only [go_sem]) (by simp only [go_sem]) (by simp only [go_sem]) (by simp only [go_sem]) ?_
   simp only [go_sem,e2]
   exact aG [] _ (dv ({ C with s:=S1 }:Ct).dead) ⟨rfl,rfl⟩
  ·rw [je,ar e2] at hT
   subst hT
   simp only [go_sem,ab e2]
   exact aG [] _ (dv { C with s:=S1 }) ⟨rfl,rfl⟩
 rw [av ⟨o15,o14⟩] at hLL
 subst hLL
 dsimp only at hT
 by_cases e3:e=0
 rotate_left
 ·rw [av e3] at hT
  subst hT
  simp only [go_sem,sV]
  refine aw (kr) (by simp only [go_sem]) (by simp only [go_sem]) (by simp only [go_sem]) (by simp only [go_sem]) (by simp only [go_sem]) (by simp only [go_sem]) ?_
  simp only [go_sem,aK o15,aK o14]
  refine aw (kl) (by simp only [go_sem]) (by simp only [go_sem]) (by simp only [go_sem]) (by simp only [go_sem]) (by simp only [go_sem]) (by simp only [go_sem]) ?_
  simp only [go_sem,aK e3]
  exact aG [] _ (dv C) ⟨rfl,rfl⟩
 rw [ar (fun q=>q e3),ar o14] at hT
 by_cases o13:x.op=13
 ·rw [av o13] at hT
  have kw:=jf C.s [1] (hLeft _ _ (by omega) (by omega) (by simp))
  obtain ⟨b1,b2⟩:=d_ C.s [1]
  generalize C.s.want [1]=Q at kw b1 b2 hT
  obtain ⟨e1,S1⟩:=Q
  dsimp only at kw b1 b2 hT
  have kt:=Kj hLeft S1 ⟨l,l⟩ ⟨by rw [b1];omega,by omega⟩ ⟨show l.length≤10000 by omega,show l.length≤10000 by omega⟩
  generalize j_ S1 ⟨l,l⟩=Q at kt hT
  obtain ⟨e4,S2⟩:=Q
  dsimp only at kt hT
  have qA:=cL { C with s:=S1 }
  simp only [go_sem,sV]
  refine aw (kr) (by simp only [go_sem]) (by simp only [go_sem]) (by simp only [go_sem]) (by simp only [go_sem]) (by simp only [go_sem]) (by simp only [go_sem]) ?_
  simp only [go_sem,aK o15,aK o14]
  refine aw (kl) (by simp only [go_sem]) (by simp only [go_sem]) (by simp only [go_sem]) (by simp only [go_sem]) (by simp only [go_sem]) (by simp only [go_sem]) ?_
  simp only [go_sem,ay e3,ab o14,aF o13]
  refine aw (cL C) (by simp only [go_sem]) (by simp only [go_sem]) (by simp only [go_sem]) (by simp only [go_sem]) (by simp only [go_sem]) (by simp only [go_sem]) ?_
  simp only [go_sem]
  refine bD (dC.frzs [43] _ _) ?_
  simp only [go_sem]
  refine aD (kw) (by simp only [go_sem]) (by simp only [go_sem]) (by simp only [go_sem]) (by simp only [go_sem]) ?_
  by_cases e2:e1=0
  ·rw [ar (fun q=>q e2)] at hT
   subst hT
   simp only [go_sem,ay e2]
   refine aw (qA) (by simp only [go_sem]) (by simp only [go_sem]) (by simp only [go_sem]) (by simp only [go_sem]) (by simp only [go_sem]) (by simp only [go_sem]) ?_
   simp only [go_sem]
   refine aD (kt) (by simp only [go_sem]) (by simp only [go_sem]) (by simp only [go_sem]) (by simp only [go_sem]) ?_
   simp only [go_sem]
   exact aG [] _ (dv { C with s:=S2 }) ⟨rfl,rfl⟩
  ·rw [av e2] at hT
   subst hT
   simp only [go_sem,aK e2]
   exact aG [] _ (dv { C with s:=S1 }) ⟨rfl,rfl⟩
 rw [ar o13] at hT
 have kw:=jf C.s l (hLeft _ _ (by omega) (by omega) (by omega))
 obtain ⟨b1,b2⟩:=d_ C.s l
 generalize C.s.want l=Q at kw b1 b2 hT
 obtain ⟨e1,S1⟩:=Q
 dsimp only at kw b1 b2 hT
 have kd:=yh { C with s:=S1 } ((h.mono (by decide)).sk (by rw [b1];omega) (by omega))
 simp only [go_sem,sV]
 refine aw (kr) (by simp only [go_sem]) (by simp only [go_sem]) (by simp only [go_sem]) (by simp only [go_sem]) (by simp only [go_sem]) (by simp only [go_sem]) ?_
 simp only [go_sem,aK o15,aK o14]
 refine aw (kl) (by simp only [go_sem]) (by simp only [go_sem]) (by simp only [go_sem]) (by simp only [go_sem]) (by simp only [go_sem]) (by simp only [go_sem]) ?_
 simp only [go_sem,ay e3,ab o14,ab o13]
 refine aw (cL C) (by simp only [go_sem]) (by simp only [go_sem]) (by simp only [go_sem]) (by simp only [go_sem]) (by simp only [go_sem]) (by simp only [go_sem]) ?_
 simp only [go_sem]
 refine aD (kw) (by simp only [go_sem]) (by simp only [go_sem]) (by simp only [go_sem]) (by simp only [go_sem]) ?_
 by_cases e2:e1=0
 ·rw [je,av e2] at hT
  subst hT
  simp only [go_sem,aF e2]
  refine aw (kd) (by simp only [go_sem]) (by simp only [go_sem]) (by simp only [go_sem]) (by simp only [go_sem]) (by simp only [go_sem]) (by simp only [go_sem]) ?_
  simp only [go_sem,e2]
  exact aG [] _ (dv ({ C with s:=S1 }:Ct).dead) ⟨rfl,rfl⟩
 ·rw [je,ar e2] at hT
  subst hT
  simp only [go_sem,ab e2]
  exact aG [] _ (dv { C with s:=S1 }) ⟨rfl,rfl⟩
theorem Vb {x:bv} (h:DQ x) (hp:jA x=true):nC x.a=true∧nC x.b=true∧nu (cX x.op) x=true:=by
 obtain ⟨h1,h2,h3⟩:=h
 obtain ⟨t1,_,t3,_⟩:=Rs x.op
 unfold jA at hp
 rw [← Ri (FL x.op) (yd x.op) (Rj x.op) x h3] at hp
 unfold plP at hp
 simp only [dV] at hp
 obtain ⟨_,_,_,_,ha,hb,_,_,_,_,hf⟩:=hp
 rw [t3]
 exact ⟨ha,hb,hf⟩
end
section
open Go Go.Mw
theorem Rl (r:Ft×Int):wa r = .tup [.agg (jp r.1),.int .i64 r.2]:=rfl
def lG (s:Sp):Prop:=∀x∈s.ts,x.ps.length≤100∧x.rs.length≤100
theorem lG.sm {s:Sp} (h:lG s):uS s:=fun x hx=>⟨by have:=(h x hx).1;omega,by have:=(h x hx).2;omega⟩
theorem Qv {s:Sp} (h:lG s) (i:Int) {f:Ft} (hf:s.ty i=some f):f.ps.length≤100∧f.rs.length≤100:=by
 unfold Sp.ty cO at hf
 split at hf
 ·exact h f (gM hf)
 ·cases hf
theorem QL {s:Sp} (h:lG s) {k v x:Int} {f:Ft} (hf:s.blk k v x=some f):f.ps.length≤100∧f.rs.length≤100:=by
 unfold Sp.blk at hf
 split at hf
 ·cases hf;exact ⟨ef _,ef _⟩
 split at hf
 ·split at hf
  ·cases hf;exact ⟨ef _,by show 1≤100;omega⟩
  ·cases hf
 split at hf
 ·exact Qv h _ hf
 ·cases hf
theorem Yz {s:Sp} (h:lG s) {i:Int} {f:Ft} (hf:s.fn i=some f):f.ps.length≤100∧f.rs.length≤100:=by
 unfold Sp.fn at hf
 cases hq:cO s.fs i with
 | none=>rw [hq] at hf;cases hf
 | some k=>rw [hq] at hf;exact Qv h _ hf
theorem UL (op t:Int) (s:List UInt8):(vZ op t s).1.length≤200∧(vZ op t s).2.length≤200:=by
 unfold vZ
 repeat' split
 all_goals exact ⟨by simp,by simp⟩
theorem afW (op:Int):(mY op).1.length≤200∧(mY op).2.1.length≤200:=by
 unfold mY
 cases hf:sgT.find? (fun p=>p.1==op) with
 | some p =>
  have hm:=List.mem_of_find?_eq_some hf
  have:∀p∈sgT,p.2.1.length≤200∧p.2.2.length≤200:=by decide
  exact this p hm
 | none =>
  dsimp only
  split
  ·exact UL _ _ _
  ·exact ⟨by simp,by simp⟩
theorem DV {s:Sp} (h:lG s) (lo:List Int) (x:bv):(fj s lo x).1.ps.length≤200∧(fj s lo x).1.rs.length≤200:=by
 have hd:(default:Ft).ps.length≤200∧(default:Ft).rs.length≤200:=⟨ef _,ef _⟩
 rw [AW]
 split
 ·unfold Yy
  split
  ·exact hd
  ·rename_i f hf
   obtain ⟨g1,g2⟩:=Yz h hf
   split
   ·exact ⟨eJ g1 (by decide),eJ g2 (by decide)⟩
   split
   ·exact hd
   ·exact ⟨ef _,by simp⟩
 split
 ·unfold YN
  split
  ·rename_i f t hf ht
   have:=Qv h _ hf
   split
   ·exact hd
   ·exact ⟨by show (f.ps++[1]).length≤200;rw [ee];simp;omega,by show f.rs.length≤200;omega⟩
  ·exact hd
 split
 ·exact ⟨by simp,by simp⟩
 split
 ·unfold YW
  split
  ·exact hd
  split
  ·exact ⟨by simp,by simp⟩
  split<;>exact ⟨by simp,by simp⟩
 split
 ·unfold YF
  split
  ·exact hd
  split
  ·exact ⟨by simp,by simp⟩
  split
  ·exact hd
  ·exact ⟨by simp,by simp⟩
 split
 ·unfold tbA
  split
  ·exact hd
  repeat' split
  all_goals exact ⟨by simp,by simp⟩
 split
 ·exact ⟨by simp,by simp⟩
 split
 ·exact hd
 ·exact afW x.op
attribute [local go_sem] bT nZ n7 n8 n6 jF tg th qg qh js aY dB Rl zS zT
theorem O2 (hLeft:dd) (C:Ct) (s:Sp) (lo:List Int) (x:bv) (h:yB 600000 C) (hs:lG s) (hlo:lo.length≤9000000) (hx:DQ x) (hl:x.lb.length≤1000):xN ZW [kj s,.sl 1 (lo.map bp),iE x] C (.int .i64 (cK C s lo x).1) (cK C s lo x).2:=by
 refine aB (ic:=dQ 82 (dQ 67 j0.body)) ap XD rfl rfl ?_
 have hu:=h.u
 have hlC:=h.l
 have cn:=Qe s x hs.sm hx
 have hp:jA x=true→0≤x.a∧(cX x.op=6→0<x.ty.length):=fun q=>by
  obtain ⟨p1,p2,p3⟩:=Vb hx q
  refine ⟨?_,fun q6=>?_⟩
  ·simp only [nC,dV,qc] at p1;omega
  ·rw [q6] at p3
   simp only [nu] at p3
   rw [ar (by decide),av trivial] at p3
   simp only [dV,beq_iff_eq] at p3
   omega
 unfold cK
 cases hpl:jA x
 ·rw [hpl] at cn
  rw [av rfl]
  simp only [aU,aA,dB] at cn
  simp only [go_sem,j0,aU,aA]
  refine aw (cL C) (by simp only [go_sem]) (by simp only [go_sem]) (by simp only [go_sem]) (by simp only [go_sem]) (by simp only [go_sem]) (by simp only [go_sem]) ?_
  simp only [go_sem]
  refine aa (cn) ?_
  simp only [go_sem]
  exact aG [] _ (dv C) ⟨rfl,rfl⟩
 obtain ⟨hp1,hp2⟩:=hp hpl
 rw [hpl] at cn
 rw [ar (by decide)]
 simp only [aU,aA,dB] at cn
 by_cases q1:x.op=2∨x.op=3∨x.op=4
 ·rw [av q1]
  have cb:=DJ s x.k x.v x.x hs.sm
  have hbn:=fun f=>QL (f:=f) hs (k:=x.k) (v:=x.v) (x:=x.x)
  generalize s.blk x.k x.v x.x=Q at cb hbn ⊢
  cases Q with
  | none =>
   simp only [aU,aA,aY] at cb
   rcases q1 with q | q | q
   all_goals
    simp only [go_sem,j0,aU,aA]
    refine aw (cL C) (by simp only [go_sem]) (by simp only [go_sem]) (by simp only [go_sem]) (by simp only [go_sem]) (by simp only [go_sem]) (by simp only [go_sem]) ?_
    simp only [go_sem]
    refine aa (cn) ?_
    simp only [go_sem,q]
    refine aa (cb) ?_
    simp only [go_sem,Option.isSome_none]
    exact aG [] _ (dv C) ⟨rfl,rfl⟩
  | some f =>
   have ke:=O5 hLeft C (h.mono (by decide)) x.op f ⟨by have:=(hbn f rfl).1;omega,by have:=(hbn f rfl).2;omega⟩
   simp only [aU,aA,aY,Option.getD_some,Option.isSome_some] at cb ke
   dsimp only
   generalize C.enter x.op f=R at ke ⊢
   rcases q1 with q | q | q
   all_goals
    rw [q] at ke
    simp only [go_sem,j0,aU,aA]
    refine aw (cL C) (by simp only [go_sem]) (by simp only [go_sem]) (by simp only [go_sem]) (by simp only [go_sem]) (by simp only [go_sem]) (by simp only [go_sem]) ?_
    simp only [go_sem]
    refine aa (cn) ?_
    simp only [go_sem,q]
    refine aa (cb) ?_
    simp only [go_sem]
    refine aw (ke) (by simp only [go_sem]) (by simp only [go_sem]) (by simp only [go_sem]) (by simp only [go_sem]) (by simp only [go_sem]) (by simp only [go_sem]) ?_
    simp only [go_sem]
    exact aG [] _ (dv R.2) ⟨rfl,rfl⟩
 have n2:¬x.op=2:=fun q=>q1 (.inl q)
 have n3:¬x.op=3:=fun q=>q1 (.inr (.inl q))
 have n4:¬x.op=4:=fun q=>q1 (.inr (.inr q))
 rw [ar q1]
 by_cases n5:x.op=5
 ·rw [av n5]
  have ke:=T6 hLeft C (h.mono (by decide))
  generalize C.els=R at ke ⊢
  simp only [go_sem,j0,aU,aA]
  refine aw (cL C) (by simp only [go_sem]) (by simp only [go_sem]) (by simp only [go_sem]) (by simp only [go_sem]) (by simp only [go_sem]) (by simp only [go_sem]) ?_
  simp only [go_sem]
  refine aa (cn) ?_
  simp only [go_sem,ab n2,ab n3,ab n4,aF n5]
  refine aw (ke) (by simp only [go_sem]) (by simp only [go_sem]) (by simp only [go_sem]) (by simp only [go_sem]) (by simp only [go_sem]) (by simp only [go_sem]) ?_
  simp only [go_sem]
  exact aG [] _ (dv R.2) ⟨rfl,rfl⟩
 rw [ar n5]
 by_cases n11:x.op=11
 ·rw [av n11]
  have ke:=O6 hLeft C (h.mono (by decide))
  generalize C.leave=R at ke ⊢
  simp only [go_sem,j0,aU,aA]
  refine aw (cL C) (by simp only [go_sem]) (by simp only [go_sem]) (by simp only [go_sem]) (by simp only [go_sem]) (by simp only [go_sem]) (by simp only [go_sem]) ?_
  simp only [go_sem]
  refine aa (cn) ?_
  simp only [go_sem,ab n2,ab n3,ab n4,ab n5,aF n11]
  refine aw (ke) (by simp only [go_sem]) (by simp only [go_sem]) (by simp only [go_sem]) (by simp only [go_sem]) (by simp only [go_sem]) (by simp only [go_sem]) ?_
  simp only [go_sem]
  exact aG [] _ (dv R.2) ⟨rfl,rfl⟩
 rw [ar n11]
 by_cases n0:x.op=0
 ·rw [av n0]
  have ke:=yh C (h.mono (by decide))
  simp only [go_sem,j0,aU,aA]
  refine aw (cL C) (by simp only [go_sem]) (by simp only [go_sem]) (by simp only [go_sem]) (by simp only [go_sem]) (by simp only [go_sem]) (by simp only [go_sem]) ?_
  simp only [go_sem]
  refine aa (cn) ?_
  simp only [go_sem,ab n2,ab n3,ab n4,ab n5,ab n11,aF n0]
  refine aw (ke) (by simp only [go_sem]) (by simp only [go_sem]) (by simp only [go_sem]) (by simp only [go_sem]) (by simp only [go_sem]) (by simp only [go_sem]) ?_
  simp only [go_sem]
  exact aG [] _ (dv C.dead) ⟨rfl,rfl⟩
 rw [ar n0]
 by_cases qb:x.op=12∨x.op=13∨x.op=14∨x.op=15
 ·rw [av qb]
  have ke:=Kf hLeft C x (h.mono (by decide)) hl
  generalize iW C x=R at ke ⊢
  simp only [dB] at ke
  rcases qb with q | q | q | q
  all_goals
   rw [q] at ke cn
   simp only [go_sem,j0,aU,aA,q]
   refine aw (cL C) (by simp only [go_sem]) (by simp only [go_sem]) (by simp only [go_sem]) (by simp only [go_sem]) (by simp only [go_sem]) (by simp only [go_sem]) ?_
   simp only [go_sem]
   refine aa (cn) ?_
   simp only [go_sem]
   refine aw (ke) (by simp only [go_sem]) (by simp only [go_sem]) (by simp only [go_sem]) (by simp only [go_sem]) (by simp only [go_sem]) (by simp only [go_sem]) ?_
   simp only [go_sem]
   exact aG [] _ (dv R.2) ⟨rfl,rfl⟩
 have n12:¬x.op=12:=fun q=>qb (.inl q)
 have n13:¬x.op=13:=fun q=>qb (.inr (.inl q))
 have n14:¬x.op=14:=fun q=>qb (.inr (.inr (.inl q)))
 have n15:¬x.op=15:=fun q=>qb (.inr (.inr (.inr q)))
 rw [ar qb]
 by_cases qp:x.op=26∨x.op=27∨x.op=209
 ·rw [av qp]
  have ke:=T8 hLeft C.s x.op ⟨by omega,by omega⟩
  generalize iI C.s x.op=R at ke ⊢
  obtain ⟨e,S1⟩:=R
  rcases qp with q | q | q
  all_goals
   rw [q] at ke cn
   simp only [go_sem,j0,aU,aA,q]
   refine aw (cL C) (by simp only [go_sem]) (by simp only [go_sem]) (by simp only [go_sem]) (by simp only [go_sem]) (by simp only [go_sem]) (by simp only [go_sem]) ?_
   simp only [go_sem]
   refine aa (cn) ?_
   simp only [go_sem]
   repeat' (first | refine And.intro ?_ ?_ | (refine aw (cL C) (by simp only [go_sem]) (by simp only [go_sem]) (by simp only [go_sem]) (by simp only [go_sem]) (by simp only [go_sem]) (by simp only [go_sem]) ?_;simp only [go_sem,oJ,mq]))
   all_goals
    refine aD (ke) (by simp only [go_sem]) (by simp only [go_sem]) (by simp only [go_sem]) (by simp only [go_sem]) ?_
    simp only [go_sem]
    exact aG [] _ (dv { C with s:=S1 }) ⟨rfl,rfl⟩
 have n26:¬x.op=26:=fun q=>qp (.inl q)
 have n27:¬x.op=27:=fun q=>qp (.inr (.inl q))
 have n209:¬x.op=209:=fun q=>qp (.inr (.inr q))
 rw [ar qp]
 have ct:=Mk s lo x hs.sm hx hp1 hlo hp2
 have hn:=DV hs lo x
 generalize fj s lo x=R at ct hn ⊢
 obtain ⟨f,e⟩:=R
 dsimp only at hn
 simp only [Rl,aU,aA,dB,aY] at ct
 by_cases e5:e=0
 rotate_left
 ·rw [av e5]
  simp only [go_sem,j0,aU,aA]
  refine aw (cL C) (by simp only [go_sem]) (by simp only [go_sem]) (by simp only [go_sem]) (by simp only [go_sem]) (by simp only [go_sem]) (by simp only [go_sem]) ?_
  simp only [go_sem]
  refine aa (cn) ?_
  simp only [go_sem,ab n2,ab n3,ab n4,ab n5,ab n11,ab n0,ab n12,ab n13,ab n14,ab n15,ab n26,ab n27,ab n209]
  refine aa (ct) ?_
  simp only [go_sem,aK e5]
  exact aG [] _ (dv C) ⟨rfl,rfl⟩
 rw [ar (fun q=>q e5)]
 have kt:=Kj hLeft C.s f ⟨by omega,by omega⟩ ⟨by have:=hn.1;omega,by have:=hn.2;omega⟩
 generalize j_ C.s f=R at kt ⊢
 obtain ⟨e1,S1⟩:=R
 simp only [aY] at kt
 simp only [go_sem,j0,aU,aA]
 refine aw (cL C) (by simp only [go_sem]) (by simp only [go_sem]) (by simp only [go_sem]) (by simp only [go_sem]) (by simp only [go_sem]) (by simp only [go_sem]) ?_
 simp only [go_sem]
 refine aa (cn) ?_
 simp only [go_sem,ab n2,ab n3,ab n4,ab n5,ab n11,ab n0,ab n12,ab n13,ab n14,ab n15,ab n26,ab n27,ab n209]
 refine aa (ct) ?_
 simp only [go_sem,ay e5]
 repeat' (first | refine And.intro ?_ ?_ | (refine aw (cL C) (by simp only [go_sem]) (by simp only [go_sem]) (by simp only [go_sem]) (by simp only [go_sem]) (by simp only [go_sem]) (by simp only [go_sem]) ?_;simp only [go_sem,oJ,mq]))
 all_goals
  refine aD (kt) (by simp only [go_sem]) (by simp only [go_sem]) (by simp only [go_sem]) (by simp only [go_sem]) ?_
  simp only [go_sem]
  exact aG [] _ (dv { C with s:=S1 }) ⟨rfl,rfl⟩
end
open Go Go.Mw
structure lO (k:Nat) (C:Ct):Prop where
 u:C.s.u.length≤k+1
 l:C.s.all.length≤200 * k
 b:C.bs.length≤k+1
 r:C.rs.length≤100
 t:∀b∈C.bs,b.t.ps.length≤100∧b.t.rs.length≤100
theorem lO.ok {k:Nat} {C:Ct} (h:lO k C) (hk:k≤2100):yB 600000 C:=⟨by have:=h.u;omega,by have:=h.l;omega,by have:=h.b;omega,by have:=h.r;omega,fun b hb=>⟨by have:=(h.t b hb).1;omega,by have:=(h.t b hb).2;omega⟩⟩
theorem lO.mono {k:Nat} {C:Ct} (h:lO k C):lO (k+1) C:=⟨by have:=h.u;omega,by have:=h.l;omega,by have:=h.b;omega,h.r,h.t⟩
theorem lO.sk {k:Nat} {C:Ct} (h:lO k C) {S:Sk} (h1:S.u.length≤k+2) (h2:S.all.length≤200 * (k+1)):lO (k+1) { C with s:=S }:=⟨h1,h2,by have:=h.b;show C.bs.length≤_;omega,h.r,h.t⟩
theorem lO.top {k:Nat} {C:Ct} (h:lO k C) (h0:C.bs.length≠0):C.top.t.ps.length≤100∧C.top.t.rs.length≤100∧C.top∈C.bs:=by
 have hm:C.top∈C.bs:=by
  unfold Ct.top
  rw [aX (by omega)]
  exact List.getElem_mem _
 exact ⟨(h.t _ hm).1,(h.t _ hm).2,hm⟩
theorem lO.broke {k:Nat} {C:Ct} (h:lO k C) (e:Int):lO k (C.broke e).2:=⟨h.u,h.l,h.b,h.r,h.t⟩
theorem kQ (S:Sk) (l:List Int):(S.push l).all.length=S.all.length+l.length∧(S.push l).u=S.u:=⟨by rw [uq,ee],rfl⟩
theorem C9 {k:Nat} {C:Ct} (b:Bk) (h1:C.s.u.length≤k+1) (h2:C.s.all.length≤200 * k) (h3:C.bs.length≤k+1) (h4:C.rs.length≤100) (h5:∀b∈C.bs,b.t.ps.length≤100∧b.t.rs.length≤100) (hb:b.t.ps.length≤100∧b.t.rs.length≤100):lO (k+1) (C.begin b):=by
 obtain ⟨p1,p2⟩:=kQ C.s.opn b.t.ps
 refine ⟨?_,?_,?_,h4,?_⟩
 ·show (C.s.opn.push b.t.ps).u.length≤_
  rw [p2]
  show C.s.u.length+1≤_
  omega
 ·show (C.s.opn.push b.t.ps).all.length≤_
  rw [p1,yE];omega
 ·show (C.bs++[b]).length≤_
  rw [ee];simp only [iw,fZ];omega
 ·intro b' hb'
  rcases dL.1 hb' with q | q
  ·exact h5 b' q
  ·rw [du.1 q];exact hb
theorem zW {k:Nat} {C:Ct} (h:lO k C) (op:Int) (t:Ft) (ht:t.ps.length≤100∧t.rs.length≤100):lO (k+1) (C.enter2 op t).2:=by
 obtain ⟨w1,w2⟩:=d_ C.s t.ps
 have hu:=h.u
 have hl:=h.l
 unfold Ct.enter2
 split
 ·exact (h.sk (by rw [w1];omega) (by omega)).broke _
 ·exact C9 (C:={ C with s:=(C.s.want t.ps).2 }) _ (by rw [w1];omega) (by show (C.s.want t.ps).2.all.length≤_;omega) h.b h.r h.t ht
theorem Oh {k:Nat} {C:Ct} (h:lO k C) (op:Int) (t:Ft) (ht:t.ps.length≤100∧t.rs.length≤100):lO (k+1) (C.enter op t).2:=by
 obtain ⟨w1,w2⟩:=d_ C.s [1]
 have hu:=h.u
 have hl:=h.l
 unfold Ct.enter
 split
 ·exact h.mono
 split
 ·exact h.mono
 split
 ·exact h.mono
 split
 ·split
  ·exact (h.sk (by rw [w1];omega) (by omega)).broke _
  ·exact zW (C:={ C with s:=(C.s.want [1]).2 }) ⟨by show (C.s.want [1]).2.u.length≤_;rw [w1];exact hu,by show (C.s.want [1]).2.all.length≤_;omega,h.b,h.r,h.t⟩ op t ht
 ·exact zW h op t ht
theorem YB {k:Nat} {C:Ct} (h:lO k C):lO (k+1) C.els.2:=by
 have hu:=h.u
 have hl:=h.l
 have hb:=h.b
 unfold Ct.els
 split
 ·exact h.mono
 split
 ·exact h.mono
 rename_i h1 h2
 obtain ⟨t1,t2,t3⟩:=h.top (fun q=>h2 (.inl q))
 obtain ⟨w1,w2⟩:=yP C.s C.top.t.rs
 split
 ·exact (h.sk (by omega) (by omega)).broke _
 ·exact C9 (C:={ C with s:=(C.s.shut C.top.t.rs).2,bs:=C.bs.dropLast }) _ (by show (C.s.shut C.top.t.rs).2.u.length≤_;omega) (by show (C.s.shut C.top.t.rs).2.all.length≤_;omega) (by show C.bs.dropLast.length≤_;rw [List.length_dropLast];omega) h.r (fun b hb=>h.t b (List.dropLast_subset _ hb)) ⟨t1,t2⟩
theorem Oi {k:Nat} {C:Ct} (h:lO k C):lO (k+1) C.leave.2:=by
 have hu:=h.u
 have hl:=h.l
 have hb:=h.b
 unfold Ct.leave
 split
 ·exact h.mono
 split
 ·exact h.mono
 rename_i h1 h2
 obtain ⟨t1,t2,t3⟩:=h.top h2
 obtain ⟨w1,w2⟩:=yP C.s C.top.t.rs
 have hd:∀b∈C.bs.dropLast,b.t.ps.length≤100∧b.t.rs.length≤100:=fun b hb=>h.t b (List.dropLast_subset _ hb)
 have hdl:C.bs.dropLast.length≤k+2:=by rw [List.length_dropLast];omega
 split
 ·exact (h.sk (by omega) (by omega)).broke _
 split
 ·exact ⟨show (C.s.shut C.top.t.rs).2.u.length≤k+1+1 by omega,show (C.s.shut C.top.t.rs).2.all.length≤200 * (k+1) by omega,hdl,h.r,hd⟩
 ·obtain ⟨p1,p2⟩:=kQ (C.s.shut C.top.t.rs).2 C.top.t.rs
  exact ⟨show ((C.s.shut C.top.t.rs).2.push C.top.t.rs).u.length≤k+1+1 by rw [p2];omega,show ((C.s.shut C.top.t.rs).2.push C.top.t.rs).all.length≤200 * (k+1) by rw [p1];omega,hdl,h.r,hd⟩
theorem Pq (S:Sk):S.loose.u=S.u∧S.loose.all.length≤S.all.length:=by
 refine ⟨rfl,?_⟩
 rw [iA,iA]
 show (bK S.u++[]).length≤_
 simp only [ee];simp
theorem I6 {k:Nat} {C:Ct} (h:lO k C):lO k C.dead:=by
 obtain ⟨w1,w2⟩:=Pq C.s
 unfold Ct.dead
 split
 ·exact h
 ·exact ⟨by show C.s.loose.u.length≤_;rw [w1];exact h.u,by have:=h.l;show C.s.loose.all.length≤_;omega,h.b,h.r,h.t⟩
theorem MG (S:Sk) (f:Ft):(j_ S f).2.u=S.u∧(j_ S f).2.all.length≤S.all.length+f.rs.length:=by
 obtain ⟨w1,w2⟩:=d_ S f.ps
 unfold j_
 split
 ·exact ⟨w1,by omega⟩
 ·obtain ⟨p1,p2⟩:=kQ (S.want f.ps).2 f.rs
  exact ⟨by show ((S.want f.ps).2.push f.rs).u=_;rw [p2,w1],by show ((S.want f.ps).2.push f.rs).all.length≤_;rw [p1];omega⟩
theorem Ph {k:Nat} {C:Ct} (h:lO k C) (i:Int):(C.label i).1.length≤100:=by
 unfold Ct.label
 split
 ·exact ef _
 split
 ·exact ef _
 rename_i h1 h2
 have hm:=h.t (au C.bs (C.bs.length - 1 - i.toNat)) (by rw [aX (by omega)];exact List.getElem_mem _)
 split
 ·exact hm.1
 ·exact hm.2
theorem zV {k:Nat} {e:Int} {C:Ct} (h:lO k C):lO k (je (e,C)).2:=by
 unfold je
 split
 ·exact I6 h
 ·exact h
theorem I5 {k:Nat} {C:Ct} (h:lO k C) (x:bv):lO (k+1) (iW C x).2:=by
 have hu:=h.u
 have hl:=h.l
 have lb:=Ph h x.a
 have rb:C.retn.length≤100:=by
  unfold Ct.retn
  split
  ·exact ef _
  ·exact h.r
 unfold iW
 dsimp only
 have hL:(if x.op≠15∧x.op≠14 then C.label x.a else (C.retn,0)).1.length≤100:=by
  split
  ·exact lb
  ·exact rb
 generalize (if x.op≠15∧x.op≠14 then C.label x.a else (C.retn,0))=L at hL ⊢
 split
 ·exact h.mono
 split
 ·obtain ⟨S,hS,t1,t2⟩:=DU C x
  generalize jX C x=Q at hS ⊢
  obtain ⟨e,C1⟩:=Q
  dsimp only at hS
  subst hS
  exact zV (h.sk (by rw [t1];omega) (by omega))
 split
 ·obtain ⟨w1,w2⟩:=d_ C.s [1]
  split
  ·exact h.sk (by rw [w1];omega) (by omega)
  ·obtain ⟨q1,q2⟩:=MG (C.s.want [1]).2 ⟨L.1,L.1⟩
   exact h.sk (by rw [q1,w1];omega) (by dsimp only at q2;omega)
 ·obtain ⟨w1,w2⟩:=d_ C.s L.1
  exact zV (h.sk (by rw [w1];omega) (by omega))
theorem PW (S:Sk) (a:Int):(xu S a).2.u=S.u∧(xu S a).2.all.length≤S.all.length+1:=by
 obtain ⟨w1,w2⟩:=qq S
 unfold xu
 split
 ·exact ⟨w1,by show S.pop.2.2.all.length≤_;omega⟩
 split
 ·exact ⟨w1,by show S.pop.2.2.all.length≤_;omega⟩
 ·obtain ⟨p1,p2⟩:=kQ S.pop.2.2 [if a=0 then S.pop.1 else a]
  exact ⟨by show (S.pop.2.2.push _).u=_;rw [p2,w1],by show (S.pop.2.2.push _).all.length≤_;rw [p1];simp only [iw,fZ];omega⟩
theorem DD (S:Sk) (op:Int):(um S op).2.u=S.u∧(um S op).2.all.length≤S.all.length+1:=by
 obtain ⟨w1,w2⟩:=qq S
 unfold um
 split
 ·exact ⟨w1,by show S.pop.2.2.all.length≤_;omega⟩
 split
 ·split
  ·exact ⟨w1,by show S.pop.2.2.all.length≤_;omega⟩
  ·obtain ⟨p1,p2⟩:=kQ S.pop.2.2 [1]
   exact ⟨by show (S.pop.2.2.push _).u=_;rw [p2,w1],by show (S.pop.2.2.push _).all.length≤_;rw [p1];simp only [iw,fZ];omega⟩
 split
 ·obtain ⟨q1,q2⟩:=PW S.pop.2.2 S.pop.1
  exact ⟨by rw [q1,w1],by omega⟩
 ·exact ⟨w1,by show S.pop.2.2.all.length≤_;omega⟩
theorem Va (S:Sk) (op:Int):(iI S op).2.u=S.u∧(iI S op).2.all.length≤S.all.length+1:=by
 unfold iI
 split
 ·obtain ⟨w1,w2⟩:=d_ S [1]
  split
  ·exact ⟨w1,by omega⟩
  ·obtain ⟨q1,q2⟩:=DD (S.want [1]).2 op
   exact ⟨by rw [q1,w1],by omega⟩
 ·exact DD S op
theorem Og {k:Nat} {C:Ct} (h:lO k C) (s:Sp) (hs:lG s) (lo:List Int) (x:bv):lO (k+1) (cK C s lo x).2:=by
 have hu:=h.u
 have hl:=h.l
 unfold cK
 split
 ·exact h.mono
 split
 ·split
  ·exact h.mono
  ·rename_i f hf
   exact Oh h _ _ (QL hs hf)
 split
 ·exact YB h
 split
 ·exact Oi h
 split
 ·exact (I6 h).mono
 split
 ·exact I5 h x
 split
 ·obtain ⟨q1,q2⟩:=Va C.s x.op
  exact h.sk (by rw [q1];omega) (by omega)
 split
 ·exact h.mono
 ·have hn:=(DV hs lo x).2
  obtain ⟨q1,q2⟩:=MG C.s (fj s lo x).1
  exact h.sk (by rw [q1];omega) (by omega)
end Go.Proofs.YthhglklcaodfmaaGreatDoor