import Derived.Test.YthhglklcaodfmaaGreatDoorCQo
set_option linter.all false
set_option maxRecDepth 100000
set_option maxHeartbeats 40000000
namespace Go.Proofs.YthhglklcaodfmaaGreatDoor
open Go Go.Mw
def ab4(a b:Md):Prop:=a.hs=b.hs/\(a.hs=true->a.st=b.st)/\a.ts=b.ts/\a.ims=b.ims/\a.fs=b.fs/\(a.tbs=b.tbs/\a.ms=b.ms)/\a.gs=b.gs/\a.exs=b.exs/\a.els=b.els/\a.ds=b.ds/\a.cs=b.cs
instance(a b:Md):Decidable (ab4 a b):=by unfold ab4;exact inferInstance
section
attribute[local go_sem] bY aW du eY bT cX nP fM iQ fY fZ iB cQ bV aM
def afe(a b:List Int)(ha:a.length<=9223372036854775807):aj pg uU [.sl 1 (a.map aS),.sl 1 (b.map aS)] (.bool (decide (a=b))):=by
 refine ao iM ?_;by_cases hl:(a.length:Int)=(b.length:Int);rotate_left
 .rw[aI (λh=>hl (by rw[h]))];simp only[go_sem,iM,aE hl];exact ah
 simp only[go_sem,iM,ay hl];refine aA (λj:Nat=>⟨[(14,.int .i64 j),(13,.int .i64 a.length),(12,.sl 1 (a.map aS)),(1,.sl 1 (b.map aS))],[]⟩) (λj=>j<=a.length/\∀k,k<j->av a k=av b k) (λj=>a.length-j) 0 ⟨dx _,λk hk=>by omega⟩ (Wk.of ?_ ?_) ?_
 .simp only[go_sem,hl];try simp
 .simp only[go_sem]
 rintro j ⟨hj,hx⟩;by_cases h1:(j:Int)<(a.length:Int);rotate_left
 .rw[aF (T9 (by omega) λk hk=>hx k (by omega))];simp only[go_sem,aI h1];exact ah
 have hj':j<a.length:=by omega
 have hjb:(j:Int)<(b.length:Int):=by omega
 have e8:=cK hj' (by omega);by_cases h2:av a j=av b j
 .simp only[go_sem,aF h1,ay h2];refine⟨by omega,h1,by omega,hjb,aH (j+1) ⟨show j+1<=a.length by omega,λk hk=>?_⟩ (show a.length-(j+1)<a.length-j by omega) (Wk.of ?_ ?_)⟩
  .rcases kU k j with h|h
   .exact hx k h
   .rw[show k=j by omega];exact h2
  .simp only[go_sem,e8];try simp
  .simp only[go_sem]
 .rw[aI (λe=>h2 (by rw[e]))];simp only[go_sem,aF h1,aE h2];refine⟨by omega,h1,by omega,hjb,?_⟩;exact ah
def aaE(a b:List Int)(ha:a.length<=9223372036854775807):aj pg A5 [.sl 1 (a.map aS),.sl 1 (b.map aS)] (.bool (decide (a=b))):=by
 refine ao pT ?_;simp only[go_sem,pT];refine aa (afe a b ha) ?_;exact ah
end
section
def ez(S:Sk)(l:List Int):(S.want l).2.u=S.u/\(S.want l).2.all.length<=S.all.length:=by
 unfold Sk.want;cases h:S.left l with
 | mk o e =>
  cases o with
  | none=>exact⟨rfl,aQ _⟩
  | some r =>
   obtain⟨_,q,hq⟩:=AT h;refine⟨rfl,?_⟩;show(bI S.u++r.reverse).length<=_;rw[jj,hq];simp only[dN];omega
def Bh(S:Sk)(l:List Int):(S.shut l).2.u.length<=S.u.length/\(S.shut l).2.all.length<=S.all.length:=by
 unfold Sk.shut;split
 .exact⟨aQ _,aQ _⟩
 .exact⟨aQ _,aQ _⟩
 .have ha:S.all.length=(bI S.u).length+S.t.l.length:=by rw[jj,dN]
  split
  .rename_i hu;refine⟨aQ _,?_⟩;show(bI S.u++[]).length<=_;rw[ml];omega
  .rename_i g r hu;refine⟨by rw[hu];simp,?_⟩;show(bI (g::r)).length<=_;rw[<-hu];omega
structure xC(n:Nat)(C:Ct):Prop where
 u:C.s.u.length<=n
 l:C.s.all.length<=n
 b:C.bs.length<=n
 r:C.rs.length<=1000
 t:∀b∈C.bs,b.t.ps.length<=1000/\b.t.rs.length<=1000
def xC.top{n:Nat}{C:Ct}(h:xC n C)(h0:C.bs≠[]):C.top.t.ps.length<=1000/\C.top.t.rs.length<=1000:=by
 have hpos:0<C.bs.length:=ME.2 h0;refine h.t _ ?_;unfold Ct.top;rw[aY (by omega)];exact eH _
def XJ(C:Ct):av C.bs (C.bs.length-1)=C.top:=rfl
attribute[local go_sem] bY zW zY zZ zX qx DB DC BW BX pW aW
def aeN(hLeft:fK)(C:Ct)(h:xC 800000 C):H2 yd [] C (.int .i64 C.els.1) C.els.2:=by
 refine b_ dv ?_;have hu:=h.u;have hl:=h.l;have hb:=h.b;unfold Ct.els;by_cases e1:C.br=0;rotate_left
 .rw[az e1];simp only[go_sem,dv];refine aO (dn C) (by simp only[go_sem]) (by simp only[go_sem]) (by simp only[go_sem]) (by simp only[go_sem]) (by simp only[go_sem]) (by simp only[go_sem]) ?_;simp only[go_sem,aE e1];exact aZ [] _ (gA C) ⟨rfl,rfl⟩
 rw[an (λq=>q e1)];by_cases e2:C.bs.length=0
 .rw[az (.inl e2)];simp only[go_sem,dv];refine aO (dn C) (by simp only[go_sem]) (by simp only[go_sem]) (by simp only[go_sem]) (by simp only[go_sem]) (by simp only[go_sem]) (by simp only[go_sem]) ?_;simp only[go_sem,ay e1,aD (show(C.bs.length:Int)=0 by omega)];exact aZ [] _ (gA C) ⟨rfl,rfl⟩
 have hne:C.bs≠[]:=λq=>e2 (by rw[q];rfl);have hw:IntKind.i64.wrap ((C.bs.length:Int)-1)=((C.bs.length-1:Nat):Int):=by rw[wi (by omega) (by omega)];omega
 have htop:=XJ C;have e2':¬(C.bs.length:Int)=0:=by omega
 by_cases e3:C.top.k=4;rotate_left
 .rw[az (.inr (.inl e3))];simp only[go_sem,dv];refine aO (dn C) (by simp only[go_sem]) (by simp only[go_sem]) (by simp only[go_sem]) (by simp only[go_sem]) (by simp only[go_sem]) (by simp only[go_sem]) ?_;simp only[go_sem,ay e1,ac e2',hw,cL,dk,htop,aE e3];refine⟨⟨by omega,by omega⟩,by omega,?_⟩;exact aZ [] _ (gA C) ⟨rfl,rfl⟩
 cases e4:C.top.ot;rotate_left
 .rw[az (.inr (.inr rfl))];simp only[go_sem,dv];refine aO (dn C) (by simp only[go_sem]) (by simp only[go_sem]) (by simp only[go_sem]) (by simp only[go_sem]) (by simp only[go_sem]) (by simp only[go_sem]) ?_;simp only[go_sem,ay e1,ac e2',hw,cL,dk,htop,ay e3,e4];refine⟨⟨by omega,by omega⟩,by omega,⟨by omega,by omega⟩,by omega,?_⟩;exact aZ [] _ (gA C) ⟨rfl,rfl⟩
 rw[an (by rintro(q|q|q);exact e2 q;exact q e3;cases q)];obtain⟨t1,t2⟩:=h.top hne;have ks:=Vd C.s C.top.t.rs (by omega) (by omega) (hLeft _ _ (by omega) (by omega) (by omega));obtain⟨b1,b2⟩:=Bh C.s C.top.t.rs;generalize C.s.shut C.top.t.rs=R at ks b1 b2⊢;obtain⟨e,S1⟩:=R;dsimp only at ks b1 b2⊢;by_cases e5:e=0;rotate_left
 .rw[az e5];have kb:=rf {C with s:=S1} e;simp only[go_sem,dv];refine aO (dn C) (by simp only[go_sem]) (by simp only[go_sem]) (by simp only[go_sem]) (by simp only[go_sem]) (by simp only[go_sem]) (by simp only[go_sem]) ?_;simp only[go_sem,ay e1,ac e2',hw,cL,dk,htop,ay e3,e4];refine⟨⟨by omega,by omega⟩,by omega,⟨by omega,by omega⟩,by omega,⟨by omega,by omega⟩,by omega,?_⟩;refine aU (ks) (by simp only[go_sem]) (by simp only[go_sem]) (by simp only[go_sem]) (by simp only[go_sem]) ?_;simp only[go_sem,aE e5];refine aO (kb) (by simp only[go_sem]) (by simp only[go_sem]) (by simp only[go_sem]) (by simp only[go_sem]) (by simp only[go_sem]) (by simp only[go_sem]) ?_;simp only[go_sem];exact done [] _ (gA (({C with s:=S1}:Ct).broke e).2) (by simp only[go_sem,Ct.broke]) (by simp only[go_sem,Ct.broke]) rfl ⟨rfl,rfl⟩
 rw[an (λq=>q e5)];have kp:=Va {C with s:=S1} hne (show C.bs.length<900000 by omega);have kg:=CX {C with s:=S1,bs:=C.bs.dropLast} {C.top with ot:=true} (by show S1.u.length<900000;omega) (by show S1.all.length<900000;omega) (by show C.bs.dropLast.length<900000;rw[List.length_dropLast];omega) (by show C.top.t.ps.length<900000;omega);rw[show({C with s:=S1}:Ct).top=C.top from rfl]at kp;simp only[pW]at kp kg;simp only[go_sem,dv];refine aO (dn C) (by simp only[go_sem]) (by simp only[go_sem]) (by simp only[go_sem]) (by simp only[go_sem]) (by simp only[go_sem]) (by simp only[go_sem]) ?_;simp only[go_sem,ay e1,ac e2',hw,cL,dk,htop,ay e3,e4];refine⟨⟨by omega,by omega⟩,by omega,⟨by omega,by omega⟩,by omega,⟨by omega,by omega⟩,by omega,?_⟩;refine aU (ks) (by simp only[go_sem]) (by simp only[go_sem]) (by simp only[go_sem]) (by simp only[go_sem]) ?_;simp only[go_sem,ay e5];refine aO (kp) (by simp only[go_sem]) (by simp only[go_sem]) (by simp only[go_sem]) (by simp only[go_sem]) (by simp only[go_sem]) (by simp only[go_sem]) ?_;simp only[go_sem];refine aO (kg) (by simp only[go_sem]) (by simp only[go_sem]) (by simp only[go_sem]) (by simp only[go_sem]) (by simp only[go_sem]) (by simp only[go_sem]) ?_;simp only[go_sem];exact aZ [] _ (gA (({C with s:=S1,bs:=C.bs.dropLast}:Ct).begin {C.top with ot:=true})) ⟨rfl,rfl⟩
def aab(hLeft:fK)(C:Ct)(h:xC 800000 C):H2 vS [] C (.int .i64 C.leave.1) C.leave.2:=by
 refine b_ eD ?_;have hu:=h.u;have hl:=h.l;have hb:=h.b;unfold Ct.leave;by_cases e1:C.br=0;rotate_left
 .rw[az e1];simp only[go_sem,eD];refine aO (dn C) (by simp only[go_sem]) (by simp only[go_sem]) (by simp only[go_sem]) (by simp only[go_sem]) (by simp only[go_sem]) (by simp only[go_sem]) ?_;simp only[go_sem,aE e1];exact aZ [] _ (gA C) ⟨rfl,rfl⟩
 rw[an (λq=>q e1)];by_cases e2:C.bs.length=0
 .rw[az e2];simp only[go_sem,eD];refine aO (dn C) (by simp only[go_sem]) (by simp only[go_sem]) (by simp only[go_sem]) (by simp only[go_sem]) (by simp only[go_sem]) (by simp only[go_sem]) ?_;simp only[go_sem,ay e1,aD (show(C.bs.length:Int)=0 by omega)];exact aZ [] _ (gA C) ⟨rfl,rfl⟩
 rw[an e2];have hne:C.bs≠[]:=λq=>e2 (by rw[q];rfl);have hw:IntKind.i64.wrap ((C.bs.length:Int)-1)=((C.bs.length-1:Nat):Int):=by rw[wi (by omega) (by omega)];omega
 have htop:=XJ C;have e2':¬(C.bs.length:Int)=0:=by omega
 obtain⟨t1,t2⟩:=h.top hne;have ks:=Vd C.s C.top.t.rs (by omega) (by omega) (hLeft _ _ (by omega) (by omega) (by omega));obtain⟨b1,b2⟩:=Bh C.s C.top.t.rs;generalize C.s.shut C.top.t.rs=R at ks b1 b2⊢;obtain⟨e,S1⟩:=R;dsimp only at ks b1 b2⊢;by_cases e5:e=0;rotate_left
 .rw[az e5];have kb:=rf {C with s:=S1} e;simp only[go_sem,eD];refine aO (dn C) (by simp only[go_sem]) (by simp only[go_sem]) (by simp only[go_sem]) (by simp only[go_sem]) (by simp only[go_sem]) (by simp only[go_sem]) ?_;simp only[go_sem,ay e1,ac e2',hw,cL,dk,htop];refine⟨⟨by omega,by omega⟩,by omega,?_⟩;refine aU (ks) (by simp only[go_sem]) (by simp only[go_sem]) (by simp only[go_sem]) (by simp only[go_sem]) ?_;simp only[go_sem,aE e5];refine aO (kb) (by simp only[go_sem]) (by simp only[go_sem]) (by simp only[go_sem]) (by simp only[go_sem]) (by simp only[go_sem]) (by simp only[go_sem]) ?_;simp only[go_sem];exact done [] _ (gA (({C with s:=S1}:Ct).broke e).2) (by simp only[go_sem,Ct.broke]) (by simp only[go_sem,Ct.broke]) rfl ⟨rfl,rfl⟩
 rw[an (λq=>q e5)];have kp:=Va {C with s:=S1} hne (show C.bs.length<900000 by omega);rw[show({C with s:=S1}:Ct).top=C.top from rfl]at kp;simp only[pW]at kp;have kv:=aaE C.top.t.ps C.top.t.rs (by omega);have kq:=x8 S1 C.top.t.rs (by omega) (by omega) (by omega);have kb:=rf {C with s:=S1,bs:=C.bs.dropLast} 12;simp only[go_sem,eD];refine aO (dn C) (by simp only[go_sem]) (by simp only[go_sem]) (by simp only[go_sem]) (by simp only[go_sem]) (by simp only[go_sem]) (by simp only[go_sem]) ?_;simp only[go_sem,ay e1,ac e2',hw,cL,dk,htop];refine⟨⟨by omega,by omega⟩,by omega,?_⟩;refine aU (ks) (by simp only[go_sem]) (by simp only[go_sem]) (by simp only[go_sem]) (by simp only[go_sem]) ?_;simp only[go_sem,ay e5];refine aO (kp) (by simp only[go_sem]) (by simp only[go_sem]) (by simp only[go_sem]) (by simp only[go_sem]) (by simp only[go_sem]) (by simp only[go_sem]) ?_;simp only[go_sem];by_cases e3:C.top.k=4;rotate_left
 .rw[an (λq=>e3 q.1)];simp only[go_sem,ac e3];refine aU (kq) (by simp only[go_sem]) (by simp only[go_sem]) (by simp only[go_sem]) (by simp only[go_sem]) ?_;simp only[go_sem];exact aZ [] _ (gA {C with s:=S1.push C.top.t.rs,bs:=C.bs.dropLast,lv:=C.top.lv}) ⟨rfl,rfl⟩
 cases e4:C.top.ot;rotate_left
 .rw[an (λq=>by cases q.2.1)];simp only[go_sem,aD e3];refine aU (kq) (by simp only[go_sem]) (by simp only[go_sem]) (by simp only[go_sem]) (by simp only[go_sem]) ?_;simp only[go_sem];exact aZ [] _ (gA {C with s:=S1.push C.top.t.rs,bs:=C.bs.dropLast,lv:=C.top.lv}) ⟨rfl,rfl⟩
 simp only[go_sem,aD e3];refine ae (kv) ?_;by_cases e6:C.top.t.ps=C.top.t.rs
 .rw[an (λq=>q.2 e6)];simp only[go_sem,aF e6];refine aU (kq) (by simp only[go_sem]) (by simp only[go_sem]) (by simp only[go_sem]) (by simp only[go_sem]) ?_;simp only[go_sem];exact aZ [] _ (gA {C with s:=S1.push C.top.t.rs,bs:=C.bs.dropLast,lv:=C.top.lv}) ⟨rfl,rfl⟩
 .rw[az ⟨e3,e6⟩];simp only[go_sem,aI e6];refine aO (kb) (by simp only[go_sem]) (by simp only[go_sem]) (by simp only[go_sem]) (by simp only[go_sem]) (by simp only[go_sem]) (by simp only[go_sem]) ?_;simp only[go_sem];exact done [] _ (gA (({C with s:=S1,bs:=C.bs.dropLast}:Ct).broke 12).2) (by simp only[go_sem,Ct.broke]) (by simp only[go_sem,Ct.broke]) rfl ⟨rfl,rfl⟩
def Ir(C:Ct)(h:xC 800000 C):H2 yc [] C (.tup []) C.dead:=by
 refine b_ gK ?_;have hu:=h.u;have hl:=h.l;unfold Ct.dead;have kl:=aac C.s (by omega) (by omega);by_cases e1:C.br=0;rotate_left
 .rw[az (.inl e1)];simp only[go_sem,gK];refine aO (dn C) (by simp only[go_sem]) (by simp only[go_sem]) (by simp only[go_sem]) (by simp only[go_sem]) (by simp only[go_sem]) (by simp only[go_sem]) ?_;simp only[go_sem,aE e1];exact aZ [] _ (gA C) ⟨rfl,rfl⟩
 by_cases e2:C.bs.length=0
 .rw[az (.inr e2)];simp only[go_sem,gK];refine aO (dn C) (by simp only[go_sem]) (by simp only[go_sem]) (by simp only[go_sem]) (by simp only[go_sem]) (by simp only[go_sem]) (by simp only[go_sem]) ?_;simp only[go_sem,ay e1,aD (show(C.bs.length:Int)=0 by omega)];exact aZ [] _ (gA C) ⟨rfl,rfl⟩
 rw[an (by rintro(q|q);exact q e1;exact e2 q)];simp only[go_sem,gK];refine aO (dn C) (by simp only[go_sem]) (by simp only[go_sem]) (by simp only[go_sem]) (by simp only[go_sem]) (by simp only[go_sem]) (by simp only[go_sem]) ?_;simp only[go_sem,ay e1,ac (show ¬(C.bs.length:Int)=0 by omega)];refine aU (kl) (by simp only[go_sem]) (by simp only[go_sem]) (by simp only[go_sem]) (by simp only[go_sem]) ?_;simp only[go_sem];exact zi [] _ (gA {C with s:=C.s.loose,lv:=false}) ⟨rfl,rfl⟩
def aaa(hLeft:fK)(C:Ct)(h:xC 800000 C)(op:Int)(t:Ft)(ht:t.ps.length<=1000/\t.rs.length<=1000):H2 vQ [.int .i64 op,.agg (pt t)] C (.int .i64 (C.enter op t).1) (C.enter op t).2:=by
 refine b_ c_ ?_;have hu:=h.u;have hl:=h.l;have hb:=h.b;obtain⟨ht1,ht2⟩:=ht;unfold Ct.enter;by_cases e1:C.br=0;rotate_left
 .rw[az e1];simp only[go_sem,c_];refine aO (dn C) (by simp only[go_sem]) (by simp only[go_sem]) (by simp only[go_sem]) (by simp only[go_sem]) (by simp only[go_sem]) (by simp only[go_sem]) ?_;simp only[go_sem,aE e1];exact aZ [] _ (gA C) ⟨rfl,rfl⟩
 rw[an (λq=>q e1)];by_cases e2:op=2\/op=3\/op=4;rotate_left
 .have n2:¬op=2:=λq=>e2 (.inl q);have n3:¬op=3:=λq=>e2 (.inr (.inl q));have n4:¬op=4:=λq=>e2 (.inr (.inr q));rw[az ⟨n2,n3,n4⟩];simp only[go_sem,c_];refine aO (dn C) (by simp only[go_sem]) (by simp only[go_sem]) (by simp only[go_sem]) (by simp only[go_sem]) (by simp only[go_sem]) (by simp only[go_sem]) ?_;simp only[go_sem,ay e1,aE n2,aE n3,aE n4];exact aZ [] _ (gA C) ⟨rfl,rfl⟩
 rw[an (by rintro⟨n2,n3,n4⟩;rcases e2 with q|q|q;exact n2 q;exact n3 q;exact n4 q)];by_cases e3:C.bs.length=0
 .rw[az e3];rcases e2 with rfl|rfl|rfl
  all_goals
   simp only[go_sem,c_];refine aO (dn C) (by simp only[go_sem]) (by simp only[go_sem]) (by simp only[go_sem]) (by simp only[go_sem]) (by simp only[go_sem]) (by simp only[go_sem]) ?_;simp only[go_sem,ay e1,aD (show(C.bs.length:Int)=0 by omega)];exact aZ [] _ (gA C) ⟨rfl,rfl⟩
 rw[an e3];have e3':¬(C.bs.length:Int)=0:=by omega
 rcases e2 with rfl|rfl|rfl;rotate_left 2
 .have kw:=pu C.s [1] (hLeft _ _ (by omega) (by omega) (by simp));obtain⟨b1,b2⟩:=ez C.s [1];generalize C.s.want [1]=R at kw b1 b2⊢;obtain⟨e,S1⟩:=R;dsimp only at kw b1 b2⊢;rw[az rfl];by_cases e5:e=0;rotate_left
  .rw[az e5];have kb:=rf {C with s:=S1} e;simp only[go_sem,c_];refine aO (dn C) (by simp only[go_sem]) (by simp only[go_sem]) (by simp only[go_sem]) (by simp only[go_sem]) (by simp only[go_sem]) (by simp only[go_sem]) ?_;simp only[go_sem,ay e1,ac e3'];refine be (eJ.frzs [39] _ _) ?_;simp only[go_sem];refine aU (kw) (by simp only[go_sem]) (by simp only[go_sem]) (by simp only[go_sem]) (by simp only[go_sem]) ?_;simp only[go_sem,aE e5];refine aO (kb) (by simp only[go_sem]) (by simp only[go_sem]) (by simp only[go_sem]) (by simp only[go_sem]) (by simp only[go_sem]) (by simp only[go_sem]) ?_;simp only[go_sem];exact done [] _ (gA (({C with s:=S1}:Ct).broke e).2) (by simp only[go_sem,Ct.broke]) (by simp only[go_sem,Ct.broke]) rfl ⟨rfl,rfl⟩
  rw[an (λq=>q e5)];simp only[go_sem,c_];refine aO (dn C) (by simp only[go_sem]) (by simp only[go_sem]) (by simp only[go_sem]) (by simp only[go_sem]) (by simp only[go_sem]) (by simp only[go_sem]) ?_;simp only[go_sem,ay e1,ac e3'];refine be (eJ.frzs [39] _ _) ?_;simp only[go_sem];refine aU (kw) (by simp only[go_sem]) (by simp only[go_sem]) (by simp only[go_sem]) (by simp only[go_sem]) ?_;simp only[go_sem,ay e5];obtain⟨op',hop⟩:∃o:Int,o=4:=⟨_,rfl⟩
  rw[<-hop];have kp:=pu S1 t.ps (hLeft _ _ (by rw[b1];omega) (by omega) (by omega));obtain⟨b3,b4⟩:=ez S1 t.ps;unfold Ct.enter2;dsimp only;generalize S1.want t.ps=R at kp b3 b4⊢;obtain⟨e',S2⟩:=R;dsimp only at kp b3 b4⊢;refine aU (kp) (by simp only[go_sem]) (by simp only[go_sem]) (by simp only[go_sem]) (by simp only[go_sem]) ?_;by_cases e6:e'=0;rotate_left
  .rw[az e6];have kb':=rf {C with s:=S2} e';simp only[go_sem,aE e6];refine aO (kb') (by simp only[go_sem]) (by simp only[go_sem]) (by simp only[go_sem]) (by simp only[go_sem]) (by simp only[go_sem]) (by simp only[go_sem]) ?_;simp only[go_sem];exact done [] _ (gA (({C with s:=S2}:Ct).broke e').2) (by simp only[go_sem,Ct.broke]) (by simp only[go_sem,Ct.broke]) rfl ⟨rfl,rfl⟩
  rw[an (λq=>q e6)];have kg:=CX {C with s:=S2} ⟨op',t,false,C.lv⟩ (by show S2.u.length<900000;rw[b3,b1];omega) (by show S2.all.length<900000;omega) (by show C.bs.length<900000;omega) (by show t.ps.length<900000;omega);simp only[pW]at kg;simp only[go_sem,ay e6];refine ax (pp (t.ps.map aS) (by rw[bY];omega)) (by simp[go_sem]) rfl ?_;simp only[go_sem];refine aa (pp (t.rs.map aS) (by rw[bY];omega)) ?_;refine aO (kg) (by simp only[go_sem]) (by simp only[go_sem]) (by simp only[go_sem]) (by simp only[go_sem]) (by simp only[go_sem]) (by simp only[go_sem]) ?_;simp only[go_sem];exact aZ [] _ (gA (({C with s:=S2}:Ct).begin ⟨op',t,false,C.lv⟩)) ⟨rfl,rfl⟩
 all_goals
  rw[an (by decide)];simp only[go_sem,c_];refine aO (dn C) (by simp only[go_sem]) (by simp only[go_sem]) (by simp only[go_sem]) (by simp only[go_sem]) (by simp only[go_sem]) (by simp only[go_sem]) ?_;simp only[go_sem,ay e1,ac e3'];obtain⟨S1,hS⟩:∃S1,S1=C.s:=⟨_,rfl⟩
  obtain⟨b1,b2⟩:S1.u=C.s.u/\S1.all.length<=C.s.all.length:=by rw[hS];exact⟨rfl,aQ _⟩
  rw[<-hS]
  first
   | rw[show C.enter2 2 t=({C with s:=S1}:Ct).enter2 2 t by rw[hS]]
     obtain⟨op',hop⟩:∃o:Int,o=2:=⟨_,rfl⟩
     rw[<-hop];have kp:=pu S1 t.ps (hLeft _ _ (by rw[b1];omega) (by omega) (by omega));obtain⟨b3,b4⟩:=ez S1 t.ps;unfold Ct.enter2;dsimp only;generalize S1.want t.ps=R at kp b3 b4⊢;obtain⟨e',S2⟩:=R;dsimp only at kp b3 b4⊢;refine aU (kp) (by simp only[go_sem]) (by simp only[go_sem]) (by simp only[go_sem]) (by simp only[go_sem]) ?_;by_cases e6:e'=0;rotate_left
     .rw[az e6];have kb':=rf {C with s:=S2} e';simp only[go_sem,aE e6];refine aO (kb') (by simp only[go_sem]) (by simp only[go_sem]) (by simp only[go_sem]) (by simp only[go_sem]) (by simp only[go_sem]) (by simp only[go_sem]) ?_;simp only[go_sem];exact done [] _ (gA (({C with s:=S2}:Ct).broke e').2) (by simp only[go_sem,Ct.broke]) (by simp only[go_sem,Ct.broke]) rfl ⟨rfl,rfl⟩
     rw[an (λq=>q e6)];have kg:=CX {C with s:=S2} ⟨op',t,false,C.lv⟩ (by show S2.u.length<900000;rw[b3,b1];omega) (by show S2.all.length<900000;omega) (by show C.bs.length<900000;omega) (by show t.ps.length<900000;omega);simp only[pW]at kg;simp only[go_sem,ay e6];refine ax (pp (t.ps.map aS) (by rw[bY];omega)) (by simp[go_sem]) rfl ?_;simp only[go_sem];refine aa (pp (t.rs.map aS) (by rw[bY];omega)) ?_;refine aO (kg) (by simp only[go_sem]) (by simp only[go_sem]) (by simp only[go_sem]) (by simp only[go_sem]) (by simp only[go_sem]) (by simp only[go_sem]) ?_;simp only[go_sem];exact aZ [] _ (gA (({C with s:=S2}:Ct).begin ⟨op',t,false,C.lv⟩)) ⟨rfl,rfl⟩
   | rw[show C.enter2 3 t=({C with s:=S1}:Ct).enter2 3 t by rw[hS]]
     obtain⟨op',hop⟩:∃o:Int,o=3:=⟨_,rfl⟩
     rw[<-hop];have kp:=pu S1 t.ps (hLeft _ _ (by rw[b1];omega) (by omega) (by omega));obtain⟨b3,b4⟩:=ez S1 t.ps;unfold Ct.enter2;dsimp only;generalize S1.want t.ps=R at kp b3 b4⊢;obtain⟨e',S2⟩:=R;dsimp only at kp b3 b4⊢;refine aU (kp) (by simp only[go_sem]) (by simp only[go_sem]) (by simp only[go_sem]) (by simp only[go_sem]) ?_;by_cases e6:e'=0;rotate_left
     .rw[az e6];have kb':=rf {C with s:=S2} e';simp only[go_sem,aE e6];refine aO (kb') (by simp only[go_sem]) (by simp only[go_sem]) (by simp only[go_sem]) (by simp only[go_sem]) (by simp only[go_sem]) (by simp only[go_sem]) ?_;simp only[go_sem];exact done [] _ (gA (({C with s:=S2}:Ct).broke e').2) (by simp only[go_sem,Ct.broke]) (by simp only[go_sem,Ct.broke]) rfl ⟨rfl,rfl⟩
     rw[an (λq=>q e6)];have kg:=CX {C with s:=S2} ⟨op',t,false,C.lv⟩ (by show S2.u.length<900000;rw[b3,b1];omega) (by show S2.all.length<900000;omega) (by show C.bs.length<900000;omega) (by show t.ps.length<900000;omega);simp only[pW]at kg;simp only[go_sem,ay e6];refine ax (pp (t.ps.map aS) (by rw[bY];omega)) (by simp[go_sem]) rfl ?_;simp only[go_sem];refine aa (pp (t.rs.map aS) (by rw[bY];omega)) ?_;refine aO (kg) (by simp only[go_sem]) (by simp only[go_sem]) (by simp only[go_sem]) (by simp only[go_sem]) (by simp only[go_sem]) (by simp only[go_sem]) ?_;simp only[go_sem];exact aZ [] _ (gA (({C with s:=S2}:Ct).begin ⟨op',t,false,C.lv⟩)) ⟨rfl,rfl⟩
def Pi(C:Ct)(h:xC 900000 C)(i:Int):H2 vR [.int .i64 i] C (.tup [.sl 1 ((C.label i).1.map aS),.int .i64 (C.label i).2]) C:=by
 refine b_ eB ?_;have hb:=h.b;unfold Ct.label;by_cases e1:C.br=0;rotate_left
 .rw[az e1];simp only[go_sem,eB];refine aO (dn C) (by simp only[go_sem]) (by simp only[go_sem]) (by simp only[go_sem]) (by simp only[go_sem]) (by simp only[go_sem]) (by simp only[go_sem]) ?_;simp only[go_sem,aE e1];exact vh (Wk.nls _ 4 1 (by rfl)) [] _ (gA C) (by simp only[go_sem]) (by simp only[go_sem]) rfl ⟨rfl,rfl⟩
 rw[an (λq=>q e1)];by_cases e2:i<0
 .rw[az (.inl e2)];simp only[go_sem,eB];refine aO (dn C) (by simp only[go_sem]) (by simp only[go_sem]) (by simp only[go_sem]) (by simp only[go_sem]) (by simp only[go_sem]) (by simp only[go_sem]) ?_;simp only[go_sem,ay e1,aF e2];exact vh (Wk.nls _ 4 1 (by rfl)) [] _ (gA C) (by simp only[go_sem]) (by simp only[go_sem]) rfl ⟨rfl,rfl⟩
 by_cases e3:i>=C.bs.length
 .rw[az (.inr e3)];simp only[go_sem,eB];refine aO (dn C) (by simp only[go_sem]) (by simp only[go_sem]) (by simp only[go_sem]) (by simp only[go_sem]) (by simp only[go_sem]) (by simp only[go_sem]) ?_;simp only[go_sem,ay e1,aI e2,aF e3];exact vh (Wk.nls _ 4 1 (by rfl)) [] _ (gA C) (by simp only[go_sem]) (by simp only[go_sem]) rfl ⟨rfl,rfl⟩
 rw[an (by omega)];obtain⟨n,rfl⟩:∃n:Nat,i=(n:Int):=⟨i.toNat,by omega⟩
 have hn:n<C.bs.length:=by omega
 have w1:IntKind.i64.wrap ((C.bs.length:Int)-1)=((C.bs.length-1:Nat):Int):=by rw[wi (by omega) (by omega)];omega
 have w2:IntKind.i64.wrap (((C.bs.length-1:Nat):Int)-n)=((C.bs.length-1-n:Nat):Int):=by rw[wi (by omega) (by omega)];omega
 rw[cL];have hm:=h.t (av C.bs (C.bs.length-1-n)) (by rw[aY (by omega)];exact eH _);generalize hB:av C.bs (C.bs.length-1-n)=B at hm⊢;simp only[go_sem,eB];refine aO (dn C) (by simp only[go_sem]) (by simp only[go_sem]) (by simp only[go_sem]) (by simp only[go_sem]) (by simp only[go_sem]) (by simp only[go_sem]) ?_;simp only[go_sem,ay e1,aI e2,aI e3,w1,w2,cL,dk,hB];refine⟨⟨by omega,by omega⟩,by omega,?_⟩;by_cases e4:B.k=3
 .rw[az e4];simp only[go_sem,aD e4];refine aa (pp (B.t.ps.map aS) (by rw[bY];omega)) ?_;exact aZ [] _ (gA C) ⟨rfl,rfl⟩
 .rw[an e4];simp only[go_sem,ac e4];refine aa (pp (B.t.rs.map aS) (by rw[bY];omega)) ?_;exact aZ [] _ (gA C) ⟨rfl,rfl⟩
def aeQ(C:Ct)(h:xC 900000 C):H2 uH [] C (.sl 1 (C.retn.map aS)) C:=by
 refine b_ iH ?_;have hr:=h.r;unfold Ct.retn;by_cases e1:C.br=0;rotate_left
 .rw[az e1];simp only[go_sem,iH];refine aO (dn C) (by simp only[go_sem]) (by simp only[go_sem]) (by simp only[go_sem]) (by simp only[go_sem]) (by simp only[go_sem]) (by simp only[go_sem]) ?_;simp only[go_sem,aE e1];exact vh (Wk.nls _ 2 1 (by rfl)) [] _ (gA C) (by simp only[go_sem]) (by simp only[go_sem]) rfl ⟨rfl,rfl⟩
 rw[an (λq=>q e1)];simp only[go_sem,iH];refine aO (dn C) (by simp only[go_sem]) (by simp only[go_sem]) (by simp only[go_sem]) (by simp only[go_sem]) (by simp only[go_sem]) (by simp only[go_sem]) ?_;simp only[go_sem,ay e1];refine aa (pp (C.rs.map aS) (by rw[bY];omega)) ?_;exact aZ [] _ (gA C) ⟨rfl,rfl⟩
end
section
def ahO{a b c d id:Nat}(h1:id≠a)(h2:id≠b)(h3:id≠c)(h4:id≠d):bw [(a,b),(c,d)] id=id:=by simp[bw,sU,h1,h2,h3,h4]
def Yd(S:Sk):List (Nat×au):=[(902,MN S.all.length (cu (S.t::S.u)).length S.ov),(2001,P7 S.all),(2002,P6 (cu (S.t::S.u)))]
def acY(S:Sk):Yd S=[(902,MN S.all.length (cu (S.t::S.u)).length S.ov),(2001,P7 S.all),(2002,P6 (cu (S.t::S.u)))]:=rfl
def sk0:Sk:=⟨⟨[],false⟩,[],false⟩
attribute[local go_sem] bY zW zY zZ zX qx DB DC BW BX pW aW afR acY
def aeR:bA pg Lz [] [] P3 (λr' σ'=>r' = .mp 902 3 0 0/\σ'=Yd sk0):=by
 refine b_ BO ?_;simp only[go_sem,BO];refine vh (((Wk.new0 _ 2001 1 48 (by decide)).trans (Wk.nlm _ 4 (r:=[.nl,.ms 2 2 0 1,.bool false]) (r':=[.ms 2001 1 0 0,.ms 2 2 0 1,.bool false]) (by rfl) ⟨.inr ⟨rfl,.inr ⟨2001,1,rfl⟩⟩,.inl rfl,.inl rfl,trivial⟩)).trans (Wk.ren _ [(4,902),(2,2002)] (λid h1 h2=>?_))) [] _ (Yd sk0) ?_ ?_ rfl ⟨rfl,rfl⟩
 .exact ahO (by omega) (by omega) (by omega) (by omega)
 .rfl
 .exact⟨rfl,rfl,rfl,trivial⟩
def ctQ(n:Nat)(rs:List Int)(lv:Bool)(br:Int):au:=⟨214,5,[[.mp 902 3 0 0,.ms 2000 5 0 n,.sl 1 (rs.map aS),.bool lv,.int .i64 br]],true⟩
def ah3(n:Nat)(rs:List Int)(lv:Bool)(br:Int):ctQ n rs lv br =⟨214,5,[[.mp 902 3 0 0,.ms 2000 5 0 n,.sl 1 (rs.map aS),.bool lv,.int .i64 br]],true⟩:=rfl
def TS(C:Ct):List (Nat×au):=[(901,ctQ C.bs.length C.rs C.lv C.br),(2000,ctB C.bs),(902,MN C.s.all.length (cu (C.s.t::C.s.u)).length C.s.ov),(2001,P7 C.s.all),(2002,P6 (cu (C.s.t::C.s.u)))]
def ah2(C:Ct):TS C=[(901,ctQ C.bs.length C.rs C.lv C.br),(2000,ctB C.bs),(902,MN C.s.all.length (cu (C.s.t::C.s.u)).length C.s.ov),(2001,P7 C.s.all),(2002,P6 (cu (C.s.t::C.s.u)))]:=rfl
def OO{f:FuncId}{rest:List AV}{S S':Sk}{r r3:AV}(h:MR f rest S r S'){args:List AV}{d:Option Nat}{s:St}{K:St->Prop}(ha:args = .mp 902 3 0 0::rest)(hr:rest.map (jI (bw [(1001,902)]))=rest)(h3:jI (fw [(1001,902)]) r=r3)(h1:ak s.heap 902=some (MN S.all.length (cu (S.t::S.u)).length S.ov))(h2:ak s.heap 2001=some (P7 S.all))(h3':ak s.heap 2002=some (P6 (cu (S.t::S.u))))
  (hk:K ((St.mk (jG [2001,2002] s.env) (Yd S'++jm [2001,2002] s.heap)).put d r3)):cO pg f args d s K:=by
 subst ha;refine dU (σ2:=Yd S) (σ3:=Yd S') h [(1001,902)] [2001,2002] ?_ rfl h3 rfl (λp hp=>?_) (λp hp=>?_) (λp hp=>?_) hk
 .rw[cM,hr];rfl
 .simp only[Yd,bM,cH,or_false]at hp;rcases hp with rfl|rfl|rfl
  .exact h1
  .exact h2
  .exact h3'
 .simp only[Yd,bM,cH,or_false]at hp;rcases hp with rfl|rfl|rfl
  .exact .inl ⟨⟨show 1000<=1001 by decide,show 1001<2000 by decide⟩,rfl⟩
  .exact .inr ⟨by simp,.inr (show 2000<=2001 by decide),.inl rfl⟩
  .exact .inr ⟨by simp,.inr (show 2000<=2002 by decide),.inl rfl⟩
 .simp only[Yd,bM,cH,or_false]at hp;rcases hp with rfl|rfl|rfl<;>rfl
def Ib{f:FuncId}{rest:List AV}{C C':Ct}{r r3:AV}(h:H2 f rest C r C'){args:List AV}{d:Option Nat}{s:St}{K:St->Prop}(ha:args = .mp 901 5 0 0::rest)(hr:rest.map (jI (bw [(1000,901),(1001,902)]))=rest)(h3:jI (fw [(1000,901),(1001,902)]) r=r3)(g1:ak s.heap 901=some (ctQ C.bs.length C.rs C.lv C.br))(g2:ak s.heap 2000=some (ctB C.bs))(h1:ak s.heap 902=some (MN C.s.all.length (cu (C.s.t::C.s.u)).length C.s.ov))(h2:ak s.heap 2001=some (P7 C.s.all))(h3':ak s.heap 2002=some (P6 (cu (C.s.t::C.s.u))))
  (hk:K ((St.mk (jG [2000,2001,2002] s.env) (TS C'++jm [2000,2001,2002] s.heap)).put d r3)):cO pg f args d s K:=by
 subst ha;refine dU (σ2:=TS C) (σ3:=TS C') h [(1000,901),(1001,902)] [2000,2001,2002] ?_ rfl h3 rfl (λp hp=>?_) (λp hp=>?_) (λp hp=>?_) hk
 .rw[cM,hr];rfl
 .simp only[TS,bM,cH,or_false]at hp;rcases hp with rfl|rfl|rfl|rfl|rfl
  .exact g1
  .exact g2
  .exact h1
  .exact h2
  .exact h3'
 .simp only[TS,bM,cH,or_false]at hp;rcases hp with rfl|rfl|rfl|rfl|rfl
  .exact .inl ⟨⟨show 1000<=1000 by decide,show 1000<2000 by decide⟩,rfl⟩
  .exact .inr ⟨by simp,.inr (show 2000<=2000 by decide),.inl rfl⟩
  .exact .inl ⟨⟨show 1000<=1001 by decide,show 1001<2000 by decide⟩,rfl⟩
  .exact .inr ⟨by simp,.inr (show 2000<=2001 by decide),.inl rfl⟩
  .exact .inr ⟨by simp,.inr (show 2000<=2002 by decide),.inl rfl⟩
 .simp only[TS,bM,cH,or_false]at hp;rcases hp with rfl|rfl|rfl|rfl|rfl<;>rfl
def aeL(rs:List Int)(h:rs.length<=1000):bA pg NN [.sl 1 (rs.map aS)] [] P3 (λr' σ'=>r' = .mp 901 5 0 0/\σ'=TS (BY rs)):=by
 refine b_ Dl ?_;have ko:=Vc sk0 (by decide) (by decide);simp only[go_sem,Dl];refine gZ aeR [902,2001,2002] (λp hp=>by cases hp) ?_ (λp hp=>by cases hp) ?_
 .intro p hp;simp only[Yd,bM,cH,or_false]at hp;rcases hp with rfl|rfl|rfl
  .exact .inr ⟨by simp,.inl (show 902<1000 by decide),.inr rfl⟩
  .exact .inr ⟨by simp,.inr (show 2000<=2001 by decide),.inr rfl⟩
  .exact .inr ⟨by simp,.inr (show 2000<=2002 by decide),.inr rfl⟩
 simp only[go_sem];refine aa (pp (rs.map aS) (by rw[bY];omega)) ?_;refine OO ko rfl rfl rfl (by simp only[go_sem]) (by simp only[go_sem]) (by simp only[go_sem]) ?_;simp only[go_sem];refine vh ((Wk.nlr1 _ 21 (r:=[.int .i64 0,.nl,.sl 1 (rs.map aS),.bool false,.bool true]) (r':=[.int .i64 0,.sl 1 [],.sl 1 (rs.map aS),.bool false,.bool true]) (by rfl) ⟨.inl rfl,.inr ⟨rfl,1,rfl⟩,.inl rfl,.inl rfl,.inl rfl,trivial⟩).trans (Wk.ren _ [(8,901),(21,2000)] (λid h1 h2=>ahO (by omega) (by omega) (by omega) (by omega)))) [] _ (TS (BY rs)) ?_ ?_ rfl ⟨rfl,rfl⟩
 .rfl
 .exact⟨rfl,rfl,rfl,rfl,rfl,trivial⟩
end
section
attribute[local go_sem] bY zW zY zZ zX qx DB DC BW BX pW aW bV
def abA(s:Sp)(x:bj)(h:Fp s)(hx:C_ x):aj pg Lw [tg s,fN x] (.int .i64 (if rA x=false then 10 else 0)):=by
 refine ao BN ?_;have c1:=PX s 0 0 0 h;have c2:=acX x hx;simp only[bF,aR,aW,bV,show s.blk 0 0 0=some ⟨[],[]⟩ from rfl,cG,Option.isSome_some]at c1 c2;simp only[go_sem,BN,bF,aR];refine aa (c1) ?_;refine ae (c2) ?_;cases rA x
 .simp only[go_sem];exact ah
 .simp only[go_sem];exact ah
structure okS(n:Nat)(S:Sk):Prop where
 u:S.u.length<=n
 l:S.all.length<=n
def Vf(hLeft:fK)(S:Sk)(f:Ft)(h:okS 850000 S)(hf:f.ps.length<=10000/\f.rs.length<=10000):MR Ly [.agg (pt f)] S (.int .i64 (i1 S f).1) (i1 S f).2:=by
 refine b_ ul ?_;obtain⟨hf1,hf2⟩:=hf;have hu:=h.u;have hl:=h.l;have kw:=pu S f.ps (hLeft _ _ (by omega) (by omega) (by omega));obtain⟨b1,b2⟩:=ez S f.ps;unfold i1;generalize S.want f.ps=R at kw b1 b2⊢;obtain⟨e,S1⟩:=R;dsimp only at kw b1 b2⊢;by_cases e5:e=0;rotate_left
 .rw[az e5];simp only[go_sem,ul];refine aU (kw) (by simp only[go_sem]) (by simp only[go_sem]) (by simp only[go_sem]) (by simp only[go_sem]) ?_;simp only[go_sem,aE e5];exact aZ [] _ (mi S1) ⟨rfl,rfl⟩
 rw[an (λq=>q e5)];have kq:=x8 S1 f.rs (by rw[b1];omega) (by omega) (by omega);simp only[go_sem,ul];refine aU (kw) (by simp only[go_sem]) (by simp only[go_sem]) (by simp only[go_sem]) (by simp only[go_sem]) ?_;simp only[go_sem,ay e5];refine aU (kq) (by simp only[go_sem]) (by simp only[go_sem]) (by simp only[go_sem]) (by simp only[go_sem]) ?_;simp only[go_sem];exact aZ [] _ (mi (S1.push f.rs)) ⟨rfl,rfl⟩
def oU(S:Sk):S.pop.2.2.u=S.u/\S.pop.2.2.all.length<=S.all.length:=by
 obtain⟨⟨l,lo⟩,u,ov⟩:=S;rcases ry l with rfl|⟨l',x,rfl⟩
 .rw[PI];exact⟨rfl,aQ _⟩
 .rw[L2];refine⟨rfl,?_⟩;show(bI u++l').length<=(bI u++(l'++[x])).length;simp only[dN];omega
def aeP(hLeft:fK)(S:Sk)(op:Int)(h:okS 850000 S):MR Lx [.int .i64 op] S (.int .i64 (f_ S op).1) (f_ S op).2:=by
 refine b_ uk ?_;have hu:=h.u;have hl:=h.l;unfold f_;by_cases o0:op=27
 .rw[az o0];have kw:=pu S [1] (hLeft _ _ (by omega) (by omega) (by simp));obtain⟨b1,b2⟩:=ez S [1];generalize S.want [1]=R at kw b1 b2⊢;obtain⟨e,S1⟩:=R;dsimp only at kw b1 b2⊢;simp only[go_sem,uk,aD o0];refine be (eJ.frzs [13] _ _) ?_;simp only[go_sem];refine aU (kw) (by simp only[go_sem]) (by simp only[go_sem]) (by simp only[go_sem]) (by simp only[go_sem]) ?_;by_cases e5:e=0;rotate_left
  .rw[az e5];simp only[go_sem,aE e5];exact aZ [] _ (mi S1) ⟨rfl,rfl⟩
  rw[an (λq=>q e5)];simp only[go_sem,ay e5];have kp:=KO S1 (by rw[b1];omega) (by omega);obtain⟨b3,b4⟩:=oU S1;unfold uW;generalize S1.pop=R at kp b3 b4⊢;obtain⟨a,e2,S2⟩:=R;dsimp only at kp b3 b4⊢;refine aU (kp) (by simp only[go_sem]) (by simp only[go_sem]) (by simp only[go_sem]) (by simp only[go_sem]) ?_;by_cases e6:e2=0;rotate_left
  .rw[az e6];simp only[go_sem,aE e6];exact aZ [] _ (mi S2) ⟨rfl,rfl⟩
  rw[an (λq=>q e6)];by_cases o1:op=209
  .rw[az o1];by_cases a1:a=1
   .rw[az (.inl a1)];simp only[go_sem,ay e6,aD o1,aD a1];exact aZ [] _ (mi S2) ⟨rfl,rfl⟩
   by_cases a2:a=2
   .rw[az (.inr a2)];simp only[go_sem,ay e6,aD o1,ac a1,aD a2];exact aZ [] _ (mi S2) ⟨rfl,rfl⟩
   rw[an (by rintro(q|q);exact a1 q;exact a2 q)];have kq:=x8 S2 [1] (by rw[b3,b1];omega) (by omega) (by simp);simp only[go_sem,ay e6,aD o1,ac a1,ac a2];refine be (eJ.frzs [36] _ _) ?_;simp only[go_sem];refine aU (kq) (by simp only[go_sem]) (by simp only[go_sem]) (by simp only[go_sem]) (by simp only[go_sem]) ?_;simp only[go_sem];exact aZ [] _ (mi (S2.push [1])) ⟨rfl,rfl⟩
  rw[an o1];by_cases o2:op=27;rotate_left
  .rw[an o2];simp only[go_sem,ay e6,ac o1,ac o2];exact aZ [] _ (mi S2) ⟨rfl,rfl⟩
  rw[az o2];have kp2:=KO S2 (by rw[b3,b1];omega) (by omega);obtain⟨b5,b6⟩:=oU S2;unfold zJ;generalize S2.pop=R at kp2 b5 b6⊢;obtain⟨b,e3,S3⟩:=R;dsimp only at kp2 b5 b6⊢;simp only[go_sem,ay e6,ac o1,aD o2];refine aU (kp2) (by simp only[go_sem]) (by simp only[go_sem]) (by simp only[go_sem]) (by simp only[go_sem]) ?_;by_cases e7:e3=0;rotate_left
  .rw[az e7];simp only[go_sem,aE e7];exact aZ [] _ (mi S3) ⟨rfl,rfl⟩
  rw[an (λq=>q e7)];have r1:=JN a;have r2:=JN b;have kq (t:Int):=x8 S3 [t] (by rw[b5,b3,b1];omega) (by omega) (by simp);cases h1:CG a;rotate_left
  .rw[h1]at r1;rw[az (.inl rfl)];simp only[go_sem,ay e7];refine aa (r1) ?_;exact aZ [] _ (mi S3) ⟨rfl,rfl⟩
  rw[h1]at r1;cases h2:CG b;rotate_left
  .rw[h2]at r2;rw[az (.inr (.inl rfl))];simp only[go_sem,ay e7];refine aa (r1) ?_;refine aa (r2) ?_;exact aZ [] _ (mi S3) ⟨rfl,rfl⟩
  rw[h2]at r2;by_cases q1:a=b
  .rw[an (by rintro(q|q|q);cases q;cases q;exact q.1 q1)];by_cases q2:a=0
   .rw[az q2];simp only[go_sem,ay e7];refine aa (r1) ?_;refine ae (r2) ?_;simp only[go_sem,ay q1,aD q2];refine be (eJ.frzs [72] _ _) ?_;simp only[go_sem];refine aU (kq b) (by simp only[go_sem]) (by simp only[go_sem]) (by simp only[go_sem]) (by simp only[go_sem]) ?_;simp only[go_sem];exact aZ [] _ (mi (S3.push [b])) ⟨rfl,rfl⟩
   .rw[an q2];simp only[go_sem,ay e7];refine aa (r1) ?_;refine ae (r2) ?_;simp only[go_sem,ay q1,ac q2];refine be (eJ.frzs [72] _ _) ?_;simp only[go_sem];refine aU (kq a) (by simp only[go_sem]) (by simp only[go_sem]) (by simp only[go_sem]) (by simp only[go_sem]) ?_;simp only[go_sem];exact aZ [] _ (mi (S3.push [a])) ⟨rfl,rfl⟩
  by_cases q2:a=0
  .rw[an (by rintro(q|q|q);cases q;cases q;exact q.2.1 q2),az q2];simp only[go_sem,ay e7];refine aa (r1) ?_;refine ae (r2) ?_;simp only[go_sem,aE q1,ay q2,aD q2];refine be (eJ.frzs [72] _ _) ?_;simp only[go_sem];refine aU (kq b) (by simp only[go_sem]) (by simp only[go_sem]) (by simp only[go_sem]) (by simp only[go_sem]) ?_;simp only[go_sem];exact aZ [] _ (mi (S3.push [b])) ⟨rfl,rfl⟩
  by_cases q3:b=0
  .rw[an (by rintro(q|q|q);cases q;cases q;exact q.2.2 q3),an q2];simp only[go_sem,ay e7];refine aa (r1) ?_;refine ae (r2) ?_;simp only[go_sem,aE q1,aE q2,ay q3,ac q2];refine be (eJ.frzs [72] _ _) ?_;simp only[go_sem];refine aU (kq a) (by simp only[go_sem]) (by simp only[go_sem]) (by simp only[go_sem]) (by simp only[go_sem]) ?_;simp only[go_sem];exact aZ [] _ (mi (S3.push [a])) ⟨rfl,rfl⟩
  rw[az (.inr (.inr ⟨q1,q2,q3⟩))];simp only[go_sem,ay e7];refine aa (r1) ?_;refine ae (r2) ?_;simp only[go_sem,aE q1,aE q2,aE q3];exact aZ [] _ (mi S3) ⟨rfl,rfl⟩
 .rw[an o0];simp only[go_sem,uk,ac o0];obtain⟨S1,hS⟩:∃S1,S1=S:=⟨_,rfl⟩
  rw[<-hS];have b1:S1.u=S.u:=by rw[hS]
  have b2:S1.all.length<=S.all.length:=by rw[hS];exact aQ _
  have kp:=KO S1 (by rw[b1];omega) (by omega);obtain⟨b3,b4⟩:=oU S1;unfold uW;generalize S1.pop=R at kp b3 b4⊢;obtain⟨a,e2,S2⟩:=R;dsimp only at kp b3 b4⊢;refine aU (kp) (by simp only[go_sem]) (by simp only[go_sem]) (by simp only[go_sem]) (by simp only[go_sem]) ?_;by_cases e6:e2=0;rotate_left
  .rw[az e6];simp only[go_sem,aE e6];exact aZ [] _ (mi S2) ⟨rfl,rfl⟩
  rw[an (λq=>q e6)];by_cases o1:op=209
  .rw[az o1];by_cases a1:a=1
   .rw[az (.inl a1)];simp only[go_sem,ay e6,aD o1,aD a1];exact aZ [] _ (mi S2) ⟨rfl,rfl⟩
   by_cases a2:a=2
   .rw[az (.inr a2)];simp only[go_sem,ay e6,aD o1,ac a1,aD a2];exact aZ [] _ (mi S2) ⟨rfl,rfl⟩
   rw[an (by rintro(q|q);exact a1 q;exact a2 q)];have kq:=x8 S2 [1] (by rw[b3,b1];omega) (by omega) (by simp);simp only[go_sem,ay e6,aD o1,ac a1,ac a2];refine be (eJ.frzs [36] _ _) ?_;simp only[go_sem];refine aU (kq) (by simp only[go_sem]) (by simp only[go_sem]) (by simp only[go_sem]) (by simp only[go_sem]) ?_;simp only[go_sem];exact aZ [] _ (mi (S2.push [1])) ⟨rfl,rfl⟩
  rw[an o1];by_cases o2:op=27;rotate_left
  .rw[an o2];simp only[go_sem,ay e6,ac o1,ac o2];exact aZ [] _ (mi S2) ⟨rfl,rfl⟩
  rw[az o2];have kp2:=KO S2 (by rw[b3,b1];omega) (by omega);obtain⟨b5,b6⟩:=oU S2;unfold zJ;generalize S2.pop=R at kp2 b5 b6⊢;obtain⟨b,e3,S3⟩:=R;dsimp only at kp2 b5 b6⊢;simp only[go_sem,ay e6,ac o1,aD o2];refine aU (kp2) (by simp only[go_sem]) (by simp only[go_sem]) (by simp only[go_sem]) (by simp only[go_sem]) ?_;by_cases e7:e3=0;rotate_left
  .rw[az e7];simp only[go_sem,aE e7];exact aZ [] _ (mi S3) ⟨rfl,rfl⟩
  rw[an (λq=>q e7)];have r1:=JN a;have r2:=JN b;have kq (t:Int):=x8 S3 [t] (by rw[b5,b3,b1];omega) (by omega) (by simp);cases h1:CG a;rotate_left
  .rw[h1]at r1;rw[az (.inl rfl)];simp only[go_sem,ay e7];refine aa (r1) ?_;exact aZ [] _ (mi S3) ⟨rfl,rfl⟩
  rw[h1]at r1;cases h2:CG b;rotate_left
  .rw[h2]at r2;rw[az (.inr (.inl rfl))];simp only[go_sem,ay e7];refine aa (r1) ?_;refine aa (r2) ?_;exact aZ [] _ (mi S3) ⟨rfl,rfl⟩
  rw[h2]at r2;by_cases q1:a=b
  .rw[an (by rintro(q|q|q);cases q;cases q;exact q.1 q1)];by_cases q2:a=0
   .rw[az q2];simp only[go_sem,ay e7];refine aa (r1) ?_;refine ae (r2) ?_;simp only[go_sem,ay q1,aD q2];refine be (eJ.frzs [72] _ _) ?_;simp only[go_sem];refine aU (kq b) (by simp only[go_sem]) (by simp only[go_sem]) (by simp only[go_sem]) (by simp only[go_sem]) ?_;simp only[go_sem];exact aZ [] _ (mi (S3.push [b])) ⟨rfl,rfl⟩
   .rw[an q2];simp only[go_sem,ay e7];refine aa (r1) ?_;refine ae (r2) ?_;simp only[go_sem,ay q1,ac q2];refine be (eJ.frzs [72] _ _) ?_;simp only[go_sem];refine aU (kq a) (by simp only[go_sem]) (by simp only[go_sem]) (by simp only[go_sem]) (by simp only[go_sem]) ?_;simp only[go_sem];exact aZ [] _ (mi (S3.push [a])) ⟨rfl,rfl⟩
  by_cases q2:a=0
  .rw[an (by rintro(q|q|q);cases q;cases q;exact q.2.1 q2),az q2];simp only[go_sem,ay e7];refine aa (r1) ?_;refine ae (r2) ?_;simp only[go_sem,aE q1,ay q2,aD q2];refine be (eJ.frzs [72] _ _) ?_;simp only[go_sem];refine aU (kq b) (by simp only[go_sem]) (by simp only[go_sem]) (by simp only[go_sem]) (by simp only[go_sem]) ?_;simp only[go_sem];exact aZ [] _ (mi (S3.push [b])) ⟨rfl,rfl⟩
  by_cases q3:b=0
  .rw[an (by rintro(q|q|q);cases q;cases q;exact q.2.2 q3),an q2];simp only[go_sem,ay e7];refine aa (r1) ?_;refine ae (r2) ?_;simp only[go_sem,aE q1,aE q2,ay q3,ac q2];refine be (eJ.frzs [72] _ _) ?_;simp only[go_sem];refine aU (kq a) (by simp only[go_sem]) (by simp only[go_sem]) (by simp only[go_sem]) (by simp only[go_sem]) ?_;simp only[go_sem];exact aZ [] _ (mi (S3.push [a])) ⟨rfl,rfl⟩
  rw[az (.inr (.inr ⟨q1,q2,q3⟩))];simp only[go_sem,ay e7];refine aa (r1) ?_;refine ae (r2) ?_;simp only[go_sem,aE q1,aE q2,aE q3];exact aZ [] _ (mi S3) ⟨rfl,rfl⟩
