import Derived.Test.YtijcmjncppkpiaaGreatDoorCQq
set_option linter.all false
set_option maxRecDepth 100000
set_option maxHeartbeats 40000000
namespace Go.Proofs.YtijcmjncppkpiaaGreatDoor
section
open Go Go.Mw
def aaX{a b c d id:Nat}(h1:id≠a)(h2:id≠b)(h3:id≠c)(h4:id≠d):bw [(a,b),(c,d)] id=id:=by simp[bw,wy,h1,h2,h3,h4]
def Rw(S:Sk):List (Nat×aj):=[(902,HV S.all.length (cw (S.t::S.u)).length S.ov),(2001,Kx S.all),(2002,Kw (cw (S.t::S.u)))]
def Wx(S:Sk):Rw S=[(902,HV S.all.length (cw (S.t::S.u)).length S.ov),(2001,Kx S.all),(2002,Kw (cw (S.t::S.u)))]:=rfl
def sk0:Sk:=⟨⟨[],false⟩,[],false⟩
attribute[local go_sem] bP xL xN xO xM pm AJ AK zh zi oT aU Zj Wx
def Yl:aZ pg GZ [] [] Ku (λr' σ'=>r' = .mp 902 3 0 0/\σ'=Rw sk0):=by
 refine dj zb ?_;simp only[go_sem,zb];refine sH (((Wk.new0 _ 2001 1 71 (by decide)).trans (Wk.nlm _ 4 (r:=[.nl,.ms 2 2 0 1,.bool false]) (r':=[.ms 2001 1 0 0,.ms 2 2 0 1,.bool false]) (by rfl) ⟨.inr ⟨rfl,.inr ⟨2001,1,rfl⟩⟩,.inl rfl,.inl rfl,trivial⟩)).trans (Wk.ren _ [(4,902),(2,2002)] (λid h1 h2=>?_))) [] _ (Rw sk0) ?_ ?_ rfl ⟨rfl,rfl⟩
 .exact aaX (by omega) (by omega) (by omega) (by omega)
 .rfl
 .exact⟨rfl,rfl,rfl,trivial⟩
def ctQ(n:Nat)(rs:List Int)(lv:Bool)(br:Int):aj:=⟨362,5,[[.mp 902 3 0 0,.ms 2000 5 0 n,.sl 1 (rs.map bg),.bool lv,.int .i64 br]],true⟩
def aa_(n:Nat)(rs:List Int)(lv:Bool)(br:Int):ctQ n rs lv br =⟨362,5,[[.mp 902 3 0 0,.ms 2000 5 0 n,.sl 1 (rs.map bg),.bool lv,.int .i64 br]],true⟩:=rfl
def N3(C:Ct):List (Nat×aj):=[(901,ctQ C.bs.length C.rs C.lv C.br),(2000,VU C.bs),(902,HV C.s.all.length (cw (C.s.t::C.s.u)).length C.s.ov),(2001,Kx C.s.all),(2002,Kw (cw (C.s.t::C.s.u)))]
def aa9(C:Ct):N3 C=[(901,ctQ C.bs.length C.rs C.lv C.br),(2000,VU C.bs),(902,HV C.s.all.length (cw (C.s.t::C.s.u)).length C.s.ov),(2001,Kx C.s.all),(2002,Kw (cw (C.s.t::C.s.u)))]:=rfl
def Jt{f:FuncId}{rest:List AV}{S S':Sk}{r r3:AV}(h:H0 f rest S r S'){args:List AV}{d:Option Nat}{s:St}{K:St->Prop}(ha:args = .mp 902 3 0 0::rest)(hr:rest.map (lB (bw [(1001,902)]))=rest)(h3:lB (fw [(1001,902)]) r=r3)(h1:ae s.heap 902=some (HV S.all.length (cw (S.t::S.u)).length S.ov))(h2:ae s.heap 2001=some (Kx S.all))(h3':ae s.heap 2002=some (Kw (cw (S.t::S.u))))
  (hk:K ((St.mk (jW [2001,2002] s.env) (Rw S'++jX [2001,2002] s.heap)).put d r3)):cB pg f args d s K:=by
 subst ha;refine ey (σ2:=Rw S) (σ3:=Rw S') h [(1001,902)] [2001,2002] ?_ rfl h3 rfl (λp hp=>?_) (λp hp=>?_) (λp hp=>?_) hk
 .rw[bY,hr];rfl
 .simp only[Rw,bp,bZ,or_false]at hp;rcases hp with rfl|rfl|rfl
  .exact h1
  .exact h2
  .exact h3'
 .simp only[Rw,bp,bZ,or_false]at hp;rcases hp with rfl|rfl|rfl
  .exact .inl ⟨⟨show 1000<=1001 by decide,show 1001<2000 by decide⟩,rfl⟩
  .exact .inr ⟨by simp,.inr (show 2000<=2001 by decide),.inl rfl⟩
  .exact .inr ⟨by simp,.inr (show 2000<=2002 by decide),.inl rfl⟩
 .simp only[Rw,bp,bZ,or_false]at hp;rcases hp with rfl|rfl|rfl<;>rfl
def D_{f:FuncId}{rest:List AV}{C C':Ct}{r r3:AV}(h:DS f rest C r C'){args:List AV}{d:Option Nat}{s:St}{K:St->Prop}(ha:args = .mp 901 5 0 0::rest)(hr:rest.map (lB (bw [(1000,901),(1001,902)]))=rest)(h3:lB (fw [(1000,901),(1001,902)]) r=r3)(g1:ae s.heap 901=some (ctQ C.bs.length C.rs C.lv C.br))(g2:ae s.heap 2000=some (VU C.bs))(h1:ae s.heap 902=some (HV C.s.all.length (cw (C.s.t::C.s.u)).length C.s.ov))(h2:ae s.heap 2001=some (Kx C.s.all))(h3':ae s.heap 2002=some (Kw (cw (C.s.t::C.s.u))))
  (hk:K ((St.mk (jW [2000,2001,2002] s.env) (N3 C'++jX [2000,2001,2002] s.heap)).put d r3)):cB pg f args d s K:=by
 subst ha;refine ey (σ2:=N3 C) (σ3:=N3 C') h [(1000,901),(1001,902)] [2000,2001,2002] ?_ rfl h3 rfl (λp hp=>?_) (λp hp=>?_) (λp hp=>?_) hk
 .rw[bY,hr];rfl
 .simp only[N3,bp,bZ,or_false]at hp;rcases hp with rfl|rfl|rfl|rfl|rfl
  .exact g1
  .exact g2
  .exact h1
  .exact h2
  .exact h3'
 .simp only[N3,bp,bZ,or_false]at hp;rcases hp with rfl|rfl|rfl|rfl|rfl
  .exact .inl ⟨⟨show 1000<=1000 by decide,show 1000<2000 by decide⟩,rfl⟩
  .exact .inr ⟨by simp,.inr (show 2000<=2000 by decide),.inl rfl⟩
  .exact .inl ⟨⟨show 1000<=1001 by decide,show 1001<2000 by decide⟩,rfl⟩
  .exact .inr ⟨by simp,.inr (show 2000<=2001 by decide),.inl rfl⟩
  .exact .inr ⟨by simp,.inr (show 2000<=2002 by decide),.inl rfl⟩
 .simp only[N3,bp,bZ,or_false]at hp;rcases hp with rfl|rfl|rfl|rfl|rfl<;>rfl
def Yf(rs:List Int)(h:rs.length<=1000):aZ pg IG [.sl 1 (rs.map bg)] [] Ku (λr' σ'=>r' = .mp 901 5 0 0/\σ'=N3 (Ju rs)):=by
 refine dj Aq ?_;have ko:=O_ sk0 (by decide) (by decide);simp only[go_sem,Aq];refine gz Yl [902,2001,2002] (λp hp=>by cases hp) ?_ (λp hp=>by cases hp) ?_
 .intro p hp;simp only[Rw,bp,bZ,or_false]at hp;rcases hp with rfl|rfl|rfl
  .exact .inr ⟨by simp,.inl (show 902<1000 by decide),.inr rfl⟩
  .exact .inr ⟨by simp,.inr (show 2000<=2001 by decide),.inr rfl⟩
  .exact .inr ⟨by simp,.inr (show 2000<=2002 by decide),.inr rfl⟩
 simp only[go_sem];refine aa (jH (rs.map bg) (by rw[bP];omega)) ?_;refine Jt ko rfl rfl rfl (by simp only[go_sem]) (by simp only[go_sem]) (by simp only[go_sem]) ?_;simp only[go_sem];refine sH ((Wk.nlr1 _ 21 (r:=[.int .i64 0,.nl,.sl 1 (rs.map bg),.bool false,.bool true]) (r':=[.int .i64 0,.sl 1 [],.sl 1 (rs.map bg),.bool false,.bool true]) (by rfl) ⟨.inl rfl,.inr ⟨rfl,1,rfl⟩,.inl rfl,.inl rfl,.inl rfl,trivial⟩).trans (Wk.ren _ [(8,901),(21,2000)] (λid h1 h2=>aaX (by omega) (by omega) (by omega) (by omega)))) [] _ (N3 (Ju rs)) ?_ ?_ rfl ⟨rfl,rfl⟩
 .rfl
 .exact⟨rfl,rfl,rfl,rfl,rfl,trivial⟩
end
section
open Go Go.Mw
attribute[local go_sem] bP xL xN xO xM pm AJ AK zh zi oT aU dt
def Vf(s:Sp)(x:a_)(h:B0 s)(hx:I4 x):ah pg GW [qZ s,kD x] (.int .i64 (if B9 x=false then 10 else 0)):=by
 refine au za ?_;have c1:=Kq s 0 0 0 h;have c2:=Ww x hx;simp only[bc,aD,aU,dt,show s.blk 0 0 0=some ⟨[],[]⟩ from rfl,gb,Option.isSome_some]at c1 c2;simp only[go_sem,za,bc,aD];refine aa (c1) ?_;refine ak (c2) ?_;cases B9 x
 .simp only[go_sem];exact ac
 .simp only[go_sem];exact ac
structure okS(n:Nat)(S:Sk):Prop where
 u:S.u.length<=n
 l:S.all.length<=n
def Pc(hLeft:eS)(S:Sk)(f:Ft)(h:okS 850000 S)(hf:f.ps.length<=10000/\f.rs.length<=10000):H0 GY [.agg (kz f)] S (.int .i64 (qK S f).1) (qK S f).2:=by
 refine dj rA ?_;obtain⟨hf1,hf2⟩:=hf;have hu:=h.u;have hl:=h.l;have kw:=oa S f.ps (hLeft _ _ (by omega) (by omega) (by omega));obtain⟨b1,b2⟩:=gL S f.ps;unfold qK;generalize S.want f.ps=R at kw b1 b2⊢;obtain⟨e,S1⟩:=R;dsimp only at kw b1 b2⊢;by_cases e5:e=0;rotate_left
 .rw[aF e5];simp only[go_sem,rA];refine aJ (kw) (by simp only[go_sem]) (by simp only[go_sem]) (by simp only[go_sem]) (by simp only[go_sem]) ?_;simp only[go_sem,aG e5];exact aM [] _ (lj S1) ⟨rfl,rfl⟩
 rw[ax (λq=>q e5)];have kq:=vl S1 f.rs (by rw[b1];omega) (by omega) (by omega);simp only[go_sem,rA];refine aJ (kw) (by simp only[go_sem]) (by simp only[go_sem]) (by simp only[go_sem]) (by simp only[go_sem]) ?_;simp only[go_sem,ar e5];refine aJ (kq) (by simp only[go_sem]) (by simp only[go_sem]) (by simp only[go_sem]) (by simp only[go_sem]) ?_;simp only[go_sem];exact aM [] _ (lj (S1.push f.rs)) ⟨rfl,rfl⟩
def zt(S:Sk):S.pop.2.2.u=S.u/\S.pop.2.2.all.length<=S.all.length:=by
 obtain⟨⟨l,lo⟩,u,ov⟩:=S;rcases P0 l with rfl|⟨l',x,rfl⟩
 .rw[Kk];exact⟨rfl,aN _⟩
 .rw[Hj];refine⟨rfl,?_⟩;show(bW u++l').length<=(bW u++(l'++[x])).length;simp only[ej];omega
def Yj(hLeft:eS)(S:Sk)(op:Int)(h:okS 850000 S):H0 GX [.int .i64 op] S (.int .i64 (pi S op).1) (pi S op).2:=by
 refine dj rz ?_;have hu:=h.u;have hl:=h.l;unfold pi;by_cases o0:op=27
 .rw[aF o0];have kw:=oa S [1] (hLeft _ _ (by omega) (by omega) (by simp));obtain⟨b1,b2⟩:=gL S [1];generalize S.want [1]=R at kw b1 b2⊢;obtain⟨e,S1⟩:=R;dsimp only at kw b1 b2⊢;simp only[go_sem,rz,aK o0];refine bA (eZ.frzs [13] _ _) ?_;simp only[go_sem];refine aJ (kw) (by simp only[go_sem]) (by simp only[go_sem]) (by simp only[go_sem]) (by simp only[go_sem]) ?_;by_cases e5:e=0;rotate_left
  .rw[aF e5];simp only[go_sem,aG e5];exact aM [] _ (lj S1) ⟨rfl,rfl⟩
  rw[ax (λq=>q e5)];simp only[go_sem,ar e5];have kp:=Gv S1 (by rw[b1];omega) (by omega);obtain⟨b3,b4⟩:=zt S1;unfold BB;generalize S1.pop=R at kp b3 b4⊢;obtain⟨a,e2,S2⟩:=R;dsimp only at kp b3 b4⊢;refine aJ (kp) (by simp only[go_sem]) (by simp only[go_sem]) (by simp only[go_sem]) (by simp only[go_sem]) ?_;by_cases e6:e2=0;rotate_left
  .rw[aF e6];simp only[go_sem,aG e6];exact aM [] _ (lj S2) ⟨rfl,rfl⟩
  rw[ax (λq=>q e6)];by_cases o1:op=209
  .rw[aF o1];by_cases a1:a=1
   .rw[aF (.inl a1)];simp only[go_sem,ar e6,aK o1,aK a1];exact aM [] _ (lj S2) ⟨rfl,rfl⟩
   by_cases a2:a=2
   .rw[aF (.inr a2)];simp only[go_sem,ar e6,aK o1,ab a1,aK a2];exact aM [] _ (lj S2) ⟨rfl,rfl⟩
   rw[ax (by rintro(q|q);exact a1 q;exact a2 q)];have kq:=vl S2 [1] (by rw[b3,b1];omega) (by omega) (by simp);simp only[go_sem,ar e6,aK o1,ab a1,ab a2];refine bA (eZ.frzs [36] _ _) ?_;simp only[go_sem];refine aJ (kq) (by simp only[go_sem]) (by simp only[go_sem]) (by simp only[go_sem]) (by simp only[go_sem]) ?_;simp only[go_sem];exact aM [] _ (lj (S2.push [1])) ⟨rfl,rfl⟩
  rw[ax o1];by_cases o2:op=27;rotate_left
  .rw[ax o2];simp only[go_sem,ar e6,ab o1,ab o2];exact aM [] _ (lj S2) ⟨rfl,rfl⟩
  rw[aF o2];have kp2:=Gv S2 (by rw[b3,b1];omega) (by omega);obtain⟨b5,b6⟩:=zt S2;unfold DC;generalize S2.pop=R at kp2 b5 b6⊢;obtain⟨b,e3,S3⟩:=R;dsimp only at kp2 b5 b6⊢;simp only[go_sem,ar e6,ab o1,aK o2];refine aJ (kp2) (by simp only[go_sem]) (by simp only[go_sem]) (by simp only[go_sem]) (by simp only[go_sem]) ?_;by_cases e7:e3=0;rotate_left
  .rw[aF e7];simp only[go_sem,aG e7];exact aM [] _ (lj S3) ⟨rfl,rfl⟩
  rw[ax (λq=>q e7)];have r1:=Fo a;have r2:=Fo b;have kq (t:Int):=vl S3 [t] (by rw[b5,b3,b1];omega) (by omega) (by simp);cases h1:Ht a;rotate_left
  .rw[h1]at r1;rw[aF (.inl rfl)];simp only[go_sem,ar e7];refine aa (r1) ?_;exact aM [] _ (lj S3) ⟨rfl,rfl⟩
  rw[h1]at r1;cases h2:Ht b;rotate_left
  .rw[h2]at r2;rw[aF (.inr (.inl rfl))];simp only[go_sem,ar e7];refine aa (r1) ?_;refine aa (r2) ?_;exact aM [] _ (lj S3) ⟨rfl,rfl⟩
  rw[h2]at r2;by_cases q1:a=b
  .rw[ax (by rintro(q|q|q);cases q;cases q;exact q.1 q1)];by_cases q2:a=0
   .rw[aF q2];simp only[go_sem,ar e7];refine aa (r1) ?_;refine ak (r2) ?_;simp only[go_sem,ar q1,aK q2];refine bA (eZ.frzs [72] _ _) ?_;simp only[go_sem];refine aJ (kq b) (by simp only[go_sem]) (by simp only[go_sem]) (by simp only[go_sem]) (by simp only[go_sem]) ?_;simp only[go_sem];exact aM [] _ (lj (S3.push [b])) ⟨rfl,rfl⟩
   .rw[ax q2];simp only[go_sem,ar e7];refine aa (r1) ?_;refine ak (r2) ?_;simp only[go_sem,ar q1,ab q2];refine bA (eZ.frzs [72] _ _) ?_;simp only[go_sem];refine aJ (kq a) (by simp only[go_sem]) (by simp only[go_sem]) (by simp only[go_sem]) (by simp only[go_sem]) ?_;simp only[go_sem];exact aM [] _ (lj (S3.push [a])) ⟨rfl,rfl⟩
  by_cases q2:a=0
  .rw[ax (by rintro(q|q|q);cases q;cases q;exact q.2.1 q2),aF q2];simp only[go_sem,ar e7];refine aa (r1) ?_;refine ak (r2) ?_;simp only[go_sem,aG q1,ar q2,aK q2];refine bA (eZ.frzs [72] _ _) ?_;simp only[go_sem];refine aJ (kq b) (by simp only[go_sem]) (by simp only[go_sem]) (by simp only[go_sem]) (by simp only[go_sem]) ?_;simp only[go_sem];exact aM [] _ (lj (S3.push [b])) ⟨rfl,rfl⟩
  by_cases q3:b=0
  .rw[ax (by rintro(q|q|q);cases q;cases q;exact q.2.2 q3),ax q2];simp only[go_sem,ar e7];refine aa (r1) ?_;refine ak (r2) ?_;simp only[go_sem,aG q1,aG q2,ar q3,ab q2];refine bA (eZ.frzs [72] _ _) ?_;simp only[go_sem];refine aJ (kq a) (by simp only[go_sem]) (by simp only[go_sem]) (by simp only[go_sem]) (by simp only[go_sem]) ?_;simp only[go_sem];exact aM [] _ (lj (S3.push [a])) ⟨rfl,rfl⟩
  rw[aF (.inr (.inr ⟨q1,q2,q3⟩))];simp only[go_sem,ar e7];refine aa (r1) ?_;refine ak (r2) ?_;simp only[go_sem,aG q1,aG q2,aG q3];exact aM [] _ (lj S3) ⟨rfl,rfl⟩
 .rw[ax o0];simp only[go_sem,rz,ab o0];obtain⟨S1,hS⟩:∃S1,S1=S:=⟨_,rfl⟩
  rw[<-hS];have b1:S1.u=S.u:=by rw[hS]
  have b2:S1.all.length<=S.all.length:=by rw[hS];exact aN _
  have kp:=Gv S1 (by rw[b1];omega) (by omega);obtain⟨b3,b4⟩:=zt S1;unfold BB;generalize S1.pop=R at kp b3 b4⊢;obtain⟨a,e2,S2⟩:=R;dsimp only at kp b3 b4⊢;refine aJ (kp) (by simp only[go_sem]) (by simp only[go_sem]) (by simp only[go_sem]) (by simp only[go_sem]) ?_;by_cases e6:e2=0;rotate_left
  .rw[aF e6];simp only[go_sem,aG e6];exact aM [] _ (lj S2) ⟨rfl,rfl⟩
  rw[ax (λq=>q e6)];by_cases o1:op=209
  .rw[aF o1];by_cases a1:a=1
   .rw[aF (.inl a1)];simp only[go_sem,ar e6,aK o1,aK a1];exact aM [] _ (lj S2) ⟨rfl,rfl⟩
   by_cases a2:a=2
   .rw[aF (.inr a2)];simp only[go_sem,ar e6,aK o1,ab a1,aK a2];exact aM [] _ (lj S2) ⟨rfl,rfl⟩
   rw[ax (by rintro(q|q);exact a1 q;exact a2 q)];have kq:=vl S2 [1] (by rw[b3,b1];omega) (by omega) (by simp);simp only[go_sem,ar e6,aK o1,ab a1,ab a2];refine bA (eZ.frzs [36] _ _) ?_;simp only[go_sem];refine aJ (kq) (by simp only[go_sem]) (by simp only[go_sem]) (by simp only[go_sem]) (by simp only[go_sem]) ?_;simp only[go_sem];exact aM [] _ (lj (S2.push [1])) ⟨rfl,rfl⟩
  rw[ax o1];by_cases o2:op=27;rotate_left
  .rw[ax o2];simp only[go_sem,ar e6,ab o1,ab o2];exact aM [] _ (lj S2) ⟨rfl,rfl⟩
  rw[aF o2];have kp2:=Gv S2 (by rw[b3,b1];omega) (by omega);obtain⟨b5,b6⟩:=zt S2;unfold DC;generalize S2.pop=R at kp2 b5 b6⊢;obtain⟨b,e3,S3⟩:=R;dsimp only at kp2 b5 b6⊢;simp only[go_sem,ar e6,ab o1,aK o2];refine aJ (kp2) (by simp only[go_sem]) (by simp only[go_sem]) (by simp only[go_sem]) (by simp only[go_sem]) ?_;by_cases e7:e3=0;rotate_left
  .rw[aF e7];simp only[go_sem,aG e7];exact aM [] _ (lj S3) ⟨rfl,rfl⟩
  rw[ax (λq=>q e7)];have r1:=Fo a;have r2:=Fo b;have kq (t:Int):=vl S3 [t] (by rw[b5,b3,b1];omega) (by omega) (by simp);cases h1:Ht a;rotate_left
  .rw[h1]at r1;rw[aF (.inl rfl)];simp only[go_sem,ar e7];refine aa (r1) ?_;exact aM [] _ (lj S3) ⟨rfl,rfl⟩
  rw[h1]at r1;cases h2:Ht b;rotate_left
  .rw[h2]at r2;rw[aF (.inr (.inl rfl))];simp only[go_sem,ar e7];refine aa (r1) ?_;refine aa (r2) ?_;exact aM [] _ (lj S3) ⟨rfl,rfl⟩
  rw[h2]at r2;by_cases q1:a=b
  .rw[ax (by rintro(q|q|q);cases q;cases q;exact q.1 q1)];by_cases q2:a=0
   .rw[aF q2];simp only[go_sem,ar e7];refine aa (r1) ?_;refine ak (r2) ?_;simp only[go_sem,ar q1,aK q2];refine bA (eZ.frzs [72] _ _) ?_;simp only[go_sem];refine aJ (kq b) (by simp only[go_sem]) (by simp only[go_sem]) (by simp only[go_sem]) (by simp only[go_sem]) ?_;simp only[go_sem];exact aM [] _ (lj (S3.push [b])) ⟨rfl,rfl⟩
   .rw[ax q2];simp only[go_sem,ar e7];refine aa (r1) ?_;refine ak (r2) ?_;simp only[go_sem,ar q1,ab q2];refine bA (eZ.frzs [72] _ _) ?_;simp only[go_sem];refine aJ (kq a) (by simp only[go_sem]) (by simp only[go_sem]) (by simp only[go_sem]) (by simp only[go_sem]) ?_;simp only[go_sem];exact aM [] _ (lj (S3.push [a])) ⟨rfl,rfl⟩
  by_cases q2:a=0
  .rw[ax (by rintro(q|q|q);cases q;cases q;exact q.2.1 q2),aF q2];simp only[go_sem,ar e7];refine aa (r1) ?_;refine ak (r2) ?_;simp only[go_sem,aG q1,ar q2,aK q2];refine bA (eZ.frzs [72] _ _) ?_;simp only[go_sem];refine aJ (kq b) (by simp only[go_sem]) (by simp only[go_sem]) (by simp only[go_sem]) (by simp only[go_sem]) ?_;simp only[go_sem];exact aM [] _ (lj (S3.push [b])) ⟨rfl,rfl⟩
  by_cases q3:b=0
  .rw[ax (by rintro(q|q|q);cases q;cases q;exact q.2.2 q3),ax q2];simp only[go_sem,ar e7];refine aa (r1) ?_;refine ak (r2) ?_;simp only[go_sem,aG q1,aG q2,ar q3,ab q2];refine bA (eZ.frzs [72] _ _) ?_;simp only[go_sem];refine aJ (kq a) (by simp only[go_sem]) (by simp only[go_sem]) (by simp only[go_sem]) (by simp only[go_sem]) ?_;simp only[go_sem];exact aM [] _ (lj (S3.push [a])) ⟨rfl,rfl⟩
  rw[aF (.inr (.inr ⟨q1,q2,q3⟩))];simp only[go_sem,ar e7];refine aa (r1) ?_;refine ak (r2) ?_;simp only[go_sem,aG q1,aG q2,aG q3];exact aM [] _ (lj S3) ⟨rfl,rfl⟩
end
section
open Go Go.Mw
def T6(l:List Int):List AV:=[.sl 1 (l.map bg)]
def YA(l:List Int):T6 l=[.sl 1 (l.map bg)]:=rfl
def J0{C:Ct}(h:E9 900000 C)(i:Int):(C.label i).1.length<=1000:=by
 unfold Ct.label;split
 .exact cR _
 split
 .exact cR _
 rename_i h1 h2;have hm:=h.t (ap C.bs (C.bs.length-1-i.toNat)) (by rw[aV (by omega)];exact gO _);split
 .exact hm.1
 .exact hm.2
def U7(C:Ct){l:List Int}{j:Nat}(h:j<l.length):fI C (l.drop j)=if(C.label (ap l j)).2≠0 then([],(C.label (ap l j)).2)else if(fI C (l.drop (j+1))).2≠0 then fI C (l.drop (j+1))else((C.label (ap l j)).1::(fI C (l.drop (j+1))).1,0):=by
 rw[cH h,fI]
def Zi{n:Nat}(h0:0<n)(h:n<1000000000):IntKind.i64.wrap ((n:Int)-1)=((n-1:Nat):Int):=by rw[wi (by omega) (by omega)];omega
def Li(a b:Int)(p l:List Int):qn (a::p) (b::l)=((a==0||a==b)&&qn p l):=rfl
attribute[local go_sem] bP xL xN xO xM pm AJ AK zh zi oT aU dt YA
def TC(hLeft:eS)(C:Ct)(x:a_)(h:E9 850000 C)(hl:x.lb.length<=1000):DS EO [kD x] C (.int .i64 (pW C x).1) (pW C x).2:=by
 refine dj wF ?_;have ha:=bR 24 3 1 x.lb.length bg x.lb [[.int .i64 x.a]] rfl;obtain⟨L,hL⟩:∃L,x.lb++[x.a]=L:=⟨_,rfl⟩
 have hLl:L.length=x.lb.length+1:=by rw[<-hL];simp
 have et:(x.lb.map bg++[[AV.int .i64 x.a]])=L.map bg:=by rw[<-hL];simp[bg]
 obtain⟨T,hT⟩:∃T,pW C x=T:=⟨_,rfl⟩
 rw[hT];unfold pW at hT;rw[hL]at hT;simp only[go_sem,wF];refine Gq ?_;simp only[go_sem,aN,lD,ha,sB,et];refine⟨by omega,by omega,?_⟩;obtain⟨G,hG⟩:∃G,fI C L=G:=⟨_,rfl⟩
 rw[hG]at hT;refine ao (λq:Nat×List (List Int)=>⟨[(30,.int .i64 q.1),(29,.int .i64 L.length),(28,.sl 1 (L.map bg)),(5,.ms 900 1 0 q.2.length),(3,.mp 3 9 0 0),(0,.mp 1000 5 0 0)],fu C++[(900,⟨41,1,q.2.map T6,false⟩)]⟩)
  (λq=>q.1<=L.length/\q.2.length=q.1/\(∀l∈q.2,l.length<=1000)/\G=if(fI C (L.drop q.1)).2≠0 then fI C (L.drop q.1)else(q.2++(fI C (L.drop q.1)).1,0)) (λq=>L.length-q.1) (0,[]) ⟨cR _,rfl,(λl hl=>by cases hl),?_⟩ ((Wk.nil _ 5 900 1 41 (by simp only[go_sem]) (by decide)).trans (Wk.frz_of [24] ?_ ?_)) ?_
 .rw[oK,hG];split
  .rfl
  .rename_i hh;have hh:G.2=0:=Decidable.of_not_not hh;rw[iD,<-hh]
 .simp only[go_sem,St.mknil,hLl,aN,lD,oK,ga,j1,iN]
  try (rw[show x.lb.length+1=L.length from hLl.symm,lD];trivial)
 .simp only[go_sem,St.mknil];try rfl
 rintro⟨j,R⟩ ⟨hj,hR,hRb,hx⟩;dsimp only at hj hR hRb hx;by_cases h1:(j:Int)<(L.length:Int)
 .have hj':j<L.length:=by omega
  have e8:=cA hj' (by omega);rw[U7 C hj']at hx;have kl:=JV C ⟨by have:=h.u;omega,by have:=h.l;omega,by have:=h.b;omega,h.r,h.t⟩ (ap L j);have lb:=J0 (C:=C) ⟨by have:=h.u;omega,by have:=h.l;omega,by have:=h.b;omega,h.r,h.t⟩ (ap L j);generalize C.label (ap L j)=Q at kl hx lb;obtain⟨l,e⟩:=Q;dsimp only at kl hx lb;by_cases h2:e=0;rotate_left
  .rw[aF h2]at hx;simp only at hx;rw[aF h2]at hx;subst hx;dsimp only at hT;rw[aF h2]at hT;subst hT;simp only[go_sem,aw h1];refine⟨by omega,h1,?_⟩;refine aA (kl) (by simp only[go_sem]) (by simp only[go_sem]) (by simp only[go_sem]) (by simp only[go_sem]) (by simp only[go_sem]) (by simp only[go_sem]) ?_;simp only[go_sem,aG h2];exact aM [] _ (fu C) ⟨rfl,rfl⟩
  have ha2:=bR 900 41 1 R.length T6 R [T6 l] rfl;rw[YA]at ha2;simp only[go_sem,aw h1];refine⟨by omega,h1,?_⟩;refine aA (kl) (by simp only[go_sem]) (by simp only[go_sem]) (by simp only[go_sem]) (by simp only[go_sem]) (by simp only[go_sem]) (by simp only[go_sem]) ?_;simp only[go_sem,ar h2,ha2,sB];refine⟨by omega,?_⟩;refine ay (j+1,R++[l]) ⟨show j+1<=L.length by omega,by simp[hR],?_,?_⟩ (show L.length-(j+1)<L.length-j by omega) (Wk.of ?_ ?_)
  .intro l' hl';rcases gh.1 hl' with q|q
   .exact hRb l' q
   .rw[eF.1 q];exact lb
  .rw[hx];simp only[h2];by_cases h3:(fI C (L.drop (j+1))).2=0
   .simp[h3]
   .simp[h3]
  .simp only[go_sem,e8];try simp
  .simp only[go_sem];try simp[YA]
 have hend:j=L.length:=by omega
 rw[hend,cu (aN _)]at hx;have hx:G=(R,0):=by rw[hx];simp[fI]
 subst hx;have hR0:R.length=L.length:=by rw[hR,hend]
 dsimp only at hT;rw[ax (by simp)]at hT;have hw:=Zi (n:=R.length) (by omega) (by omega);have hlast:(ap R (R.length-1)).length<=1000:=hRb _ (by rw[aV (by omega)];exact gO _);obtain⟨la,hla⟩:∃la,ap R (R.length-1)=la:=⟨_,rfl⟩
 rw[hla]at hT hlast;simp only[go_sem,aC h1,hw,cY,ga,hla];refine⟨⟨by omega,by omega⟩,by omega,?_⟩;refine ao (λq:Nat=>⟨[(56,.int .i64 q),(55,.int .i64 R.length),(54,.sl 1 (R.map T6)),(10,.sl 1 (la.map bg)),(5,.sl 1 (R.map T6)),(0,.mp 1000 5 0 0)],fu C⟩)
  (λq=>q<=R.length/\(R.all λl=>l.length==la.length)=((R.drop q).all λl=>l.length==la.length)) (λq=>R.length-q) 0 ⟨cR _,rfl⟩ (Wk.frz_of [900] ?_ ?_) ?_
 .simp only[go_sem,aN,lD,oK,ga];try simp
 .simp only[go_sem];try rfl
 intro j2 hh;obtain⟨hj2,hx2⟩:j2<=R.length/\(R.all λl=>l.length==la.length)=((R.drop j2).all λl=>l.length==la.length):=hh;by_cases h2:(j2:Int)<(R.length:Int)
 .have hj2':j2<R.length:=by omega
  have e8:=cA hj2' (by omega);rw[cH hj2',KH]at hx2;have hrb:(ap R j2).length<=1000:=hRb _ (by rw[aV hj2'];exact gO _);by_cases h3:(ap R j2).length=la.length
  .rw[show((ap R j2).length==la.length)=true from beq_iff_eq.2 h3,gp]at hx2;have h3':((ap R j2).length:Int)=(la.length:Int):=by omega
   simp only[go_sem,aw h2,ar h3'];refine⟨by omega,h2,?_⟩;refine ay (j2+1) ⟨show j2+1<=R.length by omega,hx2⟩ (show R.length-(j2+1)<R.length-j2 by omega) (Wk.of ?_ ?_)
   .simp only[go_sem,e8];try simp
   .simp only[go_sem];try simp
  .rw[show((ap R j2).length==la.length)=false from CV.2 h3,gX]at hx2;have h3':¬((ap R j2).length:Int)=(la.length:Int):=by omega
   rw[aF hx2]at hT;subst hT;simp only[go_sem,aw h2,aG h3'];refine⟨by omega,h2,?_⟩;exact aM [] _ (fu C) ⟨rfl,rfl⟩
 have hend2:j2=R.length:=by omega
 rw[hend2,cu (aN _)]at hx2;have hall:(R.all λl=>l.length==la.length)=true:=hx2;rw[ax (by rw[hall];decide)]at hT;have kw:=oa C.s [1] (hLeft _ _ (by have:=h.u;omega) (by have:=h.l;omega) (by simp));obtain⟨b1,b2⟩:=gL C.s [1];have hu:=h.u;have hlC:=h.l;generalize C.s.want [1]=Q at kw b1 b2 hT;obtain⟨e,S1⟩:=Q;dsimp only at kw b1 b2 hT;simp only[go_sem,aC h2];refine aA (dD C) (by simp only[go_sem]) (by simp only[go_sem]) (by simp only[go_sem]) (by simp only[go_sem]) (by simp only[go_sem]) (by simp only[go_sem]) ?_;simp only[go_sem];refine bA (eZ.frzs [68] _ _) ?_;simp only[go_sem];refine aJ (kw) (by simp only[go_sem]) (by simp only[go_sem]) (by simp only[go_sem]) (by simp only[go_sem]) ?_;by_cases e5:e=0;rotate_left
 .rw[aF e5]at hT;subst hT;simp only[go_sem,aG e5];exact aM [] _ (fu {C with s:=S1}) ⟨rfl,rfl⟩
 rw[ax (λq=>q e5)]at hT;simp only[go_sem,ar e5];refine⟨⟨by omega,by omega,by omega⟩,?_⟩;have w0:IntKind.i64.wrap ((la.length:Int)-1)=(la.length:Int)-1:=wi (by omega) (by omega);refine ao (λq:Nat×List Int×Sk=>⟨[(15,.int .i64 ((q.1:Int)-1)),(14,.ms 75 1 0 la.length),(10,.sl 1 (la.map bg)),(5,.sl 1 (R.map T6)),(0,.mp 1000 5 0 0)],fu {C with s:=q.2.2}++[(75,⟨71,1,(List.replicate q.1 0++q.2.1).map bg,false⟩)]⟩)
  (λq=>q.1+q.2.1.length=la.length/\q.2.2.u=S1.u/\q.2.2.all.length<=S1.all.length/\uJ la.length S1 []=uJ q.1 q.2.2 q.2.1) (λq=>q.1) (la.length,[],S1) ⟨rfl,rfl,aN _,rfl⟩ (Wk.of ?_ ?_) ?_
 .simp only[go_sem,w0];try simp
 .simp only[go_sem];try simp[bg]
 rintro⟨m,l,S⟩ ⟨hm,hSu,hSl,hP⟩;dsimp only at hm hSu hSl hP;cases m with
 | succ m =>
  have h6:((m+1:Nat):Int)-1>=0:=by omega
  have zG:=dD {C with s:=S};have kp:=Gv S (by rw[hSu,b1];omega) (by omega);obtain⟨b3,b4⟩:=zt S;rw[uJ]at hP;generalize S.pop=Q at kp b3 b4 hP;obtain⟨t,e6,S2⟩:=Q;dsimp only at kp b3 b4 hP;by_cases e7:e6=0;rotate_left
  .rw[aF e7]at hP;rw[hP,aF e7]at hT;subst hT;simp only[go_sem,aw h6];refine aA (zG) (by simp only[go_sem]) (by simp only[go_sem]) (by simp only[go_sem]) (by simp only[go_sem]) (by simp only[go_sem]) (by simp only[go_sem]) ?_;simp only[go_sem];refine aJ (kp) (by simp only[go_sem]) (by simp only[go_sem]) (by simp only[go_sem]) (by simp only[go_sem]) ?_;simp only[go_sem,aG e7];exact aM [] _ (fu {C with s:=S2}) ⟨rfl,rfl⟩
  rw[ax (λq=>q e7)]at hP;have w1:((m+1:Nat):Int)-1=(m:Int):=by omega
  have w2:IntKind.i64.wrap ((m:Int)-1)=(m:Int)-1:=wi (by omega) (by omega);rw[w1]at h6⊢;simp only[go_sem,aw h6];refine aA (zG) (by simp only[go_sem]) (by simp only[go_sem]) (by simp only[go_sem]) (by simp only[go_sem]) (by simp only[go_sem]) (by simp only[go_sem]) ?_;simp only[go_sem];refine aJ (kp) (by simp only[go_sem]) (by simp only[go_sem]) (by simp only[go_sem]) (by simp only[go_sem]) ?_;have hs:DN 75 1 1 m 0 (some ⟨71,1,(List.replicate (m+1) 0++l).map bg,false⟩) (some [.int .i64 t])=if m<(List.replicate (m+1) 0++l).length then some (.put 75 ⟨71,1,((List.replicate (m+1) 0++l).set m t).map bg,false⟩)else none:=Fs 75 1 1 m 71 bg _ t (λ_=>rfl) rfl
  have hset:(List.replicate (m+1) (0:Int)++l).set m t=List.replicate m 0++(t::l):=by
   rw[Z9,mE,List.set_append_right _ _ (by simp)];simp
  rw[hset]at hs;have hlen:(List.replicate (m+1) (0:Int)++l).length=m+1+l.length:=by simp
  simp only[go_sem,ar e7,cY,ga,hs,hlen,w2];refine⟨⟨by omega,by omega⟩,by omega,?_⟩;refine ay (m,t::l,S2) ⟨show m+(l.length+1)=la.length by omega,show S2.u=S1.u by rw[b3,hSu],show S2.all.length<=S1.all.length by omega,hP⟩ (show m<m+1 by omega) (Wk.of ?_ ?_)
  .simp only[go_sem];try simp
  .simp only[go_sem];try simp
 | zero =>
  have h6:¬(((0:Nat):Int)-1>=0):=by omega
  have hml:l.length=la.length:=by omega
  rw[uJ]at hP;rw[hP]at hT;dsimp only at hT;rw[ax (λq=>q rfl)]at hT;simp only[go_sem,aC h6,List.replicate_zero,iD];refine ao (λq:Nat=>⟨[(98,.int .i64 q),(97,.int .i64 R.length),(96,.sl 1 (R.map T6)),(14,.sl 1 (l.map bg)),(0,.mp 1000 5 0 0)],fu {C with s:=S}⟩)
   (λq=>q<=R.length/\(R.all λr=>qn l r)=((R.drop q).all λr=>qn l r)) (λq=>R.length-q) 0 ⟨cR _,rfl⟩ (Wk.frz_of [75] ?_ ?_) ?_
  .simp only[go_sem,<-hml,aN,lD,oK,ga];try simp
  .simp only[go_sem];try rfl
  intro q hh;obtain⟨hq,hx3⟩:q<=R.length/\(R.all λr=>qn l r)=((R.drop q).all λr=>qn l r):=hh;by_cases h7:(q:Int)<(R.length:Int)
  .have hq':q<R.length:=by omega
   have e8:=cA hq' (by omega);rw[cH hq',KH]at hx3;have hrl:(ap R q).length=l.length:=by
    have:=f_.1 hall (ap R q) (by rw[aV hq'];exact gO _);rw[hml];exact beq_iff_eq.1 this
   obtain⟨rw1,hrw⟩:∃r,ap R q=r:=⟨_,rfl⟩
   rw[hrw]at hx3 hrl;simp only[go_sem,aw h7,hrw];refine⟨by omega,h7,?_⟩;refine ao (λp:Nat=>⟨[(104,.int .i64 p),(103,.int .i64 rw1.length),(102,.sl 1 (rw1.map bg)),(98,.int .i64 q),(97,.int .i64 R.length),(96,.sl 1 (R.map T6)),(14,.sl 1 (l.map bg)),(0,.mp 1000 5 0 0)],fu {C with s:=S}⟩)
    (λp=>p<=rw1.length/\qn l rw1=qn (l.drop p) (rw1.drop p)) (λp=>rw1.length-p) 0 ⟨cR _,rfl⟩ (Wk.of ?_ ?_) ?_
   .simp only[go_sem];try simp
   .simp only[go_sem];try rfl
   intro p hh;obtain⟨hp,hx4⟩:p<=rw1.length/\qn l rw1=qn (l.drop p) (rw1.drop p):=hh;by_cases h8:(p:Int)<(rw1.length:Int)
   .have hp':p<rw1.length:=by omega
    have e9:=cA hp' (by omega);rw[cH hp',cH (l:=l) (by omega),Li]at hx4;have h9:(p:Int)<(l.length:Int):=by omega
    by_cases g1:ap l p=0
    .rw[aK g1,B5,gp]at hx4;simp only[go_sem,aw h8,ar g1];refine⟨by omega,h8,by omega,h9,?_⟩;refine ay (p+1) ⟨show p+1<=rw1.length by omega,hx4⟩ (show rw1.length-(p+1)<rw1.length-p by omega) (Wk.of ?_ ?_)
     .simp only[go_sem,e9];try simp
     .simp only[go_sem];try rfl
    by_cases g2:ap l p=ap rw1 p
    .rw[aK g2,Bool.or_true,gp]at hx4;simp only[go_sem,aw h8,aG g1];refine⟨by omega,h8,by omega,h9,by omega,h9,?_⟩;simp only[go_sem,ar g2];refine ay (p+1) ⟨show p+1<=rw1.length by omega,hx4⟩ (show rw1.length-(p+1)<rw1.length-p by omega) (Wk.of ?_ ?_)
     .simp only[go_sem,e9];try simp
     .simp only[go_sem];try rfl
    .rw[ab g1,ab g2,Bool.or_self,gX]at hx4;rw[hx4,gX]at hx3;rw[aF hx3]at hT;subst hT;simp only[go_sem,aw h8,aG g1];refine⟨by omega,h8,by omega,h9,by omega,h9,?_⟩;simp only[go_sem,aG g2];exact aM [] _ (fu {C with s:=S}) ⟨rfl,rfl⟩
   have hpe:p=rw1.length:=by omega
   rw[hpe,cu (aN _),hrl,cu (aN _)]at hx4;rw[show qn l rw1=true from hx4,gp]at hx3;simp only[go_sem,aC h8];refine ay (q+1) ⟨show q+1<=R.length by omega,hx3⟩ (show R.length-(q+1)<R.length-q by omega) (Wk.of ?_ ?_)
   .simp only[go_sem,e8];try simp
   .simp only[go_sem];try rfl
  have hqe:q=R.length:=by omega
  rw[hqe,cu (aN _)]at hx3;rw[ax (by rw[hx3];simp)]at hT;subst hT;simp only[go_sem,aC h7];exact aM [] _ (fu {C with s:=S}) ⟨rfl,rfl⟩
end
section
open Go Go.Mw
def E9.mono{n m:Nat}{C:Ct}(h:E9 n C)(hm:n<=m):E9 m C:=⟨by have:=h.u;omega,by have:=h.l;omega,by have:=h.b;omega,h.r,h.t⟩
def E9.sk{n:Nat}{C:Ct}(h:E9 n C){S:Sk}(h1:S.u.length<=n)(h2:S.all.length<=n):E9 n {C with s:=S}:=⟨h1,h2,h.b,h.r,h.t⟩
def Ql:∀(n:Nat)(S:Sk)(l:List Int),(uJ n S l).2.2.u=S.u/\(uJ n S l).2.2.all.length<=S.all.length
 | 0,S,l=>⟨rfl,aN _⟩
 | n+1,S,l=>by
  obtain⟨h1,h2⟩:=zt S;unfold uJ;split
  .exact⟨h1,h2⟩
  .obtain⟨h3,h4⟩:=Ql n S.pop.2.2 (S.pop.1::l);exact⟨by rw[h3,h1],by omega⟩
def KB(C:Ct)(x:a_):∃S,(pW C x).2={C with s:=S}/\S.u=C.s.u/\S.all.length<=C.s.all.length:=by
 obtain⟨w1,w2⟩:=gL C.s [1];unfold pW;dsimp only;split
 .exact⟨C.s,rfl,rfl,aN _⟩
 split
 .exact⟨C.s,rfl,rfl,aN _⟩
 split
 .exact⟨(C.s.want [1]).2,rfl,w1,w2⟩
 have hp:=Ql (ap (fI C (x.lb++[x.a])).1 ((fI C (x.lb++[x.a])).1.length-1)).length (C.s.want [1]).2 [];generalize uJ (ap (fI C (x.lb++[x.a])).1 ((fI C (x.lb++[x.a])).1.length-1)).length (C.s.want [1]).2 []=P at hp⊢;obtain⟨p1,p2⟩:=hp;split
 .exact⟨P.2.2,rfl,by rw[p1,w1],by omega⟩
 split
 .exact⟨P.2.2,rfl,by rw[p1,w1],by omega⟩
 .exact⟨P.2.2,rfl,by rw[p1,w1],by omega⟩
attribute[local go_sem] bP xL xN xO xM pm AJ AK zh zi oT aU dt
def O9(hLeft:eS)(C:Ct)(x:a_)(h:E9 700000 C)(hl:x.lb.length<=1000):DS Cy [kD x] C (.int .i64 (nK C x).1) (nK C x).2:=by
 refine dj fT ?_;obtain⟨T,hT⟩:∃T,nK C x=T:=⟨_,rfl⟩
 rw[hT];unfold nK at hT;dsimp only at hT;have hu:=h.u;have hlC:=h.l;have kr:=Yk C (h.mono (by decide));have kl:=JV C (h.mono (by decide)) x.a;have lb:=J0 (h.mono (by decide)) x.a;have rb:C.retn.length<=1000:=by
  unfold Ct.retn;split
  .exact cR _
  .exact h.r
 have kt:=TC hLeft C x (h.mono (by decide)) hl;generalize C.retn=rt at kr rb hT;generalize C.label x.a=Q at kl lb hT;obtain⟨l,e⟩:=Q;dsimp only at kl lb hT;obtain⟨LL,hLL⟩:∃LL,(if x.op≠15/\x.op≠14 then(l,e)else(rt,0))=LL:=⟨_,rfl⟩
 rw[hLL]at hT;by_cases o14:x.op=14
 .rw[ax (λq=>q.2 o14)]at hLL;subst hLL;rw[ax (λq=>q rfl),aF o14]at hT;obtain⟨S1,hS,t1,t2⟩:=KB C x;generalize pW C x=Q at kt hT hS;obtain⟨e1,C1⟩:=Q;dsimp only at kt hT hS;subst hS;have kd:=Er {C with s:=S1} ((h.mono (by decide)).sk (by rw[t1];omega) (by omega));simp only[go_sem,fT];refine aA (kr) (by simp only[go_sem]) (by simp only[go_sem]) (by simp only[go_sem]) (by simp only[go_sem]) (by simp only[go_sem]) (by simp only[go_sem]) ?_;simp only[go_sem,aG (show ¬x.op=15 by omega),ar o14,aK o14];refine aA (kt) (by simp only[go_sem]) (by simp only[go_sem]) (by simp only[go_sem]) (by simp only[go_sem]) (by simp only[go_sem]) (by simp only[go_sem]) ?_;by_cases e2:e1=0
  .rw[n9,aF e2]at hT;subst hT;simp only[go_sem,aK e2];refine aA (kd) (by simp only[go_sem]) (by simp only[go_sem]) (by simp only[go_sem]) (by simp only[go_sem]) (by simp only[go_sem]) (by simp only[go_sem]) ?_;simp only[go_sem,e2];exact aM [] _ (fu ({C with s:=S1}:Ct).dead) ⟨rfl,rfl⟩
  .rw[n9,ax e2]at hT;subst hT;simp only[go_sem,ab e2];exact aM [] _ (fu {C with s:=S1}) ⟨rfl,rfl⟩
 by_cases o15:x.op=15
 .rw[ax (λq=>q.1 o15)]at hLL;subst hLL;rw[ax (λq=>q rfl),ax o14,ax (show ¬x.op=13 by omega)]at hT;dsimp only at hT;have kw:=oa C.s rt (hLeft _ _ (by omega) (by omega) (by omega));obtain⟨b1,b2⟩:=gL C.s rt;generalize C.s.want rt=Q at kw b1 b2 hT;obtain⟨e1,S1⟩:=Q;dsimp only at kw b1 b2 hT;have kd:=Er {C with s:=S1} ((h.mono (by decide)).sk (by rw[b1];omega) (by omega));simp only[go_sem,fT];refine aA (kr) (by simp only[go_sem]) (by simp only[go_sem]) (by simp only[go_sem]) (by simp only[go_sem]) (by simp only[go_sem]) (by simp only[go_sem]) ?_;simp only[go_sem,ar o15,ab o14,ab (show ¬x.op=13 by omega)];refine aA (dD C) (by simp only[go_sem]) (by simp only[go_sem]) (by simp only[go_sem]) (by simp only[go_sem]) (by simp only[go_sem]) (by simp only[go_sem]) ?_;simp only[go_sem];refine aJ (kw) (by simp only[go_sem]) (by simp only[go_sem]) (by simp only[go_sem]) (by simp only[go_sem]) ?_;by_cases e2:e1=0
  .rw[n9,aF e2]at hT;subst hT;simp only[go_sem,aK e2];refine aA (kd) (by simp only[go_sem]) (by simp only[go_sem]) (by simp only[go_sem]) (by simp only[go_sem]) (by simp only[go_sem]) (by simp only[go_sem]) ?_;simp only[go_sem,e2];exact aM [] _ (fu ({C with s:=S1}:Ct).dead) ⟨rfl,rfl⟩
  .rw[n9,ax e2]at hT;subst hT;simp only[go_sem,ab e2];exact aM [] _ (fu {C with s:=S1}) ⟨rfl,rfl⟩
 rw[aF ⟨o15,o14⟩]at hLL;subst hLL;dsimp only at hT;by_cases e3:e=0;rotate_left
 .rw[aF e3]at hT;subst hT;simp only[go_sem,fT];refine aA (kr) (by simp only[go_sem]) (by simp only[go_sem]) (by simp only[go_sem]) (by simp only[go_sem]) (by simp only[go_sem]) (by simp only[go_sem]) ?_;simp only[go_sem,aG o15,aG o14];refine aA (kl) (by simp only[go_sem]) (by simp only[go_sem]) (by simp only[go_sem]) (by simp only[go_sem]) (by simp only[go_sem]) (by simp only[go_sem]) ?_;simp only[go_sem,aG e3];exact aM [] _ (fu C) ⟨rfl,rfl⟩
 rw[ax (λq=>q e3),ax o14]at hT;by_cases o13:x.op=13
 .rw[aF o13]at hT;have kw:=oa C.s [1] (hLeft _ _ (by omega) (by omega) (by simp));obtain⟨b1,b2⟩:=gL C.s [1];generalize C.s.want [1]=Q at kw b1 b2 hT;obtain⟨e1,S1⟩:=Q;dsimp only at kw b1 b2 hT;have kt:=Pc hLeft S1 ⟨l,l⟩ ⟨by rw[b1];omega,by omega⟩ ⟨show l.length<=10000 by omega,show l.length<=10000 by omega⟩;generalize qK S1 ⟨l,l⟩=Q at kt hT;obtain⟨e4,S2⟩:=Q;dsimp only at kt hT;have zG:=dD {C with s:=S1};simp only[go_sem,fT];refine aA (kr) (by simp only[go_sem]) (by simp only[go_sem]) (by simp only[go_sem]) (by simp only[go_sem]) (by simp only[go_sem]) (by simp only[go_sem]) ?_;simp only[go_sem,aG o15,aG o14];refine aA (kl) (by simp only[go_sem]) (by simp only[go_sem]) (by simp only[go_sem]) (by simp only[go_sem]) (by simp only[go_sem]) (by simp only[go_sem]) ?_;simp only[go_sem,ar e3,ab o14,aK o13];refine aA (dD C) (by simp only[go_sem]) (by simp only[go_sem]) (by simp only[go_sem]) (by simp only[go_sem]) (by simp only[go_sem]) (by simp only[go_sem]) ?_;simp only[go_sem];refine bA (eZ.frzs [43] _ _) ?_;simp only[go_sem];refine aJ (kw) (by simp only[go_sem]) (by simp only[go_sem]) (by simp only[go_sem]) (by simp only[go_sem]) ?_;by_cases e2:e1=0
  .rw[ax (λq=>q e2)]at hT;subst hT;simp only[go_sem,ar e2];refine aA (zG) (by simp only[go_sem]) (by simp only[go_sem]) (by simp only[go_sem]) (by simp only[go_sem]) (by simp only[go_sem]) (by simp only[go_sem]) ?_;simp only[go_sem];refine aJ (kt) (by simp only[go_sem]) (by simp only[go_sem]) (by simp only[go_sem]) (by simp only[go_sem]) ?_;simp only[go_sem];exact aM [] _ (fu {C with s:=S2}) ⟨rfl,rfl⟩
  .rw[aF e2]at hT;subst hT;simp only[go_sem,aG e2];exact aM [] _ (fu {C with s:=S1}) ⟨rfl,rfl⟩
 rw[ax o13]at hT;have kw:=oa C.s l (hLeft _ _ (by omega) (by omega) (by omega));obtain⟨b1,b2⟩:=gL C.s l;generalize C.s.want l=Q at kw b1 b2 hT;obtain⟨e1,S1⟩:=Q;dsimp only at kw b1 b2 hT;have kd:=Er {C with s:=S1} ((h.mono (by decide)).sk (by rw[b1];omega) (by omega));simp only[go_sem,fT];refine aA (kr) (by simp only[go_sem]) (by simp only[go_sem]) (by simp only[go_sem]) (by simp only[go_sem]) (by simp only[go_sem]) (by simp only[go_sem]) ?_;simp only[go_sem,aG o15,aG o14];refine aA (kl) (by simp only[go_sem]) (by simp only[go_sem]) (by simp only[go_sem]) (by simp only[go_sem]) (by simp only[go_sem]) (by simp only[go_sem]) ?_;simp only[go_sem,ar e3,ab o14,ab o13];refine aA (dD C) (by simp only[go_sem]) (by simp only[go_sem]) (by simp only[go_sem]) (by simp only[go_sem]) (by simp only[go_sem]) (by simp only[go_sem]) ?_;simp only[go_sem];refine aJ (kw) (by simp only[go_sem]) (by simp only[go_sem]) (by simp only[go_sem]) (by simp only[go_sem]) ?_;by_cases e2:e1=0
 .rw[n9,aF e2]at hT;subst hT;simp only[go_sem,aK e2];refine aA (kd) (by simp only[go_sem]) (by simp only[go_sem]) (by simp only[go_sem]) (by simp only[go_sem]) (by simp only[go_sem]) (by simp only[go_sem]) ?_;simp only[go_sem,e2];exact aM [] _ (fu ({C with s:=S1}:Ct).dead) ⟨rfl,rfl⟩
 .rw[n9,ax e2]at hT;subst hT;simp only[go_sem,ab e2];exact aM [] _ (fu {C with s:=S1}) ⟨rfl,rfl⟩
def Zh{x:a_}(h:I4 x)(hp:B9 x=true):wY x.a=true/\wY x.b=true/\wV (gF x.op) x=true:=by
 obtain⟨h1,h2,h3⟩:=h;obtain⟨t1,_,t3,_⟩:=WA x.op;unfold B9 at hp;rw[<-Wo (L_ x.op) (Em x.op) (Wp x.op) x h3]at hp;unfold plP at hp;simp only[fQ]at hp;obtain⟨_,_,_,_,ha,hb,_,_,_,_,hf⟩:=hp;rw[t3];exact⟨ha,hb,hf⟩
end
section
open Go Go.Mw
def Ws(r:Ft×Int):CO r = .tup [.agg (kz r.1),.int .i64 r.2]:=rfl
def tS(s:Sp):Prop:=∀x∈s.ts,x.ps.length<=100/\x.rs.length<=100
def tS.sm{s:Sp}(h:tS s):B0 s:=λx hx=>⟨by have:=(h x hx).1;omega,by have:=(h x hx).2;omega⟩
def VA{s:Sp}(h:tS s)(i:Int){f:Ft}(hf:s.ty i=some f):f.ps.length<=100/\f.rs.length<=100:=by
 unfold Sp.ty d9 at hf;split at hf
 .exact h f (nF hf)
 .cases hf
def VQ{s:Sp}(h:tS s){k v x:Int}{f:Ft}(hf:s.blk k v x=some f):f.ps.length<=100/\f.rs.length<=100:=by
 unfold Sp.blk at hf;split at hf
 .cases hf;exact⟨cR _,cR _⟩
 split at hf
 .split at hf
  .cases hf;exact⟨cR _,by show 1<=100;omega⟩
  .cases hf
 split at hf
 .exact VA h _ hf
 .cases hf
def abn{s:Sp}(h:tS s){i:Int}{f:Ft}(hf:s.fn i=some f):f.ps.length<=100/\f.rs.length<=100:=by
 unfold Sp.fn at hf;cases hq:d9 s.fs i with
 | none=>rw[hq]at hf;cases hf
 | some k=>rw[hq]at hf;exact VA h _ hf
def YQ(op t:Int)(s:List UInt8):(CK op t s).1.length<=200/\(CK op t s).2.length<=200:=by
 unfold CK
 repeat' split
 all_goals exact⟨by simp,by simp⟩
def aeA(op:Int):(vL op).1.length<=200/\(vL op).2.1.length<=200:=by
 unfold vL;cases hf:sgT.find? (λp=>p.1==op)with
 | some p =>
  have hm:=List.mem_of_find?_eq_some hf;have:∀p∈sgT,p.2.1.length<=200/\p.2.2.length<=200:=by decide
  exact this p hm
 | none =>
  dsimp only;split
  .exact YQ _ _ _
  .exact⟨by simp,by simp⟩
def KC{s:Sp}(h:tS s)(lo:List Int)(x:a_):(oD s lo x).1.ps.length<=200/\(oD s lo x).1.rs.length<=200:=by
 have hd:(default:Ft).ps.length<=200/\(default:Ft).rs.length<=200:=⟨cR _,cR _⟩
 rw[HK];split
 .unfold fnA;split
  .exact hd
  .rename_i f hf;obtain⟨g1,g2⟩:=abn h hf;split
   .exact⟨cZ g1 (by decide),cZ g2 (by decide)⟩
   split
   .exact hd
   .exact⟨cR _,by simp⟩
 split
 .unfold inA;split
  .rename_i f t hf ht;have:=VA h _ hf;split
   .exact hd
   .exact⟨by show(f.ps++[1]).length<=200;rw[ej];simp;omega,by show f.rs.length<=200;omega⟩
  .exact hd
 split
 .exact⟨by simp,by simp⟩
 split
 .unfold lcA;split
  .exact hd
  split
  .exact⟨by simp,by simp⟩
  split<;>exact⟨by simp,by simp⟩
 split
 .unfold glA;split
  .exact hd
  split
  .exact⟨by simp,by simp⟩
  split
  .exact hd
  .exact⟨by simp,by simp⟩
 split
 .unfold tbA;split
  .exact hd
  repeat' split
  all_goals exact⟨by simp,by simp⟩
 split
 .exact⟨by simp,by simp⟩
 split
 .exact hd
 .exact aeA x.op
attribute[local go_sem] bP xL xN xO xM pm AJ AK zh zi oT aU dt Ws Gh Gi
def Tv(hLeft:eS)(C:Ct)(s:Sp)(lo:List Int)(x:a_)(h:E9 600000 C)(hs:tS s)(hlo:lo.length<=9000000)(hx:I4 x)(hl:x.lb.length<=1000):DS EK [qZ s,.sl 1 (lo.map bg),kD x] C (.int .i64 (jF C s lo x).1) (jF C s lo x).2:=by
 refine kB (ic:=iI 82 (iI 67 cM.body)) nR (cF cM) rfl rfl ?_;have hu:=h.u;have hlC:=h.l;have cn:=Vf s x hs.sm hx;have hp:B9 x=true->0<=x.a/\(gF x.op=6->0<x.ty.length):=λq=>by
  obtain⟨p1,p2,p3⟩:=Zh hx q;refine⟨?_,λq6=>?_⟩
  .simp only[wY,fQ,tT]at p1;omega
  .rw[q6]at p3;simp only[wV]at p3;rw[ax (by decide),aF trivial]at p3;simp only[fQ,beq_iff_eq]at p3;omega
 unfold jF;cases hpl:B9 x
 .rw[hpl]at cn;rw[aF rfl];simp only[bc,aD,dt]at cn;simp only[go_sem,cM,bc,aD];refine aA (dD C) (by simp only[go_sem]) (by simp only[go_sem]) (by simp only[go_sem]) (by simp only[go_sem]) (by simp only[go_sem]) (by simp only[go_sem]) ?_;simp only[go_sem];refine aa (cn) ?_;exact aM [] _ (fu C) ⟨rfl,rfl⟩
 obtain⟨hp1,hp2⟩:=hp hpl;rw[hpl]at cn;rw[ax (by decide)];simp only[bc,aD,dt]at cn;by_cases q1:x.op=2\/x.op=3\/x.op=4
 .rw[aF q1];have cb:=Kq s x.k x.v x.x hs.sm;have hbn:=λf=>VQ (f:=f) hs (k:=x.k) (v:=x.v) (x:=x.x);generalize s.blk x.k x.v x.x=Q at cb hbn⊢;cases Q with
  | none =>
   simp only[bc,aD,aU]at cb;rcases q1 with q|q|q
   all_goals
    simp only[go_sem,cM,bc,aD];refine aA (dD C) (by simp only[go_sem]) (by simp only[go_sem]) (by simp only[go_sem]) (by simp only[go_sem]) (by simp only[go_sem]) (by simp only[go_sem]) ?_;simp only[go_sem];refine ak (cn) ?_;simp only[go_sem,q];refine ak (cb) ?_;simp only[go_sem,Option.isSome_none];exact aM [] _ (fu C) ⟨rfl,rfl⟩
  | some f =>
   have ke:=Tz hLeft C (h.mono (by decide)) x.op f ⟨by have:=(hbn f rfl).1;omega,by have:=(hbn f rfl).2;omega⟩;simp only[bc,aD,aU,gb,Option.isSome_some]at cb ke;dsimp only;generalize C.enter x.op f=R at ke⊢;rcases q1 with q|q|q
   all_goals
    rw[q]at ke;simp only[go_sem,cM,bc,aD];refine aA (dD C) (by simp only[go_sem]) (by simp only[go_sem]) (by simp only[go_sem]) (by simp only[go_sem]) (by simp only[go_sem]) (by simp only[go_sem]) ?_;simp only[go_sem];refine ak (cn) ?_;simp only[go_sem,q];refine aa (cb) ?_;refine aA (ke) (by simp only[go_sem]) (by simp only[go_sem]) (by simp only[go_sem]) (by simp only[go_sem]) (by simp only[go_sem]) (by simp only[go_sem]) ?_;simp only[go_sem];exact aM [] _ (fu R.2) ⟨rfl,rfl⟩
 have n2:¬x.op=2:=λq=>q1 (.inl q);have n3:¬x.op=3:=λq=>q1 (.inr (.inl q));have n4:¬x.op=4:=λq=>q1 (.inr (.inr q));rw[ax q1];by_cases n5:x.op=5
 .rw[aF n5];have ke:=Yh hLeft C (h.mono (by decide));generalize C.els=R at ke⊢;simp only[go_sem,cM,bc,aD];refine aA (dD C) (by simp only[go_sem]) (by simp only[go_sem]) (by simp only[go_sem]) (by simp only[go_sem]) (by simp only[go_sem]) (by simp only[go_sem]) ?_;simp only[go_sem];refine ak (cn) ?_;simp only[go_sem,ab n2,ab n3,ab n4,aK n5];refine aA (ke) (by simp only[go_sem]) (by simp only[go_sem]) (by simp only[go_sem]) (by simp only[go_sem]) (by simp only[go_sem]) (by simp only[go_sem]) ?_;simp only[go_sem];exact aM [] _ (fu R.2) ⟨rfl,rfl⟩
 rw[ax n5];by_cases n11:x.op=11
 .rw[aF n11];have ke:=TA hLeft C (h.mono (by decide));generalize C.leave=R at ke⊢;simp only[go_sem,cM,bc,aD];refine aA (dD C) (by simp only[go_sem]) (by simp only[go_sem]) (by simp only[go_sem]) (by simp only[go_sem]) (by simp only[go_sem]) (by simp only[go_sem]) ?_;simp only[go_sem];refine ak (cn) ?_;simp only[go_sem,ab n2,ab n3,ab n4,ab n5,aK n11];refine aA (ke) (by simp only[go_sem]) (by simp only[go_sem]) (by simp only[go_sem]) (by simp only[go_sem]) (by simp only[go_sem]) (by simp only[go_sem]) ?_;simp only[go_sem];exact aM [] _ (fu R.2) ⟨rfl,rfl⟩
 rw[ax n11];by_cases n0:x.op=0
 .rw[aF n0];have ke:=Er C (h.mono (by decide));simp only[go_sem,cM,bc,aD];refine aA (dD C) (by simp only[go_sem]) (by simp only[go_sem]) (by simp only[go_sem]) (by simp only[go_sem]) (by simp only[go_sem]) (by simp only[go_sem]) ?_;simp only[go_sem];refine ak (cn) ?_;simp only[go_sem,ab n2,ab n3,ab n4,ab n5,ab n11,aK n0];refine aA (ke) (by simp only[go_sem]) (by simp only[go_sem]) (by simp only[go_sem]) (by simp only[go_sem]) (by simp only[go_sem]) (by simp only[go_sem]) ?_;simp only[go_sem];exact aM [] _ (fu C.dead) ⟨rfl,rfl⟩
 rw[ax n0];by_cases qb:x.op=12\/x.op=13\/x.op=14\/x.op=15
 .rw[aF qb];have ke:=O9 hLeft C x (h.mono (by decide)) hl;generalize nK C x=R at ke⊢;simp only[dt]at ke;rcases qb with q|q|q|q
  all_goals
   rw[q]at ke cn;simp only[go_sem,cM,bc,aD,q];refine aA (dD C) (by simp only[go_sem]) (by simp only[go_sem]) (by simp only[go_sem]) (by simp only[go_sem]) (by simp only[go_sem]) (by simp only[go_sem]) ?_;simp only[go_sem];refine aa (cn) ?_;refine aA (ke) (by simp only[go_sem]) (by simp only[go_sem]) (by simp only[go_sem]) (by simp only[go_sem]) (by simp only[go_sem]) (by simp only[go_sem]) ?_;simp only[go_sem];exact aM [] _ (fu R.2) ⟨rfl,rfl⟩
 have n12:¬x.op=12:=λq=>qb (.inl q);have n13:¬x.op=13:=λq=>qb (.inr (.inl q));have n14:¬x.op=14:=λq=>qb (.inr (.inr (.inl q)));have n15:¬x.op=15:=λq=>qb (.inr (.inr (.inr q)));rw[ax qb];by_cases qp:x.op=26\/x.op=27\/x.op=209
 .rw[aF qp];have ke:=Yj hLeft C.s x.op ⟨by omega,by omega⟩;generalize pi C.s x.op=R at ke⊢;obtain⟨e,S1⟩:=R;rcases qp with q|q|q
  all_goals
   rw[q]at ke cn;simp only[go_sem,cM,bc,aD,q];refine aA (dD C) (by simp only[go_sem]) (by simp only[go_sem]) (by simp only[go_sem]) (by simp only[go_sem]) (by simp only[go_sem]) (by simp only[go_sem]) ?_;simp only[go_sem];refine aa (cn) ?_
   repeat' (first|refine And.intro ?_ ?_|(refine aA (dD C) (by simp only[go_sem]) (by simp only[go_sem]) (by simp only[go_sem]) (by simp only[go_sem]) (by simp only[go_sem]) (by simp only[go_sem]) ?_;simp only[go_sem,yi,ve]))
   all_goals
    refine aJ (ke) (by simp only[go_sem]) (by simp only[go_sem]) (by simp only[go_sem]) (by simp only[go_sem]) ?_;simp only[go_sem];exact aM [] _ (fu {C with s:=S1}) ⟨rfl,rfl⟩
 have n26:¬x.op=26:=λq=>qp (.inl q);have n27:¬x.op=27:=λq=>qp (.inr (.inl q));have n209:¬x.op=209:=λq=>qp (.inr (.inr q));rw[ax qp];have ct:=Q3 s lo x hs.sm hx hp1 hlo hp2;have hn:=KC hs lo x;generalize oD s lo x=R at ct hn⊢;obtain⟨f,e⟩:=R;dsimp only at hn;simp only[Ws,bc,aD,dt,aU]at ct;by_cases e5:e=0;rotate_left
 .rw[aF e5];simp only[go_sem,cM,bc,aD];refine aA (dD C) (by simp only[go_sem]) (by simp only[go_sem]) (by simp only[go_sem]) (by simp only[go_sem]) (by simp only[go_sem]) (by simp only[go_sem]) ?_;simp only[go_sem];refine ak (cn) ?_;simp only[go_sem,ab n2,ab n3,ab n4,ab n5,ab n11,ab n0,ab n12,ab n13,ab n14,ab n15,ab n26,ab n27,ab n209];refine ak (ct) ?_;simp only[go_sem,aG e5];exact aM [] _ (fu C) ⟨rfl,rfl⟩
 rw[ax (λq=>q e5)];have kt:=Pc hLeft C.s f ⟨by omega,by omega⟩ ⟨by have:=hn.1;omega,by have:=hn.2;omega⟩;generalize qK C.s f=R at kt⊢;obtain⟨e1,S1⟩:=R;simp only[aU]at kt;simp only[go_sem,cM,bc,aD];refine aA (dD C) (by simp only[go_sem]) (by simp only[go_sem]) (by simp only[go_sem]) (by simp only[go_sem]) (by simp only[go_sem]) (by simp only[go_sem]) ?_;simp only[go_sem];refine ak (cn) ?_;simp only[go_sem,ab n2,ab n3,ab n4,ab n5,ab n11,ab n0,ab n12,ab n13,ab n14,ab n15,ab n26,ab n27,ab n209];refine ak (ct) ?_;simp only[go_sem,ar e5]
 repeat' (first|refine And.intro ?_ ?_|(refine aA (dD C) (by simp only[go_sem]) (by simp only[go_sem]) (by simp only[go_sem]) (by simp only[go_sem]) (by simp only[go_sem]) (by simp only[go_sem]) ?_;simp only[go_sem,yi,ve]))
 all_goals
  refine aJ (kt) (by simp only[go_sem]) (by simp only[go_sem]) (by simp only[go_sem]) (by simp only[go_sem]) ?_;simp only[go_sem];exact aM [] _ (fu {C with s:=S1}) ⟨rfl,rfl⟩
end
open Go Go.Mw
structure uG(k:Nat)(C:Ct):Prop where
 u:C.s.u.length<=k+1
 l:C.s.all.length<=200*k
 b:C.bs.length<=k+1
 r:C.rs.length<=100
 t:∀b∈C.bs,b.t.ps.length<=100/\b.t.rs.length<=100
def uG.ok{k:Nat}{C:Ct}(h:uG k C)(hk:k<=2100):E9 600000 C:=⟨by have:=h.u;omega,by have:=h.l;omega,by have:=h.b;omega,by have:=h.r;omega,λb hb=>⟨by have:=(h.t b hb).1;omega,by have:=(h.t b hb).2;omega⟩⟩
def uG.mono{k:Nat}{C:Ct}(h:uG k C):uG (k+1) C:=⟨by have:=h.u;omega,by have:=h.l;omega,by have:=h.b;omega,h.r,h.t⟩
def uG.sk{k:Nat}{C:Ct}(h:uG k C){S:Sk}(h1:S.u.length<=k+2)(h2:S.all.length<=200*(k+1)):uG (k+1) {C with s:=S}:=⟨h1,h2,by have:=h.b;show C.bs.length<=_;omega,h.r,h.t⟩
def uG.top{k:Nat}{C:Ct}(h:uG k C)(h0:C.bs.length≠0):C.top.t.ps.length<=100/\C.top.t.rs.length<=100/\C.top∈C.bs:=by
 have hm:C.top∈C.bs:=by
  unfold Ct.top;rw[aV (by omega)];exact gO _
 exact⟨(h.t _ hm).1,(h.t _ hm).2,hm⟩
def uG.broke{k:Nat}{C:Ct}(h:uG k C)(e:Int):uG k (C.broke e).2:=⟨h.u,h.l,h.b,h.r,h.t⟩
def sv(S:Sk)(l:List Int):(S.push l).all.length=S.all.length+l.length/\(S.push l).u=S.u:=⟨by rw[BD,ej],rfl⟩
def JM{k:Nat}{C:Ct}(b:Bk)(h1:C.s.u.length<=k+1)(h2:C.s.all.length<=200*k)(h3:C.bs.length<=k+1)(h4:C.rs.length<=100)(h5:∀b∈C.bs,b.t.ps.length<=100/\b.t.rs.length<=100)(hb:b.t.ps.length<=100/\b.t.rs.length<=100):uG (k+1) (C.begin b):=by
 obtain⟨p1,p2⟩:=sv C.s.opn b.t.ps;refine⟨?_,?_,?_,h4,?_⟩
 .show(C.s.opn.push b.t.ps).u.length<=_;rw[p2];show C.s.u.length+1<=_;omega
 .show(C.s.opn.push b.t.ps).all.length<=_;rw[p1,Fc];omega
 .show(C.bs++[b]).length<=_;rw[ej];simp only[j1,iN];omega
 .intro b' hb';rcases gh.1 hb' with q|q
  .exact h5 b' q
  .rw[eF.1 q];exact hb
def Gm{k:Nat}{C:Ct}(h:uG k C)(op:Int)(t:Ft)(ht:t.ps.length<=100/\t.rs.length<=100):uG (k+1) (C.enter2 op t).2:=by
 obtain⟨w1,w2⟩:=gL C.s t.ps;have hu:=h.u;have hl:=h.l;unfold Ct.enter2;split
 .exact(h.sk (by rw[w1];omega) (by omega)).broke _
 .exact JM (C:={C with s:=(C.s.want t.ps).2}) _ (by rw[w1];omega) (by show(C.s.want t.ps).2.all.length<=_;omega) h.b h.r h.t ht
def SN{k:Nat}{C:Ct}(h:uG k C)(op:Int)(t:Ft)(ht:t.ps.length<=100/\t.rs.length<=100):uG (k+1) (C.enter op t).2:=by
 obtain⟨w1,w2⟩:=gL C.s [1];have hu:=h.u;have hl:=h.l;unfold Ct.enter;split
 .exact h.mono
 split
 .exact h.mono
 split
 .exact h.mono
 split
 .split
  .exact(h.sk (by rw[w1];omega) (by omega)).broke _
  .exact Gm (C:={C with s:=(C.s.want [1]).2}) ⟨by show(C.s.want [1]).2.u.length<=_;rw[w1];exact hu,by show(C.s.want [1]).2.all.length<=_;omega,h.b,h.r,h.t⟩ op t ht
 .exact Gm h op t ht
def abp{k:Nat}{C:Ct}(h:uG k C):uG (k+1) C.els.2:=by
 have hu:=h.u;have hl:=h.l;have hb:=h.b;unfold Ct.els;split
 .exact h.mono
 split
 .exact h.mono
 rename_i h1 h2;obtain⟨t1,t2,t3⟩:=h.top (λq=>h2 (.inl q));obtain⟨w1,w2⟩:=Fp C.s C.top.t.rs;split
 .exact(h.sk (by omega) (by omega)).broke _
 .exact JM (C:={C with s:=(C.s.shut C.top.t.rs).2,bs:=C.bs.dropLast}) _ (by show(C.s.shut C.top.t.rs).2.u.length<=_;omega) (by show(C.s.shut C.top.t.rs).2.all.length<=_;omega) (by show C.bs.dropLast.length<=_;rw[List.length_dropLast];omega) h.r (λb hb=>h.t b (List.dropLast_subset _ hb)) ⟨t1,t2⟩
def SO{k:Nat}{C:Ct}(h:uG k C):uG (k+1) C.leave.2:=by
 have hu:=h.u;have hl:=h.l;have hb:=h.b;unfold Ct.leave;split
 .exact h.mono
 split
 .exact h.mono
 rename_i h1 h2;obtain⟨t1,t2,t3⟩:=h.top h2;obtain⟨w1,w2⟩:=Fp C.s C.top.t.rs;have hd:∀b∈C.bs.dropLast,b.t.ps.length<=100/\b.t.rs.length<=100:=λb hb=>h.t b (List.dropLast_subset _ hb);have hdl:C.bs.dropLast.length<=k+2:=by rw[List.length_dropLast];omega
 split
 .exact(h.sk (by omega) (by omega)).broke _
 split
 .exact⟨show(C.s.shut C.top.t.rs).2.u.length<=k+1+1 by omega,show(C.s.shut C.top.t.rs).2.all.length<=200*(k+1)by omega,hdl,h.r,hd⟩
 .obtain⟨p1,p2⟩:=sv (C.s.shut C.top.t.rs).2 C.top.t.rs;exact⟨show((C.s.shut C.top.t.rs).2.push C.top.t.rs).u.length<=k+1+1 by rw[p2];omega,show((C.s.shut C.top.t.rs).2.push C.top.t.rs).all.length<=200*(k+1)by rw[p1];omega,hdl,h.r,hd⟩
def TX(S:Sk):S.loose.u=S.u/\S.loose.all.length<=S.all.length:=by
 refine⟨rfl,?_⟩;rw[mT,mT];show(bW S.u++[]).length<=_;simp only[ej];simp
def Oj{k:Nat}{C:Ct}(h:uG k C):uG k C.dead:=by
 obtain⟨w1,w2⟩:=TX C.s;unfold Ct.dead;split
 .exact h
 .exact⟨by show C.s.loose.u.length<=_;rw[w1];exact h.u,by have:=h.l;show C.s.loose.all.length<=_;omega,h.b,h.r,h.t⟩
def Ro(S:Sk)(f:Ft):(qK S f).2.u=S.u/\(qK S f).2.all.length<=S.all.length+f.rs.length:=by
 obtain⟨w1,w2⟩:=gL S f.ps;unfold qK;split
 .exact⟨w1,by omega⟩
 .obtain⟨p1,p2⟩:=sv (S.want f.ps).2 f.rs;exact⟨by show((S.want f.ps).2.push f.rs).u=_;rw[p2,w1],by show((S.want f.ps).2.push f.rs).all.length<=_;rw[p1];omega⟩
def TN{k:Nat}{C:Ct}(h:uG k C)(i:Int):(C.label i).1.length<=100:=by
 unfold Ct.label;split
 .exact cR _
 split
 .exact cR _
 rename_i h1 h2;have hm:=h.t (ap C.bs (C.bs.length-1-i.toNat)) (by rw[aV (by omega)];exact gO _);split
 .exact hm.1
 .exact hm.2
def Gk{k:Nat}{e:Int}{C:Ct}(h:uG k C):uG k (n9 (e,C)).2:=by
 unfold n9;split
 .exact Oj h
 .exact h
def Oi{k:Nat}{C:Ct}(h:uG k C)(x:a_):uG (k+1) (nK C x).2:=by
 have hu:=h.u;have hl:=h.l;have lb:=TN h x.a;have rb:C.retn.length<=100:=by
  unfold Ct.retn;split
  .exact cR _
  .exact h.r
 unfold nK;dsimp only;have hL:(if x.op≠15/\x.op≠14 then C.label x.a else(C.retn,0)).1.length<=100:=by
  split
  .exact lb
  .exact rb
 generalize (if x.op≠15/\x.op≠14 then C.label x.a else(C.retn,0))=L at hL⊢;split
 .exact h.mono
 split
 .obtain⟨S,hS,t1,t2⟩:=KB C x;generalize pW C x=Q at hS⊢;obtain⟨e,C1⟩:=Q;dsimp only at hS;subst hS;exact Gk (h.sk (by rw[t1];omega) (by omega))
 split
 .obtain⟨w1,w2⟩:=gL C.s [1];split
  .exact h.sk (by rw[w1];omega) (by omega)
  .obtain⟨q1,q2⟩:=Ro (C.s.want [1]).2 ⟨L.1,L.1⟩;exact h.sk (by rw[q1,w1];omega) (by dsimp only at q2;omega)
 .obtain⟨w1,w2⟩:=gL C.s L.1;exact Gk (h.sk (by rw[w1];omega) (by omega))
def UE(S:Sk)(a:Int):(DC S a).2.u=S.u/\(DC S a).2.all.length<=S.all.length+1:=by
 obtain⟨w1,w2⟩:=zt S;unfold DC;split
 .exact⟨w1,by show S.pop.2.2.all.length<=_;omega⟩
 split
 .exact⟨w1,by show S.pop.2.2.all.length<=_;omega⟩
 .obtain⟨p1,p2⟩:=sv S.pop.2.2 [if a=0 then S.pop.1 else a];exact⟨by show(S.pop.2.2.push _).u=_;rw[p2,w1],by show(S.pop.2.2.push _).all.length<=_;rw[p1];simp only[j1,iN];omega⟩
def Kj(S:Sk)(op:Int):(BB S op).2.u=S.u/\(BB S op).2.all.length<=S.all.length+1:=by
 obtain⟨w1,w2⟩:=zt S;unfold BB;split
 .exact⟨w1,by show S.pop.2.2.all.length<=_;omega⟩
 split
 .split
  .exact⟨w1,by show S.pop.2.2.all.length<=_;omega⟩
  .obtain⟨p1,p2⟩:=sv S.pop.2.2 [1];exact⟨by show(S.pop.2.2.push _).u=_;rw[p2,w1],by show(S.pop.2.2.push _).all.length<=_;rw[p1];simp only[j1,iN];omega⟩
 split
 .obtain⟨q1,q2⟩:=UE S.pop.2.2 S.pop.1;exact⟨by rw[q1,w1],by omega⟩
 .exact⟨w1,by show S.pop.2.2.all.length<=_;omega⟩
def Zg(S:Sk)(op:Int):(pi S op).2.u=S.u/\(pi S op).2.all.length<=S.all.length+1:=by
 unfold pi;split
 .obtain⟨w1,w2⟩:=gL S [1];split
  .exact⟨w1,by omega⟩
  .obtain⟨q1,q2⟩:=Kj (S.want [1]).2 op;exact⟨by rw[q1,w1],by omega⟩
 .exact Kj S op
def SM{k:Nat}{C:Ct}(h:uG k C)(s:Sp)(hs:tS s)(lo:List Int)(x:a_):uG (k+1) (jF C s lo x).2:=by
 have hu:=h.u;have hl:=h.l;unfold jF;split
 .exact h.mono
 split
 .split
  .exact h.mono
  .rename_i f hf;exact SN h _ _ (VQ hs hf)
 split
 .exact abp h
 split
 .exact SO h
 split
 .exact(Oj h).mono
 split
 .exact Oi h x
 split
 .obtain⟨q1,q2⟩:=Zg C.s x.op;exact h.sk (by rw[q1];omega) (by omega)
 split
 .exact h.mono
 .have hn:=(KC hs lo x).2;obtain⟨q1,q2⟩:=Ro C.s (oD s lo x).1;exact h.sk (by rw[q1];omega) (by omega)
section
def Ug(x:a_):ww none (bH x)=some (.int .i64 x.op):=rfl
def P4(x:a_):ww (some 9) (bH x)=some (.agg (bH x)):=rfl
def P5(x:a_):(bH x).length=9:=rfl
def P2(d:Nat)(x:a_):(bH x).any (mC d)=false:=rfl
def P6(d:Nat)(x:a_):((bH x).all λy=>!(mC d y))=true:=rfl
def P1(x:a_):(bH x).all n_=true:=rfl
def P7(d:Nat)(x:a_):(bH x).map (oA d)=bH x:=rfl
def P3(x:a_):(bH x).flatMap fM=[]:=rfl
attribute[local go_sem high] Ug P4 P5 P2 P6 P1 P7 P3
def jS(B:List a_):Nat->List Int
 | 0=>List.replicate B.length (-1)
 | i+1=>if(ap B i).op==11&&decide (0<=yC B i)then(jS B i).set (yC B i).toNat i else jS B i
def gd(B:List a_):Nat->List Int
 | 0=>List.replicate B.length (-1)
 | i+1=>if(ap B i).op==5 then(gd B i).set (yC B i).toNat i else gd B i
def jQ(B:List a_)(i:Nat):List Int:=(List.range i).map λj=>((bE B j).length:Int)
def mw(B:List a_)(i:Nat):List Int:=(List.range i).map λj=>yC B j
def pU(B:List a_):∀i,(jS B i).length=B.length
 | 0=>by simp[jS]
 | i+1=>by simp only[jS];split<;>simp[pU B i]
def nS(B:List a_):∀i,(gd B i).length=B.length
 | 0=>by simp[gd]
 | i+1=>by simp only[gd];split<;>simp[nS B i]
def P9(a b:Int)(i m:Nat)(h:0<m):(List.replicate i a++List.replicate m b).set i a=List.replicate (i+1) a++List.replicate (m-1) b:=by
 obtain⟨m,rfl⟩:∃k,m=k+1:=⟨m-1,by omega⟩
 rw[List.set_append_right _ _ (by simp)];simp only[List.length_replicate,zx,KG,List.set_cons_zero,Nat.add_sub_cancel];rw[<-KG,Z9];simp
def Ah(n:Nat)(hn:n<1073741824):aZ pg GT [.int .i64 n] [] (λid=>1000<=id/\id<2000) (λr σ'=>r = .ms 6 1 0 n/\σ'=[(6,⟨3,1,(List.replicate n (-1)).map ri,false⟩)]):=by
 refine dj y6 ?_;simp only[y6,go_sem];refine⟨by omega,?_⟩;refine ao (λi:Nat=>⟨[(9,.int .i64 i),(8,.int .i64 n),(3,.ms 6 1 0 n)],[(6,⟨3,1,(List.replicate i (-1)++List.replicate (n-i) 0).map ri,false⟩)]⟩) (λi=>i<=n) (λi=>n-i) 0 (cR _) (Wk.of ?_ ?_) ?_
 .simp[go_sem]
 .simp[go_sem]
 intro i hi;simp only[go_sem];refine⟨λh=>⟨by omega,by simp;omega,ay (i+1) (by omega) (by omega) (Wk.of ?_ ?_)⟩,λh=>done [] (.ms 6 1 0 n) [(6,⟨3,1,(List.replicate n (-1)).map ri,false⟩)] ?_ ?_ rfl ⟨rfl,rfl⟩⟩
 .simp[go_sem,wi (n:=i+1) (by omega) (by omega)]
 .simp only[go_sem,↓reduceIte,ga,P9 (-1) 0 i (n-i) (by omega),show n-i-1=n-(i+1)by omega]
 .simp[go_sem]
 .have:i=n:=by omega
  subst this;simp[go_sem]
def yB(B:List a_)(h:Int)(i:Nat):zR B h (i+1)=(zR B h i||(decide (h<i)&&(ap B i).op==5&&decide (0<(bE B i).length)&&yC B i==h)):=by
 simp only[zR,List.range_succ,List.any_append,List.any_cons,List.any_nil,Bool.or_false]
def vB(B:List a_)(l:List Int):AV:=if(nchk B).2=0 then .sl 1 (l.map ri)else .nl
def CI(B:List a_)(i:Nat):jQ B (i+1)=jQ B i++[((bE B i).length:Int)]:=by simp[jQ,List.range_succ]
def EV(B:List a_)(i:Nat):mw B (i+1)=mw B i++[yC B i]:=by simp[mw,List.range_succ]
def mq(B:List a_)(i:Nat):(jQ B i).length=i:=by simp[jQ]
def nT(B:List a_)(i:Nat):(mw B i).length=i:=by simp[mw]
def nrk(p:Int×Bool):List AV:=[.int .i64 p.1,.bool p.2]
def ab8(p:Int×Bool):nrk p=[.int .i64 p.1,.bool p.2]:=rfl
attribute[local go_sem] ab8
def jR(B:List a_)(i:Nat):List Int:=jQ B i++List.replicate (B.length-i) (-1)
def my(B:List a_)(i:Nat):List Int:=mw B i++List.replicate (B.length-i) (-1)
def jq(B:List a_)(i:Nat):List (Int×Bool):=(bE B i).map λh=>(h,zR B h i)
def yD(B:List a_):AV:=.tup [.agg [vB B (jS B B.length),vB B (gd B B.length),vB B (jQ B B.length),vB B (mw B B.length)],.int .i64 (nchk B).1,.int .i64 (nchk B).2]
def dv{B:List a_}{a e:Int}(h:nchk B=(a,e))(he:e≠0):yD B = .tup [.agg [.nl,.nl,.nl,.nl],.int .i64 a,.int .i64 e]:=by simp[yD,vB,h,he]
def Dw{B:List a_}(h:nchk B=(0,0)):yD B = .tup [.agg [.sl 1 ((jS B B.length).map ri),.sl 1 ((gd B B.length).map ri),.sl 1 ((jQ B B.length).map ri),.sl 1 ((mw B B.length).map ri)],.int .i64 0,.int .i64 0]:=by simp[yD,vB,h]
def Wl{l:List Int}{i n:Nat}{x:Int}(hl:l.length=i)(hi:i<n):(l++List.replicate (n-i) (-1)).set i x=(l++[x])++List.replicate (n-(i+1)) (-1):=by
 subst hl;rw[List.set_append_right _ _ (aN _),zx,show n-l.length=(n-(l.length+1))+1 by omega,KG,List.set_cons_zero];simp
def kL{B:List a_}{i:Nat}(hi:i<B.length):(jR B i).set i ((bE B i).length:Int)=jR B (i+1):=by
 rw[jR,Wl (mq B i) hi,<-CI,jR]
def mz{B:List a_}{i:Nat}(hi:i<B.length):(my B i).set i (yC B i)=my B (i+1):=by
 rw[my,Wl (nT B i) hi,<-EV,my]
def Bv(B:List a_)(i:Nat):(jq B i).length=(bE B i).length:=by simp[jq]
def Qb{B:List a_}{i:Nat}{J:List (Int×Bool)}(h:0<(bE B i).length):ap (jq B i++J) ((bE B i).length-1)=(yC B i,zR B (yC B i) i):=by
 rw[DB (by rw[Bv];omega),jq,E5 (by omega)];rfl
def sU{B:List a_}{h:Int}{i:Nat}(h5:((ap B i).op==5)=false):zR B h (i+1)=zR B h i:=by rw[yB,h5];simp
def PY{B:List a_}{i:Nat}:zR B i (i+1)=false:=by
 simp only[zR,Rp];intro j hj;simp at hj⊢;omega
def LV{B:List a_}{i:Nat}(h5:((ap B i).op==5)=false)(hb:G6 (ap B i).op=true):jq B (i+1)=jq B i++[((i:Int),false)]:=by
 have hi0:zR B i i=false:=by rw[<-sU h5];exact PY
 simp only[jq,bE,zS,hb,dP,dW,bY,eL,sU h5,hi0]
def Qa{B:List a_}{i:Nat}(h5:((ap B i).op==5)=false)(hb:G6 (ap B i).op=false)(h11:((ap B i).op==11)=true):jq B (i+1)=(jq B i).dropLast:=by
 simp only[jq,bE,zS,hb,h11,dP,jr,fS,sU h5,List.map_dropLast]
def LW{B:List a_}{i:Nat}(h5:((ap B i).op==5)=false)(hb:G6 (ap B i).op=false)(h11:((ap B i).op==11)=false):jq B (i+1)=jq B i:=by
 simp only[jq,bE,zS,hb,h11,jr,fS,sU h5]
def LU{B:List a_}{i:Nat}(hne:∀j,j<i->0<(bE B j).length)(h0:0<(bE B i).length)(hh:yC B i<i)(h5:((ap B i).op==5)=true):jq B (i+1)=(jq B i).set ((bE B i).length-1) (yC B i,true):=by
 have h5':(ap B i).op=5:=by simpa using h5
 have hr:bE B (i+1)=bE B i:=by simp[bE,zS,G6,h5']
 refine List.ext_getElem (by simp[jq,hr]) λk h1 h2=>?_;have hk:k<(bE B i).length:=by rw[Bv,hr]at h1;exact h1
 simp only[jq,List.getElem_map,hr,List.getElem_set];by_cases hkl:(bE B i).length-1=k
 .subst hkl;rw[aF rfl];have:(bE B i)[(bE B i).length-1]=yC B i:=(aV hk).symm;rw[this,yB,h5];simp[hh,h0]
 .rw[ax hkl,yB,h5];have:(yC B i==(bE B i)[k])=false:=by
   rw[CV];intro he;rcases Dv hne h0 with⟨g1,_⟩|⟨_,j,g2,g3,g4,_⟩
   .omega
   .have hkj:k<(bE B j).length:=by rw[g4,q_];omega
    have e1:ap (bE B j) k=(bE B i)[k]:=by rw[g4,Hc (by omega),aV hk]
    rcases vC B j (λm hm=>hne m (by omega)) k hkj with⟨_,g5⟩|⟨_,m,g5,g6,_⟩<;>omega
  rw[this];simp
def DA(B:List a_):∀i,(∀j,j<i->jT B j=0)->(bE B i).length<=32
 | 0,_=>by simp[bE]
 | i+1,he=>by
  have ih:=DA B i (λj hj=>he j (by omega));have:=(PZ (he i (by omega))).2;simp only[bE,zS];split
  .rename_i hb;rw[hb]at this;simp at this⊢;omega
  .split
   .simp;omega
   .exact ih
def P_(id row:Nat)(t:TypeId)(l:List (Int×Bool)):DN id 1 2 row 1 (some ⟨t,2,l.map nrk,false⟩) (some [.bool true])=if row<l.length then some (.put id ⟨t,2,(l.set row ((ap l row).1,true)).map nrk,false⟩)else none :=
 sG id 1 2 row 1 t nrk l [.bool true] (λp=>(p.1,true)) rfl rfl (λ_=>aN 2) (λ_=>rfl)
def Uh(B:List a_)(hn:B.length<1000000):ah pg GS [.sl 9 (B.map bH)] (yD B):=by
 refine au yZ ?_;simp only[yZ,go_sem];refine mY (Ah B.length (by omega)) rfl (by simp[go_sem]) 901 (by omega) (by simp[go_sem]) ?_;simp only[go_sem];refine mY (Ah B.length (by omega)) rfl (by simp[go_sem]) 902 (by omega) (by simp[go_sem]) ?_;simp only[go_sem];refine mY (Ah B.length (by omega)) rfl (by simp[go_sem]) 903 (by omega) (by simp[go_sem]) ?_;simp only[go_sem];refine mY (Ah B.length (by omega)) rfl (by simp[go_sem]) 904 (by omega) (by simp[go_sem]) ?_;simp only[go_sem]
 refine ao (λq:Nat×List (Int×Bool)=>⟨[(26,.int .i64 q.1),(25,.int .i64 B.length),(24,.sl 9 (B.map bH)),(7,.ms 23 2 0 (bE B q.1).length),(6,.mp 6 4 0 0),(5,.int .i64 B.length),(2,.mp 2 4 0 0),(0,.sl 9 (B.map bH))],
   [(23,⟨406,2,(jq B q.1++q.2).map nrk,false⟩),(6,⟨357,4,[[.ms 901 1 0 B.length,.ms 902 1 0 B.length,.ms 903 1 0 B.length,.ms 904 1 0 B.length]],true⟩),
      (904,⟨3,1,(my B q.1).map ri,false⟩),(903,⟨3,1,(jR B q.1).map ri,false⟩),(902,⟨3,1,(gd B q.1).map ri,false⟩),(901,⟨3,1,(jS B q.1).map ri,false⟩),(2,⟨357,4,[[.nl,.nl,.nl,.nl]],true⟩)]⟩)
  (λq=>q.1<=B.length/\∀j,j<q.1->jT B j=0) (λq=>B.length-q.1) (0,[]) ⟨cR _,λj hj=>absurd hj (Nat.not_lt_zero _)⟩ (Wk.of ?_ ?_) ?_
 .simp[go_sem,bE]
 .simp[go_sem,jq,bE,my,jR,mw,jQ,jS,gd,zR]
 rintro⟨i,J⟩ ⟨hi,he⟩;replace hi:i<=B.length:=hi;replace he:∀j,j<i->jT B j=0:=he;have hl:=Ha B i;have hsl:=Bv B i;have hdl:(jR B i).length=B.length:=by simp[jR,mq];omega
 have hhl:(my B i).length=B.length:=by simp[my,nT];omega
 have hw:(IntKind.i64.wrap (↑(bE B i).length-1))=((bE B i).length:Int)-1:=wi (by omega) (by omega);have hnt:((bE B i).length-1:Int).toNat=(bE B i).length-1:=by omega
 have hne:∀j,j<i->0<(bE B j).length:=λj hj=>Ud (he j hj);rcases eJ i B.length with hlt|hge
 .have hd1:decide ((i:Int)<(B.length:Int))=true:=by simp;omega
  by_cases h0:(bE B i).length=0
  .have h0':(((bE B i).length:Int)==0)=true:=by simp[h0]
   have h16:jT B i=16:=by simp only[jT,h0,dP]
   have hc:nchk B=((i:Int),16):=by rw[Kb hlt he (by rw[h16];decide),h16]
   simp only[go_sem,hd1,h0'];refine⟨by omega,by omega,aE [] ?_ ?_⟩
   .rw[dv hc (by decide)];simp[go_sem]
   .rw[dv hc (by decide)];rfl
  have h0':(((bE B i).length:Int)==0)=false:=by simp;exact λh=>h0 (by simp[h])
  have hp:0<(bE B i).length:=by omega
  obtain⟨hb1,hb2⟩:=IP hne hp;have htop:=Qb (J:=J) hp;have herr:∀e:Int,e≠0->jT B i=e->nchk B=((i:Int),e):=λe h1 h2=>by rw[Kb hlt he (by rw[h2];exact h1),h2]
  have hsucc:jT B i=0->∀j,j<i+1->jT B j=0:=λh0 j hj=>by
   rcases Nat.lt_or_eq_of_le (Nat.le_of_lt_succ hj)with h1|h1
   .exact he j h1
   .rw[h1];exact h0
  have happ:=λys=>KX 23 406 2 (bE B i).length nrk (jq B i++J) ys (by simp[hsl]);have htk:List.take (bE B i).length (jq B i++J)=jq B i:=by rw[<-hsl];simp
  have hwi:=wi (n:=(i:Int)+1) (by omega) (by omega);by_cases hb:G6 (ap B i).op=true
  .have h5:((ap B i).op==5)=false:=by simp[G6]at hb⊢;omega
   have hbe:dU B i=false:=by simp[dU,h5]
   have key:∀b2 b3 b4:Bool,((ap B i).op==2)=b2->((ap B i).op==3)=b3->((ap B i).op==4)=b4->(b2||b3||b4)=true->True:=λ_ _ _ _ _ _ _=>trivial;have hop:(ap B i).op=2\/(ap B i).op=3\/(ap B i).op=4:=by simp[G6]at hb;omega
   by_cases h32:(bE B i).length=32
   .have h32':(((bE B i).length:Int)==32)=true:=by simp[h32]
    have hc:=herr 6 (by decide) (by simp only[jT,ax h0,hbe,hb];simp[h32]);rcases hop with hop|hop|hop
    all_goals
     simp only[go_sem,hd1,h0',hw,hnt,htop,hop,Int.reduceBEq,h32'];refine⟨by omega,by omega,by omega,by omega,by omega,by simp;omega,by omega,by omega,aE [] ?_ ?_⟩
     .rw[dv hc (by decide)];simp[go_sem]
     .rw[dv hc (by decide)];rfl
   .have h32':(((bE B i).length:Int)==32)=false:=by simp;omega
    have hlt32:(bE B i).length<32:=by have:=DA B i he;omega
    have he0:jT B i=0:=by simp only[jT,ax h0,hbe,hb];simp;omega
    rcases hop with hop|hop|hop
    all_goals
     have hpu:=LV h5 hb;simp only[go_sem,hd1,h0',hw,hnt,htop,hop,Int.reduceBEq,h32',happ,htk,kL hlt,mz hlt];refine⟨by omega,by omega,by omega,by omega,by omega,by simp;omega,by omega,by omega,by omega,ay (i+1,[]) ⟨show i+1<=B.length by omega,hsucc he0⟩ (show B.length-(i+1)<B.length-i by omega) (Wk.of ?_ ?_)⟩
     .simp[go_sem,hwi,bE,zS,hb]
     .simp[go_sem,hpu,jS,gd,hop]
  .have hb':G6 (ap B i).op=false:=by simpa using hb
   have h2:((ap B i).op==2)=false:=by simp[G6]at hb';simp[hb']
   have h3:((ap B i).op==3)=false:=by simp[G6]at hb';simp[hb']
   have h4:((ap B i).op==4)=false:=by simp[G6]at hb';simp[hb']
   by_cases h5:((ap B i).op==5)=true
   .have h11:((ap B i).op==11)=false:=by simp at h5⊢;omega
    have hr:bE B (i+1)=bE B i:=by simp[bE,zS,hb',h11]
    have hel:=LU hne hp hb2 h5;have hns:ap ((jq B i++J).set ((bE B i).length-1) (yC B i,true)) ((bE B i).length-1)=(yC B i,true):=E7 (by simp;omega);simp only[go_sem,hd1,h0',hw,hnt,htop,h2,h3,h4,h5,P_,hns,kL hlt,mz hlt];have hbad:dU B i=true->nchk B=((i:Int),16):=λhbe=>herr 16 (by decide) (by simp only[jT,ax h0,hbe,dP]);refine⟨by omega,by omega,by omega,by omega,by omega,by simp;omega,by omega,by omega,by simp;omega,λhneg=>aE [] ?_ ?_,λhneg=>⟨by simp;omega,by omega,by omega,λh4'=>aE [] ?_ ?_,λh4'=>⟨by simp;omega,λhels=>aE [] ?_ ?_,λhels=>⟨by simp;omega,by simp;omega,by omega,?_,ay (i+1,J) ⟨show i+1<=B.length by omega,hsucc ?_⟩ (show B.length-(i+1)<B.length-i by omega) (Wk.of ?_ ?_)⟩⟩⟩⟩
    .rw[dv (hbad (by simp[dU,h5,hneg])) (by decide)];simp[go_sem]
    .rw[dv (hbad (by simp[dU,h5,hneg])) (by decide)];rfl
    .rw[dv (hbad (by simp[dU,h5,h4'])) (by decide)];simp[go_sem]
    .rw[dv (hbad (by simp[dU,h5,h4'])) (by decide)];rfl
    .rw[dv (hbad (by simp[dU,h5,hels])) (by decide)];simp[go_sem]
    .rw[dv (hbad (by simp[dU,h5,hels])) (by decide)];rfl
    .rw[nS];omega
    .have hbe:dU B i=false:=by simp[dU,h4',hels];intro _;omega
     simp only[jT,ax h0,hbe,hb'];rfl
    .simp[go_sem,hwi,hr]
    .have e1:(jq B i++J).set ((bE B i).length-1) (yC B i,true)=(jq B i).set ((bE B i).length-1) (yC B i,true)++J:=List.set_append_left _ _ (by omega);simp only[go_sem,hel,e1,jS,gd,h11,h5,gX,jr]
   .have h5':((ap B i).op==5)=false:=by simpa using h5
    have hbe:dU B i=false:=by simp[dU,h5']
    have he0:jT B i=0:=by simp only[jT,ax h0,hbe,hb'];rfl
    by_cases h11:((ap B i).op==11)=true
    .have hpo:=Qa h5' hb' h11;have hr:bE B (i+1)=(bE B i).dropLast:=by simp[bE,zS,hb',h11]
     have e1:jq B i++J=(jq B i).dropLast++((jq B i).drop ((bE B i).length-1)++J):=by
      rw[List.dropLast_eq_take,hsl,<-mE,VK]
     simp only[go_sem,hd1,h0',hw,hnt,htop,h2,h3,h4,h5',h11,kL hlt,mz hlt];refine⟨by omega,by omega,by omega,by omega,by omega,by simp;omega,by omega,by omega,by simp;omega,λhge=>⟨by simp;omega,by omega,?_,by omega,ay (i+1,(jq B i).drop ((bE B i).length-1)++J) ⟨show i+1<=B.length by omega,hsucc he0⟩ (show B.length-(i+1)<B.length-i by omega) (Wk.of ?_ ?_)⟩,λhge=>⟨by omega,ay (i+1,(jq B i).drop ((bE B i).length-1)++J) ⟨show i+1<=B.length by omega,hsucc he0⟩ (show B.length-(i+1)<B.length-i by omega) (Wk.of ?_ ?_)⟩⟩
     .rw[pU];omega
     .simp[go_sem,hwi,hr]
     .have hge':decide (0<=yC B i)=true:=by simp;omega
      simp only[go_sem,hpo,<-e1,jS,gd,h11,h5',hge',jr,Bool.and_self]
     .simp[go_sem,hwi,hr]
     .have hge':decide (0<=yC B i)=false:=by simp;omega
      simp only[go_sem,hpo,<-e1,jS,gd,h11,h5',hge',jr,Bool.and_false]
    .have h11':((ap B i).op==11)=false:=by simpa using h11
     have hsm:=LW h5' hb' h11';have hr:bE B (i+1)=bE B i:=by simp[bE,zS,hb',h11']
     simp only[go_sem,hd1,h0',hw,hnt,htop,h2,h3,h4,h5',h11',kL hlt,mz hlt];refine⟨by omega,by omega,by omega,by omega,by omega,by simp;omega,by omega,by omega,ay (i+1,J) ⟨show i+1<=B.length by omega,hsucc he0⟩ (show B.length-(i+1)<B.length-i by omega) (Wk.of ?_ ?_)⟩
     .simp[go_sem,hwi,hr]
     .simp only[go_sem,hsm,jS,gd,h11',h5',jr,gX]
 .have hd1:decide ((i:Int)<(B.length:Int))=false:=by simp;omega
  have hiB:i=B.length:=by omega
  subst hiB;simp only[go_sem,hd1];have hc:=PW he;refine⟨λhp=>aE [] ?_ ?_,λhp=>aE [901,902,903,904] ?_ ?_⟩
  .rw[aF (by omega)]at hc;rw[dv hc (by decide)];simp[go_sem]
  .rw[aF (by omega)]at hc;rw[dv hc (by decide)];rfl
  .rw[ax (by omega)]at hc;rw[Dw hc];simp[go_sem,pU,nS,mq,nT,jR,my];exact⟨gN (by simp[pU]),gN (by simp[nS]),gN (by simp[mq]),gN (by simp[nT])⟩
  .rw[ax (by omega)]at hc;rw[Dw hc];rfl
def P8(B:List a_)(hn:B.length<1000000):ah pg EF [.sl 9 (B.map bH)] (.tup [.int .i64 (nchk B).1,.int .i64 (nchk B).2]):=by
 refine au wB ?_;simp only[wB,go_sem];refine ak (Uh B hn) ?_;by_cases h:(nchk B).2=0
 all_goals
  simp only[yD,vB,h,go_sem];refine aE [] ?_ rfl;simp[go_sem,h]
end
section
def PO(m:Md):da m = .agg (mI m):=rfl
attribute[local go_sem] bP xL xN xO xM pm zh oT aU dt bH Wx aa9 aa_ Gh Gi PO bn cj
def QQ(m:Md)(s:Sp)(n:Nat)(h:B0 s)(hn:n<m.fs.length)(hl:m.fs.length<=9000000):ah pg IF [da m,qZ s,.int .i64 n] (.tup [.agg (kz ((s.ty (ap m.fs n).t).getD default)),.bool (s.ty (ap m.fs n).t).isSome]):=by
 refine au Ap ?_;have c1:=Fm s (ap m.fs n).t h;have h0:¬((n:Int)<0):=by omega
 have h1:¬((n:Int)>=(m.fs.length:Int)):=by omega
 have h2:(n:Int)<(m.fs.length:Int):=by omega
 simp only[bc,aD,aU]at c1;simp only[go_sem,Ap,bc,aD,aC h0,aC h1,cY];refine⟨by omega,h2,?_⟩;refine aa (c1) ?_;exact ac
def Mk(m:Md)(s:Sp)(n:Nat)(h:B0 s)(hn:n<m.fs.length)(hl:m.fs.length<=9000000)(hlo:(ap m.fs n).lo.length<=1000000):ah pg Ch [da m,qZ s,.int .i64 n] (.tup [.sl 1 ((if(s.ty (ap m.fs n).t).isSome=true then((s.ty (ap m.fs n).t).getD default).ps++(ap m.fs n).lo else[]).map bg),.bool (s.ty (ap m.fs n).t).isSome]):=by
 refine au tX ?_;have c1:=QQ m s n h hn hl;have h2:(n:Int)<(m.fs.length:Int):=by omega
 have hb:=Vz h (ap m.fs n).t;generalize s.ty (ap m.fs n).t=q at c1 hb⊢;simp only[bc,aD,aU,PO,bn]at c1;simp only[go_sem,tX,bc,aD];refine ak (c1) ?_;cases q with
 | none =>
  simp only[go_sem,Option.isSome_none];exact gM (Wk.nls _ 6 1 (by rfl)) [] (by rfl) rfl
 | some f =>
  simp only[gb]at hb;obtain⟨hb1,hb2⟩:=hb;have ha:=bR 22 71 1 f.ps.length bg f.ps ((ap m.fs n).lo.map bg) rfl;have et:(f.ps.map bg++(ap m.fs n).lo.map bg).take (f.ps.length+(ap m.fs n).lo.length)=(f.ps++(ap m.fs n).lo).map bg:=by
   rw[gN (by simp),dW]
  simp only[go_sem,Option.isSome_some,gb];simp only[go_sem,ha,cY];refine⟨by omega,by omega,h2,⟨by omega,by omega⟩,?_⟩;exact aE [22] (by simp only[go_sem,et,aN,oK,ga,ej]) (by rfl)
def abF(C:Ct):DS na [] C (.tup []) C:=by
 refine dj rc ?_;simp only[go_sem,rc];exact iY [] _ (fu C) (by rfl) (by exact⟨rfl,rfl,rfl,rfl,rfl,trivial⟩) rfl ⟨rfl,rfl⟩
def VE(s:Sp)(lo:List Int)(C:Ct){l:List a_}{j:Nat}(h:j<l.length):B1 s lo j (l.drop j) C=if(jF C s lo (ap l j)).1≠0 then((j:Int),(jF C s lo (ap l j)).1)else if(jF C s lo (ap l j)).2.s.ov=true then((j:Int),6)else B1 s lo (j+1) (l.drop (j+1)) (jF C s lo (ap l j)).2:=by
 rw[cH h,B1]
structure bdB(f:Cd):Prop where
 lo:f.lo.length<=64
 b:f.b.length<=2048
 i:∀x∈f.b,I4 x/\x.lb.length<=64
def U_(hLeft:eS)(m:Md)(s:Sp)(n:Nat)(hs:tS s)(hn:n<m.fs.length)(hl:m.fs.length<=9000000)(hf:bdB (ap m.fs n)):ah pg GI [da m,qZ s,.int .i64 n,.fn na []] (.tup [.int .i64 (rH m s (ap m.fs n)).1,.int .i64 (rH m s (ap m.fs n)).2]):=by
 refine au yR ?_;have c1:=QQ m s n hs.sm hn hl;have c2:=Mk m s n hs.sm hn hl (by have:=hf.lo;omega);have h2:(n:Int)<(m.fs.length:Int):=by omega
 have hty:=λt=>VA hs (ap m.fs n).t (f:=t);have cn:=P8 (ap m.fs n).b (by have:=hf.b;omega);obtain⟨T,hT⟩:∃T,rH m s (ap m.fs n)=T:=⟨_,rfl⟩
 rw[hT];unfold rH at hT;generalize s.ty (ap m.fs n).t=q at c1 c2 hT hty;simp only[bc,aD,aU,PO,bn]at c1 c2;simp only[go_sem,yR,bc,aD];refine ak (c2) ?_;cases q with
 | none =>
  dsimp only at hT;subst hT;simp only[go_sem,Option.isSome_none];exact an
 | some t =>
  dsimp only at hT;obtain⟨ht1,ht2⟩:=hty t rfl;simp only[Option.isSome_some,gb,dP]at c1;have hlo:=hf.lo;have hbl:=hf.b;have hbi:=hf.i;generalize hF:ap m.fs n=F at*;obtain⟨lo,hloE⟩:∃lo,t.ps++F.lo=lo:=⟨_,rfl⟩
  have hlol:lo.length<=200:=by rw[<-hloE,ej];omega
  rw[hloE]at hT;simp only[go_sem,Option.isSome_some,gb,hloE,hF,cY];refine⟨by omega,h2,?_⟩;refine ak (cn) ?_;by_cases e1:(nchk F.b).2=0;rotate_left
  .rw[aF e1]at hT;subst hT;simp only[go_sem,aG e1];exact an
  rw[ax (λq=>q e1)]at hT;simp only[go_sem,ar e1];refine aa (c1) ?_;refine gz (Yf t.rs (by omega)) [901,902,2000,2001,2002] (λp hp=>by cases hp) ?_ (λp hp=>by cases hp) ?_
  .intro p hp;simp only[N3,bp,bZ,or_false]at hp;rcases hp with rfl|rfl|rfl|rfl|rfl
   .exact .inr ⟨by simp,.inl (show 901<1000 by decide),.inr rfl⟩
   .exact .inr ⟨by simp,.inr (show 2000<=2000 by decide),.inr rfl⟩
   .exact .inr ⟨by simp,.inl (show 902<1000 by decide),.inr rfl⟩
   .exact .inr ⟨by simp,.inr (show 2000<=2001 by decide),.inr rfl⟩
   .exact .inr ⟨by simp,.inr (show 2000<=2002 by decide),.inr rfl⟩
  simp only[go_sem];refine ao (λq:Nat×Ct=>⟨[(58,.int .i64 q.1),(57,.int .i64 F.b.length),(17,.mp 901 5 0 0),(12,.sl 9 (F.b.map bH)),(10,.sl 1 (lo.map bg)),(3,.fn na []),(1,qZ s)],N3 q.2⟩)
   (λq=>q.1<=F.b.length/\uG q.1 q.2/\B1 s lo q.1 (F.b.drop q.1) q.2=T) (λq=>F.b.length-q.1) (0,Ju t.rs) ⟨cR _,?_,hT⟩ (Wk.of ?_ ?_) ?_
  .refine⟨aN 1,aN 0,aN 1,ht2,λb hb=>?_⟩;rw[eF.1 hb];exact⟨cR _,by show t.rs.length<=100;omega⟩
  .simp only[go_sem,bc,aD];try simp
  .simp only[go_sem];try rfl
  rintro⟨j,C⟩ ⟨hj,hg,hx⟩;dsimp only at hj hg hx;by_cases h1:(j:Int)<(F.b.length:Int);rotate_left
  .rw[cu (by omega)]at hx;simp only[B1]at hx;subst hx;simp only[go_sem,aC h1];exact an
  have hj':j<F.b.length:=by omega
  have e8:=cA hj' (by omega);rw[VE s lo C hj']at hx;have hxm:=hbi (ap F.b j) (by rw[aV hj'];exact gO _);have ka:=Tv hLeft C s lo (ap F.b j) (hg.ok (by omega)) hs (by omega) hxm.1 (by omega);have hg2:=SM hg s hs lo (ap F.b j);simp only[dt]at ka;generalize jF C s lo (ap F.b j)=R at ka hx hg2;obtain⟨e,C2⟩:=R;dsimp only at ka hx hg2;simp only[go_sem,aw h1,bc,aD];rw[aF (by decide)];refine⟨by kernel_rfl,?_⟩;refine D_ (r3:=.tup []) (abF C) rfl rfl rfl (by simp only[go_sem]) (by simp only[go_sem]) (by simp only[go_sem]) (by simp only[go_sem]) (by simp only[go_sem]) ?_;simp only[go_sem];refine⟨by omega,h1,?_⟩;refine D_ (r3:=.int .i64 e) ka rfl rfl rfl (by simp only[go_sem]) (by simp only[go_sem]) (by simp only[go_sem]) (by simp only[go_sem]) (by simp only[go_sem]) ?_;by_cases e2:e=0;rotate_left
  .rw[aF e2]at hx;subst hx;simp only[go_sem,aG e2];exact an
  rw[ax (λq=>q e2)]at hx;simp only[go_sem,ar e2];refine D_ (r3:=.mp 902 3 0 0) (dD C2) rfl rfl rfl (by simp only[go_sem]) (by simp only[go_sem]) (by simp only[go_sem]) (by simp only[go_sem]) (by simp only[go_sem]) ?_;simp only[go_sem];refine Jt (r3:=.bool C2.s.ov) (Yi C2.s) rfl rfl rfl (by simp only[go_sem]) (by simp only[go_sem]) (by simp only[go_sem]) ?_;cases e3:C2.s.ov;rotate_left
  .rw[aF e3]at hx;subst hx;simp only[go_sem,e3];exact an
  rw[ax (by rw[e3];decide)]at hx;simp only[go_sem,e3];refine ay (j+1,C2) ⟨show j+1<=F.b.length by omega,hg2,hx⟩ (show F.b.length-(j+1)<F.b.length-j by omega) (Wk.of ?_ ?_)
  .simp only[go_sem,e8];try simp
  .simp only[go_sem,e3];try rfl
def QN(hLeft:eS)(m:Md)(s:Sp)(n:Nat)(hs:tS s)(hn:n<m.fs.length)(hl:m.fs.length<=9000000)(hf:bdB (ap m.fs n)):ah pg EB [da m,qZ s,.int .i64 n] (.tup [.int .i64 (rH m s (ap m.fs n)).1,.int .i64 (rH m s (ap m.fs n)).2]):=by
 refine au wz ?_;have c1:=U_ hLeft m s n hs hn hl hf;simp only[bc,aD,PO,bn]at c1;simp only[go_sem,wz,bc,aD];refine aa (c1) ?_;exact ac
