import Derived.Test.YtijcmjncppkpiaaGreatDoorCQo
noncomputable section
set_option linter.all false
set_option maxRecDepth 100000
set_option maxHeartbeats 40000000
namespace Go.Proofs.YtijcmjncppkpiaaGreatDoor
section
open Go Go.Mw
def eS:Prop:=∀S l,S.u.length<1000000->S.all.length<1000000->l.length<1000000->FN S l
def Jn(b:Bk):List AV:=[.int .i64 b.k,.sl 1 (b.t.ps.map bg),.sl 1 (b.t.rs.map bg),.bool b.ot,.bool b.lv]
def oT(b:Bk):Jn b=[.int .i64 b.k,.sl 1 (b.t.ps.map bg),.sl 1 (b.t.rs.map bg),.bool b.ot,.bool b.lv]:=rfl
def ctR(n:Nat)(rs:List Int)(lv:Bool)(br:Int):aj:=⟨362,5,[[.mp 1001 3 0 0,.ms 2000 5 0 n,.sl 1 (rs.map bg),.bool lv,.int .i64 br]],true⟩
def AK(n:Nat)(rs:List Int)(lv:Bool)(br:Int):ctR n rs lv br =⟨362,5,[[.mp 1001 3 0 0,.ms 2000 5 0 n,.sl 1 (rs.map bg),.bool lv,.int .i64 br]],true⟩:=rfl
def VU(l:List Bk):aj:=⟨364,5,l.map Jn,false⟩
def zh(l:List Bk):VU l =⟨364,5,l.map Jn,false⟩:=rfl
def fu(C:Ct):List (Nat×aj):=[(1000,ctR C.bs.length C.rs C.lv C.br),(2000,VU C.bs),(1001,HV C.s.all.length (cw (C.s.t::C.s.u)).length C.s.ov),(2001,Kx C.s.all),(2002,Kw (cw (C.s.t::C.s.u)))]
def AJ(C:Ct):fu C=[(1000,ctR C.bs.length C.rs C.lv C.br),(2000,VU C.bs),(1001,HV C.s.all.length (cw (C.s.t::C.s.u)).length C.s.ov),(2001,Kx C.s.all),(2002,Kw (cw (C.s.t::C.s.u)))]:=rfl
def ctF(C:Ct):AV:=.ip [FK C.s,.sl 5 (C.bs.map Jn),.sl 1 (C.rs.map bg),.bool C.lv,.int .i64 C.br]
def zi(C:Ct):ctF C = .ip [FK C.s,.sl 5 (C.bs.map Jn),.sl 1 (C.rs.map bg),.bool C.lv,.int .i64 C.br]:=rfl
def DS(f:FuncId)(rest:List AV)(C:Ct)(r:AV)(C':Ct):Prop:=aZ pg f (.mp 1000 5 0 0::rest) (fu C) Ku (λr' σ'=>r'=r/\σ'=fu C')
attribute[local go_sem] bP xL xN xO xM pm AJ AK zh zi oT
def Jv{f:FuncId}{rest:List AV}{C:Ct}{r:AV}(h:ah pg f (ctF C::rest) r)(hf:m0 r=true)(hr:∀x∈rest,aI x=[]):DS f rest C r C:=by
 have w1:=eZ.frzs [2000,2001,2002] ⟨[],fu C⟩ (.mp 1000 5 0 0::rest);rw[bY,sY _ _ rest hr,show rN [2000,2001,2002] ⟨[],fu C⟩ (.mp 1000 5 0 0) = .mp 1000 5 0 0 from rfl]at w1
 have w2:=eZ.unrec (frzs [2000,2001,2002] ⟨[],fu C⟩) (.mp 1000 5 0 0::rest) 1001 (t:=375) (st:=3) (r:=[.sl 1 (C.s.all.map bg),.sl 2 ((cw (C.s.t::C.s.u)).map DE),.bool C.s.ov]) (by simp only[go_sem,lD,aN,oK,ga]) (by
  intro x hx;simp only[bp,bZ,or_false]at hx;rcases hx with rfl|rfl|rfl<;>exact⟨rfl,rfl⟩)
 have w3:=eZ.frzs [1001] ⟨(frzs [2000,2001,2002] ⟨[],fu C⟩).env,(1001,⟨375,3,[[.sl 1 (C.s.all.map bg),.sl 2 ((cw (C.s.t::C.s.u)).map DE),.bool C.s.ov]],false⟩)::(frzs [2000,2001,2002] ⟨[],fu C⟩).heap⟩ (.mp 1000 5 0 0::rest);rw[bY,sY _ _ rest hr]at w3
 have w4:=eZ.unrec (frzs [1001] ⟨(frzs [2000,2001,2002] ⟨[],fu C⟩).env,(1001,⟨375,3,[[.sl 1 (C.s.all.map bg),.sl 2 ((cw (C.s.t::C.s.u)).map DE),.bool C.s.ov]],false⟩)::(frzs [2000,2001,2002] ⟨[],fu C⟩).heap⟩) (.mp 1000 5 0 0::rest) 1000 (t:=362) (st:=5) (r:=[FK C.s,.sl 5 (C.bs.map Jn),.sl 1 (C.rs.map bg),.bool C.lv,.int .i64 C.br]) (by simp only[go_sem,lD,aN,oK,ga]) (by
  intro x hx;simp only[bp,bZ,or_false]at hx;rcases hx with rfl|rfl|rfl|rfl|rfl<;>exact⟨rfl,rfl⟩)
 have w5:=(((w1.trans w2).trans w3).trans w4).trans (eZ.frzs [1000] _ _);rw[bY,sY _ _ rest hr]at w5;refine aZ.lend (args':=ctF C::rest) h hf w5 ?_ ?_ _
 .intro x hx;rcases bp.1 hx with rfl|hx
  .rfl
  .exact hr x hx
 .intro p hp i hi;simp only[fu,bp,bZ,or_false]at hp;rcases hp with rfl|rfl|rfl|rfl|rfl
  .simp only[ctR,dZ,dP,jd,List.flatMap_nil,fM,gE,lm,gh,eF,iD,bp,bZ,or_false]at hi;rcases hi with rfl|rfl<;>rfl
  .cases hi
  .simp only[HV,dZ,dP,jd,List.flatMap_nil,fM,gE,lm,gh,eF,iD,bp,bZ,or_false]at hi;rcases hi with rfl|rfl<;>rfl
  .cases hi
  .cases hi
def aA{f:FuncId}{rest:List AV}{C C':Ct}{r:AV}(h:DS f rest C r C'){args:List AV}{d:Option Nat}{s:St}{K:St->Prop}(ha:args = .mp 1000 5 0 0::rest)(h1:ae s.heap 1000=some (ctR C.bs.length C.rs C.lv C.br))(h2:ae s.heap 2000=some (VU C.bs))(h3:ae s.heap 1001=some (HV C.s.all.length (cw (C.s.t::C.s.u)).length C.s.ov))(h4:ae s.heap 2001=some (Kx C.s.all))(h5:ae s.heap 2002=some (Kw (cw (C.s.t::C.s.u))))
  (hk:K ((St.mk (jW [2000,2001,2002] s.env) (fu C'++jX [2000,2001,2002] s.heap)).put d r)):cB pg f args d s K:=by
 subst ha;refine gz h [2000,2001,2002] (λp hp=>?_) (λp hp=>?_) (λp hp=>?_) hk
 .simp only[fu,bp,bZ,or_false]at hp;rcases hp with rfl|rfl|rfl|rfl|rfl
  .exact h1
  .exact h2
  .exact h3
  .exact h4
  .exact h5
 .simp only[fu,bp,bZ,or_false]at hp;rcases hp with rfl|rfl|rfl|rfl|rfl
  .exact .inl ⟨⟨show 1000<=1000 by decide,show 1000<2000 by decide⟩,rfl⟩
  .exact .inr ⟨by simp,.inr (show 2000<=2000 by decide),.inl rfl⟩
  .exact .inl ⟨⟨show 1000<=1001 by decide,show 1001<2000 by decide⟩,rfl⟩
  .exact .inr ⟨by simp,.inr (show 2000<=2001 by decide),.inl rfl⟩
  .exact .inr ⟨by simp,.inr (show 2000<=2002 by decide),.inl rfl⟩
 .simp only[fu,bp,bZ,or_false]at hp;rcases hp with rfl|rfl|rfl|rfl|rfl<;>rfl
def Ks(C:Ct):ah pg m9 [ctF C] (.bool true):=by
 refine au mL ?_;simp only[go_sem,mL];exact ac
def Vj(C:Ct):ah pg lW [ctF C] (.int .i64 C.br):=by
 refine au lI ?_;have c:=Ks C;simp only[zi,pm]at c;simp only[go_sem,lI];refine aa (c) ?_;exact ac
def Tw(C:Ct):DS m9 [] C (.bool true) C:=Jv (Ks C) rfl (λx hx=>by cases hx)
def cO(C:Ct):DS lW [] C (.int .i64 C.br) C:=Jv (Vj C) rfl (λx hx=>by cases hx)
def dD(C:Ct):DS tn [] C (.mp 1001 3 0 0) C:=by
 refine dj lG ?_;simp only[go_sem,lG];refine aA (Tw C) (by simp only[go_sem]) (by simp only[go_sem]) (by simp only[go_sem]) (by simp only[go_sem]) (by simp only[go_sem]) (by simp only[go_sem]) ?_;simp only[go_sem];exact aM [] _ (fu C) ⟨rfl,rfl⟩
def pL(C:Ct)(e:Int):DS tw [.int .i64 e] C (.int .i64 e) (C.broke e).2:=by
 refine dj lH ?_;simp only[go_sem,lH];exact done [] _ (fu (C.broke e).2) (by simp only[go_sem]) (by simp only[go_sem,Ct.broke]) rfl ⟨rfl,rfl⟩
def adp{a b id:Nat}(h1:id≠a)(h2:id≠b):bw [(a,b)] id=id:=by simp[bw,wy,h1,h2]
def Sh(C:Ct)(b:Bk):C.begin b =⟨C.s.opn.push b.t.ps,C.bs++[b],C.rs,b.lv,C.br⟩:=rfl
def Af(C:Ct)(b:Bk)(hu:C.s.u.length<900000)(hl:C.s.all.length<900000)(hb:C.bs.length<900000)(hp:b.t.ps.length<900000):DS tu [.agg (Jn b)] C (.tup []) (C.begin b):=by
 refine kB (ic:=ii 17 ij.body) nR (cF ij) (by rfl) rfl ?_;have k1:=O_ C.s (by omega) (by omega);have k2:=vl C.s.opn b.t.ps (show C.s.opn.u.length<1000000 by show C.s.u.length+1<1000000;omega) (by rw[Fc];omega) (by omega);simp only[go_sem,ij,ii];refine aJ (k1) (by simp only[go_sem]) (by simp only[go_sem]) (by simp only[go_sem]) (by simp only[go_sem]) ?_;simp only[go_sem];refine aJ (k2) (by simp only[go_sem]) (by simp only[go_sem]) (by simp only[go_sem]) (by simp only[go_sem]) ?_;simp only[go_sem];refine ek _ _ (iS (id:=2000) (len:=C.bs.length) (rows:=C.bs.map Jn) (ys:=[Jn b]) (by rfl) (by rfl) (by rfl) (by rw[bP]) (by simp) (by omega) (by decide)) (by simp only[go_sem]) (by rfl) (by simp only[go_sem];rfl) (by simp only[go_sem]) ?_;simp only[go_sem];exact iY [] _ (fu (C.begin b)) (by simp only[go_sem]) (by simp only[go_sem,Sh,dW,ej,j1,iN,bY,eL]) rfl ⟨rfl,rfl⟩
def O8(C:Ct)(h0:C.bs≠[])(hb:C.bs.length<900000):DS xe [] C (.agg (Jn C.top)) {C with bs:=C.bs.dropLast}:=by
 refine dj nG ?_;have hpos:0<C.bs.length:=Jh.2 h0;have hw:IntKind.i64.wrap ((C.bs.length:Int)-1)=((C.bs.length-1:Nat):Int):=by rw[wi (by omega) (by omega)];omega
 have hc:=N1 20 5 (C.bs.length-1) 364 (List.replicate (C.bs.length-1) [.int .i64 0,.nl,.nl,.bool false,.bool false]) (C.bs.map Jn) (List.length_replicate) (by rw[bP];omega);have hl:C.bs.dropLast.length=C.bs.length-1:=List.length_dropLast;have ht:(C.bs.map Jn).take (C.bs.length-1)=C.bs.dropLast.map Jn:=by rw[<-List.map_take,List.dropLast_eq_take]
 rw[ht]at hc;have en:ap C.bs (C.bs.length-1)=C.top:=rfl;have hr:=QD 5 C.bs.length 364 Jn C.bs rfl;simp only[go_sem,nG,hw,cY,ga,hl,en,hr,hc];refine⟨⟨by omega,by omega⟩,by omega,⟨by omega,by omega,by omega⟩,?_⟩;exact sH (Wk.ren _ [(20,2000)] (λid h1 h2=>adp (by omega) (by omega))) [] _ [(1000,ctR (C.bs.length-1) C.rs C.lv C.br),(2000,VU C.bs.dropLast),(1001,HV C.s.all.length (cw (C.s.t::C.s.u)).length C.s.ov),(2001,Kx C.s.all),(2002,Kw (cw (C.s.t::C.s.u)))] (by rfl) (by exact⟨rfl,rfl,rfl,rfl,rfl,trivial⟩) rfl ⟨rfl,rfl⟩
end
open Go Go.Mw
section
def fz(a b:Md):Prop:=a.hs=b.hs/\(a.hs=true->a.st=b.st)/\a.ts=b.ts/\a.ims=b.ims/\a.fs=b.fs/\(a.tbs=b.tbs/\a.ms=b.ms)/\a.gs=b.gs/\a.exs=b.exs/\a.els=b.els/\a.ds=b.ds/\a.cs=b.cs
instance(a b:Md):Decidable (fz a b):=by unfold fz;exact inferInstance
def HY(a:Md):fz a a:=⟨rfl,λ_=>rfl,rfl,rfl,rfl,⟨rfl,rfl⟩,rfl,rfl,rfl,rfl,rfl⟩
attribute[local go_sem] bP bn bT cC
def UV(a b:Md)(ha:a.tbs.length<=140737488355328)(hb:a.ms.length<=140737488355328):ah pg xk [da a,da b] (.bool (decide (a.tbs=b.tbs/\a.ms=b.ms))):=by
 refine au gc ?_;by_cases l1:(a.tbs.length:Int)=(b.tbs.length:Int);rotate_left
 .rw[aC (λh=>l1 (by rw[h.1]))];simp only[go_sem,gc,da,aG l1];exact ac
 by_cases l2:(a.ms.length:Int)=(b.ms.length:Int);rotate_left
 .rw[aC (λh=>l2 (by rw[h.2]))];simp only[go_sem,gc,da,ar l1,aG l2];exact ac
 simp only[go_sem,gc,da,ar l1,ar l2];refine ao (λj:Nat=>⟨[(5,.int .i64 j),(2,.mp 2 12 0 0),(3,.mp 3 12 0 0)],[(2,⟨33,12,[mI a],true⟩),(3,⟨33,12,[mI b],true⟩)]⟩) (λj=>j<=a.tbs.length/\∀k,k<j->ap a.tbs k=ap b.tbs k) (λj=>a.tbs.length-j) 0 ⟨cR _,λk hk=>by omega⟩ (Wk.of ?_ ?_) ?_
 .simp only[go_sem];try simp
 .simp only[go_sem]
 rintro j ⟨hj,hx⟩;by_cases h1:(j:Int)<(a.tbs.length:Int)
 .have hj':j<a.tbs.length:=by omega
  have hjb:(j:Int)<(b.tbs.length:Int):=by omega
  have e8:=cA hj' (by omega);by_cases h2:ap a.tbs j=ap b.tbs j
  .simp only[go_sem,aw h1,Wz,aw h2,di];refine⟨by omega,h1,by omega,hjb,ay (j+1) ⟨show j+1<=a.tbs.length by omega,λk hk=>?_⟩ (show a.tbs.length-(j+1)<a.tbs.length-j by omega) (Wk.of ?_ ?_)⟩
   .rcases eJ k j with h|h
    .exact hx k h
    .rw[show k=j by omega];exact h2
   .simp only[go_sem,e8];try simp
   .simp only[go_sem]
  .rw[aC (λe=>h2 (by rw[e.1]))];simp only[go_sem,aw h1,Wz,aC h2,dH];refine⟨by omega,h1,by omega,hjb,?_⟩;exact ac
 have g1:a.tbs=b.tbs:=jI (by omega) λk hk=>hx k (by omega);simp only[go_sem,aC h1];clear hx h1 hj;refine ao (λj:Nat=>⟨[(6,.int .i64 j),(2,.mp 2 12 0 0),(3,.mp 3 12 0 0)],[(2,⟨33,12,[mI a],true⟩),(3,⟨33,12,[mI b],true⟩)]⟩) (λj=>j<=a.ms.length/\∀k,k<j->ap a.ms k=ap b.ms k) (λj=>a.ms.length-j) 0 ⟨cR _,λk hk=>by omega⟩ (Wk.of ?_ ?_) ?_
 .simp only[go_sem];try simp
 .simp only[go_sem]
 rintro j ⟨hj,hx⟩;by_cases h1:(j:Int)<(a.ms.length:Int)
 .have hj':j<a.ms.length:=by omega
  have hjb:(j:Int)<(b.ms.length:Int):=by omega
  have e8:=cA hj' (by omega);by_cases h2:ap a.ms j=ap b.ms j
  .simp only[go_sem,aw h1,Wc,aw h2,di];refine⟨by omega,h1,by omega,hjb,ay (j+1) ⟨show j+1<=a.ms.length by omega,λk hk=>?_⟩ (show a.ms.length-(j+1)<a.ms.length-j by omega) (Wk.of ?_ ?_)⟩
   .rcases eJ k j with h|h
    .exact hx k h
    .rw[show k=j by omega];exact h2
   .simp only[go_sem,e8];try simp
   .simp only[go_sem]
  .rw[aC (λe=>h2 (by rw[e.2]))];simp only[go_sem,aw h1,Wc,aC h2,dH];refine⟨by omega,h1,by omega,hjb,?_⟩;exact ac
 have g2:a.ms=b.ms:=jI (by omega) λk hk=>hx k (by omega);rw[aw ⟨g1,g2⟩];simp only[go_sem,aC h1];exact ac
def US(a b:Md)(h:Rx a):ah pg EJ [da a,da b] (.bool (decide (fz a b))):=by
 refine au aX ?_;have d0:=UW a.ts b.ts ⟨cZ h.ts.1 (by decide),h.ts.2⟩;have d1:=Zx a.ims b.ims (cZ h.ims (by decide));have d2:=UN a.fs b.fs ⟨cZ h.fs.1 (by decide),h.fs.2⟩;have d3:=UV a b h.tbs h.ms;have d4:=UR a.gs b.gs ⟨cZ h.gs.1 (by decide),h.gs.2⟩;have d5:=Zw a.exs b.exs (cZ h.exs (by decide));have d6:=UP a.els b.els ⟨cZ h.els.1 (by decide),h.els.2⟩;have d7:=Zv a.ds b.ds ⟨cZ h.ds.1 (by decide),h.ds.2⟩;have d8:=UO a.cs b.cs (cZ h.cs.1 (by decide));simp only[da,bn]at d3;by_cases e1:a.hs=b.hs;rotate_left
 .rw[aC (λe:fz a b=>e1 e.1)];cases ha:a.hs<;>cases hb:b.hs
  .exact absurd (ha.trans hb.symm) e1
  .simp only[go_sem,aX,da,ha,hb,show(false==true)=false from rfl,dH,di];exact ac
  .simp only[go_sem,aX,da,ha,hb,show(true==false)=false from rfl,dH,di];exact ac
  .exact absurd (ha.trans hb.symm) e1
 cases ha:a.hs
 .have hb:b.hs=false:=by rw[<-e1];exact ha
  rw[ha,hb]at d3;by_cases c0:a.ts=b.ts;rotate_left
  .rw[aC c0]at d0;rw[aC (λe:fz a b=>c0 e.2.2.1)];simp only[go_sem,aX,da,ha,hb,show(false==false)=true from rfl,dH,di];refine aa (d0) ?_;exact ac
  rw[aw c0]at d0;by_cases c1:a.ims=b.ims;rotate_left
  .rw[aC c1]at d1;rw[aC (λe:fz a b=>c1 e.2.2.2.1)];simp only[go_sem,aX,da,ha,hb,show(false==false)=true from rfl,dH,di];refine aa (d0) ?_;refine aa (d1) ?_;exact ac
  rw[aw c1]at d1;by_cases c2:a.fs=b.fs;rotate_left
  .rw[aC c2]at d2;rw[aC (λe:fz a b=>c2 e.2.2.2.2.1)];simp only[go_sem,aX,da,ha,hb,show(false==false)=true from rfl,dH,di];refine aa (d0) ?_;refine aa (d1) ?_;refine aa (d2) ?_;exact ac
  rw[aw c2]at d2;by_cases c3:a.tbs=b.tbs/\a.ms=b.ms;rotate_left
  .rw[aC c3]at d3;rw[aC (λe:fz a b=>c3 e.2.2.2.2.2.1)];simp only[go_sem,aX,da,ha,hb,show(false==false)=true from rfl,dH,di];refine aa (d0) ?_;refine aa (d1) ?_;refine aa (d2) ?_;refine aa (d3) ?_;exact ac
  rw[aw c3]at d3;by_cases c4:a.gs=b.gs;rotate_left
  .rw[aC c4]at d4;rw[aC (λe:fz a b=>c4 e.2.2.2.2.2.2.1)];simp only[go_sem,aX,da,ha,hb,show(false==false)=true from rfl,dH,di];refine aa (d0) ?_;refine aa (d1) ?_;refine aa (d2) ?_;refine aa (d3) ?_;refine aa (d4) ?_;exact ac
  rw[aw c4]at d4;by_cases c5:a.exs=b.exs;rotate_left
  .rw[aC c5]at d5;rw[aC (λe:fz a b=>c5 e.2.2.2.2.2.2.2.1)];simp only[go_sem,aX,da,ha,hb,show(false==false)=true from rfl,dH,di];refine aa (d0) ?_;refine aa (d1) ?_;refine aa (d2) ?_;refine aa (d3) ?_;refine aa (d4) ?_;refine aa (d5) ?_;exact ac
  rw[aw c5]at d5;by_cases c6:a.els=b.els;rotate_left
  .rw[aC c6]at d6;rw[aC (λe:fz a b=>c6 e.2.2.2.2.2.2.2.2.1)];simp only[go_sem,aX,da,ha,hb,show(false==false)=true from rfl,dH,di];refine aa (d0) ?_;refine aa (d1) ?_;refine aa (d2) ?_;refine aa (d3) ?_;refine aa (d4) ?_;refine aa (d5) ?_;refine aa (d6) ?_;exact ac
  rw[aw c6]at d6;by_cases c7:a.ds=b.ds;rotate_left
  .rw[aC c7]at d7;rw[aC (λe:fz a b=>c7 e.2.2.2.2.2.2.2.2.2.1)];simp only[go_sem,aX,da,ha,hb,show(false==false)=true from rfl,dH,di];refine aa (d0) ?_;refine aa (d1) ?_;refine aa (d2) ?_;refine aa (d3) ?_;refine aa (d4) ?_;refine aa (d5) ?_;refine aa (d6) ?_;refine aa (d7) ?_;exact ac
  rw[aw c7]at d7;by_cases c8:a.cs=b.cs;rotate_left
  .rw[aC c8]at d8;rw[aC (λe:fz a b=>c8 e.2.2.2.2.2.2.2.2.2.2)];simp only[go_sem,aX,da,ha,hb,show(false==false)=true from rfl,dH,di];refine aa (d0) ?_;refine aa (d1) ?_;refine aa (d2) ?_;refine aa (d3) ?_;refine aa (d4) ?_;refine aa (d5) ?_;refine aa (d6) ?_;refine aa (d7) ?_;refine aa (d8) ?_;exact ac
  rw[aw c8]at d8;rw[aw (show fz a b from⟨e1,λq=>absurd (ha.symm.trans q) (by decide),c0,c1,c2,c3,c4,c5,c6,c7,c8⟩)];simp only[go_sem,aX,da,ha,hb,show(false==false)=true from rfl,dH,di];refine aa (d0) ?_;refine aa (d1) ?_;refine aa (d2) ?_;refine aa (d3) ?_;refine aa (d4) ?_;refine aa (d5) ?_;refine aa (d6) ?_;refine aa (d7) ?_;refine aa (d8) ?_;exact ac
 .have hb:b.hs=true:=by rw[<-e1];exact ha
  rw[ha,hb]at d3;by_cases e2:a.st=b.st;rotate_left
  .rw[aC (λe:fz a b=>e2 (e.2.1 ha))];simp only[go_sem,aX,da,ha,hb,show(true==true)=true from rfl,dH,di,aG e2];exact ac
  by_cases c0:a.ts=b.ts;rotate_left
  .rw[aC c0]at d0;rw[aC (λe:fz a b=>c0 e.2.2.1)];simp only[go_sem,aX,da,ha,hb,show(true==true)=true from rfl,dH,di,ar e2];refine aa (d0) ?_;exact ac
  rw[aw c0]at d0;by_cases c1:a.ims=b.ims;rotate_left
  .rw[aC c1]at d1;rw[aC (λe:fz a b=>c1 e.2.2.2.1)];simp only[go_sem,aX,da,ha,hb,show(true==true)=true from rfl,dH,di,ar e2];refine aa (d0) ?_;refine aa (d1) ?_;exact ac
  rw[aw c1]at d1;by_cases c2:a.fs=b.fs;rotate_left
  .rw[aC c2]at d2;rw[aC (λe:fz a b=>c2 e.2.2.2.2.1)];simp only[go_sem,aX,da,ha,hb,show(true==true)=true from rfl,dH,di,ar e2];refine aa (d0) ?_;refine aa (d1) ?_;refine aa (d2) ?_;exact ac
  rw[aw c2]at d2;by_cases c3:a.tbs=b.tbs/\a.ms=b.ms;rotate_left
  .rw[aC c3]at d3;rw[aC (λe:fz a b=>c3 e.2.2.2.2.2.1)];simp only[go_sem,aX,da,ha,hb,show(true==true)=true from rfl,dH,di,ar e2];refine aa (d0) ?_;refine aa (d1) ?_;refine aa (d2) ?_;refine aa (d3) ?_;exact ac
  rw[aw c3]at d3;by_cases c4:a.gs=b.gs;rotate_left
  .rw[aC c4]at d4;rw[aC (λe:fz a b=>c4 e.2.2.2.2.2.2.1)];simp only[go_sem,aX,da,ha,hb,show(true==true)=true from rfl,dH,di,ar e2];refine aa (d0) ?_;refine aa (d1) ?_;refine aa (d2) ?_;refine aa (d3) ?_;refine aa (d4) ?_;exact ac
  rw[aw c4]at d4;by_cases c5:a.exs=b.exs;rotate_left
  .rw[aC c5]at d5;rw[aC (λe:fz a b=>c5 e.2.2.2.2.2.2.2.1)];simp only[go_sem,aX,da,ha,hb,show(true==true)=true from rfl,dH,di,ar e2];refine aa (d0) ?_;refine aa (d1) ?_;refine aa (d2) ?_;refine aa (d3) ?_;refine aa (d4) ?_;refine aa (d5) ?_;exact ac
  rw[aw c5]at d5;by_cases c6:a.els=b.els;rotate_left
  .rw[aC c6]at d6;rw[aC (λe:fz a b=>c6 e.2.2.2.2.2.2.2.2.1)];simp only[go_sem,aX,da,ha,hb,show(true==true)=true from rfl,dH,di,ar e2];refine aa (d0) ?_;refine aa (d1) ?_;refine aa (d2) ?_;refine aa (d3) ?_;refine aa (d4) ?_;refine aa (d5) ?_;refine aa (d6) ?_;exact ac
  rw[aw c6]at d6;by_cases c7:a.ds=b.ds;rotate_left
  .rw[aC c7]at d7;rw[aC (λe:fz a b=>c7 e.2.2.2.2.2.2.2.2.2.1)];simp only[go_sem,aX,da,ha,hb,show(true==true)=true from rfl,dH,di,ar e2];refine aa (d0) ?_;refine aa (d1) ?_;refine aa (d2) ?_;refine aa (d3) ?_;refine aa (d4) ?_;refine aa (d5) ?_;refine aa (d6) ?_;refine aa (d7) ?_;exact ac
  rw[aw c7]at d7;by_cases c8:a.cs=b.cs;rotate_left
  .rw[aC c8]at d8;rw[aC (λe:fz a b=>c8 e.2.2.2.2.2.2.2.2.2.2)];simp only[go_sem,aX,da,ha,hb,show(true==true)=true from rfl,dH,di,ar e2];refine aa (d0) ?_;refine aa (d1) ?_;refine aa (d2) ?_;refine aa (d3) ?_;refine aa (d4) ?_;refine aa (d5) ?_;refine aa (d6) ?_;refine aa (d7) ?_;refine aa (d8) ?_;exact ac
  rw[aw c8]at d8;rw[aw (show fz a b from⟨e1,λ_=>e2,c0,c1,c2,c3,c4,c5,c6,c7,c8⟩)];simp only[go_sem,aX,da,ha,hb,show(true==true)=true from rfl,dH,di,ar e2];refine aa (d0) ?_;refine aa (d1) ?_;refine aa (d2) ?_;refine aa (d3) ?_;refine aa (d4) ?_;refine aa (d5) ?_;refine aa (d6) ?_;refine aa (d7) ?_;refine aa (d8) ?_;exact ac
end
section
attribute[local go_sem] bP aU cQ cj bT cC gC df fa dA dn ez bH dt bn
def ID(a b:List Int)(ha:a.length<=9223372036854775807):ah pg sq [.sl 1 (a.map bg),.sl 1 (b.map bg)] (.bool (decide (a=b))):=by
 refine au gy ?_;by_cases hl:(a.length:Int)=(b.length:Int);rotate_left
 .rw[aC (λh=>hl (by rw[h]))];simp only[go_sem,gy,aG hl];exact ac
 simp only[go_sem,gy,ar hl];refine ao (λj:Nat=>⟨[(14,.int .i64 j),(13,.int .i64 a.length),(12,.sl 1 (a.map bg)),(1,.sl 1 (b.map bg))],[]⟩) (λj=>j<=a.length/\∀k,k<j->ap a k=ap b k) (λj=>a.length-j) 0 ⟨cR _,λk hk=>by omega⟩ (Wk.of ?_ ?_) ?_
 .simp only[go_sem,hl];try simp
 .simp only[go_sem]
 rintro j ⟨hj,hx⟩;by_cases h1:(j:Int)<(a.length:Int);rotate_left
 .rw[aw (jI (by omega) λk hk=>hx k (by omega))];simp only[go_sem,aC h1];exact ac
 have hj':j<a.length:=by omega
 have hjb:(j:Int)<(b.length:Int):=by omega
 have e8:=cA hj' (by omega);by_cases h2:ap a j=ap b j
 .simp only[go_sem,aw h1,ar h2];refine⟨by omega,h1,by omega,hjb,ay (j+1) ⟨show j+1<=a.length by omega,λk hk=>?_⟩ (show a.length-(j+1)<a.length-j by omega) (Wk.of ?_ ?_)⟩
  .rcases eJ k j with h|h
   .exact hx k h
   .rw[show k=j by omega];exact h2
  .simp only[go_sem,e8];try simp
  .simp only[go_sem]
 .rw[aC (λe=>h2 (by rw[e]))];simp only[go_sem,aw h1,aG h2];refine⟨by omega,h1,by omega,hjb,?_⟩;exact ac
def T_(a b:List Int)(ha:a.length<=9223372036854775807):ah pg yA [.sl 1 (a.map bg),.sl 1 (b.map bg)] (.bool (decide (a=b))):=by
 refine au oP ?_;simp only[go_sem,oP];refine aa (ID a b ha) ?_;exact ac
def ad5(x y:Ft)(h:smF x):ah pg ET [.agg (kz x),.agg (kz y)] (.bool (decide (x=y))):=by
 refine au mg ?_;have d0:=ID x.ps y.ps h.1;have d1:=ID x.rs y.rs h.2;by_cases c0:x.ps=y.ps;rotate_left
 .rw[aC (λe=>c0 (by rw[e]))];rw[aC c0]at d0;simp only[go_sem,mg];refine ak (d0) ?_;simp only[go_sem,dt];exact ac
 rw[aw c0]at d0;by_cases c1:x.rs=y.rs;rotate_left
 .rw[aC (λe=>c1 (by rw[e]))];rw[aC c1]at d1;simp only[go_sem,mg];refine ak (d0) ?_;simp only[go_sem,dt];refine ak (d1) ?_;simp only[go_sem,dt];exact ac
 rw[aw c1]at d1;rw[aw (show x=y by obtain⟨x0,x1⟩:=x;obtain⟨y0,y1⟩:=y;simp only at c0 c1;simp only[c0,c1])];simp only[go_sem,mg];refine ak (d0) ?_;simp only[go_sem,dt];refine ak (d1) ?_;simp only[go_sem,dt];exact ac
end
section
def gL(S:Sk)(l:List Int):(S.want l).2.u=S.u/\(S.want l).2.all.length<=S.all.length:=by
 unfold Sk.want;cases h:S.left l with
 | mk o e =>
  cases o with
  | none=>exact⟨rfl,aN _⟩
  | some r =>
   obtain⟨_,q,hq⟩:=yt h;refine⟨rfl,?_⟩;show(bW S.u++r.reverse).length<=_;rw[mT,hq];simp only[ej];omega
def Fp(S:Sk)(l:List Int):(S.shut l).2.u.length<=S.u.length/\(S.shut l).2.all.length<=S.all.length:=by
 unfold Sk.shut;split
 .exact⟨aN _,aN _⟩
 .exact⟨aN _,aN _⟩
 .have ha:S.all.length=(bW S.u).length+S.t.l.length:=by rw[mT,ej]
  split
  .rename_i hu;refine⟨aN _,?_⟩;show(bW S.u++[]).length<=_;rw[lm];omega
  .rename_i g r hu;refine⟨by rw[hu];simp,?_⟩;show(bW (g::r)).length<=_;rw[<-hu];omega
structure E9(n:Nat)(C:Ct):Prop where
 u:C.s.u.length<=n
 l:C.s.all.length<=n
 b:C.bs.length<=n
 r:C.rs.length<=1000
 t:∀b∈C.bs,b.t.ps.length<=1000/\b.t.rs.length<=1000
def E9.top{n:Nat}{C:Ct}(h:E9 n C)(h0:C.bs≠[]):C.top.t.ps.length<=1000/\C.top.t.rs.length<=1000:=by
 have hpos:0<C.bs.length:=Jh.2 h0;refine h.t _ ?_;unfold Ct.top;rw[aV (by omega)];exact gO _
def Rm(C:Ct):ap C.bs (C.bs.length-1)=C.top:=rfl
attribute[local go_sem] bP xL xN xO xM pm AJ AK zh zi oT aU
def Yh(hLeft:eS)(C:Ct)(h:E9 800000 C):DS vr [] C (.int .i64 C.els.1) C.els.2:=by
 refine dj cP ?_;have hu:=h.u;have hl:=h.l;have hb:=h.b;unfold Ct.els;by_cases e1:C.br=0;rotate_left
 .rw[aF e1];simp only[go_sem,cP];refine aA (cO C) (by simp only[go_sem]) (by simp only[go_sem]) (by simp only[go_sem]) (by simp only[go_sem]) (by simp only[go_sem]) (by simp only[go_sem]) ?_;simp only[go_sem,aG e1];exact aM [] _ (fu C) ⟨rfl,rfl⟩
 rw[ax (λq=>q e1)];by_cases e2:C.bs.length=0
 .rw[aF (.inl e2)];simp only[go_sem,cP];refine aA (cO C) (by simp only[go_sem]) (by simp only[go_sem]) (by simp only[go_sem]) (by simp only[go_sem]) (by simp only[go_sem]) (by simp only[go_sem]) ?_;simp only[go_sem,ar e1,aK (show(C.bs.length:Int)=0 by omega)];exact aM [] _ (fu C) ⟨rfl,rfl⟩
 have hne:C.bs≠[]:=λq=>e2 (by rw[q];rfl);have hw:IntKind.i64.wrap ((C.bs.length:Int)-1)=((C.bs.length-1:Nat):Int):=by rw[wi (by omega) (by omega)];omega
 have htop:=Rm C;have e2':¬(C.bs.length:Int)=0:=by omega
 by_cases e3:C.top.k=4;rotate_left
 .rw[aF (.inr (.inl e3))];simp only[go_sem,cP];refine aA (cO C) (by simp only[go_sem]) (by simp only[go_sem]) (by simp only[go_sem]) (by simp only[go_sem]) (by simp only[go_sem]) (by simp only[go_sem]) ?_;simp only[go_sem,ar e1,ab e2',hw,cY,ga,htop,aG e3];refine⟨⟨by omega,by omega⟩,by omega,?_⟩;exact aM [] _ (fu C) ⟨rfl,rfl⟩
 cases e4:C.top.ot;rotate_left
 .rw[aF (.inr (.inr rfl))];simp only[go_sem,cP];refine aA (cO C) (by simp only[go_sem]) (by simp only[go_sem]) (by simp only[go_sem]) (by simp only[go_sem]) (by simp only[go_sem]) (by simp only[go_sem]) ?_;simp only[go_sem,ar e1,ab e2',hw,cY,ga,htop,ar e3,e4];refine⟨⟨by omega,by omega⟩,by omega,⟨by omega,by omega⟩,by omega,?_⟩;exact aM [] _ (fu C) ⟨rfl,rfl⟩
 rw[ax (by rintro(q|q|q);exact e2 q;exact q e3;cases q)];obtain⟨t1,t2⟩:=h.top hne;have ks:=Pa C.s C.top.t.rs (by omega) (by omega) (hLeft _ _ (by omega) (by omega) (by omega));obtain⟨b1,b2⟩:=Fp C.s C.top.t.rs;generalize C.s.shut C.top.t.rs=R at ks b1 b2⊢;obtain⟨e,S1⟩:=R;dsimp only at ks b1 b2⊢;by_cases e5:e=0;rotate_left
 .rw[aF e5];have kb:=pL {C with s:=S1} e;simp only[go_sem,cP];refine aA (cO C) (by simp only[go_sem]) (by simp only[go_sem]) (by simp only[go_sem]) (by simp only[go_sem]) (by simp only[go_sem]) (by simp only[go_sem]) ?_;simp only[go_sem,ar e1,ab e2',hw,cY,ga,htop,ar e3,e4];refine⟨⟨by omega,by omega⟩,by omega,⟨by omega,by omega⟩,by omega,⟨by omega,by omega⟩,by omega,?_⟩;refine aJ (ks) (by simp only[go_sem]) (by simp only[go_sem]) (by simp only[go_sem]) (by simp only[go_sem]) ?_;simp only[go_sem,aG e5];refine aA (kb) (by simp only[go_sem]) (by simp only[go_sem]) (by simp only[go_sem]) (by simp only[go_sem]) (by simp only[go_sem]) (by simp only[go_sem]) ?_;simp only[go_sem];exact done [] _ (fu (({C with s:=S1}:Ct).broke e).2) (by simp only[go_sem,Ct.broke]) (by simp only[go_sem,Ct.broke]) rfl ⟨rfl,rfl⟩
 rw[ax (λq=>q e5)];have kp:=O8 {C with s:=S1} hne (show C.bs.length<900000 by omega);have kg:=Af {C with s:=S1,bs:=C.bs.dropLast} {C.top with ot:=true} (by show S1.u.length<900000;omega) (by show S1.all.length<900000;omega) (by show C.bs.dropLast.length<900000;rw[List.length_dropLast];omega) (by show C.top.t.ps.length<900000;omega);rw[show({C with s:=S1}:Ct).top=C.top from rfl]at kp;simp only[oT]at kp kg;simp only[go_sem,cP];refine aA (cO C) (by simp only[go_sem]) (by simp only[go_sem]) (by simp only[go_sem]) (by simp only[go_sem]) (by simp only[go_sem]) (by simp only[go_sem]) ?_;simp only[go_sem,ar e1,ab e2',hw,cY,ga,htop,ar e3,e4];refine⟨⟨by omega,by omega⟩,by omega,⟨by omega,by omega⟩,by omega,⟨by omega,by omega⟩,by omega,?_⟩;refine aJ (ks) (by simp only[go_sem]) (by simp only[go_sem]) (by simp only[go_sem]) (by simp only[go_sem]) ?_;simp only[go_sem,ar e5];refine aA (kp) (by simp only[go_sem]) (by simp only[go_sem]) (by simp only[go_sem]) (by simp only[go_sem]) (by simp only[go_sem]) (by simp only[go_sem]) ?_;simp only[go_sem];refine aA (kg) (by simp only[go_sem]) (by simp only[go_sem]) (by simp only[go_sem]) (by simp only[go_sem]) (by simp only[go_sem]) (by simp only[go_sem]) ?_;simp only[go_sem];exact aM [] _ (fu (({C with s:=S1,bs:=C.bs.dropLast}:Ct).begin {C.top with ot:=true})) ⟨rfl,rfl⟩
def TA(hLeft:eS)(C:Ct)(h:E9 800000 C):DS tj [] C (.int .i64 C.leave.1) C.leave.2:=by
 refine dj dy ?_;have hu:=h.u;have hl:=h.l;have hb:=h.b;unfold Ct.leave;by_cases e1:C.br=0;rotate_left
 .rw[aF e1];simp only[go_sem,dy];refine aA (cO C) (by simp only[go_sem]) (by simp only[go_sem]) (by simp only[go_sem]) (by simp only[go_sem]) (by simp only[go_sem]) (by simp only[go_sem]) ?_;simp only[go_sem,aG e1];exact aM [] _ (fu C) ⟨rfl,rfl⟩
 rw[ax (λq=>q e1)];by_cases e2:C.bs.length=0
 .rw[aF e2];simp only[go_sem,dy];refine aA (cO C) (by simp only[go_sem]) (by simp only[go_sem]) (by simp only[go_sem]) (by simp only[go_sem]) (by simp only[go_sem]) (by simp only[go_sem]) ?_;simp only[go_sem,ar e1,aK (show(C.bs.length:Int)=0 by omega)];exact aM [] _ (fu C) ⟨rfl,rfl⟩
 rw[ax e2];have hne:C.bs≠[]:=λq=>e2 (by rw[q];rfl);have hw:IntKind.i64.wrap ((C.bs.length:Int)-1)=((C.bs.length-1:Nat):Int):=by rw[wi (by omega) (by omega)];omega
 have htop:=Rm C;have e2':¬(C.bs.length:Int)=0:=by omega
 obtain⟨t1,t2⟩:=h.top hne;have ks:=Pa C.s C.top.t.rs (by omega) (by omega) (hLeft _ _ (by omega) (by omega) (by omega));obtain⟨b1,b2⟩:=Fp C.s C.top.t.rs;generalize C.s.shut C.top.t.rs=R at ks b1 b2⊢;obtain⟨e,S1⟩:=R;dsimp only at ks b1 b2⊢;by_cases e5:e=0;rotate_left
 .rw[aF e5];have kb:=pL {C with s:=S1} e;simp only[go_sem,dy];refine aA (cO C) (by simp only[go_sem]) (by simp only[go_sem]) (by simp only[go_sem]) (by simp only[go_sem]) (by simp only[go_sem]) (by simp only[go_sem]) ?_;simp only[go_sem,ar e1,ab e2',hw,cY,ga,htop];refine⟨⟨by omega,by omega⟩,by omega,?_⟩;refine aJ (ks) (by simp only[go_sem]) (by simp only[go_sem]) (by simp only[go_sem]) (by simp only[go_sem]) ?_;simp only[go_sem,aG e5];refine aA (kb) (by simp only[go_sem]) (by simp only[go_sem]) (by simp only[go_sem]) (by simp only[go_sem]) (by simp only[go_sem]) (by simp only[go_sem]) ?_;simp only[go_sem];exact done [] _ (fu (({C with s:=S1}:Ct).broke e).2) (by simp only[go_sem,Ct.broke]) (by simp only[go_sem,Ct.broke]) rfl ⟨rfl,rfl⟩
 rw[ax (λq=>q e5)];have kp:=O8 {C with s:=S1} hne (show C.bs.length<900000 by omega);rw[show({C with s:=S1}:Ct).top=C.top from rfl]at kp;simp only[oT]at kp;have kv:=T_ C.top.t.ps C.top.t.rs (by omega);have kq:=vl S1 C.top.t.rs (by omega) (by omega) (by omega);have kb:=pL {C with s:=S1,bs:=C.bs.dropLast} 12;simp only[go_sem,dy];refine aA (cO C) (by simp only[go_sem]) (by simp only[go_sem]) (by simp only[go_sem]) (by simp only[go_sem]) (by simp only[go_sem]) (by simp only[go_sem]) ?_;simp only[go_sem,ar e1,ab e2',hw,cY,ga,htop];refine⟨⟨by omega,by omega⟩,by omega,?_⟩;refine aJ (ks) (by simp only[go_sem]) (by simp only[go_sem]) (by simp only[go_sem]) (by simp only[go_sem]) ?_;simp only[go_sem,ar e5];refine aA (kp) (by simp only[go_sem]) (by simp only[go_sem]) (by simp only[go_sem]) (by simp only[go_sem]) (by simp only[go_sem]) (by simp only[go_sem]) ?_;simp only[go_sem];by_cases e3:C.top.k=4;rotate_left
 .rw[ax (λq=>e3 q.1)];simp only[go_sem,ab e3];refine aJ (kq) (by simp only[go_sem]) (by simp only[go_sem]) (by simp only[go_sem]) (by simp only[go_sem]) ?_;simp only[go_sem];exact aM [] _ (fu {C with s:=S1.push C.top.t.rs,bs:=C.bs.dropLast,lv:=C.top.lv}) ⟨rfl,rfl⟩
 cases e4:C.top.ot;rotate_left
 .rw[ax (λq=>by cases q.2.1)];simp only[go_sem,aK e3];refine aJ (kq) (by simp only[go_sem]) (by simp only[go_sem]) (by simp only[go_sem]) (by simp only[go_sem]) ?_;simp only[go_sem];exact aM [] _ (fu {C with s:=S1.push C.top.t.rs,bs:=C.bs.dropLast,lv:=C.top.lv}) ⟨rfl,rfl⟩
 simp only[go_sem,aK e3];refine ak (kv) ?_;by_cases e6:C.top.t.ps=C.top.t.rs
 .rw[ax (λq=>q.2 e6)];simp only[go_sem,aw e6];refine aJ (kq) (by simp only[go_sem]) (by simp only[go_sem]) (by simp only[go_sem]) (by simp only[go_sem]) ?_;simp only[go_sem];exact aM [] _ (fu {C with s:=S1.push C.top.t.rs,bs:=C.bs.dropLast,lv:=C.top.lv}) ⟨rfl,rfl⟩
 .rw[aF ⟨e3,e6⟩];simp only[go_sem,aC e6];refine aA (kb) (by simp only[go_sem]) (by simp only[go_sem]) (by simp only[go_sem]) (by simp only[go_sem]) (by simp only[go_sem]) (by simp only[go_sem]) ?_;simp only[go_sem];exact done [] _ (fu (({C with s:=S1,bs:=C.bs.dropLast}:Ct).broke 12).2) (by simp only[go_sem,Ct.broke]) (by simp only[go_sem,Ct.broke]) rfl ⟨rfl,rfl⟩
def Er(C:Ct)(h:E9 800000 C):DS vp [] C (.tup []) C.dead:=by
 refine dj fD ?_;have hu:=h.u;have hl:=h.l;unfold Ct.dead;have kl:=TB C.s (by omega) (by omega);by_cases e1:C.br=0;rotate_left
 .rw[aF (.inl e1)];simp only[go_sem,fD];refine aA (cO C) (by simp only[go_sem]) (by simp only[go_sem]) (by simp only[go_sem]) (by simp only[go_sem]) (by simp only[go_sem]) (by simp only[go_sem]) ?_;simp only[go_sem,aG e1];exact aM [] _ (fu C) ⟨rfl,rfl⟩
 by_cases e2:C.bs.length=0
 .rw[aF (.inr e2)];simp only[go_sem,fD];refine aA (cO C) (by simp only[go_sem]) (by simp only[go_sem]) (by simp only[go_sem]) (by simp only[go_sem]) (by simp only[go_sem]) (by simp only[go_sem]) ?_;simp only[go_sem,ar e1,aK (show(C.bs.length:Int)=0 by omega)];exact aM [] _ (fu C) ⟨rfl,rfl⟩
 rw[ax (by rintro(q|q);exact q e1;exact e2 q)];simp only[go_sem,fD];refine aA (cO C) (by simp only[go_sem]) (by simp only[go_sem]) (by simp only[go_sem]) (by simp only[go_sem]) (by simp only[go_sem]) (by simp only[go_sem]) ?_;simp only[go_sem,ar e1,ab (show ¬(C.bs.length:Int)=0 by omega)];refine aJ (kl) (by simp only[go_sem]) (by simp only[go_sem]) (by simp only[go_sem]) (by simp only[go_sem]) ?_;simp only[go_sem];exact wP [] _ (fu {C with s:=C.s.loose,lv:=false}) ⟨rfl,rfl⟩
def Tz(hLeft:eS)(C:Ct)(h:E9 800000 C)(op:Int)(t:Ft)(ht:t.ps.length<=1000/\t.rs.length<=1000):DS tg [.int .i64 op,.agg (kz t)] C (.int .i64 (C.enter op t).1) (C.enter op t).2:=by
 refine dj cD ?_;have hu:=h.u;have hl:=h.l;have hb:=h.b;obtain⟨ht1,ht2⟩:=ht;unfold Ct.enter;by_cases e1:C.br=0;rotate_left
 .rw[aF e1];simp only[go_sem,cD];refine aA (cO C) (by simp only[go_sem]) (by simp only[go_sem]) (by simp only[go_sem]) (by simp only[go_sem]) (by simp only[go_sem]) (by simp only[go_sem]) ?_;simp only[go_sem,aG e1];exact aM [] _ (fu C) ⟨rfl,rfl⟩
 rw[ax (λq=>q e1)];by_cases e2:op=2\/op=3\/op=4;rotate_left
 .have n2:¬op=2:=λq=>e2 (.inl q);have n3:¬op=3:=λq=>e2 (.inr (.inl q));have n4:¬op=4:=λq=>e2 (.inr (.inr q));rw[aF ⟨n2,n3,n4⟩];simp only[go_sem,cD];refine aA (cO C) (by simp only[go_sem]) (by simp only[go_sem]) (by simp only[go_sem]) (by simp only[go_sem]) (by simp only[go_sem]) (by simp only[go_sem]) ?_;simp only[go_sem,ar e1,aG n2,aG n3,aG n4];exact aM [] _ (fu C) ⟨rfl,rfl⟩
 rw[ax (by rintro⟨n2,n3,n4⟩;rcases e2 with q|q|q;exact n2 q;exact n3 q;exact n4 q)];by_cases e3:C.bs.length=0
 .rw[aF e3];rcases e2 with rfl|rfl|rfl
  all_goals
   simp only[go_sem,cD];refine aA (cO C) (by simp only[go_sem]) (by simp only[go_sem]) (by simp only[go_sem]) (by simp only[go_sem]) (by simp only[go_sem]) (by simp only[go_sem]) ?_;simp only[go_sem,ar e1,aK (show(C.bs.length:Int)=0 by omega)];exact aM [] _ (fu C) ⟨rfl,rfl⟩
 rw[ax e3];have e3':¬(C.bs.length:Int)=0:=by omega
 rcases e2 with rfl|rfl|rfl;rotate_left 2
 .have kw:=oa C.s [1] (hLeft _ _ (by omega) (by omega) (by simp));obtain⟨b1,b2⟩:=gL C.s [1];generalize C.s.want [1]=R at kw b1 b2⊢;obtain⟨e,S1⟩:=R;dsimp only at kw b1 b2⊢;rw[aF rfl];by_cases e5:e=0;rotate_left
  .rw[aF e5];have kb:=pL {C with s:=S1} e;simp only[go_sem,cD];refine aA (cO C) (by simp only[go_sem]) (by simp only[go_sem]) (by simp only[go_sem]) (by simp only[go_sem]) (by simp only[go_sem]) (by simp only[go_sem]) ?_;simp only[go_sem,ar e1,ab e3'];refine bA (eZ.frzs [39] _ _) ?_;simp only[go_sem];refine aJ (kw) (by simp only[go_sem]) (by simp only[go_sem]) (by simp only[go_sem]) (by simp only[go_sem]) ?_;simp only[go_sem,aG e5];refine aA (kb) (by simp only[go_sem]) (by simp only[go_sem]) (by simp only[go_sem]) (by simp only[go_sem]) (by simp only[go_sem]) (by simp only[go_sem]) ?_;simp only[go_sem];exact done [] _ (fu (({C with s:=S1}:Ct).broke e).2) (by simp only[go_sem,Ct.broke]) (by simp only[go_sem,Ct.broke]) rfl ⟨rfl,rfl⟩
  rw[ax (λq=>q e5)];simp only[go_sem,cD];refine aA (cO C) (by simp only[go_sem]) (by simp only[go_sem]) (by simp only[go_sem]) (by simp only[go_sem]) (by simp only[go_sem]) (by simp only[go_sem]) ?_;simp only[go_sem,ar e1,ab e3'];refine bA (eZ.frzs [39] _ _) ?_;simp only[go_sem];refine aJ (kw) (by simp only[go_sem]) (by simp only[go_sem]) (by simp only[go_sem]) (by simp only[go_sem]) ?_;simp only[go_sem,ar e5];obtain⟨op',hop⟩:∃o:Int,o=4:=⟨_,rfl⟩
  rw[<-hop];have kp:=oa S1 t.ps (hLeft _ _ (by rw[b1];omega) (by omega) (by omega));obtain⟨b3,b4⟩:=gL S1 t.ps;unfold Ct.enter2;dsimp only;generalize S1.want t.ps=R at kp b3 b4⊢;obtain⟨e',S2⟩:=R;dsimp only at kp b3 b4⊢;refine aJ (kp) (by simp only[go_sem]) (by simp only[go_sem]) (by simp only[go_sem]) (by simp only[go_sem]) ?_;by_cases e6:e'=0;rotate_left
  .rw[aF e6];have kb':=pL {C with s:=S2} e';simp only[go_sem,aG e6];refine aA (kb') (by simp only[go_sem]) (by simp only[go_sem]) (by simp only[go_sem]) (by simp only[go_sem]) (by simp only[go_sem]) (by simp only[go_sem]) ?_;simp only[go_sem];exact done [] _ (fu (({C with s:=S2}:Ct).broke e').2) (by simp only[go_sem,Ct.broke]) (by simp only[go_sem,Ct.broke]) rfl ⟨rfl,rfl⟩
  rw[ax (λq=>q e6)];have kg:=Af {C with s:=S2} ⟨op',t,false,C.lv⟩ (by show S2.u.length<900000;rw[b3,b1];omega) (by show S2.all.length<900000;omega) (by show C.bs.length<900000;omega) (by show t.ps.length<900000;omega);simp only[oT]at kg;simp only[go_sem,ar e6];refine aL (jH (t.ps.map bg) (by rw[bP];omega)) (by simp[go_sem]) rfl ?_;simp only[go_sem];refine aa (jH (t.rs.map bg) (by rw[bP];omega)) ?_;refine aA (kg) (by simp only[go_sem]) (by simp only[go_sem]) (by simp only[go_sem]) (by simp only[go_sem]) (by simp only[go_sem]) (by simp only[go_sem]) ?_;simp only[go_sem];exact aM [] _ (fu (({C with s:=S2}:Ct).begin ⟨op',t,false,C.lv⟩)) ⟨rfl,rfl⟩
 all_goals
  rw[ax (by decide)];simp only[go_sem,cD];refine aA (cO C) (by simp only[go_sem]) (by simp only[go_sem]) (by simp only[go_sem]) (by simp only[go_sem]) (by simp only[go_sem]) (by simp only[go_sem]) ?_;simp only[go_sem,ar e1,ab e3'];obtain⟨S1,hS⟩:∃S1,S1=C.s:=⟨_,rfl⟩
  obtain⟨b1,b2⟩:S1.u=C.s.u/\S1.all.length<=C.s.all.length:=by rw[hS];exact⟨rfl,aN _⟩
  rw[<-hS]
  first
   | rw[show C.enter2 2 t=({C with s:=S1}:Ct).enter2 2 t by rw[hS]]
     obtain⟨op',hop⟩:∃o:Int,o=2:=⟨_,rfl⟩
     rw[<-hop];have kp:=oa S1 t.ps (hLeft _ _ (by rw[b1];omega) (by omega) (by omega));obtain⟨b3,b4⟩:=gL S1 t.ps;unfold Ct.enter2;dsimp only;generalize S1.want t.ps=R at kp b3 b4⊢;obtain⟨e',S2⟩:=R;dsimp only at kp b3 b4⊢;refine aJ (kp) (by simp only[go_sem]) (by simp only[go_sem]) (by simp only[go_sem]) (by simp only[go_sem]) ?_;by_cases e6:e'=0;rotate_left
     .rw[aF e6];have kb':=pL {C with s:=S2} e';simp only[go_sem,aG e6];refine aA (kb') (by simp only[go_sem]) (by simp only[go_sem]) (by simp only[go_sem]) (by simp only[go_sem]) (by simp only[go_sem]) (by simp only[go_sem]) ?_;simp only[go_sem];exact done [] _ (fu (({C with s:=S2}:Ct).broke e').2) (by simp only[go_sem,Ct.broke]) (by simp only[go_sem,Ct.broke]) rfl ⟨rfl,rfl⟩
     rw[ax (λq=>q e6)];have kg:=Af {C with s:=S2} ⟨op',t,false,C.lv⟩ (by show S2.u.length<900000;rw[b3,b1];omega) (by show S2.all.length<900000;omega) (by show C.bs.length<900000;omega) (by show t.ps.length<900000;omega);simp only[oT]at kg;simp only[go_sem,ar e6];refine aL (jH (t.ps.map bg) (by rw[bP];omega)) (by simp[go_sem]) rfl ?_;simp only[go_sem];refine aa (jH (t.rs.map bg) (by rw[bP];omega)) ?_;refine aA (kg) (by simp only[go_sem]) (by simp only[go_sem]) (by simp only[go_sem]) (by simp only[go_sem]) (by simp only[go_sem]) (by simp only[go_sem]) ?_;simp only[go_sem];exact aM [] _ (fu (({C with s:=S2}:Ct).begin ⟨op',t,false,C.lv⟩)) ⟨rfl,rfl⟩
   | rw[show C.enter2 3 t=({C with s:=S1}:Ct).enter2 3 t by rw[hS]]
     obtain⟨op',hop⟩:∃o:Int,o=3:=⟨_,rfl⟩
     rw[<-hop];have kp:=oa S1 t.ps (hLeft _ _ (by rw[b1];omega) (by omega) (by omega));obtain⟨b3,b4⟩:=gL S1 t.ps;unfold Ct.enter2;dsimp only;generalize S1.want t.ps=R at kp b3 b4⊢;obtain⟨e',S2⟩:=R;dsimp only at kp b3 b4⊢;refine aJ (kp) (by simp only[go_sem]) (by simp only[go_sem]) (by simp only[go_sem]) (by simp only[go_sem]) ?_;by_cases e6:e'=0;rotate_left
     .rw[aF e6];have kb':=pL {C with s:=S2} e';simp only[go_sem,aG e6];refine aA (kb') (by simp only[go_sem]) (by simp only[go_sem]) (by simp only[go_sem]) (by simp only[go_sem]) (by simp only[go_sem]) (by simp only[go_sem]) ?_;simp only[go_sem];exact done [] _ (fu (({C with s:=S2}:Ct).broke e').2) (by simp only[go_sem,Ct.broke]) (by simp only[go_sem,Ct.broke]) rfl ⟨rfl,rfl⟩
     rw[ax (λq=>q e6)];have kg:=Af {C with s:=S2} ⟨op',t,false,C.lv⟩ (by show S2.u.length<900000;rw[b3,b1];omega) (by show S2.all.length<900000;omega) (by show C.bs.length<900000;omega) (by show t.ps.length<900000;omega);simp only[oT]at kg;simp only[go_sem,ar e6];refine aL (jH (t.ps.map bg) (by rw[bP];omega)) (by simp[go_sem]) rfl ?_;simp only[go_sem];refine aa (jH (t.rs.map bg) (by rw[bP];omega)) ?_;refine aA (kg) (by simp only[go_sem]) (by simp only[go_sem]) (by simp only[go_sem]) (by simp only[go_sem]) (by simp only[go_sem]) (by simp only[go_sem]) ?_;simp only[go_sem];exact aM [] _ (fu (({C with s:=S2}:Ct).begin ⟨op',t,false,C.lv⟩)) ⟨rfl,rfl⟩
def JV(C:Ct)(h:E9 900000 C)(i:Int):DS th [.int .i64 i] C (.tup [.sl 1 ((C.label i).1.map bg),.int .i64 (C.label i).2]) C:=by
 refine dj dx ?_;have hb:=h.b;unfold Ct.label;by_cases e1:C.br=0;rotate_left
 .rw[aF e1];simp only[go_sem,dx];refine aA (cO C) (by simp only[go_sem]) (by simp only[go_sem]) (by simp only[go_sem]) (by simp only[go_sem]) (by simp only[go_sem]) (by simp only[go_sem]) ?_;simp only[go_sem,aG e1];exact sH (Wk.nls _ 4 1 (by rfl)) [] _ (fu C) (by simp only[go_sem]) (by simp only[go_sem]) rfl ⟨rfl,rfl⟩
 rw[ax (λq=>q e1)];by_cases e2:i<0
 .rw[aF (.inl e2)];simp only[go_sem,dx];refine aA (cO C) (by simp only[go_sem]) (by simp only[go_sem]) (by simp only[go_sem]) (by simp only[go_sem]) (by simp only[go_sem]) (by simp only[go_sem]) ?_;simp only[go_sem,ar e1,aw e2];exact sH (Wk.nls _ 4 1 (by rfl)) [] _ (fu C) (by simp only[go_sem]) (by simp only[go_sem]) rfl ⟨rfl,rfl⟩
 by_cases e3:i>=C.bs.length
 .rw[aF (.inr e3)];simp only[go_sem,dx];refine aA (cO C) (by simp only[go_sem]) (by simp only[go_sem]) (by simp only[go_sem]) (by simp only[go_sem]) (by simp only[go_sem]) (by simp only[go_sem]) ?_;simp only[go_sem,ar e1,aC e2,aw e3];exact sH (Wk.nls _ 4 1 (by rfl)) [] _ (fu C) (by simp only[go_sem]) (by simp only[go_sem]) rfl ⟨rfl,rfl⟩
 rw[ax (by omega)];obtain⟨n,rfl⟩:∃n:Nat,i=(n:Int):=⟨i.toNat,by omega⟩
 have hn:n<C.bs.length:=by omega
 have w1:IntKind.i64.wrap ((C.bs.length:Int)-1)=((C.bs.length-1:Nat):Int):=by rw[wi (by omega) (by omega)];omega
 have w2:IntKind.i64.wrap (((C.bs.length-1:Nat):Int)-n)=((C.bs.length-1-n:Nat):Int):=by rw[wi (by omega) (by omega)];omega
 rw[cY];have hm:=h.t (ap C.bs (C.bs.length-1-n)) (by rw[aV (by omega)];exact gO _);generalize hB:ap C.bs (C.bs.length-1-n)=B at hm⊢;simp only[go_sem,dx];refine aA (cO C) (by simp only[go_sem]) (by simp only[go_sem]) (by simp only[go_sem]) (by simp only[go_sem]) (by simp only[go_sem]) (by simp only[go_sem]) ?_;simp only[go_sem,ar e1,aC e2,aC e3,w1,w2,cY,ga,hB];refine⟨⟨by omega,by omega⟩,by omega,?_⟩;by_cases e4:B.k=3
 .rw[aF e4];simp only[go_sem,aK e4];refine aa (jH (B.t.ps.map bg) (by rw[bP];omega)) ?_;exact aM [] _ (fu C) ⟨rfl,rfl⟩
 .rw[ax e4];simp only[go_sem,ab e4];refine aa (jH (B.t.rs.map bg) (by rw[bP];omega)) ?_;exact aM [] _ (fu C) ⟨rfl,rfl⟩
def Yk(C:Ct)(h:E9 900000 C):DS rS [] C (.sl 1 (C.retn.map bg)) C:=by
 refine dj gq ?_;have hr:=h.r;unfold Ct.retn;by_cases e1:C.br=0;rotate_left
 .rw[aF e1];simp only[go_sem,gq];refine aA (cO C) (by simp only[go_sem]) (by simp only[go_sem]) (by simp only[go_sem]) (by simp only[go_sem]) (by simp only[go_sem]) (by simp only[go_sem]) ?_;simp only[go_sem,aG e1];exact sH (Wk.nls _ 2 1 (by rfl)) [] _ (fu C) (by simp only[go_sem]) (by simp only[go_sem]) rfl ⟨rfl,rfl⟩
 rw[ax (λq=>q e1)];simp only[go_sem,gq];refine aA (cO C) (by simp only[go_sem]) (by simp only[go_sem]) (by simp only[go_sem]) (by simp only[go_sem]) (by simp only[go_sem]) (by simp only[go_sem]) ?_;simp only[go_sem,ar e1];refine aa (jH (C.rs.map bg) (by rw[bP];omega)) ?_;exact aM [] _ (fu C) ⟨rfl,rfl⟩
end
section
open Go.RowKit Go.Shelf
attribute[local go_sem] bP pm Zj
def acz(S:Sk)(hb:S.u.length<1000000):ah pg m_ [FK S] (.ip [.int .i64 ((bW S.u).length:Int),.bool S.t.lo]):=by
 refine au fF ?_;have hw:=xx S hb;have hl:=dG (S.t::S.u);have e1:ap (cw (S.t::S.u)) S.u.length=(((bW S.u).length:Int),S.t.lo):=pf _ _ (dG _).symm;simp only[j1]at hl;simp only[go_sem,fF,hw,cY,e1];refine⟨by omega,by omega,?_⟩;exact ac
def ZH(l:List (List AV)):ah pg 446 [.sl 1 l] (.fn 468 [.ip [.sl 1 l]]):=by
 refine au dR ?_;simp only[go_sem,dR];refine gM (Wk.unrec _ 1 (r:=[.sl 1 l]) (by rfl) (λx hx=>by rw[eF.1 hx];exact⟨rfl,rfl⟩)) [1] (by rfl) (by rfl)
def lc0:Code:=match Tryz.f418.body with
 | some (.seq x _)=>x
 | _=>.skip
def lc1:Code:=match Tryz.f418.body with
 | some (.seq _ (.seq x _))=>x
 | _=>.skip
def LM(d:Nat)(op:lR):bj:={dst:=some d,op:=op,g:=none}
def Pi:bF:=.reg [LM 2 (.box 316 1 (.s 0)),LM 4 (.new 3 [.int .i64 0]),LM 5 (.new 97 [.int .i64 0])] []
def LJ:bF :=
 (bF.draw [⟨LM 11 (.load none (.s 2)),[]⟩,⟨LM 12 (.nchk (.s 11)),[0]⟩,⟨LM 13 (.fadr 0 (.s 12)),[1,0]⟩,⟨LM 14 (.load none (.s 13)),[2,1,0]⟩,
  ⟨LM 15 (.len (.s 14)),[3,2,1,0]⟩,⟨LM 16 (.load none (.s 2)),[]⟩,⟨LM 17 (.call 419 [.s 16]),[5]⟩,⟨LM 6 (.new 3 [.int .i64 0]),[]⟩,
  ⟨LM 7 (.new 451 [.np]),[]⟩] [(17,6),(6,7),(7,8)] []).seq
 ((bF.reg [{dst:=none,op:=.store 1 (.s 6) (.s 15),g:=none}] []).seq
 (bF.reg [{dst:=none,op:=.store 1 (.s 7) (.s 17),g:=none}] [11,12,13,14,15,16,17]))
def abK:comp pg 54 [[2,4,5,6,7],[2,4,5,6,7]] lc0=some Pi:=by rfl
def abL:comp pg 54 [[2,4,5,6,7],[2,4,5,6,7]] lc1=some LJ:=by rfl
abbrev Mf(t:TypeId)(x:AV):aj:=⟨t,1,[[x]],true⟩
def V_(S:Sk)(l:List Int)(e:IX)(s:St):Prop:=e = .nrm/\get s.env 1 = .sl 1 (l.map bg) /\
 (get s.env 2 = .mp 2 1 0 0/\ae s.heap 2=some (Mf 316 (FK S)))/\(get s.env 4 = .mp 4 1 0 0/\ae s.heap 4=some (Mf 3 (.int .i64 0))) /\
 (get s.env 5 = .mp 5 1 0 0/\ae s.heap 5=some (Mf 97 (.int .i64 0)))/\(get s.env 6 = .mp 6 1 0 0/\ae s.heap 6=some (Mf 3 (.int .i64 S.all.length))) /\
 (get s.env 7 = .mp 7 1 0 0/\ae s.heap 7=some (Mf 451 (.ip [.int .i64 ((bW S.u).length:Int),.bool S.t.lo])))
def Po(S:Sk)(l:List Int)(hb:S.u.length<1000000):lz pg Pi ⟨fW 0 [FK S,.sl 1 (l.map bg)],[]⟩ (λe s=>e = .nrm/\lz pg LJ s (V_ S l)):=by
 have hw:=xx S hb;have hl:=dG (S.t::S.u);have k1:=acz S hb;rw[pm]at k1;simp only[go_sem,Pi,LJ,LM,FK,true_and];refine aL k1 (by simp[go_sem]) rfl ?_;simp only[go_sem];exact⟨rfl,rfl,⟨rfl,rfl⟩,⟨rfl,rfl⟩,⟨rfl,rfl⟩,⟨rfl,rfl⟩,rfl,rfl⟩
def C8(bl:Nat->Option Nat)(M:Nat->Prop)(a:Act)(w:World)(k:Nat)(t:TypeId)(x:AV)(b:Nat):Prop :=
 tv a k = .pointer (some ⟨b,0,none⟩)/\M b/\∃cc fr v,w.heap[b]?=some (.cells cc t fr)/\eD cc fr/\cc[0]?=some v/\bV bl M w v x
def AE{c:qL}{bl:Nat->Option Nat}{g:Nat->AV}{h:Nat->Option aj}{a:Act}{w:World}(hs:aH c bl g h a w){k:Nat}{t:TypeId}{x:AV}(hk:g k = .mp k 1 0 0)(ho:h k=some (Mf t x)) :
  ∃b,bl k=some b/\C8 bl (bz bl c.MF h) a w k t x b:=by
 have he:=hs.env k;rw[hk]at he;obtain⟨b,hb,hv⟩:=(he:∃b,bl k=some b/\tv a k = .pointer (some ⟨b,0*1+0,none⟩))
 refine⟨b,hb,hv,.inr ⟨k,_,ho,hb⟩,?_⟩;rcases hs.heap.1 k _ ho with⟨h1,_⟩|⟨b',hb',hO⟩
 .cases h1
 .rw[hb]at hb';cases hb';rcases hO with⟨_,cc,fr,h1,h2,_,_,_,h3⟩|hO
  .obtain⟨v,h4,h5⟩:=h3 0 0 [x] x rfl rfl;exact⟨cc,fr,v,h1,h2,h4,h5⟩
  .exact absurd hO.rows (by simp)
