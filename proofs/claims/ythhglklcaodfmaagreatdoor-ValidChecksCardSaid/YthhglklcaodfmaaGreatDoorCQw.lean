import Derived.Test.YthhglklcaodfmaaGreatDoorCQv
set_option linter.all false
set_option maxRecDepth 100000
set_option maxHeartbeats 40000000
namespace Go.Proofs.YthhglklcaodfmaaGreatDoor
section
open Go Go.Mw
attribute[local go_sem high] PB LM LN LI LO LH LP LJ
def A9(op:Int):aj pg Ew [.int .i64 op] (.bool (Fx op)):=by
 refine ao uc ?_;simp only[uc,go_sem];refine⟨λh=>aq [] ?_ rfl,λh=>⟨λh2=>aq [] ?_ rfl,λh2=>aq [] ?_ rfl⟩⟩ <;>
  simp[go_sem,Fx, *]
def EK(B:List bj)(m:Nat)(hm:m<=B.length)(hn:B.length<1000000):aj pg Gt [.sl 9 (B.map cQ),.int .i64 m] (.sl 1 ((bh B m).map ri)):=by
 refine ao w_ ?_;simp only[w_,go_sem];refine aA (λq:Nat×List Int=>⟨[(6,.int .i64 q.1),(5,.ms 7 1 0 (bh B q.1).length),(0,.sl 9 (B.map cQ)),(1,.int .i64 m)],[(7,⟨3,1,(bh B q.1++q.2).map ri,false⟩)]⟩) (λq=>q.1<=m) (λq=>m-q.1) (0,[]) (dx _) (Wk.of ?_ ?_) ?_
 .simp[go_sem,bh]
 .simp[go_sem,bh]
 rintro⟨i,J⟩ hi;have hl:=uV B i;simp only[go_sem]at hi⊢;refine⟨λh=>⟨by omega,by omega,cI (A9 _) (by simp[go_sem]) ?_⟩,λh=>aq [7] ?_ rfl⟩
 .simp only[go_sem,G0 7 3 1 (bh B i).length ri (bh B i++J) _ (by simp)];refine⟨λhb=>⟨by omega,by omega,by omega,λh11=>?_,λh11=>aH (i+1,[]) (show i+1<=m by omega) (show m-(i+1)<m-i by omega) (Wk.of ?_ ?_)⟩,λhb=>⟨by omega,by omega,λh11=>⟨λhp=>⟨?_,aH (i+1,(bh B i).drop ((bh B i).length-1)++J) (show i+1<=m by omega) (show m-(i+1)<m-i by omega) (Wk.of ?_ ?_)⟩,λhp=>aH (i+1,J) (show i+1<=m by omega) (show m-(i+1)<m-i by omega) (Wk.of ?_ ?_)⟩,λh11=>aH (i+1,J) (show i+1<=m by omega) (show m-(i+1)<m-i by omega) (Wk.of ?_ ?_)⟩⟩
  .simp[Fx]at hb h11;omega
  .simp[go_sem,wi (n:=i+1) (by omega) (by omega),bh,ql,hb]
  .simp[go_sem,bh,ql,hb]
  .rw[wi (by omega) (by omega)];omega
  .simp[go_sem,wi (n:=i+1) (by omega) (by omega),wi (n:=(bh B i).length-1) (by omega) (by omega),bh,ql,hb,h11]
  .simp[go_sem,bh,ql,hb,h11,List.dropLast_eq_take];rw[<-vk,<-dY,XW,dY]
  .have h0:bh B i=[]:=Sv (by omega);simp[go_sem,wi (n:=i+1) (by omega) (by omega),bh,ql,hb,h11,h0]
  .have h0:bh B i=[]:=Sv (by omega);simp[go_sem,bh,ql,hb,h11,h0]
  .simp[go_sem,wi (n:=i+1) (by omega) (by omega),bh,ql,hb,h11]
  .simp[go_sem,bh,ql,hb,h11]
 .have:i=m:=by omega
  subst this;simp[go_sem]
def Rz{B:List bj}{h:Int}{i m:Nat}(hi:i<=m)(he:rp B h i=true):rp B h m=true:=by
 simp only[rp,vp,List.mem_range]at he⊢;obtain⟨j,h1,h2⟩:=he;exact⟨j,by omega,h2⟩
def V5(B:List bj)(h':Int)(m:Nat)(h1:-1<=h')(h2:h'<m)(hm:m<=B.length)(hn:B.length<1000000):aj pg Gs [.sl 9 (B.map cQ),.int .i64 h',.int .i64 m] (.bool (rp B h' m)):=by
 refine ao w9 ?_;simp only[w9,go_sem,wi (n:=h'+1) (by omega) (by omega)];refine aA (λi:Nat=>⟨[(7,.int .i64 i),(0,.sl 9 (B.map cQ)),(1,.int .i64 h'),(2,.int .i64 m),(6,.bool false)],[]⟩) (λi=>h'<i/\i<=m/\rp B h' i=false) (λi=>m-i) (h'+1).toNat ⟨by omega,by omega,?_⟩ (Wk.of ?_ ?_) ?_
 .simp only[rp,MD];intro j hj;simp at hj⊢;omega
 .simp[go_sem];omega
 .simp[go_sem]
 rintro i ⟨hi,him,he⟩;have hl:=uV B i;simp only[go_sem];refine⟨λh=>cI (EK B i (by omega) hn) (by simp[go_sem]) ?_,λh=>aq [] ?_ rfl⟩
 .have hw:(IntKind.i64.wrap (↑(bh B i).length-1))=((bh B i).length:Int)-1:=wi (by omega) (by omega);have hnt:((bh B i).length-1:Int).toNat=(bh B i).length-1:=by omega
  simp only[go_sem,hw,hnt];have hstep:=vA B h' i;refine⟨by omega,by omega,λh5=>⟨λhp=>⟨by omega,by omega,λhh=>aq [] ?_ rfl,λhh=>?_⟩,λhp=>?_⟩,λh5=>?_⟩
  .have:rp B h' m=true:=by
    refine Rz (i:=i+1) (by omega) ?_;rw[hstep,he,h5];simp only[ym];simp[hh,hi];omega
   simp[go_sem,this]
  all_goals refine aH (i+1) ⟨by omega,by omega,?_⟩ (by omega) (Wk.of (by simp[go_sem,wi (n:=i+1) (by omega) (by omega)]) (by simp[go_sem]))
  .rw[hstep,he];simp only[ym];simp[hh]
  .rw[hstep,he];simp;omega
  .rw[hstep,he,h5];simp
 .have:i=m:=by omega
  subst this;simp[go_sem,he]
def RA(B:List bj)(hn:B.length<1000000):aj pg Gr [.sl 9 (B.map cQ)] (.tup [.int .i64 (nchk B).1,.int .i64 (nchk B).2]):=by
 refine ao w8 ?_;simp only[w8,go_sem];refine aA (λi:Nat=>⟨[(4,.int .i64 i),(0,.sl 9 (B.map cQ))],[]⟩) (λi=>i<=B.length/\∀j,j<i->gB B j=0) (λi=>B.length-i) 0 ⟨dx _,λj hj=>absurd hj (Nat.not_lt_zero _)⟩ (Wk.of ?_ ?_) ?_
 .simp[go_sem]
 .simp[go_sem]
 rintro i ⟨hi,he⟩;replace hi:i<=B.length:=hi;have hl:=uV B i;have hne:∀j,j<i->0<(bh B j).length:=λj hj=>Py (he j hj);have hw:(IntKind.i64.wrap (↑(bh B i).length-1))=((bh B i).length:Int)-1:=wi (by omega) (by omega);have hnt:((bh B i).length-1:Int).toNat=(bh B i).length-1:=by omega
 have hhd:av (bh B i) ((bh B i).length-1)=ym B i:=rfl;simp only[go_sem];refine⟨λh=>cI (EK B i (by omega) hn) (by simp[go_sem]) ?_,λh=>cI (EK B B.length (by omega) hn) (by simp[go_sem]) ?_⟩
 .simp only[go_sem,hw,hnt,hhd];have h':i<B.length:=by omega
  refine⟨λh0=>aq [] ?_ rfl,λh0=>?_⟩
  .have h0':(bh B i).length=0:=by simp at h0;simp[h0]
   have h16:gB B i=16:=by simp only[gB,h0',dR]
   rw[vy h' he (by rw[h16];decide),h16];simp[go_sem]
  .have h0':0<(bh B i).length:=by simp at h0;cases hr:bh B i with|nil=>exact absurd hr h0|cons=>simp
   obtain⟨hb1,hb2⟩:=EI hne h0';refine⟨by omega,by omega,by omega,by omega,?_⟩;have h16:cD B i=true->gB B i=16:=λhb=>by simp only[gB,hb,an (Nat.ne_of_gt h0'),dR]
   have h00:cD B i=false->(Fx (av B i).op&&decide (32<=(bh B i).length))=false->gB B i=0:=λhb hc=>by simp only[gB,hb,hc,an (Nat.ne_of_gt h0')];rfl
   have h6:cD B i=false->(Fx (av B i).op&&decide (32<=(bh B i).length))=true->gB B i=6:=λhb hc=>by simp only[gB,hb,hc,an (Nat.ne_of_gt h0')];rfl
   have hsucc:gB B i=0->∀j,j<i+1->gB B j=0:=λh0 j hj=>by
    rcases Nat.lt_or_eq_of_le (Nat.le_of_lt_succ hj)with h1|h1
    .exact he j h1
    .rw[h1];exact h0
   have hp16:cD B i=true->nchk B=((i:Int),16):=λhb=>by rw[vy h' he (by rw[h16 hb];decide),h16 hb]
   refine⟨λh5=>⟨λhneg=>aq [] ?_ rfl,λhneg=>⟨by omega,by omega,λh4=>aq [] ?_ rfl,λh4=>cI (V5 B (ym B i) i (by omega) (by omega) (by omega) hn) (by simp[go_sem]) ?_⟩⟩,λh5=>?_⟩
   .rw[hp16 (by simp[cD,h5,hneg])];simp[go_sem]
   .rw[hp16 (by simp[cD,h5,h4])];simp[go_sem]
   .simp only[go_sem];refine⟨λhel=>aq [] ?_ rfl,λhel=>⟨by omega,by omega,cI (A9 _) (by simp[go_sem]) ?_⟩⟩
    .rw[hp16 (by simp[cD,h5,hel])];simp[go_sem]
    .have hbe:cD B i=false:=by simp[cD,h4,hel];intro _;omega
     simp only[go_sem];refine⟨λhb=>⟨λh32=>aq [] ?_ rfl,λh32=>aH (i+1) ⟨by omega,hsucc (h00 hbe ?_)⟩ (by omega) (Wk.of ?_ ?_)⟩,λhb=>aH (i+1) ⟨by omega,hsucc (h00 hbe ?_)⟩ (by omega) (Wk.of ?_ ?_)⟩
     .have:=h6 hbe (by simp[hb];omega);rw[vy h' he (by rw[this];decide),this];simp[go_sem]
     .simp;omega
     .simp[go_sem,wi (n:=i+1) (by omega) (by omega)]
     .simp[go_sem]
     .simp[hb]
     .simp[go_sem,wi (n:=i+1) (by omega) (by omega)]
     .simp[go_sem]
   .refine⟨by omega,by omega,cI (A9 _) (by simp[go_sem]) ?_⟩;have hbe:cD B i=false:=by simp[cD,h5]
    simp only[go_sem];refine⟨λhb=>⟨λh32=>aq [] ?_ rfl,λh32=>aH (i+1) ⟨by omega,hsucc (h00 hbe ?_)⟩ (by omega) (Wk.of ?_ ?_)⟩,λhb=>aH (i+1) ⟨by omega,hsucc (h00 hbe ?_)⟩ (by omega) (Wk.of ?_ ?_)⟩
    .have:=h6 hbe (by simp[hb];omega);rw[vy h' he (by rw[this];decide),this];simp[go_sem]
    .simp;omega
    .simp[go_sem,wi (n:=i+1) (by omega) (by omega)]
    .simp[go_sem]
    .simp[hb]
    .simp[go_sem,wi (n:=i+1) (by omega) (by omega)]
    .simp[go_sem]
 .have:i=B.length:=by omega
  subst this;simp only[go_sem];rw[LE he];refine⟨λh0=>aq [] ?_ rfl,λh0=>aq [] ?_ rfl⟩
  .rw[az (by omega)];simp[go_sem]
  .rw[an (by omega)];simp[go_sem]
end
section
open Go Go.Mw
def bpC(p:Bool×List Int):List AV:=[.bool p.1,.sl 1 (p.2.map aS)]
def ahG(p:Bool×List Int):bpC p=[.bool p.1,.sl 1 (p.2.map aS)]:=rfl
def ZD:bC->Nat
 | .reg (o::_) _=>o.dst.getD 0
 | _=>0
def oz(n:Nat):bC->bC
 | .seq x y=>if ZD x=n then .cut x y else .seq (oz n x) (oz n y)
 | .cond c x y=>.cond c (oz n x) (oz n y)
 | .block id x=>.block id (oz n x)
 | .loop x=>.loop (oz n x)
 | x=>x
def ZE(d:Nat)(op:ln)(g:Option (Nat×Bool))(r:List bH)(dr:List Nat):ZD (.reg (⟨some d,op,g⟩::r) dr)=d:=rfl
def Uq(op:ln)(g:Option (Nat×Bool))(r:List bH)(dr:List Nat):ZD (.reg (⟨none,op,g⟩::r) dr)=0:=rfl
def Ur:ZD .skip=0:=rfl
def ZF(x y:bC):ZD (.seq x y)=0:=rfl
def Uo(c:IV)(x y:bC):ZD (.cond c x y)=0:=rfl
def Q8(i:Nat)(x:bC):ZD (.block i x)=0:=rfl
def Up(ops:List aJ)(al:List (Nat×Nat))(dr:List Nat):ZD (.draw ops al dr)=0:=rfl
def TV(n:Nat)(x y:bC):oz n (.seq x y)=if ZD x=n then .cut x y else .seq (oz n x) (oz n y):=rfl
def QN(n:Nat)(c:IV)(x y:bC):oz n (.cond c x y) = .cond c (oz n x) (oz n y):=rfl
def M6(n i:Nat)(x:bC):oz n (.block i x) = .block i (oz n x):=rfl
def QQ(n:Nat)(x:bC):oz n (.loop x) = .loop (oz n x):=rfl
def QR(n:Nat):oz n .skip = .skip:=rfl
def TU(n:Nat):oz n .ret = .ret:=rfl
def QP(n i:Nat):oz n (.exit i) = .exit i:=rfl
def TT(n:Nat)(ops:List bH)(dr:List Nat):oz n (.reg ops dr) = .reg ops dr:=rfl
def QO(n:Nat)(ops:List aJ)(al:List (Nat×Nat))(dr:List Nat):oz n (.draw ops al dr) = .draw ops al dr:=rfl
attribute[local go_sem] ZE Uq Ur ZF Uo Q8 Up TV QN M6 QQ QR TU QP TT QO Z4
attribute[local go_sem] bY cN fC fg aW bV aM eY cQ zn zo ahG
def acQ(m:Md)(n:Nat)(hts:m.ts.length<=10000)(hn:n<m.fs.length)(hl:m.fs.length<=9000000):aj pg Lu [ba m,.int .i64 n] (.tup [.agg (pt ((cx m.ts (av m.fs n).t).getD default)),.bool (cx m.ts (av m.fs n).t).isSome]):=by
 refine ao BM ?_;have c1:=C6 m (av m.fs n).t hts;have h0:¬((n:Int)<0):=by omega
 have h1:¬((n:Int)>=(m.fs.length:Int)):=by omega
 have h2:(n:Int)<(m.fs.length:Int):=by omega
 simp only[ba,aM,aW]at c1;simp only[go_sem,BM,ba,aI h0,aI h1,cL];refine⟨by omega,h2,?_⟩;refine aa (c1) ?_;exact ah
def WG(m:Md)(n:Nat)(hts:m.ts.length<=10000)(hty:∀x∈m.ts,x.ps.length<=100/\x.rs.length<=100)(hn:n<m.fs.length)(hl:m.fs.length<=9000000)(hlo:(av m.fs n).lo.length<=1000000):aj pg EC [ba m,.int .i64 n]
  (.tup [.sl 1 ((match cx m.ts (av m.fs n).t with|some t=>t.ps++(av m.fs n).lo|none=>[]).map aS),.bool (cx m.ts (av m.fs n).t).isSome]):=by
 refine ao ui ?_;have c1:=acQ m n hts hn hl;have h2:(n:Int)<(m.fs.length:Int):=by omega
 have hb:=λf=>Sl (s:=bO m) hty (av m.fs n).t (f:=f);rw[show(bO m).ty (av m.fs n).t=cx m.ts (av m.fs n).t from rfl]at hb;generalize cx m.ts (av m.fs n).t=q at c1 hb⊢;simp only[aW,ba,aM]at c1;simp only[go_sem,ui,ba];refine ae (c1) ?_;cases q with
 | none =>
  simp only[go_sem,Option.isSome_none];exact dB (Wk.nls _ 4 1 (by rfl)) [] (by rfl) rfl
 | some f =>
  obtain⟨hb1,hb2⟩:=hb f rfl;have ha:=cC 20 48 1 f.ps.length aS f.ps ((av m.fs n).lo.map aS) rfl;have et:(f.ps.map aS++(av m.fs n).lo.map aS).take (f.ps.length+(av m.fs n).lo.length)=(f.ps++(av m.fs n).lo).map aS:=by
   rw[iF (by simp),dY]
  simp only[go_sem,Option.isSome_some,cG];simp only[go_sem,ha,cL];refine⟨by omega,by omega,h2,⟨by omega,by omega⟩,?_⟩;exact aq [20] (by simp only[go_sem,et,aQ,fo,dk,dN]) (by rfl)
def Sh(s:Sp)(lo:List Int):List bj->Ct->List (Bool×List Int)->List (Bool×List Int)
 | [],_,acc=>acc
 | x::r,c,acc=>Sh s lo r (fE c s lo x).2 (acc++[(c.bs.length==0||c.lv,c.s.all)])
def aes(s:Sp)(f:Cd)(T:Int×Int):List (Bool×List Int):=if T.2≠0 then[]else match s.ty f.t with|none=>[]|some t=>Sh s (t.ps++f.lo) f.b (BY t.rs) []
def af8(m:Md)(n:Nat)(hb:B_ m)(hds:m.ds.length<=10000)(hty:rK (bO m))(hn:n<m.fs.length)(hf:bdB (av m.fs n)):aj pg Jd [ba m,.int .i64 n]
  (.tup [.sl 2 ((aes (bO m) (av m.fs n) (iw m (bO m) (av m.fs n))).map bpC),.int .i64 (iw m (bO m) (av m.fs n)).1,.int .i64 (iw m (bO m) (av m.fs n)).2]):=by
 refine cE (ic:=oz 58 qS.body) fD (cF qS) rfl rfl ?_;have hl:m.fs.length<=9000000:=by have:=hb.fs;omega
 have c1:=acQ m n hb.ts hn hl;have c2:=WG m n hb.ts hty hn hl (by have:=hf.lo;omega);have h2:(n:Int)<(m.fs.length:Int):=by omega
 have hty2:=λt=>Sl hty (av m.fs n).t (f:=t);have cn:=RA (av m.fs n).b (by have:=hf.b;omega);have hrap:=λ(lo:List Int)(x:bj)(C:Ct)(mo:Int)=>abc m lo x C mo;rw[show cx m.ts (av m.fs n).t=(bO m).ty (av m.fs n).t from rfl]at c1 c2;obtain⟨T,hT⟩:∃T,iw m (bO m) (av m.fs n)=T:=⟨_,rfl⟩
 rw[hT];unfold iw at hT;obtain⟨Z,hZ⟩:∃Z,aes (bO m) (av m.fs n) T=Z:=⟨_,rfl⟩
 rw[hZ];unfold aes at hZ;have hgr:=λ{k:Nat}{C:Ct}(h:vu k C)(lo:List Int)(x:bj)=>O5 h (bO m) hty lo x;have hinv:=λ{C:Ct}(lo:List Int)(x:bj)(hb:C.br=0)(h:RH C)=>ahl (bO m) lo x hb h;generalize hS:bO m=s at*;generalize s.ty (av m.fs n).t=q at c1 c2 hT hZ hty2;simp only[aW,ba,aM]at c1 c2 hrap;simp only[go_sem,qS,ba];refine ae (c2) ?_;cases q with
 | none =>
  dsimp only at hT;subst hT;rw[az (by decide)]at hZ;subst hZ;simp only[go_sem,Option.isSome_none];exact dB (Wk.nls _ 4 2 (by rfl)) [] (by rfl) rfl
 | some t =>
  dsimp only at hT hZ c2;obtain⟨ht1,ht2⟩:=hty2 t rfl;simp only[Option.isSome_some,cG]at c1;have hlo:=hf.lo;have hbl:=hf.b;have hbi:=hf.i;generalize hF:av m.fs n=F at*;obtain⟨lo,hloE⟩:∃lo,t.ps++F.lo=lo:=⟨_,rfl⟩
  have hlol:lo.length<=200:=by rw[<-hloE,dN];omega
  rw[hloE]at hT hZ;simp only[go_sem,Option.isSome_some,hloE];refine ae (c1) ?_;simp only[go_sem,cL,hF];refine⟨by omega,h2,?_⟩;refine ae (cn) ?_;by_cases e1:(nchk F.b).2=0;rotate_left
  .rw[az e1]at hT;subst hT;rw[az e1]at hZ;subst hZ;simp only[go_sem,aE e1];exact dB (Wk.nls _ 4 2 (by rfl)) [] (by rfl) (by rfl)
  rw[an (λq=>q e1)]at hT;have cc:=Wz t.rs;simp only[cN]at cc;simp only[go_sem,ay e1];refine aa (cc) ?_;refine aA (λq:Nat×Ct×Int×List (Bool×List Int)=>⟨[(16,.int .i64 q.1),(15,.ms 900 2 0 q.2.2.2.length),(14,.mp 14 7 0 0),(11,.sl 9 (F.b.map cQ)),(7,.sl 1 (lo.map aS)),(2,.mp 2 12 0 0)],[(900,⟨240,2,q.2.2.2.map bpC,false⟩),(14,⟨236,7,[ou q.2.1 q.2.2.1],true⟩),(2,⟨33,12,[nX m],true⟩)]⟩)
   (λq=>q.1<=F.b.length/\vu q.1 q.2.1/\z_ s lo q.1 (F.b.drop q.1) q.2.1=T/\q.2.2.2.length=q.1/\q.2.1.br=0/\RH q.2.1/\oT q.2.1.s q.2.2.1/\(q.2.1.s.all.length:Int)<=q.2.2.1/\Sh s lo F.b (BY t.rs) []=Sh s lo (F.b.drop q.1) q.2.1 q.2.2.2) (λq=>F.b.length-q.1) (0,BY t.rs,0,[]) ⟨dx _,?_,hT,rfl,rfl,?_,rfl,Int.le_refl 0,rfl⟩ ((Wk.nil _ 15 900 2 240 (by simp only[go_sem]) (.inl (by decide))).trans (Wk.of ?_ ?_)) ?_
  .refine⟨aQ 1,aQ 0,aQ 1,ht2,λb hb=>?_⟩;rw[fS.1 hb];exact⟨dx _,by show t.rs.length<=100;omega⟩
  .intro b hb q;rw[fS.1 hb]at q;cases q
  .simp only[go_sem,St.mknil];try simp
  .simp only[go_sem,St.mknil];try simp
  rintro⟨j,C,mo,acc⟩ ⟨hj,hg,hx,hac,hbr,hot,hv,hle,hz⟩;dsimp only at hj hg hx hac hbr hot hv hle hz;by_cases h1:(j:Int)<(F.b.length:Int);rotate_left
  .rw[a_ (by omega)]at hx hz;simp only[z_]at hx;simp only[Sh]at hz;subst hx;rw[an (λq=>q rfl),hz]at hZ;subst hZ;simp only[go_sem,aI h1];exact aq [900] (by simp only[go_sem,aQ,fo,dk,i0];try rfl) (by rfl)
  have hj':j<F.b.length:=by omega
  have e8:=cK hj' (by omega);rw[Qh s lo C hj']at hx;rw[dV hj',Sh]at hz;have hxm:=hbi (av F.b j) (by rw[aY hj'];exact eH _);have hok:xC 800000 C:=(hg.ok (by omega)).mono (by decide);obtain⟨r,ka,A⟩:=hrap lo (av F.b j) C mo hbr hok hot hv hle hb hds hty hxm.1 (by omega) (by omega);have hg2:=hgr hg lo (av F.b j);have hi2:=hinv lo (av F.b j) hbr hot;have cl:=WF C mo hbr (by have:=hok.b;omega);have hal:=hok.l;simp only[bV,cN]at ka cl;generalize fE C s lo (av F.b j)=R at A hx hg2 hi2 hz;obtain⟨e,C2⟩:=R;obtain⟨C',mo',rfl,hA⟩:=A;dsimp only at hx hg2 hA ka hi2 hz;simp only[cN]at ka;have ha1:=cC 900 240 2 acc.length bpC acc [bpC (C.bs.length==0||C.lv,C.s.all)] rfl;rw[ahG]at ha1;simp only[go_sem,aF h1];refine⟨?_,?_⟩
  .omega
  refine aeV _ (Wk.frzs [62] _) ?_;simp only[go_sem,aQ,fo,dk,i0];refine ae (cl) ?_;simp only[go_sem,ha1,mh];refine⟨by omega,by omega,h1,?_⟩;refine ax ka (by simp[go_sem]) rfl ?_;by_cases e2:e=0;rotate_left
  .rw[az e2]at hx;subst hx;rw[az (show((j:Int),e).2≠0 from e2)]at hZ;subst hZ;simp only[go_sem,aE e2];exact dB (Wk.nls _ 4 2 (by rfl)) [] (by rfl) (by rfl)
  rw[an (λq=>q e2)]at hx;obtain⟨hC,hv2,hle2⟩:=hA e2;obtain⟨hi3,hi4⟩:=hi2 e2;subst hC;have co:=aga C'.s mo';rw[<-show C'.s.ov=decide (mo'>256) from hv2]at co;simp only[dh]at co;simp only[go_sem,ay e2];refine ae (co) ?_;cases e3:C'.s.ov;rotate_left
  .rw[az e3]at hx;subst hx;rw[az (show((j:Int),(6:Int)).2≠0 from(by decide:(6:Int)≠0))]at hZ;subst hZ;simp only[go_sem];exact dB (Wk.nls _ 4 2 (by rfl)) [] (by rfl) (by rfl)
  rw[an (by rw[e3];decide)]at hx;simp only[go_sem];refine aH (j+1,C',mo',acc++[(C.bs.length==0||C.lv,C.s.all)]) ⟨show j+1<=F.b.length by omega,hg2,hx,by rw[dN,hac];rfl,hi3,hi4,hv2,hle2,hz⟩ (show F.b.length-(j+1)<F.b.length-j by omega) (Wk.of ?_ ?_)
  .simp only[go_sem,e8,dN,i9,eG];try simp
  .simp only[go_sem,dY,cM,eA];try simp
def abd(m:Md)(n:Nat)(hb:B_ m)(hds:m.ds.length<=10000)(hty:rK (bO m))(hn:n<m.fs.length)(hf:bdB (av m.fs n)):aj pg GD [ba m,.int .i64 n] (.tup [.int .i64 (iw m (bO m) (av m.fs n)).1,.int .i64 (iw m (bO m) (av m.fs n)).2]):=by
 refine ao xg ?_;have c1:=af8 m n hb hds hty hn hf;simp only[ba,aM]at c1;simp only[go_sem,xg,ba];refine aa (c1) ?_;exact ah
end
section
open Go Go.Mw
def fq(F:Fa):List AV:=[.int .i64 F.p,.int .i64 F.i,.int .i64 F.l,.int .i64 F.c]
def Kw(F:Fa):fq F=[.int .i64 F.p,.int .i64 F.i,.int .i64 F.l,.int .i64 F.c]:=rfl
def O1:fq cB=[.int .i64 0,.int .i64 0,.int .i64 0,.int .i64 0]:=rfl
def QZ(m:Md):List (Nat×au):=[(1,⟨33,12,[nX m],true⟩),(2,⟨38,4,[[.int .i64 0,.int .i64 0,.int .i64 0,.int .i64 0]],true⟩)]
def Ue(m:Md):QZ m=[(1,⟨33,12,[nX m],true⟩),(2,⟨38,4,[[.int .i64 0,.int .i64 0,.int .i64 0,.int .i64 0]],true⟩)]:=rfl
attribute[local go_sem] bY aM du eY nP fM fZ iQ fY lc bT aW
def dK(p i l e:Int)(h:e≠0):aj pg xy [.int .i64 p,.int .i64 i,.int .i64 l,.int .i64 e] (.agg (fq ⟨p,i,l,e⟩)):=by
 refine ao lG ?_;simp only[go_sem,lG,ac h];exact aq [] (by simp only[go_sem,Kw];try rfl) (by rfl)
def RS(p i l:Int):aj pg xy [.int .i64 p,.int .i64 i,.int .i64 l,.int .i64 0] (.agg (fq cB)):=by
 refine ao lG ?_;simp only[go_sem,lG];exact aq [] (by rfl) (by rfl)
def ixA(x:bj):Prop:=0<=x.a/\x.a<9223372036854775808
structure rlB(m:Md):Prop where
 gi:∀g∈m.gs,∀x∈g.i,ixA x
 ei:∀e∈m.els,(∀x∈e.o,ixA x)/\(∀l∈e.it,∀x∈l,ixA x)/\0<=e.tb/\e.tb<9223372036854775808
 di:∀d∈m.ds,∀x∈d.o,ixA x
 ek:∀e∈m.exs,0<=e.k/\e.k<=3
 st:m.hs=true->0<=m.st/\m.st<9223372036854775808
 ca:∀c∈m.cs,0<=c.af
 dl:m.ds.length<=10000
def Pf{x:bj}(h:C_ x)(hp:rA x=true):ixA x:=by
 obtain⟨pa,_,_⟩:=N2 h hp;simp only[qE,dX,ol]at pa;exact⟨by omega,by omega⟩
def acy{i:Int}(h:re i=true):0<=i/\i<9223372036854775808:=by
 unfold re at h;simp only[dX,ol]at h;omega
def agm{m:Md}(hm:yD m)(h:(kB rA m).c=0):rlB m:=by
 have L:=aiD.1 h;refine⟨λg hg x hx=>?_,λe he=>?_,λd hd x hx=>?_,λe he=>?_,λhs=>?_,λc hc=>?_,?_⟩
 .exact Pf (((hm.gs.2 g hg)).2 x hx) ((vb (aco (L.gs.2 g hg))).2 x hx).1
 .obtain⟨q1,q2⟩:=ace (L.els.2 e he);obtain⟨s1,s2,s3⟩:=hm.els.2 e he;refine⟨λx hx=>Pf (s1.2 x hx) ((vb (q2 e.o List.mem_cons_self)).2 x hx).1,λl hl x hx=>Pf ((s3 l hl).2 x hx) ((vb (q2 l (List.mem_cons_of_mem _ hl))).2 x hx).1,?_⟩;have:=L.els.2 e he;unfold ML at this;split at this
  .exact absurd this (show ¬(1:Int)=0 by decide)
  split at this
  .exact absurd this (show ¬(11:Int)=0 by decide)
  rename_i q;exact acy (by simpa using q)
 .exact Pf ((hm.ds.2 d hd).1.2 x hx) ((vb (acb (L.ds.2 d hd))).2 x hx).1
 .have:=L.exs.2 e he;unfold MM at this;split at this
  .rename_i q;exact absurd this q
  split at this
  .exact absurd this (by decide)
  omega
 .have:=L.st;exact acy (by cases q:re m.st;exact absurd ⟨hs,q⟩ this;rfl)
 .have:=L.cs.2 c hc;unfold MJ at this;split at this
  .rename_i q;exact absurd this q
  split at this
  .exact absurd this (by decide)
  split at this
  .exact absurd this (by decide)
  omega
 .have h1:=L.ds.1;have h2:=hm.ds.1;rw[wi (by omega) (by omega)]at h1;omega
def Ul{n:Int}{l:List (Int×Int)}{j:Nat}(h:j<l.length):ee n j (l.drop j) cB=if(av l j).2=0 then ee n (j+1) (l.drop (j+1)) cB else⟨n,j,(av l j).1,(av l j).2⟩:=by
 rw[acv h cB rfl];by_cases q:(av l j).2=0
 .rw[az q];have:dE cB n j (av l j).1 (av l j).2=cB:=by unfold dE;rw[an (λz=>z.2 q)]
  rw[this]
 .rw[an q];have:dE cB n j (av l j).1 (av l j).2 =⟨n,j,(av l j).1,(av l j).2⟩:=by unfold dE;rw[az ⟨rfl,q⟩]
  rw[this,DS _ q]
def B0{n:Int}{l:List (Int×Int)}{j:Nat}(h:l.length<=j):ee n j (l.drop j) cB=cB:=by rw[a_ h];rfl
def A_{α β:Type}[Inhabited α][Inhabited β](f:α->β){l:List α}{j:Nat}(h:j<l.length):av (l.map f) j=f (av l j):=by
 rw[aY (by rw[bY];exact h),aY h,List.getElem_map]
def ahq{α:Type}{l:List α}{i:Int}:(cx l i).isSome=(decide (0<=i)&&decide (i<l.length)):=by
 by_cases h0:0<=i
 .by_cases h1:i<l.length
  .rw[zf h0 h1,aF h0,aF h1];rfl
  .rw[dI (.inr (by omega)),aF h0,aI h1];rfl
 .rw[dI (.inl (by omega)),aI h0];rfl
def PQ(m:Md)(k i:Int)(hb:B_ m)(hk:0<=k/\k<=3):aj pg GF [ba m,.int .i64 k,.int .i64 i] (.bool (mD (bO m) k i)):=by
 refine ao jA ?_;have c0:=EU m hb.ims hb.fs;have c1:=RN m hb.ims hb.tb;have c2:=aa9 m hb.ims hb.ms;have c3:=N9 m hb.ims hb.gs;unfold mD;simp only[ba,aM]at c0 c1 c2 c3;have hk4:k=0\/k=1\/k=2\/k=3:=by omega
 rcases hk4 with rfl|rfl|rfl|rfl
 .simp only[go_sem,jA,ba];refine ae (c0) ?_;by_cases h0:i>=0
  .simp only[go_sem,aF h0];exact aq [] (by simp only[go_sem,aF (show 0<=i from h0),dM,dR];try rfl) (by rfl)
  .simp only[go_sem,aI h0];exact aq [] (by simp only[go_sem,aI (show ¬0<=i from h0),dF];try rfl) (by rfl)
 .simp only[go_sem,jA,ba];refine aa (c0) ?_;refine ae (c1) ?_;by_cases h0:i>=0
  .simp only[go_sem,aF h0];exact aq [] (by simp only[go_sem,aF (show 0<=i from h0),dM];try rfl) (by rfl)
  .simp only[go_sem,aI h0];exact aq [] (by simp only[go_sem,aI (show ¬0<=i from h0),dF];try rfl) (by rfl)
 .simp only[go_sem,jA,ba];refine aa (c0) ?_;refine ae (c2) ?_;by_cases h0:i>=0
  .simp only[go_sem,aF h0];exact aq [] (by simp only[go_sem,aF (show 0<=i from h0),dM];try rfl) (by rfl)
  .simp only[go_sem,aI h0];exact aq [] (by simp only[go_sem,aI (show ¬0<=i from h0),dF];try rfl) (by rfl)
 .simp only[go_sem,jA,ba];refine aa (c0) ?_;refine ae (c3) ?_;by_cases h0:i>=0
  .simp only[go_sem,aF h0];exact aq [] (by simp only[go_sem,aF (show 0<=i from h0),dM];try rfl) (by rfl)
  .simp only[go_sem,aI h0];exact aq [] (by simp only[go_sem,aI (show ¬0<=i from h0),dF];try rfl) (by rfl)
end
section
open Go Go.Mw
def zA:(11:Int)≠0:=by decide
def aj5(m:Md)(i:Int):((bO m).ty i).isSome=(decide (0<=i)&&decide (i<m.ts.length)):=ahq
def JZ{s:Sp}{i:Int}(h:(s.ty i).isSome=false):th s i=(0,11):=by unfold th;rw[h];rfl
def Qg{s:Sp}{i:Int}(h:(s.ty i).isSome=true):th s i=(0,0):=by unfold th;rw[h];rfl
def lW{n:Int}{l:List (Int×Int)}{j:Nat}{a e:Int}{G:Fa}(h:j<l.length)(hr:av l j=(a,e))(he:e≠0)(hx:ee n j (l.drop j) cB=G):G =⟨n,j,a,e⟩:=by
 rw[Ul h,hr,an he]at hx;exact hx.symm
def sC{n:Int}{l:List (Int×Int)}{j:Nat}{a e:Int}{G:Fa}(h:j<l.length)(hr:av l j=(a,e))(he:e=0)(hx:ee n j (l.drop j) cB=G):ee n (j+1) (l.drop (j+1)) cB=G:=by
 rw[Ul h,hr,az he]at hx;exact hx
attribute[local go_sem] bY aM du eY nP lc bT aW Kw Ue
def L9(m:Md)(hb:B_ m):aj pg sS [ba m] (.agg (fq (ee 3 0 (m.fs.map λf=>th (bO m) f.t) (ee 2 0 (m.ims.map (z8 (bO m))) cB)))):=by
 refine ao ss ?_;have h1:=hb.ims;have h2:=hb.fs;have ht:=hb.ts;have hIn:=λ{j:Nat}(h:j<m.ims.length)=>A_ (z8 (bO m)) h;have hFn:=λ{j:Nat}(h:j<m.fs.length)=>A_ (λf:Cd=>th (bO m) f.t) h;obtain⟨I,hI⟩:∃I,m.ims.map (z8 (bO m))=I:=⟨_,rfl⟩
 obtain⟨F,hF⟩:∃F,(m.fs.map λf=>th (bO m) f.t)=F:=⟨_,rfl⟩
 have hIl:I.length=m.ims.length:=by rw[<-hI,bY]
 have hFl:F.length=m.fs.length:=by rw[<-hF,bY]
 rw[hI]at hIn⊢;rw[hF]at hFn⊢;obtain⟨G,hG⟩:∃G,ee 2 0 I cB=G:=⟨_,rfl⟩
 rw[hG];simp only[go_sem,ss,ba];refine aA (λj:Nat=>⟨[(3,.int .i64 j),(1,.mp 1 12 0 0),(2,.mp 2 4 0 0)],QZ m⟩) (λj=>j<=m.ims.length/\ee 2 j (I.drop j) cB=G) (λj=>m.ims.length-j) 0 ⟨dx _,hG⟩ (Wk.of ?_ ?_) ?_
 .simp only[go_sem];try simp
 .simp only[go_sem];try simp
 rintro j ⟨hj,hx⟩;by_cases q:(j:Int)<(m.ims.length:Int)
 .have hj':j<m.ims.length:=by omega
  have e8:=cK hj' (by omega);have hr:=hIn hj';generalize hX:av m.ims j=x at hr;have cf:=dK 2 j 0 11 zA;by_cases q0:x.k=0
  .have hv:z8 (bO m) x=th (bO m) x.f:=by unfold z8;rw[an (λz=>z q0)]
   have ty:=aj5 m x.f;rw[hv]at hr;by_cases q1:x.f<0
   .rw[aI (show ¬0<=x.f by omega),dF]at ty;rw[JZ ty]at hr;have hG2:=lW (by omega) hr zA hx;rw[hG2,show ee 3 0 F ⟨2,j,0,11⟩ =⟨2,j,0,11⟩ from DS _ zA];simp only[go_sem,aF q,hX,aD q0,aF q1];refine⟨by omega,q,?_⟩;refine aa (cf) ?_;exact ah
   by_cases q2:x.f>=(m.ts.length:Int)
   .rw[aI (show ¬x.f<(m.ts.length:Int)by omega),Bool.and_false]at ty;rw[JZ ty]at hr;have hG2:=lW (by omega) hr zA hx;rw[hG2,show ee 3 0 F ⟨2,j,0,11⟩ =⟨2,j,0,11⟩ from DS _ zA];simp only[go_sem,aF q,hX,aD q0,aI q1,aF q2];refine⟨by omega,q,?_⟩;refine aa (cf) ?_;exact ah
   rw[aF (show 0<=x.f by omega),aF (show x.f<(m.ts.length:Int)by omega),Bool.and_self]at ty;rw[Qg ty]at hr;have hG2:=sC (by omega) hr rfl hx;simp only[go_sem,aF q,hX,aD q0,aI q1,aI q2];refine⟨by omega,q,?_⟩;refine aH (j+1) ⟨show j+1<=m.ims.length by omega,hG2⟩ (show m.ims.length-(j+1)<m.ims.length-j by omega) (Wk.of ?_ ?_)
   .simp only[go_sem,e8];try simp
   .simp only[go_sem];try simp
  .have hv:z8 (bO m) x=(0,0):=by unfold z8;rw[az q0]
   rw[hv]at hr;have hG2:=sC (by omega) hr rfl hx;simp only[go_sem,aF q,hX,ac q0];refine⟨by omega,q,?_⟩;refine aH (j+1) ⟨show j+1<=m.ims.length by omega,hG2⟩ (show m.ims.length-(j+1)<m.ims.length-j by omega) (Wk.of ?_ ?_)
   .simp only[go_sem,e8];try simp
   .simp only[go_sem];try simp
 rw[B0 (by omega)]at hx;subst hx;obtain⟨T,hT⟩:∃T,ee 3 0 F cB=T:=⟨_,rfl⟩
 rw[hT];simp only[go_sem,aI q];refine aA (λj:Nat=>⟨[(5,.int .i64 j),(1,.mp 1 12 0 0),(2,.mp 2 4 0 0)],QZ m⟩) (λj=>j<=m.fs.length/\ee 3 j (F.drop j) cB=T) (λj=>m.fs.length-j) 0 ⟨dx _,hT⟩ (Wk.of ?_ ?_) ?_
 .simp only[go_sem];try simp
 .simp only[go_sem];try simp
 rintro j2 ⟨hj2,hx⟩;by_cases p:(j2:Int)<(m.fs.length:Int)
 .have hj':j2<m.fs.length:=by omega
  have e8:=cK hj' (by omega);have hr:=hFn hj';have ty:=aj5 m (av m.fs j2).t;have cf:=dK 3 j2 0 11 zA;by_cases q1:(av m.fs j2).t<0
  .rw[aI (show ¬0<=(av m.fs j2).t by omega),dF]at ty;rw[JZ ty]at hr;have hG2:=lW (by omega) hr zA hx;rw[hG2];simp only[go_sem,aF p,aF q1];refine⟨by omega,p,?_⟩;refine aa (cf) ?_;exact ah
  by_cases q2:(av m.fs j2).t>=(m.ts.length:Int)
  .rw[aI (show ¬(av m.fs j2).t<(m.ts.length:Int)by omega),Bool.and_false]at ty;rw[JZ ty]at hr;have hG2:=lW (by omega) hr zA hx;rw[hG2];simp only[go_sem,aF p,aI q1];refine⟨by omega,p,by omega,p,λ_=>?_,λz=>by exfalso;omega⟩;refine aa (cf) ?_;exact ah
  rw[aF (show 0<=(av m.fs j2).t by omega),aF (show(av m.fs j2).t<(m.ts.length:Int)by omega),Bool.and_self]at ty;rw[Qg ty]at hr;have hG2:=sC (by omega) hr rfl hx;simp only[go_sem,aF p,aI q1];refine⟨by omega,p,by omega,p,λz=>by exfalso;omega,λ_=>?_⟩;refine aH (j2+1) ⟨show j2+1<=m.fs.length by omega,hG2⟩ (show m.fs.length-(j2+1)<m.fs.length-j2 by omega) (Wk.of ?_ ?_)
  .simp only[go_sem,e8];try simp
  .simp only[go_sem];try simp
 rw[B0 (by omega)]at hx;subst hx;simp only[go_sem,aI p];exact aq [] (by rfl) (by rfl)
def L8(m:Md)(hb:B_ m)(hR:rlB m):aj pg sR [ba m] (.agg (fq (ee 6 0 (m.gs.map λg=>dD (bO m) g.i g.g.v) cB))):=by
 refine ao sq ?_;have h1:=hb.gs;have ci:=gJ m hb.ims 3;have hIn:=λ{j:Nat}(h:j<m.gs.length)=>A_ (λg:Gd=>dD (bO m) g.i g.g.v) h;obtain⟨I,hI⟩:∃I,(m.gs.map λg=>dD (bO m) g.i g.g.v)=I:=⟨_,rfl⟩
 have hIl:I.length=m.gs.length:=by rw[<-hI,bY]
 rw[hI]at hIn⊢;obtain⟨G,hG⟩:∃G,ee 6 0 I cB=G:=⟨_,rfl⟩
 rw[hG];simp only[ba,aM]at ci;simp only[go_sem,sq,ba];refine aa (ci) ?_;refine aA (λj:Nat=>⟨[(4,.int .i64 j),(3,.int .i64 (dH 3 m.ims:Nat)),(1,.mp 1 12 0 0),(2,.mp 2 4 0 0)],QZ m⟩) (λj=>j<=m.gs.length/\ee 6 j (I.drop j) cB=G) (λj=>m.gs.length-j) 0 ⟨dx _,hG⟩ (Wk.of ?_ ?_) ?_
 .simp only[go_sem];try simp
 .simp only[go_sem];try simp
 rintro j ⟨hj,hx⟩;by_cases q:(j:Int)<(m.gs.length:Int)
 .have hj':j<m.gs.length:=by omega
  have e8:=cK hj' (by omega);have hr:=hIn hj';have hm:av m.gs j∈m.gs:=by rw[aY hj'];exact eH _
  have cc:=C7 m (av m.gs j).i (av m.gs j).g.v hb (hR.gi _ hm) (hb.gi _ hm);generalize dD (bO m) (av m.gs j).i (av m.gs j).g.v=R at cc hr;obtain⟨a,e⟩:=R;simp only[ba,aM]at cc;simp only[go_sem,aF q];refine⟨by omega,q,by omega,q,?_⟩;refine ae (cc) ?_;by_cases z:e=0
  .have hG2:=sC (by omega) hr z hx;simp only[go_sem,ay z];refine aH (j+1) ⟨show j+1<=m.gs.length by omega,hG2⟩ (show m.gs.length-(j+1)<m.gs.length-j by omega) (Wk.of ?_ ?_)
   .simp only[go_sem,e8];try simp
   .simp only[go_sem];try simp
  .have hG2:=lW (by omega) hr z hx;have cf:=dK 6 j a e z;rw[hG2];simp only[go_sem,aE z];refine aa (cf) ?_;exact ah
 rw[B0 (by omega)]at hx;subst hx;simp only[go_sem,aI q];exact aq [] (by rfl) (by rfl)
def N_(m:Md)(hc:ckB m)(hR:rlB m):aj pg uR [ba m] (.agg (fq (ee 12 0 (m.fs.map (iw m (bO m))) cB))):=by
 refine ao uj ?_;have hb:=hc.sp;have h1:=hb.fs;have hIn:=λ{j:Nat}(h:j<m.fs.length)=>A_ (iw m (bO m)) h;have hcb:=λ{j:Nat}(h:j<m.fs.length)=>abd m j hb hR.dl (P8 hc.t) h;obtain⟨I,hI⟩:∃I,m.fs.map (iw m (bO m))=I:=⟨_,rfl⟩
 have hIl:I.length=m.fs.length:=by rw[<-hI,bY]
 rw[hI]at hIn⊢;obtain⟨G,hG⟩:∃G,ee 12 0 I cB=G:=⟨_,rfl⟩
 rw[hG];simp only[go_sem,uj,ba];refine aA (λj:Nat=>⟨[(3,.int .i64 j),(1,.mp 1 12 0 0),(2,.mp 2 4 0 0)],QZ m⟩) (λj=>j<=m.fs.length/\ee 12 j (I.drop j) cB=G) (λj=>m.fs.length-j) 0 ⟨dx _,hG⟩ (Wk.of ?_ ?_) ?_
 .simp only[go_sem];try simp
 .simp only[go_sem];try simp
 rintro j ⟨hj,hx⟩;by_cases q:(j:Int)<(m.fs.length:Int)
 .have hj':j<m.fs.length:=by omega
  have e8:=cK hj' (by omega);have hr:=hIn hj';have hm:av m.fs j∈m.fs:=by rw[aY hj'];exact eH _
  have cc:=hcb hj' (hc.f _ hm);generalize iw m (bO m) (av m.fs j)=R at cc hr;obtain⟨a,e⟩:=R;simp only[ba,aM]at cc;simp only[go_sem,aF q];refine ae (cc) ?_;by_cases z:e=0
  .have hG2:=sC (by omega) hr z hx;simp only[go_sem,ay z];refine aH (j+1) ⟨show j+1<=m.fs.length by omega,hG2⟩ (show m.fs.length-(j+1)<m.fs.length-j by omega) (Wk.of ?_ ?_)
   .simp only[go_sem,e8];try simp
   .simp only[go_sem];try simp
  .have hG2:=lW (by omega) hr z hx;have cf:=dK 12 j a e z;rw[hG2];simp only[go_sem,aE z];refine aa (cf) ?_;exact ah
 rw[B0 (by omega)]at hx;subst hx;simp only[go_sem,aI q];exact aq [] (by rfl) (by rfl)
def RV(m:Md)(hb:B_ m)(hR:rlB m):aj pg xB [ba m] (.agg (fq (if m.hs=true then ee 8 0 [CJ (bO m) m.st] cB else cB))):=by
 refine ao jz ?_;cases hh:m.hs
 .rw[an (by decide)];simp only[go_sem,jz,ba,hh];exact aq [] (by rfl) (by rfl)
 rw[az rfl];obtain⟨s1,s2⟩:=hR.st hh;have c1:=PM m hb.ims hb.fs hb.ts m.st s1 s2;have hl:∀f,(bO m).fn m.st=some f->f.ps.length<=1000000/\f.rs.length<=1000000:=λf hf=>by
  unfold Sp.fn at hf;cases hq:cx (bO m).fs m.st with
  | none=>rw[hq]at hf;cases hf
  | some k =>
   rw[hq]at hf;have:=Sj (s:=bO m) hb.tb2 k;rw[show(bO m).ty k=some f from hf]at this;exact this
 have hgo:∀r:Int×Int,r.1=0->ee 8 0 [r] cB=if r.2=0 then cB else⟨8,0,0,r.2⟩:=λr hr=>by
  have:=Ul (n:=8) (l:=[r]) (j:=0) (by show 0<1;decide);rw[fo]at this;rw[this];show(if r.2=0 then ee 8 1 [] cB else⟨8,0,r.1,r.2⟩)=_;rw[hr];rfl
 unfold CJ;generalize (bO m).fn m.st=Q at c1 hl⊢;simp only[ba,aM,aW,hh]at c1;cases Q with
 | none =>
  rw[hgo _ rfl,an zA];have cf:=dK 8 0 0 11 zA;simp only[go_sem,jz,ba,hh];refine ae (c1) ?_;simp only[go_sem,Option.isSome_none];refine aa (cf) ?_;exact ah
 | some f =>
  obtain⟨g1,g2⟩:=hl f rfl;rw[hgo _ rfl];dsimp only;have w:=wi (n:=(f.ps.length:Int)+(f.rs.length:Int)) (by omega) (by omega);by_cases z:f.ps.length+f.rs.length>0
  .have cf:=dK 8 0 0 23 (by decide);simp only[show(if f.ps.length+f.rs.length>0 then(23:Int)else 0)=23 from az z,Int.reduceEq,ij];simp only[go_sem,jz,ba,hh];refine ae (c1) ?_;simp only[go_sem,Option.isSome_some,cG,w,aF (show(f.ps.length:Int)+(f.rs.length:Int)>0 by omega)];refine aa (cf) ?_;exact ah
  .simp only[show(if f.ps.length+f.rs.length>0 then(23:Int)else 0)=0 from an z,dR];simp only[go_sem,jz,ba,hh];refine ae (c1) ?_;simp only[go_sem,Option.isSome_some,cG,w,aI (show ¬(f.ps.length:Int)+(f.rs.length:Int)>0 by omega)];exact aq [] (by rfl) (by rfl)
end
section
open Go Go.Mw
def n21:(21:Int)≠0:=by decide
def n7_:(7:Int)≠0:=by decide
attribute[local go_sem] bY aM fM fZ iQ fY bT iB Kw Ue
def L7(m:Md)(hb:B_ m)(hR:rlB m):aj pg sQ [ba m] (.agg (fq (ee 7 0 (kR (bO m) [] m.exs) cB))):=by
 refine ao sn ?_;have h1:=hb.exs;have hIn:=λ{j:Nat}(h:j<m.exs.length)=>JY (bO m) m.exs [] j h;have hIl:=Dg (bO m) m.exs [];generalize kR (bO m) [] m.exs=I at hIn hIl⊢;obtain⟨G,hG⟩:∃G,ee 7 0 I cB=G:=⟨_,rfl⟩
 rw[hG];simp only[go_sem,sn,ba];refine aA (λj:Nat=>⟨[(3,.int .i64 j),(1,.mp 1 12 0 0),(2,.mp 2 4 0 0)],QZ m⟩) (λj=>j<=m.exs.length/\ee 7 j (I.drop j) cB=G) (λj=>m.exs.length-j) 0 ⟨dx _,hG⟩ (Wk.of ?_ ?_) ?_
 .simp only[go_sem];try simp
 .simp only[go_sem];try simp
 rintro j ⟨hj,hx⟩;by_cases q:(j:Int)<(m.exs.length:Int)
 .have hj':j<m.exs.length:=by omega
  have e8:=cK hj' (by omega);have hr:=hIn hj';have hm:av m.exs j∈m.exs:=by rw[aY hj'];exact eH _
  have hk:=hR.ek _ hm;have cf:=dK 7 j 0 21 n21;have cf2:=dK 7 j 0 11 zA;generalize hX:av m.exs j=x at hr hk;have ct:=PQ m x.k x.i hb hk;rw[gC]at hr;simp only[ba,aM]at ct;simp only[go_sem,aF q,hX];refine⟨by omega,q,?_⟩;refine aA (λk:Nat=>⟨[(5,.int .i64 k),(4,.mp 4 3 0 0),(3,.int .i64 j),(1,.mp 1 12 0 0),(2,.mp 2 4 0 0)],(4,⟨72,3,[T5 x],true⟩)::QZ m⟩) (λk=>k<=j/\∀i,i<k->(av m.exs i).n≠x.n) (λk=>j-k) 0 ⟨dx _,λi hi=>absurd hi (Nat.not_lt_zero _)⟩ (Wk.of ?_ ?_) ?_
  .simp only[go_sem];try simp
  .simp only[go_sem,hX];try simp
  rintro k ⟨hk1,hk2⟩;by_cases q2:(k:Int)<(j:Int)
  .have hk':k<j:=by omega
   have e9:=cK hk' (by omega);by_cases q3:(av m.exs k).n=x.n
   .have hin:x.n∈(m.exs.take j).map (·.n):=fb.2 ⟨av m.exs k,by rw[aY (by omega)];exact List.mem_take_iff_getElem.2 ⟨k,by omega,rfl⟩,q3⟩;have hv:exA (bO m) ((m.exs.take j).map (·.n)) x=(0,21):=by unfold exA;rw[az hin]
    rw[hv]at hr;have hG2:=lW (by omega) hr n21 hx;have q4:((av m.exs k).n==x.n)=true:=by simpa using q3
    rw[hG2];simp only[go_sem,aF q2,q4];refine⟨by omega,by omega,?_⟩;refine aa (cf) ?_;exact ah
   .have q4:((av m.exs k).n==x.n)=false:=by simpa using q3
    simp only[go_sem,aF q2,q4];refine⟨by omega,by omega,?_⟩;refine aH (k+1) ⟨show k+1<=j by omega,λi hi=>?_⟩ (show j-(k+1)<j-k by omega) (Wk.of ?_ ?_)
    .by_cases z:i=k
     .rw[z];exact q3
     .exact hk2 i (by omega)
    .simp only[go_sem,e9];try simp
    .simp only[go_sem];try simp
  have hno:x.n∉(m.exs.take j).map (·.n):=λhin=>by
   obtain⟨y,hy,hyn⟩:=fb.1 hin;obtain⟨i,hi,hi2⟩:=List.mem_take_iff_getElem.1 hy;exact hk2 i (by omega) (by rw[aY (by omega),hi2];exact hyn)
  have hv:exA (bO m) ((m.exs.take j).map (·.n)) x=if mD (bO m) x.k x.i=false then(0,11)else(0,0):=by unfold exA;rw[an hno]
  rw[hv]at hr;cases ht:mD (bO m) x.k x.i
  .rw[az ht]at hr;rw[ht]at ct;have hG2:=lW (by omega) hr zA hx;rw[hG2];simp only[go_sem,aI q2];refine aa (ct) ?_;refine aa (cf2) ?_;exact ah
  .rw[an (by rw[ht];decide)]at hr;rw[ht]at ct;have hG2:=sC (by omega) hr rfl hx;simp only[go_sem,aI q2];refine aa (ct) ?_;refine aH (j+1) ⟨show j+1<=m.exs.length by omega,hG2⟩ (show m.exs.length-(j+1)<m.exs.length-j by omega) (Wk.of ?_ ?_)
   .simp only[go_sem,e8];try simp
   .simp only[go_sem];try simp
 rw[B0 (by omega)]at hx;subst hx;simp only[go_sem,aI q];exact aq [] (by rfl) (by rfl)
def SC(p i:Int)(act:Bool)(R:Int×Int):Fa:=if act=false then cB else if R.2=0 then cB else⟨p,i,R.1,R.2⟩
def Ma(m:Md)(p i:Int)(act:Bool)(l:List bj)(hb:B_ m)(hP:∀x∈l,ixA x)(hl:l.length<=1000000):aj pg EE [ba m,.int .i64 p,.int .i64 i,.bool act,.sl 9 (l.map cQ)] (.agg (fq (SC p i act (dD (bO m) l 1)))):=by
 refine ao nL ?_;have ci:=gJ m hb.ims 3;have cc:=C7 m l 1 hb hP hl;simp only[ba,aM]at ci cc;unfold SC;cases act
 .rw[az rfl];simp only[go_sem,nL,ba];exact aq [] (by rfl) (by rfl)
 rw[an (by decide)];generalize dD (bO m) l 1=R at cc⊢;obtain⟨a,e⟩:=R;simp only[go_sem,nL,ba];refine ax ci (by simp[go_sem]) rfl ?_;simp only[go_sem];refine aa (cc) ?_;by_cases z:e=0
 .have cf:=RS p i a;subst z;rw[az rfl];refine aa (cf) ?_;exact aq [] (by rfl) (by rfl)
 .have cf:=dK p i a e z;rw[an z];refine aa (cf) ?_;exact ah
def RQ(m:Md)(hb:B_ m)(hc:ckB m)(hR:rlB m):aj pg xw [ba m] (.agg (fq (ee 10 0 (m.ds.map (CI (bO m))) cB))):=by
 refine ao xi ?_;have h1:=hR.dl;have hIn:=λ{j:Nat}(h:j<m.ds.length)=>A_ (CI (bO m)) h;obtain⟨I,hI⟩:∃I,m.ds.map (CI (bO m))=I:=⟨_,rfl⟩
 have hIl:I.length=m.ds.length:=by rw[<-hI,bY]
 rw[hI]at hIn⊢;obtain⟨G,hG⟩:∃G,ee 10 0 I cB=G:=⟨_,rfl⟩
 rw[hG];simp only[go_sem,xi,ba];refine aA (λj:Nat=>⟨[(3,.int .i64 j),(1,.mp 1 12 0 0),(2,.mp 2 4 0 0)],QZ m⟩) (λj=>j<=m.ds.length/\ee 10 j (I.drop j) cB=G) (λj=>m.ds.length-j) 0 ⟨dx _,hG⟩ (Wk.of ?_ ?_) ?_
 .simp only[go_sem];try simp
 .simp only[go_sem];try simp
 rintro j ⟨hj,hx⟩;by_cases q:(j:Int)<(m.ds.length:Int)
 .have hj':j<m.ds.length:=by omega
  have e8:=cK hj' (by omega);have hr:=hIn hj';have hm:av m.ds j∈m.ds:=by rw[aY hj'];exact eH _
  have hd:=hR.di _ hm;have hd2:=hc.d.2 _ hm;have cf:=dK 10 j 0 11 zA;generalize hX:av m.ds j=x at hr hd hd2;have ct:=PQ m 2 x.me hb (by decide);have co:=Ma m 10 j (x.mo==0) x.o hb hd hd2;unfold CI at hr;by_cases z:x.mo=0
  .rw[an (λw=>w z)]at hr;rw[aD z]at co;simp only[ba,aM]at ct co;cases ht:mD (bO m) 2 x.me
   .rw[az ht]at hr;rw[ht]at ct;have hG2:=lW (by omega) hr zA hx;rw[hG2];simp only[go_sem,aF q,hX];refine⟨by omega,q,?_⟩;simp only[go_sem,aD z];refine aa (ct) ?_;refine aa (cf) ?_;exact ah
   rw[an (by rw[ht];decide)]at hr;rw[ht]at ct;generalize dD (bO m) x.o 1=R at hr co;obtain⟨a,e⟩:=R;by_cases w:e=0
   .have hG2:=sC (by omega) hr w hx;rw[show SC 10 j true (a,e)=cB from by unfold SC;rw[an (by decide),az w],O1]at co;simp only[go_sem,aF q,hX];refine⟨by omega,q,?_⟩;simp only[go_sem,aD z];refine ae (ct) ?_;simp only[go_sem,aD z];refine aa (co) ?_;refine aH (j+1) ⟨show j+1<=m.ds.length by omega,hG2⟩ (show m.ds.length-(j+1)<m.ds.length-j by omega) (Wk.of ?_ ?_)
    .simp only[go_sem,e8];try simp
    .simp only[go_sem];try simp
   .have hG2:=lW (by omega) hr w hx;rw[show SC 10 j true (a,e) =⟨10,j,a,e⟩ from by unfold SC;rw[an (by decide),an w]]at co;rw[hG2];simp only[go_sem,aF q,hX];refine⟨by omega,q,?_⟩;simp only[go_sem,aD z];refine ae (ct) ?_;simp only[go_sem,aD z];refine ae (co) ?_;simp only[go_sem,aE w];exact ah
  .rw[az z]at hr;rw[ac z,show SC 10 j false (dD (bO m) x.o 1)=cB from rfl,O1]at co;simp only[ba,aM]at co;have hG2:=sC (by omega) hr rfl hx;simp only[go_sem,aF q,hX];refine⟨by omega,q,?_⟩;simp only[go_sem,ac z];refine aa (co) ?_;refine aH (j+1) ⟨show j+1<=m.ds.length by omega,hG2⟩ (show m.ds.length-(j+1)<m.ds.length-j by omega) (Wk.of ?_ ?_)
   .simp only[go_sem,e8];try simp
   .simp only[go_sem];try simp
 rw[B0 (by omega)]at hx;subst hx;simp only[go_sem,aI q];exact aq [] (by rfl) (by rfl)
def XO{s:Sp}{ty:Int}{l:List (List bj)}{k:Nat}(h:k<l.length):rL s ty (l.drop k)=if(dD s (av l k) ty).2≠0 then dD s (av l k) ty else rL s ty (l.drop (k+1)):=by
 rw[dV h,rL]
end
section
open Go Go.Mw
def ZC(m:Md):List Bool:=[decide ((m.ts.length:Int)>0),decide ((m.ims.length:Int)>0),decide ((m.fs.length:Int)>0),decide ((m.tbs.length:Int)>0),decide ((m.ms.length:Int)>0),decide ((m.gs.length:Int)>0),decide ((m.exs.length:Int)>0),m.hs,decide ((m.els.length:Int)>0),decide ((m.ds.length:Int)>0),decide ((m.fs.length:Int)>0),decide ((m.ds.length:Int)>0)]
def FH:Nat->List Bool->List Int
 | _,[]=>[]
 | k,b::l=>(if b=true then[(k:Int)]else[])++FH (k+1) l
def Pg:∀(a b:List Bool)(k:Nat),FH k (a++b)=FH k a++FH (k+a.length) b
 | [],b,k=>by simp[FH]
 | x::a,b,k=>by
  rw[oG,FH,FH,Pg a b,i9,vk];congr 3;omega
def Ph:∀(a:List Bool)(k:Nat),(FH k a).length<=a.length
 | [],k=>aQ _
 | x::a,k=>by
  have:=Ph a (k+1);rw[FH,dN,i9];split<;>simp<;>omega
def aex(n:Nat)(p:Int):(if decide ((n:Int)>0)=true then[p]else[])=yp (n>0) p:=by
 unfold yp;by_cases h:n>0
 .rw[az h,az (aF (by omega))]
 .rw[an h,aI (by omega),an (by decide)]
def aa5(m:Md):wv m=FH 1 (ZC m):=by
 rw[N3];unfold ZC;simp only[FH,aex,vk,ml];rfl
def aiq{l:List Bool}{i:Nat}(h:i<l.length):FH 1 (l.take (i+1))=FH 1 (l.take i)++if av l i=true then[((i:Int)+1)]else[]:=by
 rw[JT h,Pg,vm];congr 1;rw[FH,FH,ml];have e:((1+min i l.length:Nat):Int)=(i:Int)+1:=by omega
 rw[e]
attribute[local go_sem] bY aM
def WM(m:Md):aj pg A0 [ba m] (.sl 1 ((wv m).map ri)):=by
 refine ao pR ?_;rw[aa5];simp only[go_sem,pR,ba];obtain⟨H,hH⟩:∃H,ZC m=H:=⟨_,rfl⟩
 have hl:H.length=12:=by rw[<-hH];rfl
 rw[hH];refine aA (λi:Nat=>⟨[(5,.int .i64 i),(4,.ms 900 1 0 (FH 1 (H.take i)).length),(3,.sl 1 (H.map rt))],[(900,⟨3,1,(FH 1 (H.take i)).map ri,false⟩)]⟩) (λi=>i<=H.length) (λi=>H.length-i) 0 (dx _) (((Wk.frzs [52] _).trans (Wk.nil _ 4 900 1 3 (by simp only[go_sem]) (.inl (by decide)))).trans (Wk.of ?_ ?_)) ?_
 .simp only[go_sem,St.mknil,<-hH];try simp[ZC,FH,rt]
 .simp only[go_sem,St.mknil];try simp[go_sem,FH]
 intro i hi;have hln:=Ph (H.take i) 1;rw[vm]at hln;by_cases q:(i:Int)<(H.length:Int);rotate_left
 .obtain rfl:i=H.length:=by omega
  rw[rN];simp only[go_sem,aI q];refine aq [900] ?_ rfl;simp only[go_sem,aQ];rw[iF (by simp)]
 have hi':i<H.length:=by omega
 have e8:=cK hi' (by omega);have hs:=aiq hi';have happ:=λys=>cC 900 3 1 (FH 1 (H.take i)).length ri (FH 1 (H.take i)) ys rfl;cases hb:av H i
 .rw[hb,an (by decide),ml]at hs;simp only[go_sem,aF q,hb];refine⟨by omega,q,?_⟩;refine aH (i+1) (show i+1<=H.length by omega) (show H.length-(i+1)<H.length-i by omega) (Wk.of ?_ ?_)
  .simp only[go_sem,e8,hs];try simp
  .simp only[go_sem,hs];try simp[go_sem]
 .rw[hb,az rfl]at hs;simp only[go_sem,aF q,hb,e8,happ];refine⟨by omega,q,by omega,?_⟩;refine aH (i+1) (show i+1<=H.length by omega) (show H.length-(i+1)<H.length-i by omega) (Wk.of ?_ ?_)
  .simp only[go_sem,e8,hs];try simp
  .simp only[go_sem,hs];try simp[go_sem]
end
section
open Go Go.Mw
instance:Inhabited Fa:=⟨cB⟩
def faR(F:Fa):List AV:=[.int .i64 F.p,.int .i64 F.i,.int .i64 F.l,.int .i64 F.c]
def acj(F:Fa):faR F=[.int .i64 F.p,.int .i64 F.i,.int .i64 F.l,.int .i64 F.c]:=rfl
def aep{l:List Fa}{i:Nat}(h:i<l.length):FD (l.drop i)=if(av l i).c≠0 then av l i else FD (l.drop (i+1)):=by
 rw[dV h,FD]
attribute[local go_sem] bY aM iz pq acj
def WD(P:bj->Bool)(m:Md)(h:yD m)(hP:∀y,C_ y->aj pg e_ [fN y] (.bool (P y))):aj pg uP [ba m] (iz (kB P m)):=by
 rw[ae7 P m h];refine ao tU ?_;have d1:=ajq m h;have d2:=af9 m h;have d3:=aje m h;have d4:=ajp m h;have d5:=ajm m h;have d6:=ajk P m h hP;have d7:=ajj m h;have d8:=abk m;have d9:=ajh P m h hP;have d10:=ajg P m h hP;have d11:=ajf m h;have d12:=Wy P m h hP;unfold agf;generalize tyF m=F1 at d1⊢;generalize imF m=F2 at d2⊢;generalize cdF m=F3 at d3⊢;generalize tbF m=F4 at d4⊢;generalize mmF m=F5 at d5⊢;generalize gdF P m=F6 at d6⊢;generalize exF m=F7 at d7⊢;generalize stF m=F8 at d8⊢;generalize elF P m=F9 at d9⊢;generalize dsF P m=F10 at d10⊢;generalize csF m=F11 at d11⊢;generalize boF P m=F12 at d12⊢;simp only[iz,ba,aM]at d1 d2 d3 d4 d5 d6 d7 d8 d9 d10 d11 d12;obtain⟨L,hL⟩:∃L,L=[F1,F2,F3,F4,F5,F6,F7,F8,F9,F10,F11,F12]:=⟨_,rfl⟩
 rw[<-hL];obtain⟨G,hG⟩:∃G,FD L=G:=⟨_,rfl⟩
 rw[hG];have hlen:L.length=12:=by rw[hL];rfl
 simp only[go_sem,tU,ba];refine ax d1 (by simp[go_sem]) rfl ?_;simp only[go_sem];refine ax d2 (by simp[go_sem]) rfl ?_;simp only[go_sem];refine ax d3 (by simp[go_sem]) rfl ?_;simp only[go_sem];refine ax d4 (by simp[go_sem]) rfl ?_;simp only[go_sem];refine ax d5 (by simp[go_sem]) rfl ?_;simp only[go_sem];refine ax d6 (by simp[go_sem]) rfl ?_;simp only[go_sem];refine ax d7 (by simp[go_sem]) rfl ?_;simp only[go_sem];refine ax d8 (by simp[go_sem]) rfl ?_;simp only[go_sem];refine ax d9 (by simp[go_sem]) rfl ?_;simp only[go_sem];refine ax d10 (by simp[go_sem]) rfl ?_;simp only[go_sem];refine ax d11 (by simp[go_sem]) rfl ?_;simp only[go_sem];refine aa (d12) ?_;refine aA (λj:Nat=>⟨[(4,.int .i64 j),(3,.ms 29 4 0 12),(2,.mp 2 4 0 0)],[(29,⟨38,4,L.map faR,false⟩),(2,pq cB)]⟩) (λj=>j<=12/\G=FD (L.drop j)) (λj=>12-j) 0 ⟨dx _,hG.symm⟩ (Wk.of ?_ ?_) ?_
 .simp only[go_sem];try simp
 .rw[hL];simp only[go_sem];try simp[acj,cB]
 rintro j ⟨hj,hx⟩;by_cases h1:(j:Int)<((12:Nat):Int);rotate_left
 .rw[a_ (by omega)]at hx;obtain rfl:G=cB:=hx;simp only[go_sem,aI h1];exact aq [] (by simp only[go_sem];try rfl) (by rfl)
 have hj':j<L.length:=by omega
 have hj2:j<12:=by omega
 have e8:=cK hj' (by omega);rw[aep hj']at hx;have cn:=fW (av L j);simp only[iz]at cn;by_cases z:(av L j).c=0
 .rw[an (by simp[z])]at hx;rw[aD z]at cn;simp only[go_sem,aF h1,hj2,hlen];refine⟨by omega,?_⟩;refine aa (cn) ?_;refine aH (j+1) ⟨show j+1<=12 by omega,hx⟩ (show 12-(j+1)<12-j by omega) (Wk.of ?_ ?_)
  .simp only[go_sem,e8];try simp
  .simp only[go_sem]
 .rw[az z]at hx;subst hx;rw[ac z]at cn;simp only[go_sem,aF h1,hj2,hlen];refine⟨by omega,?_⟩;refine ae (cn) ?_;simp only[go_sem,hj2,hlen];refine⟨by omega,?_⟩;exact aq [] (by simp only[go_sem];try rfl) (by rfl)
end
section
open Go Go.Mw
def aiW:(12:Int)≠0:=by decide
attribute[local go_sem] bY aM fZ fY bT iB Kw Ue ajy
def RR(m:Md)(hb:B_ m)(hc:ckB m)(hR:rlB m):aj pg xx [ba m] (.agg (fq (ee 9 0 (m.els.map (yw (bO m))) cB))):=by
 refine ao xj ?_;have h1:=hb.els;have ci:=gJ m hb.ims 3;have hIn:=λ{j:Nat}(h:j<m.els.length)=>A_ (yw (bO m)) h;obtain⟨I,hI⟩:∃I,m.els.map (yw (bO m))=I:=⟨_,rfl⟩
 have hIl:I.length=m.els.length:=by rw[<-hI,bY]
 rw[hI]at hIn⊢;obtain⟨G,hG⟩:∃G,ee 9 0 I cB=G:=⟨_,rfl⟩
 rw[hG];simp only[ba,aM]at ci;simp only[go_sem,xj,ba];refine aa (ci) ?_;refine aA (λj:Nat=>⟨[(4,.int .i64 j),(3,.int .i64 (dH 3 m.ims:Nat)),(1,.mp 1 12 0 0),(2,.mp 2 4 0 0)],QZ m⟩) (λj=>j<=m.els.length/\ee 9 j (I.drop j) cB=G) (λj=>m.els.length-j) 0 ⟨dx _,hG⟩ (Wk.of ?_ ?_) ?_
 .simp only[go_sem];try simp
 .simp only[go_sem];try simp
 rintro j ⟨hj,hx⟩;by_cases q:(j:Int)<(m.els.length:Int);rotate_left
 .rw[B0 (by omega)]at hx;subst hx;simp only[go_sem,aI q];exact aq [] (by rfl) (by rfl)
 have hj':j<m.els.length:=by omega
 have e8:=cK hj' (by omega);have hr:=hIn hj';have hm:av m.els j∈m.els:=by rw[aY hj'];exact eH _
 obtain⟨d1,d2,d3,d4⟩:=hR.ei _ hm;obtain⟨d5,d6,d7⟩:=hc.e _ hm;have cf1:=dK 9 j 0 11 zA;have cf2:=dK 9 j 0 12 aiW;generalize hX:av m.els j=x at hr d1 d2 d3 d4 d5 d6 d7;have co:=Ma m 9 j (x.mo==0) x.o hb d1 d5;have ct:=uZ m hb.ims hb.tb x.tb d3 d4;unfold yw at hr;by_cases z:x.mo=0;rotate_left
 .rw[an z]at hr;rw[ac z,show SC 9 j false (dD (bO m) x.o 1)=cB from rfl,O1]at co;simp only[ba,aM]at co;simp only[go_sem,aF q,hX];refine⟨by omega,q,?_⟩;simp only[go_sem,ac z];refine aa (co) ?_;refine aA (λk:Nat=>⟨[(9,.int .i64 k),(5,.mp 5 5 0 0),(4,.int .i64 j),(3,.int .i64 (dH 3 m.ims:Nat)),(1,.mp 1 12 0 0),(2,.mp 2 4 0 0)],(5,⟨86,5,[Kq x],true⟩)::QZ m⟩) (λk=>k<=x.it.length/\av I j=rL (bO m) x.ty (x.it.drop k)) (λk=>x.it.length-k) 0 ⟨dx _,hr⟩ (Wk.of ?_ ?_) ?_
  .simp only[go_sem];try simp
  .simp only[go_sem,hX];try simp
  rintro k ⟨hk1,hk2⟩;by_cases q2:(k:Int)<(x.it.length:Int)
  .have hk':k<x.it.length:=by omega
   have e9:=cK hk' (by omega);have hkm:av x.it k∈x.it:=by rw[aY hk'];exact eH _
   have cc:=C7 m (av x.it k) x.ty hb (d2 _ hkm) (d7 _ hkm);rw[XO hk']at hk2;generalize dD (bO m) (av x.it k) x.ty=R2 at cc hk2;obtain⟨a2,e2⟩:=R2;simp only[ba,aM]at cc;by_cases w2:e2=0
   .rw[an (λu=>u w2)]at hk2;simp only[go_sem,aF q2];refine⟨by omega,q2,?_⟩;refine ae (cc) ?_;simp only[go_sem,ay w2];refine aH (k+1) ⟨show k+1<=x.it.length by omega,hk2⟩ (show x.it.length-(k+1)<x.it.length-k by omega) (Wk.of ?_ ?_)
    .simp only[go_sem,e9];try simp
    .simp only[go_sem];try simp
   .rw[az w2]at hk2;have hG2:=lW (by omega) hk2 w2 hx;have cf:=dK 9 j a2 e2 w2;rw[hG2];simp only[go_sem,aF q2];refine⟨by omega,q2,?_⟩;refine ae (cc) ?_;simp only[go_sem,aE w2];refine aa (cf) ?_;exact ah
  rw[a_ (by omega),rL]at hk2;have hG2:=sC (by omega) hk2 rfl hx;simp only[go_sem,aI q2];refine aH (j+1) ⟨show j+1<=m.els.length by omega,hG2⟩ (show m.els.length-(j+1)<m.els.length-j by omega) (Wk.of ?_ ?_)
  .simp only[go_sem,e8];try simp
  .simp only[go_sem];try simp
 rw[az z]at hr;rw[aD z]at co;simp only[ba,aM]at co;generalize hT:cx (bO m).tb x.tb=Tb at ct hr;cases Tb with
 | none =>
  simp only[ba,aM,bT]at ct;have hG2:=lW (by omega) hr zA hx;rw[hG2];simp only[go_sem,aF q,hX];refine⟨by omega,q,?_⟩;simp only[go_sem,aD z];refine ae (ct) ?_;simp only[go_sem,Option.isSome_none];refine aa (cf1) ?_;exact ah
 | some t =>
  simp only[ba,aM,bT,Option.isSome_some,cG]at ct;dsimp only at hr;by_cases z2:t.e=x.ty;rotate_left
  .rw[az z2]at hr;have hG2:=lW (by omega) hr aiW hx;rw[hG2];simp only[go_sem,aF q,hX];refine⟨by omega,q,?_⟩;simp only[go_sem,aD z];refine ae (ct) ?_;simp only[go_sem,aE z2];refine aa (cf2) ?_;exact ah
  rw[an (λw=>w z2)]at hr;generalize dD (bO m) x.o 1=R at hr co;obtain⟨a,e⟩:=R;by_cases w:e=0;rotate_left
  .rw[az w]at hr;have hG2:=lW (by omega) hr w hx;rw[show SC 9 j true (a,e) =⟨9,j,a,e⟩ from by unfold SC;rw[an (by decide),an w]]at co;rw[hG2];simp only[go_sem,aF q,hX];refine⟨by omega,q,?_⟩;simp only[go_sem,aD z];refine ae (ct) ?_;simp only[go_sem,ay z2,aD z];refine ae (co) ?_;simp only[go_sem,aE w];exact ah
  rw[an (λu=>u w)]at hr;rw[show SC 9 j true (a,e)=cB from by unfold SC;rw[an (by decide),az w],O1]at co;simp only[go_sem,aF q,hX];refine⟨by omega,q,?_⟩;simp only[go_sem,aD z];refine ae (ct) ?_;simp only[go_sem,ay z2,aD z];refine aa (co) ?_;refine aA (λk:Nat=>⟨[(9,.int .i64 k),(5,.mp 5 5 0 0),(4,.int .i64 j),(3,.int .i64 (dH 3 m.ims:Nat)),(1,.mp 1 12 0 0),(2,.mp 2 4 0 0)],(5,⟨86,5,[Kq x],true⟩)::QZ m⟩) (λk=>k<=x.it.length/\av I j=rL (bO m) x.ty (x.it.drop k)) (λk=>x.it.length-k) 0 ⟨dx _,hr⟩ (Wk.of ?_ ?_) ?_
  .simp only[go_sem];try simp
  .simp only[go_sem,hX];try simp
  rintro k ⟨hk1,hk2⟩;by_cases q2:(k:Int)<(x.it.length:Int)
  .have hk':k<x.it.length:=by omega
   have e9:=cK hk' (by omega);have hkm:av x.it k∈x.it:=by rw[aY hk'];exact eH _
   have cc:=C7 m (av x.it k) x.ty hb (d2 _ hkm) (d7 _ hkm);rw[XO hk']at hk2;generalize dD (bO m) (av x.it k) x.ty=R2 at cc hk2;obtain⟨a2,e2⟩:=R2;simp only[ba,aM]at cc;by_cases w2:e2=0
   .rw[an (λu=>u w2)]at hk2;simp only[go_sem,aF q2];refine⟨by omega,q2,?_⟩;refine ae (cc) ?_;simp only[go_sem,ay w2];refine aH (k+1) ⟨show k+1<=x.it.length by omega,hk2⟩ (show x.it.length-(k+1)<x.it.length-k by omega) (Wk.of ?_ ?_)
    .simp only[go_sem,e9];try simp
    .simp only[go_sem];try simp
   .rw[az w2]at hk2;have hG2:=lW (by omega) hk2 w2 hx;have cf:=dK 9 j a2 e2 w2;rw[hG2];simp only[go_sem,aF q2];refine⟨by omega,q2,?_⟩;refine ae (cc) ?_;simp only[go_sem,aE w2];refine aa (cf) ?_;exact ah
  rw[a_ (by omega),rL]at hk2;have hG2:=sC (by omega) hk2 rfl hx;simp only[go_sem,aI q2];refine aH (j+1) ⟨show j+1<=m.els.length by omega,hG2⟩ (show m.els.length-(j+1)<m.els.length-j by omega) (Wk.of ?_ ?_)
  .simp only[go_sem,e8];try simp
  .simp only[go_sem];try simp
def adD{p:List Int}{k:Nat}(h:k<p.length)(a:Int):((p.take (k+1)).any λy=>y==a)=(((p.take k).any λy=>y==a)||(av p k==a)):=by
 rw[Fm h,List.any_append,List.any_cons,List.any_nil,Bool.or_false]
def YN{p:List Int}{a:Int}:(p.any λy=>y==a)=decide (a∈p):=by
 rw[xJ,vp,ol];constructor
 .rintro⟨y,hy,e⟩;rw[<-beq_iff_eq.1 e];exact hy
 .intro h;exact⟨a,h,beq_self_eq_true a⟩
def L6(m:Md)(hc:ckB m)(hR:rlB m):aj pg sP [ba m] (.agg (fq (ee 11 0 (mE (wv m) 0 m.cs) cB))):=by
 refine ao sj ?_;have h1:=hc.c;have cs:=WM m;have hpl:=PH m;have hIn:=λ{j:Nat}(h:j<m.cs.length)=>JX (wv m) m.cs 0 j h;have hIl:=Df (wv m) m.cs 0;generalize mE (wv m) 0 m.cs=I at hIn hIl⊢;generalize wv m=p at cs hpl hIn;obtain⟨G,hG⟩:∃G,ee 11 0 I cB=G:=⟨_,rfl⟩
 rw[hG];simp only[ba,aM]at cs;simp only[go_sem,sj,ba];refine aa (cs) ?_;refine aA (λj:Nat=>⟨[(4,.int .i64 j),(3,.sl 1 (p.map ri)),(1,.mp 1 12 0 0),(2,.mp 2 4 0 0)],QZ m⟩) (λj=>j<=m.cs.length/\ee 11 j (I.drop j) cB=G) (λj=>m.cs.length-j) 0 ⟨dx _,hG⟩ (Wk.of ?_ ?_) ?_
 .simp only[go_sem];try simp
 .simp only[go_sem];try simp
 rintro j ⟨hj,hx⟩;by_cases q:(j:Int)<(m.cs.length:Int);rotate_left
 .rw[B0 (by omega)]at hx;subst hx;simp only[go_sem,aI q];exact aq [] (by rfl) (by rfl)
 have hj':j<m.cs.length:=by omega
 have e8:=cK hj' (by omega);have hr:=hIn hj';have hm:av m.cs j∈m.cs:=by rw[aY hj'];exact eH _
 have ha:=hR.ca _ hm;have cf:=dK 11 j 0 7 n7_;obtain⟨a,hA⟩:∃a,(av m.cs j).af=a:=⟨_,rfl⟩
 have hcu:Y9 p (Hv 0 m.cs j) (av m.cs j)=if a<Hv 0 m.cs j\/(a≠0/\a∉p)then(0,7)else(0,0):=by unfold Y9;rw[hA]
 rw[hcu]at hr;rw[hA]at ha;simp only[go_sem,aF q,hA];refine⟨by omega,q,?_⟩;refine aA (λk:Nat=>⟨[(7,.int .i64 k),(6,.bool ((a==0)||((p.take k).any λy=>y==a))),(5,.int .i64 a),(4,.int .i64 j),(3,.sl 1 (p.map ri)),(1,.mp 1 12 0 0),(2,.mp 2 4 0 0)],QZ m⟩) (λk=>k<=p.length) (λk=>p.length-k) 0 (dx _) (Wk.of ?_ ?_) ?_
 .simp only[go_sem,jK,List.any_nil,Bool.or_false];try simp
 .simp only[go_sem];try simp
 intro k hk;by_cases q2:(k:Int)<(p.length:Int)
 .have hk':k<p.length:=by omega
  have e9:=cK hk' (by omega);have hat:=adD hk' a;by_cases b0:((a==0)||((p.take k).any λy=>y==a))=true
  .have b1:((a==0)||((p.take (k+1)).any λy=>y==a))=true:=by
    rw[hat,<-Bool.or_assoc,b0,nx]
   simp only[go_sem,aF q2,b0];refine aH (k+1) (show k+1<=p.length by omega) (show p.length-(k+1)<p.length-k by omega) (Wk.of ?_ ?_)
   .simp only[go_sem,e9,b1];try simp
   .simp only[go_sem];try simp
  .replace b0:((a==0)||((p.take k).any λy=>y==a))=false:=Bool.eq_false_iff.2 b0;have b1:((a==0)||((p.take (k+1)).any λy=>y==a))=(av p k==a):=by
    rw[hat,<-Bool.or_assoc,b0,jW]
   simp only[go_sem,aF q2,b0];refine⟨by omega,q2,?_⟩;refine aH (k+1) (show k+1<=p.length by omega) (show p.length-(k+1)<p.length-k by omega) (Wk.of ?_ ?_)
   .simp only[go_sem,e9,b1];try simp
   .simp only[go_sem];try simp
 obtain rfl:k=p.length:=by omega
 rw[rN,YN];have hdis:((a==0)||decide (a∈p))=false↔(a≠0/\a∉p):=by
  rw[Bool.or_eq_false_iff,decide_eq_false_iff_not,OD]
 by_cases b0:((a==0)||decide (a∈p))=true;rotate_left
 .replace b0:((a==0)||decide (a∈p))=false:=Bool.eq_false_iff.2 b0;rw[az (.inr (hdis.1 b0))]at hr;have hG2:=lW (by omega) hr n7_ hx;rw[hG2];simp only[go_sem,aI q2,b0];refine aa (cf) ?_;exact ah
 have hnd:¬(a≠0/\a∉p):=λw=>by rw[hdis.2 w]at b0;cases b0
 cases j with
 | zero =>
  rw[an (by rintro(w|w);exact absurd w (by show ¬a<0;omega);exact hnd w)]at hr;have hG2:=sC (by omega) hr rfl hx;simp only[go_sem,aI q2,b0,show decide (((0:Nat):Int)>0)=false from rfl];refine aH 1 ⟨show 1<=m.cs.length by omega,hG2⟩ (show m.cs.length-1<m.cs.length-0 by omega) (Wk.of ?_ ?_)
  .simp only[go_sem,e8];try simp
  .simp only[go_sem];try simp
 | succ i =>
  have w1:IntKind.i64.wrap (((i+1:Nat):Int)-1)=(i:Int):=by rw[wi (by omega) (by omega)];omega
  have hla:Hv 0 m.cs (i+1)=(av m.cs i).af:=by unfold Hv;rw[an (by omega)];rfl
  rw[hla]at hr;by_cases b1:a<(av m.cs i).af
  .rw[az (.inl b1)]at hr;have hG2:=lW (by omega) hr n7_ hx;rw[hG2];simp only[go_sem,aI q2,b0,show decide (((i+1:Nat):Int)>0)=true from aF (by omega),w1,cL,aF b1];refine⟨by omega,by omega,?_⟩;refine aa (cf) ?_;exact ah
  .rw[an (by rintro(w|w);exact b1 w;exact hnd w)]at hr;have hG2:=sC (by omega) hr rfl hx;simp only[go_sem,aI q2,b0,show decide (((i+1:Nat):Int)>0)=true from aF (by omega),w1,cL,aI b1];refine⟨by omega,by omega,?_⟩;refine aH (i+1+1) ⟨show i+1+1<=m.cs.length by omega,hG2⟩ (show m.cs.length-(i+1+1)<m.cs.length-(i+1)by omega) (Wk.of ?_ ?_)
   .simp only[go_sem,e8];try simp
   .simp only[go_sem];try simp
end
section
open Go Go.Mw
def X2(m:Md):Fa:=ee 6 0 (m.gs.map λg=>dD (bO m) g.i g.g.v) cB
def fA4(m:Md):Fa:=ee 7 0 (kR (bO m) [] m.exs) cB
def Zm(m:Md):Fa:=if m.hs=true then ee 8 0 [CJ (bO m) m.st] cB else cB
def fA6(m:Md):Fa:=ee 9 0 (m.els.map (yw (bO m))) cB
def fA7(m:Md):Fa:=ee 10 0 (m.ds.map (CI (bO m))) cB
def fA8(m:Md):Fa:=ee 11 0 (mE (wv m) 0 m.cs) cB
def fA9(m:Md):Fa:=ee 12 0 (m.fs.map (iw m (bO m))) cB
def Y3{m:Md}(h:(kB rA m).c=0):kO m=if(OP m (bO m)).c≠0 then OP m (bO m)else if(X2 m).c≠0 then X2 m else if(fA4 m).c≠0 then fA4 m else if(Zm m).c≠0 then Zm m else if(fA6 m).c≠0 then fA6 m else
  if(fA7 m).c≠0 then fA7 m else if(fA8 m).c≠0 then fA8 m else fA9 m:=by
 have l2:(OP m (bO m)).c=0->OP m (bO m)=cB:=iS (iS λ_=>rfl);have l5:(Zm m).c=0->Zm m=cB:=λq=>by
  unfold Zm at q⊢;split at q
  .rename_i z;rw[az z];exact iS (λ_=>rfl) q
  .rename_i z;rw[an z]
 unfold kO;rw[an (λq=>q h)];have bad:∀(n:Int)(l:List (Int×Int))(F:Fa),F.c≠0->ee n 0 l F=F:=λn l F hF=>DS F hF;have c5:∀F:Fa,Sy m (bO m)=F->QH m (bO m)=if m.hs=true then ee 8 0 [CJ (bO m) m.st] F else F:=λF e=>by unfold QH;rw[e]
 by_cases h2:(OP m (bO m)).c=0;rotate_left
 .rw[az h2];have e3:ck3 m (bO m)=OP m (bO m):=bad _ _ _ h2;have e4:Sy m (bO m)=OP m (bO m):=by unfold Sy;rw[e3];exact bad _ _ _ h2
  have e5:QH m (bO m)=OP m (bO m):=by rw[c5 _ e4];split;exact bad _ _ _ h2;rfl
  unfold XZ TJ Y4 ck6;rw[e5,bad 9 _ _ h2,bad 10 _ _ h2,bad 11 _ _ h2,bad 12 _ _ h2]
 rw[an (λq=>q h2)];have e3:ck3 m (bO m)=X2 m:=by unfold ck3 X2;rw[l2 h2]
 by_cases h3:(X2 m).c=0;rotate_left
 .rw[az h3];have e4:Sy m (bO m)=X2 m:=by unfold Sy;rw[e3];exact bad _ _ _ h3
  have e5:QH m (bO m)=X2 m:=by rw[c5 _ e4];split;exact bad _ _ _ h3;rfl
  unfold XZ TJ Y4 ck6;rw[e5,bad 9 _ _ h3,bad 10 _ _ h3,bad 11 _ _ h3,bad 12 _ _ h3]
 rw[an (λq=>q h3)];have e4:Sy m (bO m)=fA4 m:=by unfold Sy;rw[e3,show X2 m=cB from iS (λ_=>rfl) h3];rfl
 by_cases h4:(fA4 m).c=0;rotate_left
 .rw[az h4];have e5:QH m (bO m)=fA4 m:=by rw[c5 _ e4];split;exact bad _ _ _ h4;rfl
  unfold XZ TJ Y4 ck6;rw[e5,bad 9 _ _ h4,bad 10 _ _ h4,bad 11 _ _ h4,bad 12 _ _ h4]
 rw[an (λq=>q h4)];have e5:QH m (bO m)=Zm m:=by rw[c5 _ e4,show fA4 m=cB from iS (λ_=>rfl) h4];rfl
 by_cases h5:(Zm m).c=0;rotate_left
 .rw[az h5];unfold XZ TJ Y4 ck6;rw[e5,bad 9 _ _ h5,bad 10 _ _ h5,bad 11 _ _ h5,bad 12 _ _ h5]
 rw[an (λq=>q h5)];have e6:ck6 m (bO m)=fA6 m:=by unfold ck6;rw[e5,l5 h5];rfl
 by_cases h6:(fA6 m).c=0;rotate_left
 .rw[az h6];unfold XZ TJ Y4;rw[e6,bad 10 _ _ h6,bad 11 _ _ h6,bad 12 _ _ h6]
 rw[an (λq=>q h6)];have e7:Y4 m (bO m)=fA7 m:=by unfold Y4;rw[e6,show fA6 m=cB from iS (λ_=>rfl) h6];rfl
 by_cases h7:(fA7 m).c=0;rotate_left
 .rw[az h7];unfold XZ TJ;rw[e7,bad 11 _ _ h7,bad 12 _ _ h7]
 rw[an (λq=>q h7)];have e8:TJ m (bO m)=fA8 m:=by unfold TJ;rw[e7,show fA7 m=cB from iS (λ_=>rfl) h7];rfl
 by_cases h8:(fA8 m).c=0;rotate_left
 .rw[az h8];unfold XZ;rw[e8,bad 12 _ _ h8]
 rw[an (λq=>q h8)];unfold XZ;rw[e8,show fA8 m=cB from iS (λ_=>rfl) h8];rfl
attribute[local go_sem] bY aM Kw
def RO(m:Md)(hm:yD m):aj pg GE [ba m] (.agg (fq (kO m))):=by
 refine ao ph ?_;have cl:aj pg uP [ba m] (.agg (fq (kB rA m))):=WD rA m hm (λy hy=>WJ y hy);by_cases h0:(kB rA m).c=0;rotate_left
 .have e:kO m=kB rA m:=by unfold kO;exact az h0
  rw[e];simp only[ba,aM,Kw]at cl;generalize kB rA m=F at cl h0⊢;simp only[go_sem,ph,ba];refine ae (cl) ?_;simp only[go_sem,aE h0];exact ah
 have hc:=M2 m hm h0;have hR:=agm hm h0;have hb:=hc.sp;rw[Y3 h0];have c2:aj pg sS [ba m] (.agg (fq (OP m (bO m)))):=L9 m hb;have c3:aj pg sR [ba m] (.agg (fq (X2 m))):=L8 m hb hR;have c4:aj pg sQ [ba m] (.agg (fq (fA4 m))):=L7 m hb hR;have c5:aj pg xB [ba m] (.agg (fq (Zm m))):=RV m hb hR;have c6:aj pg xx [ba m] (.agg (fq (fA6 m))):=RR m hb hc hR;have c7:aj pg xw [ba m] (.agg (fq (fA7 m))):=RQ m hb hc hR;have c8:aj pg sP [ba m] (.agg (fq (fA8 m))):=L6 m hc hR;have c9:aj pg uR [ba m] (.agg (fq (fA9 m))):=N_ m hc hR;generalize kB rA m=F0 at cl h0;generalize OP m (bO m)=F2 at c2⊢;generalize X2 m=F3 at c3⊢;generalize fA4 m=F4 at c4⊢;generalize Zm m=F5 at c5⊢;generalize fA6 m=F6 at c6⊢;generalize fA7 m=F7 at c7⊢;generalize fA8 m=F8 at c8⊢;generalize fA9 m=F9 at c9⊢;clear hc hR hb;simp only[ba,aM,Kw]at cl c2 c3 c4 c5 c6 c7 c8 c9;simp only[go_sem,ph,ba];refine ae (cl) ?_;simp only[go_sem,ay h0];refine ae (c2) ?_;by_cases h2:F2.c=0;rotate_left
 .rw[az h2];simp only[go_sem,aE h2];exact ah
 rw[an (λq=>q h2)];simp only[go_sem,ay h2];refine ae (c3) ?_;by_cases h3:F3.c=0;rotate_left
 .rw[az h3];simp only[go_sem,aE h3];exact ah
 rw[an (λq=>q h3)];simp only[go_sem,ay h3];refine ae (c4) ?_;by_cases h4:F4.c=0;rotate_left
 .rw[az h4];simp only[go_sem,aE h4];exact ah
 rw[an (λq=>q h4)];simp only[go_sem,ay h4];refine ae (c5) ?_;by_cases h5:F5.c=0;rotate_left
 .rw[az h5];simp only[go_sem,aE h5];exact ah
 rw[an (λq=>q h5)];simp only[go_sem,ay h5];refine ae (c6) ?_;by_cases h6:F6.c=0;rotate_left
 .rw[az h6];simp only[go_sem,aE h6];exact ah
 rw[an (λq=>q h6)];simp only[go_sem,ay h6];refine ae (c7) ?_;by_cases h7:F7.c=0;rotate_left
 .rw[az h7];simp only[go_sem,aE h7];exact ah
 rw[an (λq=>q h7)];simp only[go_sem,ay h7];refine ae (c8) ?_;by_cases h8:F8.c=0;rotate_left
 .rw[az h8];simp only[go_sem,aE h8];exact ah
 rw[an (λq=>q h8)];simp only[go_sem,ay h8];refine aa (c9) ?_;exact ah
def XR(m:Md)(hs:yD m):aj pg wk [ba m] (.bool true):=by
 refine ao mT ?_;have cs:=abW hs;have al:=R3;have cv:=Dh m hs;have co:=aj6 m hs;have cr:=RO m hs;have hl:=λq=>adO (m:=m) q;generalize kO m=F at cv co cr hl;simp only[ba,aM,Kw]at cs cv co cr;simp only[go_sem,mT,ba];refine ae (cs) ?_;cases hq:agx m
 .simp only[go_sem];refine aa (al) ?_;exact ah
 simp only[go_sem];refine aa (cv) ?_;refine ax cr (by simp[go_sem]) rfl ?_;by_cases h0:F.c=0
 .obtain rfl:=hl h0;simp only[go_sem,beq_self_eq_true,Bool.and_self,show cB.c=0 from rfl,show cB.p=0 from rfl,show cB.i=0 from rfl,show cB.l=0 from rfl];refine ax co (by simp[go_sem]) rfl ?_;simp only[go_sem,beq_self_eq_true,Bool.and_self,show cB.c=0 from rfl];refine aa (al) ?_;exact ah
 .simp only[go_sem,beq_self_eq_true,Bool.and_self];refine ax co (by simp[go_sem]) rfl ?_;simp only[go_sem,ac h0,aE h0,beq_self_eq_true];refine aa (al) ?_;exact ah
