import Derived.Test.YtdfofedlbljnhaaGreatDoorWQr
set_option linter.all false
set_option maxRecDepth 100000
set_option maxHeartbeats 40000000
namespace Go.Proofs.YtdfofedlbljnhaaGreatDoor
section
open Go Go.Mw
def TN:List (List AV)->List (List AV)->Prop
 | [],[]=>True
 | x::l,y::m=>ZK x y/\TN l m
 | _,_=>False
def zl:∀{l m:List (List AV)},TN l m->m.length=l.length
 | [],[],_=>rfl
 | _::_,_::_,h=>by simp[zl h.2]
 | [],_::_,h=>h.elim
 | _::_,[],h=>h.elim
def DF:∀{l m:List (List AV)},TN l m->∀{j:Nat}{y:List AV},m[j]?=some y->∃x,l[j]?=some x/\ZK x y
 | [],[],_,j,y,hy=>by simp at hy
 | x::l,z::m,h,0,y,hy=>by simp at hy;subst hy;exact⟨x,rfl,h.1⟩
 | x::l,z::m,h,j+1,y,hy=>by simpa using DF h.2 (j:=j) (by simpa using hy)
 | [],_::_,h,_,_,_=>h.elim
 | _::_,[],h,_,_,_=>h.elim
def Wk.nla(s:St)(i:Nat){t:TypeId}{st:Nat}{rs rs':List (List AV)}(hi:ak s.heap i=some ⟨t,st,rs,false⟩)(hr:TN rs rs'):Wk s ⟨s.env,(i,⟨t,st,rs',false⟩)::s.heap⟩:=by
 rintro c a w ⟨bl,hs⟩;have hm:∀b,bK bl c.MF (ak ((i,⟨t,st,rs',false⟩)::s.heap)) b↔bK bl c.MF (ak s.heap) b:=bK.congr λj=>by
  simp only[ak];split
  .rename_i h;subst h;rw[hi];rfl
  .rfl
 have ht:=Tr.of_iff (w:=w) λb=>(hm b)
 refine⟨bl,hs.defers,hs.size,λj=>(hs.env j).tr ht (λ_ _=>rfl),⟨λj o hj=>?_,λj j' o o' b h1 h2=>?_⟩,hs.step,λj o b h1=>?_,hs.stab,hs.mf⟩
 .simp only[ak]at hj;split at hj
  .rename_i hij;subst hij;cases hj;rcases hs.heap.1 i _ hi with hn|⟨b,g1,⟨gk,c1,fr,g2,g3,g4,g5,g6,g7⟩|hsp⟩
   .have e:rs'=[]:=by
     have h1:=zl hr;have h2:rs=[]:=hn.1;rw[h2]at h1;exact zU h1
    subst e;exact .inl ⟨rfl,hn.2⟩
   rotate_left
   .have e:rs'=[]:=by
     have h1:=zl hr;have h2:rs=[]:=hsp.rows;rw[h2]at h1;exact zU h1
    subst e;exact .inr ⟨b,g1,.inr ⟨rfl,rfl,hsp.free,hsp.rel⟩⟩
   .refine .inr ⟨b,g1,.inl ⟨gk,c1,fr,g2,g3,g4,λk q hq=>?_,by rw[zl hr];exact g6,λk q u x hu hx=>?_⟩⟩
    .obtain⟨r0,h1,h2⟩:=DF hr hq;rw[H9 h2];exact g5 k r0 h1
    .obtain⟨r0,h1,h2⟩:=DF hr hu;obtain⟨x0,h3,h4⟩:=H8 h2 hx;obtain⟨v,hv1,hv2⟩:=g7 k q r0 x0 h1 h3;refine⟨v,hv1,?_⟩;have hv3:IRel (bK bl c.MF (ak s.heap)) w v x0:=hv2;rcases h4 with h4|⟨h4,st',h5⟩
     .subst h4;exact hv3.tr ht.keep
     .subst h4 h5;exact(IRel.nl_sl hv3 st').tr ht.keep
  .rcases hs.heap.1 j o hj with hn|⟨b,g1,⟨gk,c1,fr,g2,g3,g4,g5,g6,g7⟩|hsp⟩
   .exact .inl hn
   rotate_left
   .exact .inr ⟨b,g1,.inr hsp⟩
   .refine .inr ⟨b,g1,.inl ⟨gk,c1,fr,g2,g3,g4,g5,g6,λk q u x hu hx=>?_⟩⟩;obtain⟨v,hv1,hv2⟩:=g7 k q u x hu hx;refine⟨v,hv1,?_⟩;cases hrec:o.isRec<;>simp only[hrec,Br]at hv2⊢
    .exact hv2.tr ht.keep
    .exact hv2.tr ht (λ_ _=>rfl)
 .have key:∀{j:Nat}{o:ao},ak ((i,⟨t,st,rs',false⟩)::s.heap) j=some o->∃o',ak s.heap j=some o':=λ{j o} hj=>by
   simp only[ak]at hj;split at hj
   .rename_i hij;subst hij;exact⟨_,hi⟩
   .exact⟨_,hj⟩
  obtain⟨p1,q1⟩:=key h1;obtain⟨p2,q2⟩:=key h2;exact hs.heap.2 j j' p1 p2 b q1 q2
 .simp only[ak]at h1;split at h1
  .rename_i hij;subst hij;exact hs.own i _ b hi
  .exact hs.own j o b h1
def yE(b:List UInt8)(n:Nat):PS (List bj):=pI (n<4) (pb (tL b) λk=>pP (Mu k)) (iV (gX b) [])
def ZM(b:List UInt8)(n:Nat):eM b (yE b n) (gIt n b):=(tK.bd λk=>eM.pure (Mu (k:Nat))).ite ((jj b).oks [])
def ahD:∀n:Fin 8,(bU .i64 ((n.val:Nat):Int) 4 != 0)=decide (¬n.val<4):=by decide
def ab4(k:Int):TN [[.int .i64 210,.int .i64 k,.int .i64 0,.int .u64 0,.int .i64 0,.int .i64 0,.int .i64 0,.nl,.nl],[.int .i64 11,.int .i64 0,.int .i64 0,.int .u64 0,.int .i64 0,.int .i64 0,.int .i64 0,.nl,.nl]] ((Mu k).map aS) :=
 ⟨⟨.inl rfl,.inl rfl,.inl rfl,.inl rfl,.inl rfl,.inl rfl,.inl rfl,.inr ⟨rfl,1,rfl⟩,.inr ⟨rfl,1,rfl⟩,trivial⟩,⟨.inl rfl,.inl rfl,.inl rfl,.inl rfl,.inl rfl,.inl rfl,.inl rfl,.inr ⟨rfl,1,rfl⟩,.inr ⟨rfl,1,rfl⟩,trivial⟩,trivial⟩
def tT(n:Nat):ao:=⟨3,1,[[.int .i64 (n:Nat)]],true⟩
variable{b:List UInt8}(hb:b.length<1000000000)
include hb
attribute[local go_sem] cU ro wa
def aiD{n:Nat}(hn:n<=7)(a:Nat)(e:Int)(ha:a<=b.length):aX pg dN [.mp 1000 4 0 0,.mp 1001 1 0 0] [(1000,ro true b a e),(1001,tT n)] sb
  (λr' σ'=>r'=exs (yE b n a e).1/\σ'=[(1000,ro true b ((yE b n a e).2.1:Nat) (yE b n a e).2.2),(1001,tT n)]):=by
 refine bT iG ?_;have f:=ahD ⟨n,by omega⟩;simp only at f;have hR:yE b n a e=yE b n a e:=rfl
 conv at hR=>rhs;simp only[yE,pI,pb,pP]
 generalize yE b n a e=R at*;by_cases h4:n<4
 .rw[aM (λh=>h h4)]at f;simp only[aF h4]at hR;simp only[go_sem,iG,tT,f];refine ae (N9 hb a e ha) ?_;generalize tL b a e=y at*;obtain⟨k,a1,e1⟩:=y;simp only at hR⊢;subst hR;simp only[go_sem];refine bS (Wk.nla _ 13 (rs':=(Mu (k:Nat)).map aS) (by rfl) (ab4 _)) [13] (exs (Mu (k:Nat))) [(1000,ro true b a1 e1),(1001,tT n)] ?_ (by simp only[go_sem,tT]) rfl ⟨rfl,rfl⟩;simp only[go_sem];rfl
 .rw[aL h4]at f;simp only[au h4]at hR;simp only[go_sem,iG,tT,f];refine ae (Vv hb a e ha) ?_;generalize iV (gX b) [] a e=y at*;obtain⟨k,a1,e1⟩:=y;subst hR;simp only;simp only[go_sem];exact done [] _ [(1000,ro true b a1 e1),(1001,tT n)] (by simp only[go_sem,exs]) (by simp only[go_sem,tT]) rfl ⟨rfl,rfl⟩
end
section
open Go Go.Mw
variable{b:List UInt8}(hb:b.length<1000000000)
include hb
attribute[local go_sem] cU ro wa jY
def vi{n:Nat}(hn:n<=7)(a:Nat)(e:Int)(ha:a<=b.length):aX pg dH [.mp 1000 4 0 0,.int .i64 256,.fn dN [.mp 1001 1 0 0]] [(1000,ro true b a e),(1001,tT n)] sb
  (λr' σ'=>r' = .sl 1 ((pL b (yE b n) 256 a e).1.map jY)/\σ'=[(1000,ro true b ((pL b (yE b n) 256 a e).2.1:Nat) (pL b (yE b n) 256 a e).2.2),(1001,tT n)]):=by
 refine bT fM ?_;simp only[go_sem,fM,tT];refine aH (Yj hb 256 a e ha) ?_;have hN:=zm (b:=b) (most:=256) (a:=a) (e:=e);have h0:pL b (yE b n) 256 a e=([]++(pN (yE b n) (pC b 256 a e).1 (pC b 256 a e).2.1 (pC b 256 a e).2.2).1,(pN (yE b n) (pC b 256 a e).1 (pC b 256 a e).2.1 (pC b 256 a e).2.2).2):=rfl;have hk:(pC b 256 a e).2.1<=b.length:=pj ha;generalize pL b (yE b n) 256 a e=R at*;generalize pC b 256 a e=c at*;obtain⟨N,a0,e0⟩:=c;simp only at hN h0 hk⊢;refine an (λq:Nat×List (List bj)×Nat×Int=>⟨[(8,.int .i64 (q.1:Nat)),(7,.ms 900 1 0 q.2.1.length),(6,.nl),(0,.mp 1000 4 0 0),(1,.int .i64 256),(2,.fn dN [.mp 1001 1 0 0])],[(900,⟨59,1,q.2.1.map jY,false⟩),(1000,ro true b q.2.2.1 q.2.2.2),(1001,tT n)]⟩)
  (λq=>q.2.2.1<=b.length/\q.2.1.length+q.1<=N/\R=(q.2.1++(pN (yE b n) q.1 q.2.2.1 q.2.2.2).1,(pN (yE b n) q.1 q.2.2.1 q.2.2.2).2)) (λq=>q.1) (N,[],a0,e0) ⟨hk,by simp,h0⟩ ((Wk.nil _ 7 900 1 59 (by simp only[go_sem]) (.inl (by decide))).trans (Wk.of ?_ ?_)) ?_
 .simp only[go_sem,St.mknil];try simp[go_sem]
 .simp only[go_sem,St.mknil,tT];try simp[go_sem]
 rintro⟨m,l,a1,e1⟩ ⟨h1,h2,h3⟩;simp only at h1 h2 h3;have happ:=λys=>bX 900 59 1 l.length jY l ys rfl;by_cases hm1:(m:Int)>0;rotate_left
 .obtain rfl:m=0:=by omega
  simp only[go_sem,aM hm1];subst h3;refine done [900] _ [(1000,ro true b a1 e1),(1001,tT n)] ?_ (by simp only[go_sem,tT]) rfl ⟨rfl,rfl⟩;simp only[go_sem,cU,bG];rw[dQ (by rw[cU];omega)];simp[pN,pP]
 obtain⟨m,rfl⟩:∃k,m=k+1:=⟨m-1,by omega⟩
 have hw1:IntKind.i64.wrap (((m+1:Nat):Int)-1)=(m:Int):=by rw[wi (by omega) (by omega)];omega
 simp only[go_sem,aL hm1];refine ae (aU true b a1 e1) ?_;by_cases he:e1=0;rotate_left
 .simp only[go_sem,pw he];rw[Yg he]at h3;subst h3;refine done [900] _ [(1000,ro true b a1 e1),(1001,tT n)] ?_ (by simp only[go_sem,tT]) rfl ⟨rfl,rfl⟩;simp only[go_sem,cU,bG];rw[dQ (by rw[cU];omega)]
  try simp
 subst he;simp only[go_sem];refine⟨by kernel_rfl,?_⟩;have c1:=aiD hb hn a1 0 h1;rw[Yf]at h3;have hk2:=(ZM b n a1 0 h1).1;generalize yE b n a1 0=y at*;obtain⟨x,a2,e2⟩:=y;simp only at h3 hk2 c1⊢;refine Jj c1 [] (λp hp=>?_) (λp hp=>?_) (λp hp=>?_) ?_
 .simp only[eA,wH,or_false]at hp;rcases hp with rfl|rfl<;>rfl
 .simp only[eA,wH,or_false]at hp;rcases hp with rfl|rfl
  .exact .inl ⟨⟨(by decide:1000<=1000),(by decide:1000<2000)⟩,rfl⟩
  .exact .inl ⟨⟨(by decide:1000<=1001),(by decide:1001<2000)⟩,rfl⟩
 .simp only[eA,wH,or_false]at hp;rcases hp with rfl|rfl<;>rfl
 simp only[go_sem,exs,dD,dx,k7,fA,tT,happ,hw1];refine⟨by omega,aE (m,l++[x],a2,e2) ⟨hk2,by simp;omega,by rw[h3];simp⟩ (show m<m+1 by omega) (Wk.of ?_ ?_)⟩
 .simp only[go_sem];try simp
 .simp only[go_sem,tT];try simp[go_sem,jY]
end
open Go Go.Mw
def pEt(b:List UInt8)(n:Nat):PS Int:=pI (n%4=0) (pP 3) (pI (n<4) (pb (fX b) λx=>pb (I4 4 (x≠0)) λ_=>pP 3) (iV (gV b) 0))
def Yc(b:List UInt8):PS El:=pb (tL b) λn=>pI (n>7) (pF 4 ⟨0,0,[],0,[]⟩) <|
 pb (pI (n%4=2) (pb (tL b) λx=>pP (x:Int)) (pP 0)) λtb=>pb (pI (n%2=0) (iV (gX b) []) (pP [])) λo=>pb (pEt b n) λt=>pb (pL b (yE b n) 256) λl=>pP ⟨cz n,tb,o,t,l⟩
def afO(b:List UInt8)(n:Nat):eM b (pEt b n) (λk2=>if n%4=0 then .ok (3,k2)else if n<4 then fP (gB b k2) λx k3=>if x=0 then .ok (3,k3)else .error (4,k3)else gV b k2):=by
 have h:=DL.bd (b:=b) (u:=λx=>pb (I4 4 (x≠0)) λ_=>pP (3:Int)) (r:=λx k=>if x≠0 then .error (4,k)else .ok ((3:Int),k)) λx=>eM.fi (by decide) (eM.pure 3);refine(eM.pure 3).ite ((h.congr λa=>?_).ite ((uV b).oks 0));congr 1;funext x k;by_cases hx:x=0
 .rw[au (λh=>h hx),aF hx]
 .rw[aF hx,au hx]
def afN(b:List UInt8):eM b (Yc b) (gEl b):=tK.bd λn=>(eM.fail (by decide) _).ite <|
 ((tK.bd λx=>eM.pure ((x:Nat):Int)).ite (eM.pure 0)).bd λtb=>(((jj b).oks []).ite (eM.pure [])).bd λo=>(afO b n).bd λt=>((ZM b n).l (g:=gIt n) 256).bd λl=>eM.pure (b:=b) (⟨cz n,tb,o,t,l⟩:El)
section
variable{b:List UInt8}(hb:b.length<1000000000)
include hb
omit hb in
def jW{n:Nat}{d:Option Nat}{s:St}{K:St->Prop}{a a9:Nat}{e e9:Int}{r:AV}(c1:aX pg dH [.mp 1000 4 0 0,.int .i64 256,.fn dN [.mp 1001 1 0 0]] [(1000,ro true b a e),(1001,tT n)] sb (λr' σ'=>r'=r/\σ'=[(1000,ro true b a9 e9),(1001,tT n)]))
  (h1:ak s.heap 1000=some (ro true b a e)) (h3:ak s.heap 3=some (tT n)) (hr:m8 (fw [(1001,3)]) r=r) (hK:K ((St.mk (dD [] s.env) ([(1000,ro true b a9 e9),(3,tT n)]++dx [] s.heap)).put d r)):cR pg dH [.mp 1000 4 0 0,.int .i64 256,.fn dN [.mp 3 1 0 0]] d s K:=by
 refine d_ (σ2:=[(1000,ro true b a e),(3,tT n)]) (r3:=r) (σ3:=[(1000,ro true b a9 e9),(3,tT n)]) c1 [(1001,3)] [] rfl rfl hr rfl (λp hp=>?_) (λp hp=>?_) (λp hp=>?_) hK
 .simp only[eA,wH,or_false]at hp;rcases hp with rfl|rfl
  .exact h1
  .exact h3
 .simp only[eA,wH,or_false]at hp;rcases hp with rfl|rfl
  .exact .inl ⟨⟨(by decide:1000<=1000),(by decide:1000<2000)⟩,rfl⟩
  .exact .inl ⟨⟨(by decide:1000<=1001),(by decide:1001<2000)⟩,rfl⟩
 .simp only[eA,wH,or_false]at hp;rcases hp with rfl|rfl<;>rfl
attribute[local go_sem] cU ro wa
theorem aiy:RP p_ [] b (Yc b) (λx=>.agg (fR x)):=by
 intro a e ha;refine bT pJ ?_;simp only[go_sem,pJ];refine ae (N9 hb a e ha) ?_;have k1:=(tK (b:=b) a e ha).1;have hR:Yc b a e=Yc b a e:=rfl
 conv at hR=>rhs;simp only[Yc,pEt,I4,pb,pP,pI,pF]
 generalize Yc b a e=R at*;generalize tL b a e=y at*;obtain⟨n,a1,e1⟩:=y;simp only at k1 hR⊢;by_cases hn:n>7
 .simp only[aF hn]at hR;simp only[go_sem,show decide ((n:Int)>7)=true from aL (by omega)];have cf:=Fr (b:=b) a1 e1 4;generalize (if e1=0 then(4:Int)else e1)=e3 at*;refine ae (cf) ?_;subst hR;simp only[go_sem];exact bS (Wk.nlm _ 2 (r':=fR ⟨0,0,[],0,[]⟩) rfl ⟨.inl rfl,.inl rfl,.inr ⟨rfl,.inl ⟨9,rfl⟩⟩,.inl rfl,.inr ⟨rfl,.inl ⟨1,rfl⟩⟩,trivial⟩) [] (.agg (fR ⟨0,0,[],0,[]⟩)) [(1000,ro true b a1 e3)] (by simp only[go_sem,fR]) (by simp only[go_sem]) rfl ⟨rfl,rfl⟩
 rcases(show n=0\/n=1\/n=2\/n=3\/n=4\/n=5\/n=6\/n=7 by omega)with rfl|rfl|rfl|rfl|rfl|rfl|rfl|rfl
 .simp (decide:=true) only[br,cD,↓reduceIte,Nat.reduceMod,Nat.zero_mod,Nat.reduceEqDiff,Nat.reduceLT]at hR;simp only[go_sem,show decide (((0:Nat):Int)>7)=false from rfl,show(bU .i64 ((0:Nat):Int) 1 != 0)=false from by decide,show(bU .i64 ((0:Nat):Int) 2 != 0)=false from by decide,show(bU .i64 ((0:Nat):Int) 4==0)=true from by decide,show(((0:Nat):Int)==0)=true from rfl,show(((0:Nat):Int)==4)=false from rfl];refine ae (Vv hb a1 e1 k1) ?_;have k2:=(((jj b).oks []) a1 e1 k1).1;generalize iV (gX b) [] a1 e1=y at*;obtain⟨ol,a2,e2⟩:=y;simp only at k2 hR⊢;simp only[go_sem,exs,show decide (((0:Nat):Int)>7)=false from rfl,show(bU .i64 ((0:Nat):Int) 1 != 0)=false from by decide,show(bU .i64 ((0:Nat):Int) 2 != 0)=false from by decide,show(bU .i64 ((0:Nat):Int) 4==0)=true from by decide,show(((0:Nat):Int)==0)=true from rfl,show(((0:Nat):Int)==4)=false from rfl];have c1:=vi hb (n:=0) (by decide) a2 e2 k2;generalize pL b (yE b 0) 256 a2 e2=y at*;obtain⟨l,a9,e9⟩:=y;simp only at hR c1⊢;subst hR;refine jW c1 (by rfl) (by rfl) (by rfl) ?_
  try simp only[go_sem,dD,dx,k7,fA,tT]
  exact bS (Wk.nlm _ 2 (r':=fR ⟨cz 0,0,ol,3,l⟩) rfl ⟨.inl rfl,.inl rfl,(by first|exact .inl rfl|exact .inr ⟨rfl,.inl ⟨_,rfl⟩⟩),.inl rfl,.inl rfl,trivial⟩) [] (.agg (fR ⟨cz 0,0,ol,3,l⟩)) [(1000,ro true b a9 e9)] (by simp only[go_sem,fR,show cz 0=0 from rfl]) (by simp only[go_sem]) rfl ⟨rfl,rfl⟩
 .simp (decide:=true) only[br,cD,↓reduceIte,Nat.reduceMod,Nat.zero_mod,Nat.reduceEqDiff,Nat.reduceLT]at hR;simp only[go_sem,show decide (((1:Nat):Int)>7)=false from rfl,show(bU .i64 ((1:Nat):Int) 1 != 0)=true from by decide,show(bU .i64 ((1:Nat):Int) 2 != 0)=false from by decide,show(bU .i64 ((1:Nat):Int) 4==0)=true from by decide,show(((1:Nat):Int)==0)=false from rfl,show(((1:Nat):Int)==4)=false from rfl];refine ae (Ay hb a1 e1 k1) ?_;have k2:=((DL (b:=b)) a1 e1 k1).1;generalize fX b a1 e1=y at*;obtain⟨x,a2,e2⟩:=y;simp only at k2 hR⊢;by_cases hx:x=0
  .subst hx;simp only[au (show ¬((0:UInt8)≠0) from λh=>h rfl)]at hR;simp only[go_sem,show((((0:UInt8).toNat:Nat):Int) != 0)=false from rfl];have c1:=vi hb (n:=1) (by decide) a2 e2 k2;generalize pL b (yE b 1) 256 a2 e2=y at*;obtain⟨l,a9,e9⟩:=y;simp only at hR c1⊢;subst hR;refine jW c1 (by rfl) (by rfl) (by rfl) ?_
   try simp only[go_sem,dD,dx,k7,fA,tT]
   exact bS (Wk.nlm _ 2 (r':=fR ⟨cz 1,0,[],3,l⟩) rfl ⟨.inl rfl,.inl rfl,(by first|exact .inl rfl|exact .inr ⟨rfl,.inl ⟨_,rfl⟩⟩),.inl rfl,.inl rfl,trivial⟩) [] (.agg (fR ⟨cz 1,0,[],3,l⟩)) [(1000,ro true b a9 e9)] (by simp only[go_sem,fR,show cz 1=1 from rfl]) (by simp only[go_sem]) rfl ⟨rfl,rfl⟩
  .simp only[aF hx]at hR;have hd:((x.toNat:Int) != 0)=true:=bne_iff_ne.2 λh=>hx (IP.1 (by have e:(0:UInt8).toNat=0:=rfl;omega))
   try simp only[go_sem,hd]
   have cf:=Fr (b:=b) a2 e2 4;generalize (if e2=0 then(4:Int)else e2)=e8 at*;refine ae (cf) ?_
   try simp only[go_sem]
   have c1:=vi hb (n:=1) (by decide) a2 e8 k2;generalize pL b (yE b 1) 256 a2 e8=y at*;obtain⟨l,a9,e9⟩:=y;simp only at hR c1⊢;subst hR;refine jW c1 (by rfl) (by rfl) (by rfl) ?_
   try simp only[go_sem,dD,dx,k7,fA,tT]
   exact bS (Wk.nlm _ 2 (r':=fR ⟨cz 1,0,[],3,l⟩) rfl ⟨.inl rfl,.inl rfl,(by first|exact .inl rfl|exact .inr ⟨rfl,.inl ⟨_,rfl⟩⟩),.inl rfl,.inl rfl,trivial⟩) [] (.agg (fR ⟨cz 1,0,[],3,l⟩)) [(1000,ro true b a9 e9)] (by simp only[go_sem,fR,show cz 1=1 from rfl]) (by simp only[go_sem]) rfl ⟨rfl,rfl⟩
 .simp (decide:=true) only[br,cD,↓reduceIte,Nat.reduceMod,Nat.zero_mod,Nat.reduceEqDiff,Nat.reduceLT]at hR;simp only[go_sem,show decide (((2:Nat):Int)>7)=false from rfl,show(bU .i64 ((2:Nat):Int) 1 != 0)=false from by decide,show(bU .i64 ((2:Nat):Int) 2 != 0)=true from by decide,show(bU .i64 ((2:Nat):Int) 4==0)=true from by decide,show(((2:Nat):Int)==0)=false from rfl,show(((2:Nat):Int)==4)=false from rfl];refine ae (N9 hb a1 e1 k1) ?_;have k2:=((tK (b:=b)) a1 e1 k1).1;generalize tL b a1 e1=y at*;obtain⟨tb,a2,e2⟩:=y;simp only at k2 hR⊢;simp only[go_sem,show decide (((2:Nat):Int)>7)=false from rfl,show(bU .i64 ((2:Nat):Int) 1 != 0)=false from by decide,show(bU .i64 ((2:Nat):Int) 2 != 0)=true from by decide,show(bU .i64 ((2:Nat):Int) 4==0)=true from by decide,show(((2:Nat):Int)==0)=false from rfl,show(((2:Nat):Int)==4)=false from rfl];refine ae (Vv hb a2 e2 k2) ?_;have k3:=(((jj b).oks []) a2 e2 k2).1;generalize iV (gX b) [] a2 e2=y at*;obtain⟨ol,a3,e3⟩:=y;simp only at k3 hR⊢;simp only[go_sem,exs,show decide (((2:Nat):Int)>7)=false from rfl,show(bU .i64 ((2:Nat):Int) 1 != 0)=false from by decide,show(bU .i64 ((2:Nat):Int) 2 != 0)=true from by decide,show(bU .i64 ((2:Nat):Int) 4==0)=true from by decide,show(((2:Nat):Int)==0)=false from rfl,show(((2:Nat):Int)==4)=false from rfl];refine ae (Ay hb a3 e3 k3) ?_;have k4:=((DL (b:=b)) a3 e3 k3).1;generalize fX b a3 e3=y at*;obtain⟨x,a4,e4⟩:=y;simp only at k4 hR⊢;by_cases hx:x=0
  .subst hx;simp only[au (show ¬((0:UInt8)≠0) from λh=>h rfl)]at hR;simp only[go_sem,show((((0:UInt8).toNat:Nat):Int) != 0)=false from rfl];have c1:=vi hb (n:=2) (by decide) a4 e4 k4;generalize pL b (yE b 2) 256 a4 e4=y at*;obtain⟨l,a9,e9⟩:=y;simp only at hR c1⊢;subst hR;refine jW c1 (by rfl) (by rfl) (by rfl) ?_
   try simp only[go_sem,dD,dx,k7,fA,tT]
   exact bS (Wk.nlm _ 2 (r':=fR ⟨cz 2,(tb:Int),ol,3,l⟩) rfl ⟨.inl rfl,.inl rfl,(by first|exact .inl rfl|exact .inr ⟨rfl,.inl ⟨_,rfl⟩⟩),.inl rfl,.inl rfl,trivial⟩) [] (.agg (fR ⟨cz 2,(tb:Int),ol,3,l⟩)) [(1000,ro true b a9 e9)] (by simp only[go_sem,fR,show cz 2=0 from rfl]) (by simp only[go_sem]) rfl ⟨rfl,rfl⟩
  .simp only[aF hx]at hR;have hd:((x.toNat:Int) != 0)=true:=bne_iff_ne.2 λh=>hx (IP.1 (by have e:(0:UInt8).toNat=0:=rfl;omega))
   try simp only[go_sem,hd]
   have cf:=Fr (b:=b) a4 e4 4;generalize (if e4=0 then(4:Int)else e4)=e8 at*;refine ae (cf) ?_
   try simp only[go_sem]
   have c1:=vi hb (n:=2) (by decide) a4 e8 k4;generalize pL b (yE b 2) 256 a4 e8=y at*;obtain⟨l,a9,e9⟩:=y;simp only at hR c1⊢;subst hR;refine jW c1 (by rfl) (by rfl) (by rfl) ?_
   try simp only[go_sem,dD,dx,k7,fA,tT]
   exact bS (Wk.nlm _ 2 (r':=fR ⟨cz 2,(tb:Int),ol,3,l⟩) rfl ⟨.inl rfl,.inl rfl,(by first|exact .inl rfl|exact .inr ⟨rfl,.inl ⟨_,rfl⟩⟩),.inl rfl,.inl rfl,trivial⟩) [] (.agg (fR ⟨cz 2,(tb:Int),ol,3,l⟩)) [(1000,ro true b a9 e9)] (by simp only[go_sem,fR,show cz 2=0 from rfl]) (by simp only[go_sem]) rfl ⟨rfl,rfl⟩
 .simp (decide:=true) only[br,cD,↓reduceIte,Nat.reduceMod,Nat.zero_mod,Nat.reduceEqDiff,Nat.reduceLT]at hR;simp only[go_sem,show decide (((3:Nat):Int)>7)=false from rfl,show(bU .i64 ((3:Nat):Int) 1 != 0)=true from by decide,show(bU .i64 ((3:Nat):Int) 2 != 0)=true from by decide,show(bU .i64 ((3:Nat):Int) 4==0)=true from by decide,show(((3:Nat):Int)==0)=false from rfl,show(((3:Nat):Int)==4)=false from rfl];refine ae (Ay hb a1 e1 k1) ?_;have k2:=((DL (b:=b)) a1 e1 k1).1;generalize fX b a1 e1=y at*;obtain⟨x,a2,e2⟩:=y;simp only at k2 hR⊢;by_cases hx:x=0
  .subst hx;simp only[au (show ¬((0:UInt8)≠0) from λh=>h rfl)]at hR;simp only[go_sem,show((((0:UInt8).toNat:Nat):Int) != 0)=false from rfl];have c1:=vi hb (n:=3) (by decide) a2 e2 k2;generalize pL b (yE b 3) 256 a2 e2=y at*;obtain⟨l,a9,e9⟩:=y;simp only at hR c1⊢;subst hR;refine jW c1 (by rfl) (by rfl) (by rfl) ?_
   try simp only[go_sem,dD,dx,k7,fA,tT]
   exact bS (Wk.nlm _ 2 (r':=fR ⟨cz 3,0,[],3,l⟩) rfl ⟨.inl rfl,.inl rfl,(by first|exact .inl rfl|exact .inr ⟨rfl,.inl ⟨_,rfl⟩⟩),.inl rfl,.inl rfl,trivial⟩) [] (.agg (fR ⟨cz 3,0,[],3,l⟩)) [(1000,ro true b a9 e9)] (by simp only[go_sem,fR,show cz 3=2 from rfl]) (by simp only[go_sem]) rfl ⟨rfl,rfl⟩
  .simp only[aF hx]at hR;have hd:((x.toNat:Int) != 0)=true:=bne_iff_ne.2 λh=>hx (IP.1 (by have e:(0:UInt8).toNat=0:=rfl;omega))
   try simp only[go_sem,hd]
   have cf:=Fr (b:=b) a2 e2 4;generalize (if e2=0 then(4:Int)else e2)=e8 at*;refine ae (cf) ?_
   try simp only[go_sem]
   have c1:=vi hb (n:=3) (by decide) a2 e8 k2;generalize pL b (yE b 3) 256 a2 e8=y at*;obtain⟨l,a9,e9⟩:=y;simp only at hR c1⊢;subst hR;refine jW c1 (by rfl) (by rfl) (by rfl) ?_
   try simp only[go_sem,dD,dx,k7,fA,tT]
   exact bS (Wk.nlm _ 2 (r':=fR ⟨cz 3,0,[],3,l⟩) rfl ⟨.inl rfl,.inl rfl,(by first|exact .inl rfl|exact .inr ⟨rfl,.inl ⟨_,rfl⟩⟩),.inl rfl,.inl rfl,trivial⟩) [] (.agg (fR ⟨cz 3,0,[],3,l⟩)) [(1000,ro true b a9 e9)] (by simp only[go_sem,fR,show cz 3=2 from rfl]) (by simp only[go_sem]) rfl ⟨rfl,rfl⟩
 .simp (decide:=true) only[br,cD,↓reduceIte,Nat.reduceMod,Nat.zero_mod,Nat.reduceEqDiff,Nat.reduceLT]at hR;simp only[go_sem,show decide (((4:Nat):Int)>7)=false from rfl,show(bU .i64 ((4:Nat):Int) 1 != 0)=false from by decide,show(bU .i64 ((4:Nat):Int) 2 != 0)=false from by decide,show(bU .i64 ((4:Nat):Int) 4==0)=false from by decide,show(((4:Nat):Int)==0)=false from rfl,show(((4:Nat):Int)==4)=true from rfl];refine ae (Vv hb a1 e1 k1) ?_;have k2:=(((jj b).oks []) a1 e1 k1).1;generalize iV (gX b) [] a1 e1=y at*;obtain⟨ol,a2,e2⟩:=y;simp only at k2 hR⊢;simp only[go_sem,exs,show decide (((4:Nat):Int)>7)=false from rfl,show(bU .i64 ((4:Nat):Int) 1 != 0)=false from by decide,show(bU .i64 ((4:Nat):Int) 2 != 0)=false from by decide,show(bU .i64 ((4:Nat):Int) 4==0)=false from by decide,show(((4:Nat):Int)==0)=false from rfl,show(((4:Nat):Int)==4)=true from rfl];have c1:=vi hb (n:=4) (by decide) a2 e2 k2;generalize pL b (yE b 4) 256 a2 e2=y at*;obtain⟨l,a9,e9⟩:=y;simp only at hR c1⊢;subst hR;refine jW c1 (by rfl) (by rfl) (by rfl) ?_
  try simp only[go_sem,dD,dx,k7,fA,tT]
  exact bS (Wk.nlm _ 2 (r':=fR ⟨cz 4,0,ol,3,l⟩) rfl ⟨.inl rfl,.inl rfl,(by first|exact .inl rfl|exact .inr ⟨rfl,.inl ⟨_,rfl⟩⟩),.inl rfl,.inl rfl,trivial⟩) [] (.agg (fR ⟨cz 4,0,ol,3,l⟩)) [(1000,ro true b a9 e9)] (by simp only[go_sem,fR,show cz 4=0 from rfl]) (by simp only[go_sem]) rfl ⟨rfl,rfl⟩
 .simp (decide:=true) only[br,cD,↓reduceIte,Nat.reduceMod,Nat.zero_mod,Nat.reduceEqDiff,Nat.reduceLT]at hR;simp only[go_sem,show decide (((5:Nat):Int)>7)=false from rfl,show(bU .i64 ((5:Nat):Int) 1 != 0)=true from by decide,show(bU .i64 ((5:Nat):Int) 2 != 0)=false from by decide,show(bU .i64 ((5:Nat):Int) 4==0)=false from by decide,show(((5:Nat):Int)==0)=false from rfl,show(((5:Nat):Int)==4)=false from rfl];refine ae (Yk hb a1 e1 k1) ?_;have k2:=(((uV b).oks 0) a1 e1 k1).1;generalize iV (gV b) 0 a1 e1=y at*;obtain⟨t,a2,e2⟩:=y;simp only at k2 hR⊢;simp only[go_sem];have c1:=vi hb (n:=5) (by decide) a2 e2 k2;generalize pL b (yE b 5) 256 a2 e2=y at*;obtain⟨l,a9,e9⟩:=y;simp only at hR c1⊢;subst hR;refine jW c1 (by rfl) (by rfl) (by rfl) ?_
  try simp only[go_sem,dD,dx,k7,fA,tT]
  exact bS (Wk.nlm _ 2 (r':=fR ⟨cz 5,0,[],t,l⟩) rfl ⟨.inl rfl,.inl rfl,(by first|exact .inl rfl|exact .inr ⟨rfl,.inl ⟨_,rfl⟩⟩),.inl rfl,.inl rfl,trivial⟩) [] (.agg (fR ⟨cz 5,0,[],t,l⟩)) [(1000,ro true b a9 e9)] (by simp only[go_sem,fR,show cz 5=1 from rfl]) (by simp only[go_sem]) rfl ⟨rfl,rfl⟩
 .simp (decide:=true) only[br,cD,↓reduceIte,Nat.reduceMod,Nat.zero_mod,Nat.reduceEqDiff,Nat.reduceLT]at hR;simp only[go_sem,show decide (((6:Nat):Int)>7)=false from rfl,show(bU .i64 ((6:Nat):Int) 1 != 0)=false from by decide,show(bU .i64 ((6:Nat):Int) 2 != 0)=true from by decide,show(bU .i64 ((6:Nat):Int) 4==0)=false from by decide,show(((6:Nat):Int)==0)=false from rfl,show(((6:Nat):Int)==4)=false from rfl];refine ae (N9 hb a1 e1 k1) ?_;have k2:=((tK (b:=b)) a1 e1 k1).1;generalize tL b a1 e1=y at*;obtain⟨tb,a2,e2⟩:=y;simp only at k2 hR⊢;simp only[go_sem,show decide (((6:Nat):Int)>7)=false from rfl,show(bU .i64 ((6:Nat):Int) 1 != 0)=false from by decide,show(bU .i64 ((6:Nat):Int) 2 != 0)=true from by decide,show(bU .i64 ((6:Nat):Int) 4==0)=false from by decide,show(((6:Nat):Int)==0)=false from rfl,show(((6:Nat):Int)==4)=false from rfl];refine ae (Vv hb a2 e2 k2) ?_;have k3:=(((jj b).oks []) a2 e2 k2).1;generalize iV (gX b) [] a2 e2=y at*;obtain⟨ol,a3,e3⟩:=y;simp only at k3 hR⊢;simp only[go_sem,exs,show decide (((6:Nat):Int)>7)=false from rfl,show(bU .i64 ((6:Nat):Int) 1 != 0)=false from by decide,show(bU .i64 ((6:Nat):Int) 2 != 0)=true from by decide,show(bU .i64 ((6:Nat):Int) 4==0)=false from by decide,show(((6:Nat):Int)==0)=false from rfl,show(((6:Nat):Int)==4)=false from rfl];refine ae (Yk hb a3 e3 k3) ?_;have k4:=(((uV b).oks 0) a3 e3 k3).1;generalize iV (gV b) 0 a3 e3=y at*;obtain⟨t,a4,e4⟩:=y;simp only at k4 hR⊢;simp only[go_sem];have c1:=vi hb (n:=6) (by decide) a4 e4 k4;generalize pL b (yE b 6) 256 a4 e4=y at*;obtain⟨l,a9,e9⟩:=y;simp only at hR c1⊢;subst hR;refine jW c1 (by rfl) (by rfl) (by rfl) ?_
  try simp only[go_sem,dD,dx,k7,fA,tT]
  exact bS (Wk.nlm _ 2 (r':=fR ⟨cz 6,(tb:Int),ol,t,l⟩) rfl ⟨.inl rfl,.inl rfl,(by first|exact .inl rfl|exact .inr ⟨rfl,.inl ⟨_,rfl⟩⟩),.inl rfl,.inl rfl,trivial⟩) [] (.agg (fR ⟨cz 6,(tb:Int),ol,t,l⟩)) [(1000,ro true b a9 e9)] (by simp only[go_sem,fR,show cz 6=0 from rfl]) (by simp only[go_sem]) rfl ⟨rfl,rfl⟩
 .simp (decide:=true) only[br,cD,↓reduceIte,Nat.reduceMod,Nat.zero_mod,Nat.reduceEqDiff,Nat.reduceLT]at hR;simp only[go_sem,show decide (((7:Nat):Int)>7)=false from rfl,show(bU .i64 ((7:Nat):Int) 1 != 0)=true from by decide,show(bU .i64 ((7:Nat):Int) 2 != 0)=true from by decide,show(bU .i64 ((7:Nat):Int) 4==0)=false from by decide,show(((7:Nat):Int)==0)=false from rfl,show(((7:Nat):Int)==4)=false from rfl];refine ae (Yk hb a1 e1 k1) ?_;have k2:=(((uV b).oks 0) a1 e1 k1).1;generalize iV (gV b) 0 a1 e1=y at*;obtain⟨t,a2,e2⟩:=y;simp only at k2 hR⊢;simp only[go_sem];have c1:=vi hb (n:=7) (by decide) a2 e2 k2;generalize pL b (yE b 7) 256 a2 e2=y at*;obtain⟨l,a9,e9⟩:=y;simp only at hR c1⊢;subst hR;refine jW c1 (by rfl) (by rfl) (by rfl) ?_
  try simp only[go_sem,dD,dx,k7,fA,tT]
  exact bS (Wk.nlm _ 2 (r':=fR ⟨cz 7,0,[],t,l⟩) rfl ⟨.inl rfl,.inl rfl,(by first|exact .inl rfl|exact .inr ⟨rfl,.inl ⟨_,rfl⟩⟩),.inl rfl,.inl rfl,trivial⟩) [] (.agg (fR ⟨cz 7,0,[],t,l⟩)) [(1000,ro true b a9 e9)] (by simp only[go_sem,fR,show cz 7=2 from rfl]) (by simp only[go_sem]) rfl ⟨rfl,rfl⟩
end
section
instance:Inhabited Ft:=⟨⟨[],[]⟩⟩
instance:Inhabited Im:=⟨⟨[],[],0,0,0,⟨0,0,false⟩,⟨0,0,false⟩,⟨0,false⟩⟩⟩
instance:Inhabited Tb:=⟨Lh⟩
instance:Inhabited Lm:=⟨⟨0,0,false⟩⟩
instance:Inhabited Gd:=⟨⟨⟨0,false⟩,[]⟩⟩
instance:Inhabited Ex:=⟨⟨[],0,0⟩⟩
instance:Inhabited El:=⟨⟨0,0,[],0,[]⟩⟩
instance:Inhabited Da:=⟨⟨0,0,[],[]⟩⟩
variable{b:List UInt8}(hb:b.length<1000000000)
include hb
def af4:RP o9 [.int .i64 (64:Nat),.fn qa []] b (pL b (pFt b) (64:Nat)) (λl=>.sl 2 (l.map vK)) :=
 sm hb (cF oJ) (λx=>⟨rfl,rfl,rfl,λi=>rfl⟩) (by kernel_rfl) (λ_=>rfl) (λ_ h=>by cases h) (aiA hb) ⟨_,ab9⟩ 64 (by decide)
def af7:RP mX [.int .i64 (32:Nat),.fn nI []] b (pL b (Ye b) (32:Nat)) (λl=>.sl 13 (l.map vM)) :=
 sm hb (cF mH) (λx=>⟨rfl,rfl,rfl,λi=>rfl⟩) (by kernel_rfl) (λ_=>rfl) (λ_ h=>by cases h) (aiC hb) ⟨_,afR b⟩ 32 (by decide)
def aga:RP n0 [.int .i64 (4:Nat),.fn fL []] b (pL b (iV (QD b) Lh) (4:Nat)) (λl=>.sl 4 (l.map xx)) :=
 sm hb (cF nL) (λx=>⟨rfl,rfl,rfl,λi=>rfl⟩) (by kernel_rfl) (λ_=>rfl) (λ_ h=>by cases h) (af_ hb) ⟨_,(NC b).oks Lh⟩ 4 (by decide)
def af8:RP mY [.int .i64 (2:Nat),.fn fb []] b (pL b (iV (LM b) ⟨0,0,false⟩) (2:Nat)) (λl=>.sl 3 (l.map p7)) :=
 sm hb (cF mJ) (λx=>⟨rfl,rfl,rfl,λi=>rfl⟩) (by kernel_rfl) (λ_=>rfl) (λ_ h=>by cases h) (P2 hb) ⟨_,(NB b).oks _⟩ 2 (by decide)
def af5:RP kw [.int .i64 (32:Nat),.fn nH []] b (pL b (pGd b) (32:Nat)) (λl=>.sl 3 (l.map zX)) :=
 sm hb (cF ku) (λx=>⟨rfl,rfl,rfl,λi=>rfl⟩) (by kernel_rfl) (λ_=>rfl) (λ_ h=>by cases h) (aiB hb) ⟨_,afQ b⟩ 32 (by decide)
def af3:RP mW [.int .i64 (64:Nat),.fn nG []] b (pL b (Yd b) (64:Nat)) (λl=>.sl 3 (l.map y6)) :=
 sm hb (cF mF) (λx=>⟨rfl,rfl,rfl,λi=>rfl⟩) (by kernel_rfl) (λ_=>rfl) (λ_ h=>by cases h) (aiz hb) ⟨_,afP b⟩ 64 (by decide)
def af2:RP o8 [.int .i64 (16:Nat),.fn p_ []] b (pL b (Yc b) (16:Nat)) (λl=>.sl 5 (l.map fR)) :=
 sm hb (cF oI) (λx=>⟨rfl,rfl,rfl,λi=>rfl⟩) (by kernel_rfl) (λ_=>rfl) (λ_ h=>by cases h) (aiy hb) ⟨_,afN b⟩ 16 (by decide)
def af1:RP o7 [.int .i64 (16:Nat),.fn p9 []] b (pL b (Yb b) (16:Nat)) (λl=>.sl 4 (l.map nz)) :=
 sm hb (cF oH) (λx=>⟨rfl,rfl,rfl,λi=>rfl⟩) (by kernel_rfl) (λ_=>rfl) (λ_ h=>by cases h) (aix hb) ⟨_,afL b⟩ 16 (by decide)
end
def P0(b:List UInt8):Nat->List Int->PS (List Int)
 | 0,l=>pP l
 | n+1,l=>λa e=>if e=0 then pb (tL b) (λ(many:Nat)=>pb (iV (gV b) 0) λt=>pb (I4 6 ((many:Int)>64-l.length)) λ_=>λa e=>P0 b n (if e=0 then l++List.replicate many t else l) a e) a e else(l,a,e)
def TX(b:List UInt8):∀(n:Nat)(l:List Int),eM b (P0 b n l) (λa=>gLo n b a l)
 | 0,l=>eM.pure l
 | n+1,l=>by
  have h1:=tK.bd (b:=b) (u:=λ(many:Nat)=>pb (iV (gV b) 0) λt=>pb (I4 6 ((many:Int)>64-l.length)) λ_=>λa e=>P0 b n (if e=0 then l++List.replicate many t else l) a e)
   (r:=λ(many:Nat) k=>fP (gV b k) λt k1=>if(many:Int)>64-l.length then .error (6,k1)else gLo n b k1 (l++List.replicate many t)) λ(many:Nat)=>((uV b).oks 0).bd λt=>eM.fi (by decide) (by
    intro a e ha;by_cases he:e=0
    .have:=TX b n (l++List.replicate many t) a e ha;simp only[aF he];exact this
    .have:=TX b n l a e ha;simp only[au he];exact⟨this.1,this.2.1,λh=>absurd h he⟩)
  intro a e ha;obtain⟨q1,q2,q3⟩:=h1 a e ha;unfold P0;by_cases he:e=0
  .rw[aF he];exact⟨q1,q2,q3⟩
  .rw[au he];exact⟨ha,λ_=>rfl,λh=>absurd h he⟩
def ZP(b:List UInt8):PS (List Int×List bj):=pb (pC b 64) λn=>pb (P0 b n []) λl=>pb (iV (gX b) []) λx=>pP (l,x)
def afJ(b:List UInt8):eM b (ZP b) (λa=>fP (gC b a 64) λn k=>fP (gLo n b k []) λl k1=>fP (gX b k1) λx k2=>.ok ((l,x),k2)) :=
 (Fq 64).bd λn=>(TX b n []).bd λl=>((jj b).oks []).bd λx=>eM.pure (l,x)
def Bx(b:List UInt8)(a:Nat)(e:Int):Int:=if e≠0 then e else if a=b.length then 0 else 5
def I3(b:List UInt8):PS (List Int×List bj):=λa e =>
 let n:=tL b a e
 let t:=BT b n.1 n.2.1 n.2.2
 let q:=ZP t.1 0 t.2.2
 (q.1,t.2.1,if t.2.2=0 then Bx t.1 q.2.1 q.2.2 else t.2.2)
def abk(b:List UInt8):abj b=fP (fP (gC b 0 64) λn k=>fP (gLo n b k []) λl k1=>fP (gX b k1) λx k2=>.ok ((l,x),k2)) λq k=>if k=b.length then .ok (q,k)else .error (5,k):=by
 unfold abj;simp only[B3,jg]
def afK(b:List UInt8):eM b (I3 b) (gCd b):=by
 intro a e ha;obtain⟨u1,u2,u3⟩:=tK (b:=b) a e ha;obtain⟨t1,t2,t3⟩:=TY b (tL b a e).1 _ (tL b a e).2.2 u1;refine⟨t1,λhe=>?_,λhe=>?_⟩
 .have h1:=u2 he;have h2:(tL b a e).2.2=e:=by rw[h1]
  have h3:(tL b a e).2.1=a:=by rw[h1]
  have h4:=t2 (by rw[h2];exact he);show(_,_)=(a,e);rw[h2,h3]at h4⊢;rw[h4,au he]
 .subst he;unfold gCd;rcases u3 rfl with⟨n,k,g1,g2⟩|⟨e',k,g1,g2,g3⟩
  rotate_left
  .refine .inr ⟨e',k,by rw[g1,oT],g2,?_⟩;have h2:(tL b a 0).2.2=e':=by rw[g3]
   have h3:(tL b a 0).2.1=k:=by rw[g3]
   have h4:=t2 (by rw[h2];exact g2);show(_,_)=(k,e');rw[h2,h3]at h4⊢;rw[h4,au g2]
  rw[g1,jg];have hp:I3 b a 0=((ZP (BT b n k 0).1 0 (BT b n k 0).2.2).1,(BT b n k 0).2.1,if(BT b n k 0).2.2=0 then Bx (BT b n k 0).1 (ZP (BT b n k 0).1 0 (BT b n k 0).2.2).2.1 (ZP (BT b n k 0).1 0 (BT b n k 0).2.2).2.2 else(BT b n k 0).2.2):=by
   unfold I3;rw[g2]
  rw[g2]at t3;simp only at t3;rw[hp];clear hp;rcases t3 trivial with⟨x,k',j1,j2⟩|⟨e',k',j1,j2,j3⟩
  rotate_left
  .have hn:n>b.length-k:=by
    by_cases h:n>b.length-k
    .exact h
    .rw[au h]at j1;cases j1
   rw[aF hn]at j1⊢;have h2:(BT b n k 0).2.2=e':=by rw[j3]
   have h3:(BT b n k 0).2.1=k':=by rw[j3]
   exact .inr ⟨e',k',congrArg _ (Except.error.inj j1),j2,by rw[h2,h3,au j2]⟩
  have hn:¬n>b.length-k:=by
   intro h;rw[aF h]at j1;cases j1
  rw[au hn]at j1⊢;cases j1;rw[j2];simp only[br];rw[abk];obtain⟨b1,_,b3⟩:=afJ ((b.drop k).take n) 0 0 (cQ _);rcases b3 rfl with⟨y,k2,l1,l2⟩|⟨e2,k2,l1,l2,l3⟩
  .rw[l2];simp only at l1;rw[l1,jg];by_cases hk:k2=((b.drop k).take n).length
   .rw[aF hk];refine .inl ⟨y,k+n,rfl,?_⟩;unfold Bx;rw[au (by simp),aF hk]
   .rw[au hk];refine .inr ⟨5,k+n,rfl,by decide,?_⟩;unfold Bx;rw[au (by simp),au hk]
  .simp only at l1;rw[l1,oT];have h2:(ZP ((b.drop k).take n) 0 0).2.2=e2:=by rw[l3]
   have h3:(ZP ((b.drop k).take n) 0 0).2.1=k2:=by rw[l3]
   refine .inr ⟨e2,k+n,rfl,l2,?_⟩;rw[h2,h3];unfold Bx;rw[aF l2]
section
instance:Inhabited Cd:=⟨⟨0,[],[]⟩⟩
def P1(b:List UInt8):PS Cd:=pb (tL b) λt=>pP ⟨(t:Int),[],[]⟩
def afS(b:List UInt8):eM b (P1 b) (λa=>fP (gU b a) λt k=>.ok ((⟨(t:Int),[],[]⟩:Cd),k)):=tK.bd λt=>eM.pure (b:=b) (⟨(t:Int),[],[]⟩:Cd)
variable{b:List UInt8}(hb:b.length<1000000000)
include hb
attribute[local go_sem] cU ro wa
theorem aiE:RP gw [] b (P1 b) (λx=>.agg (qB x)):=by
 intro a e ha;refine bT gj ?_;simp only[go_sem,gj];refine ae (N9 hb a e ha) ?_;have hR:P1 b a e=P1 b a e:=rfl
 conv at hR=>rhs;simp only[P1,pb,pP]
 generalize P1 b a e=R at*;generalize tL b a e=y at*;obtain⟨n,a1,e1⟩:=y;simp only at hR⊢;subst hR;simp only[go_sem];exact bS (Wk.nlm _ 2 (r':=qB ⟨(n:Int),[],[]⟩) rfl ⟨.inl rfl,.inr ⟨rfl,.inl ⟨1,rfl⟩⟩,.inr ⟨rfl,.inl ⟨9,rfl⟩⟩,trivial⟩) [] (.agg (qB ⟨(n:Int),[],[]⟩)) [(1000,ro true b a1 e1)] (by simp only[go_sem,qB]) (by simp only[go_sem]) rfl ⟨rfl,rfl⟩
end
section
variable{b:List UInt8}(hb:b.length<1000000000)
include hb
attribute[local go_sem] cU ro wa
def YG{α:Type}[Inhabited α]{n t st:Nat}{z:List AV}{f:α->List AV}{g:FuncId}{caps:List AV}{one:PS α}(hc:ny pg n=some ⟨28,3,[.tmp 6],rlB cW dM t st z⟩)
  (hv:∀x,aew st (f x)) (hg:bP pg g=true) (hcp:∀i,caps.any (mP i)=false) (hcv:∀x∈caps,aO x=[]) (ho:RP g caps b one λx=>.agg (f x)) (hw:∃r,eM b one r) (most:Nat) (hm:most<4294967296)
  (a:Nat) (e:Int) (ha:a<=b.length):aX pg n [.mp 1000 4 0 0,.int .i64 (most:Nat),.fn g caps] [(1000,ro true b a e)] sb
   (λr' σ'=>r' = .ms 900 st 0 (pL b one most a e).1.length/\σ'=[(1000,ro true b ((pL b one most a e).2.1:Nat) (pL b one most a e).2.2),(900,⟨t,st,(pL b one most a e).1.map f,false⟩)]):=by
 refine jy (ic:=rlB cW dM t st z) u6 hc rfl rfl ?_;have q4:∀i x,x∈caps->mP i x=false:=λi x hx=>by
  have:=hcp i;rw[vB]at this;simpa using this x hx
 simp only[go_sem,rlB];refine aH (Yj hb most a e ha) ?_;have hN:=zm (b:=b) (most:=most) (a:=a) (e:=e);have h0:pL b one most a e=([]++(pN one (pC b most a e).1 (pC b most a e).2.1 (pC b most a e).2.2).1,(pN one (pC b most a e).1 (pC b most a e).2.1 (pC b most a e).2.2).2):=rfl;have hk:(pC b most a e).2.1<=b.length:=pj ha;generalize pL b one most a e=R at*;generalize pC b most a e=c at*;obtain⟨N,a0,e0⟩:=c;simp only at hN h0 hk⊢;refine an (λq:Nat×List α×Nat×Int=>⟨[(8,.int .i64 (q.1:Nat)),(7,.ms 900 st 0 q.2.1.length),(6,.nl),(0,.mp 1000 4 0 0),(1,.int .i64 (most:Nat)),(2,.fn g caps)],[(900,⟨t,st,q.2.1.map f,false⟩),(1000,ro true b q.2.2.1 q.2.2.2)]⟩)
  (λq=>q.2.2.1<=b.length/\q.2.1.length+q.1<=N/\R=(q.2.1++(pN one q.1 q.2.2.1 q.2.2.2).1,(pN one q.1 q.2.2.1 q.2.2.2).2)) (λq=>q.1) (N,[],a0,e0) ⟨hk,by simp,h0⟩ ((Wk.nil _ 7 900 st t (by simp only[go_sem]) (.inl (by decide))).trans (Wk.of ?_ ?_)) ?_
 .simp only[go_sem,St.mknil];try (simp;exact q4 _)
 .simp only[go_sem,St.mknil];try simp[go_sem]
 rintro⟨m,l,a1,e1⟩ ⟨h1,h2,h3⟩;simp only at h1 h2 h3;have v2:∀x,(f x).length=st:=λx=>(hv x).1;have v3:∀x,(f x).all qn=true:=λx=>(hv x).2.1;have v5:∀x i,(f x).any (mC i)=false:=λx i=>(hv x).2.2.2 i;have happ:=λys=>bX 900 t st l.length f l ys rfl;by_cases hm1:(m:Int)>0;rotate_left
 .obtain rfl:m=0:=by omega
  simp only[go_sem,aM hm1];subst h3;refine eT [] (.ms 900 st 0 l.length) [(1000,ro true b a1 e1),(900,⟨t,st,l.map f,false⟩)] ⟨?_,?_⟩
  .simp[pN,pP]
  .simp[pN,pP,ro]
 obtain⟨m,rfl⟩:∃k,m=k+1:=⟨m-1,by omega⟩
 have hw1:IntKind.i64.wrap (((m+1:Nat):Int)-1)=(m:Int):=by rw[wi (by omega) (by omega)];omega
 simp only[go_sem,aL hm1];refine ae (aU true b a1 e1) ?_;by_cases he:e1=0;rotate_left
 .simp only[go_sem,pw he];rw[Yg he]at h3;subst h3;refine eT [] (.ms 900 st 0 l.length) [(1000,ro true b a1 e1),(900,⟨t,st,l.map f,false⟩)] ⟨?_,?_⟩
  .simp[pN,pP]
  .simp[pN,pP,ro]
 subst he;simp only[go_sem];rw[aF (JC hg)];refine⟨hg,?_⟩;refine dZ (ho a1 0 h1) ⟨by decide,by decide⟩ (hv _).2.2.1 hcv rfl rfl (by rfl) ?_;rw[Yf]at h3;obtain⟨r,hr⟩:=hw;have hk2:=(hr a1 0 h1).1;generalize one a1 0=y at*;obtain⟨x,a2,e2⟩:=y;simp only at h3 hk2⊢;simp only[go_sem,v2,v3,v5,hcp,happ,hw1];refine⟨by omega,aE (m,l++[x],a2,e2) ⟨hk2,by simp;omega,by rw[h3];simp⟩ (show m<m+1 by omega) (Wk.of ?_ ?_)⟩
 .simp only[go_sem];try simp
 .simp only[go_sem];try simp[go_sem]
end
section
instance:Inhabited (List Int×List bj):=⟨([],[])⟩
def IW(l:List Int):ao:=⟨54,1,l.map oE,false⟩
def IY(l:List Int):ao:=⟨61,3,[[.int .i64 0,.ms 903 1 0 l.length,.nl]],true⟩
def Yi{b:List UInt8}{n a:Nat}{e:Int}:(BT b n a e).1.length<=b.length:=by
 unfold BT bI;split
 .split
  .exact cQ _
  split
  .exact cQ _
  .show(List.take _ _).length<=_;rw[pA,jJ];omega
 .exact cQ _
def afY(b:List UInt8)(n:Nat)(l:List Int)(a:Nat):P0 b (n+1) l a 0=(pb (tL b) (λ(many:Nat)=>pb (iV (gV b) 0) λt=>pb (I4 6 ((many:Int)>64-l.length)) λ_=>λa e=>P0 b n (if e=0 then l++List.replicate many t else l) a e)) a 0:=rfl
def afZ{b:List UInt8}{n:Nat}{l:List Int}{a:Nat}{e:Int}(he:e≠0):P0 b n l a e=(l,a,e):=by
 cases n with
 | zero=>rfl
 | succ n=>exact au he
def x6(x:List UInt8)(a:Nat)(e:Int):BV true x a e=Bx x a e:=by unfold BV Bx;rw[aF rfl]
variable{b:List UInt8}(hb:b.length<1000000000)
include hb
attribute[local go_sem] cU ro wa
theorem aiw:RP p8 [] b (I3 b) (λx=>.agg (qB ⟨0,x.1,x.2⟩)):=by
 intro a e ha;refine bT pG ?_;simp only[go_sem,pG];refine ae (N9 hb a e ha) ?_;have k1:=(tK (b:=b) a e ha).1;have hR:I3 b a e=I3 b a e:=rfl
 conv at hR=>rhs;simp only[I3]
 generalize I3 b a e=R at*;have hN1:=DS (e==0) b a e;change (tL b a e).1<_ at hN1;generalize tL b a e=y at*;obtain⟨n,a1,e1⟩:=y;simp only at k1 hR hN1⊢;have cS:=ac8 b a1 e1 n k1 hb (by omega);have k2:=(TY b n a1 e1 k1).1;have xl:=Yi (b:=b) (n:=n) (a:=a1) (e:=e1);have hT:((bI (e1==0) b a1 e1 (n:Nat)).1.getD [],(bI (e1==0) b a1 e1 (n:Nat)).2)=BT b n a1 e1:=rfl;generalize BT b n a1 e1=y at*;obtain⟨x,a2,e2⟩:=y;obtain⟨h1,h2⟩:=Prod.mk.inj hT;rw[h1,h2]at cS;simp only at k2 xl hR cS⊢;have hx:x.length<1000000000:=by omega
 simp only[go_sem];refine d_ (σ2:=[(1000,ro true b a1 e1)]) (r3:=.mp 902 4 0 0) (σ3:=[(1000,ro true b a2 e2),(902,ro true x ((0:Nat):Int) e2)]) cS [(24,902)] [902] rfl rfl rfl rfl ?_ ?_ ?_ ?_
 .simp only[go_sem];simp
 .simp only[go_sem];simp[sb,bw,iU,ak]
 .simp only[go_sem];simp[ak]
 simp only[go_sem];refine ae (Yj hx 64 0 e2 (cQ _)) ?_;have k3:=((Fq (b:=x) 64) 0 e2 (cQ _)).1;unfold ZP at hR;simp only[pb,pP]at hR;have hN2:=zm (b:=x) (most:=64) (a:=0) (e:=e2);generalize pC x 64 0 e2=y at*;obtain⟨m,a3,e3⟩:=y;simp only at k3 hR hN2⊢;obtain⟨P,hP⟩:∃P,P=P0 x m [] a3 e3:=⟨_,rfl⟩
 rw[<-hP]at hR;simp only[go_sem];refine an (λq:Nat×List Int×Nat×Int=>⟨[(5,.int .i64 (q.1:Nat)),(3,.mp 902 4 0 0),(4,.mp 4 3 0 0),(2,.mp 2 3 0 0),(0,.mp 1000 4 0 0)],[(2,⟨61,3,[[.int .i64 0,.nl,.nl]],true⟩),(4,IY q.2.1),(903,IW q.2.1),(902,ro true x q.2.2.1 q.2.2.2),(1000,ro true b a2 e2)]⟩)
  (λq=>q.2.2.1<=x.length/\q.2.1.length<=64/\q.1<4294967296/\P=P0 x q.1 q.2.1 q.2.2.1 q.2.2.2) (λq=>q.1) (m,[],a3,e3) ⟨k3,cQ _,hN2,hP⟩
  (((Wk.new0 _ 903 1 54 (.inl (by decide))).trans (Wk.nlm _ 4 (r:=[.int .i64 0,.nl,.nl]) (r':=[.int .i64 0,.ms 903 1 0 0,.nl]) (by rfl) ⟨.inl rfl,.inr ⟨rfl,.inr ⟨903,1,rfl⟩⟩,.inl rfl,trivial⟩)).trans (Wk.of ?_ ?_)) ?_
 .simp only[go_sem,IY,IW];try simp[go_sem]
 .simp only[go_sem,IY,IW];try simp[go_sem]
 rintro⟨j,l,a4,e4⟩ ⟨g1,g2,g3,g4⟩;simp only at g1 g2 g3 g4;clear hP hN2 k3;by_cases hj:(j:Int)>0;rotate_left
 .obtain rfl:j=0:=by omega
  simp only[go_sem,aM hj];have hP:P=(l,a4,e4):=g4;subst hP;simp only at hR
  try simp only[go_sem,IY,IW]
  refine ae (Vv hx a4 e4 g1) ?_;have k5:=((jj x).oks [] a4 e4 g1).1;generalize iV (gX x) [] a4 e4=y at*;obtain⟨ol,a5,e5⟩:=y;simp only at k5 hR⊢;simp only[go_sem,exs];refine ae (KQ true x a5 e5) ?_;have cf:=Fr (b:=b) a2 e2 (BV true x a5 e5);rw[x6]at cf;rw[x6];subst hR;simp only[go_sem];refine aH (cf) ?_;refine done [903] (.agg (qB ⟨0,l,ol⟩)) [(1000,ro true b a2 (if e2=0 then Bx x a5 e5 else e2))] ?_ (by simp only[go_sem]) rfl ⟨rfl,rfl⟩;simp only[go_sem,bG,qB];rw[dQ (by rw[cU];omega)]
 obtain⟨j,rfl⟩:∃k,j=k+1:=⟨j-1,by omega⟩
 have hw1:IntKind.i64.wrap (((j+1:Nat):Int)-1)=(j:Int):=by rw[wi (by omega) (by omega)];omega
 simp only[go_sem,aL hj,IY,IW];refine ae (aU true x a4 e4) ?_;by_cases he:e4=0;rotate_left
 .simp only[go_sem,pw he];have hP:P=(l,a4,e4):=by rw[g4,afZ he]
  subst hP;simp only at hR
  try simp only[go_sem,IY,IW]
  refine ae (Vv hx a4 e4 g1) ?_;have k5:=((jj x).oks [] a4 e4 g1).1;generalize iV (gX x) [] a4 e4=y at*;obtain⟨ol,a5,e5⟩:=y;simp only at k5 hR⊢;simp only[go_sem,exs];refine ae (KQ true x a5 e5) ?_;have cf:=Fr (b:=b) a2 e2 (BV true x a5 e5);rw[x6]at cf;rw[x6];subst hR;simp only[go_sem];refine aH (cf) ?_;refine done [903] (.agg (qB ⟨0,l,ol⟩)) [(1000,ro true b a2 (if e2=0 then Bx x a5 e5 else e2))] ?_ (by simp only[go_sem]) rfl ⟨rfl,rfl⟩;simp only[go_sem,bG,qB];rw[dQ (by rw[cU];omega)]
 subst he;rw[afY]at g4;simp only[pb]at g4;simp only[go_sem];refine ae (N9 hx a4 0 g1) ?_;have u1:=(tK (b:=x) a4 0 g1).1;have u2:=DS ((0:Int)==0) x a4 0;change (tL x a4 0).1<_ at u2;generalize tL x a4 0=y at*;obtain⟨many,a5,e5⟩:=y;simp only at u1 u2 g4⊢;simp only[go_sem];refine ae (Yk hx a5 e5 u1) ?_;have v1:=((uV x).oks 0 a5 e5 u1).1;generalize iV (gV x) 0 a5 e5=y at*;obtain⟨t,a6,e6⟩:=y;simp only at v1 g4⊢;have hw2:IntKind.i64.wrap (64-(l.length:Int))=64-(l.length:Int):=wi (by omega) (by omega);have key:∀e7:Int,(e7=0->(many:Int)<=64-l.length)->P=P0 x j (if e7=0 then l++List.replicate many t else l) a6 e7->True:=λ_ _ _=>trivial;by_cases hm:(many:Int)>64-(l.length:Int)
 .rw[show I4 6 ((many:Int)>64-(l.length:Int)) a6 e6=((),a6,if e6=0 then 6 else e6)by unfold I4 pI pF;rw[aF hm]]at g4;simp only[go_sem,hw2,aL hm];have cf:=Fr (b:=x) a6 e6 6;have h7:(if e6=0 then(6:Int)else e6)=0->(many:Int)<=64-l.length:=λq=>by split at q<;>omega
  generalize (if e6=0 then(6:Int)else e6)=e7 at*;refine ae (cf) ?_;simp only at g4;refine an (λq:Nat×List Int=>⟨[(6,.int .i64 (q.1:Nat)),(7,.int .i64 t),(5,.int .i64 ((j+1:Nat):Int)),(3,.mp 902 4 0 0),(4,.mp 4 3 0 0),(2,.mp 2 3 0 0),(0,.mp 1000 4 0 0)],[(2,⟨61,3,[[.int .i64 0,.nl,.nl]],true⟩),(4,IY q.2),(903,IW q.2),(902,ro true x a6 e7),(1000,ro true b a2 e2)]⟩)
   (λq=>(e7=0->q.2++List.replicate q.1 t=l++List.replicate many t/\q.2.length+q.1<=64)/\(e7≠0->q.2=l)/\q.1<4294967296) (λq=>q.1) (many,l) ⟨λ_=>⟨rfl,by have:=h7 ‹_›;simp only;omega⟩,λ_=>rfl,u2⟩ (Wk.of ?_ ?_) ?_
  .simp only[go_sem];try simp
  .simp only[go_sem,IY,IW];try simp[go_sem]
  rintro⟨i,L⟩ ⟨z1,z2,z3⟩;simp only at z1 z2 z3;have happ:=λys=>bX 903 54 1 L.length oE L ys rfl;have out:(e7=0->i=0)->P=P0 x j L a6 e7/\L.length<=64:=λq=>by
   by_cases h0:e7=0
   .obtain⟨y1,y2⟩:=z1 h0;rw[q h0,List.replicate_zero,gh]at y1;rw[aF h0]at g4;rw[y1];exact⟨g4,by rw[<-y1];omega⟩
   .rw[z2 h0];rw[au h0]at g4;exact⟨g4,g2⟩
  by_cases hi:(i:Int)>0;rotate_left
  .obtain⟨o1,o2⟩:=out λ_=>by omega
   simp only[go_sem,aM hi,hw1];refine aE (j,L,a6,e7) ⟨v1,o2,by simp only;omega,o1⟩ (show j<j+1 by omega) (Wk.of ?_ ?_)
   .simp only[go_sem];try simp
   .simp only[go_sem,IY,IW];try simp[go_sem]
  simp only[go_sem,aL hi,IY,IW];refine ae (aU true x a6 e7) ?_;by_cases h0:e7=0;rotate_left
  .obtain⟨o1,o2⟩:=out λq=>absurd q h0;simp only[go_sem,pw h0,hw1];refine aE (j,L,a6,e7) ⟨v1,o2,by simp only;omega,o1⟩ (show j<j+1 by omega) (Wk.of ?_ ?_)
   .simp only[go_sem];try simp
   .simp only[go_sem,IY,IW];try simp[go_sem]
  obtain⟨i,rfl⟩:∃k,i=k+1:=⟨i-1,by omega⟩
  have hw3:IntKind.i64.wrap (((i+1:Nat):Int)-1)=(i:Int):=by rw[wi (by omega) (by omega)];omega
  obtain⟨y1,y2⟩:=z1 h0;simp only[go_sem,be h0,happ,hw3,dm];refine⟨by omega,aE (i,L++[t]) ⟨λ_=>⟨by rw[<-y1];simp[Eo],by simp;omega⟩,λq=>absurd h0 q,by simp only;omega⟩ (show i<i+1 by omega) (Wk.of ?_ ?_)⟩
  .simp only[go_sem];try simp
  .simp only[go_sem,IY,IW];try simp[go_sem,dm]
 .rw[show I4 6 ((many:Int)>64-(l.length:Int)) a6 e6=((),a6,e6)by unfold I4 pI pP;rw[au hm]]at g4;simp only[go_sem,hw2,aM hm];have h7:e6=0->(many:Int)<=64-l.length:=λ_=>by omega
  simp only at g4;generalize e6=e7 at*;refine an (λq:Nat×List Int=>⟨[(6,.int .i64 (q.1:Nat)),(7,.int .i64 t),(5,.int .i64 ((j+1:Nat):Int)),(3,.mp 902 4 0 0),(4,.mp 4 3 0 0),(2,.mp 2 3 0 0),(0,.mp 1000 4 0 0)],[(2,⟨61,3,[[.int .i64 0,.nl,.nl]],true⟩),(4,IY q.2),(903,IW q.2),(902,ro true x a6 e7),(1000,ro true b a2 e2)]⟩)
   (λq=>(e7=0->q.2++List.replicate q.1 t=l++List.replicate many t/\q.2.length+q.1<=64)/\(e7≠0->q.2=l)/\q.1<4294967296) (λq=>q.1) (many,l) ⟨λ_=>⟨rfl,by have:=h7 ‹_›;simp only;omega⟩,λ_=>rfl,u2⟩ (Wk.of ?_ ?_) ?_
  .simp only[go_sem];try simp
  .simp only[go_sem,IY,IW];try simp[go_sem]
  rintro⟨i,L⟩ ⟨z1,z2,z3⟩;simp only at z1 z2 z3;have happ:=λys=>bX 903 54 1 L.length oE L ys rfl;have out:(e7=0->i=0)->P=P0 x j L a6 e7/\L.length<=64:=λq=>by
   by_cases h0:e7=0
   .obtain⟨y1,y2⟩:=z1 h0;rw[q h0,List.replicate_zero,gh]at y1;rw[aF h0]at g4;rw[y1];exact⟨g4,by rw[<-y1];omega⟩
   .rw[z2 h0];rw[au h0]at g4;exact⟨g4,g2⟩
  by_cases hi:(i:Int)>0;rotate_left
  .obtain⟨o1,o2⟩:=out λ_=>by omega
   simp only[go_sem,aM hi,hw1];refine aE (j,L,a6,e7) ⟨v1,o2,by simp only;omega,o1⟩ (show j<j+1 by omega) (Wk.of ?_ ?_)
   .simp only[go_sem];try simp
   .simp only[go_sem,IY,IW];try simp[go_sem]
  simp only[go_sem,aL hi,IY,IW];refine ae (aU true x a6 e7) ?_;by_cases h0:e7=0;rotate_left
  .obtain⟨o1,o2⟩:=out λq=>absurd q h0;simp only[go_sem,pw h0,hw1];refine aE (j,L,a6,e7) ⟨v1,o2,by simp only;omega,o1⟩ (show j<j+1 by omega) (Wk.of ?_ ?_)
   .simp only[go_sem];try simp
   .simp only[go_sem,IY,IW];try simp[go_sem]
  obtain⟨i,rfl⟩:∃k,i=k+1:=⟨i-1,by omega⟩
  have hw3:IntKind.i64.wrap (((i+1:Nat):Int)-1)=(i:Int):=by rw[wi (by omega) (by omega)];omega
  obtain⟨y1,y2⟩:=z1 h0;simp only[go_sem,be h0,happ,hw3,dm];refine⟨by omega,aE (i,L++[t]) ⟨λ_=>⟨by rw[<-y1];simp[Eo],by simp;omega⟩,λq=>absurd h0 q,by simp only;omega⟩ (show i<i+1 by omega) (Wk.of ?_ ?_)⟩
  .simp only[go_sem];try simp
  .simp only[go_sem,IY,IW];try simp[go_sem,dm]
end
def x3{α:Type}(b:List UInt8)(t:PS α):α×Int:=((t 0 0).1,Bx b (t 0 0).2.1 (t 0 0).2.2)
def x5{α:Type}(q:α×Int)(f:α->Dc):Dc×Int:=(f q.1,q.2)
def pTn(b:List UInt8):PS Int:=pb (tL b) λn=>pP (n:Int)
def EC(fs:List Cd)(l:List (List Int×List bj)):List Cd:=fs.zipIdx.map λx=>if x.2<l.length then(⟨x.1.t,(ah l x.2).1,(ah l x.2).2⟩:Cd)else x.1
def Iz(d:Dc)(p:Int)(b:List UInt8):Dc×Int :=
 if p=1 then x5 (x3 b (pL b (pFt b) (64:Nat))) λl=>⟨{d.m with ts:=l},p,d.codes,d.data⟩else
 if p=2 then x5 (x3 b (pL b (Ye b) (32:Nat))) λl=>⟨{d.m with ims:=l},p,d.codes,d.data⟩else
 if p=3 then x5 (x3 b (pL b (P1 b) (64:Nat))) λl=>⟨{d.m with fs:=l},p,d.codes,d.data⟩else
 if p=4 then x5 (x3 b (pL b (iV (QD b) Lh) (4:Nat))) λl=>⟨{d.m with tbs:=l},p,d.codes,d.data⟩else
 if p=5 then x5 (x3 b (pL b (iV (LM b) ⟨0,0,false⟩) (2:Nat))) λl=>⟨{d.m with ms:=l},p,d.codes,d.data⟩else
 if p=6 then x5 (x3 b (pL b (pGd b) (32:Nat))) λl=>⟨{d.m with gs:=l},p,d.codes,d.data⟩else
 if p=7 then x5 (x3 b (pL b (Yd b) (64:Nat))) λl=>⟨{d.m with exs:=l},p,d.codes,d.data⟩else
 if p=8 then x5 (x3 b (pTn b)) λn=>⟨{d.m with hs:=true,st:=n},p,d.codes,d.data⟩else
 if p=9 then x5 (x3 b (pL b (Yc b) (16:Nat))) λl=>⟨{d.m with els:=l},p,d.codes,d.data⟩else
 if p=10 then x5 (x3 b (pTn b)) λn=>⟨d.m,p,d.codes,n⟩else
 if p=11 then x5 (x3 b (pL b (I3 b) (64:Nat))) λl=>⟨{d.m with fs:=EC d.m.fs l},p,l.length,d.data⟩else
 x5 (x3 b (pL b (Yb b) (16:Nat))) λl=>⟨{d.m with ds:=l},p,d.codes,d.data⟩
def kI(d:Dc)(s:ig):Dc×Int :=
 if s.id=0 then(if d.m.cs.length>=8\/(gb s.bs).length>4096 then(d,6)else(⟨{d.m with cs:=d.m.cs++[⟨d.place,s.name,gb s.bs⟩]},d.place,d.codes,d.data⟩,0))else Iz d (jH s.id) (gb s.bs)
def Lz:List ig->Dc->Md×Int
 | [],d=>if(d.codes:Int)≠d.m.fs.length\/(d.data>=0/\d.data≠d.m.ds.length)then(I2,8)else(d.m,0)
 | s::r,d=>if(kI d s).2≠0 then(I2,(kI d s).2)else Lz r (kI d s).1
def G_(b:List UInt8):Md×Int:=if b.length>262144 then(I2,6)else if(Ec b).1≠0 then(I2,(Ec b).1)else Lz (Ec b).2 IZ
def Uq{b:List UInt8}{a:Nat}{e:Int}{n:Int}{x:List UInt8}(h:(bI (e==0) b a e n).1=some x):x.length<=b.length:=by
 unfold bI at h
 repeat' split at h
 all_goals first|(cases h;done)|(injection h with h;subst h;simp only[pA,jJ];omega)
def adx(d:List UInt8):(gb (tz d).1).length<=d.length:=by
 cases h:(tz d).1 with
 | none=>exact cQ _
 | some x=>rw[je];exact Uq h
def X9{d:List UInt8}{last:Int}(h:(ey d last).1=0):(gb (ey d last).2.1.bs).length<=d.length/\((ey d last).2.1.id=0\/(1<=(ey d last).2.1.id/\(ey d last).2.1.id<=12)):=by
 have hl:=adx d;unfold ey at h⊢;by_cases h1:(ah d 0).toNat>12
 .rw[aF h1]at h;cases h
 rw[au h1]at h⊢;by_cases h2:(tz d).2.2≠0
 .rw[aF h2]at h;exact absurd h h2
 rw[au h2]at h⊢;by_cases h3:(ah d 0).toNat≠0/\jH (ah d 0).toNat<=last
 .rw[aF h3]at h;cases h
 rw[au h3]at h⊢;by_cases h4:(kh (ah d 0).toNat (gb (tz d).1)).1≠0
 .rw[aF h4]at h;exact absurd h h4
 rw[au h4];simp only;rw[B2]at h4;generalize gb (tz d).1=x at*;unfold kh at h4⊢;by_cases h5:((ah d 0).toNat:Int)=0
 .rw[aF h5]at h4⊢;by_cases h6:(dl true x 0 0).2.2≠0
  .rw[aF h6]at h4;exact absurd h4 h6
  .rw[au h6];simp only;rw[je,jJ];exact⟨by omega,.inl trivial⟩
 .rw[au h5];simp only;rw[je];exact⟨hl,.inr (by omega)⟩
def Oz:∀(f:Nat)(d:List UInt8)(last:Int)(acc:List ig)(n:Nat),d.length<=n->(∀s∈acc,(gb s.bs).length<=n/\(s.id=0\/(1<=s.id/\s.id<=12)))->∀s∈(tO f d last acc).2,(gb s.bs).length<=n/\(s.id=0\/(1<=s.id/\s.id<=12))
 | 0,d,last,acc,n,_,h=>h
 | f+1,d,last,acc,n,hd,h=>by
  rw[tO];by_cases h0:d.length=0
  .rw[aF h0];exact h
  rw[au h0];by_cases h1:(ey d last).1≠0
  .rw[aF h1];intro s hs;cases hs
  rw[au h1];rw[B2]at h1;obtain⟨g1,g2⟩:=X9 h1;refine Oz f _ _ _ n ?_ λs hs=>?_
  .have:(ey d last).2.2.length<=d.length:=by
    unfold ey
    repeat' split
    all_goals first|exact cQ _|(simp only[jJ];omega)
   omega
  .rcases f9.1 hs with q|q
   .exact h s q
   .simp only[kq]at q;subst q;exact⟨by omega,g2⟩
def adu(b:List UInt8):∀s∈(Ec b).2,(gb s.bs).length<=b.length/\(s.id=0\/(1<=s.id/\s.id<=12)):=by
 unfold Ec;split
 .intro s hs;cases hs
 split
 .intro s hs;cases hs
 .exact Oz _ _ _ _ _ (by rw[jJ];omega) λs hs=>by cases hs
def T8{α:Type}(one:PS α):∀(n a:Nat)(e:Int),(pN one n a e).1.length<=n
 | 0,a,e=>bG _
 | n+1,a,e=>by
  by_cases he:e=0
  .subst he;rw[Yf];have:=T8 one n (one a 0).2.1 (one a 0).2.2;simp only[aT];omega
  .rw[Yg he];exact cQ _
def Mi{α:Type}(b:List UInt8)(one:PS α)(most:Int)(a:Nat)(e:Int):(pL b one most a e).1.length<4294967296:=by
 have h1:=T8 one (pC b most a e).1 (pC b most a e).2.1 (pC b most a e).2.2;have h2:=zm (b:=b) (most:=most) (a:=a) (e:=e);exact Nat.lt_of_le_of_lt h1 h2
def ij(fs:List Cd)(l:List (List Int×List bj)):(EC fs l).length=fs.length:=by unfold EC;simp
section
def Bl(n:Int)(l:List Nat):Int:=l.foldl (λ(n:Int)(k:Nat)=>IntKind.i64.wrap (n+(k:Int))) n
def IA{α:Type}[Inhabited α](g:α->Nat){l:List α}{i:Nat}(h:i<l.length)(n:Int):Bl n ((l.take (i+1)).map g)=IntKind.i64.wrap (Bl n ((l.take i).map g)+(g (ah l i):Int)):=by
 rw[MV h];simp[Bl]
def Nu(n:Int)(l:List El):Int:=l.foldl (λn x=>Bl (IntKind.i64.wrap (n+(x.o.length:Int))) (x.it.map List.length)) n
def aa0{l:List El}{i:Nat}(h:i<l.length)(n:Int):Nu n (l.take (i+1))=Bl (IntKind.i64.wrap (Nu n (l.take i)+((ah l i).o.length:Int))) ((ah l i).it.map List.length):=by
 rw[MV h];simp[Nu]
def Py(m:Md):Int:=Bl 0 (m.fs.map λx=>x.b.length)
def JI(m:Md):Int:=Bl (Py m) (m.gs.map λx=>x.i.length)
def Pz(m:Md):Int:=Nu (JI m) m.els
def CY(m:Md):Int:=Bl (Pz m) (m.ds.map λx=>x.o.length)
attribute[local go_sem] cU bC cK s8 bh ef iz
def Uw(m:Md)(h:BZ m):ac pg Dn [cY m] (.int .i64 (CY m)):=by
 refine aD uu ?_;simp only[go_sem,uu,cY];refine an (λi:Nat=>⟨[(4,.int .i64 (i:Nat)),(3,.int .i64 (Bl 0 ((m.fs.take i).map λx=>x.b.length))),(1,.mp 1 12 0 0)],[(1,⟨33,12,[nZ m],true⟩)]⟩) (λi=>i<=m.fs.length) (λi=>m.fs.length-i) 0 (cQ _) (Wk.of ?_ ?_) ?_
 .simp only[go_sem,mA,k9,Bl,List.foldl_nil];try simp
 .simp only[go_sem]
 intro i hi;by_cases h1:(i:Int)<(m.fs.length:Int)
 .have hi':i<m.fs.length:=by omega
  have e8:=dv hi' (by have:=h.fs.1;omega);have ht:=IA (λx:Cd=>x.b.length) hi' 0;simp only[go_sem,aL h1];refine⟨by omega,h1,aE (i+1) (show i+1<=m.fs.length by omega) (show m.fs.length-(i+1)<m.fs.length-i by omega) (Wk.of ?_ ?_)⟩
  .simp only[go_sem,e8,ht];try simp
  .simp only[go_sem]
 obtain rfl:i=m.fs.length:=by omega
 rw[eV,show Bl 0 (m.fs.map λx=>x.b.length)=Py m from rfl];simp only[go_sem,aM h1];clear hi h1;refine an (λi:Nat=>⟨[(5,.int .i64 (i:Nat)),(3,.int .i64 (Bl (Py m) ((m.gs.take i).map λx=>x.i.length))),(1,.mp 1 12 0 0)],[(1,⟨33,12,[nZ m],true⟩)]⟩) (λi=>i<=m.gs.length) (λi=>m.gs.length-i) 0 (cQ _) (Wk.of ?_ ?_) ?_
 .simp only[go_sem,mA,k9,Bl,List.foldl_nil];try simp
 .simp only[go_sem]
 intro i hi;by_cases h1:(i:Int)<(m.gs.length:Int)
 .have hi':i<m.gs.length:=by omega
  have e8:=dv hi' (by have:=h.gs.1;omega);have ht:=IA (λx:Gd=>x.i.length) hi' (Py m);simp only[go_sem,aL h1];refine⟨by omega,h1,aE (i+1) (show i+1<=m.gs.length by omega) (show m.gs.length-(i+1)<m.gs.length-i by omega) (Wk.of ?_ ?_)⟩
  .simp only[go_sem,e8,ht];try simp
  .simp only[go_sem]
 obtain rfl:i=m.gs.length:=by omega
 rw[eV,show Bl (Py m) (m.gs.map λx=>x.i.length)=JI m from rfl];simp only[go_sem,aM h1];clear hi h1;refine an (λi:Nat=>⟨[(6,.int .i64 (i:Nat)),(3,.int .i64 (Nu (JI m) (m.els.take i))),(1,.mp 1 12 0 0)],[(1,⟨33,12,[nZ m],true⟩)]⟩) (λi=>i<=m.els.length) (λi=>m.els.length-i) 0 (cQ _) (Wk.of ?_ ?_) ?_
 .simp only[go_sem,mA,Nu,List.foldl_nil];try simp
 .simp only[go_sem]
 intro i hi;by_cases h1:(i:Int)<(m.els.length:Int)
 .have hi':i<m.els.length:=by omega
  have e8:=dv hi' (by have:=h.els.1;omega);have ht:=aa0 hi' (JI m);have hit:=(h.els.2 (ah m.els i) (by rw[bD hi'];exact na hi')).2.1;simp only[go_sem,aL h1];refine⟨by omega,h1,?_⟩;refine an (λq:Nat=>⟨[(7,.int .i64 (q:Nat)),(3,.int .i64 (Bl (IntKind.i64.wrap (Nu (JI m) (m.els.take i)+((ah m.els i).o.length:Int))) (((ah m.els i).it.take q).map List.length))),(6,.int .i64 i),(1,.mp 1 12 0 0)],[(1,⟨33,12,[nZ m],true⟩)]⟩) (λq=>q<=(ah m.els i).it.length) (λq=>(ah m.els i).it.length-q) 0 (cQ _) (Wk.of ?_ ?_) ?_
  .simp only[go_sem,mA,k9,Bl,List.foldl_nil];try simp
  .simp only[go_sem]
  intro q hq;by_cases q1:(q:Int)<((ah m.els i).it.length:Int)
  .have hq':q<(ah m.els i).it.length:=by omega
   have e9:=dv hq' (by omega);have hu:=IA List.length hq' (IntKind.i64.wrap (Nu (JI m) (m.els.take i)+((ah m.els i).o.length:Int)));simp only[go_sem,aL q1];refine⟨by omega,h1,by omega,h1,by omega,q1,aE (q+1) (show q+1<=(ah m.els i).it.length by omega) (show(ah m.els i).it.length-(q+1)<(ah m.els i).it.length-q by omega) (Wk.of ?_ ?_)⟩
   .simp only[go_sem,e9,hu];try simp
   .simp only[go_sem]
  obtain rfl:q=(ah m.els i).it.length:=by omega
  rw[eV,<-ht];simp only[go_sem,aM q1];refine⟨by omega,h1,?_⟩;refine aE (i+1) (show i+1<=m.els.length by omega) (show m.els.length-(i+1)<m.els.length-i by omega) (Wk.of ?_ ?_)
  .simp only[go_sem,e8];try simp
  .simp only[go_sem]
 obtain rfl:i=m.els.length:=by omega
 rw[eV,show Nu (JI m) m.els=Pz m from rfl];simp only[go_sem,aM h1];clear hi h1;refine an (λi:Nat=>⟨[(8,.int .i64 (i:Nat)),(3,.int .i64 (Bl (Pz m) ((m.ds.take i).map λx=>x.o.length))),(1,.mp 1 12 0 0)],[(1,⟨33,12,[nZ m],true⟩)]⟩) (λi=>i<=m.ds.length) (λi=>m.ds.length-i) 0 (cQ _) (Wk.of ?_ ?_) ?_
 .simp only[go_sem,mA,k9,Bl,List.foldl_nil];try simp
 .simp only[go_sem]
 intro i hi;by_cases h1:(i:Int)<(m.ds.length:Int)
 .have hi':i<m.ds.length:=by omega
  have e8:=dv hi' (by have:=h.ds.1;omega);have ht:=IA (λx:Da=>x.o.length) hi' (Pz m);simp only[go_sem,aL h1];refine⟨by omega,h1,aE (i+1) (show i+1<=m.ds.length by omega) (show m.ds.length-(i+1)<m.ds.length-i by omega) (Wk.of ?_ ?_)⟩
  .simp only[go_sem,e8,ht];try simp
  .simp only[go_sem]
 obtain rfl:i=m.ds.length:=by omega
 rw[eV,show Bl (Pz m) (m.ds.map λx=>x.o.length)=CY m from rfl];simp only[go_sem,aM h1];clear hi h1;exact az
