import Derived.Test.YtdfofedlbljnhaaGreatDoorWQn
set_option linter.all false
set_option maxRecDepth 100000
set_option maxHeartbeats 40000000
namespace Go.Proofs.YtdfofedlbljnhaaGreatDoor
open Go Go.Mw
def CE(op:Int)(h:x7 op=true):(kO op).length<=6:=by
 rcases vP h with h|h
 .unfold kO;rw[au (by omega)];simp
 .unfold kO;rw[aF (by omega),aT];have:=bA (n:=(op-64512).toNat) (by omega);omega
def Ud{x:bj}(h:PL x=true):x7 x.op=true:=by
 unfold PL Mm at h;simp only[cE]at h;exact h.1
def N8{x:bj}{l:List UInt8}{e:Int}(h:PL x=true)(hs:¬(qu x.op=3/\4294967296<=x.lb.length)):py x l e=(wB (e==0) (wB (e==0) l (kO x.op)) (nV (qu x.op) x),e):=by
 unfold py;rw[aF h,au hs,Bp];rfl
def Kx{x:bj}{l:List UInt8}{e:Int}(h:PL x=true)(hs:qu x.op=3/\4294967296<=x.lb.length):py x l e=(wB (e==0) l (kO x.op),if(true&&e==0)=true then 1 else e):=by
 unfold py;rw[aF h,aF hs,bW];by_cases he:e=0
 .subst he;rfl
 .rw[au he,iS.2 he];rfl
def N7{x:bj}{l:List UInt8}{e:Int}(h:PL x=false):py x l e=(l,if(true&&e==0)=true then 10 else e):=by
 unfold py;rw[au (by rw[h];decide),bW];by_cases he:e=0
 .subst he;rfl
 .rw[au he,iS.2 he];rfl
section
variable{l:List UInt8}{e:Int}(hl:l.length<1000000000)
include hl
attribute[local go_sem] ro wo wa wx rx cL dm aS
theorem agL(x:bj)(hn:0<=x.n)(hlb:x.lb.length<=9223372036854775807):WM xq [di x] true l e (.tup []) (py x l e).1 (py x l e).2:=by
 refine bT lc ?_;have a1:=KS x (qu x.op) (lm _) (GK x.op).2.2.1 (by omega);rw[(GK x.op).1,ZS _ (lm _) _ _ hn]at a1;replace a1:ac pg cM [di x] (.bool (PL x)):=a1;simp only[cL]at a1;cases hp:PL x
 .rw[hp]at a1;rw[N7 hp];simp only[go_sem,lc];refine aa (a1) ?_;refine aV [] (k:=1000) (j:=2000) (oq true l e 10) ?_;simp only[go_sem];exact eT [] _ [(1000,wo 2000 true l (if(true&&e==0)=true then 10 else e)),(2000,wa l)] ⟨rfl,rfl⟩
 rw[hp]at a1;have hk:=Ud hp;have hol:=CE x.op hk;have hc:=UV x.op;rw[(GK x.op).2.2.1]at hc;have hi:=lm x.op;have hko:=vP hk;have hQ:(¬(qu x.op=3/\4294967296<=x.lb.length)/\py x l e=(wB (e==0) (wB (e==0) l (kO x.op)) (nV (qu x.op) x),e))\/((qu x.op=3/\4294967296<=x.lb.length)/\py x l e=(wB (e==0) l (kO x.op),if(true&&e==0)=true then 1 else e)):=by
  by_cases hs:qu x.op=3/\4294967296<=x.lb.length
  .exact .inr ⟨hs,Kx hp hs⟩
  .exact .inl ⟨hs,N8 hp hs⟩
 generalize hq:py x l e=q at*;clear hq;obtain⟨op,a0,b0,n,k,v,z,ty,lb⟩:=x;simp only at a1 hn hlb hk hol hc hi hko hQ;unfold PL Mm KJ at hp;simp only[hk,bW]at hp;have hO:(op>=64512/\∃m:Nat,m<256/\IntKind.i64.wrap (op-64512)=(m:Int)/\wB (e==0) l (kO op)=wB (e==0) (wB (e==0) l [252]) (ay m))\/(¬op>=64512/\∃y:UInt8,IntKind.u8.wrap op=(y.toNat:Int)/\wB (e==0) l (kO op)=wB (e==0) l [y]):=by
  rcases hko with h|h
  .refine .inr ⟨by omega,UInt8.ofNat op.toNat,?_,?_⟩
   .rw[ofNat_toNat (by omega),vy];omega
   .unfold kO;rw[au (by omega)]
  .refine .inl ⟨by omega,(op-64512).toNat,by omega,?_,?_⟩
   .rw[wi (by omega) (by omega)];omega
   .rw[Bp];unfold kO;rw[aF (by omega)];rfl
 have hl1:=kY (ok:=e==0) (l:=l) (x:=kO op);replace hl1:(wB (e==0) l (kO op)).length<1100000000:=by omega
 generalize qu op=i at*;clear hko hk hol;generalize wB (e==0) l (kO op)=l1 at*;rcases hO with⟨ho,m,hm,hw,rfl⟩|⟨ho,y,hw,rfl⟩
 have b1:=kY (ok:=e==0) (l:=l) (x:=[252]);rw[jI]at b1;simp only[go_sem,lc];refine aj (a1) ?_;simp only[go_sem,aL ho];refine aV [] (k:=1000) (j:=2000) (vY true l 252 e (by omega)) ?_;simp only[go_sem,hw,bW];refine aV [] (k:=1000) (j:=2000) (tN (l:=wB (e==0) l [252]) (e:=e) (by omega) m (by omega)) ?_;simp only[go_sem];refine aj (hc) ?_;clear hw a1 hc;generalize wB (e==0) (wB (e==0) l [252]) (ay m)=l1 at*;rotate_left;simp only[go_sem,lc];refine aj (a1) ?_;simp only[go_sem,aM ho,hw];refine aV [] (k:=1000) (j:=2000) (vY true l y e (by omega)) ?_;simp only[go_sem,bW];refine aj (hc) ?_;clear hw a1 hc;generalize wB (e==0) l [y]=l1 at*
 all_goals
  rcases(show i=0\/i=1\/i=2\/i=3\/i=4\/i=5\/i=6\/i=7\/i=8\/i=9\/i=10\/i=11\/i=12\/i=13\/i=14\/i=15\/i=16\/i=17\/i=18\/i=19\/i=20 by omega)with rfl|rfl|rfl|rfl|rfl|rfl|rfl|rfl|rfl|rfl|rfl|rfl|rfl|rfl|rfl|rfl|rfl|rfl|rfl|rfl|rfl
  all_goals
   simp only[Int.reduceEq,Int.reduceBEq,false_or,or_false,or_true,true_or,or_self,br,cD,iT,kA,bW,cE,beq_iff_eq,sz,decide_eq_false_iff_not,eQ,pz]at hp
  all_goals try (rcases hQ with⟨_,rfl⟩|⟨⟨h,_⟩,_⟩;rotate_left;omega)
  .simp only[go_sem];have h0:wB (e==0) l1 (nV 0 ⟨op,a0,b0,n,k,v,z,ty,lb⟩)=l1:=ag7 _ _;rw[h0];exact da [] _ [(1000,wo 2000 true l1 e),(2000,wa l1)] ⟨rfl,rfl⟩
  .obtain⟨hlb,hty,rfl,rfl,rfl,hb⟩:=hp;simp only[go_sem];refine aV [] (k:=1000) (j:=2000) (ME (l:=l1) (e:=e) (by omega) k v z hb) ?_;simp only[go_sem];exact da [] _ [(1000,wo 2000 true (wB (e==0) l1 (CD k v z)) e),(2000,wa (wB (e==0) l1 (CD k v z)))] ⟨rfl,rfl⟩
  .obtain⟨⟨rfl,rfl,rfl⟩,hlb,hty,ha,rfl,rfl⟩:=hp;obtain⟨m,rfl,hm⟩:=fJ ha;simp only[go_sem];refine aV [] (k:=1000) (j:=2000) (tN (l:=l1) (e:=e) (by omega) m hm) ?_;simp only[go_sem];exact da [] _ [(1000,wo 2000 true (wB (e==0) l1 (ay m)) e),(2000,wa (wB (e==0) l1 (ay m)))] ⟨rfl,rfl⟩
  .obtain⟨⟨rfl,rfl,rfl⟩,hty,ha,rfl,rfl,hal⟩:=hp;obtain⟨m,rfl,hm⟩:=fJ ha;rcases hQ with⟨hs,rfl⟩|⟨⟨_,hs⟩,rfl⟩
   .have hs':lb.length<4294967296:=Nat.lt_of_not_le λh=>hs ⟨rfl,h⟩;have c1:=bA (n:=lb.length) hs';have c2:=uS hal;have b1:=kY (ok:=e==0) (l:=l1) (x:=ay lb.length);have b2:=kY (ok:=e==0) (l:=l1) (x:=ay lb.length++eN lb);rw[aJ]at b2;simp only[go_sem];refine aV [] (k:=1000) (j:=2000) (tN (e:=e) (l:=l1) (by omega) lb.length (by omega)) ?_;simp only[go_sem];refine aV [] (k:=1000) (j:=2000) (vw (l:=wB (e==0) l1 (ay lb.length)) (e:=e) (by omega) lb hal hlb (λ_=>by omega)) ?_;simp only[go_sem,Bp];refine aV [] (k:=1000) (j:=2000) (tN (l:=wB (e==0) l1 (ay lb.length++eN lb)) (e:=e) (by omega) m hm) ?_;simp only[go_sem,Bp];exact da [] _ [(1000,wo 2000 true (wB (e==0) l1 (ay lb.length++eN lb++ay m)) e),(2000,wa (wB (e==0) l1 (ay lb.length++eN lb++ay m)))] ⟨rfl,rfl⟩
   .have hcu:=Iw true l1 e (lb.length:Int) (by omega);rw[show wU (true&&e==0) l1 e (lb.length:Int)=(l1,if(true&&e==0)=true then 1 else e)by unfold wU;cases (true&&e==0)<;>simp;omega]at hcu;have he1:(if(true&&e==0)=true then(1:Int)else e)≠0:=by
     by_cases he:e=0
     .subst he;decide
     .rw[aw he];exact he
    generalize (if(true&&e==0)=true then(1:Int)else e)=e1 at*;have hz:∀y,wB (e1==0) l1 y=l1:=λy=>by rw[aw he1];rfl
    have hp1:=vw (l:=l1) (e:=e1) (by omega) lb hal hlb (λh=>absurd h he1);have hp2:=tN (l:=l1) (e:=e1) (by omega) m hm;rw[hz]at hp1 hp2;simp only[go_sem];refine aV [] (k:=1000) (j:=2000) (hcu) ?_;simp only[go_sem];refine aV [] (k:=1000) (j:=2000) (hp1) ?_;simp only[go_sem];refine aV [] (k:=1000) (j:=2000) (hp2) ?_;simp only[go_sem];exact da [] _ [(1000,wo 2000 true l1 e1),(2000,wa l1)] ⟨rfl,rfl⟩
  .obtain⟨⟨rfl,rfl,rfl⟩,hlb,hty,ha,rfl,rfl⟩:=hp;obtain⟨m,rfl,hm⟩:=fJ ha;simp only[go_sem];refine aV [] (k:=1000) (j:=2000) (tN (l:=l1) (e:=e) (by omega) m hm) ?_;simp only[go_sem];exact da [] _ [(1000,wo 2000 true (wB (e==0) l1 (ay m)) e),(2000,wa (wB (e==0) l1 (ay m)))] ⟨rfl,rfl⟩
  .obtain⟨⟨rfl,rfl,rfl⟩,hlb,hty,ha,hb,rfl⟩:=hp;have hps:=vw (l:=l1) (e:=e) (by omega) [a0,b0] (by simp only[xA,List.all_nil,ha,hb,Bool.and_self]) (by simp) (λ_=>by simp;omega);have hEn:eN [a0,b0]=ay a0.toNat++ay b0.toNat:=by simp[eN]
   rw[hEn]at hps;simp only[go_sem];refine ee [81] (k:=1000) (j:=2000) (hps) (by decide) (by decide) (by decide) (by decide) (by first|rfl|simp[go_sem,ab]) (by simp[go_sem]) ?_ (by rfl) (by rfl) ?_
   .simp only[go_sem];try simp[go_sem,dm]
   simp only[go_sem];exact da [] _ [(1000,wo 2000 true (wB (e==0) l1 (ay a0.toNat++ay b0.toNat)) e),(2000,wa (wB (e==0) l1 (ay a0.toNat++ay b0.toNat)))] ⟨rfl,rfl⟩
  .obtain⟨⟨rfl,rfl,rfl⟩,hlb,rfl,rfl,rfl,hlen,hv⟩:=hp;have b1:=kY (ok:=e==0) (l:=l1) (x:=ay 1);have c1:=bA (n:=1) (by omega);simp only[go_sem];refine aV [] (k:=1000) (j:=2000) (tN (e:=e) (l:=l1) (by omega) 1 (by omega)) ?_;simp only[go_sem];refine⟨by decide,by omega,?_⟩;refine aV [] (k:=1000) (j:=2000) (zB (l:=wB (e==0) l1 (ay 1)) (e:=e) (by omega) (ah ty 0) hv) ?_;simp only[go_sem,Bp];exact da [] _ [(1000,wo 2000 true (wB (e==0) l1 (ay 1++[(vo (ah ty 0)).1])) e),(2000,wa (wB (e==0) l1 (ay 1++[(vo (ah ty 0)).1])))] ⟨rfl,rfl⟩
  .obtain⟨⟨rfl,rfl,rfl⟩,hlb,hty,ha,rfl,rfl⟩:=hp;obtain⟨m,rfl,hm⟩:=fJ ha;simp only[go_sem];refine aV [] (k:=1000) (j:=2000) (tN (l:=l1) (e:=e) (by omega) m hm) ?_;simp only[go_sem];exact da [] _ [(1000,wo 2000 true (wB (e==0) l1 (ay m)) e),(2000,wa (wB (e==0) l1 (ay m)))] ⟨rfl,rfl⟩
  .obtain⟨⟨rfl,rfl,rfl⟩,hlb,hty,ha,rfl,rfl⟩:=hp;obtain⟨m,rfl,hm⟩:=fJ ha;simp only[go_sem];refine aV [] (k:=1000) (j:=2000) (tN (l:=l1) (e:=e) (by omega) m hm) ?_;simp only[go_sem];exact da [] _ [(1000,wo 2000 true (wB (e==0) l1 (ay m)) e),(2000,wa (wB (e==0) l1 (ay m)))] ⟨rfl,rfl⟩
  .obtain⟨⟨rfl,rfl,rfl⟩,hlb,hty,ha,rfl,rfl⟩:=hp;obtain⟨m,rfl,hm⟩:=fJ ha;simp only[go_sem];refine aV [] (k:=1000) (j:=2000) (tN (l:=l1) (e:=e) (by omega) m hm) ?_;simp only[go_sem];exact da [] _ [(1000,wo 2000 true (wB (e==0) l1 (ay m)) e),(2000,wa (wB (e==0) l1 (ay m)))] ⟨rfl,rfl⟩
  .obtain⟨⟨rfl,rfl,rfl⟩,hlb,hty,ha,hb,rfl⟩:=hp;have hps:=vw (l:=l1) (e:=e) (by omega) [a0,b0] (by simp only[xA,List.all_nil,ha,hb,Bool.and_self]) (by simp) (λ_=>by simp;omega);have hEn:eN [a0,b0]=ay a0.toNat++ay b0.toNat:=by simp[eN]
   rw[hEn]at hps;simp only[go_sem];refine ee [81] (k:=1000) (j:=2000) (hps) (by decide) (by decide) (by decide) (by decide) (by first|rfl|simp[go_sem,ab]) (by simp[go_sem]) ?_ (by rfl) (by rfl) ?_
   .simp only[go_sem];try simp[go_sem,dm]
   simp only[go_sem];exact da [] _ [(1000,wo 2000 true (wB (e==0) l1 (ay a0.toNat++ay b0.toNat)) e),(2000,wa (wB (e==0) l1 (ay a0.toNat++ay b0.toNat)))] ⟨rfl,rfl⟩
  .obtain⟨⟨rfl,rfl,rfl⟩,hlb,hty,ha,hb,rfl⟩:=hp;have hps:=vw (l:=l1) (e:=e) (by omega) [a0,b0] (by simp only[xA,List.all_nil,ha,hb,Bool.and_self]) (by simp) (λ_=>by simp;omega);have hEn:eN [a0,b0]=ay a0.toNat++ay b0.toNat:=by simp[eN]
   rw[hEn]at hps;simp only[go_sem];refine ee [81] (k:=1000) (j:=2000) (hps) (by decide) (by decide) (by decide) (by decide) (by first|rfl|simp[go_sem,ab]) (by simp[go_sem]) ?_ (by rfl) (by rfl) ?_
   .simp only[go_sem];try simp[go_sem,dm]
   simp only[go_sem];exact da [] _ [(1000,wo 2000 true (wB (e==0) l1 (ay a0.toNat++ay b0.toNat)) e),(2000,wa (wB (e==0) l1 (ay a0.toNat++ay b0.toNat)))] ⟨rfl,rfl⟩
  .obtain⟨⟨rfl,rfl,rfl⟩,hlb,hty,ha,rfl,rfl⟩:=hp;obtain⟨m,rfl,hm⟩:=fJ ha;simp only[go_sem];refine aV [] (k:=1000) (j:=2000) (tN (l:=l1) (e:=e) (by omega) m hm) ?_;simp only[go_sem];exact da [] _ [(1000,wo 2000 true (wB (e==0) l1 (ay m)) e),(2000,wa (wB (e==0) l1 (ay m)))] ⟨rfl,rfl⟩
  .obtain⟨⟨rfl,rfl,rfl⟩,hlb,hty,rfl,hb,rfl⟩:=hp;obtain⟨m,rfl,hm⟩:=fJ hb;simp only[go_sem];refine aV [] (k:=1000) (j:=2000) (tN (l:=l1) (e:=e) (by omega) m hm) ?_;simp only[go_sem];exact da [] _ [(1000,wo 2000 true (wB (e==0) l1 (ay m)) e),(2000,wa (wB (e==0) l1 (ay m)))] ⟨rfl,rfl⟩
  .obtain⟨⟨rfl,rfl,rfl⟩,hlb,hty,ha,hb,rfl⟩:=hp;have hps:=vw (l:=l1) (e:=e) (by omega) [a0,b0] (by simp only[xA,List.all_nil,ha,hb,Bool.and_self]) (by simp) (λ_=>by simp;omega);have hEn:eN [a0,b0]=ay a0.toNat++ay b0.toNat:=by simp[eN]
   rw[hEn]at hps;simp only[go_sem];refine ee [81] (k:=1000) (j:=2000) (hps) (by decide) (by decide) (by decide) (by decide) (by first|rfl|simp[go_sem,ab]) (by simp[go_sem]) ?_ (by rfl) (by rfl) ?_
   .simp only[go_sem];try simp[go_sem,dm]
   simp only[go_sem];exact da [] _ [(1000,wo 2000 true (wB (e==0) l1 (ay a0.toNat++ay b0.toNat)) e),(2000,wa (wB (e==0) l1 (ay a0.toNat++ay b0.toNat)))] ⟨rfl,rfl⟩
  .obtain⟨⟨rfl,rfl,rfl⟩,hlb,hty,ha,hb,rfl⟩:=hp;have hps:=vw (l:=l1) (e:=e) (by omega) [a0,b0] (by simp only[xA,List.all_nil,ha,hb,Bool.and_self]) (by simp) (λ_=>by simp;omega);have hEn:eN [a0,b0]=ay a0.toNat++ay b0.toNat:=by simp[eN]
   rw[hEn]at hps;simp only[go_sem];refine ee [81] (k:=1000) (j:=2000) (hps) (by decide) (by decide) (by decide) (by decide) (by first|rfl|simp[go_sem,ab]) (by simp[go_sem]) ?_ (by rfl) (by rfl) ?_
   .simp only[go_sem];try simp[go_sem,dm]
   simp only[go_sem];exact da [] _ [(1000,wo 2000 true (wB (e==0) l1 (ay a0.toNat++ay b0.toNat)) e),(2000,wa (wB (e==0) l1 (ay a0.toNat++ay b0.toNat)))] ⟨rfl,rfl⟩
  .obtain⟨⟨rfl,rfl,rfl⟩,hlb,hty,ha,rfl,rfl⟩:=hp;obtain⟨m,rfl,hm⟩:=fJ ha;simp only[go_sem];refine aV [] (k:=1000) (j:=2000) (tN (l:=l1) (e:=e) (by omega) m hm) ?_;simp only[go_sem];exact da [] _ [(1000,wo 2000 true (wB (e==0) l1 (ay m)) e),(2000,wa (wB (e==0) l1 (ay m)))] ⟨rfl,rfl⟩
  .obtain⟨⟨rfl,rfl,rfl⟩,hlb,hty,ha1,ha2,hb,hn2⟩:=hp;obtain⟨m3,rfl⟩:=Fw hn;have w3:IntKind.i64.wrap (m3:Int)=(m3:Int):=wi (by omega) (by omega);by_cases h0:b0=0
   .subst h0;obtain⟨m,rfl⟩:=Fw ha1;have b1:=kY (ok:=e==0) (l:=l1) (x:=ay m);have c1:=bA (n:=m) (by omega);simp only[go_sem];refine aV [] (k:=1000) (j:=2000) (tN (e:=e) (l:=l1) (by omega) m (by omega)) ?_;simp only[go_sem,w3];refine aV [] (k:=1000) (j:=2000) (tN (l:=wB (e==0) l1 (ay m)) (e:=e) (by omega) m3 (by omega)) ?_;simp only[go_sem,Bp];exact da [] _ [(1000,wo 2000 true (wB (e==0) l1 (ay m++ay m3)) e),(2000,wa (wB (e==0) l1 (ay m++ay m3)))] ⟨rfl,rfl⟩
   .have hE:nV 17 ⟨op,a0,b0,m3,0,0,0,ty,lb⟩=ay (a0+64).toNat++ay b0.toNat++ay m3:=by
     simp only[nV,Int.reduceEq,false_or,or_false,or_true,true_or,or_self,br,cD,h0,mz]
    have w1:IntKind.i64.wrap (a0+64)=a0+64:=wi (by omega) (by omega);have h64:ik (a0+64)=true:=by simp only[ik,cE,eQ];omega
    have hps:=vw (l:=l1) (e:=e) (by omega) [a0+64,b0] (by simp only[xA,List.all_nil,hb,h64,Bool.and_self]) (by simp) (λ_=>by simp;omega);have hEn:eN [a0+64,b0]=ay (a0+64).toNat++ay b0.toNat:=by simp[eN]
    have hb':b0>=0/\b0<4294967296:=by simpa only[ik,cE,eQ]using hb
    have b1:=kY (ok:=e==0) (l:=l1) (x:=ay (a0+64).toNat++ay b0.toNat);have c1:=bA (n:=(a0+64).toNat) (by omega);have c2:=bA (n:=b0.toNat) (by omega);rw[aJ]at b1;rw[hEn]at hps;rw[hE];simp only[go_sem,aw h0,w1];refine ee [108] (k:=1000) (j:=2000) (hps) (by decide) (by decide) (by decide) (by decide) (by first|rfl|simp[go_sem,ab]) (by simp[go_sem]) ?_ (by rfl) (by rfl) ?_
    .simp only[go_sem];try simp[go_sem,dm]
    simp only[go_sem,w3];refine aV [] (k:=1000) (j:=2000) (tN (l:=wB (e==0) l1 (ay (a0+64).toNat++ay b0.toNat)) (e:=e) (by omega) m3 (by omega)) ?_;simp only[go_sem,Bp];exact da [] _ [(1000,wo 2000 true (wB (e==0) l1 (ay (a0+64).toNat++ay b0.toNat++ay m3)) e),(2000,wa (wB (e==0) l1 (ay (a0+64).toNat++ay b0.toNat++ay m3)))] ⟨rfl,rfl⟩
  .obtain⟨⟨rfl,rfl,rfl⟩,hlb,hty,rfl,rfl,hn2⟩:=hp;simp only[go_sem];refine aV [] (k:=1000) (j:=2000) (ade true l1 e (by omega) n) ?_;simp only[go_sem,bW,wS];exact da [] _ [(1000,wo 2000 true (wB (e==0) l1 (ej (I5 n))) e),(2000,wa (wB (e==0) l1 (ej (I5 n))))] ⟨rfl,rfl⟩
  .obtain⟨⟨rfl,rfl,rfl⟩,hlb,hty,rfl,rfl⟩:=hp;simp only[go_sem];refine aV [] (k:=1000) (j:=2000) (adg true l1 e (by omega) n) ?_;simp only[go_sem,bW,wS];exact da [] _ [(1000,wo 2000 true (wB (e==0) l1 (ej (IntKind.i64.wrap n))) e),(2000,wa (wB (e==0) l1 (ej (IntKind.i64.wrap n))))] ⟨rfl,rfl⟩
  .obtain⟨⟨rfl,rfl,rfl⟩,hlb,hty,ha,rfl,rfl⟩:=hp;have hv:yF a0=true:=by rcases ha with rfl|rfl<;>rfl
   simp only[go_sem];refine aV [] (k:=1000) (j:=2000) (zB (l:=l1) (e:=e) (by omega) a0 hv) ?_;simp only[go_sem];exact da [] _ [(1000,wo 2000 true (wB (e==0) l1 ([(vo a0).1])) e),(2000,wa (wB (e==0) l1 ([(vo a0).1])))] ⟨rfl,rfl⟩
end
section
attribute[local go_sem] ro wo wa wx rx cL dm aS
def DX(op:Int):ac pg As [.int .i64 op] (.bool (decide (op>=64512))):=by
 refine aD qM ?_;simp only[go_sem,qM];exact ax
def P3{l:List UInt8}(hl:l.length<45000000000)(n:Nat)(hn:n<4294967296):ac pg dj [wx l 0,.int .i64 (n:Int)] (wx (l++ay n) 0):=Yl (l:=l) (e:=0) hl n hn
section
variable{l:List UInt8}(hl:l.length<2000000000)
include hl
theorem agc(y:UInt8):ac pg m5 [wx l 0,.int .u8 y.toNat] (wx (l++[y]) 0):=DO (l:=l) (e:=0) (hl:=by omega) y
def Mj(n:Nat)(hn:n<4294967296):ac pg dj [wx l 0,.int .i64 (n:Int)] (wx (l++ay n) 0):=Yl (l:=l) (e:=0) (by omega) n hn
theorem gz(n:Int)(hn:ik n=true):ac pg dj [wx l 0,.int .i64 n] (wx (l++ay n.toNat) 0):=by
 obtain⟨k,rfl,hk⟩:=fJ hn;exact Mj hl k hk
theorem DV(x:bj)(h:x.lb.all ik=true)(ha:ik x.a=true)(hb:x.lb.length<4294967296):ac pg vf [wx l 0,di x] (wx (l++(ay x.lb.length++eN x.lb++ay x.a.toNat)) 0):=by
 refine aD jT ?_;have c1:=bA (n:=x.lb.length) (by omega);have c2:=uS h;simp only[go_sem,jT];refine aa (Mj hl x.lb.length (by omega)) ?_;refine an (λi:Nat=>⟨[(5,.int .i64 i),(4,.mp 4 2 0 0),(3,.mp 3 9 0 0),(2,.mp 2 2 0 0)],[(2,⟨81,2,[[.sl 1 ((l++ay x.lb.length++eN (x.lb.take i)).map dY),.int .i64 0]],true⟩),(3,⟨58,9,[aS x],true⟩),(4,⟨81,2,[[.nl,.int .i64 0]],true⟩)]⟩) (λi=>i<=x.lb.length) (λi=>x.lb.length-i) 0 (cQ _) (Wk.of ?_ ?_) ?_
 .simp only[go_sem];try simp
 .simp only[go_sem,mA,eN,List.flatMap_nil,gh];try simp[go_sem]
 intro i hi;have ht:=xn h i;have hlen:(l++ay x.lb.length++eN (x.lb.take i)).length<40000000000:=by simp only[aJ];omega
 by_cases h1:(i:Int)<(x.lb.length:Int)
 .have hi':i<x.lb.length:=by omega
  have hs:=FR hi';have e8:=wi (n:=(i:Int)+1) (by omega) (by omega);have cc:=P3 (l:=l++ay x.lb.length++eN (x.lb.take i)) (by omega);have hat:=Lr h hi';obtain⟨m,hm1,hm2⟩:=fJ hat;rw[hm1,mz]at hs;simp only[go_sem,aL h1,hm1];refine⟨by omega,h1,?_⟩;refine aa (cc m hm2) ?_;have hw:l++ay x.lb.length++eN (x.lb.take i)++ay m=l++ay x.lb.length++eN (x.lb.take (i+1)):=by
   rw[hs];simp only[eU]
  rw[hw];refine aE (i+1) (show i+1<=x.lb.length by omega) (show x.lb.length-(i+1)<x.lb.length-i by omega) (Wk.of ?_ ?_)
  .simp only[go_sem,e8];try simp
  .simp only[go_sem];try simp[go_sem]
 .obtain rfl:i=x.lb.length:=by omega
  rw[eV]at hlen;have cc:=P3 (l:=l++ay x.lb.length++eN x.lb) (by omega);obtain⟨m,hm1,hm2⟩:=fJ ha;rw[eV,hm1,mz];simp only[go_sem,aM h1,hm1];refine aj (cc m hm2) ?_;have hw:l++ay x.lb.length++eN x.lb++ay m=l++(ay x.lb.length++eN x.lb++ay m):=by
   simp only[eU]
  simp only[go_sem,hw];exact az
theorem zr(x:bj)(h:x.lb.all ik=true)(ha:ik x.a=true)(hb:4294967296<=x.lb.length)(hb2:x.lb.length<=9223372036854775807):ac pg vf [wx l 0,di x] (wx l 1):=by
 refine aD jT ?_;have c0:=N_ l 0 (by omega) (x.lb.length:Int);rw[show wU ((0:Int)==0) l 0 (x.lb.length:Int)=(l,1)by unfold wU;simp;omega]at c0;simp only[go_sem,jT];refine aa (c0) ?_;refine an (λi:Nat=>⟨[(5,.int .i64 i),(4,.mp 4 2 0 0),(3,.mp 3 9 0 0),(2,.mp 2 2 0 0)],[(2,⟨81,2,[[.sl 1 (l.map dY),.int .i64 1]],true⟩),(3,⟨58,9,[aS x],true⟩),(4,⟨81,2,[[.nl,.int .i64 0]],true⟩)]⟩) (λi=>i<=x.lb.length) (λi=>x.lb.length-i) 0 (cQ _) (Wk.of ?_ ?_) ?_
 .simp only[go_sem];try simp
 .simp only[go_sem];try simp[go_sem]
 intro i hi;by_cases h1:(i:Int)<(x.lb.length:Int)
 .have hi':i<x.lb.length:=by omega
  have e8:=wi (n:=(i:Int)+1) (by omega) (by omega);obtain⟨m,hm1,hm2⟩:=fJ (Lr h hi');have cc:ac pg dj [wx l 1,.int .i64 (m:Int)] (wx l 1):=Yl (l:=l) (e:=1) (by omega) m hm2;simp only[go_sem,aL h1,hm1];refine⟨by omega,h1,?_⟩;refine aa (cc) ?_;refine aE (i+1) (show i+1<=x.lb.length by omega) (show x.lb.length-(i+1)<x.lb.length-i by omega) (Wk.of ?_ ?_)
  .simp only[go_sem,e8];try simp
  .simp only[go_sem];try simp[go_sem]
 .obtain⟨m,hm1,hm2⟩:=fJ ha;have cc:ac pg dj [wx l 1,.int .i64 (m:Int)] (wx l 1):=Yl (l:=l) (e:=1) (by omega) m hm2;simp only[go_sem,aM h1,hm1];refine aa (cc) ?_;exact az
theorem DT(x:bj)(h1:0<=x.a)(h2:x.a<=63)(hb:ik x.b=true)(h3:0<=x.n)(h4:x.n<4294967296):ac pg Dv [wx l 0,di x] (wx (l++((if x.b=0 then ay x.a.toNat else ay (x.a+64).toNat++ay x.b.toNat)++ay x.n.toNat)) 0):=by
 refine aD oR ?_;obtain⟨m3,e3⟩:=Fw h3;obtain⟨m1,e1⟩:=Fw h1;have w3:IntKind.i64.wrap (m3:Int)=(m3:Int):=wi (by omega) (by omega);rw[e3,mz];by_cases h0:x.b=0
 .rw[aF h0,e1,mz];have c1:=bA (n:=m1) (by omega);simp only[go_sem,oR,e1,e3,h0];refine aj (Mj hl m1 (by omega)) ?_;simp only[go_sem,w3];refine aj (P3 (l:=l++ay m1) (by simp only[aJ];omega) m3 (by omega)) ?_;simp only[go_sem,eU];exact az
 .rw[au h0];obtain⟨m2,e2,hm2⟩:=fJ hb;have w1:IntKind.i64.wrap (x.a+64)=((m1+64:Nat):Int):=by rw[wi (by omega) (by omega)];omega
  have e4:(x.a+64).toNat=m1+64:=by omega
  have c1:=bA (n:=m1+64) (by omega);have c2:=bA (n:=m2) (by omega);rw[e2,e4,mz];have q0:=aw h0;rw[e2]at q0;simp only[go_sem,oR,e2,e3,q0,w1];refine aN (Mj hl (m1+64) (by omega)) (by simp[go_sem]) rfl ?_;simp only[go_sem];refine aj (P3 (l:=l++ay (m1+64)) (by simp only[aJ];omega) m2 hm2) ?_;simp only[go_sem,w3];refine aj (P3 (l:=l++ay (m1+64)++ay m2) (by simp only[aJ];omega) m3 (by omega)) ?_;simp only[go_sem,eU];exact az
end
end
section
variable{l:List UInt8}{e:Int}(hl:l.length<1000000000)
include hl
attribute[local go_sem] ro wo wa wx rx cL dm aS
theorem agt(x:bj)(hn:0<=x.n)(hlb:x.lb.length<=9223372036854775807):ac pg A_ [wx l e,di x] (wx (py x l e).1 (py x l e).2):=by
 refine aD lP ?_;by_cases he:e=0;rotate_left
 .have r:py x l e=(l,e):=by
   unfold py;rw[aw he,au he,au he]
   repeat' split
   all_goals rfl
  rw[r];simp only[go_sem,lP,bv he];exact az
 subst he;have a1:=KE x (qu x.op) (lm _) rfl (by omega);replace a1:ac pg dq [di x] (.bool (PL x)):=a1;simp only[cL]at a1;cases hp:PL x
 .rw[hp]at a1;rw[N7 hp];simp only[go_sem,lP];refine aa (a1) ?_;refine aa (vh l 0 10) ?_;exact az
 rw[hp]at a1;have hk:=Ud hp;have hol:=CE x.op hk;have hc:=ZV x.op;have hi:=lm x.op;have hko:=vP hk;have hQ:(¬(qu x.op=3/\4294967296<=x.lb.length)/\py x l 0=(wB ((0:Int)==0) (wB ((0:Int)==0) l (kO x.op)) (nV (qu x.op) x),0))\/((qu x.op=3/\4294967296<=x.lb.length)/\py x l 0=(wB ((0:Int)==0) l (kO x.op),1)):=by
  by_cases hs:qu x.op=3/\4294967296<=x.lb.length
  .exact .inr ⟨hs,Kx hp hs⟩
  .exact .inl ⟨hs,N8 hp hs⟩
 generalize hq:py x l 0=q at*;clear hq;obtain⟨op,a0,b0,n,k,v,z,ty,lb⟩:=x;simp only at a1 hn hlb hk hol hc hi hko hQ;unfold PL Mm KJ at hp;simp only[hk,bW]at hp;have hO:(op>=64512/\∃m:Nat,m<256/\IntKind.i64.wrap (op-64512)=(m:Int)/\wB ((0:Int)==0) l (kO op)=l++[252]++ay m)\/(¬op>=64512/\∃y:UInt8,IntKind.u8.wrap op=(y.toNat:Int)/\wB ((0:Int)==0) l (kO op)=l++[y]):=by
  rcases hko with h|h
  .refine .inr ⟨by omega,UInt8.ofNat op.toNat,?_,?_⟩
   .rw[ofNat_toNat (by omega),vy];omega
   .unfold kO;rw[au (by omega)];rfl
  .refine .inl ⟨by omega,(op-64512).toNat,by omega,?_,?_⟩
   .rw[wi (by omega) (by omega)];omega
   .unfold kO;rw[aF (by omega),eU];rfl
 have hl1:=kY (ok:=(0:Int)==0) (l:=l) (x:=kO op);replace hl1:(wB ((0:Int)==0) l (kO op)).length<1100000000:=by omega
 generalize qu op=i at*;clear hko hk hol;generalize wB ((0:Int)==0) l (kO op)=l1 at*;have hz:∀y:List UInt8,wB ((0:Int)==0) l1 y=l1++y:=λ_=>rfl;simp only[hz]at hQ;rcases hO with⟨ho,m,hm,hw,rfl⟩|⟨ho,y,hw,rfl⟩
 .simp only[go_sem,lP];refine aa (a1) ?_;refine aj (DX op) ?_;simp only[go_sem,aL ho,hw];refine aN (agc (l:=l) (by omega) 252) (by simp[go_sem,wx]) rfl ?_;simp only[go_sem,hw];refine aa (Mj (l:=l++[252]) (by simp only[aJ,jI];omega) m (by omega)) ?_;refine aj (hc) ?_;clear hw a1 hc hz;generalize l++[252]++ay m=l1 at*;rcases(show i=0\/i=1\/i=2\/i=3\/i=4\/i=5\/i=6\/i=7\/i=8\/i=9\/i=10\/i=11\/i=12\/i=13\/i=14\/i=15\/i=16\/i=17\/i=18\/i=19\/i=20 by omega)with rfl|rfl|rfl|rfl|rfl|rfl|rfl|rfl|rfl|rfl|rfl|rfl|rfl|rfl|rfl|rfl|rfl|rfl|rfl|rfl|rfl
  all_goals
   simp only[Int.reduceEq,Int.reduceBEq,false_or,or_false,or_true,true_or,or_self,br,cD,iT,kA,bW,cE,beq_iff_eq,sz,decide_eq_false_iff_not,eQ,pz]at hp
  .obtain rfl:q=_:=by
    rcases hQ with⟨_,h⟩|⟨⟨h,_⟩,_⟩
    .exact h
    .exact absurd h (by decide)
   clear hQ;rw[show l1++nV 0 ⟨op,a0,b0,n,k,v,z,ty,lb⟩=l1 from gh _];simp only[go_sem];exact ax
  .obtain rfl:q=_:=by
    rcases hQ with⟨_,h⟩|⟨⟨h,_⟩,_⟩
    .exact h
    .exact absurd h (by decide)
   clear hQ;obtain⟨hlb,hty,rfl,rfl,rfl,hb⟩:=hp;have cc:ac pg kV [wx l1 0,.agg [.int .i64 k,.int .i64 v,.int .i64 z]] (wx (l1++CD k v z) 0):=DY (l:=l1) (e:=0) (by omega) k v z hb;simp only[go_sem];refine aa (cc) ?_;exact ax
  .obtain rfl:q=_:=by
    rcases hQ with⟨_,h⟩|⟨⟨h,_⟩,_⟩
    .exact h
    .exact absurd h (by decide)
   clear hQ;obtain⟨⟨rfl,rfl,rfl⟩,hlb,hty,ha,rfl,rfl⟩:=hp;simp only[go_sem];refine aa (gz (l:=l1) (by omega) a0 ha) ?_;exact ax
  .obtain⟨⟨rfl,rfl,rfl⟩,hty,ha,rfl,rfl,hal⟩:=hp;rcases hQ with⟨hs,rfl⟩|⟨⟨_,hs⟩,rfl⟩
   .have cc:=DV (l:=l1) (by omega) ⟨op,a0,0,0,0,0,0,ty,lb⟩ hal ha (Nat.lt_of_not_le λh=>hs ⟨rfl,h⟩);simp only[cL]at cc;simp only[go_sem];refine aa (cc) ?_;exact ax
   .have cc:=zr (l:=l1) (by omega) ⟨op,a0,0,0,0,0,0,ty,lb⟩ hal ha hs hlb;simp only[cL]at cc;simp only[go_sem];refine aa (cc) ?_;exact ax
  .obtain rfl:q=_:=by
    rcases hQ with⟨_,h⟩|⟨⟨h,_⟩,_⟩
    .exact h
    .exact absurd h (by decide)
   clear hQ;obtain⟨⟨rfl,rfl,rfl⟩,hlb,hty,ha,rfl,rfl⟩:=hp;simp only[go_sem];refine aa (gz (l:=l1) (by omega) a0 ha) ?_;exact ax
  .obtain rfl:q=_:=by
    rcases hQ with⟨_,h⟩|⟨⟨h,_⟩,_⟩
    .exact h
    .exact absurd h (by decide)
   clear hQ;obtain⟨⟨rfl,rfl,rfl⟩,hlb,hty,ha,hb,rfl⟩:=hp;have hE:∀i,i=5\/i=10\/i=11\/i=14\/i=15->l1++nV i ⟨op,a0,b0,0,0,0,0,ty,lb⟩=l1++ay a0.toNat++ay b0.toNat:=λi hi=>by
    rw[eU];rcases hi with rfl|rfl|rfl|rfl|rfl<;>rfl
   have c1:=bA (n:=a0.toNat) (by simp only[ik,cE,eQ]at ha;omega);rw[hE _ (by decide)];simp only[go_sem];refine aN (gz (l:=l1) (by omega) a0 ha) (by simp[go_sem,wx]) rfl ?_;simp only[go_sem];refine aa (gz (l:=l1++ay a0.toNat) (by simp only[aJ];omega) b0 hb) ?_;exact ax
  .obtain rfl:q=_:=by
    rcases hQ with⟨_,h⟩|⟨⟨h,_⟩,_⟩
    .exact h
    .exact absurd h (by decide)
   clear hQ;obtain⟨⟨rfl,rfl,rfl⟩,hlb,rfl,rfl,rfl,hlen,hv⟩:=hp;have c1:=bA (n:=1) (by omega);have cc:ac pg ft [wx (l1++ay 1) 0,.int .i64 (ah ty 0)] (wx (l1++ay 1++[(vo (ah ty 0)).1]) 0):=rD (l:=l1++ay 1) (e:=0) (by simp only[aJ];omega) (ah ty 0) hv;rw[show l1++nV 6 ⟨op,0,0,0,0,0,0,ty,lb⟩=l1++ay 1++[(vo (ah ty 0)).1] from(eU ..).symm];simp only[go_sem];refine aN (Mj (l:=l1) (by omega) 1 (by omega)) (by simp[go_sem,wx]) rfl ?_;simp only[go_sem];refine⟨by decide,by omega,?_⟩;refine aa (cc) ?_;exact ax
  .obtain rfl:q=_:=by
    rcases hQ with⟨_,h⟩|⟨⟨h,_⟩,_⟩
    .exact h
    .exact absurd h (by decide)
   clear hQ;obtain⟨⟨rfl,rfl,rfl⟩,hlb,hty,ha,rfl,rfl⟩:=hp;simp only[go_sem];refine aa (gz (l:=l1) (by omega) a0 ha) ?_;exact ax
  .obtain rfl:q=_:=by
    rcases hQ with⟨_,h⟩|⟨⟨h,_⟩,_⟩
    .exact h
    .exact absurd h (by decide)
   clear hQ;obtain⟨⟨rfl,rfl,rfl⟩,hlb,hty,ha,rfl,rfl⟩:=hp;simp only[go_sem];refine aa (gz (l:=l1) (by omega) a0 ha) ?_;exact ax
  .obtain rfl:q=_:=by
    rcases hQ with⟨_,h⟩|⟨⟨h,_⟩,_⟩
    .exact h
    .exact absurd h (by decide)
   clear hQ;obtain⟨⟨rfl,rfl,rfl⟩,hlb,hty,ha,rfl,rfl⟩:=hp;simp only[go_sem];refine aa (gz (l:=l1) (by omega) a0 ha) ?_;exact ax
  .obtain rfl:q=_:=by
    rcases hQ with⟨_,h⟩|⟨⟨h,_⟩,_⟩
    .exact h
    .exact absurd h (by decide)
   clear hQ;obtain⟨⟨rfl,rfl,rfl⟩,hlb,hty,ha,hb,rfl⟩:=hp;have hE:∀i,i=5\/i=10\/i=11\/i=14\/i=15->l1++nV i ⟨op,a0,b0,0,0,0,0,ty,lb⟩=l1++ay a0.toNat++ay b0.toNat:=λi hi=>by
    rw[eU];rcases hi with rfl|rfl|rfl|rfl|rfl<;>rfl
   have c1:=bA (n:=a0.toNat) (by simp only[ik,cE,eQ]at ha;omega);rw[hE _ (by decide)];simp only[go_sem];refine aN (gz (l:=l1) (by omega) a0 ha) (by simp[go_sem,wx]) rfl ?_;simp only[go_sem];refine aa (gz (l:=l1++ay a0.toNat) (by simp only[aJ];omega) b0 hb) ?_;exact ax
  .obtain rfl:q=_:=by
    rcases hQ with⟨_,h⟩|⟨⟨h,_⟩,_⟩
    .exact h
    .exact absurd h (by decide)
   clear hQ;obtain⟨⟨rfl,rfl,rfl⟩,hlb,hty,ha,hb,rfl⟩:=hp;have hE:∀i,i=5\/i=10\/i=11\/i=14\/i=15->l1++nV i ⟨op,a0,b0,0,0,0,0,ty,lb⟩=l1++ay a0.toNat++ay b0.toNat:=λi hi=>by
    rw[eU];rcases hi with rfl|rfl|rfl|rfl|rfl<;>rfl
   have c1:=bA (n:=a0.toNat) (by simp only[ik,cE,eQ]at ha;omega);rw[hE _ (by decide)];simp only[go_sem];refine aN (gz (l:=l1) (by omega) a0 ha) (by simp[go_sem,wx]) rfl ?_;simp only[go_sem];refine aa (gz (l:=l1++ay a0.toNat) (by simp only[aJ];omega) b0 hb) ?_;exact ax
  .obtain rfl:q=_:=by
    rcases hQ with⟨_,h⟩|⟨⟨h,_⟩,_⟩
    .exact h
    .exact absurd h (by decide)
   clear hQ;obtain⟨⟨rfl,rfl,rfl⟩,hlb,hty,ha,rfl,rfl⟩:=hp;simp only[go_sem];refine aa (gz (l:=l1) (by omega) a0 ha) ?_;exact ax
  .obtain rfl:q=_:=by
    rcases hQ with⟨_,h⟩|⟨⟨h,_⟩,_⟩
    .exact h
    .exact absurd h (by decide)
   clear hQ;obtain⟨⟨rfl,rfl,rfl⟩,hlb,hty,rfl,hb,rfl⟩:=hp;simp only[go_sem];refine aa (gz (l:=l1) (by omega) b0 hb) ?_;exact ax
  .obtain rfl:q=_:=by
    rcases hQ with⟨_,h⟩|⟨⟨h,_⟩,_⟩
    .exact h
    .exact absurd h (by decide)
   clear hQ;obtain⟨⟨rfl,rfl,rfl⟩,hlb,hty,ha,hb,rfl⟩:=hp;have hE:∀i,i=5\/i=10\/i=11\/i=14\/i=15->l1++nV i ⟨op,a0,b0,0,0,0,0,ty,lb⟩=l1++ay a0.toNat++ay b0.toNat:=λi hi=>by
    rw[eU];rcases hi with rfl|rfl|rfl|rfl|rfl<;>rfl
   have c1:=bA (n:=a0.toNat) (by simp only[ik,cE,eQ]at ha;omega);rw[hE _ (by decide)];simp only[go_sem];refine aN (gz (l:=l1) (by omega) a0 ha) (by simp[go_sem,wx]) rfl ?_;simp only[go_sem];refine aa (gz (l:=l1++ay a0.toNat) (by simp only[aJ];omega) b0 hb) ?_;exact ax
  .obtain rfl:q=_:=by
    rcases hQ with⟨_,h⟩|⟨⟨h,_⟩,_⟩
    .exact h
    .exact absurd h (by decide)
   clear hQ;obtain⟨⟨rfl,rfl,rfl⟩,hlb,hty,ha,hb,rfl⟩:=hp;have hE:∀i,i=5\/i=10\/i=11\/i=14\/i=15->l1++nV i ⟨op,a0,b0,0,0,0,0,ty,lb⟩=l1++ay a0.toNat++ay b0.toNat:=λi hi=>by
    rw[eU];rcases hi with rfl|rfl|rfl|rfl|rfl<;>rfl
   have c1:=bA (n:=a0.toNat) (by simp only[ik,cE,eQ]at ha;omega);rw[hE _ (by decide)];simp only[go_sem];refine aN (gz (l:=l1) (by omega) a0 ha) (by simp[go_sem,wx]) rfl ?_;simp only[go_sem];refine aa (gz (l:=l1++ay a0.toNat) (by simp only[aJ];omega) b0 hb) ?_;exact ax
  .obtain rfl:q=_:=by
    rcases hQ with⟨_,h⟩|⟨⟨h,_⟩,_⟩
    .exact h
    .exact absurd h (by decide)
   clear hQ;obtain⟨⟨rfl,rfl,rfl⟩,hlb,hty,ha,rfl,rfl⟩:=hp;simp only[go_sem];refine aa (gz (l:=l1) (by omega) a0 ha) ?_;exact ax
  .obtain rfl:q=_:=by
    rcases hQ with⟨_,h⟩|⟨⟨h,_⟩,_⟩
    .exact h
    .exact absurd h (by decide)
   clear hQ;obtain⟨⟨rfl,rfl,rfl⟩,hlb,hty,ha1,ha2,hb,hn2⟩:=hp;have cc:=DT (l:=l1) (by omega) ⟨op,a0,b0,n,0,0,0,ty,lb⟩ ha1 ha2 hb hn hn2;simp only[cL]at cc;simp only[go_sem];refine aa (cc) ?_;exact ax
  .obtain rfl:q=_:=by
    rcases hQ with⟨_,h⟩|⟨⟨h,_⟩,_⟩
    .exact h
    .exact absurd h (by decide)
   clear hQ;obtain⟨⟨rfl,rfl,rfl⟩,hlb,hty,rfl,rfl,hn2⟩:=hp;have cc:ac pg o_ [wx l1 0,.int .u64 n] (wx (l1++ej (I5 n)) 0):=ZQ l1 0 (by omega) n;simp only[go_sem];refine aa (cc) ?_;exact ax
  .obtain rfl:q=_:=by
    rcases hQ with⟨_,h⟩|⟨⟨h,_⟩,_⟩
    .exact h
    .exact absurd h (by decide)
   clear hQ;obtain⟨⟨rfl,rfl,rfl⟩,hlb,hty,rfl,rfl⟩:=hp;have cc:ac pg pc [wx l1 0,.int .u64 n] (wx (l1++ej (IntKind.i64.wrap n)) 0):=ZR l1 0 (by omega) n;simp only[go_sem];refine aa (cc) ?_;exact ax
  .obtain rfl:q=_:=by
    rcases hQ with⟨_,h⟩|⟨⟨h,_⟩,_⟩
    .exact h
    .exact absurd h (by decide)
   clear hQ;obtain⟨⟨rfl,rfl,rfl⟩,hlb,hty,ha,rfl,rfl⟩:=hp;have hv:yF a0=true:=by rcases ha with rfl|rfl<;>rfl
   have cc:ac pg ft [wx l1 0,.int .i64 a0] (wx (l1++[(vo a0).1]) 0):=rD (l:=l1) (e:=0) (by omega) a0 hv;simp only[go_sem];refine aa (cc) ?_;exact ax
 .simp only[go_sem,lP];refine aa (a1) ?_;refine aj (DX op) ?_;simp only[go_sem,aM ho,hw];refine aa (agc (l:=l) (by omega) y) ?_;refine aj (hc) ?_;clear hw a1 hc hz;generalize l++[y]=l1 at*;rcases(show i=0\/i=1\/i=2\/i=3\/i=4\/i=5\/i=6\/i=7\/i=8\/i=9\/i=10\/i=11\/i=12\/i=13\/i=14\/i=15\/i=16\/i=17\/i=18\/i=19\/i=20 by omega)with rfl|rfl|rfl|rfl|rfl|rfl|rfl|rfl|rfl|rfl|rfl|rfl|rfl|rfl|rfl|rfl|rfl|rfl|rfl|rfl|rfl
  all_goals
   simp only[Int.reduceEq,Int.reduceBEq,false_or,or_false,or_true,true_or,or_self,br,cD,iT,kA,bW,cE,beq_iff_eq,sz,decide_eq_false_iff_not,eQ,pz]at hp
  .obtain rfl:q=_:=by
    rcases hQ with⟨_,h⟩|⟨⟨h,_⟩,_⟩
    .exact h
    .exact absurd h (by decide)
   clear hQ;rw[show l1++nV 0 ⟨op,a0,b0,n,k,v,z,ty,lb⟩=l1 from gh _];simp only[go_sem];exact ax
  .obtain rfl:q=_:=by
    rcases hQ with⟨_,h⟩|⟨⟨h,_⟩,_⟩
    .exact h
    .exact absurd h (by decide)
   clear hQ;obtain⟨hlb,hty,rfl,rfl,rfl,hb⟩:=hp;have cc:ac pg kV [wx l1 0,.agg [.int .i64 k,.int .i64 v,.int .i64 z]] (wx (l1++CD k v z) 0):=DY (l:=l1) (e:=0) (by omega) k v z hb;simp only[go_sem];refine aa (cc) ?_;exact ax
  .obtain rfl:q=_:=by
    rcases hQ with⟨_,h⟩|⟨⟨h,_⟩,_⟩
    .exact h
    .exact absurd h (by decide)
   clear hQ;obtain⟨⟨rfl,rfl,rfl⟩,hlb,hty,ha,rfl,rfl⟩:=hp;simp only[go_sem];refine aa (gz (l:=l1) (by omega) a0 ha) ?_;exact ax
  .obtain⟨⟨rfl,rfl,rfl⟩,hty,ha,rfl,rfl,hal⟩:=hp;rcases hQ with⟨hs,rfl⟩|⟨⟨_,hs⟩,rfl⟩
   .have cc:=DV (l:=l1) (by omega) ⟨op,a0,0,0,0,0,0,ty,lb⟩ hal ha (Nat.lt_of_not_le λh=>hs ⟨rfl,h⟩);simp only[cL]at cc;simp only[go_sem];refine aa (cc) ?_;exact ax
   .have cc:=zr (l:=l1) (by omega) ⟨op,a0,0,0,0,0,0,ty,lb⟩ hal ha hs hlb;simp only[cL]at cc;simp only[go_sem];refine aa (cc) ?_;exact ax
  .obtain rfl:q=_:=by
    rcases hQ with⟨_,h⟩|⟨⟨h,_⟩,_⟩
    .exact h
    .exact absurd h (by decide)
   clear hQ;obtain⟨⟨rfl,rfl,rfl⟩,hlb,hty,ha,rfl,rfl⟩:=hp;simp only[go_sem];refine aa (gz (l:=l1) (by omega) a0 ha) ?_;exact ax
  .obtain rfl:q=_:=by
    rcases hQ with⟨_,h⟩|⟨⟨h,_⟩,_⟩
    .exact h
    .exact absurd h (by decide)
   clear hQ;obtain⟨⟨rfl,rfl,rfl⟩,hlb,hty,ha,hb,rfl⟩:=hp;have hE:∀i,i=5\/i=10\/i=11\/i=14\/i=15->l1++nV i ⟨op,a0,b0,0,0,0,0,ty,lb⟩=l1++ay a0.toNat++ay b0.toNat:=λi hi=>by
    rw[eU];rcases hi with rfl|rfl|rfl|rfl|rfl<;>rfl
   have c1:=bA (n:=a0.toNat) (by simp only[ik,cE,eQ]at ha;omega);rw[hE _ (by decide)];simp only[go_sem];refine aN (gz (l:=l1) (by omega) a0 ha) (by simp[go_sem,wx]) rfl ?_;simp only[go_sem];refine aa (gz (l:=l1++ay a0.toNat) (by simp only[aJ];omega) b0 hb) ?_;exact ax
  .obtain rfl:q=_:=by
    rcases hQ with⟨_,h⟩|⟨⟨h,_⟩,_⟩
    .exact h
    .exact absurd h (by decide)
   clear hQ;obtain⟨⟨rfl,rfl,rfl⟩,hlb,rfl,rfl,rfl,hlen,hv⟩:=hp;have c1:=bA (n:=1) (by omega);have cc:ac pg ft [wx (l1++ay 1) 0,.int .i64 (ah ty 0)] (wx (l1++ay 1++[(vo (ah ty 0)).1]) 0):=rD (l:=l1++ay 1) (e:=0) (by simp only[aJ];omega) (ah ty 0) hv;rw[show l1++nV 6 ⟨op,0,0,0,0,0,0,ty,lb⟩=l1++ay 1++[(vo (ah ty 0)).1] from(eU ..).symm];simp only[go_sem];refine aN (Mj (l:=l1) (by omega) 1 (by omega)) (by simp[go_sem,wx]) rfl ?_;simp only[go_sem];refine⟨by decide,by omega,?_⟩;refine aa (cc) ?_;exact ax
  .obtain rfl:q=_:=by
    rcases hQ with⟨_,h⟩|⟨⟨h,_⟩,_⟩
    .exact h
    .exact absurd h (by decide)
   clear hQ;obtain⟨⟨rfl,rfl,rfl⟩,hlb,hty,ha,rfl,rfl⟩:=hp;simp only[go_sem];refine aa (gz (l:=l1) (by omega) a0 ha) ?_;exact ax
  .obtain rfl:q=_:=by
    rcases hQ with⟨_,h⟩|⟨⟨h,_⟩,_⟩
    .exact h
    .exact absurd h (by decide)
   clear hQ;obtain⟨⟨rfl,rfl,rfl⟩,hlb,hty,ha,rfl,rfl⟩:=hp;simp only[go_sem];refine aa (gz (l:=l1) (by omega) a0 ha) ?_;exact ax
  .obtain rfl:q=_:=by
    rcases hQ with⟨_,h⟩|⟨⟨h,_⟩,_⟩
    .exact h
    .exact absurd h (by decide)
   clear hQ;obtain⟨⟨rfl,rfl,rfl⟩,hlb,hty,ha,rfl,rfl⟩:=hp;simp only[go_sem];refine aa (gz (l:=l1) (by omega) a0 ha) ?_;exact ax
  .obtain rfl:q=_:=by
    rcases hQ with⟨_,h⟩|⟨⟨h,_⟩,_⟩
    .exact h
    .exact absurd h (by decide)
   clear hQ;obtain⟨⟨rfl,rfl,rfl⟩,hlb,hty,ha,hb,rfl⟩:=hp;have hE:∀i,i=5\/i=10\/i=11\/i=14\/i=15->l1++nV i ⟨op,a0,b0,0,0,0,0,ty,lb⟩=l1++ay a0.toNat++ay b0.toNat:=λi hi=>by
    rw[eU];rcases hi with rfl|rfl|rfl|rfl|rfl<;>rfl
   have c1:=bA (n:=a0.toNat) (by simp only[ik,cE,eQ]at ha;omega);rw[hE _ (by decide)];simp only[go_sem];refine aN (gz (l:=l1) (by omega) a0 ha) (by simp[go_sem,wx]) rfl ?_;simp only[go_sem];refine aa (gz (l:=l1++ay a0.toNat) (by simp only[aJ];omega) b0 hb) ?_;exact ax
  .obtain rfl:q=_:=by
    rcases hQ with⟨_,h⟩|⟨⟨h,_⟩,_⟩
    .exact h
    .exact absurd h (by decide)
   clear hQ;obtain⟨⟨rfl,rfl,rfl⟩,hlb,hty,ha,hb,rfl⟩:=hp;have hE:∀i,i=5\/i=10\/i=11\/i=14\/i=15->l1++nV i ⟨op,a0,b0,0,0,0,0,ty,lb⟩=l1++ay a0.toNat++ay b0.toNat:=λi hi=>by
    rw[eU];rcases hi with rfl|rfl|rfl|rfl|rfl<;>rfl
   have c1:=bA (n:=a0.toNat) (by simp only[ik,cE,eQ]at ha;omega);rw[hE _ (by decide)];simp only[go_sem];refine aN (gz (l:=l1) (by omega) a0 ha) (by simp[go_sem,wx]) rfl ?_;simp only[go_sem];refine aa (gz (l:=l1++ay a0.toNat) (by simp only[aJ];omega) b0 hb) ?_;exact ax
  .obtain rfl:q=_:=by
    rcases hQ with⟨_,h⟩|⟨⟨h,_⟩,_⟩
    .exact h
    .exact absurd h (by decide)
   clear hQ;obtain⟨⟨rfl,rfl,rfl⟩,hlb,hty,ha,rfl,rfl⟩:=hp;simp only[go_sem];refine aa (gz (l:=l1) (by omega) a0 ha) ?_;exact ax
  .obtain rfl:q=_:=by
    rcases hQ with⟨_,h⟩|⟨⟨h,_⟩,_⟩
    .exact h
    .exact absurd h (by decide)
   clear hQ;obtain⟨⟨rfl,rfl,rfl⟩,hlb,hty,rfl,hb,rfl⟩:=hp;simp only[go_sem];refine aa (gz (l:=l1) (by omega) b0 hb) ?_;exact ax
  .obtain rfl:q=_:=by
    rcases hQ with⟨_,h⟩|⟨⟨h,_⟩,_⟩
    .exact h
    .exact absurd h (by decide)
   clear hQ;obtain⟨⟨rfl,rfl,rfl⟩,hlb,hty,ha,hb,rfl⟩:=hp;have hE:∀i,i=5\/i=10\/i=11\/i=14\/i=15->l1++nV i ⟨op,a0,b0,0,0,0,0,ty,lb⟩=l1++ay a0.toNat++ay b0.toNat:=λi hi=>by
    rw[eU];rcases hi with rfl|rfl|rfl|rfl|rfl<;>rfl
   have c1:=bA (n:=a0.toNat) (by simp only[ik,cE,eQ]at ha;omega);rw[hE _ (by decide)];simp only[go_sem];refine aN (gz (l:=l1) (by omega) a0 ha) (by simp[go_sem,wx]) rfl ?_;simp only[go_sem];refine aa (gz (l:=l1++ay a0.toNat) (by simp only[aJ];omega) b0 hb) ?_;exact ax
  .obtain rfl:q=_:=by
    rcases hQ with⟨_,h⟩|⟨⟨h,_⟩,_⟩
    .exact h
    .exact absurd h (by decide)
   clear hQ;obtain⟨⟨rfl,rfl,rfl⟩,hlb,hty,ha,hb,rfl⟩:=hp;have hE:∀i,i=5\/i=10\/i=11\/i=14\/i=15->l1++nV i ⟨op,a0,b0,0,0,0,0,ty,lb⟩=l1++ay a0.toNat++ay b0.toNat:=λi hi=>by
    rw[eU];rcases hi with rfl|rfl|rfl|rfl|rfl<;>rfl
   have c1:=bA (n:=a0.toNat) (by simp only[ik,cE,eQ]at ha;omega);rw[hE _ (by decide)];simp only[go_sem];refine aN (gz (l:=l1) (by omega) a0 ha) (by simp[go_sem,wx]) rfl ?_;simp only[go_sem];refine aa (gz (l:=l1++ay a0.toNat) (by simp only[aJ];omega) b0 hb) ?_;exact ax
  .obtain rfl:q=_:=by
    rcases hQ with⟨_,h⟩|⟨⟨h,_⟩,_⟩
    .exact h
    .exact absurd h (by decide)
   clear hQ;obtain⟨⟨rfl,rfl,rfl⟩,hlb,hty,ha,rfl,rfl⟩:=hp;simp only[go_sem];refine aa (gz (l:=l1) (by omega) a0 ha) ?_;exact ax
  .obtain rfl:q=_:=by
    rcases hQ with⟨_,h⟩|⟨⟨h,_⟩,_⟩
    .exact h
    .exact absurd h (by decide)
   clear hQ;obtain⟨⟨rfl,rfl,rfl⟩,hlb,hty,ha1,ha2,hb,hn2⟩:=hp;have cc:=DT (l:=l1) (by omega) ⟨op,a0,b0,n,0,0,0,ty,lb⟩ ha1 ha2 hb hn hn2;simp only[cL]at cc;simp only[go_sem];refine aa (cc) ?_;exact ax
  .obtain rfl:q=_:=by
    rcases hQ with⟨_,h⟩|⟨⟨h,_⟩,_⟩
    .exact h
    .exact absurd h (by decide)
   clear hQ;obtain⟨⟨rfl,rfl,rfl⟩,hlb,hty,rfl,rfl,hn2⟩:=hp;have cc:ac pg o_ [wx l1 0,.int .u64 n] (wx (l1++ej (I5 n)) 0):=ZQ l1 0 (by omega) n;simp only[go_sem];refine aa (cc) ?_;exact ax
  .obtain rfl:q=_:=by
    rcases hQ with⟨_,h⟩|⟨⟨h,_⟩,_⟩
    .exact h
    .exact absurd h (by decide)
   clear hQ;obtain⟨⟨rfl,rfl,rfl⟩,hlb,hty,rfl,rfl⟩:=hp;have cc:ac pg pc [wx l1 0,.int .u64 n] (wx (l1++ej (IntKind.i64.wrap n)) 0):=ZR l1 0 (by omega) n;simp only[go_sem];refine aa (cc) ?_;exact ax
  .obtain rfl:q=_:=by
    rcases hQ with⟨_,h⟩|⟨⟨h,_⟩,_⟩
    .exact h
    .exact absurd h (by decide)
   clear hQ;obtain⟨⟨rfl,rfl,rfl⟩,hlb,hty,ha,rfl,rfl⟩:=hp;have hv:yF a0=true:=by rcases ha with rfl|rfl<;>rfl
   have cc:ac pg ft [wx l1 0,.int .i64 a0] (wx (l1++[(vo a0).1]) 0):=rD (l:=l1) (e:=0) (by omega) a0 hv;simp only[go_sem];refine aa (cc) ?_;exact ax
end
def Sh{b:List UInt8}{a k:Nat}{x:UInt8}(h:gB b a = .ok (x,k)):k=a+1/\k<=b.length:=by
 unfold gB at h;split at h
 .cases h;exact⟨rfl,by omega⟩
 .cases h
def kQ{b:List UInt8}{a k n:Nat}(ha:a<=b.length)(h:gU b a = .ok (n,k)):a<=k/\k<=b.length/\n<4294967296:=by
 have h1:=Hc (b.drop a) 32 (by decide);have h2:=Hb (b.drop a) 32;simp only[jJ]at h2;unfold gU at h;split at h
 .cases h;exact⟨by omega,by omega,h1⟩
 .cases h
def LN{bits:Nat}{b:List UInt8}{a k:Nat}{n:Int}(ha:a<=b.length)(h:gS bits b a = .ok (n,k)):a<=k/\k<=b.length:=by
 have h2:=Ha (b.drop a) bits;simp only[jJ]at h2;unfold gS at h;split at h
 .cases h;exact⟨by omega,by omega⟩
 .cases h
def Sk{b:List UInt8}{a k:Nat}{t:Int}(h:gV b a = .ok (t,k)):a<=k/\k<=b.length:=by
 unfold gV at h;split at h
 .rename_i x k' h1;have:=Sh h1;split at h
  .cases h;omega
  .cases h
 .cases h
def abi{b:List UInt8}{a k n:Nat}{most:Int}(ha:a<=b.length)(h:gC b a most = .ok (n,k)):a<=k/\k<=b.length/\(n:Int)<=most:=by
 unfold gC at h;split at h
 .rename_i x k' h1;have:=kQ ha h1;split at h
  .cases h
  .cases h;omega
 .cases h
def Sj:∀(n:Nat){b:List UInt8}{a k:Nat}{l:List Int},a<=b.length->gL n b a = .ok (l,k)->a<=k/\k<=b.length/\l.length=n
 | 0,b,a,k,l,ha,h=>by cases h;exact⟨bG _,ha,rfl⟩
 | n+1,b,a,k,l,ha,h=>by
  unfold gL at h;split at h
  .rename_i x k1 h1;have:=kQ ha h1;split at h
   .rename_i l2 k2 h2;have:=Sj n this.2.1 h2;cases h;exact⟨by omega,by omega,by simp;omega⟩
   .cases h
  .cases h
def abl{b:List UInt8}{a k:Nat}{q:Int×Int×Int}(ha:a<=b.length)(h:gK b a = .ok (q,k)):a<=k/\k<=b.length:=by
 unfold gK at h;split at h
 .rename_i n k' h1;have:=LN ha h1;split at h
  .cases h;exact this
  split at h
  .cases h;exact this
  split at h
  .cases h;exact this
  .cases h
 .cases h
def abh{b:List UInt8}{a k:Nat}{q:Int×Int×Int}(ha:a<=b.length)(h:gA b a = .ok (q,k)):a<=k/\k<=b.length:=by
 unfold gA at h;split at h
 .rename_i n k' h1;have q1:=kQ ha h1;split at h
  .cases h
  split at h
  .split at h
   .rename_i y k1 h2;have q2:=kQ q1.2.1 h2;split at h
    .rename_i z k2 h3;have q3:=kQ q2.2.1 h3;cases h;omega
    .cases h
   .cases h
  .split at h
   .rename_i z k2 h3;have q3:=kQ q1.2.1 h3;cases h;omega
   .cases h
 .cases h
def abm{i:Int}{b:List UInt8}{a k:Nat}{x:bj}(ha:a<=b.length)(h:gM i b a = .ok (x,k)):a<=k/\k<=b.length:=by
 unfold gM at h;by_cases c1:i=1
 .rw[aF c1]at h;split at h
  .rename_i h1;have:=abl ha h1;cases h;exact this
  .cases h
 rw[au c1]at h;by_cases c2:i=3
 .rw[aF c2]at h;split at h
  .rename_i h1;have q1:=abi ha h1;split at h
   .rename_i h2;have q2:=Sj _ q1.2.1 h2;split at h
    .rename_i h3;have q3:=kQ q2.2.1 h3;cases h;omega
    .cases h
   .cases h
  .cases h
 rw[au c2]at h;by_cases c3:i=5\/i=10\/i=11\/i=14\/i=15
 .rw[aF c3]at h;split at h
  .rename_i h1;have q1:=kQ ha h1;split at h
   .rename_i h2;have q2:=kQ q1.2.1 h2;cases h;omega
   .cases h
  .cases h
 rw[au c3]at h;by_cases c4:i=6
 .rw[aF c4]at h;split at h
  .rename_i h1;have q1:=kQ ha h1;split at h
   .split at h
    .rename_i h2;have q2:=Sk h2;cases h;omega
    .cases h
   .cases h
  .cases h
 rw[au c4]at h;by_cases c5:i=13
 .rw[aF c5]at h;split at h
  .rename_i h1;have q1:=kQ ha h1;cases h;omega
  .cases h
 rw[au c5]at h;by_cases c6:i=17
 .rw[aF c6]at h;split at h
  .rename_i h1;have:=abh ha h1;cases h;exact this
  .cases h
 rw[au c6]at h;by_cases c7:i=18
 .rw[aF c7]at h;split at h
  .rename_i h1;have:=LN ha h1;cases h;exact this
  .cases h
 rw[au c7]at h;by_cases c8:i=19
 .rw[aF c8]at h;split at h
  .rename_i h1;have:=LN ha h1;cases h;exact this
  .cases h
 rw[au c8]at h;by_cases c9:i=20
 .rw[aF c9]at h;split at h
  .rename_i h1;have:=Sk h1;split at h
   .cases h;exact this
   .cases h
  .cases h
 rw[au c9]at h;by_cases c10:i=0
 .rw[aF c10]at h;cases h;exact⟨bG _,ha⟩
 .rw[au c10]at h;split at h
  .rename_i h1;have q1:=kQ ha h1;cases h;omega
  .cases h
def abn{b:List UInt8}{a k:Nat}{op:Int}(h:gO b a = .ok (op,k)):a<k/\k<=b.length/\x7 op=true:=by
 unfold gO at h;split at h
 .rename_i x k' h1;have q1:=Sh h1;split at h
  .split at h
   .rename_i n k2 h2;have q2:=kQ q1.2 h2;split at h
    .rename_i h3;cases h;exact⟨by omega,by omega,h3⟩
    .cases h
   .cases h
  .split at h
   .rename_i h3;cases h;exact⟨by omega,by omega,h3⟩
   .cases h
 .cases h
def Si{b:List UInt8}{a k:Nat}{x:bj}(h:gI b a = .ok (x,k)):a<k/\k<=b.length:=by
 unfold gI at h;split at h
 .rename_i op k1 h1;have q1:=abn h1;split at h
  .rename_i h2;have q2:=abm q1.2.1 h2;cases h;omega
  .cases h
 .cases h
def Yr(l:List bj):Rd (List bj)->Rd (List bj)
 | .ok (l2,k)=>.ok (l++l2,k)
 | .error e=>.error e
def Ue(r:Rd (List bj)):Yr [] r=r:=by cases r<;>rfl
def s6(op:Int)(d:Nat):Nat:=if op=2\/op=3\/op=4 then d+1 else if op=11 then d-1 else d
def EI(b:List UInt8)(F a0:Nat)(most:Int)(l:List bj)(a d:Nat):Prop :=
 a<=b.length/\l.length+a0<=a/\d<=l.length+1/\((1<=d/\b.length<F+a-l.length/\l.length<F/\gE F 1 b a0 most=Yr l (gE (F-l.length) d b a (most-l.length)))\/(d=0/\gE F 1 b a0 most = .ok (l,a)))
def ahx{b:List UInt8}{F a0:Nat}{most:Int}(h:a0<=b.length)(hF:b.length<F):EI b F a0 most [] a0 1 :=
 ⟨h,by simp,by simp,.inl ⟨bG _,by simp;omega,by simp;omega,by simp[Ue]⟩⟩
def VA{b:List UInt8}{F a0:Nat}{most:Int}{l:List bj}{a d:Nat}(h:EI b F a0 most l a d)(hd:1<=d)(hm:(l.length:Int)>=most):gE F 1 b a0 most = .error (6,a):=by
 obtain⟨h1,h2,h3,⟨_,h4,h5,h6⟩|⟨h4,_⟩⟩:=h
 .rw[h6,show F-l.length=(F-l.length-1)+1 by omega,gE,aF (by omega)];rfl
 .omega
def aao{b:List UInt8}{F a0:Nat}{most:Int}{l:List bj}{a d:Nat}(h:EI b F a0 most l a d)(hd:1<=d)(hm:¬(l.length:Int)>=most){e:Int×Nat}(g:gI b a = .error e):gE F 1 b a0 most = .error e:=by
 obtain⟨h1,h2,h3,⟨_,h4,h5,h6⟩|⟨h4,_⟩⟩:=h
 .rw[h6,show F-l.length=(F-l.length-1)+1 by omega,gE,au (by omega),g];rfl
 .omega
def aem{b:List UInt8}{F a0:Nat}{most:Int}{l:List bj}{a d:Nat}(h:EI b F a0 most l a d)(hd:1<=d)(hm:¬(l.length:Int)>=most){x:bj}{k:Nat}(g:gI b a = .ok (x,k)):EI b F a0 most (l++[x]) k (s6 x.op d):=by
 have hk:=Si g;obtain⟨h1,h2,h3,⟨_,h4,h5,h6⟩|⟨h4,_⟩⟩:=h
 .have hl:(l++[x]).length=l.length+1:=by simp
  refine⟨hk.2,by omega,?_,?_⟩
  .rw[hl];unfold s6;repeat' split
   all_goals omega
  rw[hl];rw[show F-l.length=(F-l.length-1)+1 by omega,gE,au (by omega),g]at h6;simp only at h6;by_cases hx:x.op=11/\d=1
  .rw[aF hx]at h6;refine .inr ⟨?_,by rw[h6];rfl⟩;unfold s6;rw[au (by omega),aF hx.1];omega
  .rw[au hx]at h6;refine .inl ⟨?_,by omega,by omega,?_⟩
   .unfold s6;split
    .omega
    .split
     .omega
     .omega
   .rw[h6,show F-(l.length+1)=F-l.length-1 by omega,show most-((l.length+1:Nat):Int)=most-l.length-1 by omega];show Yr l (match gE (F-l.length-1) (s6 x.op d) b k (most - ↑l.length-1)with | .ok (l,k')=>.ok (x::l,k') | .error e=>.error e)=_;cases gE (F-l.length-1) (s6 x.op d) b k (most - ↑l.length-1)with
    | ok p=>obtain⟨l2,k2⟩:=p;simp[Yr]
    | error e=>rfl
 .omega
def aan{b:List UInt8}{F a0:Nat}{most:Int}{l:List bj}{a:Nat}(h:EI b F a0 most l a 0):gE F 1 b a0 most = .ok (l,a):=by
 obtain⟨h1,h2,h3,⟨h4,_⟩|⟨_,h4⟩⟩:=h
 .omega
 .exact h4
def Ul{n:Int}(h:-4294967296<=n/\n<=4294967295):(ej n).length<=5:=zo (k:=4) (by omega) (by omega)
def Gj{n:Int}(h:ik n=true):(ay n.toNat).length<=5:=by
 obtain⟨k,rfl,hk⟩:=fJ h;rw[mz];exact bA hk
def R1{k v x:Int}(h:Lb k v x=true):(CD k v x).length<=5:=by
 unfold Lb at h;unfold CD;split
 .simp
 rename_i h0;rw[au h0]at h;split
 .simp
 rename_i h1;rw[au h1]at h;split at h
 .simp only[cE,ik,eQ]at h;exact Ul (by omega)
 .cases h
def R3{i:Int}(hi:0<=i/\i<=20){x:bj}(h:Mm i true x=true)(hb:¬(i=3/\4294967296<=x.lb.length)):(nV i x).length<=5*x.lb.length+20:=by
 obtain⟨op,a0,b0,n,k,v,z,ty,lb⟩:=x;unfold Mm KJ at h;simp only[bW]at h hb⊢;rcases(show i=0\/i=1\/i=2\/i=3\/i=4\/i=5\/i=6\/i=7\/i=8\/i=9\/i=10\/i=11\/i=12\/i=13\/i=14\/i=15\/i=16\/i=17\/i=18\/i=19\/i=20 by omega)with rfl|rfl|rfl|rfl|rfl|rfl|rfl|rfl|rfl|rfl|rfl|rfl|rfl|rfl|rfl|rfl|rfl|rfl|rfl|rfl|rfl
 all_goals
  simp only[Int.reduceEq,Int.reduceBEq,false_or,or_false,or_true,true_or,or_self,br,cD,iT,kA,bW,cE,beq_iff_eq,sz,decide_eq_false_iff_not,eQ,pz]at h;simp only[nV,Int.reduceEq,false_or,or_false,or_true,true_or,or_self,br,cD,aJ,jI,aC]
 .omega
 .have:=R1 h.2.2.2.2.2;omega
 .have:=Gj h.2.2.2.1;omega
 .have h1:=Gj h.2.2.1;have h2:=uS h.2.2.2.2.2;have h3:=bA (n:=lb.length) (Nat.lt_of_not_le λq=>hb ⟨rfl,q⟩);omega
 .have:=Gj h.2.2.2.1;omega
 .have h1:=Gj h.2.2.2.1;have h2:=Gj h.2.2.2.2.1;omega
 .have:=bA (n:=1) (by decide);omega
 .have:=Gj h.2.2.2.1;omega
 .have:=Gj h.2.2.2.1;omega
 .have:=Gj h.2.2.2.1;omega
 .have h1:=Gj h.2.2.2.1;have h2:=Gj h.2.2.2.2.1;omega
 .have h1:=Gj h.2.2.2.1;have h2:=Gj h.2.2.2.2.1;omega
 .have:=Gj h.2.2.2.1;omega
 .have:=Gj h.2.2.2.2.1;omega
 .have h1:=Gj h.2.2.2.1;have h2:=Gj h.2.2.2.2.1;omega
 .have h1:=Gj h.2.2.2.1;have h2:=Gj h.2.2.2.2.1;omega
 .have:=Gj h.2.2.2.1;omega
 .obtain⟨_,_,_,h1,h2,h3,h4⟩:=h;have g1:=Gj h3;have g2:=bA (n:=n.toNat) (by omega);have g3:=bA (n:=a0.toNat) (by omega);have g4:=bA (n:=(a0+64).toNat) (by omega);split
  .omega
  .rw[aJ];omega
 .have h1:=MA n;have:=Ul (n:=I5 n) (by omega);omega
 .have:=sj (i64_in n);omega
 .omega
def R2{x:bj}(h:PL x=true)(hb:¬(qu x.op=3/\4294967296<=x.lb.length)):(Ab x).length<=5*x.lb.length+30:=by
 have hk:=Ud h;have h1:=CE x.op hk;have hp:Mm (qu x.op) true x=true:=by
  have h':Mm (qu x.op) (x7 x.op) x=true:=h;rwa[hk]at h'
 have h2:=R3 (lm x.op) hp hb;show(kO x.op++nV (qu x.op) x).length<=_;rw[aJ];omega
structure ig where
 id:Int
 name:List UInt8
 bs:Option (List UInt8)
instance:Inhabited ig:=⟨⟨0,[],none⟩⟩
deriving instance DecidableEq for ig
def gb(o:Option (List UInt8)):List UInt8:=o.getD []
def je(l:List UInt8):gb (some l)=l:=rfl
def km(s:ig):List AV:=[.int .i64 s.id,.str s.name,Lg s.bs]
def agQ(s:ig):km s=[.int .i64 s.id,.str s.name,Lg s.bs]:=rfl
def abT(i:Nat)(o:Option (List UInt8)):mC i (Lg o)=false:=by cases o<;>rfl
def Uk(i:Nat)(o:Option (List UInt8)):i7 i (Lg o)=Lg o:=by cases o<;>rfl
def SK(o:Option (List UInt8)):qn (Lg o)=true:=by cases o<;>rfl
section
variable{β:Type}(o:Option (List UInt8))
end
attribute[go_sem ↓] ab abT Uk SK
attribute[go_sem] agQ uN
def jH(id:Int):Int:=if id<1\/id>12 then 0 else if id=10 then 11 else if id=11 then 12 else if id=12 then 10 else id
def Bv(p:Int):Int:=if p<1\/p>12 then 0 else if p=10 then 12 else if p=11 then 10 else if p=12 then 11 else p
def Gx{id:Int}(h:id<1\/id>12):jH id=0:=by unfold jH;rw[aF h]
def RC{p:Int}(h:p<1\/p>12):Bv p=0:=by unfold Bv;rw[aF h]
def Ih(id:Int):0<=jH id/\jH id<=12:=by unfold jH;repeat' split<;>omega
def aaN(p:Int):0<=Bv p/\Bv p<=12:=by unfold Bv;repeat' split<;>omega
def Nn{id:Int}(h:1<=id/\id<=12):Bv (jH id)=id/\1<=jH id:=by
 have h1:¬(id<1\/id>12):=by omega
 unfold jH;rw[au h1];unfold Bv
 repeat' split
 all_goals omega
def Yp{p:Int}(h:1<=p/\p<=12):jH (Bv p)=p/\1<=Bv p:=by
 have h1:¬(p<1\/p>12):=by omega
 unfold Bv;rw[au h1];unfold jH
 repeat' split
 all_goals omega
def II{id:Int}(h:1<=id/\id<=12):id=1\/id=2\/id=3\/id=4\/id=5\/id=6\/id=7\/id=8\/id=9\/id=10\/id=11\/id=12:=by omega
def Gg:List UInt8:=[0,97,115,109,1,0,0,0]
def kh(id:Int)(body:List UInt8):Int×ig :=
 if id=0 then(if(dl true body 0 0).2.2≠0 then((dl true body 0 0).2.2,default)else(0,⟨0,(dl true body 0 0).1,some (body.drop (dl true body 0 0).2.1)⟩))
 else(0,⟨id,[],some body⟩)
def tz(d:List UInt8):Option (List UInt8)×Nat×Int:=bI ((rU true 32 d 1 0).2.2==0) d (rU true 32 d 1 0).2.1 (rU true 32 d 1 0).2.2 (rU true 32 d 1 0).1
def ey(d:List UInt8)(last:Int):Int×ig×List UInt8 :=
 if(ah d 0).toNat>12 then(4,default,[])else if(tz d).2.2≠0 then((tz d).2.2,default,[])else
 if(ah d 0).toNat≠0/\jH (ah d 0).toNat<=last then(7,default,[])else
 if(kh (ah d 0).toNat (gb (tz d).1)).1≠0 then((kh (ah d 0).toNat (gb (tz d).1)).1,default,[])else
 (0,(kh (ah d 0).toNat (gb (tz d).1)).2,d.drop (tz d).2.1)
def tO:Nat->List UInt8->Int->List ig->Int×List ig
 | 0,_,_,acc=>(0,acc)
 | f+1,d,last,acc=>if d.length=0 then(0,acc)else
  if(ey d last).1≠0 then((ey d last).1,[])else tO f (ey d last).2.2 (max last (jH (ey d last).2.1.id)) (acc++[(ey d last).2.1])
def MO(d:List UInt8)(last:Int)(acc:List ig):Int×List ig:=tO d.length d last acc
def Ec(b:List UInt8):Int×List ig :=
 if b.length>262144 then(6,[])else if b.length<8\/b.take 8≠Gg then(4,[])else MO (b.drop 8) 0 []
def vN(s:ig):List UInt8:=if s.id=0 then ay s.name.length++s.name++gb s.bs else gb s.bs
def lV(s:ig):List UInt8:=UInt8.ofNat s.id.toNat::(ay (vN s).length++vN s)
def JM(s:ig)(last:Int):Int :=
 if s.id<0\/s.id>12\/(s.id≠0/\s.name≠[])then 4 else if s.id≠0/\jH s.id<=last then 7 else
 if s.id=0 then(if uv s.name=false then 9 else if s.name.length>64 then 6 else 0)else 0
def S6:List ig->Int->List UInt8->Int×List UInt8
 | [],_,w=>(0,w)
 | s::r,last,w=>if JM s last≠0 then(JM s last,[])else S6 r (max last (jH s.id)) (w++lV s)
def S8(l:List ig):Int×List UInt8:=S6 l 0 Gg
def Y7{α:Type}[Inhabited α]{l:List α}{i:Nat}(h:i<l.length):l.take (i+1)=l.take i++[ah l i]:=by rw[Eu,pd h,Et]
def vH{α:Type}[Inhabited α]{l:List α}{i:Nat}(h:i<l.length):l.drop i=ah l i::l.drop (i+1):=by
 rw[ad1 h,<-bD h]
def tot:List ig->Nat
 | []=>0
 | s::r=>(gb s.bs).length+s.name.length+tot r
