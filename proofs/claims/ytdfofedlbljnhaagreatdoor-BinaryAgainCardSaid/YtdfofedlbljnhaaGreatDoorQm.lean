import Derived.Test.YtdfofedlbljnhaaGreatDoorQl
set_option linter.all false
set_option maxRecDepth 100000
set_option maxHeartbeats 20000000
namespace Go.Proofs.YtdfofedlbljnhaaGreatDoor
section
open Go Go.Mw
theorem aem (t:Int):(vo t).2=FL t:=by
 by_cases h:t=1∨t=2∨t=3∨t=4
 ·rcases h with rfl | rfl | rfl | rfl<;>rfl
 ·have:FL t=false:=by simp only [FL,Bool.and_eq_false_iff,decide_eq_false_iff_not];omega
  rw [this]
  unfold vo
  rw [ah (by omega),ah (by omega),ah (by omega),ah (by omega)]
attribute [local go_sem] ro wo wa wx rx
theorem Ol (t:Int):ao pg IA [.int .i64 t] (.tup [.int .u8 (vo t).1.toNat,.bool (vo t).2]):=by
 refine aL rH ?_
 by_cases h:t=1∨t=2∨t=3∨t=4
 ·rcases h with rfl | rfl | rfl | rfl
  all_goals
   simp only [go_sem,rH]
   exact aB
 ·have h1:(t==1)=false:=gy.2 (by omega)
  have h2:(t==2)=false:=gy.2 (by omega)
  have h3:(t==3)=false:=gy.2 (by omega)
  have h4:(t==4)=false:=gy.2 (by omega)
  have e:vo t=(0,false):=by unfold vo;rw [ah (by omega),ah (by omega),ah (by omega),ah (by omega)]
  rw [e]
  simp only [go_sem,rH,h1,h2,h3,h4]
  exact aB
def loT (b:UInt8) (k:Nat):Prop:=∀t:Int,1≤t→t<k→(vo t).1≠b
theorem agh {b:UInt8} {t:Int} (ht:1≤t∧t≤4) (h:(vo t).1=b):ov b=(t,true):=by
 subst h
 rcases (show t=1∨t=2∨t=3∨t=4 by omega) with rfl | rfl | rfl | rfl<;>rfl
theorem agi {b:UInt8} (h:loT b 5):ov b=(0,false):=by
 have h1:=h 1 (by decide) (by decide)
 have h2:=h 2 (by decide) (by decide)
 have h3:=h 3 (by decide) (by decide)
 have h4:=h 4 (by decide) (by decide)
 unfold ov
 rw [ah (fun e=>h1 e.symm),ah (fun e=>h2 e.symm),ah (fun e=>h3 e.symm),ah (fun e=>h4 e.symm)]
theorem Vv (x y:UInt8):(((x.toNat:Nat):Int)==((y.toNat:Nat):Int))=(x==y):=by
 by_cases h:x=y
 ·subst h;simp
 ·have:¬((x.toNat:Nat):Int)=((y.toNat:Nat):Int):=fun e=>h (UInt8.toNat_inj.1 (by omega))
  rw [gy.2 this,gy.2 h]
theorem U4 (b:UInt8):ao pg EP [.int .u8 b.toNat] (.tup [.int .i64 (ov b).1,.bool (ov b).2]):=by
 refine aL tJ ?_
 simp only [go_sem,tJ]
 refine aw (fun k:Nat=>⟨[(0,.int .u8 b.toNat),(4,.int .i64 k)],[]⟩) (fun k=>1≤k∧k≤5∧loT b k) (fun k=>5 - k) 1 ⟨by decide,by decide,fun t h1 h2=>by omega⟩ (Wk.of ?_ ?_) ?_
 ·simp only [go_sem];try simp
 ·simp only [go_sem]
 rintro k ⟨k1,k2,hk⟩
 by_cases h:k=5
 ·have hd:decide ((k:Int)≤4)=false:=aQ (by omega)
  subst h
  rw [agi hk]
  simp only [go_sem,hd]
  exact aB
 ·have hd:decide ((k:Int)≤4)=true:=aO (by omega)
  have e8:=wi (n:=(k:Int)+1) (by omega) (by omega)
  simp only [go_sem,hd]
  refine ax (Ol (k:Int)) ?_
  have hb:=Vv (vo (k:Int)).1 b
  simp only [go_sem,hb]
  cases hq:((vo (k:Int)).1==b)
  ·simp only [go_sem,hq]
   refine aG (k+1) ⟨by omega,by omega,fun t h1 h2=>?_⟩ (show 5 - (k+1)<5 - k by omega) (Wk.of ?_ ?_)
   ·by_cases e:t=k
    ·subst e;exact gy.1 hq
    ·exact hk t h1 (by omega)
   ·simp only [go_sem,e8]
    try simp
   ·simp only [go_sem]
  ·have e:=agh (b:=b) (t:=(k:Int)) ⟨by omega,by omega⟩ (by simpa using hq)
   rw [e]
   simp only [go_sem,hq]
   exact aB
end
section
open Go Go.Mw
attribute [local go_sem] ro wo wa wx rx
theorem adI (t:Int):ao pg BL [.int .i64 t] (.bool (t==1||t==2)):=by
 refine aL lK ?_
 simp only [go_sem,lK]
 refine ⟨fun h=>?_,fun h=>?_⟩
 ·rw [h,eC]
  exact aB
 ·rw [h,eE]
  exact aB
theorem adJ (t:Int):ao pg BM [.int .i64 t] (.bool (t==3||t==4)):=by
 refine aL lL ?_
 simp only [go_sem,lL]
 refine ⟨fun h=>?_,fun h=>?_⟩
 ·rw [h,eC]
  exact aB
 ·rw [h,eE]
  exact aB
theorem ael (t:Int):((t==1||t==2)||(t==3||t==4))=FL t:=by
 rw [Bool.eq_iff_iff]
 simp only [FL,qr,beq_iff_eq,cC,fo]
 omega
theorem adK (t:Int):ao pg BN [.int .i64 t] (.bool (FL t)):=by
 refine aL pH ?_
 rw [← ael]
 simp only [go_sem,pH]
 refine ax (adI t) ?_
 cases h:(t==1||t==2)
 ·rw [eE]
  simp only [go_sem]
  refine aa (adJ t) ?_
  exact aB
 ·rw [eC]
  simp only [go_sem]
  exact aB
section
variable {l:List UInt8} {e:Int} (hl:l.length<40000000000)
include hl
theorem yU (t:Int) (h:FL t=true):WM qN [.int .i64 t] true l e (.tup []) (wB (e==0) l [(vo t).1]) e:=by
 refine bF qz ?_
 simp only [go_sem,qz]
 refine ax (Ol t) ?_
 have h2:=aem t
 rw [h] at h2
 simp only [go_sem,h2]
 refine aR [] (k:=1000) (j:=2000) (vA true l (vo t).1 e (by omega)) ?_
 simp only [go_sem,bU]
 exact cN [] _ [(1000,wo 2000 true (wB (e==0) l [(vo t).1]) e),(2000,wa (wB (e==0) l [(vo t).1]))] ⟨rfl,rfl⟩
theorem MJ (k v x:Int) (h:LA k v x=true):WM xx [.agg [.int .i64 k,.int .i64 v,.int .i64 x]] true l e (.tup []) (wB (e==0) l (zM k v x)) e:=by
 refine bF fE ?_
 unfold LA at h
 unfold zM
 by_cases h0:k=0
 ·subst h0
  simp only [aF,cC,beq_iff_eq] at h ⊢
  obtain ⟨rfl,rfl⟩:=h
  simp only [go_sem,fE]
  refine aR [] (k:=1000) (j:=2000) (vA true l 64 e (by omega)) ?_
  simp only [go_sem,bU]
  exact cN [] _ [(1000,wo 2000 true (wB (e==0) l [64]) e),(2000,wa (wB (e==0) l [64]))] ⟨rfl,rfl⟩
 ·simp only [h0,bc] at h ⊢
  by_cases h1:k=1
  ·subst h1
   simp only [aF,cC,beq_iff_eq] at h ⊢
   obtain ⟨h,rfl⟩:=h
   simp only [go_sem,fE]
   refine ax (adK v) ?_
   simp only [go_sem,h]
   refine aR [] (k:=1000) (j:=2000) (yU hl v h) ?_
   simp only [go_sem]
   exact cN [] _ [(1000,wo 2000 true (wB (e==0) l [(vo v).1]) e),(2000,wa (wB (e==0) l [(vo v).1]))] ⟨rfl,rfl⟩
  ·simp only [h1,bc] at h ⊢
   by_cases h2:k=2
   ·subst h2
    simp only [aF,cC,beq_iff_eq,pq,fo] at h
    obtain ⟨rfl,g1,g2⟩:=h
    simp only [go_sem,fE,aO g1,aO (show x≤4294967295 by omega)]
    have r:Gk (true&&e==0) l e x=(wB (e==0) l (br x),e):=by
     unfold Gk;rw [ah (by omega)];rfl
    have hx:=adN true l e (by omega) x (by unfold NF;omega)
    rw [r] at hx
    refine aR [] (k:=1000) (j:=2000) (hx) ?_
    simp only [go_sem]
    exact cN [] _ [(1000,wo 2000 true (wB (e==0) l (br x)) e),(2000,wa (wB (e==0) l (br x)))] ⟨rfl,rfl⟩
   ·simp only [h2,bc] at h
    cases h
end
variable {l:List UInt8} {e:Int} (hl:l.length<40000000000)
include hl
end
section
open Go Go.Mw
def jE {α:Type} (b:List UInt8) (res:Rd α) (d:α) (q:α×Nat×Int):Prop :=
 q.2.1≤b.length∧((∃x k,res = .ok (x,k)∧q=(x,k,0))∨∃e,res = .error (e,q.2.1)∧e≠0∧q.1=d∧q.2.2=e)
def RX {α:Type} (f:FuncId) (rest:List AV) (b:List UInt8) (a:Nat) (res:Rd α) (d:α) (av:α→AV):Prop :=
 aX pg f (.mp 1000 4 0 0 :: rest) [(1000,ro true b a 0)] sb (fun r' σ'=>∃q,jE b res d q∧r'=av q.1∧σ'=[(1000,ro true b (q.2.1:Nat) q.2.2)])
theorem jE.ok {α:Type} {b:List UInt8} {res:Rd α} {d x:α} {k:Nat} (h:res = .ok (x,k)) (hk:k≤b.length):jE b res d (x,k,0):=⟨hk,.inl ⟨x,k,h,rfl⟩⟩
theorem jE.er {α:Type} {b:List UInt8} {res:Rd α} {d:α} {e:Int} {k:Nat} (h:res = .error (e,k)) (he:e≠0) (hk:k≤b.length):jE b res d (d,k,e):=⟨hk,.inr ⟨e,h,he,rfl,rfl⟩⟩
theorem nF:(true&&(0:Int)==0)=true:=rfl
theorem pp {e:Int} (h:e≠0):(e==0)=false:=gy.2 h
theorem vj {e:Int} (h:e≠0):(e != 0)=true:=by simp [h]
variable {b:List UInt8} {a:Nat} (ha:a≤b.length) (hb:b.length<1000000000)
include ha hb
attribute [local go_sem] ro wo wa wx rx
theorem Fe:RX k8 [] b a (gV b a) 0 (.int .i64):=by
 refine bF ij ?_
 simp only [go_sem,ij]
 refine ab (pd true b a 0 ha hb) ?_
 rcases yK b a with ⟨x,h1,h2,h3⟩ | ⟨h1,h2⟩
 ·simp only [go_sem,nF,h2]
  refine aA (aP true b ((a+1:Nat):Int) 0) ?_
  refine ax (U4 x) ?_
  cases hx:(ov x).2
  ·simp only [go_sem]
   refine aA (cj b ((a+1:Nat):Int) 4) ?_
   refine jG [] _ [(1000,ro true b ((a+1:Nat):Int) 4)] ⟨(0,a+1,4),jE.er ?_ (by decide) h3,rfl,rfl⟩
   simp only [gV,h1,hx,iD,bc]
  ·simp only [go_sem]
   refine jG [] _ [(1000,ro true b ((a+1:Nat):Int) 0)] ⟨((ov x).1,a+1,0),jE.ok ?_ h3,rfl,rfl⟩
   simp only [gV,h1,hx,aF]
 ·simp only [go_sem,nF,h2]
  refine aA (aP true b a 3) ?_
  refine jG [] _ [(1000,ro true b a 3)] ⟨(0,a,3),jE.er ?_ (by decide) ha,rfl,rfl⟩
  simp only [gV,h1]
end
section
open Go Go.Mw
def bk_ (q:Int×Int×Int):AV:=.agg [.int .i64 q.1,.int .i64 q.2.1,.int .i64 q.2.2]
theorem HG (q:Int×Int×Int):bk_ q = .agg [.int .i64 q.1,.int .i64 q.2.1,.int .i64 q.2.2]:=rfl
theorem abp (b:List UInt8):-9223372036854775808≤(eV b 33).1∧(eV b 33).1<9223372036854775808:=by
 unfold eV
 split
 ·exact ⟨(by decide:(-9223372036854775808:Int)≤0),(by decide:(0:Int)<9223372036854775808)⟩
 split
 ·exact ⟨(by decide:(-9223372036854775808:Int)≤0),(by decide:(0:Int)<9223372036854775808)⟩
 ·simp only [I9]
  rw [wV]
  omega
theorem adp {b:List UInt8} {a:Nat} (ha:a≤b.length):(∃n k,gS 33 b a = .ok (n,k)∧rS true 33 b a 0=(n,k,0)∧k≤b.length∧-9223372036854775808≤n∧n<9223372036854775808)∨∃e,e≠0∧gS 33 b a = .error (e,a)∧rS true 33 b a 0=(0,a,e):=by
 rcases adq 33 ha with ⟨n,k,h1,h2,h3⟩ | h
 ·refine .inl ⟨n,k,h1,h2,h3,?_⟩
  unfold gS at h1
  split at h1
  ·cases h1;exact abp _
  ·cases h1
 ·exact .inr h
theorem ahr {n:Int} (h:-17≤n∧n<0):IntKind.u8.wrap (n+128)=(((UInt8.ofNat (n+128).toNat).toNat:Nat):Int):=by
 rw [ofNat_toNat (by omega),Fv]
 omega
variable {b:List UInt8} {a:Nat} (ha:a≤b.length) (hb:b.length<1000000000)
include ha hb
attribute [local go_sem] ro wo wa wx rx HG
theorem MI:RX xw [] b a (gK b a) (0,0,0) bk_:=by
 refine bF ox ?_
 simp only [go_sem,ox]
 refine ab (agV true b a 0 ha hb) ?_
 rcases adp ha with ⟨n,k,h1,h2,h3,h4,h5⟩ | ⟨e,he,h1,h2⟩
 ·simp only [go_sem,nF,h2]
  refine ab (aP true b k 0) ?_
  by_cases hn:n = -64
  ·subst hn
   simp only [go_sem]
   refine jG [] _ [(1000,ro true b k 0)] ⟨((0,0,0),k,0),jE.ok ?_ h3,rfl,rfl⟩
   simp only [gK,h1,aF]
  have hn':=gy.2 hn
  by_cases h0:n≥0
  ·simp only [go_sem,hn',aO h0]
   refine jG [] _ [(1000,ro true b k 0)] ⟨((2,0,n),k,0),jE.ok ?_ h3,rfl,rfl⟩
   simp only [gK,h1,ah hn,ap h0]
  by_cases h17:n≥-17
  ·have w1:IntKind.i64.wrap (n+128)=n+128:=wi (by omega) (by omega)
   have w2:=ahr ⟨h17,Int.not_le.1 h0⟩
   generalize hy:UInt8.ofNat (n+128).toNat=y at *
   simp only [go_sem,hn',aQ h0,aO h17,w1,w2]
   refine ax (U4 y) ?_
   cases hx:(ov y).2
   ·simp only [go_sem]
    refine aA (cj b k 4) ?_
    refine jG [] _ [(1000,ro true b k 4)] ⟨((0,0,0),k,4),jE.er ?_ (by decide) h3,rfl,rfl⟩
    simp only [gK,h1,ah hn,ah h0,hy,hx,iD,and_false,bc]
   ·simp only [go_sem]
    refine jG [] _ [(1000,ro true b k 0)] ⟨((1,(ov y).1,0),k,0),jE.ok ?_ h3,rfl,rfl⟩
    simp only [gK,h1,ah hn,ah h0,hy,hx,h17,and_self,aF]
  ·simp only [go_sem,hn',aQ h0,aQ h17]
   refine aA (cj b k 4) ?_
   refine jG [] _ [(1000,ro true b k 4)] ⟨((0,0,0),k,4),jE.er ?_ (by decide) h3,rfl,rfl⟩
   simp only [gK,h1,ah hn,ah h0,h17,false_and,bc]
 ·simp only [go_sem,nF,h2]
  refine ab (aP true b a e) ?_
  simp only [go_sem,vj he]
  refine jG [] _ [(1000,ro true b a e)] ⟨((0,0,0),a,e),jE.er ?_ he ha,rfl,rfl⟩
  simp only [gK,h1]
end
section
open Go Go.Mw
def qD {α:Type} (b:List UInt8) (res:Rd α) (p:α→Prop) (q:α×Nat×Int):Prop :=
 q.2.1≤b.length∧((∃x k,res = .ok (x,k)∧q=(x,k,0))∨∃e,res = .error (e,q.2.1)∧e≠0∧p q.1∧q.2.2=e)
theorem qD.ok {α:Type} {b:List UInt8} {res:Rd α} {p:α→Prop} {x:α} {k:Nat} (h:res = .ok (x,k)) (hk:k≤b.length):qD b res p (x,k,0):=⟨hk,.inl ⟨x,k,h,rfl⟩⟩
theorem qD.er {α:Type} {b:List UInt8} {res:Rd α} {p:α→Prop} {x:α} {e:Int} {k:Nat} (h:res = .error (e,k)) (he:e≠0) (hp:p x) (hk:k≤b.length):qD b res p (x,k,e):=⟨hk,.inr ⟨e,h,he,hp,rfl⟩⟩
theorem zX {op:Int} (h:yM op=true):(0≤op∧op<256∧op≠252)∨(64512≤op∧op<64768):=by
 have:=I3 (p:=fun op=>(decide (0≤op)&&(decide (op<256) && !(op==252)))||(decide (64512≤op)&&decide (op<64768))) (by decide +kernel) (op:=op) (fun q=>by simp [yM,q] at h)
 simpa using this
theorem afS {n:Nat} (h:255<n):yM (64512+n)=false:=by
 cases hk:yM (64512+(n:Int))
 ·rfl
 ·rcases zX hk with h | h<;>omega
theorem abd {n:Nat} (h:n<4294967296):bO .i64 (n:Int) 255=((n % 256:Nat):Int):=by
 have:(BitVec.ofInt 64 (n:Int) &&& BitVec.ofInt 64 ((255:Nat):Int)).toNat=n &&& 255:=xX (by omega) (by decide)
 show IntKind.i64.wrap ((BitVec.ofInt 64 (n:Int) &&& BitVec.ofInt 64 ((255:Nat):Int)).toNat)=_
 rw [this,show (255:Nat)=2 ^ 8 - 1 from rfl,Nat.and_two_pow_sub_one_eq_mod,wV]
 omega
theorem aee (x:UInt8):IntKind.i64.wrap ((x.toNat:Nat):Int)=((x.toNat:Nat):Int):=wi (by omega) (by have:=x.toNat_lt;omega)
theorem TS (op:Int):(!(dq op==[]))=yM op:=(Hp op).1
theorem ahZ (x:UInt8):(((x.toNat:Nat):Int)==252)=decide (x=252):=by
 have:=Vv x 252
 rw [show (((252:UInt8).toNat:Nat):Int)=252 from rfl] at this
 rw [this];rfl
theorem ahm:((252:UInt8).toNat:Int)=252:=rfl
theorem to0:((0:UInt8).toNat:Int)=0:=rfl
theorem ajO:IntKind.i64.wrap 252=252:=by decide
theorem wr0:IntKind.i64.wrap 0=0:=by decide
variable {b:List UInt8} {a:Nat} (ha:a≤b.length) (hb:b.length<1000000000)
include ha hb
attribute [local go_sem] ro wo wa wx rx HG
theorem aju:aX pg yo [.mp 1000 4 0 0] [(1000,ro true b a 0)] sb (fun r' σ'=>∃q:Int×Nat×Int,qD b (gO b a) (fun _=>True) q∧r' = .int .i64 q.1∧σ'=[(1000,ro true b (q.2.1:Nat) q.2.2)]):=by
 refine bF nL ?_
 simp only [go_sem,nL]
 refine ab (pd true b a 0 ha hb) ?_
 rcases yK b a with ⟨x,h1,h2,h3⟩ | ⟨h1,h2⟩
 ·have w0:=aee x
  by_cases hx:x=252
  ·subst hx
   simp only [go_sem,nF,h2,ahm,ajO]
   refine ab (fe true b (a+1) 0 h3 hb) ?_
   rcases uw h3 with ⟨n,k,g1,g2,g3,g4⟩ | ⟨e,he,g1,g2⟩
   ·have w2:=abd g3
    by_cases hn:(n:Int)>255
    ·simp only [go_sem,nF,g2,aO hn]
     refine aA (cj b k 10) ?_
     refine ab (aP true b k 10) ?_
     simp only [go_sem,w2]
     have w3:IntKind.i64.wrap (64512+((n % 256:Nat):Int))=64512+((n % 256:Nat):Int):=wi (by omega) (by omega)
     refine done [] _ [(1000,ro true b k 10)] (by simp only [go_sem,w3]) (by simp only [go_sem]) rfl ⟨(64512+((n % 256:Nat):Int),k,10),qD.er ?_ (by decide) trivial g4,rfl,rfl⟩
     simp only [gO,h1,aF,g1,afS (show 255<n by omega),iD,bc]
    ·have w3:IntKind.i64.wrap (64512+((n % 256:Nat):Int))=64512+(n:Int):=by rw [wi (by omega) (by omega)];omega
     simp only [go_sem,nF,g2,aQ hn]
     refine ab (aP true b k 0) ?_
     simp only [go_sem,w2,w3]
     refine ax (yT (64512+(n:Int))) ?_
     rw [TS]
     cases hk:yM (64512+(n:Int))
     ·simp only [go_sem]
      refine aA (cj b k 10) ?_
      refine jG [] _ [(1000,ro true b k 10)] ⟨(64512+(n:Int),k,10),qD.er ?_ (by decide) trivial g4,rfl,rfl⟩
      simp only [gO,h1,aF,g1,hk,iD,bc]
     ·simp only [go_sem]
      refine jG [] _ [(1000,ro true b k 0)] ⟨(64512+(n:Int),k,0),qD.ok ?_ g4,rfl,rfl⟩
      simp only [gO,h1,aF,g1,hk]
   ·have d0:decide (((0:Nat):Int)>255)=false:=by decide
    have a0:bO .i64 ((0:Nat):Int) 255=0:=by decide
    have w3:IntKind.i64.wrap (64512+0)=64512:=by decide
    simp only [go_sem,nF,g2,d0,a0,w3]
    refine ab (aP true b ((a+1:Nat):Int) e) ?_
    simp only [go_sem,pp he]
    refine jG [] _ [(1000,ro true b ((a+1:Nat):Int) e)] ⟨(64512,a+1,e),qD.er ?_ he trivial h3,rfl,rfl⟩
    simp only [gO,h1,aF,g1]
  ·have d:(((x.toNat:Nat):Int)==252)=false:=by rw [ahZ,aQ hx]
   simp only [go_sem,nF,h2,w0,d]
   refine aA (aP true b ((a+1:Nat):Int) 0) ?_
   refine ax (yT (x.toNat:Int)) ?_
   rw [TS]
   cases hk:yM (x.toNat:Int)
   ·simp only [go_sem]
    refine aA (cj b ((a+1:Nat):Int) 10) ?_
    refine jG [] _ [(1000,ro true b ((a+1:Nat):Int) 10)] ⟨((x.toNat:Int),a+1,10),qD.er ?_ (by decide) trivial h3,rfl,rfl⟩
    simp only [gO,h1,ah hx,hk,iD,bc]
   ·simp only [go_sem]
    refine jG [] _ [(1000,ro true b ((a+1:Nat):Int) 0)] ⟨((x.toNat:Int),a+1,0),qD.ok ?_ h3,rfl,rfl⟩
    simp only [gO,h1,ah hx,hk,aF]
 ·simp only [go_sem,nF,h2,to0,wr0]
  refine aA (aP true b a 3) ?_
  refine jG [] _ [(1000,ro true b a 3)] ⟨(0,a,3),qD.er ?_ (by decide) trivial ha,rfl,rfl⟩
  simp only [gO,h1]
end
section
open Go Go.Mw
def HB (op:Int) (q:Int×Int×Int):ak:=⟨58,9,[[.int .i64 op,.int .i64 q.1,.int .i64 q.2.1,.int .u64 q.2.2,.int .i64 0,.int .i64 0,.int .i64 0,.nl,.nl]],true⟩
theorem r9 {n:Nat} (h:n<4294967296):IntKind.u64.wrap (n:Int)=(n:Int):=by rw [rf];omega
variable {b:List UInt8} {a:Nat} (ha:a≤b.length) (hb:b.length<1000000000)
include ha hb
attribute [local go_sem] ro wo wa wx rx HG
theorem MH (op:Int):aX pg z_ [.mp 1000 4 0 0,.mp 1001 9 0 0] [(1000,ro true b a 0),(1001,HB op (0,0,0))] sb
  (fun r' σ'=>∃q:(Int×Int×Int)×Nat×Int,qD b (gA b a) (fun _=>True) q∧r' = .tup []∧σ'=[(1000,ro true b (q.2.1:Nat) q.2.2),(1001,HB op q.1)]):=by
 refine bF qy ?_
 simp only [go_sem,qy,HB]
 refine ab (fe true b a 0 ha hb) ?_
 rcases uw ha with ⟨n,k,g1,g2,g3,g4⟩ | ⟨e,he,g1,g2⟩
 ·by_cases h1:(n:Int)≥128
  ·have h2:(n:Int)≥64:=by omega
   have w1:IntKind.i64.wrap ((n:Int) - 64)=(n:Int) - 64:=wi (by omega) (by omega)
   simp only [go_sem,nF,g2,aO h1]
   refine ab (cj b k 4) ?_
   simp only [go_sem,aO h2,w1]
   refine ab (fe true b k 4 g4 hb) ?_
   simp only [go_sem,pp (show (4:Int)≠0 by decide),bU,Co]
   refine ab (fe true b k 4 g4 hb) ?_
   have w2:=r9 (n:=0) (by decide)
   simp only [go_sem,pp (show (4:Int)≠0 by decide),bU,Co,w2]
   refine fH [] _ [(1000,ro true b k 4),(1001,HB op ((n:Int) - 64,0,0))] (by simp only [go_sem]) (by simp only [go_sem,HB];try rfl) rfl ⟨(((n:Int) - 64,0,0),k,4),qD.er ?_ (by decide) trivial g4,rfl,rfl⟩
   simp only [gA,g1,ap (show n≥128 by omega)]
  ·have h1':¬n≥128:=by omega
   by_cases h2:(n:Int)≥64
   ·have h2':n≥64:=by omega
    have w1:IntKind.i64.wrap ((n:Int) - 64)=(n:Int) - 64:=wi (by omega) (by omega)
    simp only [go_sem,nF,g2,aQ h1,aO h2,w1]
    refine ab (fe true b k 0 g4 hb) ?_
    rcases uw g4 with ⟨y,k1,p1,p2,p3,p4⟩ | ⟨e,he,p1,p2⟩
    ·simp only [go_sem,nF,p2]
     refine ab (fe true b k1 0 p4 hb) ?_
     rcases uw p4 with ⟨z,k2,q1,q2,q3,q4⟩ | ⟨e,he,q1,q2⟩
     ·have w2:=r9 q3
      simp only [go_sem,nF,q2,w2]
      refine fH [] _ [(1000,ro true b k2 0),(1001,HB op ((n:Int) - 64,(y:Int),(z:Int)))] (by simp only [go_sem]) (by simp only [go_sem,HB];try rfl) rfl ⟨(((n:Int) - 64,(y:Int),(z:Int)),k2,0),qD.ok ?_ q4,rfl,rfl⟩
      simp only [gA,g1,ah h1',ap h2',p1,q1]
     ·have w2:=r9 (n:=0) (by decide)
      simp only [go_sem,nF,q2,w2]
      refine fH [] _ [(1000,ro true b k1 e),(1001,HB op ((n:Int) - 64,(y:Int),0))] (by simp only [go_sem]) (by simp only [go_sem,HB];try rfl) rfl ⟨(((n:Int) - 64,(y:Int),0),k1,e),qD.er ?_ he trivial p4,rfl,rfl⟩
      simp only [gA,g1,ah h1',ap h2',p1,q1]
    ·simp only [go_sem,nF,p2]
     refine ab (fe true b k e g4 hb) ?_
     have w2:=r9 (n:=0) (by decide)
     simp only [go_sem,pp he,bU,Co,w2]
     refine fH [] _ [(1000,ro true b k e),(1001,HB op ((n:Int) - 64,0,0))] (by simp only [go_sem]) (by simp only [go_sem,HB];try rfl) rfl ⟨(((n:Int) - 64,0,0),k,e),qD.er ?_ he trivial g4,rfl,rfl⟩
     simp only [gA,g1,ah h1',ap h2',p1]
   ·have h2':¬n≥64:=by omega
    simp only [go_sem,nF,g2,aQ h1,aQ h2]
    refine ab (fe true b k 0 g4 hb) ?_
    rcases uw g4 with ⟨z,k2,q1,q2,q3,q4⟩ | ⟨e,he,q1,q2⟩
    ·have w2:=r9 q3
     simp only [go_sem,nF,q2,w2]
     refine fH [] _ [(1000,ro true b k2 0),(1001,HB op ((n:Int),0,(z:Int)))] (by simp only [go_sem]) (by simp only [go_sem,HB];try rfl) rfl ⟨(((n:Int),0,(z:Int)),k2,0),qD.ok ?_ q4,rfl,rfl⟩
     simp only [gA,g1,ah h1',ah h2',q1]
    ·have w2:=r9 (n:=0) (by decide)
     simp only [go_sem,nF,q2,w2]
     refine fH [] _ [(1000,ro true b k e),(1001,HB op ((n:Int),0,0))] (by simp only [go_sem]) (by simp only [go_sem,HB];try rfl) rfl ⟨(((n:Int),0,0),k,e),qD.er ?_ he trivial g4,rfl,rfl⟩
     simp only [gA,g1,ah h1',ah h2',q1]
 ·have d0:decide (((0:Nat):Int)≥128)=false:=by decide
  have d1:decide (((0:Nat):Int)≥64)=false:=by decide
  simp only [go_sem,nF,g2,d0,d1]
  refine ab (fe true b a e ha hb) ?_
  have w2:=r9 (n:=0) (by decide)
  simp only [go_sem,pp he,bU,Co,w2]
  refine fH [] _ [(1000,ro true b a e),(1001,HB op (0,0,0))] (by simp only [go_sem]) (by simp only [go_sem,HB];try rfl) rfl ⟨((0,0,0),a,e),qD.er ?_ he trivial ha,rfl,rfl⟩
  simp only [gA,g1]
end
section
open Go Go.Mw
theorem Af (a b c d e f g:AV):nlm [a,b,c,d,e,f,g,.nl,.nl] [a,b,c,d,e,f,g,.sl 1 [],.sl 1 []]:=⟨.inl rfl,.inl rfl,.inl rfl,.inl rfl,.inl rfl,.inl rfl,.inl rfl,.inr ⟨rfl,.inl ⟨1,rfl⟩⟩,.inr ⟨rfl,.inl ⟨1,rfl⟩⟩,trivial⟩
theorem nl8 (a b c d e f g h:AV):nlm [a,b,c,d,e,f,g,.nl,h] [a,b,c,d,e,f,g,.sl 1 [],h]:=⟨.inl rfl,.inl rfl,.inl rfl,.inl rfl,.inl rfl,.inl rfl,.inl rfl,.inr ⟨rfl,.inl ⟨1,rfl⟩⟩,.inl rfl,trivial⟩
theorem nl7 (a b c d e f g h:AV):nlm [a,b,c,d,e,f,g,h,.nl] [a,b,c,d,e,f,g,h,.sl 1 []]:=⟨.inl rfl,.inl rfl,.inl rfl,.inl rfl,.inl rfl,.inl rfl,.inl rfl,.inl rfl,.inr ⟨rfl,.inl ⟨1,rfl⟩⟩,trivial⟩
variable {b:List UInt8} {a:Nat} (ha:a≤b.length) (hb:b.length<1000000000)
include ha hb
attribute [local go_sem] ro wo wa wx rx HG dE d_
end
section
open Go Go.Mw
def od (l:List Int):Rd (List Int)→Rd (List Int)
 | .ok (l2,k)=>.ok (l++l2,k)
 | .error e=>.error e
theorem YT (r:Rd (List Int)):od [] r=r:=by cases r<;>rfl
theorem Us {b:List UInt8} {a n k:Nat} {x:Nat} {l:List Int} (h:gU b a = .ok (x,k)):od l (gL (n+1) b a)=od (l++[(x:Int)]) (gL n b k):=by
 simp only [gL,h]
 cases gL n b k with
 | ok p=>obtain ⟨l2,k2⟩:=p;simp [od]
 | error e=>rfl
theorem YS {b:List UInt8} {a n:Nat} {e:Int×Nat} {l:List Int} (h:gU b a = .error e):od l (gL (n+1) b a) = .error e:=by
 simp only [gL,h];rfl
def LI (b:List UInt8) (n a0:Nat) (q:Nat×List Int×Nat×Int):Prop :=
 q.1≤n∧q.2.1.length=q.1∧q.2.2.1≤b.length∧((q.2.2.2=0∧gL n b a0=od q.2.1 (gL (n - q.1) b q.2.2.1))∨(q.2.2.2≠0∧gL n b a0 = .error (q.2.2.2,q.2.2.1)))
theorem aeS {b:List UInt8} {n a0 i:Nat} {l:List Int} {a:Nat} (h:LI b n a0 (i,l,a,0)) (hi:i<n) {x k:Nat} (hk:k≤b.length) (g:gU b a = .ok (x,k)):LI b n a0 (i+1,l++[(x:Int)],k,0):=by
 obtain ⟨h1,h2,h3,h4⟩:=h
 refine ⟨hi,by simp only [bE,cM];simp only at h2;omega,hk,.inl ⟨rfl,?_⟩⟩
 rcases h4 with ⟨_,h4⟩ | ⟨h4,_⟩
 ·simp only at h4 ⊢
  rw [h4,show n - i=(n - (i+1))+1 by omega,Us g]
 ·exact absurd rfl h4
theorem aeQ {b:List UInt8} {n a0 i:Nat} {l:List Int} {a:Nat} (h:LI b n a0 (i,l,a,0)) (hi:i<n) {e:Int} (he:e≠0) (g:gU b a = .error (e,a)):LI b n a0 (i+1,l++[0],a,e):=by
 obtain ⟨h1,h2,h3,h4⟩:=h
 refine ⟨hi,by simp only [bE,cM];simp only at h2;omega,h3,.inr ⟨he,?_⟩⟩
 rcases h4 with ⟨_,h4⟩ | ⟨h4,_⟩
 ·simp only at h4 ⊢
  rw [h4,show n - i=(n - (i+1))+1 by omega,YS g]
 ·exact absurd rfl h4
theorem aeR {b:List UInt8} {n a0 i:Nat} {l:List Int} {a:Nat} {e:Int} (h:LI b n a0 (i,l,a,e)) (he:e≠0) (hi:i<n):LI b n a0 (i+1,l++[0],a,e):=by
 obtain ⟨h1,h2,h3,h4⟩:=h
 refine ⟨hi,by simp only [bE,cM];simp only at h2;omega,h3,.inr ⟨he,?_⟩⟩
 rcases h4 with ⟨h4,_⟩ | ⟨_,h4⟩
 ·exact absurd h4 he
 ·exact h4
theorem QC {b:List UInt8} {n a0:Nat} {l:List Int} {a:Nat} {e:Int} (h:LI b n a0 (n,l,a,e)):(e=0∧gL n b a0 = .ok (l,a))∨(e≠0∧gL n b a0 = .error (e,a)):=by
 obtain ⟨h1,h2,h3,h4⟩:=h
 rcases h4 with ⟨h4,h5⟩ | h4
 ·refine .inl ⟨h4,?_⟩
  simp only at h5
  rw [h5,Nat.sub_self]
  simp only [gL,od,mz]
 ·exact .inr h4
variable {b:List UInt8} {a:Nat} (ha:a≤b.length) (hb:b.length<1000000000)
include ha hb
attribute [local go_sem] ro wo wa wx rx HG dE d_
end
section
open Go Go.Mw
attribute [local go_sem] ro wo wa wx rx HG dE d_
variable {b:List UInt8} {a:Nat} (ha:a≤b.length) (hb:b.length<1000000000)
include ha hb
theorem xH {e:Int} (he:e≠0):RM k8 [] true b a e (.int .i64 0) a e:=by
 refine bF ij ?_
 simp only [go_sem,ij]
 refine ab (pd true b a e ha hb) ?_
 simp only [go_sem,pp he,bU,vy]
 refine ab (aP true b a e) ?_
 simp only [go_sem,vj he]
 exact jG [] _ [(1000,ro true b a e)] ⟨rfl,rfl⟩
end
section
open Go Go.Mw
variable {b:List UInt8} {a:Nat} (ha:a≤b.length) (hb:b.length<1000000000)
include ha hb
attribute [local go_sem] ro wo wa wx rx HG dE d_
end
section
open Go Go.Mw
def wop (op:Int):Rd aZ→Rd aZ
 | .ok (x,k)=>.ok ({ x with op:=op },k)
 | .error e=>.error e
theorem afE {b:List UInt8} {a:Nat} {op:Int} {k:Nat} (h:gO b a = .ok (op,k)):gI b a=wop op (gM (sZ op) b k):=by
 simp only [gI,h,wop]
 cases gM (sZ op) b k<;>rfl
variable {b:List UInt8} {a:Nat} (ha:a≤b.length) (hb:b.length<1000000000)
include ha hb
attribute [local go_sem] ro wo wa wx rx HG dE d_ HB
theorem Za:RX wJ [] b a (gI b a) z0 dJ:=by
 refine bF lh ?_
 simp only [go_sem,lh]
 refine xY (aju ha hb) ⟨by decide,by decide⟩ (fun _=>rfl) (by simp) rfl (fun _=>rfl) (by rfl) ?_
 rintro ⟨op,a1,e1⟩ ⟨h1,h2⟩
 replace h1:a1≤b.length:=h1
 rcases h2 with ⟨op',k,g1,g2⟩ | ⟨e,g1,he,_,g3⟩
 rotate_left
 ·obtain rfl:e1=e:=g3
  simp only [go_sem]
  refine ab (aP true b a1 e1) ?_
  simp only [go_sem,vj he]
  refine bP (Wk.nlm _ 2 (r':=aW z0) rfl (Af ..)) [] (dJ z0) [(1000,ro true b a1 e1)] (by simp only [go_sem,aW]) (by simp only [go_sem]) rfl ⟨(z0,a1,e1),jE.er ?_ he h1,rfl,rfl⟩
  simp only [gI,g1]
 cases g2
 rw [afE g1]
 clear g1
 simp only [go_sem]
 refine aA (aP true b a1 0) ?_
 have hc:=U2 op
 rw [(Hp op).2.2.1] at hc
 have hi:=nR op
 generalize sZ op=i at *
 refine fY hc (by simp [go_sem]) ?_
 rcases (show i=0∨i=1∨i=2∨i=3∨i=4∨i=5∨i=6∨i=7∨i=8∨i=9∨i=10∨i=11∨i=12∨i=13∨i=14∨i=15∨i=16∨i=17∨i=18∨i=19∨i=20 by omega) with rfl | rfl | rfl | rfl | rfl | rfl | rfl | rfl | rfl | rfl | rfl | rfl | rfl | rfl | rfl | rfl | rfl | rfl | rfl | rfl | rfl
 ·simp only [go_sem]
  refine aA (aP true b a1 0) ?_
  refine bP (Wk.nlm _ 2 (r':=aW { z0 with op:=op }) rfl (Af ..)) [] (dJ { z0 with op:=op }) [(1000,ro true b a1 0)] (by simp only [go_sem,aW]) (by simp only [go_sem]) rfl ⟨(_,a1,0),jE.ok ?_ h1,rfl,rfl⟩
  rfl
 ·simp only [go_sem]
  refine xY (MI h1 hb) ⟨by decide,by decide⟩ (fun _=>rfl) (by simp) rfl (fun _=>rfl) (by rfl) ?_
  rintro ⟨⟨k,v,x⟩,a2,e2⟩ ⟨p1,p2⟩
  replace p1:a2≤b.length:=p1
  rcases p2 with ⟨q,k2,q1,q2⟩ | ⟨e,q1,he,q2,q3⟩
  ·cases q2
   simp only [go_sem]
   refine aA (aP true b a2 0) ?_
   refine bP (Wk.nlm _ 2 (r':=aW { z0 with op:=op,k:=k,v:=v,x:=x }) rfl (Af ..)) [] (dJ { z0 with op:=op,k:=k,v:=v,x:=x }) [(1000,ro true b a2 0)] (by simp only [go_sem,aW]) (by simp only [go_sem]) rfl ⟨(_,a2,0),jE.ok ?_ p1,rfl,rfl⟩
   simp only [gM,q1]
   rfl
  ·obtain rfl:e2=e:=q3
   cases q2
   simp only [go_sem]
   refine ab (aP true b a2 e2) ?_
   simp only [go_sem,vj he]
   refine bP (Wk.nlm _ 2 (r':=aW z0) rfl (Af ..)) [] (dJ z0) [(1000,ro true b a2 e2)] (by simp only [go_sem,aW]) (by simp only [go_sem]) rfl ⟨(z0,a2,e2),jE.er ?_ he p1,rfl,rfl⟩
   simp only [gM,q1]
   rfl
 rotate_left
 ·simp only [go_sem]
  refine ab (I5 true b a1 0 64 h1 hb) ?_
  simp only [go_sem,nF]
  refine aw (fun q:Nat×List Int×Nat×Int=>⟨[(5,.int .i64 (((bS true b a1 0 64).1:Int) - q.1)),(3,.mp 3 9 0 0),(2,.mp 2 9 0 0),(0,.mp 1000 4 0 0)],
    [(900,⟨3,1,q.2.1.map mA,false⟩),(3,⟨58,9,[[.int .i64 op,.int .i64 0,.int .i64 0,.int .u64 0,.int .i64 0,.int .i64 0,.int .i64 0,.nl,.ms 900 1 0 q.1]],true⟩),(2,⟨58,9,[[.int .i64 0,.int .i64 0,.int .i64 0,.int .u64 0,.int .i64 0,.int .i64 0,.int .i64 0,.nl,.nl]],true⟩),(1000,ro true b q.2.2.1 q.2.2.2)]⟩)
   (fun q=>q.1≤64∧q.2.1.length=q.1∧q.2.2.1≤b.length∧((∃n k,gC b a1 64 = .ok (n,k)∧(bS true b a1 0 64).1=n∧n≤64∧LI b n k q)∨((bS true b a1 0 64).1=0∧q.1=0∧q.2.2.2≠0∧gC b a1 64 = .error (q.2.2.2,q.2.2.1))))
   (fun q=>64 - q.1) (0,[],(bS true b a1 0 64).2.1,(bS true b a1 0 64).2.2) ?_
   ((Wk.new0 _ 900 1 3 (by decide)).trans ((Wk.nlm _ 3 (t:=58) (st:=9) (r:=[.int .i64 op,.int .i64 0,.int .i64 0,.int .u64 0,.int .i64 0,.int .i64 0,.int .i64 0,.nl,.nl]) (r':=[.int .i64 op,.int .i64 0,.int .i64 0,.int .u64 0,.int .i64 0,.int .i64 0,.int .i64 0,.nl,.ms 900 1 0 0]) (by simp only [go_sem]) ⟨.inl rfl,.inl rfl,.inl rfl,.inl rfl,.inl rfl,.inl rfl,.inl rfl,.inl rfl,.inr ⟨rfl,.inr ⟨900,1,rfl⟩⟩,trivial⟩).trans (Wk.of ?_ ?_))) ?_
  ·rcases yL 64 h1 with ⟨n,k,g1,g2,g3,g4,g5⟩ | ⟨e,he,g1,g2⟩
   ·rw [g2]
    exact ⟨(by decide:0≤64),rfl,g5,.inl ⟨n,k,g1,rfl,by omega,cX _,rfl,g5,.inl ⟨rfl,by rw [YT];rfl⟩⟩⟩
   ·rw [g2]
    exact ⟨(by decide:0≤64),rfl,h1,.inr ⟨rfl,rfl,he,g1⟩⟩
  ·simp only [go_sem];try simp [go_sem]
  ·simp only [go_sem];try simp [go_sem]
  rintro ⟨i,l,a2,e2⟩ ⟨hi2,hl,ha2,hq⟩
  simp only at hi2 hl ha2 hq
  generalize hN:(bS true b a1 0 64).1=N at hq
  by_cases hlt:(N:Int) - (i:Int)>0
  ·have hi3:i<N:=by omega
   have e9:IntKind.i64.wrap ((N:Int) - (i:Int) - 1)=(N:Int) - ((i+1:Nat):Int):=by rw [wi (by omega) (by omega)];omega
   have happ:=fun ys=>cZ 900 3 1 i mA l ys hl
   simp only [go_sem,aO hlt]
   refine WG (fe true b a2 e2 ha2 hb) ⟨by decide,by decide⟩ rfl (by simp [go_sem]) rfl rfl (by rfl) (by exact List.Mem.head _) ?_
   rcases hq with ⟨n,k,q1,q2,q3,q4⟩ | ⟨q2,q3,q4,q5⟩
   rotate_left
   ·omega
   subst q2
   by_cases he1:e2=0
   ·subst he1
    rcases uw ha2 with ⟨x,k1,g1,g2,g3,g4⟩ | ⟨e,he,g1,g2⟩
    ·simp only [go_sem,nF,g2,happ]
     refine ⟨by omega,aG (i+1,l++[(x:Int)],k1,0) ⟨by omega,by simp;omega,g4,.inl ⟨N,k,q1,rfl,q3,aeS q4 hi3 g4 g1⟩⟩ (show 64 - (i+1)<64 - i by omega) (Wk.of ?_ ?_)⟩
     ·simp only [go_sem,e9]
     ·simp only [go_sem]
      try simp [d_]
    ·simp only [go_sem,nF,g2,happ]
     refine ⟨by omega,aG (i+1,l++[0],a2,e) ⟨by omega,by simp;omega,ha2,.inl ⟨N,k,q1,rfl,q3,aeQ q4 hi3 he g1⟩⟩ (show 64 - (i+1)<64 - i by omega) (Wk.of ?_ ?_)⟩
     ·simp only [go_sem,e9]
     ·simp only [go_sem]
      try simp [d_]
   ·simp only [go_sem,pp he1,bU,Co,happ]
    refine ⟨by omega,aG (i+1,l++[0],a2,e2) ⟨by omega,by simp;omega,ha2,.inl ⟨N,k,q1,rfl,q3,aeR q4 he1 hi3⟩⟩ (show 64 - (i+1)<64 - i by omega) (Wk.of ?_ ?_)⟩
    ·simp only [go_sem,e9]
    ·simp only [go_sem]
     try simp [d_]
  ·have hge:N≤i:=by omega
   simp only [go_sem,aQ hlt]
   refine ab (fe true b a2 e2 ha2 hb) ?_
   have nlx:∀x:Int,nlm [.int .i64 op,.int .i64 x,.int .i64 0,.int .u64 0,.int .i64 0,.int .i64 0,.int .i64 0,.nl,.ms 900 1 0 i] [.int .i64 op,.int .i64 x,.int .i64 0,.int .u64 0,.int .i64 0,.int .i64 0,.int .i64 0,.sl 1 [],.ms 900 1 0 i]:=fun x=>nl8 ..
   by_cases he1:e2=0
   ·subst he1
    rcases hq with ⟨n,k,q1,q2,q3,q4⟩ | ⟨_,_,q4,_⟩
    rotate_left
    ·exact absurd rfl q4
    subst q2
    obtain rfl:i=N:=Nat.le_antisymm q4.1 hge
    rcases QC q4 with ⟨_,q5⟩ | ⟨q5,_⟩
    rotate_left
    ·exact absurd rfl q5
    rcases uw ha2 with ⟨x,k1,g1,g2,g3,g4⟩ | ⟨e,he,g1,g2⟩
    ·simp only [go_sem,nF,g2]
     refine aA (aP true b k1 0) ?_
     refine bP (Wk.nlm _ 2 rfl (nlx x)) [900] (dJ { z0 with op:=op,a:=x,lb:=l }) [(1000,ro true b k1 0)] ?_ (by simp only [go_sem]) rfl ⟨(_,k1,0),jE.ok ?_ g4,rfl,rfl⟩
     ·simp only [go_sem,di,hl,bt]
      rw [fL (by rw [di];omega)]
      rfl
     ·simp only [gM,q1,q5,g1]
      rfl
    ·simp only [go_sem,nF,g2]
     refine ab (aP true b a2 e) ?_
     simp only [go_sem,vj he]
     refine bP (Wk.nlm _ 2 (r':=aW z0) rfl (Af ..)) [] (dJ z0) [(1000,ro true b a2 e)] (by simp only [go_sem,aW]) (by simp only [go_sem]) rfl ⟨(z0,a2,e),jE.er ?_ he ha2,rfl,rfl⟩
     simp only [gM,q1,q5,g1]
     rfl
   ·have hE:gM 3 b a1 = .error (e2,a2):=by
     rcases hq with ⟨n,k,q1,q2,q3,q4⟩ | ⟨_,_,_,q4⟩
     ·subst q2
      obtain rfl:i=N:=Nat.le_antisymm q4.1 hge
      rcases QC q4 with ⟨q5,_⟩ | ⟨_,q5⟩
      ·exact absurd q5 he1
      ·simp only [gM,q1,q5]
       rfl
     ·simp only [gM,q4]
      rfl
    simp only [go_sem,pp he1,bU,Co]
    refine ab (aP true b a2 e2) ?_
    simp only [go_sem,vj he1]
    refine bP (Wk.nlm _ 2 (r':=aW z0) rfl (Af ..)) [] (dJ z0) [(1000,ro true b a2 e2)] (by simp only [go_sem,aW]) (by simp only [go_sem]) rfl ⟨(z0,a2,e2),jE.er ?_ he1 ha2,rfl,rfl⟩
    rw [hE]
    rfl
 rotate_left
 rotate_left
 ·simp only [go_sem]
  refine ab (fe true b a1 0 h1 hb) ?_
  rcases uw h1 with ⟨x,k,g1,g2,g3,g4⟩ | ⟨e,he,g1,g2⟩
  ·by_cases hx:x=1
   ·subst hx
    have d:(((1:Nat):Int) != 1)=false:=rfl
    simp only [go_sem,nF,g2,d]
    refine xY (Fe g4 hb) ⟨by decide,by decide⟩ (fun _=>rfl) (by simp) rfl (fun _=>rfl) (by rfl) ?_
    rintro ⟨t,a2,e2⟩ ⟨p1,p2⟩
    replace p1:a2≤b.length:=p1
    rcases p2 with ⟨q,k2,q1,q2⟩ | ⟨e,q1,he,q2,q3⟩
    ·cases q2
     simp only [go_sem]
     refine aA (aP true b a2 0) ?_
     refine bP (Wk.nlm _ 2 rfl (nl7 ..)) [80] (dJ { z0 with op:=op,ty:=[t] }) [(1000,ro true b a2 0)] ?_ (by simp only [go_sem]) rfl ⟨(_,a2,0),jE.ok ?_ p1,rfl,rfl⟩
     ·simp only [go_sem]
      rfl
     ·simp only [gM,g1,q1]
      rfl
    ·obtain rfl:e2=e:=q3
     cases q2
     simp only [go_sem]
     refine ab (aP true b a2 e2) ?_
     simp only [go_sem,vj he]
     refine bP (Wk.nlm _ 2 (r':=aW z0) rfl (Af ..)) [] (dJ z0) [(1000,ro true b a2 e2)] (by simp only [go_sem,aW]) (by simp only [go_sem]) rfl ⟨(z0,a2,e2),jE.er ?_ he p1,rfl,rfl⟩
     simp only [gM,g1,q1]
     rfl
   ·have d:((x:Int) != 1)=true:=by simp;omega
    simp only [go_sem,nF,g2,d]
    refine aA (cj b k 4) ?_
    refine aA (xH g4 hb (show (4:Int)≠0 by decide)) ?_
    refine aA (aP true b k 4) ?_
    refine bP (Wk.nlm _ 2 (r':=aW z0) rfl (Af ..)) [] (dJ z0) [(1000,ro true b k 4)] (by simp only [go_sem,aW]) (by simp only [go_sem]) rfl ⟨(z0,k,4),jE.er ?_ (by decide) g4,rfl,rfl⟩
    simp only [gM,g1,hx]
    rfl
  ·have d:(((0:Nat):Int) != 1)=true:=rfl
   simp only [go_sem,nF,g2,d]
   refine ab (Fd true b a1 e 4) ?_
   simp only [go_sem,pp he,bU]
   refine aA (xH h1 hb he) ?_
   refine ab (aP true b a1 e) ?_
   simp only [go_sem,vj he]
   refine bP (Wk.nlm _ 2 (r':=aW z0) rfl (Af ..)) [] (dJ z0) [(1000,ro true b a1 e)] (by simp only [go_sem,aW]) (by simp only [go_sem]) rfl ⟨(z0,a1,e),jE.er ?_ he h1,rfl,rfl⟩
   simp only [gM,g1]
   rfl
 rotate_left
 rotate_left
 rotate_left
 rotate_left
 rotate_left
 rotate_left
 ·simp only [go_sem]
  refine ab (fe true b a1 0 h1 hb) ?_
  rcases uw h1 with ⟨x,k,g1,g2,g3,g4⟩ | ⟨e,he,g1,g2⟩
  ·simp only [go_sem,nF,g2]
   refine aA (aP true b k 0) ?_
   refine bP (Wk.nlm _ 2 (r':=aW { z0 with op:=op,b:=x }) rfl (Af ..)) [] (dJ { z0 with op:=op,b:=x }) [(1000,ro true b k 0)] (by simp only [go_sem,aW]) (by simp only [go_sem]) rfl ⟨(_,k,0),jE.ok ?_ g4,rfl,rfl⟩
   simp only [gM,g1]
   rfl
  ·simp only [go_sem,nF,g2]
   refine ab (aP true b a1 e) ?_
   simp only [go_sem,vj he]
   refine bP (Wk.nlm _ 2 (r':=aW z0) rfl (Af ..)) [] (dJ z0) [(1000,ro true b a1 e)] (by simp only [go_sem,aW]) (by simp only [go_sem]) rfl ⟨(z0,a1,e),jE.er ?_ he h1,rfl,rfl⟩
   simp only [gM,g1]
   rfl
 rotate_left
 rotate_left
 rotate_left
 ·simp only [go_sem]
  refine WA (MH h1 hb op) ⟨by decide,by decide⟩ ⟨by decide,by decide⟩ (by decide) (fun _=>rfl) rfl rfl (fun _=>rfl) (fun _=>rfl) (by rfl) (by rfl) ?_
  rintro ⟨⟨x,y,z⟩,a2,e2⟩ ⟨p1,p2⟩
  replace p1:a2≤b.length:=p1
  rcases p2 with ⟨q,k2,q1,q2⟩ | ⟨e,q1,he,_,q3⟩
  ·cases q2
   simp only [go_sem]
   refine aA (aP true b a2 0) ?_
   refine bP (Wk.nlm _ 2 (r':=aW { z0 with op:=op,a:=x,b:=y,n:=z }) rfl (Af ..)) [] (dJ { z0 with op:=op,a:=x,b:=y,n:=z }) [(1000,ro true b a2 0)] (by simp only [go_sem,aW]) (by simp only [go_sem]) rfl ⟨(_,a2,0),jE.ok ?_ p1,rfl,rfl⟩
   simp only [gM,q1]
   rfl
  ·obtain rfl:e2=e:=q3
   simp only [go_sem]
   refine ab (aP true b a2 e2) ?_
   simp only [go_sem,vj he]
   refine bP (Wk.nlm _ 2 (r':=aW z0) rfl (Af ..)) [] (dJ z0) [(1000,ro true b a2 e2)] (by simp only [go_sem,aW]) (by simp only [go_sem]) rfl ⟨(z0,a2,e2),jE.er ?_ he p1,rfl,rfl⟩
   simp only [gM,q1]
   rfl
 ·simp only [go_sem]
  refine ab (agU true b a1 0 h1 hb) ?_
  rcases adq 32 h1 with ⟨x,k,g1,g2,g4⟩ | ⟨e,he,g1,g2⟩
  ·simp only [go_sem,nF,g2]
   refine aA (aP true b k 0) ?_
   refine bP (Wk.nlm _ 2 (r':=aW { z0 with op:=op,n:=IntKind.u64.wrap (IntKind.u32.wrap x) }) rfl (Af ..)) [] (dJ { z0 with op:=op,n:=IntKind.u64.wrap (IntKind.u32.wrap x) }) [(1000,ro true b k 0)] (by simp only [go_sem,aW]) (by simp only [go_sem]) rfl ⟨(_,k,0),jE.ok ?_ g4,rfl,rfl⟩
   simp only [gM,g1]
   rfl
  ·simp only [go_sem,nF,g2]
   refine ab (aP true b a1 e) ?_
   simp only [go_sem,vj he]
   refine bP (Wk.nlm _ 2 (r':=aW z0) rfl (Af ..)) [] (dJ z0) [(1000,ro true b a1 e)] (by simp only [go_sem,aW]) (by simp only [go_sem]) rfl ⟨(z0,a1,e),jE.er ?_ he h1,rfl,rfl⟩
   simp only [gM,g1]
   rfl
 ·simp only [go_sem]
  refine ab (agW true b a1 0 h1 hb) ?_
  rcases adq 64 h1 with ⟨x,k,g1,g2,g4⟩ | ⟨e,he,g1,g2⟩
  ·simp only [go_sem,nF,g2]
   refine aA (aP true b k 0) ?_
   refine bP (Wk.nlm _ 2 (r':=aW { z0 with op:=op,n:=IntKind.u64.wrap x }) rfl (Af ..)) [] (dJ { z0 with op:=op,n:=IntKind.u64.wrap x }) [(1000,ro true b k 0)] (by simp only [go_sem,aW]) (by simp only [go_sem]) rfl ⟨(_,k,0),jE.ok ?_ g4,rfl,rfl⟩
   simp only [gM,g1]
   rfl
  ·simp only [go_sem,nF,g2]
   refine ab (aP true b a1 e) ?_
   simp only [go_sem,vj he]
   refine bP (Wk.nlm _ 2 (r':=aW z0) rfl (Af ..)) [] (dJ z0) [(1000,ro true b a1 e)] (by simp only [go_sem,aW]) (by simp only [go_sem]) rfl ⟨(z0,a1,e),jE.er ?_ he h1,rfl,rfl⟩
   simp only [gM,g1]
   rfl
 ·simp only [go_sem]
  refine xY (Fe h1 hb) ⟨by decide,by decide⟩ (fun _=>rfl) (by simp) rfl (fun _=>rfl) (by rfl) ?_
  rintro ⟨t,a2,e2⟩ ⟨p1,p2⟩
  replace p1:a2≤b.length:=p1
  rcases p2 with ⟨q,k2,q1,q2⟩ | ⟨e,q1,he,q2,q3⟩
  ·cases q2
   by_cases ht:t=3∨t=4
   ·rcases ht with rfl | rfl
    ·simp only [go_sem]
     refine aA (aP true b a2 0) ?_
     refine bP (Wk.nlm _ 2 (r':=aW { z0 with op:=op,a:=3 }) rfl (Af ..)) [] (dJ { z0 with op:=op,a:=3 }) [(1000,ro true b a2 0)] (by simp only [go_sem,aW]) (by simp only [go_sem]) rfl ⟨(_,a2,0),jE.ok ?_ p1,rfl,rfl⟩
     simp only [gM,q1]
     rfl
    ·simp only [go_sem]
     refine aA (aP true b a2 0) ?_
     refine bP (Wk.nlm _ 2 (r':=aW { z0 with op:=op,a:=4 }) rfl (Af ..)) [] (dJ { z0 with op:=op,a:=4 }) [(1000,ro true b a2 0)] (by simp only [go_sem,aW]) (by simp only [go_sem]) rfl ⟨(_,a2,0),jE.ok ?_ p1,rfl,rfl⟩
     simp only [gM,q1]
     rfl
   ·have d3:(t != 3)=true:=by simp;omega
    have d4:(t != 4)=true:=by simp;omega
    simp only [go_sem,d3,d4]
    refine aA (cj b a2 12) ?_
    refine aA (aP true b a2 12) ?_
    refine bP (Wk.nlm _ 2 (r':=aW z0) rfl (Af ..)) [] (dJ z0) [(1000,ro true b a2 12)] (by simp only [go_sem,aW]) (by simp only [go_sem]) rfl ⟨(z0,a2,12),jE.er ?_ (by decide) p1,rfl,rfl⟩
    simp only [gM,q1,ah ht]
    rfl
  ·obtain rfl:e2=e:=q3
   obtain rfl:t=0:=q2
   simp only [go_sem]
   refine ab (Fd true b a2 e2 12) ?_
   simp only [go_sem,pp he,bU]
   refine ab (aP true b a2 e2) ?_
   simp only [go_sem,vj he]
   refine bP (Wk.nlm _ 2 (r':=aW z0) rfl (Af ..)) [] (dJ z0) [(1000,ro true b a2 e2)] (by simp only [go_sem,aW]) (by simp only [go_sem]) rfl ⟨(z0,a2,e2),jE.er ?_ he p1,rfl,rfl⟩
   simp only [gM,q1]
   rfl
 all_goals
  first
  | skip
    simp only [go_sem]
    refine ab (fe true b a1 0 h1 hb) ?_
    rcases uw h1 with ⟨x,k,g1,g2,g3,g4⟩ | ⟨e,he,g1,g2⟩
    ·simp only [go_sem,nF,g2]
     refine aA (aP true b k 0) ?_
     refine bP (Wk.nlm _ 2 (r':=aW { z0 with op:=op,a:=x }) rfl (Af ..)) [] (dJ { z0 with op:=op,a:=x }) [(1000,ro true b k 0)] (by simp only [go_sem,aW]) (by simp only [go_sem]) rfl ⟨(_,k,0),jE.ok ?_ g4,rfl,rfl⟩
     simp only [gM,g1]
     rfl
    ·simp only [go_sem,nF,g2]
     refine ab (aP true b a1 e) ?_
     simp only [go_sem,vj he]
     refine bP (Wk.nlm _ 2 (r':=aW z0) rfl (Af ..)) [] (dJ z0) [(1000,ro true b a1 e)] (by simp only [go_sem,aW]) (by simp only [go_sem]) rfl ⟨(z0,a1,e),jE.er ?_ he h1,rfl,rfl⟩
     simp only [gM,g1]
     rfl
  | skip
    simp only [go_sem]
    refine ab (fe true b a1 0 h1 hb) ?_
    rcases uw h1 with ⟨x,k,g1,g2,g3,g4⟩ | ⟨e,he,g1,g2⟩
    ·simp only [go_sem,nF,g2]
     refine ab (fe true b k 0 g4 hb) ?_
     rcases uw g4 with ⟨y,k1,p1,p2,p3,p4⟩ | ⟨e,he,p1,p2⟩
     ·simp only [go_sem,nF,p2]
      refine aA (aP true b k1 0) ?_
      refine bP (Wk.nlm _ 2 (r':=aW { z0 with op:=op,a:=x,b:=y }) rfl (Af ..)) [] (dJ { z0 with op:=op,a:=x,b:=y }) [(1000,ro true b k1 0)] (by simp only [go_sem,aW]) (by simp only [go_sem]) rfl ⟨(_,k1,0),jE.ok ?_ p4,rfl,rfl⟩
      simp only [gM,g1,p1]
      rfl
     ·simp only [go_sem,nF,p2]
      refine ab (aP true b k e) ?_
      simp only [go_sem,vj he]
      refine bP (Wk.nlm _ 2 (r':=aW z0) rfl (Af ..)) [] (dJ z0) [(1000,ro true b k e)] (by simp only [go_sem,aW]) (by simp only [go_sem]) rfl ⟨(z0,k,e),jE.er ?_ he g4,rfl,rfl⟩
      simp only [gM,g1,p1]
      rfl
    ·simp only [go_sem,nF,g2]
     refine ab (fe true b a1 e h1 hb) ?_
     simp only [go_sem,pp he,bU,Co]
     refine ab (aP true b a1 e) ?_
     simp only [go_sem,vj he]
     refine bP (Wk.nlm _ 2 (r':=aW z0) rfl (Af ..)) [] (dJ z0) [(1000,ro true b a1 e)] (by simp only [go_sem,aW]) (by simp only [go_sem]) rfl ⟨(z0,a1,e),jE.er ?_ he h1,rfl,rfl⟩
     simp only [gM,g1]
     rfl
end
open Go Go.Mw
theorem H1 {b:List UInt8} {a k:Nat} {x:UInt8} (h:gB b a = .ok (x,k)):k=a+1∧k≤b.length:=by
 unfold gB at h
 split at h
 ·cases h;exact ⟨rfl,by omega⟩
 ·cases h
theorem kY {b:List UInt8} {a k n:Nat} (ha:a≤b.length) (h:gU b a = .ok (n,k)):a≤k∧k≤b.length∧n<4294967296:=by
 have h1:=Dq (b.drop a) 32 (by decide)
 have h2:=HP (b.drop a) 32
 simp only [iE] at h2
 unfold gU at h
 split at h
 ·cases h;exact ⟨by omega,by omega,h1⟩
 ·cases h
theorem LW {bits:Nat} {b:List UInt8} {a k:Nat} {n:Int} (ha:a≤b.length) (h:gS bits b a = .ok (n,k)):a≤k∧k≤b.length:=by
 have h2:=HO (b.drop a) bits
 simp only [iE] at h2
 unfold gS at h
 split at h
 ·cases h;exact ⟨by omega,by omega⟩
 ·cases h
theorem Sl {b:List UInt8} {a k:Nat} {t:Int} (h:gV b a = .ok (t,k)):a≤k∧k≤b.length:=by
 unfold gV at h
 split at h
 ·rename_i x k' h1
  have:=H1 h1
  split at h
  ·cases h;omega
  ·cases h
 ·cases h
theorem abM {b:List UInt8} {a k n:Nat} {most:Int} (ha:a≤b.length) (h:gC b a most = .ok (n,k)):a≤k∧k≤b.length∧(n:Int)≤most:=by
 unfold gC at h
 split at h
 ·rename_i x k' h1
  have:=kY ha h1
  split at h
  ·cases h
  ·cases h;omega
 ·cases h
theorem Sg:∀(n:Nat) {b:List UInt8} {a k:Nat} {l:List Int},a≤b.length→gL n b a = .ok (l,k)→a≤k∧k≤b.length∧l.length=n
 | 0,b,a,k,l,ha,h=>by cases h;exact ⟨bt _,ha,rfl⟩
 | n+1,b,a,k,l,ha,h=>by
  unfold gL at h
  split at h
  ·rename_i x k1 h1
   have:=kY ha h1
   split at h
   ·rename_i l2 k2 h2
    have:=Sg n this.2.1 h2
    cases h
    exact ⟨by omega,by omega,by simp;omega⟩
   ·cases h
  ·cases h
theorem abQ {b:List UInt8} {a k:Nat} {q:Int×Int×Int} (ha:a≤b.length) (h:gK b a = .ok (q,k)):a≤k∧k≤b.length:=by
 unfold gK at h
 split at h
 ·rename_i n k' h1
  have:=LW ha h1
  split at h
  ·cases h;exact this
  split at h
  ·cases h;exact this
  split at h
  ·cases h;exact this
  ·cases h
 ·cases h
theorem abL {b:List UInt8} {a k:Nat} {q:Int×Int×Int} (ha:a≤b.length) (h:gA b a = .ok (q,k)):a≤k∧k≤b.length:=by
 unfold gA at h
 split at h
 ·rename_i n k' h1
  have q1:=kY ha h1
  split at h
  ·cases h
  split at h
  ·split at h
   ·rename_i y k1 h2
    have q2:=kY q1.2.1 h2
    split at h
    ·rename_i z k2 h3
     have q3:=kY q2.2.1 h3
     cases h;omega
    ·cases h
   ·cases h
  ·split at h
   ·rename_i z k2 h3
    have q3:=kY q1.2.1 h3
    cases h;omega
   ·cases h
 ·cases h
theorem abS {i:Int} {b:List UInt8} {a k:Nat} {x:aZ} (ha:a≤b.length) (h:gM i b a = .ok (x,k)):a≤k∧k≤b.length:=by
 unfold gM at h
 by_cases c1:i=1
 ·rw [ap c1] at h
  split at h
  ·rename_i h1
   have:=abQ ha h1
   cases h;exact this
  ·cases h
 rw [ah c1] at h
 by_cases c2:i=3
 ·rw [ap c2] at h
  split at h
  ·rename_i h1
   have q1:=abM ha h1
   split at h
   ·rename_i h2
    have q2:=Sg _ q1.2.1 h2
    split at h
    ·rename_i h3
     have q3:=kY q2.2.1 h3
     cases h;omega
    ·cases h
   ·cases h
  ·cases h
 rw [ah c2] at h
 by_cases c3:i=5∨i=10∨i=11∨i=14∨i=15
 ·rw [ap c3] at h
  split at h
  ·rename_i h1
   have q1:=kY ha h1
   split at h
   ·rename_i h2
    have q2:=kY q1.2.1 h2
    cases h;omega
   ·cases h
  ·cases h
 rw [ah c3] at h
 by_cases c4:i=6
 ·rw [ap c4] at h
  split at h
  ·rename_i h1
   have q1:=kY ha h1
   split at h
   ·split at h
    ·rename_i h2
     have q2:=Sl h2
     cases h;omega
    ·cases h
   ·cases h
  ·cases h
 rw [ah c4] at h
 by_cases c5:i=13
 ·rw [ap c5] at h
  split at h
  ·rename_i h1
   have q1:=kY ha h1
   cases h;omega
  ·cases h
 rw [ah c5] at h
 by_cases c6:i=17
 ·rw [ap c6] at h
  split at h
  ·rename_i h1
   have:=abL ha h1
   cases h;exact this
  ·cases h
 rw [ah c6] at h
 by_cases c7:i=18
 ·rw [ap c7] at h
  split at h
  ·rename_i h1
   have:=LW ha h1
   cases h;exact this
  ·cases h
 rw [ah c7] at h
 by_cases c8:i=19
 ·rw [ap c8] at h
  split at h
  ·rename_i h1
   have:=LW ha h1
   cases h;exact this
  ·cases h
 rw [ah c8] at h
 by_cases c9:i=20
 ·rw [ap c9] at h
  split at h
  ·rename_i h1
   have:=Sl h1
   split at h
   ·cases h;exact this
   ·cases h
  ·cases h
 rw [ah c9] at h
 by_cases c10:i=0
 ·rw [ap c10] at h
  cases h;exact ⟨bt _,ha⟩
 ·rw [ah c10] at h
  split at h
  ·rename_i h1
   have q1:=kY ha h1
   cases h;omega
  ·cases h
theorem Sj {b:List UInt8} {a k:Nat} {op:Int} (h:gO b a = .ok (op,k)):a<k∧k≤b.length∧yM op=true:=by
 unfold gO at h
 split at h
 ·rename_i x k' h1
  have q1:=H1 h1
  split at h
  ·split at h
   ·rename_i n k2 h2
    have q2:=kY q1.2 h2
    split at h
    ·rename_i h3
     cases h;exact ⟨by omega,by omega,h3⟩
    ·cases h
   ·cases h
  ·split at h
   ·rename_i h3
    cases h;exact ⟨by omega,by omega,h3⟩
   ·cases h
 ·cases h
theorem Sf {b:List UInt8} {a k:Nat} {x:aZ} (h:gI b a = .ok (x,k)):a<k∧k≤b.length:=by
 unfold gI at h
 split at h
 ·rename_i op k1 h1
  have q1:=Sj h1
  split at h
  ·rename_i h2
   have q2:=abS q1.2.1 h2
   cases h;omega
  ·cases h
 ·cases h
def YR (l:List aZ):Rd (List aZ)→Rd (List aZ)
 | .ok (l2,k)=>.ok (l++l2,k)
 | .error e=>.error e
theorem Up (r:Rd (List aZ)):YR [] r=r:=by cases r<;>rfl
def sy (op:Int) (d:Nat):Nat:=if op=2∨op=3∨op=4 then d+1 else if op=11 then d - 1 else d
def EI (b:List UInt8) (F a0:Nat) (most:Int) (l:List aZ) (a d:Nat):Prop :=
 a≤b.length∧l.length+a0≤a∧d≤l.length+1∧((1≤d∧b.length<F+a - l.length∧l.length<F∧gE F 1 b a0 most=YR l (gE (F - l.length) d b a (most - l.length)))∨(d=0∧gE F 1 b a0 most = .ok (l,a)))
theorem ahS {b:List UInt8} {F a0:Nat} {most:Int} (h:a0≤b.length) (hF:b.length<F):EI b F a0 most [] a0 1 :=
 ⟨h,by simp,by simp,.inl ⟨bt _,by simp;omega,by simp;omega,by simp [Up]⟩⟩
theorem VV {b:List UInt8} {F a0:Nat} {most:Int} {l:List aZ} {a d:Nat} (h:EI b F a0 most l a d) (hd:1≤d) (hm:(l.length:Int)≥most):gE F 1 b a0 most = .error (6,a):=by
 obtain ⟨h1,h2,h3,⟨_,h4,h5,h6⟩ | ⟨h4,_⟩⟩:=h
 ·rw [h6,show F - l.length=(F - l.length - 1)+1 by omega,gE,ap (by omega)]
  rfl
 ·omega
theorem aaR {b:List UInt8} {F a0:Nat} {most:Int} {l:List aZ} {a d:Nat} (h:EI b F a0 most l a d) (hd:1≤d) (hm:¬(l.length:Int)≥most) {e:Int×Nat} (g:gI b a = .error e):gE F 1 b a0 most = .error e:=by
 obtain ⟨h1,h2,h3,⟨_,h4,h5,h6⟩ | ⟨h4,_⟩⟩:=h
 ·rw [h6,show F - l.length=(F - l.length - 1)+1 by omega,gE,ah (by omega),g]
  rfl
 ·omega
theorem aeM {b:List UInt8} {F a0:Nat} {most:Int} {l:List aZ} {a d:Nat} (h:EI b F a0 most l a d) (hd:1≤d) (hm:¬(l.length:Int)≥most) {x:aZ} {k:Nat} (g:gI b a = .ok (x,k)):EI b F a0 most (l++[x]) k (sy x.op d):=by
 have hk:=Sf g
 obtain ⟨h1,h2,h3,⟨_,h4,h5,h6⟩ | ⟨h4,_⟩⟩:=h
 ·have hl:(l++[x]).length=l.length+1:=by simp
  refine ⟨hk.2,by omega,?_,?_⟩
  ·rw [hl];unfold sy;repeat' split
   all_goals omega
  rw [hl]
  rw [show F - l.length=(F - l.length - 1)+1 by omega,gE,ah (by omega),g] at h6
  simp only at h6
  by_cases hx:x.op=11∧d=1
  ·rw [ap hx] at h6
   refine .inr ⟨?_,by rw [h6];rfl⟩
   unfold sy
   rw [ah (by omega),ap hx.1]
   omega
  ·rw [ah hx] at h6
   refine .inl ⟨?_,by omega,by omega,?_⟩
   ·unfold sy
    split
    ·omega
    ·split
     ·omega
     ·omega
   ·rw [h6,show F - (l.length+1)=F - l.length - 1 by omega,show most - ((l.length+1:Nat):Int)=most - l.length - 1 by omega]
    show YR l (match gE (F - l.length - 1) (sy x.op d) b k (most - ↑l.length - 1) with | .ok (l,k')=>.ok (x :: l,k') | .error e=>.error e)=_
    cases gE (F - l.length - 1) (sy x.op d) b k (most - ↑l.length - 1) with
    | ok p=>obtain ⟨l2,k2⟩:=p;simp [YR]
    | error e=>rfl
 ·omega
theorem aaQ {b:List UInt8} {F a0:Nat} {most:Int} {l:List aZ} {a:Nat} (h:EI b F a0 most l a 0):gE F 1 b a0 most = .ok (l,a):=by
 obtain ⟨h1,h2,h3,⟨h4,_⟩ | ⟨_,h4⟩⟩:=h
 ·omega
 ·exact h4
end Go.Proofs.YtdfofedlbljnhaaGreatDoor