import Derived.Test.YtdfofedlbljnhaaGreatDoorQm
set_option linter.all false
set_option maxRecDepth 100000
set_option maxHeartbeats 40000000
namespace Go.Proofs.YtdfofedlbljnhaaGreatDoor
section
open Go Go.Mw
theorem Ug (o:Int):((o==2)=true∨((o==2)=false∧((o==3)=true∨((o==3)=false∧((o==4)=true∨((o==4)=false∧((o==11)=true∨(o==11)=false))))))):=by
 cases o==2<;>cases o==3<;>cases o==4<;>cases o==11<;>simp
variable {b:List UInt8} {a:Nat} (ha:a≤b.length) (hb:b.length<1000000000)
include ha hb
attribute [local go_sem] ro wo wa wx rx HG d_ HB
theorem adE {e:Int} (he:e≠0):RM yo [] true b a e (.int .i64 0) a e:=by
 refine bF nL ?_
 simp only [go_sem,nL]
 refine ab (pd true b a e ha hb) ?_
 simp only [go_sem,pp he,bU,vy,to0,wr0]
 refine ab (aP true b a e) ?_
 simp only [go_sem,pp he]
 exact jG [] _ [(1000,ro true b a e)] ⟨rfl,rfl⟩
theorem Oj {e:Int} (he:e≠0):RM wJ [] true b a e (dJ z0) a e:=by
 refine bF lh ?_
 simp only [go_sem,lh]
 refine aA (adE ha hb he) ?_
 refine ab (aP true b a e) ?_
 simp only [go_sem,vj he]
 exact bP (Wk.nlm _ 2 (r':=aW z0) rfl (Af ..)) [] (dJ z0) [(1000,ro true b a e)] (by simp only [go_sem,aW];rfl) (by simp only [go_sem]) rfl ⟨rfl,rfl⟩
def exs (l:List aZ):AV:=.sl 9 (l.map aW)
theorem Qa (most:Int) (hm:NF most):RX j_ [.int .i64 most] b a (gE (b.length+1) 1 b a most) [] exs:=by
 refine bF gn ?_
 simp only [go_sem,gn]
 refine aw (fun q:List aZ×Nat×Nat=>⟨[(6,.int .i64 q.2.2),(5,.ms 900 9 0 q.1.length),(4,.nl),(1,.int .i64 most),(0,.mp 1000 4 0 0)],[(900,⟨58,9,q.1.map aW,false⟩),(1000,ro true b q.2.1 0)]⟩)
  (fun q=>EI b (b.length+1) a most q.1 q.2.1 q.2.2) (fun q=>b.length - q.2.1) ([],a,1) (ahS ha (Nat.lt_succ_self _)) ((Wk.nil _ 5 900 9 58 (by simp only [go_sem]) (.inl (by decide))).trans (Wk.of ?_ ?_)) ?_
 ·simp only [go_sem,St.mknil];try simp [go_sem]
 ·simp only [go_sem,St.mknil];try simp [go_sem]
 rintro ⟨l,a1,d⟩ hE
 replace hE:EI b (b.length+1) a most l a1 d:=hE
 have ha1:a1≤b.length:=hE.1
 have hl1:l.length+a≤a1:=hE.2.1
 have hd1:d≤l.length+1:=hE.2.2.1
 by_cases hd:(d:Int)>0
 ·have hd':1≤d:=by omega
  by_cases hmo:(l.length:Int)≥most
  ·simp only [go_sem,aO hd,aO hmo]
   refine aA (cj b a1 6) ?_
   refine aA (Oj ha1 hb (show (6:Int)≠0 by decide)) ?_
   refine aA (aP true b a1 6) ?_
   refine bP (Wk.nil _ 4 901 9 58 (by simp only [go_sem]) (.inl (by decide))) [901] (exs []) [(1000,ro true b a1 6)] ?_ ?_ rfl ⟨([],a1,6),jE.er (VV hE hd' hmo) (by decide) ha1,rfl,rfl⟩
   ·simp only [go_sem,St.mknil]
    rfl
   ·simp only [go_sem,St.mknil]
  ·simp only [go_sem,aO hd,aQ hmo]
   refine xY (Za ha1 hb) ⟨by decide,by decide⟩ (fun _=>rfl) (by simp) rfl (fun _=>rfl) (by rfl) ?_
   rintro ⟨x,a2,e2⟩ ⟨p1,p2⟩
   replace p1:a2≤b.length:=p1
   rcases p2 with ⟨x',k2,q1,q2⟩ | ⟨e,q1,he,q2,q3⟩
   ·cases q2
    have hE2:=aeM hE hd' hmo q1
    have hadv:=Sf q1
    have happ:=fun ys=>cZ 900 58 9 l.length aW l ys rfl
    simp only [go_sem,dE]
    refine ab (aP true b a2 0) ?_
    have hw1:IntKind.i64.wrap ((d:Int)+1)=((d+1:Nat):Int):=by rw [wi (by omega) (by omega)];omega
    have hw2:IntKind.i64.wrap ((d:Int) - 1)=((d - 1:Nat):Int):=by rw [wi (by omega) (by omega)];omega
    have hda:sy x.op d=if x.op=2∨x.op=3∨x.op=4 then d+1 else if x.op=11 then d - 1 else d:=rfl
    rcases Ug x.op with h2 | ⟨h2,h3 | ⟨h3,h4 | ⟨h4,h5 | h5⟩⟩⟩
    ·rw [show sy x.op d=d+1 by rw [hda,ap (.inl (eq_of_beq h2))]] at hE2
     simp only [go_sem,h2,happ,hw1]
     refine ⟨by omega,aG (l++[x],a2,d+1) hE2 (show b.length - a2<b.length - a1 by omega) (Wk.of ?_ ?_)⟩
     ·simp only [go_sem]
      try simp
     ·simp only [go_sem]
      try simp [aW,d_]
    ·rw [show sy x.op d=d+1 by rw [hda,ap (.inr (.inl (eq_of_beq h3)))]] at hE2
     simp only [go_sem,h2,h3,happ,hw1]
     refine ⟨by omega,aG (l++[x],a2,d+1) hE2 (show b.length - a2<b.length - a1 by omega) (Wk.of ?_ ?_)⟩
     ·simp only [go_sem]
      try simp
     ·simp only [go_sem]
      try simp [aW,d_]
    ·rw [show sy x.op d=d+1 by rw [hda,ap (.inr (.inr (eq_of_beq h4)))]] at hE2
     simp only [go_sem,h2,h3,h4,happ,hw1]
     refine ⟨by omega,aG (l++[x],a2,d+1) hE2 (show b.length - a2<b.length - a1 by omega) (Wk.of ?_ ?_)⟩
     ·simp only [go_sem]
      try simp
     ·simp only [go_sem]
      try simp [aW,d_]
    ·rw [show sy x.op d=d - 1 by rw [hda,ah (by have:=ne_of_beq_false h2;have:=ne_of_beq_false h3;have:=ne_of_beq_false h4;omega),ap (eq_of_beq h5)]] at hE2
     simp only [go_sem,h2,h3,h4,h5,happ,hw2]
     refine ⟨by omega,aG (l++[x],a2,d - 1) hE2 (show b.length - a2<b.length - a1 by omega) (Wk.of ?_ ?_)⟩
     ·simp only [go_sem]
      try simp
     ·simp only [go_sem]
      try simp [aW,d_]
    ·rw [show sy x.op d=d by rw [hda,ah (by have:=ne_of_beq_false h2;have:=ne_of_beq_false h3;have:=ne_of_beq_false h4;omega),ah (ne_of_beq_false h5)]] at hE2
     simp only [go_sem,h2,h3,h4,h5,happ]
     refine ⟨by omega,aG (l++[x],a2,d) hE2 (show b.length - a2<b.length - a1 by omega) (Wk.of ?_ ?_)⟩
     ·simp only [go_sem]
      try simp
     ·simp only [go_sem]
      try simp [aW,d_]
   ·obtain rfl:e2=e:=q3
    simp only [go_sem]
    refine ab (aP true b a2 e2) ?_
    simp only [go_sem,vj he]
    refine bP (Wk.nil _ 4 901 9 58 (by simp only [go_sem]) (.inl (by decide))) [901] (exs []) [(1000,ro true b a2 e2)] ?_ ?_ rfl ⟨([],a2,e2),jE.er (aaR hE hd' hmo q1) he p1,rfl,rfl⟩
    ·simp only [go_sem,St.mknil]
     rfl
    ·simp only [go_sem,St.mknil]
 ·obtain rfl:d=0:=by omega
  simp only [go_sem,aQ hd]
  refine done [900] (exs l) [(1000,ro true b a1 0)] ?_ (by simp only [go_sem]) rfl ⟨(l,a1,0),jE.ok (aaQ hE) ha1,rfl,rfl⟩
  simp only [go_sem,di,bt]
  rw [fL (by rw [di];omega)]
  rfl
end
open Go Go.Mw
def JR (l:List UInt8):Prop:=0<l.length∧(∀i,i+1<l.length→128≤(ac l i).toNat)∧(ac l (l.length - 1)).toNat<128
theorem DY {x:UInt8} (h:x.toNat<128):JR [x]:=⟨by simp,fun i hi=>absurd hi (by simp),h⟩
theorem GI {x:UInt8} {l:List UInt8} (hx:128≤x.toNat) (h:JR l):JR (x :: l):=by
 obtain ⟨h1,h2,h3⟩:=h
 refine ⟨by simp,fun i hi=>?_,?_⟩
 ·cases i with
  | zero=>exact hx
  | succ i=>rw [yA];exact h2 i (by simpa using hi)
 ·rw [eA,Nat.add_sub_cancel,show l.length=(l.length - 1)+1 by omega,yA]
  exact h3
theorem Hi (n:Nat):JR (aq n):=by
 induction n using Nat.strongRecOn with
 | _ n ih =>
  by_cases h:n<128
  ·rw [rY h];exact DY (by rw [ofNat_toNat (by omega)];exact h)
  ·rw [vx h]
   exact GI (by rw [ofNat_toNat (by omega)];omega) (ih (n / 128) (by omega))
theorem Gc:∀(k:Nat) (n:Int),n.natAbs≤k→JR (br n):=by
 intro k
 induction k with
 | zero=>intro n h;rw [ku (by omega)];exact DY (by rw [ofNat_toNat (by omega)];omega)
 | succ k ih =>
  intro n h
  by_cases h1:-64≤n∧n≤63
  ·rw [ku h1];exact DY (by rw [ofNat_toNat (by omega)];omega)
  ·rw [vw h1]
   exact GI (by rw [ofNat_toNat (by omega)];omega) (ih (n / 128) (by omega))
theorem Hh (n:Int):JR (br n):=Gc _ n (bt _)
theorem Ke {l r:List UInt8} (h:JR l):∀(d i f:Nat),i+d+1=l.length→d<f→z6 (l++r) f i=(0,l.length - 1)
 | 0,i,f,hi,hf=>by
  obtain ⟨g,rfl⟩:∃g,f=g+1:=⟨f - 1,by omega⟩
  have hl:i=l.length - 1:=by omega
  have hn:ac (l++r) i=ac l i:=k9 (by omega)
  have:=h.2.2
  rw [z6,ah (by simp;omega),hn,hl,ah (by omega)]
 | d+1,i,f,hi,hf=>by
  obtain ⟨g,rfl⟩:∃g,f=g+1:=⟨f - 1,by omega⟩
  have hn:ac (l++r) i=ac l i:=k9 (by omega)
  have:=h.2.1 i (by omega)
  rw [z6,ah (by simp;omega),hn,ap this]
  exact Ke h d (i+1) g (by omega) (by omega)
theorem NS {l r:List UInt8} {bits:Nat} (h:JR l) (hl:l.length≤mst bits):jO (l++r) bits=0∧bZ (l++r) bits=l.length - 1:=by
 have:=Ke (r:=r) h (l.length - 1) 0 (mst bits) (by have:=h.1;omega) (by have:=h.1;omega)
 exact ⟨by rw [jO,this],by rw [bZ,this]⟩
theorem Qi (n:Nat):dL (aq n)=n:=by
 induction n using Nat.strongRecOn with
 | _ n ih =>
  by_cases h:n<128
  ·rw [rY h]
   simp only [dL,ofNat_toNat (show n<256 by omega)]
   omega
  ·rw [vx h]
   simp only [dL,ofNat_toNat (show n % 128+128<256 by omega),ih (n / 128) (by omega)]
   omega
theorem PH (n:Nat):(ac (aq n) ((aq n).length - 1)).toNat=n / 128 ^ ((aq n).length - 1):=by
 induction n using Nat.strongRecOn with
 | _ n ih =>
  by_cases h:n<128
  ·rw [rY h]
   simp [ac,ofNat_toNat (show n<256 by omega)]
  ·rw [vx h]
   have hp:=kw (n / 128)
   rw [eA,Nat.add_sub_cancel,show (aq (n / 128)).length=((aq (n / 128)).length - 1)+1 by omega,yA,ih (n / 128) (by omega),Nat.pow_succ,Nat.mul_comm,← Nat.div_div_eq_div_mul]
theorem Fq (i:Nat):128 ^ i=2 ^ (7 * i):=by rw [show (128:Nat)=2 ^ 7 from rfl,← Nat.pow_mul]
theorem UA {n bits:Nat} (hb:1≤bits) (hn:n<2 ^ bits):(aq n).length≤mst bits:=by
 obtain ⟨k,hk⟩:∃k,mst bits=k+1:=⟨mst bits - 1,by unfold mst;omega⟩
 rw [hk]
 refine kv (k:=k) (Nat.lt_of_lt_of_le hn ?_)
 rw [Fq]
 exact Nat.pow_le_pow_right (by decide) (by unfold mst at hk;omega)
theorem GC {n bits:Nat} (r:List UInt8) (hb:1≤bits∧bits≤64) (hn:n<2 ^ bits):dZ (aq n++r) bits=(n,(aq n).length,0):=by
 have hl:=UA hb.1 hn
 have hp:=kw n
 obtain ⟨h1,h2⟩:=NS (r:=r) (Hi n) hl
 have h64:n<18446744073709551616:=Nat.lt_of_lt_of_le hn (Nat.pow_le_pow_right (by decide) hb.2:2 ^ bits≤2 ^ 64)
 have h3:(ac (aq n++r) ((aq n).length - 1)).toNat / 2 ^ vi bits ((aq n).length - 1)=0:=by
  rw [k9 (by omega)]
  unfold vi
  split
  ·rename_i hq
   rw [PH,Fq,Nat.div_div_eq_div_mul,← Nat.pow_add,show 7 * ((aq n).length - 1)+(bits - 7 * ((aq n).length - 1))=bits by unfold mst at hq;omega]
   exact Nat.div_eq_of_lt hn
  ·exact Nat.div_eq_of_lt (Hi n).2.2
 rw [dZ,ah (by rw [h1];simp),h2,ah (by rw [h3];simp)]
 rw [show (aq n).length - 1+1=(aq n).length by omega,List.take_left,Qi,Nat.mod_eq_of_lt h64]
theorem E3 (n:Int):0<(br n).length:=(Hh n).1
theorem P6:∀(k:Nat) (n:Int),n.natAbs≤k→((dL (br n):Int) - (if 64≤(ac (br n) ((br n).length - 1)).toNat % 128 then 128 ^ (br n).length else 0)=n) ∧
  (ac (br n) ((br n).length - 1)).toNat=((n / 128 ^ ((br n).length - 1)) % 128).toNat∧-64≤n / 128 ^ ((br n).length - 1)∧n / 128 ^ ((br n).length - 1)≤63:=by
 have base:∀n:Int,-64≤n∧n≤63→((dL (br n):Int) - (if 64≤(ac (br n) ((br n).length - 1)).toNat % 128 then 128 ^ (br n).length else 0)=n) ∧
  (ac (br n) ((br n).length - 1)).toNat=((n / 128 ^ ((br n).length - 1)) % 128).toNat∧-64≤n / 128 ^ ((br n).length - 1)∧n / 128 ^ ((br n).length - 1)≤63:=fun n h=>by
  have e:(UInt8.ofNat (n % 128).toNat).toNat=(n % 128).toNat:=ofNat_toNat (by omega)
  have n0:ac [UInt8.ofNat (n % 128).toNat] 0=UInt8.ofNat (n % 128).toNat:=rfl
  rw [ku h]
  simp only [cM,Nat.sub_self,Int.pow_zero,Int.ediv_one,n0,e,dL,Nat.mul_zero,Nat.add_zero,Int.pow_one]
  refine ⟨?_,trivial,h.1,h.2⟩
  split<;>omega
 intro k
 induction k with
 | zero=>intro n h;exact base n (by omega)
 | succ k ih =>
  intro n h
  by_cases h1:-64≤n∧n≤63
  ·exact base n h1
  ·obtain ⟨i1,i2,i3,i4⟩:=ih (n / 128) (by omega)
   have e:(UInt8.ofNat ((n % 128).toNat+128)).toNat=(n % 128).toNat+128:=ofNat_toNat (by omega)
   have hp:=E3 (n / 128)
   have hlen:(br n).length=(br (n / 128)).length+1:=by rw [vw h1];rfl
   have hlast:ac (br n) ((br n).length - 1)=ac (br (n / 128)) ((br (n / 128)).length - 1):=by
    rw [hlen,Nat.add_sub_cancel,vw h1]
    rw [show (br (n / 128)).length=((br (n / 128)).length - 1)+1 by omega,yA]
    rfl
   have hdiv:n / 128 ^ ((br n).length - 1)=n / 128 / 128 ^ ((br (n / 128)).length - 1):=by
    rw [hlen,Nat.add_sub_cancel,show (128:Int) ^ (br (n / 128)).length=128 * 128 ^ ((br (n / 128)).length - 1) by
     rw [show (br (n / 128)).length=((br (n / 128)).length - 1)+1 by omega,Int.pow_succ,Nat.add_sub_cancel,Int.mul_comm],Int.ediv_ediv,ah (fun h=>absurd h.1 (by decide)),Int.sub_zero]
   rw [hlast,hdiv]
   refine ⟨?_,i2,i3,i4⟩
   have hv:(dL (br n):Int)=n % 128+128 * dL (br (n / 128)):=by
    rw [vw h1]
    simp only [dL,e]
    omega
   rw [hv,hlen,Int.pow_succ]
   generalize (128:Int) ^ (br (n / 128)).length=p at *
   split
   ·rename_i h2
    rw [ap h2] at i1
    omega
   ·rename_i h2
    rw [ah h2] at i1
    omega
theorem E1 (k:Nat):(128:Int) ^ k=((2 ^ (7 * k):Nat):Int):=by
 rw [← Fq,Int.natCast_pow]
 rfl
theorem Uy {n:Int} {bits:Nat} (hb:1≤bits) (h1:-(2 ^ (bits - 1):Int)≤n) (h2:n<2 ^ (bits - 1)):(br n).length≤mst bits:=by
 obtain ⟨k,hk⟩:∃k,mst bits=k+1:=⟨mst bits - 1,by unfold mst;omega⟩
 rw [hk]
 have e:(2:Int) ^ (bits - 1)≤64 * 128 ^ k:=by
  rw [E1,show (64:Int)=((2 ^ 6:Nat):Int) from rfl,← Int.natCast_mul,← Nat.pow_add,show (2:Int) ^ (bits - 1)=((2 ^ (bits - 1):Nat):Int) by rw [Int.natCast_pow];rfl]
  exact Int.ofNat_le.2 (Nat.pow_le_pow_right (by decide) (by unfold mst at hk;omega))
 exact ut (k:=k) (by omega) (by omega)
theorem ad_ {c:Nat} {m:Int} (hc:1≤c∧c≤7) (h1:-(2 ^ (c - 1):Int)≤m) (h2:m<2 ^ (c - 1)):(m % 128).toNat / 2 ^ (c - 1)=0∨(m % 128).toNat / 2 ^ (c - 1)=127 / 2 ^ (c - 1):=by
 have:c=1∨c=2∨c=3∨c=4∨c=5∨c=6∨c=7:=by omega
 rcases this with rfl | rfl | rfl | rfl | rfl | rfl | rfl<;>simp at h1 h2 ⊢ <;> omega
theorem O6 {n:Int} {bits:Nat} (r:List UInt8) (hb:1≤bits∧bits≤64) (h1:-(2 ^ (bits - 1):Int)≤n) (h2:n<2 ^ (bits - 1)):eV (br n++r) bits=(n,(br n).length,0):=by
 have hl:=Uy hb.1 h1 h2
 have hp:=E3 n
 obtain ⟨s1,s2,s3,s4⟩:=P6 _ n (bt _)
 obtain ⟨g1,g2⟩:=NS (r:=r) (Hh n) hl
 have hx:ac (br n++r) ((br n).length - 1)=ac (br n) ((br n).length - 1):=k9 (by omega)
 have hi:NF n:=by
  have:(2:Int) ^ (bits - 1)≤2 ^ 63:=by
   rw [show (2:Int) ^ (bits - 1)=((2 ^ (bits - 1):Nat):Int) by rw [Int.natCast_pow];rfl,show (2:Int) ^ 63=((2 ^ 63:Nat):Int) by rw [Int.natCast_pow];rfl]
   exact Int.ofNat_le.2 (Nat.pow_le_pow_right (by decide) (by omega))
  unfold NF
  omega
 have hc:=HM hb (i:=(br n).length - 1) (by omega)
 have ht:(ac (br n++r) ((br n).length - 1)).toNat / 2 ^ (vi bits ((br n).length - 1) - 1)=0∨(ac (br n++r) ((br n).length - 1)).toNat / 2 ^ (vi bits ((br n).length - 1) - 1)=127 / 2 ^ (vi bits ((br n).length - 1) - 1):=by
  rw [hx,s2]
  refine ad_ hc ?_ ?_
  ·unfold vi
   split
   ·rename_i hq
    have e:(2:Int) ^ (bits - 1)=2 ^ (bits - 7 * ((br n).length - 1) - 1) * 128 ^ ((br n).length - 1):=by
     rw [E1,show (2:Int) ^ (bits - 1)=((2 ^ (bits - 1):Nat):Int) by rw [Int.natCast_pow];rfl,show (2:Int) ^ (bits - 7 * ((br n).length - 1) - 1)=((2 ^ (bits - 7 * ((br n).length - 1) - 1):Nat):Int) by rw [Int.natCast_pow];rfl,← Int.natCast_mul,← Nat.pow_add]
     congr 2
     unfold mst at hq
     omega
    rw [e,← Int.neg_mul] at h1
    exact (Int.le_ediv_iff_mul_le (Int.pow_pos (by decide))).2 h1
   ·exact s3
  ·unfold vi
   split
   ·rename_i hq
    have e:(2:Int) ^ (bits - 1)=2 ^ (bits - 7 * ((br n).length - 1) - 1) * 128 ^ ((br n).length - 1):=by
     rw [E1,show (2:Int) ^ (bits - 1)=((2 ^ (bits - 1):Nat):Int) by rw [Int.natCast_pow];rfl,show (2:Int) ^ (bits - 7 * ((br n).length - 1) - 1)=((2 ^ (bits - 7 * ((br n).length - 1) - 1):Nat):Int) by rw [Int.natCast_pow];rfl,← Int.natCast_mul,← Nat.pow_add]
     congr 2
     unfold mst at hq
     omega
    rw [e] at h2
    exact Int.ediv_lt_of_lt_mul (Int.pow_pos (by decide)) h2
   ·omega
 rw [eV,ah (by rw [g1];simp),g2,ah (by rcases ht with ht | ht<;>simp [ht])]
 have e1:(br n).length - 1+1=(br n).length:=by omega
 have e2:I9 (br n++r) ((br n).length - 1)=n:=by
  unfold I9
  rw [e1,List.take_left,hx,show (2:Int) ^ (7 * (br n).length)=128 ^ (br n).length by rw [E1,Int.natCast_pow];rfl,s1]
  exact wi hi.1 hi.2
 rw [e1,e2]
theorem bD {b x r:List UInt8} {a:Nat} (h:b.drop a=x++r):b.drop (a+x.length)=r:=by
 rw [← List.drop_drop,h,List.drop_left]
theorem x9 {b x r:List UInt8} {a:Nat} (h:b.drop a=x++r) (hx:0<x.length):a+x.length+r.length=b.length:=by
 have:=congrArg List.length h
 simp only [iE,bE] at this
 omega
theorem wI {b r:List UInt8} {x:UInt8} {a:Nat} (h:b.drop a=[x]++r):gB b a = .ok (x,a+1):=by
 have hl:=x9 h (by simp)
 simp only [cM] at hl
 unfold gB
 rw [ap (by omega)]
 have:b.drop a=b[a]'(by omega) :: b.drop (a+1):=List.drop_eq_getElem_cons (by omega)
 rw [this] at h
 simp only [List.singleton_append,List.cons.injEq] at h
 rw [bp (by omega),h.1]
theorem c_ {b r:List UInt8} {a n:Nat} (hn:n<4294967296) (h:b.drop a=aq n++r):gU b a = .ok (n,a+(aq n).length):=by
 unfold gU
 rw [h,GC r (by decide) hn]
 rfl
theorem J1 {b r:List UInt8} {a bits:Nat} {n:Int} (hb:1≤bits∧bits≤64) (h1:-(2 ^ (bits - 1):Int)≤n) (h2:n<2 ^ (bits - 1)) (h:b.drop a=br n++r):gS bits b a = .ok (n,a+(br n).length):=by
 unfold gS
 rw [h,O6 r hb h1 h2]
 rfl
theorem GV {b r:List UInt8} {a n:Nat} {most:Int} (hn:n<4294967296) (hm:(n:Int)≤most) (h:b.drop a=aq n++r):gC b a most = .ok (n,a+(aq n).length):=by
 unfold gC
 rw [c_ hn h]
 simp only
 rw [ah (by omega)]
theorem aaq {t:Int} (h:1≤t∧t≤4):ov (vo t).1=(t,true):=by
 rcases (show t=1∨t=2∨t=3∨t=4 by omega) with rfl | rfl | rfl | rfl<;>rfl
theorem Sn {b r:List UInt8} {a:Nat} {t:Int} (ht:1≤t∧t≤4) (h:b.drop a=[(vo t).1]++r):gV b a = .ok (t,a+1):=by
 unfold gV
 rw [wI h]
 simp only [aaq ht,aF]
theorem Uz {t:Int} (ht:1≤t∧t≤4):∃n:Int,[(vo t).1]=br n∧-17≤n∧n<0∧UInt8.ofNat (n+128).toNat=(vo t).1:=by
 rcases (show t=1∨t=2∨t=3∨t=4 by omega) with rfl | rfl | rfl | rfl
 ·exact ⟨-1,by rw [ku (by decide)];rfl,by decide,by decide,rfl⟩
 ·exact ⟨-2,by rw [ku (by decide)];rfl,by decide,by decide,rfl⟩
 ·exact ⟨-16,by rw [ku (by decide)];rfl,by decide,by decide,rfl⟩
 ·exact ⟨-17,by rw [ku (by decide)];rfl,by decide,by decide,rfl⟩
theorem afF {b r:List UInt8} {a:Nat} {k v x:Int} (hk:LA k v x=true) (h:b.drop a=zM k v x++r):gK b a = .ok ((k,v,x),a+(zM k v x).length):=by
 unfold LA at hk
 unfold zM at h ⊢
 unfold gK
 by_cases h0:k=0
 ·subst h0
  simp only [aF,cC,beq_iff_eq] at hk h ⊢
  obtain ⟨rfl,rfl⟩:=hk
  have e:([64]:List UInt8)=br (-64):=by rw [ku (by decide)];rfl
  rw [J1 (n:=-64) (by decide) (by decide) (by decide) (by rw [← e];exact h),← e]
  rfl
 ·simp only [h0,bc] at hk h ⊢
  by_cases h1:k=1
  ·subst h1
   simp only [aF,cC,beq_iff_eq,FL,fo] at hk h ⊢
   obtain ⟨⟨g1,g2⟩,rfl⟩:=hk
   obtain ⟨n,e,n1,n2,n3⟩:=Uz ⟨g1,g2⟩
   rw [J1 (n:=n) (by decide) (by simp;omega) (by simp;omega) (by rw [← e];exact h),← e]
   simp only [n3,aaq ⟨g1,g2⟩]
   rw [ah (by omega),ah (by omega),ap ⟨by omega,trivial⟩]
  ·simp only [h1,bc] at hk h ⊢
   by_cases h2:k=2
   ·subst h2
    simp only [aF,cC,beq_iff_eq,pq,fo] at hk h ⊢
    obtain ⟨rfl,g1,g2⟩:=hk
    rw [J1 (n:=x) (by decide) (by simp;omega) (by simp;omega) h]
    simp only
    rw [ah (by omega),ap g1]
   ·simp only [h2,bc] at hk
    cases hk
theorem cE {n:Int} (h:pq n=true):∃k:Nat,n=(k:Int)∧k<4294967296:=by
 simp only [pq,cC,fo] at h
 obtain ⟨k,rfl⟩:=Bt (show 0≤n by omega)
 exact ⟨k,rfl,by omega⟩
theorem Z2:∀(l:List Int) {b r:List UInt8} {a:Nat},l.all pq=true→b.drop a=fj l++r→gL l.length b a = .ok (l,a+(fj l).length)
 | [],b,r,a,_,_=>rfl
 | n :: l,b,r,a,hl,h=>by
  simp only [List.all_cons,cC] at hl
  obtain ⟨k,rfl,hk⟩:=cE hl.1
  have e:fj ((k:Int) :: l)=aq k++fj l:=rfl
  rw [e,du] at h
  rw [e,eA,gL,c_ hk h]
  simp only
  rw [Z2 l hl.2 (bD h)]
  simp only [bE,kI]
theorem Te {op:Int} (h:yM op=true):(0≤op∧op<256∧op≠252)∨(64512≤op∧op<64768):=by
 have:=I3 (p:=fun op=>(decide (0≤op)&&(decide (op<256) && !(op==252)))||(decide (64512≤op)&&decide (op<64768))) (by decide +kernel) (op:=op) (fun q=>by simp [yM,q] at h)
 simpa using this
theorem WQ {op:Int} {b r:List UInt8} {a:Nat} (hk:yM op=true) (h:b.drop a=kW op++r):gO b a = .ok (op,a+(kW op).length):=by
 unfold gO
 rcases Te hk with ⟨h1,h2,h3⟩ | ⟨h1,h2⟩
 ·unfold kW at h ⊢
  rw [ah (by omega)] at h ⊢
  obtain ⟨n,rfl⟩:=Bt h1
  have e:(UInt8.ofNat n).toNat=n:=ofNat_toNat (by omega)
  rw [ce] at h ⊢
  rw [wI h]
  simp only
  rw [ah (fun q=>h3 (by rw [← e,q];rfl)),e,ap hk]
  rfl
 ·unfold kW at h ⊢
  rw [ap (by omega)] at h ⊢
  rw [show 252 :: aq (op - 64512).toNat++r=[252]++(aq (op - 64512).toNat++r) from rfl] at h
  rw [wI h]
  simp only [aF]
  have h3:=bD h
  simp only [cM] at h3
  rw [c_ (by omega) h3]
  simp only
  rw [show (64512:Int)+((op - 64512).toNat:Int)=op by omega,ap hk,eA]
  congr 2
  omega
theorem aiJ {n:Int} (h:0≤n∧n<4294967296):IntKind.u64.wrap (IntKind.u32.wrap (K5 n))=n:=by
 have e:IntKind.u32.wrap (K5 n)=(K5 n) % 4294967296:=rfl
 rw [rf,e]
 unfold K5
 rw [wV,VA,show IntKind.u32.wrap n=n % 4294967296 from rfl]
 omega
theorem aiK {n:Int} (h:0≤n∧n<18446744073709551616):IntKind.u64.wrap (IntKind.i64.wrap n)=n:=by
 rw [rf,wV];omega
theorem bK {l:List Int} (h:¬(l.length:Int)>0):l=[]:=sc (by omega)
theorem ac5 {l:List Int} (h:(l.length:Int)=1):l=[ac l 0]:=by
 match l,h with
 | [x],_=>rfl
 | [],h=>simp at h
 | _ :: _ :: _,h=>simp at h;omega
theorem abP {x:aZ} {b r:List UInt8} {a:Nat} (hp:PL x=true) (hl:x.lb.length≤64) (hn:0≤x.n∧x.n<18446744073709551616) (h:b.drop a=xh x++r):gI b a = .ok (x,a+(xh x).length):=by
 obtain ⟨op,a0,b0,n,k,v,z,ty,lb⟩:=x
 have hk:yM op=true:=by
  unfold PL th at hp
  simp only [cC] at hp
  exact hp.1
 unfold xh at h ⊢
 rw [du] at h
 unfold gI
 rw [WQ hk h]
 replace h:=bD h
 rw [bE,← kI]
 simp only at h hl hn ⊢
 generalize a+(kW op).length=a1 at h ⊢
 have hi:=nR op
 unfold PL th k_ at hp
 simp only [hk,bU] at hp
 generalize sZ op=i at *
 clear hk
 rcases (show i=0∨i=1∨i=2∨i=3∨i=4∨i=5∨i=6∨i=7∨i=8∨i=9∨i=10∨i=11∨i=12∨i=13∨i=14∨i=15∨i=16∨i=17∨i=18∨i=19∨i=20 by omega) with rfl | rfl | rfl | rfl | rfl | rfl | rfl | rfl | rfl | rfl | rfl | rfl | rfl | rfl | rfl | rfl | rfl | rfl | rfl | rfl | rfl
 all_goals
  simp only [Int.reduceEq,Int.reduceBEq,false_or,or_false,or_true,true_or,or_self,aF,bc,eC,eE,bU,cC,beq_iff_eq,rg,decide_eq_false_iff_not,fo,qr] at hp
  simp only [jm,gM,z0,Int.reduceEq,false_or,or_false,or_true,true_or,or_self,aF,bc] at h ⊢
 ·obtain ⟨⟨rfl,rfl,rfl⟩,hlb,hty,rfl,rfl,rfl⟩:=hp
  rw [bK hlb,bK hty];rfl
 ·obtain ⟨hlb,hty,rfl,rfl,rfl,hb⟩:=hp
  rw [afF hb h,bK hlb,bK hty]
 ·obtain ⟨⟨rfl,rfl,rfl⟩,hlb,hty,ha,rfl,rfl⟩:=hp
  obtain ⟨m,rfl,hm⟩:=cE ha
  rw [ce] at h ⊢
  rw [c_ hm h,bK hlb,bK hty]
 ·obtain ⟨⟨rfl,rfl,rfl⟩,hty,ha,rfl,rfl,hlb⟩:=hp
  obtain ⟨m,rfl,hm⟩:=cE ha
  simp only [ce,du] at h
  rw [GV (most:=64) (by omega) (by omega) h]
  have h2:=bD h
  simp only
  rw [Z2 lb hlb h2]
  simp only
  rw [c_ hm (bD h2),bK hty]
  simp only [bE,ce,kI]
 ·obtain ⟨⟨rfl,rfl,rfl⟩,hlb,hty,ha,rfl,rfl⟩:=hp
  obtain ⟨m,rfl,hm⟩:=cE ha
  rw [ce] at h ⊢
  rw [c_ hm h,bK hlb,bK hty]
 ·obtain ⟨⟨rfl,rfl,rfl⟩,hlb,hty,ha,hb,rfl⟩:=hp
  obtain ⟨m,rfl,hm⟩:=cE ha
  obtain ⟨m2,rfl,hm2⟩:=cE hb
  rw [ce,ce,du] at h
  rw [ce,ce,c_ hm h]
  simp only
  rw [c_ hm2 (bD h),bK hlb,bK hty,bE,kI]
 ·obtain ⟨⟨rfl,rfl,rfl⟩,hlb,rfl,rfl,rfl,hlen,hv⟩:=hp
  obtain ⟨t,rfl⟩:∃t,ty=[t]:=⟨ac ty 0,ac5 hlen⟩
  simp only [show ac [t] 0=t from rfl] at *
  rw [du] at h
  rw [c_ (n:=1) (by decide) h]
  simp only [aF]
  simp only [FL,cC,fo] at hv
  rw [Sn ⟨hv.1,hv.2⟩ (bD h),bK hlb,bE,kI]
  rfl
 ·obtain ⟨⟨rfl,rfl,rfl⟩,hlb,hty,ha,rfl,rfl⟩:=hp
  obtain ⟨m,rfl,hm⟩:=cE ha
  rw [ce] at h ⊢
  rw [c_ hm h,bK hlb,bK hty]
 ·obtain ⟨⟨rfl,rfl,rfl⟩,hlb,hty,ha,rfl,rfl⟩:=hp
  obtain ⟨m,rfl,hm⟩:=cE ha
  rw [ce] at h ⊢
  rw [c_ hm h,bK hlb,bK hty]
 ·obtain ⟨⟨rfl,rfl,rfl⟩,hlb,hty,ha,rfl,rfl⟩:=hp
  obtain ⟨m,rfl,hm⟩:=cE ha
  rw [ce] at h ⊢
  rw [c_ hm h,bK hlb,bK hty]
 ·obtain ⟨⟨rfl,rfl,rfl⟩,hlb,hty,ha,hb,rfl⟩:=hp
  obtain ⟨m,rfl,hm⟩:=cE ha
  obtain ⟨m2,rfl,hm2⟩:=cE hb
  rw [ce,ce,du] at h
  rw [ce,ce,c_ hm h]
  simp only
  rw [c_ hm2 (bD h),bK hlb,bK hty,bE,kI]
 ·obtain ⟨⟨rfl,rfl,rfl⟩,hlb,hty,ha,hb,rfl⟩:=hp
  obtain ⟨m,rfl,hm⟩:=cE ha
  obtain ⟨m2,rfl,hm2⟩:=cE hb
  rw [ce,ce,du] at h
  rw [ce,ce,c_ hm h]
  simp only
  rw [c_ hm2 (bD h),bK hlb,bK hty,bE,kI]
 ·obtain ⟨⟨rfl,rfl,rfl⟩,hlb,hty,ha,rfl,rfl⟩:=hp
  obtain ⟨m,rfl,hm⟩:=cE ha
  rw [ce] at h ⊢
  rw [c_ hm h,bK hlb,bK hty]
 ·obtain ⟨⟨rfl,rfl,rfl⟩,hlb,hty,rfl,hb,rfl⟩:=hp
  obtain ⟨m,rfl,hm⟩:=cE hb
  rw [ce] at h ⊢
  rw [c_ hm h,bK hlb,bK hty]
 ·obtain ⟨⟨rfl,rfl,rfl⟩,hlb,hty,ha,hb,rfl⟩:=hp
  obtain ⟨m,rfl,hm⟩:=cE ha
  obtain ⟨m2,rfl,hm2⟩:=cE hb
  rw [ce,ce,du] at h
  rw [ce,ce,c_ hm h]
  simp only
  rw [c_ hm2 (bD h),bK hlb,bK hty,bE,kI]
 ·obtain ⟨⟨rfl,rfl,rfl⟩,hlb,hty,ha,hb,rfl⟩:=hp
  obtain ⟨m,rfl,hm⟩:=cE ha
  obtain ⟨m2,rfl,hm2⟩:=cE hb
  rw [ce,ce,du] at h
  rw [ce,ce,c_ hm h]
  simp only
  rw [c_ hm2 (bD h),bK hlb,bK hty,bE,kI]
 ·obtain ⟨⟨rfl,rfl,rfl⟩,hlb,hty,ha,rfl,rfl⟩:=hp
  obtain ⟨m,rfl,hm⟩:=cE ha
  rw [ce] at h ⊢
  rw [c_ hm h,bK hlb,bK hty]
 ·obtain ⟨⟨rfl,rfl,rfl⟩,hlb,hty,ha1,ha2,hb,hn2⟩:=hp
  obtain ⟨m2,rfl,hm2⟩:=cE hb
  obtain ⟨m,rfl⟩:=Bt ha1
  obtain ⟨m3,rfl⟩:=Bt hn.1
  by_cases h0:(m2:Int)=0
  ·rw [ap h0,du] at h
   rw [ap h0]
   simp only [ce] at h ⊢
   unfold gA
   rw [c_ (by omega) h]
   simp only
   rw [ah (by omega),ah (by omega),c_ (by omega) (bD h)]
   simp only
   rw [bK hlb,bK hty,h0,bE,kI]
  ·rw [ah h0] at h ⊢
   rw [show (m:Int)+64=((m+64:Nat):Int) by omega] at h ⊢
   simp only [ce,du] at h ⊢
   unfold gA
   rw [c_ (by omega) h]
   simp only
   have h2:=bD h
   rw [ah (by omega),ap (by omega),c_ hm2 h2]
   simp only
   rw [c_ (by omega) (bD h2)]
   simp only
   rw [bK hlb,bK hty,show ((m+64:Nat):Int) - 64=(m:Int) by omega]
   simp only [bE,kI]
 ·obtain ⟨⟨rfl,rfl,rfl⟩,hlb,hty,rfl,rfl,hn2⟩:=hp
  have hs:=ME n
  rw [J1 (bits:=32) (by decide) (by simp;omega) (by simp;omega) h]
  simp only
  rw [bK hlb,bK hty,aiJ ⟨hn.1,hn2⟩]
 ·obtain ⟨⟨rfl,rfl,rfl⟩,hlb,hty,rfl,rfl⟩:=hp
  have hs:=i64_in n
  unfold NF at hs
  rw [J1 (bits:=64) (by decide) (by simp;omega) (by simp;omega) h]
  simp only
  rw [bK hlb,bK hty,aiK hn]
 ·obtain ⟨⟨rfl,rfl,rfl⟩,hlb,hty,ha,rfl,rfl⟩:=hp
  rw [Sn (by omega) h]
  simp only [ap ha]
  rw [bK hlb,bK hty]
  rfl
theorem BZ (ok:Bool) (l x y:List UInt8):wB ok (wB ok l x) y=wB ok l (x++y):=by cases ok<;>simp [wB]
theorem ahv (ok:Bool) (l:List UInt8):wB ok l []=l:=by cases ok<;>simp [wB]
theorem ahw {ok:Bool} {l:List UInt8} {e:Int} {n:Nat} (h:n<4294967296):wU ok l e (n:Int)=(wB ok l (aq n),e):=by
 unfold wU wB
 cases ok
 ·rfl
 ·simp only [aF,ce]
  rw [ah (by omega)]
theorem cG {n:Nat} (h:n<4294967296):(aq n).length≤5:=kv (k:=4) (by omega)
theorem ya:∀{ns:List Int},ns.all pq=true→(fj ns).length≤5 * ns.length
 | [],_=>bt _
 | n :: ns,h=>by
  simp only [List.all_cons,cC] at h
  obtain ⟨k,rfl,hk⟩:=cE h.1
  have:=ya h.2
  have:=cG hk
  rw [show fj ((k:Int) :: ns)=aq k++fj ns from rfl,bE,eA]
  omega
theorem Pe {ns:List Int} {i:Nat} (h:i<ns.length):fj (ns.take (i+1))=fj (ns.take i)++aq (ac ns i).toNat:=by
 unfold fj
 rw [List.take_succ_eq_append_getElem h,List.flatMap_append,bp h]
 simp
theorem abc {f:Int→Bool} {l:List Int} {k:Nat} (h:l.all f=true) (hk:k<l.length):f (ac l k)=true:=by
 rw [bp hk]
 exact fg.1 h _ (List.getElem_mem hk)
theorem FQ {ns:List Int} (h:ns.all pq=true) (i:Nat):(fj (ns.take i)).length≤5 * ns.length:=by
 have h1:(ns.take i).all pq=true:=fg.2 fun x hx=>fg.1 h x (List.mem_of_mem_take hx)
 have:=ya h1
 rw [pm] at this
 omega
section
variable {l:List UInt8} {e:Int} (hl:l.length<45000000000)
include hl
theorem s_ (n:Nat) (hn:n<4294967296):WM bB [.int .i64 (n:Int)] true l e (.tup []) (wB (e==0) l (aq n)) e:=by
 have h:=I7 true l e (n:Int) (by omega)
 rw [ahw hn] at h
 exact h
end
section
variable {l:List UInt8} {e:Int} (hl:l.length<40000000000)
include hl
attribute [local go_sem] ro wo wa wx rx dE d_ aW
theorem uE (ns:List Int) (h:ns.all pq=true) (hn:ns.length≤9223372036854775807) (hg:e=0→l.length+5 * ns.length<40000000000):WM EA [.sl 1 (ns.map mA)] true l e (.tup []) (wB (e==0) l (fj ns)) e:=by
 refine bF tn ?_
 have hwl:∀i,(wB (e==0) l (fj (ns.take i))).length<40000000000:=fun i=>by
  by_cases he:e=0
  ·have:=hg he
   have ht:=FQ h i
   have hwl:=qn (ok:=e==0) (l:=l) (x:=fj (ns.take i))
   omega
  ·rw [ay he];exact hl
 simp only [go_sem,tn]
 refine aw (fun i:Nat=>⟨[(8,.int .i64 i),(7,.int .i64 ns.length),(6,.sl 1 (ns.map mA)),(0,.mp 1000 3 0 0)],[(1000,wo 2000 true (wB (e==0) l (fj (ns.take i))) e),(2000,wa (wB (e==0) l (fj (ns.take i))))]⟩) (fun i=>i≤ns.length) (fun i=>ns.length - i) 0 (cX _) (Wk.of ?_ ?_) ?_
 ·simp only [go_sem];try simp
 ·simp only [go_sem,oa,fj,List.flatMap_nil,ahv];try simp [go_sem]
 intro i hi
 have hwi:=hwl i
 by_cases h1:(i:Int)<(ns.length:Int)
 ·have hi':i<ns.length:=by omega
  obtain ⟨m,hm1,hm2⟩:=cE (abc h hi')
  have hs:=Pe hi'
  have e8:=wi (n:=(i:Int)+1) (by omega) (by omega)
  rw [hm1,ce] at hs
  simp only [go_sem,aO h1,hm1]
  refine ⟨by omega,h1,?_⟩
  refine aR [] (k:=1000) (j:=2000) (s_ (l:=wB (e==0) l (fj (ns.take i))) (e:=e) (by omega) m hm2) ?_
  simp only [go_sem,BZ]
  rw [← hs]
  refine aG (i+1) (show i+1≤ns.length by omega) (show ns.length - (i+1)<ns.length - i by omega) (Wk.of ?_ ?_)
  ·simp only [go_sem,e8];try simp
  ·simp only [go_sem];try simp [go_sem,wo,wa]
 ·obtain rfl:i=ns.length:=by omega
  simp only [go_sem,aQ h1]
  rw [kC]
  exact cN [] _ [(1000,wo 2000 true (wB (e==0) l (fj ns)) e),(2000,wa (wB (e==0) l (fj ns)))] ⟨rfl,rfl⟩
end
section
def WX (f:FuncId) (rest:List AV) (x:List UInt8):Prop:=∀l:List UInt8,l.length+x.length≤1000000000→WM f rest true l 0 (.tup []) (l++x) 0
theorem VD (n:Nat) (hn:n<4294967296):WX bB [.int .i64 (n:Int)] (aq n):=fun l hl=>s_ (l:=l) (e:=0) (by omega) n hn
theorem VU {n:Int} (h:0≤n∧n<4294967296):WX bB [.int .i64 n] (aq n.toNat):=by
 obtain ⟨k,rfl⟩:=Bt h.1
 exact VD k (by omega)
theorem VT (x:UInt8):WX lY [.int .u8 x.toNat] [x]:=fun l hl=>vA true l x 0 (by omega)
theorem ajY (x:List UInt8):WX kN [.sl 1 (x.map i5)] x:=fun l hl=>fW true l x 0 ⟨by omega,by omega⟩
theorem lj (fs:List Nat) {f:FuncId} {rest:List AV} {x:List UInt8} (h:WX f rest x) {k j:Nat} {l:List UInt8} {args:List AV} {d:Option Nat} {s:St} {K:St→Prop} (ha:args.map (wH fs s) = .mp k 3 0 0 :: rest) (hrest:∀y∈rest,aH y=[]) (h1:ae (frzs fs s).heap k=some (wo j true l 0)) (h2:ae (frzs fs s).heap j=some (wa l))
  (hb:l.length+x.length≤1000000000) (hn:k≠2000∧j≠1000∧k≠j∧(j<1000∨2000≤j)) (hK:K ((St.mk (o6 j (frzs fs s).env) ((k,wo j true (l++x) 0) :: (j,wa (l++x)) :: o7 j (frzs fs s).heap)).put d (.tup []))):cT pg f args d s K :=
 dX fs (h l hb) hn.1 hn.2.1 hn.2.2.1 hn.2.2.2 rfl hrest ha h1 h2 hK
theorem LD {f:FuncId} {rest:List AV} {x:List UInt8} (h:WX f rest x) {k j:Nat} {l:List UInt8} {args:List AV} {d:Option Nat} {s:St} {K:St→Prop} (ha:args = .mp k 3 0 0 :: rest) (hrest:∀y∈rest,aH y=[]) (h1:ae s.heap k=some (wo j true l 0)) (h2:ae s.heap j=some (wa l))
  (hb:l.length+x.length≤1000000000) (hn:k≠2000∧j≠1000∧k≠j∧(j<1000∨2000≤j)) (hK:K ((St.mk (o6 j s.env) ((k,wo j true (l++x) 0) :: (j,wa (l++x)) :: o7 j s.heap)).put d (.tup []))):cT pg f args d s K :=
 lj [] h (by rw [ha];exact List.map_id' _) hrest h1 h2 hb hn hK
theorem aC {f:FuncId} {rest:List AV} {x:List UInt8} (h:WX f rest x) {k j:Nat} {l:List UInt8} {args:List AV} {d:Option Nat} {s:St} {K:St→Prop} (ha:args = .mp k 3 0 0 :: rest) (hK:K ((St.mk (o6 j s.env) ((k,wo j true (l++x) 0) :: (j,wa (l++x)) :: o7 j s.heap)).put d (.tup [])))
  (hrest:∀y∈rest,aH y=[]:=by simp [go_sem]) (h1:ae s.heap k=some (wo j true l 0):=by rfl) (h2:ae s.heap j=some (wa l):=by rfl)
  (hb:l.length+x.length≤1000000000:=by (try simp only [bE,eA,b_]);omega) (hn:k≠2000∧j≠1000∧k≠j∧(j<1000∨2000≤j):=by decide):cT pg f args d s K:=LD h ha hrest h1 h2 hb hn hK
theorem cR {w l x:List UInt8} {s:St} {e:IX} {rs:List oG} (he:∀j,e≠.ext j) (h0:sS rs s=some (.tup [])) (h1:ae s.heap 1000=some (wo 2000 true l 0)) (h2:ae s.heap 2000=some (wa l)) (h:l=w++x) :
  nG rs (fun r' σ'=>r' = .tup []∧σ'=[(1000,wo 2000 true (w++x) 0),(2000,wa (w++x))]) e s:=by
 subst h
 exact GD he h0 h1 h2 rfl
def wlB (u t st:Nat) (z:List AV):bN :=
 (.seq (.reg [mv 8 0,
 mv 9 1,
 o0 10 (.len (.s 9)),
 o0 11 (.call u [(.s 8),(.s 10)])] [8,9,10,11])
 (.seq (.reg [mv 12 1,
 o0 13 (.len (.s 12)),
 o0 14 (.mov (.c (.int .i64 0)))] [])
 (.block 0 (.loop (.seq (.reg [o0 15 (.bin .lss (.s 14) (.s 13))] [])
 (.seq (.cond (.s 15)
 .skip
 (.exit 0))
 (.seq (.block 1 (.seq (.reg [o0 16 (.iadr st (.s 12) (.s 14)),
 o0 17 (.load (some st) (.s 16)),
 o0 7 (.new t z),
 ⟨none,.store st (.s 7) (.s 17),none⟩] [16,17])
 (.reg [mv 18 2,
 mv 19 0,
 o0 20 (.load (some st) (.s 7)),
 o0 21 (.callv (.s 18) [(.s 19),(.s 20)])] [18,19,20,21])))
 (.reg [o0 22 (.bin .add (.s 14) (.c (.int .i64 1))),
 mv 14 22] [22]))))))))
theorem vl {α:Type} [Inhabited α] {f:α→List UInt8} {l:List α} {i:Nat} (h:i<l.length):(l.take (i+1)).flatMap f=(l.take i).flatMap f++f (ac l i):=by
 rw [xJ h,List.flatMap_append,List.flatMap_singleton]
theorem yb {α:Type} [Inhabited α] {f:α→List UInt8} {l:List α} {i:Nat} (h:i<l.length):((l.take i).flatMap f).length+(f (ac l i)).length≤(l.flatMap f).length:=by
 have e:l=l.take (i+1)++l.drop (i+1):=(List.take_append_drop _ _).symm
 have:=congrArg (fun l=>(l.flatMap f).length) e
 simp only [List.flatMap_append,bE,vl h] at this
 omega
attribute [local go_sem] di wo wa dE d_ aW
theorem pi {α:Type} [Inhabited α] {n t st:Nat} {z:List AV} {f:α→List AV} {g:FuncId} {caps:List AV} {enc:α→List UInt8} (hc:lN pg n=some ⟨23,3,[],wlB bB t st z⟩) (hz:z.length=st) (hf:∀x,aeT st (f x))
  (l:List α) (hl:l.length<4294967296) (hg:bM pg g=true) (hcp:∀i,caps.any (mP i)=false) (hcv:∀x∈caps,aH x=[]) (hone:∀x∈l,WX g (.agg (f x) :: caps) (enc x)) :
  WX n [.sl st (l.map f),.fn g caps] (aE enc l):=by
 intro w hw
 unfold aE at hw ⊢
 rw [bE] at hw
 refine jJ (ic:=wlB bB t st z) ue hc rfl rfl ?_
 have c1:=VD l.length hl w (by omega)
 subst hz
 have q1:∀x,vp (some z.length) (f x)=some (.agg (f x)):=fun x=>NQ (hf x).1
 have q2:∀x,Ju 7 z.length z.length 0 0 (some ⟨t,z.length,[z],true⟩) (some (f x))=some (.put 7 ⟨t,z.length,[f x],true⟩):=fun x=>Oy rfl (hf x).1
 have q3:∀x i,(f x).any (mC i)=false:=fun x i=>(hf x).2.1 i
 have q4:∀i x,x∈caps→mP i x=false:=fun i x hx=>by
  have:=hcp i
  rw [List.any_eq_false] at this
  simpa using this x hx
 simp only [go_sem,wlB]
 refine aR [] (k:=1000) (j:=2000) (c1) ?_
 simp only [go_sem]
 refine aw (fun i:Nat=>⟨[(14,.int .i64 i),(13,.int .i64 l.length),(12,.sl z.length (l.map f)),(2,.fn g caps),(0,.mp 1000 3 0 0)],[(1000,wo 2000 true (w++(aq l.length++(l.take i).flatMap enc)) 0),(2000,wa (w++(aq l.length++(l.take i).flatMap enc)))]⟩) (fun i=>i≤l.length) (fun i=>l.length - i) 0 (cX _) (Wk.of ?_ ?_) ?_
 ·simp only [go_sem];try (simp;exact q4 _)
 ·simp only [go_sem,oa,List.flatMap_nil,mz];try simp [go_sem]
 intro i hi2
 by_cases h1:(i:Int)<(l.length:Int)
 rotate_left
 ·obtain rfl:i=l.length:=by omega
  simp only [go_sem,aQ h1]
  rw [kC]
  exact cN [] _ [(1000,wo 2000 true (w++(aq l.length++l.flatMap enc)) 0),(2000,wa (w++(aq l.length++l.flatMap enc)))] ⟨rfl,rfl⟩
 have hi':i<l.length:=by omega
 have e8:=dz hi' (by omega)
 have ht:=yb (f:=enc) hi'
 have c2:=eT hone hi' (w++(aq l.length++(l.take i).flatMap enc)) (by simp only [bE];omega)
 simp only [go_sem,aO h1,q1,q2,q3,hcp]
 refine ⟨by omega,h1,?_⟩
 rw [ap (J5 hg)]
 refine ⟨hg,?_⟩
 refine dX [] (k:=1000) (j:=2000) c2 (by decide) (by decide) (by decide) (by decide) rfl (fun x hx=>?_) (List.map_id' _) (by rfl) (by rfl) ?_
 ·rcases dc.1 hx with rfl | hx
  ·exact (hf _).2.2
  ·exact hcv x hx
 have e9:w++(aq l.length++(l.take i).flatMap enc)++enc (ac l i)=w++(aq l.length++(l.take (i+1)).flatMap enc):=by
  rw [vl hi'];simp only [du]
 simp only [go_sem,e9,hcp]
 refine aG (i+1) (show i+1≤l.length by omega) (show l.length - (i+1)<l.length - i by omega) (Wk.of ?_ ?_)
 ·simp only [go_sem,e8];try simp
 ·simp only [go_sem];try simp [go_sem,wo,wa]
def aeo (u:Nat):bN :=
 (.seq (.reg [mv 8 0,
 mv 9 1,
 o0 10 (.len (.s 9)),
 o0 11 (.call u [(.s 8),(.s 10)])] [8,9,10,11])
 (.seq (.reg [mv 12 1,
 o0 13 (.len (.s 12)),
 o0 14 (.mov (.c (.int .i64 0)))] [])
 (.block 0 (.loop (.seq (.reg [o0 15 (.bin .lss (.s 14) (.s 13))] [])
 (.seq (.cond (.s 15)
 .skip
 (.exit 0))
 (.seq (.block 1 (.seq (.reg [o0 16 (.iadr 1 (.s 12) (.s 14)),
 o0 17 (.load none (.s 16)),
 mv 7 17] [16,17])
 (.reg [mv 18 2,
 mv 19 0,
 mv 20 7,
 o0 21 (.callv (.s 18) [(.s 19),(.s 20)])] [18,19,20,21])))
 (.reg [o0 22 (.bin .add (.s 14) (.c (.int .i64 1))),
 mv 14 22] [22]))))))))
theorem ZD {α:Type} [Inhabited α] {n:Nat} {f:α→List AV} {v:α→AV} {g:FuncId} {caps:List AV} {enc:α→List UInt8} (hc:lN pg n=some ⟨23,3,[],aeo bB⟩) (hf:∀x,f x=[v x]) (hv1:∀x i,mV i (v x)=false) (hv2:∀x,aH (v x)=[])
  (l:List α) (hl:l.length<4294967296) (hg:bM pg g=true) (hcp:∀i,caps.any (mP i)=false) (hcv:∀x∈caps,aH x=[]) (hone:∀x∈l,WX g (v x :: caps) (enc x)) :
  WX n [.sl 1 (l.map f),.fn g caps] (aE enc l):=by
 intro w hw
 unfold aE at hw ⊢
 rw [bE] at hw
 refine jJ (ic:=aeo bB) ue hc rfl rfl ?_
 have c1:=VD l.length hl w (by omega)
 have q4:∀i x,x∈caps→mP i x=false:=fun i x hx=>by
  have:=hcp i
  rw [List.any_eq_false] at this
  simpa using this x hx
 simp only [go_sem,aeo]
 refine aR [] (k:=1000) (j:=2000) (c1) ?_
 simp only [go_sem]
 refine aw (fun i:Nat=>⟨[(14,.int .i64 i),(13,.int .i64 l.length),(12,.sl 1 (l.map f)),(2,.fn g caps),(0,.mp 1000 3 0 0)],[(1000,wo 2000 true (w++(aq l.length++(l.take i).flatMap enc)) 0),(2000,wa (w++(aq l.length++(l.take i).flatMap enc)))]⟩) (fun i=>i≤l.length) (fun i=>l.length - i) 0 (cX _) (Wk.of ?_ ?_) ?_
 ·simp only [go_sem];try (simp;exact q4 _)
 ·simp only [go_sem,oa,List.flatMap_nil,mz];try simp [go_sem]
 intro i hi2
 by_cases h1:(i:Int)<(l.length:Int)
 rotate_left
 ·obtain rfl:i=l.length:=by omega
  simp only [go_sem,aQ h1]
  rw [kC]
  exact cN [] _ [(1000,wo 2000 true (w++(aq l.length++l.flatMap enc)) 0),(2000,wa (w++(aq l.length++l.flatMap enc)))] ⟨rfl,rfl⟩
 have hi':i<l.length:=by omega
 have e8:=dz hi' (by omega)
 have ht:=yb (f:=enc) hi'
 have c2:=eT hone hi' (w++(aq l.length++(l.take i).flatMap enc)) (by simp only [bE];omega)
 simp only [go_sem,aO h1,hf,hv1,hcp]
 refine ⟨by omega,h1,?_⟩
 rw [ap (J5 hg)]
 refine ⟨hg,?_⟩
 refine dX [] (k:=1000) (j:=2000) c2 (by decide) (by decide) (by decide) (by decide) rfl (fun x hx=>?_) (List.map_id' _) (by rfl) (by rfl) ?_
 ·rcases dc.1 hx with rfl | hx
  ·exact hv2 _
  ·exact hcv x hx
 have e9:w++(aq l.length++(l.take i).flatMap enc)++enc (ac l i)=w++(aq l.length++(l.take (i+1)).flatMap enc):=by
  rw [vl hi'];simp only [du]
 simp only [go_sem,e9,hcp]
 refine aG (i+1) (show i+1≤l.length by omega) (show l.length - (i+1)<l.length - i by omega) (Wk.of ?_ ?_)
 ·simp only [go_sem,e8];try simp
 ·simp only [go_sem];try simp [go_sem,wo,wa]
end
section
abbrev PS (α:Type):=Nat→Int→α×Nat×Int
def dy {α:Type} (b:List UInt8) (t:PS α) (g:Nat→Rd α):Prop:=∀a e,a≤b.length→(t a e).2.1≤b.length∧(e≠0→(t a e).2=(a,e)) ∧
 (e=0→(∃x k,g a = .ok (x,k)∧t a e=(x,k,0))∨∃e' k,g a = .error (e',k)∧e'≠0∧(t a e).2=(k,e'))
def pb {α β:Type} (t:PS α) (u:α→PS β):PS β:=fun a e=>u (t a e).1 (t a e).2.1 (t a e).2.2
def pP {α:Type} (x:α):PS α:=fun a e=>(x,a,e)
def pF {α:Type} (c:Int) (x:α):PS α:=fun a e=>(x,a,if e=0 then c else e)
def pI {α:Type} (c:Prop) [Decidable c] (t u:PS α):PS α:=fun a e=>if c then t a e else u a e
theorem dy.bd {α β:Type} {b:List UInt8} {t:PS α} {g:Nat→Rd α} {u:α→PS β} {r:α→Nat→Rd β} (h:dy b t g) (hu:∀x,dy b (u x) (r x)):dy b (pb t u) (fun a=>eU (g a) r):=by
 intro a e ha
 obtain ⟨h1,h2,h3⟩:=h a e ha
 obtain ⟨u1,u2,u3⟩:=hu (t a e).1 (t a e).2.1 (t a e).2.2 h1
 refine ⟨u1,fun he=>?_,fun he=>?_⟩
 ·have h4:=h2 he
  have h5:(t a e).2.2=e:=by rw [h4]
  have h6:(t a e).2.1=a:=by rw [h4]
  show (u _ _ _).2=_
  rw [u2 (by rw [h5];exact he),h5,h6]
 ·rcases h3 he with ⟨x,k,g1,g2⟩ | ⟨e',k,g1,g2,g3⟩
  ·have u4:=u3 (by rw [g2])
   show (∃y j,eU (g a) r=_∧u (t a e).1 (t a e).2.1 (t a e).2.2=_)∨∃e' j,eU (g a) r=_∧_∧(u (t a e).1 (t a e).2.1 (t a e).2.2).2=_
   rw [g1,aM]
   rw [g2] at u4 ⊢
   exact u4
  ·have h5:(t a e).2.2=e':=by rw [g3]
   have h6:(t a e).2.1=k:=by rw [g3]
   refine .inr ⟨e',k,by show eU (g a) r=_;rw [g1,oH],g2,?_⟩
   show (u _ _ _).2=_
   rw [u2 (by rw [h5];exact g2),h5,h6]
theorem dy.pure {α:Type} {b:List UInt8} (x:α):dy b (pP x) (fun a=>.ok (x,a)):=fun a e ha=>⟨ha,fun _=>rfl,fun he=>.inl ⟨x,a,rfl,by rw [he];rfl⟩⟩
theorem dy.fail {α:Type} {b:List UInt8} {c:Int} (hc:c≠0) (x:α):dy b (pF c x) (fun a=>.error (c,a)):=fun a e ha=>⟨ha,fun he=>by unfold pF;rw [ah he],fun he=>.inr ⟨c,a,rfl,hc,by unfold pF;rw [ap he]⟩⟩
theorem dy.ite {α:Type} {b:List UInt8} {c:Prop} [Decidable c] {t u:PS α} {g r:Nat→Rd α} (h:dy b t g) (hu:dy b u r):dy b (pI c t u) (fun a=>if c then g a else r a):=by
 intro a e ha
 unfold pI
 by_cases hc:c
 ·simp only [ap hc];exact h a e ha
 ·simp only [ah hc];exact hu a e ha
theorem dy.congr {α:Type} {b:List UInt8} {t:PS α} {g r:Nat→Rd α} (h:dy b t g) (e:∀a,g a=r a):dy b t r:=by rw [← funext e];exact h
theorem HH {α β:Type} {c:Prop} [Decidable c] {e:Int×Nat} {x:α} {k:Nat} {f:α→Nat→Rd β}:eU (if c then .error e else .ok (x,k)) f=if c then .error e else f x k:=by
 by_cases h:c
 ·rw [ap h,ap h];rfl
 ·rw [ah h,ah h];rfl
def Js (c:Int) (p:Prop) [Decidable p]:PS Unit:=pI p (pF c ()) (pP ())
theorem dy.fi {β:Type} {b:List UInt8} {c:Int} (hc:c≠0) {p:Prop} [Decidable p] {u:Unit→PS β} {r:Nat→Rd β} (hu:dy b (u ()) r):dy b (pb (Js c p) u) (fun a=>if p then .error (c,a) else r a) :=
 (((dy.fail hc ()).ite (dy.pure ())).bd (r:=fun _=>r) fun _=>hu).congr fun a=>HH
def fV (b:List UInt8):PS UInt8:=fun a e=>kP (e==0) b a e
def sY (b:List UInt8):PS Nat:=fun a e=>rU (e==0) 32 b a e
def pC (b:List UInt8) (most:Int):PS Nat:=fun a e=>bS (e==0) b a e most
def YG (b:List UInt8):PS (List UInt8):=fun a e=>cO (e==0) b a e
def i6 {α:Type} (g:Nat→Rd α) (d:α):PS α:=fun a e=>if e=0 then (match g a with
 | .ok (x,k)=>(x,k,0)
 | .error (e',k)=>(d,k,e')) else (d,a,e)
def ZK {α:Type} (b:List UInt8) (g:Nat→Rd α):Prop:=∀a,a≤b.length→(∀x k,g a = .ok (x,k)→k≤b.length)∧∀e k,g a = .error (e,k)→e≠0∧k≤b.length
theorem dy.wel {α:Type} {b:List UInt8} {t:PS α} {g:Nat→Rd α} (h:dy b t g):ZK b g:=by
 intro a ha
 obtain ⟨h1,_,h2⟩:=h a 0 ha
 rcases h2 rfl with ⟨x,k,g1,g2⟩ | ⟨e',k,g1,g2,g3⟩
 ·rw [g2] at h1
  refine ⟨fun x' k' h3=>?_,fun e k' h3=>?_⟩
  ·rw [g1] at h3;cases h3;exact h1
  ·rw [g1] at h3;cases h3
 ·have h4:(t a 0).2.1=k:=by rw [g3]
  refine ⟨fun x' k' h3=>?_,fun e k' h3=>?_⟩
  ·rw [g1] at h3;cases h3
  ·rw [g1] at h3;cases h3;exact ⟨g2,h4▸h1⟩
theorem ZK.oks {α:Type} {b:List UInt8} {g:Nat→Rd α} (h:ZK b g) (d:α):dy b (i6 g d) g:=by
 intro a e ha
 obtain ⟨h1,h2⟩:=h a ha
 unfold i6
 by_cases he:e=0
 ·rw [ap he]
  cases hg:g a with
  | ok q =>
   obtain ⟨x,k⟩:=q
   exact ⟨h1 _ _ hg,fun h=>absurd he h,fun _=>.inl ⟨x,k,rfl,rfl⟩⟩
  | error q =>
   obtain ⟨e',k⟩:=q
   exact ⟨(h2 _ _ hg).2,fun h=>absurd he h,fun _=>.inr ⟨e',k,rfl,(h2 _ _ hg).1,rfl⟩⟩
 ·rw [ah he]
  exact ⟨ha,fun _=>rfl,fun h=>absurd h he⟩
variable {b:List UInt8}
theorem EX:dy b (fV b) (gB b):=by
 intro a e ha
 refine ⟨YX ha,fun he=>?_,fun he=>?_⟩
 ·unfold fV;rw [pp he,vy]
 ·subst he
  rcases yK b a with ⟨x,h1,h2,h3⟩ | ⟨h1,h2⟩
  ·exact .inl ⟨x,a+1,h1,h2⟩
  ·exact .inr ⟨3,a,h1,by decide,by show (kP true b a 0).2=_;rw [h2]⟩
theorem rW:dy b (sY b) (gU b):=by
 intro a e ha
 refine ⟨P8 ha,fun he=>?_,fun he=>?_⟩
 ·unfold sY;rw [pp he,Co]
 ·subst he
  rcases uw ha with ⟨x,k,h1,h2,_⟩ | ⟨e,he,h1,h2⟩
  ·exact .inl ⟨x,k,h1,h2⟩
  ·exact .inr ⟨e,a,h1,he,by show (rU true 32 b a 0).2=_;rw [h2]⟩
theorem Ga (most:Int):dy b (pC b most) (fun a=>gC b a most):=by
 intro a e ha
 refine ⟨o9 ha,fun he=>?_,fun he=>?_⟩
 ·unfold pC;rw [pp he,KU]
 ·subst he
  rcases yL most ha with ⟨x,k,h1,h2,_⟩ | ⟨e,he,h1,h2⟩
  ·exact .inl ⟨x,k,h1,h2⟩
  ·exact .inr ⟨e,a,h1,he,by show (bS true b a 0 most).2=_;rw [h2]⟩
def pN {α:Type} (one:PS α):Nat→PS (List α)
 | 0=>pP []
 | n+1=>fun a e=>if e=0 then pb one (fun x=>pb (pN one n) fun l=>pP (x :: l)) a e else ([],a,e)
theorem dy.n {α:Type} {one:PS α} {g:List UInt8→Nat→Rd α} (h:dy b one (g b)):∀n,dy b (pN one n) (gN g n b)
 | 0=>dy.pure []
 | n+1=>by
  have h1:=h.bd (u:=fun x=>pb (pN one n) fun l=>pP (x :: l)) (r:=fun x k=>eU (gN g n b k) fun l k'=>.ok (x :: l,k')) fun x=>(dy.n h n).bd fun l=>dy.pure (x :: l)
  intro a e ha
  obtain ⟨q1,q2,q3⟩:=h1 a e ha
  unfold pN
  by_cases he:e=0
  ·rw [ap he]
   exact ⟨q1,q2,q3⟩
  ·rw [ah he]
   exact ⟨ha,fun _=>rfl,fun h=>absurd h he⟩
def pL {α:Type} (b:List UInt8) (one:PS α) (most:Int):PS (List α):=pb (pC b most) (pN one)
theorem dy.l {α:Type} {one:PS α} {g:List UInt8→Nat→Rd α} (h:dy b one (g b)) (most:Int):dy b (pL b one most) (mM g most b):=(Ga most).bd fun n=>h.n n
end
section
def aT {α:Type} (L:Nat) (r:Rd α):Prop:=(∀x k,r = .ok (x,k)→k≤L)∧∀e k,r = .error (e,k)→e≠0∧k≤L
theorem aT.ok {α:Type} {L k:Nat} (x:α) (h:k≤L):aT L (.ok (x,k):Rd α):=⟨fun _ _ e=>(by cases e;exact h),fun _ _ e=>(by cases e)⟩
theorem aT.er {α:Type} {L k:Nat} {e:Int} (he:e≠0) (h:k≤L):aT L (.error (e,k):Rd α):=⟨fun _ _ e=>(by cases e),fun _ _ e=>(by cases e;exact ⟨he,h⟩)⟩
theorem aT.ite {α:Type} {L:Nat} {c:Prop} [Decidable c] {r s:Rd α} (h1:aT L r) (h2:aT L s):aT L (if c then r else s):=by
 by_cases h:c
 ·rw [ap h];exact h1
 ·rw [ah h];exact h2
theorem aT.mt {α β:Type} {L:Nat} {r:Rd α} {f:α→Nat→Rd β} (h:aT L r) (hf:∀x k,k≤L→aT L (f x k)):aT L (match r with
  | .ok (x,k)=>f x k
  | .error e=>.error e):=by
 cases hr:r with
 | ok q =>
  obtain ⟨x,k⟩:=q
  exact hf x k (h.1 x k hr)
 | error e =>
  obtain ⟨e,k⟩:=e
  exact aT.er (h.2 e k hr).1 (h.2 e k hr).2
theorem aT.cs {α:Type} {L:Nat} {r:Rd α} (h:aT L r):(∃x k,r = .ok (x,k)∧k≤L)∨∃e k,r = .error (e,k)∧e≠0∧k≤L:=by
 cases hr:r with
 | ok q=>exact .inl ⟨q.1,q.2,rfl,h.1 _ _ hr⟩
 | error q=>exact .inr ⟨q.1,q.2,rfl,h.2 _ _ hr⟩
theorem aT.bd {α β:Type} {L:Nat} {r:Rd α} {f:α→Nat→Rd β} (h:aT L r) (hf:∀x k,k≤L→aT L (f x k)):aT L (eU r f):=aT.mt h hf
variable {b:List UInt8} {a:Nat}
theorem ZE (ha:a≤b.length):aT b.length (gB b a):=EX.wel a ha
theorem y_ (ha:a≤b.length):aT b.length (gU b a):=rW.wel a ha
theorem ajS {most:Int} (ha:a≤b.length):aT b.length (gC b a most):=(Ga most).wel a ha
theorem aep {bits:Nat} (ha:a≤b.length):aT b.length (gS bits b a):=by
 have:=HO (b.drop a) bits
 unfold gS
 by_cases h:(eV (b.drop a) bits).2.2=0
 ·rw [ap h]
  exact aT.ok _ (by simp only [iE] at this;omega)
 ·rw [ah h]
  exact aT.er h ha
theorem M5 (ha:a≤b.length):aT b.length (gV b a):=by
 unfold gV
 rcases (ZE ha).cs with ⟨x,k,hr,hk⟩ | ⟨e,k,hr,he,hk⟩
 rotate_left
 ·rw [hr];exact aT.er he hk
 rw [hr]
 dsimp only
 refine aT.ite ?_ ?_
 ·exact aT.ok _ hk
 ·exact aT.er (by decide) hk
theorem ajU (ha:a≤b.length):aT b.length (gK b a):=by
 unfold gK
 rcases (aep ha).cs with ⟨x,k,hr,hk⟩ | ⟨e,k,hr,he,hk⟩
 rotate_left
 ·rw [hr];exact aT.er he hk
 rw [hr]
 dsimp only
 refine aT.ite ?_ ?_
 ·exact aT.ok _ hk
 ·refine aT.ite ?_ ?_
  ·exact aT.ok _ hk
  ·refine aT.ite ?_ ?_
   ·exact aT.ok _ hk
   ·exact aT.er (by decide) hk
theorem ajW (ha:a≤b.length):aT b.length (gO b a):=by
 unfold gO
 rcases (ZE ha).cs with ⟨x,k,hr,hk⟩ | ⟨e,k,hr,he,hk⟩
 rotate_left
 ·rw [hr];exact aT.er he hk
 rw [hr]
 dsimp only
 refine aT.ite ?_ ?_
 ·rcases (y_ hk).cs with ⟨x,k,hr,hk⟩ | ⟨e,k,hr,he,hk⟩
  rotate_left
  ·rw [hr];exact aT.er he hk
  rw [hr]
  dsimp only
  refine aT.ite ?_ ?_
  ·exact aT.ok _ hk
  ·exact aT.er (by decide) hk
 ·refine aT.ite ?_ ?_
  ·exact aT.ok _ hk
  ·exact aT.er (by decide) hk
theorem ahz:∀(n:Nat) {a:Nat},a≤b.length→aT b.length (gL n b a)
 | 0,a,ha=>aT.ok _ ha
 | n+1,a,ha=>by
  unfold gL
  rcases (y_ ha).cs with ⟨x,k,hr,hk⟩ | ⟨e,k,hr,he,hk⟩
  rotate_left
  ·rw [hr];exact aT.er he hk
  rw [hr]
  dsimp only
  rcases (ahz n hk).cs with ⟨x,k,hr,hk⟩ | ⟨e,k,hr,he,hk⟩
  rotate_left
  ·rw [hr];exact aT.er he hk
  rw [hr]
  dsimp only
  exact aT.ok _ hk
theorem ajR (ha:a≤b.length):aT b.length (gA b a):=by
 unfold gA
 rcases (y_ ha).cs with ⟨x,k,hr,hk⟩ | ⟨e,k,hr,he,hk⟩
 rotate_left
 ·rw [hr];exact aT.er he hk
 rw [hr]
 dsimp only
 refine aT.ite ?_ ?_
 ·exact aT.er (by decide) hk
 ·refine aT.ite ?_ ?_
  ·rcases (y_ hk).cs with ⟨x,k,hr,hk⟩ | ⟨e,k,hr,he,hk⟩
   rotate_left
   ·rw [hr];exact aT.er he hk
   rw [hr]
   dsimp only
   rcases (y_ hk).cs with ⟨x,k,hr,hk⟩ | ⟨e,k,hr,he,hk⟩
   rotate_left
   ·rw [hr];exact aT.er he hk
   rw [hr]
   dsimp only
   exact aT.ok _ hk
  ·rcases (y_ hk).cs with ⟨x,k,hr,hk⟩ | ⟨e,k,hr,he,hk⟩
   rotate_left
   ·rw [hr];exact aT.er he hk
   rw [hr]
   dsimp only
   exact aT.ok _ hk
theorem ajV {i:Int} (ha:a≤b.length):aT b.length (gM i b a):=by
 unfold gM
 refine aT.ite ?_ ?_
 ·rcases (ajU ha).cs with ⟨⟨p,q,r⟩,k,hr,hk⟩ | ⟨e,k,hr,he,hk⟩
  rotate_left
  ·rw [hr];exact aT.er he hk
  rw [hr]
  dsimp only
  exact aT.ok _ hk
 ·refine aT.ite ?_ ?_
  ·rcases (ajS ha).cs with ⟨x,k,hr,hk⟩ | ⟨e,k,hr,he,hk⟩
   rotate_left
   ·rw [hr];exact aT.er he hk
   rw [hr]
   dsimp only
   rcases (ahz _ hk).cs with ⟨x,k,hr,hk⟩ | ⟨e,k,hr,he,hk⟩
   rotate_left
   ·rw [hr];exact aT.er he hk
   rw [hr]
   dsimp only
   rcases (y_ hk).cs with ⟨x,k,hr,hk⟩ | ⟨e,k,hr,he,hk⟩
   rotate_left
   ·rw [hr];exact aT.er he hk
   rw [hr]
   dsimp only
   exact aT.ok _ hk
  ·refine aT.ite ?_ ?_
   ·rcases (y_ ha).cs with ⟨x,k,hr,hk⟩ | ⟨e,k,hr,he,hk⟩
    rotate_left
    ·rw [hr];exact aT.er he hk
    rw [hr]
    dsimp only
    rcases (y_ hk).cs with ⟨x,k,hr,hk⟩ | ⟨e,k,hr,he,hk⟩
    rotate_left
    ·rw [hr];exact aT.er he hk
    rw [hr]
    dsimp only
    exact aT.ok _ hk
   ·refine aT.ite ?_ ?_
    ·rcases (y_ ha).cs with ⟨x,k,hr,hk⟩ | ⟨e,k,hr,he,hk⟩
     rotate_left
     ·rw [hr];exact aT.er he hk
     rw [hr]
     dsimp only
     refine aT.ite ?_ ?_
     ·rcases (M5 hk).cs with ⟨x,k,hr,hk⟩ | ⟨e,k,hr,he,hk⟩
      rotate_left
      ·rw [hr];exact aT.er he hk
      rw [hr]
      dsimp only
      exact aT.ok _ hk
     ·exact aT.er (by decide) hk
    ·refine aT.ite ?_ ?_
     ·rcases (y_ ha).cs with ⟨x,k,hr,hk⟩ | ⟨e,k,hr,he,hk⟩
      rotate_left
      ·rw [hr];exact aT.er he hk
      rw [hr]
      dsimp only
      exact aT.ok _ hk
     ·refine aT.ite ?_ ?_
      ·rcases (ajR ha).cs with ⟨⟨p,q,r⟩,k,hr,hk⟩ | ⟨e,k,hr,he,hk⟩
       rotate_left
       ·rw [hr];exact aT.er he hk
       rw [hr]
       dsimp only
       exact aT.ok _ hk
      ·refine aT.ite ?_ ?_
       ·rcases (aep ha).cs with ⟨x,k,hr,hk⟩ | ⟨e,k,hr,he,hk⟩
        rotate_left
        ·rw [hr];exact aT.er he hk
        rw [hr]
        dsimp only
        exact aT.ok _ hk
       ·refine aT.ite ?_ ?_
        ·rcases (aep ha).cs with ⟨x,k,hr,hk⟩ | ⟨e,k,hr,he,hk⟩
         rotate_left
         ·rw [hr];exact aT.er he hk
         rw [hr]
         dsimp only
         exact aT.ok _ hk
        ·refine aT.ite ?_ ?_
         ·rcases (M5 ha).cs with ⟨x,k,hr,hk⟩ | ⟨e,k,hr,he,hk⟩
          rotate_left
          ·rw [hr];exact aT.er he hk
          rw [hr]
          dsimp only
          refine aT.ite ?_ ?_
          ·exact aT.ok _ hk
          ·exact aT.er (by decide) hk
         ·refine aT.ite ?_ ?_
          ·exact aT.ok _ ha
          ·rcases (y_ ha).cs with ⟨x,k,hr,hk⟩ | ⟨e,k,hr,he,hk⟩
           rotate_left
           ·rw [hr];exact aT.er he hk
           rw [hr]
           dsimp only
           exact aT.ok _ hk
theorem ajT (ha:a≤b.length):aT b.length (gI b a):=by
 unfold gI
 rcases (ajW ha).cs with ⟨x,k,hr,hk⟩ | ⟨e,k,hr,he,hk⟩
 rotate_left
 ·rw [hr];exact aT.er he hk
 rw [hr]
 dsimp only
 rcases (ajV hk).cs with ⟨x,k,hr,hk⟩ | ⟨e,k,hr,he,hk⟩
 rotate_left
 ·rw [hr];exact aT.er he hk
 rw [hr]
 dsimp only
 exact aT.ok _ hk
theorem ahx:∀(f d:Nat) {a:Nat} {m:Int},a≤b.length→aT b.length (gE f d b a m)
 | 0,d,a,m,ha=>aT.er (by decide) ha
 | f+1,d,a,m,ha=>by
  unfold gE
  refine aT.ite ?_ ?_
  ·exact aT.er (by decide) ha
  ·rcases (ajT ha).cs with ⟨x,k,hr,hk⟩ | ⟨e,k,hr,he,hk⟩
   rotate_left
   ·rw [hr];exact aT.er he hk
   rw [hr]
   dsimp only
   refine aT.ite ?_ ?_
   ·exact aT.ok _ hk
   ·rcases (ahx f _ hk).cs with ⟨x,k,hr,hk⟩ | ⟨e,k,hr,he,hk⟩
    rotate_left
    ·rw [hr];exact aT.er he hk
    rw [hr]
    dsimp only
    exact aT.ok _ hk
theorem ajX (ha:a≤b.length):aT b.length (gX b a):=ahx _ _ ha
theorem Ha:dy b (YG b) (gNm b):=by
 intro a e ha
 refine ⟨Og ha,fun he=>?_,fun he=>?_⟩
 ·unfold YG cO;rw [pp he];rfl
 ·subst he
  unfold gNm
  by_cases h:(cO true b a 0).2.2=0
  ·rw [ap h]
   refine .inl ⟨_,_,rfl,?_⟩
   show cO true b a 0=((cO true b a 0).1,(cO true b a 0).2.1,0)
   exact Prod.ext rfl (Prod.ext rfl h)
  ·rw [ah h]
   exact .inr ⟨_,_,rfl,h,rfl⟩
theorem VC (ha:a≤b.length):aT b.length (FI b a):=by
 unfold FI
 exact (ZE ha).bd fun x k hk=>aT.ite (aT.er (by decide) hk) ((y_ hk).bd fun mn k hk=>aT.ite ((y_ hk).bd fun mx k hk=>aT.ite (aT.er (by decide) hk) (aT.ok _ hk)) (aT.ok _ hk))
theorem ahA (ha:a≤b.length):aT b.length (H6 b a):=by
 unfold H6
 exact (M5 ha).bd fun t k hk=>aT.ite ((VC hk).bd fun l k hk=>aT.ok _ hk) (aT.er (by decide) hk)
theorem ahy (ha:a≤b.length):aT b.length (GW b a):=by
 unfold GW
 exact (M5 ha).bd fun t k hk=>(ZE hk).bd fun x k hk=>aT.ite (aT.er (by decide) hk) (aT.ok _ hk)
end
def Bk {α:Type} (one:List UInt8→Nat→Rd α) (enc:α→List UInt8) (x:α):Prop:=∀(b:List UInt8) (a:Nat) (r:List UInt8),b.drop a=enc x++r→one b a = .ok (x,a+(enc x).length)
theorem Si {α:Type} {one:List UInt8→Nat→Rd α} {enc:α→List UInt8}:∀(l:List α),(∀x∈l,Bk one enc x)→∀(b:List UInt8) (a:Nat) (r:List UInt8),b.drop a=l.flatMap enc++r→gN one l.length b a = .ok (l,a+(l.flatMap enc).length)
 | [],_,b,a,r,_=>rfl
 | x :: l,h,b,a,r,hd=>by
  rw [pk,du] at hd
  rw [eA,gN,h x (by simp) b a _ hd,aM,Si l (fun y hy=>h y (by simp [hy])) b _ r (bD hd),aM,pk,bE,kI]
theorem ji {α:Type} {one:List UInt8→Nat→Rd α} {enc:α→List UInt8} {l:List α} {most:Int} (hm:(l.length:Int)≤most) (hs:most<4294967296) (h:∀x∈l,Bk one enc x):Bk (mM one most) (aE enc) l:=by
 intro b a r hd
 unfold aE at hd ⊢
 rw [du] at hd
 unfold mM
 rw [GV (by omega) hm hd,aM,Si l h b _ r (bD hd),bE,kI]
theorem Fu {t:Int}:m5 t=true↔1≤t∧t≤4:=by
 unfold m5 nuB Jt
 simp only [qr,beq_iff_eq]
 omega
theorem Aq {t:Int}:Jt t=true↔t=3∨t=4:=by
 unfold Jt
 simp only [qr,beq_iff_eq]
theorem zS {t:Int} (h:m5 t=true):Bk gV eD t:=fun b a r hd=>Sn (Fu.1 h) hd
theorem R8 {x:Ft} (h:LT x=0):x.ps.length≤8∧x.rs.length≤8∧(∀t∈x.ps,m5 t=true)∧∀t∈x.rs,m5 t=true:=by
 unfold LT at h
 by_cases h1:x.ps.length>8∨x.rs.length>8
 ·rw [ap h1] at h;cases h
 rw [ah h1] at h
 by_cases h2:pu x.ps=false∨pu x.rs=false
 ·rw [ap h2] at h;cases h
 have k:∀l,¬pu l=false→∀t∈l,m5 t=true:=fun l hl=>by
  have:pu l=true:=by simpa using hl
  unfold pu at this
  exact fg.1 this
 exact ⟨by omega,by omega,k _ fun g=>h2 (.inl g),k _ fun g=>h2 (.inr g)⟩
theorem W8 {x:Ft} (h:LT x=0):Bk W7 oN x:=by
 intro b a r hd
 obtain ⟨h1,h2,h3,h4⟩:=R8 h
 unfold oN at hd ⊢
 rw [show (96 :: (aE eD x.ps++aE eD x.rs):List UInt8)++r=[96]++(aE eD x.ps++(aE eD x.rs++r)) by simp] at hd
 unfold W7
 rw [wI hd,aM,ap rfl]
 have hd2:=bD hd
 rw [cM] at hd2
 rw [ji (by omega) (by decide) (fun t ht=>zS (h3 t ht)) b _ _ hd2,aM]
 have hd3:=bD hd2
 rw [ji (by omega) (by decide) (fun t ht=>zS (h4 t ht)) b _ _ hd3,aM]
 simp only [eA,bE]
 congr 2
 omega
def L7 (l:Lm):Prop:=(0≤l.mn∧l.mn<4294967296)∧(l.hs=true→l.mn≤l.mx∧l.mx<4294967296)∧(l.hs=false→l.mx=0)
theorem aaa {l:Lm} {most:Int} (hm:most<4294967296) (h:Qv l most=true):L7 l:=by
 unfold Qv at h
 by_cases h1:l.mn<0∨l.mn>most
 ·rw [ap h1] at h;cases h
 rw [ah h1] at h
 by_cases h2:l.hs=false
 ·rw [ap h2,beq_iff_eq] at h
  exact ⟨by omega,(fun q=>by rw [h2] at q;cases q),fun _=>h⟩
 ·rw [ah h2,cC,fo,fo] at h
  exact ⟨by omega,fun _=>by omega,fun q=>absurd q h2⟩
theorem H3 {l:Lm} (h:L7 l):Bk FI jH l:=by
 intro b a r hd
 obtain ⟨⟨h0,h1⟩,h2,h3⟩:=h
 obtain ⟨mn,mx,hs⟩:=l
 simp only at h0 h1 h2 h3
 unfold jH at hd ⊢
 unfold FI
 cases hs with
 | true =>
  obtain ⟨g1,g2⟩:=h2 rfl
  obtain ⟨m,rfl⟩:=Bt h0
  obtain ⟨n,rfl⟩:=Bt (show 0≤mx by omega)
  simp only [aF,ce] at hd ⊢
  rw [show (1 :: (aq m++aq n):List UInt8)++r=[1]++(aq m++(aq n++r)) by simp] at hd
  have hd2:=bD hd
  have hd3:=bD hd2
  rw [cM] at hd2 hd3
  rw [wI hd,aM,ah (by decide),c_ (by omega) hd2,aM,ap rfl,c_ (by omega) hd3,aM,ah (by omega)]
  simp only [eA,bE]
  congr 2
  omega
 | false =>
  obtain rfl:=h3 rfl
  obtain ⟨m,rfl⟩:=Bt h0
  simp only [iD,bc,ce] at hd ⊢
  rw [show (0 :: aq m:List UInt8)++r=[0]++(aq m++r) by simp] at hd
  have hd2:=bD hd
  rw [cM] at hd2
  rw [wI hd,aM,ah (by decide),c_ (by omega) hd2,aM,ah (by decide)]
  simp only [eA]
  congr 2
  omega
theorem Vp {x:Tb} (h:Le x=0):(x.e=3∨x.e=4)∧L7 x.l:=by
 unfold Le at h
 by_cases h1:Jt x.e=false
 ·rw [ap h1] at h;cases h
 rw [ah h1] at h
 by_cases h2:Qv x.l 1024=false
 ·rw [ap h2] at h;cases h
 exact ⟨Aq.1 (by simpa using h1),aaa (most:=1024) (by decide) (by simpa using h2)⟩
theorem G4 {l:Lm} (h:NY l=0):L7 l:=by
 unfold NY at h
 by_cases h2:Qv l 256=false
 ·rw [ap h2] at h;cases h
 exact aaa (most:=256) (by decide) (by simpa using h2)
theorem Ny {x:Tb} (h:Le x=0):Bk H6 nw x:=by
 intro b a r hd
 obtain ⟨h1,h2⟩:=Vp h
 unfold nw at hd ⊢
 rw [du] at hd
 have hd2:=bD hd
 unfold H6
 rw [zS (Fu.2 (by omega)) b a _ hd,aM,ap h1,H3 h2 b _ _ hd2,aM,bE,kI]
theorem Z5 {g:Gl} (h:VK g=0):m5 g.v=true:=by
 unfold VK at h
 by_cases h1:m5 g.v=false
 ·rw [ap h1] at h;cases h
 ·simpa using h1
theorem Nw {g:Gl} (h:m5 g.v=true):Bk GW BE g:=by
 intro b a r hd
 unfold BE at hd ⊢
 rw [du] at hd
 have hd2:=bD hd
 unfold GW
 rw [zS h b a _ hd,aM,wI hd2,aM]
 obtain ⟨v,mu⟩:=g
 cases mu
 ·simp only [iD,bc]
  rw [ah (by decide)]
  simp only [bE,eD,cM,kI]
  rfl
 ·simp only [aF]
  rw [ah (by decide)]
  simp only [bE,eD,cM,kI]
  rfl
theorem H5 {s:List UInt8} (h:xP s=0):Bk gNm wG s:=by
 have hl:s.length≤64∧uv s=true:=by
  unfold xP at h
  by_cases h1:s.length>64
  ·rw [ap h1] at h;cases h
  rw [ah h1] at h
  by_cases h2:uv s=false
  ·rw [ap h2] at h;cases h
  ·exact ⟨by omega,by simpa using h2⟩
 intro b a r hd
 unfold wG at hd ⊢
 rw [du] at hd
 have hd2:=bD hd
 have hc:bS true b a 0 64=(s.length,a+(aq s.length).length,0):=by
  have g:=GV (most:=64) (by omega) (by omega) hd
  have ha:a≤b.length:=by
   rcases fX b.length a with q | q
   ·rw [List.drop_eq_nil_of_le (by omega)] at hd
    have:=congrArg List.length hd
    have p:=kw s.length
    simp only [bE,b_] at this
    omega
   ·exact q
  rcases yL 64 ha with ⟨n,k,g1,g2,_⟩ | ⟨e,he,g1,_⟩
  ·rw [g] at g1;cases g1;exact g2
  ·rw [g] at g1;cases g1
 have hln:=x9 hd (by have:=kw s.length;omega)
 rw [bE] at hln
 have ht:bh true b (a+(aq s.length).length) 0 (s.length:Int)=(some s,a+(aq s.length).length+s.length,0):=by
  unfold bh
  rw [ap rfl,ah (by omega),ah (by omega),hd2,ce,List.take_left]
 have hn:cO true b a 0=(s,a+(aq s.length).length+s.length,0):=by
  unfold cO
  rw [ap rfl,hc]
  simp only [beq_self_eq_true]
  rw [ht]
  unfold sL
  simp [hl.2]
 unfold gNm
 rw [hn,ap rfl,bE,kI]
theorem SM {x:Im} (h:L6 x=0):xP x.m=0∧xP x.n=0∧(0≤x.k∧x.k≤3)∧DP x=x∧(x.k=0→rP x.f=true)∧(x.k=1→Le ⟨x.te,x.tl⟩=0)∧(x.k=2→NY x.me=0)∧(x.k=3→VK x.g=0):=by
 unfold L6 at h
 by_cases h1:xP x.m≠0
 ·rw [ap h1] at h;exact absurd h h1
 rw [ah h1] at h
 by_cases h2:xP x.n≠0
 ·rw [ap h2] at h;exact absurd h h2
 rw [ah h2] at h
 by_cases h3:x.k<0∨x.k>3∨DP x≠x
 ·rw [ap h3] at h;cases h
 rw [ah h3] at h
 refine ⟨Decidable.not_not.1 h1,Decidable.not_not.1 h2,by omega,Decidable.not_not.1 fun q=>h3 (.inr (.inr q)),fun q=>?_,fun q=>?_,fun q=>?_,fun q=>?_⟩
 ·rw [ah (by omega),ah (by omega),ah (by omega)] at h
  by_cases h4:rP x.f=false
  ·rw [ap h4] at h;cases h
  ·simpa using h4
 ·rw [ap q] at h;exact h
 ·rw [ah (by omega),ap q] at h;exact h
 ·rw [ah (by omega),ah (by omega),ap q] at h;exact h
theorem dI {n:Int}:rP n=true↔0≤n∧n<4294967296:=by
 unfold rP
 simp only [cC,fo,ge_iff_le]
theorem D9 {n:Int} (h:rP n=true) {b r:List UInt8} {a:Nat} (hd:b.drop a=aq n.toNat++r):gU b a = .ok (n.toNat,a+(aq n.toNat).length):=c_ (by have:=dI.1 h;omega) hd
theorem W_ {x:Im} (h:L6 x=0):Bk Z0 oP x:=by
 intro b a r hd
 obtain ⟨h1,h2,h3,h4,h5,h6,h7,h8⟩:=SM h
 obtain ⟨m,n,k,f,te,tl,me,g⟩:=x
 simp only at h1 h2 h3 h5 h6 h7 h8
 unfold oP at hd ⊢
 unfold Z0
 simp only [du] at hd ⊢
 have hd2:=bD hd
 have hd3:=bD hd2
 have hd4:=bD hd3
 rw [H5 h1 b a _ hd,aM,H5 h2 b _ _ hd2,aM,wI hd3,aM]
 rw [cM] at hd4
 unfold DP at h4
 rcases (show k=0∨k=1∨k=2∨k=3 by omega) with rfl | rfl | rfl | rfl
 ·simp only [aF] at h4 hd4 ⊢
  simp only [Im.mk.injEq,true_and] at h4
  obtain ⟨rfl,rfl,rfl,rfl⟩:=h4
  rw [ap (by decide),D9 (h5 rfl) hd4,aM]
  have:=dI.1 (h5 rfl)
  simp only [bE,cM]
  congr 2
  ·congr 1;omega
  ·omega
 ·simp only [Int.reduceEq,aF,bc] at h4 hd4 ⊢
  simp only [Im.mk.injEq,true_and,and_true] at h4
  obtain ⟨rfl,rfl,rfl⟩:=h4
  rw [ah (by decide),ap (by decide),Ny (h6 rfl) b _ _ hd4,aM]
  simp only [bE,cM]
  congr 2
  omega
 ·simp only [Int.reduceEq,aF,bc] at h4 hd4 ⊢
  simp only [Im.mk.injEq,true_and,and_true] at h4
  obtain ⟨rfl,rfl,rfl,rfl⟩:=h4
  rw [ah (by decide),ah (by decide),ap (by decide),H3 (G4 (h7 rfl)) b _ _ hd4,aM]
  simp only [bE,cM]
  congr 2
  omega
 ·simp only [Int.reduceEq,aF,bc] at h4 hd4 ⊢
  simp only [Im.mk.injEq,true_and,and_true] at h4
  obtain ⟨rfl,rfl,rfl,rfl⟩:=h4
  rw [ah (by decide),ah (by decide),ah (by decide),ap (by decide),Nw (Z5 (h8 rfl)) b _ _ hd4,aM]
  simp only [bE,cM]
  congr 2
  omega
section
theorem ahs (t:Int):FL t=m5 t:=by
 unfold FL m5 nuB Jt
 rw [Bool.eq_iff_iff]
 simp only [cC,qr,fo,beq_iff_eq]
 omega
theorem Hs {t:Int} (h:m5 t=true):WX qN [.int .i64 t] (eD t):=fun l hl=>yU (l:=l) (e:=0) (by omega) t (by rw [ahs];exact h)
theorem sa {s:List UInt8} (h:xP s=0):WX lZ [.str s] (wG s):=fun l hl=>by
 have hs:s.length≤64∧uv s=true:=by
  unfold xP at h
  by_cases h1:s.length>64
  ·rw [ap h1] at h;cases h
  rw [ah h1] at h
  by_cases h2:uv s=false
  ·rw [ap h2] at h;cases h
  ·exact ⟨by omega,by simpa using h2⟩
 have c:=Om true l s 0 ⟨by omega,by omega⟩
 have e:wN (true&&(0:Int)==0) l 0 s=(l++wG s,0):=by
  unfold wN wG
  simp [hs.2]
  omega
 rw [e] at c
 exact c
theorem Tl {y:Lm} (h:L7 y):Qv y 4294967295=true:=by
 obtain ⟨h1,h2,h3⟩:=h
 unfold Qv
 rw [ah (by omega)]
 by_cases q:y.hs=false
 ·rw [ap q,beq_iff_eq];exact h3 q
 ·rw [ah q]
  have:=h2 (by simpa using q)
  simp only [cC,fo]
  omega
attribute [local go_sem] di wo wa dE d_ aW
theorem VE {y:Lm} (h:L7 y):WX iW [.agg (ry y)] (jH y):=by
 intro l hl
 have hr:=h.1
 refine bF iO ?_
 have c1:=Ij y 4294967295
 rw [Tl h,db] at c1
 have h2:=h.2.1
 cases hh:y.hs
 ·have e:jH y=[0]++aq y.mn.toNat:=by unfold jH;rw [hh];rfl
  rw [e] at hl ⊢
  simp only [bE,eA,b_] at hl
  simp only [go_sem,iO,db,hh]
  rw [hh] at c1
  refine aa (c1) ?_
  refine aC (VT 0) rfl ?_
  simp only [go_sem]
  refine aC (VU hr) rfl ?_
  simp only [go_sem]
  exact cR (fun _ h=>by cases h) rfl (by rfl) (by rfl) (by simp [])
 ·have e:jH y=[1]++(aq y.mn.toNat++aq y.mx.toNat):=by unfold jH;rw [hh];rfl
  rw [e] at hl ⊢
  have hx:=h2 hh
  simp only [bE,eA,b_] at hl
  simp only [go_sem,iO,db,hh]
  rw [hh] at c1
  refine aa (c1) ?_
  refine aC (VT 1) rfl ?_
  simp only [go_sem]
  refine aC (VU hr) rfl ?_
  simp only [go_sem]
  refine aC (VU (n:=y.mx) (by omega)) rfl ?_
  simp only [go_sem]
  exact cR (fun _ h=>by cases h) rfl (by rfl) (by rfl) (by simp [])
theorem aaP {x:Tb} (h:Le x=0):WX jw [.agg (xR x)] (nw x):=by
 intro l hl
 obtain ⟨h1,h2⟩:=Vp h
 refine bF oy ?_
 have c1:=Kj x.e
 have c2:=Ij x.l 4294967295
 rw [Tl h2,db] at c2
 rw [Aq.2 h1] at c1
 have c3:=VE h2
 rw [db] at c3
 unfold nw at hl ⊢
 simp only [bE] at hl
 simp only [go_sem,oy,dt]
 refine aa (c1) ?_
 refine aa (c2) ?_
 refine aC (Hs (Fu.2 (by omega))) rfl ?_
 simp only [go_sem]
 refine aC (c3) rfl ?_
 simp only [go_sem]
 exact cR (fun _ h=>by cases h) rfl (by rfl) (by rfl) (by simp [])
theorem aaO {g:Gl} (h:m5 g.v=true):WX vU [.agg (NB g)] (BE g):=by
 intro l hl
 refine bF iN ?_
 have c1:=NW g.v
 rw [h] at c1
 unfold BE at hl ⊢
 cases hm:g.mu
 ·rw [hm] at hl
  simp only [bE,eA,b_,iD,bc] at hl ⊢
  simp only [go_sem,iN,NB,hm]
  refine aa (c1) ?_
  refine aC (Hs h) rfl ?_
  simp only [go_sem]
  refine aC (VT 0) rfl ?_
  simp only [go_sem]
  exact cR (fun _ h=>by cases h) rfl (by rfl) (by rfl) (by simp [])
 ·rw [hm] at hl
  simp only [bE,eA,b_,aF] at hl ⊢
  simp only [go_sem,iN,NB,hm]
  refine aa (c1) ?_
  refine aC (Hs h) rfl ?_
  simp only [go_sem]
  refine aC (VT 1) rfl ?_
  simp only [go_sem]
  exact cR (fun _ h=>by cases h) rfl (by rfl) (by rfl) (by simp [])
end
section
def RP {α:Type} (f:FuncId) (rest:List AV) (b:List UInt8) (t:PS α) (av:α→AV):Prop :=
 ∀(a:Nat) (e:Int),a≤b.length→RM f rest true b a e (av (t a e).1) (t a e).2.1 (t a e).2.2
theorem RP.of {α:Type} {f:FuncId} {rest:List AV} {b:List UInt8} {g:Nat→Rd α} {d:α} {av:α→AV} (h0:∀a,a≤b.length→RX f rest b a (g a) d av) (h1:∀(a:Nat) (e:Int),a≤b.length→e≠0→RM f rest true b a e (av d) a e):RP f rest b (i6 g d) av:=by
 intro a e ha
 unfold i6
 by_cases he:e=0
 ·subst he
  rw [ap rfl]
  refine aX.mono (h0 a ha) (fun _ h=>h) ?_
  rintro r' σ' ⟨q,⟨_,⟨x,k,hr,rfl⟩ | ⟨e,hr,_,h2,h3⟩⟩,rfl,rfl⟩
  ·rw [hr];exact ⟨rfl,rfl⟩
  ·rw [hr,← h2,← h3];exact ⟨rfl,rfl⟩
 ·rw [ah he]
  exact h1 a e ha he
variable {b:List UInt8} (hb:b.length<1000000000)
include hb
theorem Ai:RP lW [] b (fV b) (fun x=>.int .u8 x.toNat):=fun a e ha=>pd true b a e ha hb
theorem N_:RP ny [] b (sY b) (fun x=>.int .i64 (x:Nat)):=fun a e ha=>fe true b a e ha hb
theorem YK (most:Int):RP cJ [.int .i64 most] b (pC b most) (fun x=>.int .i64 (x:Nat)):=fun a e ha=>I5 true b a e most ha hb
theorem adb:RP lX [] b (YG b) .str:=fun a e ha=>U0 true b a e ha hb
theorem YL:RP k8 [] b (i6 (gV b) 0) (.int .i64):=RP.of (fun a ha=>Fe ha hb) fun a e ha he=>xH ha hb he
omit hb in
def Jn (x:Lm):AV:=.agg (ry x)
omit hb in
theorem u0:((((0:UInt8).toNat:Nat):Int)==1)=false:=rfl
omit hb in
theorem u1:((((1:UInt8).toNat:Nat):Int)==1)=true:=rfl
omit hb in
theorem d0:decide ((((0:UInt8).toNat:Nat):Int)>1)=false:=rfl
omit hb in
theorem d1:decide ((((1:UInt8).toNat:Nat):Int)>1)=false:=rfl
attribute [local go_sem] ro wo wa d_ dE
theorem Qc {a:Nat} {e:Int} (ha:a≤b.length) (he:e≠0):RM eO [] true b a e (Jn ⟨0,0,false⟩) a e:=by
 refine bF eL ?_
 simp only [go_sem,eL]
 refine ab (pd true b a e ha hb) ?_
 simp only [go_sem,pp he,bU,vy]
 refine ab (aP true b a e) ?_
 simp only [go_sem,pp he]
 try simp only [go_sem]
 refine ⟨by kernel_rfl,?_⟩
 refine ab (fe true b _ _ ha hb) ?_
 simp only [go_sem,pp he,bU,Co,u0]
 refine ab (aP true b _ _) ?_
 simp only [go_sem,pp he]
 refine ab (aP true b _ _) ?_
 simp only [go_sem,vj he]
 exact done [] _ [(1000,ro true b a e)] (by simp only [go_sem,Jn,ry]) (by simp only [go_sem]) rfl ⟨rfl,rfl⟩
omit hb in
theorem aaK (x:UInt8):x>1∧decide ((x.toNat:Int)>1)=true∧x≠1∨x=0∨x=1:=by
 by_cases h:x>1
 ·refine .inl ⟨h,?_,fun e=>by subst e;exact absurd h (by decide)⟩
  have:=UInt8.lt_iff_toNat_lt.1 h
  have e:(1:UInt8).toNat=1:=rfl
  exact aO (by omega)
 ·refine .inr ?_
  have h2:x.toNat≤1:=by
   have:=mt UInt8.lt_iff_toNat_lt.2 h
   have e:(1:UInt8).toNat=1:=rfl
   omega
  rcases (show x.toNat=0∨x.toNat=1 by omega) with h3 | h3
  ·exact .inl (UInt8.toNat_inj.1 h3)
  ·exact .inr (UInt8.toNat_inj.1 h3)
theorem Zc {a:Nat} (ha:a≤b.length):RX eO [] b a (FI b a) ⟨0,0,false⟩ Jn:=by
 refine bF eL ?_
 simp only [go_sem,eL]
 refine ab (pd true b a 0 ha hb) ?_
 unfold FI
 rcases yK b a with ⟨x,h1,h2,h3⟩ | ⟨h1,h2⟩
 rotate_left
 ·rw [h1,oH]
  simp only [go_sem,nF,h2]
  refine aA (aP true b a 3) ?_
  have he:(3:Int)≠0:=by decide
  try simp only [go_sem]
  refine ⟨by kernel_rfl,?_⟩
  refine ab (fe true b _ _ ha hb) ?_
  simp only [go_sem,pp he,bU,Co,u0]
  refine ab (aP true b _ _) ?_
  simp only [go_sem,pp he]
  refine ab (aP true b _ _) ?_
  simp only [go_sem,vj he]
  exact done [] _ [(1000,ro true b a 3)] (by simp only [go_sem,Jn,ry]) (by simp only [go_sem]) rfl ⟨(⟨0,0,false⟩,a,3),jE.er rfl he ha,rfl,rfl⟩
 rw [h1,aM]
 clear ha
 have ha:=h3
 clear h3
 simp only [go_sem,nF,h2]
 clear h1 h2
 generalize a+1=k at *
 refine ab (aP true b (k:Nat) 0) ?_
 rcases aaK x with ⟨hx,hd,hn⟩ | rfl | rfl
 ·rw [ap hx]
  simp only [go_sem,hd]
  refine ab (cj b k 4) ?_
  have he:(4:Int)≠0:=by decide
  have hq:((x.toNat:Int)==1)=false:=by
   refine gy.2 fun h=>hn (UInt8.toNat_inj.1 ?_)
   have e:(1:UInt8).toNat=1:=rfl
   omega
  simp only [go_sem]
  refine ⟨by kernel_rfl,?_⟩
  refine ab (fe true b _ _ ha hb) ?_
  simp only [go_sem,pp he,bU,Co,hq]
  refine ab (aP true b _ _) ?_
  simp only [go_sem,pp he]
  refine ab (aP true b _ _) ?_
  simp only [go_sem,vj he]
  exact done [] _ [(1000,ro true b k 4)] (by simp only [go_sem,Jn,ry]) (by simp only [go_sem]) rfl ⟨(⟨0,0,false⟩,k,4),jE.er rfl he ha,rfl,rfl⟩
 ·simp only [go_sem,d0]
  refine ⟨by kernel_rfl,?_⟩
  refine ab (fe true b _ _ ha hb) ?_
  rw [ah (by decide)]
  simp only [ah (show ¬(0:UInt8)=1 by decide)]
  rcases uw ha with ⟨n,k1,g1,g2,g3,g4⟩ | ⟨e,he,g1,g2⟩
  ·rw [g1,aM]
   simp only [go_sem,nF,g2,u0]
   refine aA (aP true b (k1:Nat) 0) ?_
   refine aA (aP true b (k1:Nat) 0) ?_
   exact done [] _ [(1000,ro true b k1 0)] (by simp only [go_sem,Jn,ry]) (by simp only [go_sem]) rfl ⟨(⟨n,0,false⟩,k1,0),jE.ok rfl g4,rfl,rfl⟩
  ·rw [g1,oH]
   simp only [go_sem,nF,g2,u0]
   refine ab (aP true b (k:Nat) e) ?_
   simp only [go_sem,pp he]
   refine ab (aP true b (k:Nat) e) ?_
   simp only [go_sem,vj he]
   exact done [] _ [(1000,ro true b k e)] (by simp only [go_sem,Jn,ry]) (by simp only [go_sem]) rfl ⟨(⟨0,0,false⟩,k,e),jE.er rfl he ha,rfl,rfl⟩
 ·simp only [go_sem,d1]
  refine ⟨by kernel_rfl,?_⟩
  refine ab (fe true b _ _ ha hb) ?_
  rw [ah (by decide)]
  simp only [ap rfl]
  rcases uw ha with ⟨n,k1,g1,g2,g3,g4⟩ | ⟨e,he,g1,g2⟩
  ·rw [g1,aM]
   simp only [go_sem,nF,g2,u1]
   refine ⟨by kernel_rfl,?_⟩
   refine ab (fe true b _ _ g4 hb) ?_
   rcases uw g4 with ⟨m,k2,j1,j2,j3,j4⟩ | ⟨e,he,j1,j2⟩
   ·rw [j1,aM]
    simp only [go_sem,nF,j2,u1]
    refine ab (aP true b (k2:Nat) 0) ?_
    by_cases hl:m<n
    ·rw [ap hl]
     have hl':(m:Int)<(n:Int):=by omega
     simp only [go_sem,aO hl']
     refine aA (cj b k2 20) ?_
     refine aA (aP true b (k2:Nat) 20) ?_
     exact done [] _ [(1000,ro true b k2 20)] (by simp only [go_sem,Jn,ry]) (by simp only [go_sem]) rfl ⟨(⟨0,0,false⟩,k2,20),jE.er rfl (by decide) j4,rfl,rfl⟩
    ·rw [ah hl]
     have hl':¬(m:Int)<(n:Int):=by omega
     simp only [go_sem,aQ hl']
     refine aA (aP true b (k2:Nat) 0) ?_
     exact done [] _ [(1000,ro true b k2 0)] (by simp only [go_sem,Jn,ry]) (by simp only [go_sem]) rfl ⟨(⟨n,m,true⟩,k2,0),jE.ok rfl j4,rfl,rfl⟩
   ·rw [j1,oH]
    simp only [go_sem,nF,j2,u1]
    refine ab (aP true b (k1:Nat) e) ?_
    simp only [go_sem,pp he]
    refine ab (aP true b (k1:Nat) e) ?_
    simp only [go_sem,vj he]
    exact done [] _ [(1000,ro true b k1 e)] (by simp only [go_sem,Jn,ry]) (by simp only [go_sem]) rfl ⟨(⟨0,0,false⟩,k1,e),jE.er rfl he g4,rfl,rfl⟩
  ·rw [g1,oH]
   simp only [go_sem,nF,g2,u1]
   refine ⟨by kernel_rfl,?_⟩
   refine ab (fe true b _ _ ha hb) ?_
   simp only [go_sem,pp he,bU,Co]
   refine ab (aP true b (k:Nat) e) ?_
   simp only [go_sem,pp he]
   refine ab (aP true b (k:Nat) e) ?_
   simp only [go_sem,vj he]
   exact done [] _ [(1000,ro true b k e)] (by simp only [go_sem,Jn,ry]) (by simp only [go_sem]) rfl ⟨(⟨0,0,false⟩,k,e),jE.er rfl he ha,rfl,rfl⟩
theorem PY:RP eO [] b (i6 (FI b) ⟨0,0,false⟩) Jn:=RP.of (fun a ha=>Zc hb ha) fun a e ha he=>Qc hb ha he
end
end Go.Proofs.YtdfofedlbljnhaaGreatDoor