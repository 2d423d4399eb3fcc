import Derived.Test.YtdfofedlbljnhaaGreatDoorXQe
set_option linter.all false
set_option maxRecDepth 100000
set_option maxHeartbeats 4000000
namespace Go.Proofs.YtdfofedlbljnhaaGreatDoor
open Go Go.Mw
def xM{b:Af}{j k:Nat}(h:j<k)(hk:k<=b.length):cY ((b.take k).drop j)=(ac b j).toNat%128+128*cY ((b.take k).drop (j+1)):=by
 have h1:j<(b.take k).length:=by simp;omega
 rw[Kt h1,cY,List.getElem_take,<-bv (show j<b.length by omega)]
def XM{x:Int}(h:x≠0):(x != 0)=true:=by simp[h]
def afr{x:Int}(h:x=0):(x != 0)=false:=by simp[h]
def aiP(b:Af)(bits:Nat)(h:1<=bits/\bits<=64):aj pg 333 [.sl 1 (b.map de),.int .i64 bits] (uR (dm b bits)):=by
 refine aC Fi ?_;simp only[Fi,go_sem];refine ab (NL b bits h) ?_;rcases fY b bits with⟨h1,h2,h3,h4⟩|⟨h1,h2⟩
 .have hm:=G6 h;generalize hi:cx b bits=i at*;have e1:lN b bits = .tup [.int .i64 ((i+1:Nat):Int),.int .i64 0]:=by rw[lN,au h1,hi]
  have w1:IntKind.i64.wrap (((i+1:Nat):Int)-1)=(i:Int):=by rw[wi (by omega) (by omega)];omega
  have hb7:7*i<bits:=by unfold mst at h3;omega
  have w2:IntKind.i64.wrap (7*(i:Int))=((7*i:Nat):Int):=by rw[wi (by omega) (by omega)];omega
  have w3:IntKind.i64.wrap ((bits:Int)-((7*i:Nat):Int))=((bits-7*i:Nat):Int):=by rw[wi (by omega) (by omega)];omega
  have w4:IntKind.i64.wrap ((ac b i).toNat:Int)=((ac b i).toNat:Int):=wi (by omega) (by omega);have v0:cY ((b.take (i+1)).drop (i+1))=0:=by rw[If (by simp;omega)];rfl
  by_cases hl:bits-7*i<7
  .have d1:decide (((bits-7*i:Nat):Int)<7)=true:=aK (by omega);have e2:=sw .i64 (x:=(ac b i).toNat) (s:=bits-7*i) (by show _<=64;omega);have e3:¬((bits-7*i:Nat):Int)<0:=by omega
   have hc:uB bits i=bits-7*i:=by unfold uB;rw[au (by unfold mst at*;omega)]
   by_cases hq:(ac b i).toNat/2^(bits-7*i)=0
   .have r:dm b bits=(cY (b.take (i+1))%18446744073709551616,i+1,0):=by rw[dm,ak (by simp[h1]),hi,hc,ak (by simp[hq])]
    have d2:(((((ac b i).toNat/2^(bits-7*i):Nat):Int)) != 0)=false:=afr (by omega);rw[r];simp only[go_sem,e1,bne_self_eq_false,w1,w2,w3,w4,d1,e2,e3,d2];refine⟨by omega,by omega,aq (λj:Nat=>⟨[(11,.int .i64 ((j:Int)-1)),(10,.int .u64 ((cY ((b.take (i+1)).drop j)%18446744073709551616:Nat):Int)),(7,.int .i64 ((i+1:Nat):Int)),(0,.sl 1 (b.map de))],[]⟩) (λj=>j<=i+1) (λj=>j) (i+1) (a_ _) (Wk.of ?_ ?_) ?_⟩
    .simp only[go_sem,w1,v0];rw[show((i+1:Nat):Int)-1=(i:Int)by omega];exact⟨rfl,rfl⟩
    .simp[go_sem]
    rintro j hj;replace hj:j<=i+1:=hj;cases j with
    | zero =>
     have d9:decide (((0:Nat):Int)-1>=0)=false:=by decide
     simp only[go_sem,d9];exact aB [] (by simp only[go_sem,uR,vX]) rfl
    | succ j =>
     have c1:((j+1:Nat):Int)-1=(j:Int):=by omega
     have d9:decide ((j:Int)>=0)=true:=aK (by omega);have hx:(ac b j).toNat<256:=(ac b j).toNat_lt;have t1:((ac b j).toNat:Int).tmod 128=(((ac b j).toNat%128:Nat):Int):=(Int.ofNat_tmod _ 128).symm;have t2:IntKind.u64.wrap (((ac b j).toNat%128:Nat):Int)=(((ac b j).toNat%128:Nat):Int):=by rw[mq];omega
     have t3:IntKind.u8.wrap (((ac b j).toNat%128:Nat):Int)=(((ac b j).toNat%128:Nat):Int):=by rw[rH];omega
     have t4:IntKind.u64.wrap (IntKind.u64.wrap (((cY ((b.take (i+1)).drop (j+1))%18446744073709551616:Nat):Int)*128)+(((ac b j).toNat%128:Nat):Int))=((cY ((b.take (i+1)).drop j)%18446744073709551616:Nat):Int):=by
      rw[xM (show j<i+1 by omega) (show i+1<=b.length by omega),mq,mq];omega
     have t5:=wi (n:=(j:Int)-1) (by omega) (by omega);simp only[go_sem,c1,d9,t1,t3];refine⟨by omega,by omega,by decide,aF j (show j<=i+1 by omega) (show j<j+1 by omega) (Wk.of ?_ ?_)⟩
     .simp only[go_sem,t1,t2,t3,t4,t5]
     .simp[go_sem]
   .have r:dm b bits=(0,0,4):=by rw[dm,ak (by simp[h1]),hi,hc,au hq]
    have d2:(((((ac b i).toNat/2^(bits-7*i):Nat):Int)) != 0)=true:=XM (by omega);rw[r];simp only[go_sem,e1,bne_self_eq_false,w1,w2,w3,w4,d1,e2,e3,d2];exact⟨by omega,by omega,aB [] (by simp[go_sem,uR]) rfl⟩
  .have d1:decide (((bits-7*i:Nat):Int)<7)=false:=aL (by omega);have hc:uB bits i=7:=by
    unfold uB;by_cases hq:i+1=mst bits
    .rw[au hq];unfold mst at*;omega
    .rw[ak hq]
   have r:dm b bits=(cY (b.take (i+1))%18446744073709551616,i+1,0):=by rw[dm,ak (by simp[h1]),hi,hc,ak (by simp;omega)]
   rw[r];simp only[go_sem,e1,bne_self_eq_false,w1,w2,w3,d1];refine aq (λj:Nat=>⟨[(11,.int .i64 ((j:Int)-1)),(10,.int .u64 ((cY ((b.take (i+1)).drop j)%18446744073709551616:Nat):Int)),(7,.int .i64 ((i+1:Nat):Int)),(0,.sl 1 (b.map de))],[]⟩) (λj=>j<=i+1) (λj=>j) (i+1) (a_ _) (Wk.of ?_ ?_) ?_
   .simp only[go_sem,w1,v0];rw[show((i+1:Nat):Int)-1=(i:Int)by omega];exact⟨rfl,rfl⟩
   .simp[go_sem]
   rintro j hj;replace hj:j<=i+1:=hj;cases j with
   | zero =>
    have d9:decide (((0:Nat):Int)-1>=0)=false:=by decide
    simp only[go_sem,d9];exact aB [] (by simp only[go_sem,uR,vX]) rfl
   | succ j =>
    have c1:((j+1:Nat):Int)-1=(j:Int):=by omega
    have d9:decide ((j:Int)>=0)=true:=aK (by omega);have hx:(ac b j).toNat<256:=(ac b j).toNat_lt;have t1:((ac b j).toNat:Int).tmod 128=(((ac b j).toNat%128:Nat):Int):=(Int.ofNat_tmod _ 128).symm;have t2:IntKind.u64.wrap (((ac b j).toNat%128:Nat):Int)=(((ac b j).toNat%128:Nat):Int):=by rw[mq];omega
    have t3:IntKind.u8.wrap (((ac b j).toNat%128:Nat):Int)=(((ac b j).toNat%128:Nat):Int):=by rw[rH];omega
    have t4:IntKind.u64.wrap (IntKind.u64.wrap (((cY ((b.take (i+1)).drop (j+1))%18446744073709551616:Nat):Int)*128)+(((ac b j).toNat%128:Nat):Int))=((cY ((b.take (i+1)).drop j)%18446744073709551616:Nat):Int):=by
     rw[xM (show j<i+1 by omega) (show i+1<=b.length by omega),mq,mq];omega
    have t5:=wi (n:=(j:Int)-1) (by omega) (by omega);simp only[go_sem,c1,d9,t1,t3];refine⟨by omega,by omega,by decide,aF j (show j<=i+1 by omega) (show j<j+1 by omega) (Wk.of ?_ ?_)⟩
    .simp only[go_sem,t1,t2,t3,t4,t5]
    .simp[go_sem]
 .have e1:lN b bits = .tup [.int .i64 0,.int .i64 (gP b bits)]:=by rw[lN,ak (by omega)]
  have r:dm b bits=(0,0,gP b bits):=by rw[dm,au (by omega)]
  have d2:(gP b bits != 0)=true:=XM (by omega);simp only[go_sem,e1,d2];rw[r];exact aB [] (by simp only[go_sem,uR];rfl) rfl
def N3(a:Int):∃k,IntKind.i64.wrap a=a+18446744073709551616*k:=by
 refine⟨-((a+9223372036854775808)/18446744073709551616),?_⟩;rw[u_];omega
def Gk{b:Af}{i j:Nat}(h:j<i+1)(hk:i+1<=b.length) :
  IntKind.i64.wrap (IntKind.i64.wrap (IntKind.i64.wrap ((cY ((b.take (i+1)).drop (j+1)):Int)-(if 64<=(ac b i).toNat%128 then 2^(7*(i+1-(j+1)))else 0))*128)+(((ac b j).toNat%128:Nat):Int)) =
   IntKind.i64.wrap ((cY ((b.take (i+1)).drop j):Int)-(if 64<=(ac b i).toNat%128 then 2^(7*(i+1-j))else 0)):=by
 rw[xM h hk,show 7*(i+1-j)=7*(i+1-(j+1))+7 by omega,Int.pow_add,show(2:Int)^7=128 from rfl];generalize (2:Int)^(7*(i+1-(j+1)))=p;generalize cY ((b.take (i+1)).drop (j+1))=v;generalize (ac b j).toNat%128=y;have e:∀q:Int,(if 64<=(ac b i).toNat%128 then q*128 else 0)=(if 64<=(ac b i).toNat%128 then q else 0)*128:=λq=>by split<;>simp
 rw[e];generalize (if 64<=(ac b i).toNat%128 then p else 0)=q;obtain⟨k,hk⟩:=N3 ((v:Int)-q);obtain⟨k2,hk2⟩:=N3 (((v:Int)-q+18446744073709551616*k)*128);rw[hk,hk2];refine rf ?_;omega
def adv{l:Nat}(h1:1<=l)(h2:l<7):IntKind.i64.wrap (ib .i64 1 ((8-l:Nat):Int)-1)=((127/2^(l-1):Nat):Int):=by
 have e:ib .i64 1 ((8-l:Nat):Int)=IntKind.i64.wrap (2^(8-l)):=by
  unfold ib;rw[eB,show min (8-l) IntKind.i64.bits=8-l from B4 (by show 8-l<=64;omega),Int.one_mul]
 rw[e,u_,u_];have:l=1\/l=2\/l=3\/l=4\/l=5\/l=6:=by omega
 rcases this with rfl|rfl|rfl|rfl|rfl|rfl<;>simp
def aiO(b:Af)(bits:Nat)(h:1<=bits/\bits<=64):aj pg 376 [.sl 1 (b.map de),.int .i64 bits] (sR (di b bits)):=by
 refine aC Fh ?_;simp only[Fh,go_sem];refine ab (NL b bits h) ?_;rcases fY b bits with⟨h1,h2,h3,h4⟩|⟨h1,h2⟩
 .have hm:=G6 h;generalize hi:cx b bits=i at*;have e1:lN b bits = .tup [.int .i64 ((i+1:Nat):Int),.int .i64 0]:=by rw[lN,au h1,hi]
  have w1:IntKind.i64.wrap (((i+1:Nat):Int)-1)=(i:Int):=by rw[wi (by omega) (by omega)];omega
  have hb7:7*i<bits:=by unfold mst at h3;omega
  have w2:IntKind.i64.wrap (7*(i:Int))=((7*i:Nat):Int):=by rw[wi (by omega) (by omega)];omega
  have w3:IntKind.i64.wrap ((bits:Int)-((7*i:Nat):Int))=((bits-7*i:Nat):Int):=by rw[wi (by omega) (by omega)];omega
  have w4:IntKind.i64.wrap ((ac b i).toNat:Int)=((ac b i).toNat:Int):=wi (by omega) (by omega);have v0:cY ((b.take (i+1)).drop (i+1))=0:=by rw[If (by simp;omega)];rfl
  by_cases hl:bits-7*i<7
  .have d1:decide (((bits-7*i:Nat):Int)<7)=true:=aK (by omega);have w5:IntKind.i64.wrap (((bits-7*i:Nat):Int)-1)=((bits-7*i-1:Nat):Int):=by rw[wi (by omega) (by omega)];omega
   have w6:IntKind.i64.wrap (8-((bits-7*i:Nat):Int))=((8-(bits-7*i):Nat):Int):=by rw[wi (by omega) (by omega)];omega
   have e2:=sw .i64 (x:=(ac b i).toNat) (s:=bits-7*i-1) (by show _<=64;omega);have e3:¬((bits-7*i-1:Nat):Int)<0:=by omega
   have e4:¬((8-(bits-7*i):Nat):Int)<0:=by omega
   have e5:=adv (l:=bits-7*i) (by omega) hl;have hc:uB bits i=bits-7*i:=by unfold uB;rw[au (by unfold mst at*;omega)]
   by_cases hz:(ac b i).toNat/2^(bits-7*i-1)=0
   .have r:di b bits=(Bq b i,i+1,0):=by rw[di,ak (by simp[h1]),hi,hc,ak (by simp[hz])]
    have d2:(((((ac b i).toNat/2^(bits-7*i-1):Nat):Int)) != 0)=false:=afr (by omega);rw[r];by_cases h64:64<=(ac b i).toNat%128
    .have d8:decide (((ac b i).toNat:Int)>=64)=true:=aK (by omega);simp only[go_sem,e1,bne_self_eq_false,w1,w2,w3,w4,w5,w6,d1,e2,e3,e4,e5,d2,d8];refine⟨by omega,by omega,by omega,by omega,?_⟩;refine aq (λj:Nat=>⟨[(12,.int .i64 ((j:Int)-1)),(11,.int .i64 (IntKind.i64.wrap ((cY ((b.take (i+1)).drop j):Int)-(if 64<=(ac b i).toNat%128 then 2^(7*(i+1-j))else 0)))),(7,.int .i64 ((i+1:Nat):Int)),(0,.sl 1 (b.map de))],[]⟩) (λj=>j<=i+1) (λj=>j) (i+1) (a_ _) (Wk.of ?_ ?_) ?_
     .simp only[go_sem,w1,v0,tz,Nat.mul_zero,au h64,Nat.pow_zero];rw[show((i+1:Nat):Int)-1=(i:Int)by omega];exact⟨rfl,rfl⟩
     .simp[go_sem]
     rintro j hj;replace hj:j<=i+1:=hj;cases j with
     | zero =>
      have d9:decide (((0:Nat):Int)-1>=0)=false:=by decide
      simp only[go_sem,d9];exact aB [] (by simp only[go_sem,sR,vX,Bq,Nat.sub_zero]) rfl
     | succ j =>
      have c1:((j+1:Nat):Int)-1=(j:Int):=by omega
      have d9:decide ((j:Int)>=0)=true:=aK (by omega);have hx:(ac b j).toNat<256:=(ac b j).toNat_lt;have t1:((ac b j).toNat:Int).tmod 128=(((ac b j).toNat%128:Nat):Int):=(Int.ofNat_tmod _ 128).symm;have t2:IntKind.i64.wrap (((ac b j).toNat%128:Nat):Int)=(((ac b j).toNat%128:Nat):Int):=wi (by omega) (by omega);have t3:IntKind.u8.wrap (((ac b j).toNat%128:Nat):Int)=(((ac b j).toNat%128:Nat):Int):=by rw[rH];omega
      have t4:=Gk (b:=b) (i:=i) (j:=j) (by omega) (by omega);have t5:=wi (n:=(j:Int)-1) (by omega) (by omega);simp only[go_sem,c1,d9,t1,t3];refine⟨by omega,by omega,by decide,aF j (show j<=i+1 by omega) (show j<j+1 by omega) (Wk.of ?_ ?_)⟩
      .simp only[go_sem,t1,t2,t3,t4,t5]
      .simp[go_sem]
    .have d8:decide (((ac b i).toNat:Int)>=64)=false:=aL (by omega);simp only[go_sem,e1,bne_self_eq_false,w1,w2,w3,w4,w5,w6,d1,e2,e3,e4,e5,d2,d8];refine⟨by omega,by omega,by omega,by omega,?_⟩;refine aq (λj:Nat=>⟨[(12,.int .i64 ((j:Int)-1)),(11,.int .i64 (IntKind.i64.wrap ((cY ((b.take (i+1)).drop j):Int)-(if 64<=(ac b i).toNat%128 then 2^(7*(i+1-j))else 0)))),(7,.int .i64 ((i+1:Nat):Int)),(0,.sl 1 (b.map de))],[]⟩) (λj=>j<=i+1) (λj=>j) (i+1) (a_ _) (Wk.of ?_ ?_) ?_
     .simp only[go_sem,w1,v0,tz,Nat.mul_zero,ak h64];rw[show((i+1:Nat):Int)-1=(i:Int)by omega];exact⟨rfl,rfl⟩
     .simp[go_sem]
     rintro j hj;replace hj:j<=i+1:=hj;cases j with
     | zero =>
      have d9:decide (((0:Nat):Int)-1>=0)=false:=by decide
      simp only[go_sem,d9];exact aB [] (by simp only[go_sem,sR,vX,Bq,Nat.sub_zero]) rfl
     | succ j =>
      have c1:((j+1:Nat):Int)-1=(j:Int):=by omega
      have d9:decide ((j:Int)>=0)=true:=aK (by omega);have hx:(ac b j).toNat<256:=(ac b j).toNat_lt;have t1:((ac b j).toNat:Int).tmod 128=(((ac b j).toNat%128:Nat):Int):=(Int.ofNat_tmod _ 128).symm;have t2:IntKind.i64.wrap (((ac b j).toNat%128:Nat):Int)=(((ac b j).toNat%128:Nat):Int):=wi (by omega) (by omega);have t3:IntKind.u8.wrap (((ac b j).toNat%128:Nat):Int)=(((ac b j).toNat%128:Nat):Int):=by rw[rH];omega
      have t4:=Gk (b:=b) (i:=i) (j:=j) (by omega) (by omega);have t5:=wi (n:=(j:Int)-1) (by omega) (by omega);simp only[go_sem,c1,d9,t1,t3];refine⟨by omega,by omega,by decide,aF j (show j<=i+1 by omega) (show j<j+1 by omega) (Wk.of ?_ ?_)⟩
      .simp only[go_sem,t1,t2,t3,t4,t5]
      .simp[go_sem]
   .have d2:(((((ac b i).toNat/2^(bits-7*i-1):Nat):Int)) != 0)=true:=XM (by omega);by_cases hq:(ac b i).toNat/2^(bits-7*i-1)=127/2^(bits-7*i-1)
    .have r:di b bits=(Bq b i,i+1,0):=by rw[di,ak (by simp[h1]),hi,hc,ak (by simp[hq])]
     have d3:(((((ac b i).toNat/2^(bits-7*i-1):Nat):Int)) != ((127/2^(bits-7*i-1):Nat):Int))=false:=by rw[hq];exact bne_self_eq_false _
     rw[r];by_cases h64:64<=(ac b i).toNat%128
     .have d8:decide (((ac b i).toNat:Int)>=64)=true:=aK (by omega);simp only[go_sem,e1,bne_self_eq_false,w1,w2,w3,w4,w5,w6,d1,e2,e3,e4,e5,d2,d3,d8];refine⟨by omega,by omega,by omega,by omega,?_⟩;refine aq (λj:Nat=>⟨[(12,.int .i64 ((j:Int)-1)),(11,.int .i64 (IntKind.i64.wrap ((cY ((b.take (i+1)).drop j):Int)-(if 64<=(ac b i).toNat%128 then 2^(7*(i+1-j))else 0)))),(7,.int .i64 ((i+1:Nat):Int)),(0,.sl 1 (b.map de))],[]⟩) (λj=>j<=i+1) (λj=>j) (i+1) (a_ _) (Wk.of ?_ ?_) ?_
      .simp only[go_sem,w1,v0,tz,Nat.mul_zero,au h64,Nat.pow_zero];rw[show((i+1:Nat):Int)-1=(i:Int)by omega];exact⟨rfl,rfl⟩
      .simp[go_sem]
      rintro j hj;replace hj:j<=i+1:=hj;cases j with
      | zero =>
       have d9:decide (((0:Nat):Int)-1>=0)=false:=by decide
       simp only[go_sem,d9];exact aB [] (by simp only[go_sem,sR,vX,Bq,Nat.sub_zero]) rfl
      | succ j =>
       have c1:((j+1:Nat):Int)-1=(j:Int):=by omega
       have d9:decide ((j:Int)>=0)=true:=aK (by omega);have hx:(ac b j).toNat<256:=(ac b j).toNat_lt;have t1:((ac b j).toNat:Int).tmod 128=(((ac b j).toNat%128:Nat):Int):=(Int.ofNat_tmod _ 128).symm;have t2:IntKind.i64.wrap (((ac b j).toNat%128:Nat):Int)=(((ac b j).toNat%128:Nat):Int):=wi (by omega) (by omega);have t3:IntKind.u8.wrap (((ac b j).toNat%128:Nat):Int)=(((ac b j).toNat%128:Nat):Int):=by rw[rH];omega
       have t4:=Gk (b:=b) (i:=i) (j:=j) (by omega) (by omega);have t5:=wi (n:=(j:Int)-1) (by omega) (by omega);simp only[go_sem,c1,d9,t1,t3];refine⟨by omega,by omega,by decide,aF j (show j<=i+1 by omega) (show j<j+1 by omega) (Wk.of ?_ ?_)⟩
       .simp only[go_sem,t1,t2,t3,t4,t5]
       .simp[go_sem]
     .have d8:decide (((ac b i).toNat:Int)>=64)=false:=aL (by omega);simp only[go_sem,e1,bne_self_eq_false,w1,w2,w3,w4,w5,w6,d1,e2,e3,e4,e5,d2,d3,d8];refine⟨by omega,by omega,by omega,by omega,?_⟩;refine aq (λj:Nat=>⟨[(12,.int .i64 ((j:Int)-1)),(11,.int .i64 (IntKind.i64.wrap ((cY ((b.take (i+1)).drop j):Int)-(if 64<=(ac b i).toNat%128 then 2^(7*(i+1-j))else 0)))),(7,.int .i64 ((i+1:Nat):Int)),(0,.sl 1 (b.map de))],[]⟩) (λj=>j<=i+1) (λj=>j) (i+1) (a_ _) (Wk.of ?_ ?_) ?_
      .simp only[go_sem,w1,v0,tz,Nat.mul_zero,ak h64];rw[show((i+1:Nat):Int)-1=(i:Int)by omega];exact⟨rfl,rfl⟩
      .simp[go_sem]
      rintro j hj;replace hj:j<=i+1:=hj;cases j with
      | zero =>
       have d9:decide (((0:Nat):Int)-1>=0)=false:=by decide
       simp only[go_sem,d9];exact aB [] (by simp only[go_sem,sR,vX,Bq,Nat.sub_zero]) rfl
      | succ j =>
       have c1:((j+1:Nat):Int)-1=(j:Int):=by omega
       have d9:decide ((j:Int)>=0)=true:=aK (by omega);have hx:(ac b j).toNat<256:=(ac b j).toNat_lt;have t1:((ac b j).toNat:Int).tmod 128=(((ac b j).toNat%128:Nat):Int):=(Int.ofNat_tmod _ 128).symm;have t2:IntKind.i64.wrap (((ac b j).toNat%128:Nat):Int)=(((ac b j).toNat%128:Nat):Int):=wi (by omega) (by omega);have t3:IntKind.u8.wrap (((ac b j).toNat%128:Nat):Int)=(((ac b j).toNat%128:Nat):Int):=by rw[rH];omega
       have t4:=Gk (b:=b) (i:=i) (j:=j) (by omega) (by omega);have t5:=wi (n:=(j:Int)-1) (by omega) (by omega);simp only[go_sem,c1,d9,t1,t3];refine⟨by omega,by omega,by decide,aF j (show j<=i+1 by omega) (show j<j+1 by omega) (Wk.of ?_ ?_)⟩
       .simp only[go_sem,t1,t2,t3,t4,t5]
       .simp[go_sem]
    .have r:di b bits=(0,0,4):=by rw[di,ak (by simp[h1]),hi,hc,au ⟨hz,hq⟩]
     have d3:(((((ac b i).toNat/2^(bits-7*i-1):Nat):Int)) != ((127/2^(bits-7*i-1):Nat):Int))=true:=by
      have:(((ac b i).toNat/2^(bits-7*i-1):Nat):Int)≠((127/2^(bits-7*i-1):Nat):Int):=by omega
      exact bne_iff_ne.2 this
     rw[r];simp only[go_sem,e1,bne_self_eq_false,w1,w2,w3,w4,w5,w6,d1,e2,e3,e4,e5,d2,d3];exact⟨by omega,by omega,aB [] (by simp[go_sem,sR]) rfl⟩
  .have d1:decide (((bits-7*i:Nat):Int)<7)=false:=aL (by omega);have hc:uB bits i=7:=by
    unfold uB;by_cases hq:i+1=mst bits
    .rw[au hq];unfold mst at*;omega
    .rw[ak hq]
   have r:di b bits=(Bq b i,i+1,0):=by rw[di,ak (by simp[h1]),hi,hc,ak (by simp;omega)]
   rw[r];by_cases h64:64<=(ac b i).toNat%128
   .have d8:decide (((ac b i).toNat:Int)>=64)=true:=aK (by omega);simp only[go_sem,e1,bne_self_eq_false,w1,w2,w3,d1,d8];refine⟨by omega,by omega,?_⟩;refine aq (λj:Nat=>⟨[(12,.int .i64 ((j:Int)-1)),(11,.int .i64 (IntKind.i64.wrap ((cY ((b.take (i+1)).drop j):Int)-(if 64<=(ac b i).toNat%128 then 2^(7*(i+1-j))else 0)))),(7,.int .i64 ((i+1:Nat):Int)),(0,.sl 1 (b.map de))],[]⟩) (λj=>j<=i+1) (λj=>j) (i+1) (a_ _) (Wk.of ?_ ?_) ?_
    .simp only[go_sem,w1,v0,tz,Nat.mul_zero,au h64,Nat.pow_zero];rw[show((i+1:Nat):Int)-1=(i:Int)by omega];exact⟨rfl,rfl⟩
    .simp[go_sem]
    rintro j hj;replace hj:j<=i+1:=hj;cases j with
    | zero =>
     have d9:decide (((0:Nat):Int)-1>=0)=false:=by decide
     simp only[go_sem,d9];exact aB [] (by simp only[go_sem,sR,vX,Bq,Nat.sub_zero]) rfl
    | succ j =>
     have c1:((j+1:Nat):Int)-1=(j:Int):=by omega
     have d9:decide ((j:Int)>=0)=true:=aK (by omega);have hx:(ac b j).toNat<256:=(ac b j).toNat_lt;have t1:((ac b j).toNat:Int).tmod 128=(((ac b j).toNat%128:Nat):Int):=(Int.ofNat_tmod _ 128).symm;have t2:IntKind.i64.wrap (((ac b j).toNat%128:Nat):Int)=(((ac b j).toNat%128:Nat):Int):=wi (by omega) (by omega);have t3:IntKind.u8.wrap (((ac b j).toNat%128:Nat):Int)=(((ac b j).toNat%128:Nat):Int):=by rw[rH];omega
     have t4:=Gk (b:=b) (i:=i) (j:=j) (by omega) (by omega);have t5:=wi (n:=(j:Int)-1) (by omega) (by omega);simp only[go_sem,c1,d9,t1,t3];refine⟨by omega,by omega,by decide,aF j (show j<=i+1 by omega) (show j<j+1 by omega) (Wk.of ?_ ?_)⟩
     .simp only[go_sem,t1,t2,t3,t4,t5]
     .simp[go_sem]
   .have d8:decide (((ac b i).toNat:Int)>=64)=false:=aL (by omega);simp only[go_sem,e1,bne_self_eq_false,w1,w2,w3,d1,d8];refine⟨by omega,by omega,?_⟩;refine aq (λj:Nat=>⟨[(12,.int .i64 ((j:Int)-1)),(11,.int .i64 (IntKind.i64.wrap ((cY ((b.take (i+1)).drop j):Int)-(if 64<=(ac b i).toNat%128 then 2^(7*(i+1-j))else 0)))),(7,.int .i64 ((i+1:Nat):Int)),(0,.sl 1 (b.map de))],[]⟩) (λj=>j<=i+1) (λj=>j) (i+1) (a_ _) (Wk.of ?_ ?_) ?_
    .simp only[go_sem,w1,v0,tz,Nat.mul_zero,ak h64];rw[show((i+1:Nat):Int)-1=(i:Int)by omega];exact⟨rfl,rfl⟩
    .simp[go_sem]
    rintro j hj;replace hj:j<=i+1:=hj;cases j with
    | zero =>
     have d9:decide (((0:Nat):Int)-1>=0)=false:=by decide
     simp only[go_sem,d9];exact aB [] (by simp only[go_sem,sR,vX,Bq,Nat.sub_zero]) rfl
    | succ j =>
     have c1:((j+1:Nat):Int)-1=(j:Int):=by omega
     have d9:decide ((j:Int)>=0)=true:=aK (by omega);have hx:(ac b j).toNat<256:=(ac b j).toNat_lt;have t1:((ac b j).toNat:Int).tmod 128=(((ac b j).toNat%128:Nat):Int):=(Int.ofNat_tmod _ 128).symm;have t2:IntKind.i64.wrap (((ac b j).toNat%128:Nat):Int)=(((ac b j).toNat%128:Nat):Int):=wi (by omega) (by omega);have t3:IntKind.u8.wrap (((ac b j).toNat%128:Nat):Int)=(((ac b j).toNat%128:Nat):Int):=by rw[rH];omega
     have t4:=Gk (b:=b) (i:=i) (j:=j) (by omega) (by omega);have t5:=wi (n:=(j:Int)-1) (by omega) (by omega);simp only[go_sem,c1,d9,t1,t3];refine⟨by omega,by omega,by decide,aF j (show j<=i+1 by omega) (show j<j+1 by omega) (Wk.of ?_ ?_)⟩
     .simp only[go_sem,t1,t2,t3,t4,t5]
     .simp[go_sem]
 .have e1:lN b bits = .tup [.int .i64 0,.int .i64 (gP b bits)]:=by rw[lN,ak (by omega)]
  have r:di b bits=(0,0,gP b bits):=by rw[di,au (by omega)]
  have d2:(gP b bits != 0)=true:=XM (by omega);simp only[go_sem,e1,d2];rw[r];exact aB [] (by simp only[go_sem,sR];rfl) rfl
def ro(m:Bool)(b:Af)(a e:Int):ao:=⟨287,4,[[.bool m,.sl 1 (b.map de),.int .i64 a,.int .i64 e]],true⟩
def RM(f:FuncId)(rest:List AV)(m:Bool)(b:Af)(a e:Int)(r:AV)(a' e':Int):Prop :=
 aQ pg f (.mp 1000 4 0 0::rest) [(1000,ro m b a e)] (λid=>1000<=id/\id<2000) (λr' σ'=>r'=r/\σ'=[(1000,ro m b a' e')])
def sv(m:Bool)(b:Af)(a e:Int):RM 227 [] m b a e (.bool (m&&e==0)) a e:=by
 refine bA f8 ?_;cases m
 .simp only[f8,ro,go_sem];exact done [] _ [(1000,ro false b a e)] (by simp only[go_sem]) (by simp only[go_sem,ro]) rfl ⟨rfl,rfl⟩
 .simp only[f8,ro,go_sem];exact done [] _ [(1000,ro true b a e)] (by simp only[go_sem]) (by simp only[go_sem,ro]) rfl ⟨rfl,rfl⟩
def DY(m:Bool)(b:Af)(a e x:Int):RM 228 [.int .i64 x] m b a e (.tup []) a (if(m&&e==0)=true then x else e):=by
 refine bA lq ?_;simp only[lq,ro,go_sem];refine dW (sv m b a e) ⟨by decide,by decide⟩ rfl (by simp) rfl rfl (by rfl) ?_;cases h:(m&&e==0)
 .simp only[go_sem,ro];exact fH [] _ [(1000,ro m b a e)] (by simp only[go_sem]) (by simp only[go_sem,ro]) rfl ⟨rfl,rfl⟩
 .simp only[go_sem,ro];exact fH [] _ [(1000,ro m b a x)] (by simp only[go_sem]) (by simp only[go_sem,ro]) rfl ⟨rfl,rfl⟩
def cA(b:Af)(a x:Int):RM 228 [.int .i64 x] true b a 0 (.tup []) a x:=DY true b a 0 x
def agn(b:Af)(a n:Nat)(e:Int)(h:a+n<=b.length)(hb:b.length<1000000000):RM 229 [.int .i64 n] true b a e (.sl 1 (((b.drop a).take n).map de)) ((a+n:Nat):Int) e:=by
 refine bA nq ?_;have w1:IntKind.i64.wrap ((a:Int)+(n:Int))=((a+n:Nat):Int):=by rw[wi (by omega) (by omega)];omega
 have e1:qR 1 (.sl 1 (b.map de)) (some (.int .i64 (a:Int))) (some (.int .i64 ((a+n:Nat):Int))) (some (.int .i64 ((a+n:Nat):Int)))=some (.sl 1 (((b.drop a).take n).map de)):=by
  have h1:bQ (b.map de).length (some (.int .i64 ((a+n:Nat):Int)))=some (a+n):=by simp only[bQ];rw[au (by omega),eB]
  have h2:bQ 0 (some (.int .i64 (a:Int)))=some a:=by simp only[bQ];rw[au (by omega),eB]
  simp only[qR,h1,h2];rw[au ⟨trivial,by omega,a_ _,by simpa using h⟩,Nat.add_sub_cancel_left,List.map_take,List.map_drop]
 simp only[nq,ro,go_sem,w1,e1];exact done [] _ [(1000,ro true b ((a+n:Nat):Int) e)] (by simp only[go_sem]) (by simp only[go_sem,ro]) rfl ⟨rfl,rfl⟩
def u9(m:Bool)(b:Af)(a:Nat)(e n:Int)(ha:a<=b.length)(hb:b.length<1000000000)(hn:-9223372036854775808<=n/\n<9223372036854775808) :
  RM 149 [.int .i64 n] m b a e (Kf (aO (m&&e==0) b a e n).1) (aO (m&&e==0) b a e n).2.1 (aO (m&&e==0) b a e n).2.2:=by
 refine bA lx ?_;simp only[lx,ro,go_sem];refine dW (sv m b a e) ⟨by decide,by decide⟩ rfl (by simp) rfl rfl (by rfl) ?_;cases h:(m&&e==0)
 .simp only[go_sem,ro,aO];exact done [] _ [(1000,ro m b a e)] (by simp only[go_sem]) (by simp only[go_sem,ro]) rfl ⟨rfl,rfl⟩
 .obtain⟨rfl,h2⟩:=Bool.and_eq_true_iff.1 h;obtain rfl:e=0:=by simpa using h2
  by_cases h3:n<0
  .have d1:decide (n<0)=true:=by simpa using h3
   have r:aO true b a 0 n=(none,a,1):=by simp[aO,h3]
   simp only[go_sem,ro,d1];refine dW (cA b a 1) ⟨by decide,by decide⟩ rfl (by simp[go_sem]) rfl rfl (by rfl) ?_;simp only[go_sem,ro];rw[r];exact done [] _ [(1000,ro true b a 1)] (by simp only[go_sem]) (by simp only[go_sem,ro]) rfl ⟨rfl,rfl⟩
  .have d1:decide (n<0)=false:=by simpa using h3
   have w1:IntKind.i64.wrap ((b.length:Int)-(a:Int))=(b.length:Int)-(a:Int):=wi (by omega) (by omega);by_cases h4:n>(b.length:Int)-a
   .have d2:decide (n>(b.length:Int)-(a:Int))=true:=by simpa using h4
    have r:aO true b a 0 n=(none,a,3):=by simp[aO,h3,h4]
    simp only[go_sem,ro,d1,w1,d2];refine dW (cA b a 3) ⟨by decide,by decide⟩ rfl (by simp[go_sem]) rfl rfl (by rfl) ?_;simp only[go_sem,ro];rw[r];exact done [] _ [(1000,ro true b a 3)] (by simp only[go_sem]) (by simp only[go_sem,ro]) rfl ⟨rfl,rfl⟩
   .have d2:decide (n>(b.length:Int)-(a:Int))=false:=by simpa using h4
    obtain⟨k,rfl⟩:=Ks (show 0<=n by omega);have r:aO true b a 0 (k:Int)=(some ((b.drop a).take k),a+k,0):=by
     have h5:¬((k:Int)>(b.length:Int)-a):=h4;simp only[aO,aN,ak h3,ak h5,eB]
    simp only[go_sem,ro,d1,w1,d2];refine dW (agn b a k 0 (by omega) hb) ⟨by decide,by decide⟩ rfl (by simp[go_sem]) rfl rfl (by rfl) ?_;simp only[go_sem,ro];rw[r];refine⟨by simp;omega,done [32] _ [(1000,ro true b ((a+k:Nat):Int) 0)] ?_ (by simp only[go_sem,ro]) rfl ⟨rfl,rfl⟩⟩;simp only[go_sem,a_];rw[cI (by simp)]
def aI1(st:Nat)(r:List AV)(k:IntKind):wt st (.sl st [r]) (.int k 0)=some (.ip r):=by simp[wt]
def aie:(((1:Nat):Int)==1)=true:=rfl
def po(m:Bool)(b:Af)(a:Nat)(e:Int)(ha:a<=b.length)(hb:b.length<1000000000) :
  RM 148 [] m b a e (.int .u8 (eD (m&&e==0) b a e).1.toNat) (eD (m&&e==0) b a e).2.1 (eD (m&&e==0) b a e).2.2:=by
 refine bA ln ?_;simp only[ln,ro,go_sem];refine dW (u9 m b a e 1 ha hb (by decide)) ⟨by decide,by decide⟩ (bU _) (by simp[go_sem]) rfl rfl (by rfl) ?_;have h1:¬((1:Int)<0):=by decide
 cases h:(m&&e==0)
 .have r:aO false b a e 1=(none,a,e):=by simp[aO]
  simp only[go_sem,r,eD,ro,Int.reduceBEq,gR];exact done [] _ [(1000,ro m b a e)] (by simp only[go_sem];rfl) (by simp only[go_sem,ro]) rfl ⟨rfl,rfl⟩
 .by_cases h2:(b.length:Int)-a<1
  .have r:aO true b a e 1=(none,a,3):=by simp only[aO,aN,ak h1];rw[au (by omega)]
   have r2:eD true b a e=(0,a,3):=by simp only[eD,aN,au h2]
   simp only[go_sem,r,r2,ro,Int.reduceBEq];exact done [] _ [(1000,ro m b a 3)] (by simp only[go_sem];rfl) (by simp only[go_sem,ro]) rfl ⟨rfl,rfl⟩
  .have hl:a<b.length:=by omega
   have e1:(b.drop a).take 1=[ac b a]:=by rw[Kt hl,bv hl];rfl
   have r:aO true b a e 1=(some [ac b a],a+1,e):=by
    simp only[aO,aN,ak h1];rw[ak (by omega)];rw[show(1:Int).toNat=1 from rfl,e1]
   have r2:eD true b a e=(ac b a,a+1,e):=by simp only[eD,aN,ak h2]
   simp only[go_sem,r,r2,ro,aie,i0,cj,aI1];exact done [] _ [(1000,ro m b ((a+1:Nat):Int) e)] (by simp only[go_sem]) (by simp only[go_sem,ro]) rfl ⟨rfl,rfl⟩
def aiM(m:Bool)(b:Af)(a e:Int):RM 232 [] m b a e (.int .i64 a) a e:=by
 refine bA oJ ?_;simp only[oJ,ro,go_sem];exact done [] _ [(1000,ro m b a e)] (by simp only[go_sem]) (by simp only[go_sem,ro]) rfl ⟨rfl,rfl⟩
def aS(m:Bool)(b:Af)(a e:Int):RM 151 [] m b a e (.int .i64 (if m=true then e else 2)) a e:=by
 refine bA iK ?_;cases m
 .simp only[iK,ro,go_sem];exact done [] _ [(1000,ro false b a e)] (by simp only[go_sem]) (by simp only[go_sem,ro]) rfl ⟨rfl,rfl⟩
 .simp only[iK,ro,go_sem];exact done [] _ [(1000,ro true b a e)] (by simp only[go_sem]) (by simp only[go_sem,ro]) rfl ⟨rfl,rfl⟩
def wV(ok:Bool)(b:Af)(a:Nat):Int:=if ok=true then(b.length:Int)-a else 0
def ac2(m:Bool)(b:Af)(a:Nat)(e:Int)(ha:a<=b.length)(hb:b.length<1000000000):RM 147 [] m b a e (.int .i64 (wV (m&&e==0) b a)) a e:=by
 refine bA lr ?_;simp only[lr,ro,go_sem];refine dW (sv m b a e) ⟨by decide,by decide⟩ rfl (by simp) rfl rfl (by rfl) ?_;have w1:IntKind.i64.wrap ((b.length:Int)-(a:Int))=(b.length:Int)-(a:Int):=wi (by omega) (by omega);cases h:(m&&e==0)
 .simp only[go_sem,ro,wV,gR];exact done [] _ [(1000,ro m b a e)] (by simp only[go_sem]) (by simp only[go_sem,ro]) rfl ⟨rfl,rfl⟩
 .simp only[go_sem,ro,wV,w1];exact done [] _ [(1000,ro m b a e)] (by simp only[go_sem]) (by simp only[go_sem,ro]) rfl ⟨rfl,rfl⟩
def sq(m:Bool)(b:Af)(a:Nat)(e:Int):Int:=if m=true then(if e≠0 then e else if a=b.length then 0 else 5)else 2
def J_(m:Bool)(b:Af)(a:Nat)(e:Int):RM 173 [] m b a e (.int .i64 (sq m b a e)) a e:=by
 refine bA na ?_;simp only[na,ro,go_sem];refine dW (aS m b a e) ⟨by decide,by decide⟩ rfl (by simp) rfl rfl (by rfl) ?_;cases m
 .have d:((2:Int) != 0)=true:=rfl;simp only[go_sem,ro,sq,gR,d];exact done [] _ [(1000,ro false b a e)] (by simp only[go_sem]) (by simp only[go_sem,ro]) rfl ⟨rfl,rfl⟩
 .by_cases he:e=0
  .subst he;have d:((0:Int) != 0)=false:=rfl;by_cases h2:a=b.length
   .have d2:((a:Int)==(b.length:Int))=true:=by simp[h2]
    have r:sq true b a 0=0:=by simp[sq,h2]
    simp only[go_sem,ro,d,d2,r];exact done [] _ [(1000,ro true b a 0)] (by simp only[go_sem]) (by simp only[go_sem,ro]) rfl ⟨rfl,rfl⟩
   .have d2:((a:Int)==(b.length:Int))=false:=by rw[fK];omega
    have r:sq true b a 0=5:=by simp[sq,h2]
    simp only[go_sem,ro,d,d2,r];exact done [] _ [(1000,ro true b a 0)] (by simp only[go_sem]) (by simp only[go_sem,ro]) rfl ⟨rfl,rfl⟩
  .have d:(e != 0)=true:=by simp[he]
   have r:sq true b a e=e:=by simp[sq,he]
   simp only[go_sem,ro,d,r];exact done [] _ [(1000,ro true b a e)] (by simp only[go_sem]) (by simp only[go_sem,ro]) rfl ⟨rfl,rfl⟩
def L5(m:Bool)(bits:Nat)(b:Af)(a:Nat)(e:Int)(hbits:1<=bits/\bits<=64)(ha:a<=b.length)(hb:b.length<1000000000) :
  RM 230 [.int .i64 bits] m b a e (.int .u64 (rU (m&&e==0) bits b a e).1) (rU (m&&e==0) bits b a e).2.1 (rU (m&&e==0) bits b a e).2.2:=by
 refine bA i6 ?_;simp only[i6,ro,go_sem];refine dW (sv m b a e) ⟨by decide,by decide⟩ rfl (by simp) rfl rfl (by rfl) ?_;cases h:(m&&e==0)
 .have r:rU false bits b a e=(0,a,e):=by simp[rU]
  simp only[go_sem,ro,r];exact done [] _ [(1000,ro m b a e)] (by simp only[go_sem];rfl) (by simp only[go_sem,ro]) rfl ⟨rfl,rfl⟩
 .obtain⟨rfl,h2⟩:=Bool.and_eq_true_iff.1 h;obtain rfl:e=0:=by simpa using h2
  simp only[go_sem,ro];have hk:=CF (b.drop a) bits;simp only[jK]at hk;refine⟨⟨by omega,by omega⟩,dd (s_U (b.drop a) bits hbits) (by simp[go_sem]) ?_⟩;by_cases hq:(dm (b.drop a) bits).2.2=0
  .have d:((dm (b.drop a) bits).2.2 != 0)=false:=by simp[hq]
   have r:rU true bits b a 0=((dm (b.drop a) bits).1,a+(dm (b.drop a) bits).2.1,0):=by simp[rU,hq]
   have w1:IntKind.i64.wrap ((a:Int)+((dm (b.drop a) bits).2.1:Int))=((a+(dm (b.drop a) bits).2.1:Nat):Int):=by rw[wi (by omega) (by omega)];omega
   rw[r];simp only[go_sem,ro,uR,d,w1];exact done [] _ [(1000,ro true b ((a+(dm (b.drop a) bits).2.1:Nat):Int) 0)] (by simp only[go_sem]) (by simp only[go_sem,ro]) rfl ⟨rfl,rfl⟩
  .have d:((dm (b.drop a) bits).2.2 != 0)=true:=by simp[hq]
   have r:rU true bits b a 0=(0,a,(dm (b.drop a) bits).2.2):=by simp[rU,hq]
   rw[r];simp only[go_sem,ro,uR,d];refine dW (cA b a (dm (b.drop a) bits).2.2) ⟨by decide,by decide⟩ rfl (by simp[go_sem]) rfl rfl (by rfl) ?_;simp only[go_sem,ro];exact done [] _ [(1000,ro true b a (dm (b.drop a) bits).2.2)] (by simp only[go_sem];rfl) (by simp only[go_sem,ro]) rfl ⟨rfl,rfl⟩
def D1(m:Bool)(bits:Nat)(b:Af)(a:Nat)(e:Int)(hbits:1<=bits/\bits<=64)(ha:a<=b.length)(hb:b.length<1000000000) :
  RM 345 [.int .i64 bits] m b a e (.int .i64 (rS (m&&e==0) bits b a e).1) (rS (m&&e==0) bits b a e).2.1 (rS (m&&e==0) bits b a e).2.2:=by
 refine bA jO ?_;simp only[jO,ro,go_sem];refine dW (sv m b a e) ⟨by decide,by decide⟩ rfl (by simp) rfl rfl (by rfl) ?_;cases h:(m&&e==0)
 .have r:rS false bits b a e=(0,a,e):=by simp[rS]
  simp only[go_sem,ro,r];exact done [] _ [(1000,ro m b a e)] (by simp only[go_sem]) (by simp only[go_sem,ro]) rfl ⟨rfl,rfl⟩
 .obtain⟨rfl,h2⟩:=Bool.and_eq_true_iff.1 h;obtain rfl:e=0:=by simpa using h2
  simp only[go_sem,ro];have hk:=CE (b.drop a) bits;simp only[jK]at hk;refine⟨⟨by omega,by omega⟩,dd (s_S (b.drop a) bits hbits) (by simp[go_sem]) ?_⟩;by_cases hq:(di (b.drop a) bits).2.2=0
  .have d:((di (b.drop a) bits).2.2 != 0)=false:=by simp[hq]
   have r:rS true bits b a 0=((di (b.drop a) bits).1,a+(di (b.drop a) bits).2.1,0):=by simp[rS,hq]
   have w1:IntKind.i64.wrap ((a:Int)+((di (b.drop a) bits).2.1:Int))=((a+(di (b.drop a) bits).2.1:Nat):Int):=by rw[wi (by omega) (by omega)];omega
   rw[r];simp only[go_sem,ro,sR,d,w1];exact done [] _ [(1000,ro true b ((a+(di (b.drop a) bits).2.1:Nat):Int) 0)] (by simp only[go_sem]) (by simp only[go_sem,ro]) rfl ⟨rfl,rfl⟩
  .have d:((di (b.drop a) bits).2.2 != 0)=true:=by simp[hq]
   have r:rS true bits b a 0=(0,a,(di (b.drop a) bits).2.2):=by simp[rS,hq]
   rw[r];simp only[go_sem,ro,sR,d];refine dW (cA b a (di (b.drop a) bits).2.2) ⟨by decide,by decide⟩ rfl (by simp[go_sem]) rfl rfl (by rfl) ?_;simp only[go_sem,ro];exact done [] _ [(1000,ro true b a (di (b.drop a) bits).2.2)] (by simp only[go_sem]) (by simp only[go_sem,ro]) rfl ⟨rfl,rfl⟩
def fj(m:Bool)(b:Af)(a:Nat)(e:Int)(ha:a<=b.length)(hb:b.length<1000000000) :
  RM 150 [] m b a e (.int .i64 (rU (m&&e==0) 32 b a e).1) (rU (m&&e==0) 32 b a e).2.1 (rU (m&&e==0) 32 b a e).2.2:=by
 refine bA nk ?_;have hl:=wW (m&&e==0) b a e;have w1:IntKind.i64.wrap ((rU (m&&e==0) 32 b a e).1:Int)=((rU (m&&e==0) 32 b a e).1:Int):=wi (by omega) (by omega);simp only[nk,ro,go_sem];refine dW (L5 m 32 b a e (by decide) ha hb) ⟨by decide,by decide⟩ rfl (by simp[go_sem]) rfl rfl (by rfl) ?_;simp only[go_sem,ro,w1];exact done [] _ [(1000,ro m b (rU (m&&e==0) 32 b a e).2.1 (rU (m&&e==0) 32 b a e).2.2)] (by simp only[go_sem]) (by simp only[go_sem,ro]) rfl ⟨rfl,rfl⟩
def agj(m:Bool)(b:Af)(a:Nat)(e:Int)(ha:a<=b.length)(hb:b.length<1000000000) :
  RM 331 [] m b a e (.int .u64 (IntKind.u64.wrap (IntKind.u32.wrap (rS (m&&e==0) 32 b a e).1))) (rS (m&&e==0) 32 b a e).2.1 (rS (m&&e==0) 32 b a e).2.2:=by
 refine bA ng ?_;simp only[ng,ro,go_sem];refine dW (D1 m 32 b a e (by decide) ha hb) ⟨by decide,by decide⟩ rfl (by simp[go_sem]) rfl rfl (by rfl) ?_;simp only[go_sem,ro];exact done [] _ [(1000,ro m b (rS (m&&e==0) 32 b a e).2.1 (rS (m&&e==0) 32 b a e).2.2)] (by simp only[go_sem]) (by simp only[go_sem,ro]) rfl ⟨rfl,rfl⟩
def agk(m:Bool)(b:Af)(a:Nat)(e:Int)(ha:a<=b.length)(hb:b.length<1000000000) :
  RM 344 [] m b a e (.int .i64 (rS (m&&e==0) 33 b a e).1) (rS (m&&e==0) 33 b a e).2.1 (rS (m&&e==0) 33 b a e).2.2:=by
 refine bA nh ?_;simp only[nh,ro,go_sem];refine dW (D1 m 33 b a e (by decide) ha hb) ⟨by decide,by decide⟩ rfl (by simp[go_sem]) rfl rfl (by rfl) ?_;simp only[go_sem,ro];exact done [] _ [(1000,ro m b (rS (m&&e==0) 33 b a e).2.1 (rS (m&&e==0) 33 b a e).2.2)] (by simp only[go_sem]) (by simp only[go_sem,ro]) rfl ⟨rfl,rfl⟩
def agl(m:Bool)(b:Af)(a:Nat)(e:Int)(ha:a<=b.length)(hb:b.length<1000000000) :
  RM 332 [] m b a e (.int .u64 (IntKind.u64.wrap (rS (m&&e==0) 64 b a e).1)) (rS (m&&e==0) 64 b a e).2.1 (rS (m&&e==0) 64 b a e).2.2:=by
 refine bA ni ?_;simp only[ni,ro,go_sem];refine dW (D1 m 64 b a e (by decide) ha hb) ⟨by decide,by decide⟩ rfl (by simp[go_sem]) rfl rfl (by rfl) ?_;simp only[go_sem,ro];exact done [] _ [(1000,ro m b (rS (m&&e==0) 64 b a e).2.1 (rS (m&&e==0) 64 b a e).2.2)] (by simp only[go_sem]) (by simp only[go_sem,ro]) rfl ⟨rfl,rfl⟩
def H0(m:Bool)(b:Af)(a:Nat)(e most:Int)(ha:a<=b.length)(hb:b.length<1000000000) :
  RM 234 [.int .i64 most] m b a e (.int .i64 (ba (m&&e==0) b a e most).1) (ba (m&&e==0) b a e most).2.1 (ba (m&&e==0) b a e most).2.2:=by
 refine bA kA ?_;simp only[kA,ro,go_sem];refine dW (sv m b a e) ⟨by decide,by decide⟩ rfl (by simp) rfl rfl (by rfl) ?_;cases h:(m&&e==0)
 .have r:ba false b a e most=(0,a,e):=by simp[ba]
  simp only[go_sem,ro,r];exact done [] _ [(1000,ro m b a e)] (by simp only[go_sem];rfl) (by simp only[go_sem,ro]) rfl ⟨rfl,rfl⟩
 .obtain⟨rfl,h2⟩:=Bool.and_eq_true_iff.1 h;obtain rfl:e=0:=by simpa using h2
  simp only[go_sem,ro];refine dW (fj true b a 0 ha hb) ⟨by decide,by decide⟩ rfl (by simp[go_sem]) rfl rfl (by rfl) ?_;rw[h];by_cases hq:(rU true 32 b a 0).2.2=0
  .have d:((rU true 32 b a 0).2.2==0)=true:=by simp[hq]
   by_cases hm:((rU true 32 b a 0).1:Int)>most
   .have d2:decide (((rU true 32 b a 0).1:Int)>most)=true:=by simpa using hm
    have r:ba true b a 0 most=(0,a,6):=by simp only[ba,aN];rw[au ⟨hq,hm⟩]
    simp only[go_sem,ro,d,d2,hq];refine dW (cA b a 6) ⟨by decide,by decide⟩ rfl (by simp[go_sem]) rfl rfl (by rfl) ?_;rw[r];simp only[go_sem,ro];exact done [] _ [(1000,ro true b a 6)] (by simp only[go_sem];rfl) (by simp only[go_sem,ro]) rfl ⟨rfl,rfl⟩
   .have d2:decide (((rU true 32 b a 0).1:Int)>most)=false:=by simpa using hm
    have r:ba true b a 0 most=rU true 32 b a 0:=by simp only[ba,aN];rw[ak (λhh=>hm hh.2)]
    rw[r];simp only[go_sem,ro,d,d2];exact done [] _ [(1000,ro true b (rU true 32 b a 0).2.1 (rU true 32 b a 0).2.2)] (by simp only[go_sem]) (by simp only[go_sem,ro]) rfl ⟨rfl,rfl⟩
  .have d:((rU true 32 b a 0).2.2==0)=false:=by simp[hq]
   have r:ba true b a 0 most=rU true 32 b a 0:=by simp only[ba,aN];rw[ak (λhh=>hq hh.1)]
   rw[r];simp only[go_sem,ro,d];exact done [] _ [(1000,ro true b (rU true 32 b a 0).2.1 (rU true 32 b a 0).2.2)] (by simp only[go_sem]) (by simp only[go_sem,ro]) rfl ⟨rfl,rfl⟩
section
attribute[go_sem] bne_self_eq_false gR
def rx(b:Af)(a e:Int):AV:=.agg [.sl 1 (b.map de),.int .i64 a,.int .i64 e]
attribute[local go_sem] rx ro
def xH(b:Af)(a e x:Int):aj pg 295 [rx b a e,.int .i64 x] (rx b a (if e=0 then x else e)):=by
 refine aC rW ?_;by_cases h:e=0
 .subst h;simp only[go_sem,rW];exact an
 .simp only[go_sem,rW,aA h,bj h,ak h];exact an
def cM(b:Af)(a x:Int):aj pg 295 [rx b a 0,.int .i64 x] (rx b a x):=xH b a 0 x
def LM(b:Af)(a:Nat)(e:Int)(ha:a<=b.length)(hb:b.length<1000000000):aj pg 257 [rx b a e] (.int .i64 (wV (e==0) b a)):=by
 refine aC rX ?_;have w1:IntKind.i64.wrap ((b.length:Int)-(a:Int))=(b.length:Int)-(a:Int):=wi (by omega) (by omega);by_cases h:e=0
 .subst h;simp only[go_sem,rX,wV,w1];exact an
 .simp only[go_sem,rX,aA h,bj h,wV];exact an
def uV(b:Af)(a:Nat)(e n:Int)(ha:a<=b.length)(hb:b.length<1000000000)(hn:-9223372036854775808<=n/\n<9223372036854775808) :
  aj pg 245 [rx b a e,.int .i64 n] (.tup [rx b (aO (e==0) b a e n).2.1 (aO (e==0) b a e n).2.2,Kf (aO (e==0) b a e n).1]):=by
 refine aC jR ?_;by_cases h:e=0
 .subst h;by_cases h1:n<0
  .have r:aO ((0:Int)==0) b a 0 n=(none,a,1):=by simp[aO,h1]
   rw[r];simp only[go_sem,jR,aK h1];refine aa (cM b a 1) ?_;exact an
  .by_cases h2:n>(b.length:Int)-a
   .have r:aO ((0:Int)==0) b a 0 n=(none,a,3):=by simp[aO,h1,h2]
    rw[r];simp only[go_sem,jR,aL h1];refine ab (LM b a 0 ha hb) ?_;have l:wV true b a=(b.length:Int)-a:=rfl;simp only[go_sem,l,aK h2];refine aa (cM b a 3) ?_;exact an
   .obtain⟨k,rfl⟩:=Ks (show 0<=n by omega);have r:aO ((0:Int)==0) b a 0 (k:Int)=(some ((b.drop a).take k),a+k,0):=by
     simp only[aO,beq_self_eq_true,aN,ak h1,ak h2,eB]
    have w1:IntKind.i64.wrap ((a:Int)+(k:Int))=((a+k:Nat):Int):=by rw[wi (by omega) (by omega)];omega
    have s1:qR 1 (.sl 1 (b.map de)) (some (.int .i64 (a:Int))) (some (.int .i64 ((a+k:Nat):Int))) none=some (.sl 1 (((b.drop a).take k).map de)):=by
     have h1:bQ (b.map de).length (some (.int .i64 ((a+k:Nat):Int)))=some (a+k):=by simp only[bQ];rw[au (by omega),eB]
     have h2:bQ 0 (some (.int .i64 (a:Int)))=some a:=by simp only[bQ];rw[au (by omega),eB]
     have h3:bQ (b.map de).length none=some (b.map de).length:=rfl;simp only[qR,h1,h2,h3];rw[au ⟨trivial,by omega,by simp;omega,a_ _⟩,Nat.add_sub_cancel_left,List.map_take,List.map_drop]
    have a0:∀ys:List (List AV),ys.length<1000000000->xf 24 5 1 0 0 ys (some ⟨5,1,[],false⟩)=some (.ms 24 1 0 ys.length,.reb 24 ⟨5,1,ys,false⟩):=λys hy=>by
     have h:=bq 24 5 1 0 de [] ys rfl;rw[au ⟨by omega,by decide,by decide⟩]at h;simpa using h
    rw[r];simp only[go_sem,jR,aL h1];refine ab (LM b a 0 ha hb) ?_;have l:wV true b a=(b.length:Int)-a:=rfl;simp only[go_sem,l,aL h2,w1,s1,a0 _ (show(((b.drop a).take k).map de).length<1000000000 by simp;omega)];refine aB [24] ?_ rfl;simp only[go_sem,a_,bZ];rw[cI (by simp)]
 .have r:aO (e==0) b a e n=(none,a,e):=by simp[aO,h]
  rw[r];simp only[go_sem,jR,bj h];exact an
end
section
attribute[local go_sem] rx ro
def qu(b:Af)(a:Nat)(e:Int)(ha:a<=b.length)(hb:b.length<1000000000) :
  aj pg 243 [rx b a e] (.tup [rx b (eD (e==0) b a e).2.1 (eD (e==0) b a e).2.2,.int .u8 (eD (e==0) b a e).1.toNat]):=by
 refine aC nP ?_;have h1:¬((1:Int)<0):=by decide
 have c:=uV b a e 1 ha hb (by decide);by_cases h:e=0
 .subst h;by_cases h2:(b.length:Int)-a<1
  .have r:aO ((0:Int)==0) b a 0 1=(none,a,3):=by simp only[aO,beq_self_eq_true,aN,ak h1];rw[au (by omega)]
   have r2:eD ((0:Int)==0) b a 0=(0,a,3):=by simp only[eD,beq_self_eq_true,aN,au h2]
   rw[r]at c;rw[r2];simp only[go_sem,nP];refine aa (c) ?_;exact aB [] (by simp only[go_sem];rfl) rfl
  .have hl:a<b.length:=by omega
   have e1:(b.drop a).take 1=[ac b a]:=by rw[Kt hl,bv hl];rfl
   have r:aO ((0:Int)==0) b a 0 1=(some [ac b a],a+1,0):=by
    simp only[aO,beq_self_eq_true,aN,ak h1];rw[ak (by omega)];rw[show(1:Int).toNat=1 from rfl,e1]
   have r2:eD ((0:Int)==0) b a 0=(ac b a,a+1,0):=by simp only[eD,beq_self_eq_true,aN,ak h2]
   have n0:(((1:Nat):Int)==0)=false:=rfl;rw[r]at c;rw[r2];simp only[go_sem,nP];refine ab (c) ?_;simp only[go_sem,i0,cj,aI1,n0];exact aB [] (by simp only[go_sem]) rfl
 .have r:aO (e==0) b a e 1=(none,a,e):=by simp[aO,h]
  have r2:eD (e==0) b a e=(0,a,e):=by simp[eD,h]
  rw[r]at c;rw[r2];simp only[go_sem,nP];refine aa (c) ?_;exact aB [] (by simp only[go_sem];rfl) rfl
def LO(bits:Nat)(b:Af)(a:Nat)(e:Int)(hbits:1<=bits/\bits<=64)(ha:a<=b.length)(hb:b.length<1000000000) :
  aj pg 294 [rx b a e,.int .i64 bits] (.tup [rx b (rU (e==0) bits b a e).2.1 (rU (e==0) bits b a e).2.2,.int .u64 (rU (e==0) bits b a e).1]):=by
 refine aC kH ?_;by_cases h:e=0
 .subst h;have hk:=CF (b.drop a) bits;simp only[jK]at hk;simp only[go_sem,kH];refine⟨⟨by omega,by omega⟩,?_⟩;refine ab (aiP (b.drop a) bits hbits) ?_;by_cases hq:(dm (b.drop a) bits).2.2=0
  .have r:rU true bits b a 0=((dm (b.drop a) bits).1,a+(dm (b.drop a) bits).2.1,0):=by simp[rU,hq]
   have w1:IntKind.i64.wrap ((a:Int)+((dm (b.drop a) bits).2.1:Int))=((a+(dm (b.drop a) bits).2.1:Nat):Int):=wn (by omega) (by omega) (by omega);rw[r];simp only[go_sem,uR,aI hq,w1];exact an
  .have r:rU true bits b a 0=(0,a,(dm (b.drop a) bits).2.2):=by simp[rU,hq]
   rw[r];simp only[go_sem,uR,bj hq];refine aa (cM b a (dm (b.drop a) bits).2.2) ?_;exact aB [] (by simp only[go_sem];rfl) rfl
 .have r:rU (e==0) bits b a e=(0,a,e):=by simp[rU,h]
  rw[r];simp only[go_sem,kH,bj h];exact aB [] (by simp only[go_sem];rfl) rfl
def DM(bits:Nat)(b:Af)(a:Nat)(e:Int)(hbits:1<=bits/\bits<=64)(ha:a<=b.length)(hb:b.length<1000000000) :
  aj pg 371 [rx b a e,.int .i64 bits] (.tup [rx b (rS (e==0) bits b a e).2.1 (rS (e==0) bits b a e).2.2,.int .i64 (rS (e==0) bits b a e).1]):=by
 refine aC oS ?_;by_cases h:e=0
 .subst h;have hk:=CE (b.drop a) bits;simp only[jK]at hk;simp only[go_sem,oS];refine⟨⟨by omega,by omega⟩,?_⟩;refine ab (aiO (b.drop a) bits hbits) ?_;by_cases hq:(di (b.drop a) bits).2.2=0
  .have r:rS true bits b a 0=((di (b.drop a) bits).1,a+(di (b.drop a) bits).2.1,0):=by simp[rS,hq]
   have w1:IntKind.i64.wrap ((a:Int)+((di (b.drop a) bits).2.1:Int))=((a+(di (b.drop a) bits).2.1:Nat):Int):=wn (by omega) (by omega) (by omega);rw[r];simp only[go_sem,sR,aI hq,w1];exact an
  .have r:rS true bits b a 0=(0,a,(di (b.drop a) bits).2.2):=by simp[rS,hq]
   rw[r];simp only[go_sem,sR,bj hq];refine aa (cM b a (di (b.drop a) bits).2.2) ?_;exact an
 .have r:rS (e==0) bits b a e=(0,a,e):=by simp[rS,h]
  rw[r];simp only[go_sem,oS,bj h];exact an
section
variable(b:Af)(a:Nat)(e:Int)(ha:a<=b.length)(hb:b.length<1000000000)
include ha hb
def bR:aj pg 244 [rx b a e] (.tup [rx b (rU (e==0) 32 b a e).2.1 (rU (e==0) 32 b a e).2.2,.int .i64 (rU (e==0) 32 b a e).1]):=by
 refine aC AS ?_;have hl:=wW (e==0) b a e;have w1:IntKind.i64.wrap ((rU (e==0) 32 b a e).1:Int)=((rU (e==0) 32 b a e).1:Int):=wi (by omega) (by omega);simp only[go_sem,AS];refine ab (LO 32 b a e (by decide) ha hb) ?_;simp only[go_sem,w1];exact an
def Z3:aj pg 365 [rx b a e] (.tup [rx b (rS (e==0) 32 b a e).2.1 (rS (e==0) 32 b a e).2.2,.int .u64 (IntKind.u64.wrap (IntKind.u32.wrap (rS (e==0) 32 b a e).1))]):=by
 refine aC AO ?_;simp only[go_sem,AO];refine aa (DM 32 b a e (by decide) ha hb) ?_;exact an
def afZ:aj pg 370 [rx b a e] (.tup [rx b (rS (e==0) 33 b a e).2.1 (rS (e==0) 33 b a e).2.2,.int .i64 (rS (e==0) 33 b a e).1]):=by
 refine aC AP ?_;simp only[go_sem,AP];refine aa (DM 33 b a e (by decide) ha hb) ?_;exact an
def Z4:aj pg 366 [rx b a e] (.tup [rx b (rS (e==0) 64 b a e).2.1 (rS (e==0) 64 b a e).2.2,.int .u64 (IntKind.u64.wrap (rS (e==0) 64 b a e).1)]):=by
 refine aC AQ ?_;simp only[go_sem,AQ];refine aa (DM 64 b a e (by decide) ha hb) ?_;exact an
def HT(most:Int):aj pg 296 [rx b a e,.int .i64 most] (.tup [rx b (ba (e==0) b a e most).2.1 (ba (e==0) b a e most).2.2,.int .i64 (ba (e==0) b a e most).1]):=by
 refine aC wd ?_;simp only[go_sem,wd];refine ab (bR b a e ha hb) ?_;by_cases h:e=0
 .subst h;by_cases hq:(rU true 32 b a 0).2.2=0
  .by_cases hm:((rU true 32 b a 0).1:Int)>most
   .have r:ba true b a 0 most=(0,a,6):=by simp only[ba,aN];rw[au ⟨hq,hm⟩]
    simp only[go_sem,dt hq,aI hq,aK hm,r];refine aa (cM b a 6) ?_;exact aB [] (by simp only[go_sem];rfl) rfl
   .have r:ba true b a 0 most=rU true 32 b a 0:=by simp only[ba,aN];rw[ak (λhh=>hm hh.2)]
    simp only[go_sem,dt hq,aI hq,aL hm,r];exact an
  .have r:ba true b a 0 most=rU true 32 b a 0:=by simp only[ba,aN];rw[ak (λhh=>hq hh.1)]
   simp only[go_sem,aA hq,bj hq,r];exact an
 .have r:ba (e==0) b a e most=(0,a,e):=by simp[ba,h]
  have r2:rU (e==0) 32 b a e=(0,a,e):=by simp[rU,h]
  rw[r,r2];simp only[go_sem,aA h,bj h];exact aB [] (by simp only[go_sem]) rfl
def Uf:aj pg 180 [rx b a e] (.int .i64 (sq true b a e)):=by
 refine aC uh ?_;by_cases h:e=0
 .subst h;simp only[go_sem,uh];refine ab (LM b a 0 ha hb) ?_;have l:wV true b a=(b.length:Int)-a:=rfl;by_cases h2:a=b.length
  .have d:decide ((b.length:Int)-(a:Int)>0)=false:=aL (by omega);have r:sq true b a 0=0:=by simp[sq,h2]
   simp only[go_sem,l,d,r];exact an
  .have d:decide ((b.length:Int)-(a:Int)>0)=true:=aK (by omega);have r:sq true b a 0=5:=by simp[sq,h2]
   simp only[go_sem,l,d,r];exact an
 .have r:sq true b a e=e:=by simp[sq,h]
  simp only[go_sem,uh,aA h,r];exact an
end
end
def D0(b:Af)(hb:b.length<1000000000):aQ pg 146 [.sl 1 (b.map de)] [] sb (λr' σ'=>r' = .mp 6 4 0 0/\σ'=[(6,ro true b ((0:Nat):Int) 0)]):=by
 refine bA xU ?_;simp only[xU,go_sem];refine⟨by omega,done [4] _ [(6,ro true b ((0:Nat):Int) 0)] (by simp only[go_sem]) ?_ rfl ⟨rfl,rfl⟩⟩;simp only[go_sem,ro,a_,bZ];rw[cI (by simp)];rfl
def qX{d:Option Nat}{s:St}{K:St->Prop}(k j:Nat)(hk:k<1000)(hj:j<1000\/2000<j)(hkj:k≠j)(hfk:ah s.heap k=none)(hfj:ah s.heap j=none)
  (hK:K ((St.mk (dE [k,j] s.env) ((k,wo j true [] 0)::(j,wa [])::dy [k,j] s.heap)).put d (.mp k 3 0 0))):cO pg 26 [] d s K:=by
 have e0:fw [(2,k),(2000,j)] 2=k:=by
  simp only[fw];unfold i5;have q:¬k=2000:=by omega
  simp[q,hkj]
 have e1:fw [(2,k),(2000,j)] 2000=j:=by
  simp only[fw];unfold i5;have q:¬(2000=k):=by omega
  simp[q]
 refine dX (σ2:=[]) (r3:=.mp k 3 0 0) (σ3:=[(k,wo j true [] 0),(j,wa [])]) adg [(2,k),(2000,j)] [k,j] rfl rfl ?_ ?_ (λp hp=>by cases hp) (λp hp=>?_) (λp hp=>by cases hp) hK
 .simp only[m0,vR,qy,rz,e0]
 .simp only[iX,iY,wo,wa,aN,eG,qF,qy,rz,e0,e1,gR,bB];rfl
 .simp only[dQ,tN,or_false]at hp;rcases hp with rfl|rfl
  .exact .inr ⟨by simp,.inl hk,.inr hfk⟩
  .exact .inr ⟨by simp,by rcases hj with h|h<;>omega,.inr hfj⟩
def dL:∀l:Af,mL (l.map de)=some l
 | []=>rfl
 | b::l=>by
  simp only[eG,de,mL,dL l,gT,eB,UInt8.ofNat_toNat]
section
def mh(b:Af)(a:Nat)(t:Option (Af)×Nat×Int):Af×Nat×Int :=
 if t.2.2≠0 then([],a,t.2.2)else if uv (t.1.getD [])=false then([],a,9)else(t.1.getD [],t.2.1,0)
def ci(ok:Bool)(b:Af)(a:Nat)(e:Int):Af×Nat×Int :=
 if ok=true then mh b a (aO ((ba true b a 0 64).2.2==0) b (ba true b a 0 64).2.1 (ba true b a 0 64).2.2 (ba true b a 0 64).1)else([],a,e)
def fg{ok:Bool}{b:Af}{a:Nat}{e most:Int}(h:a<=b.length):(ba ok b a e most).2.1<=b.length:=by
 unfold ba;split
 .split
  .exact h
  .exact PC h
 .exact h
def Ga(ok:Bool)(b:Af)(a:Nat)(e most:Int):(ba ok b a e most).1<4294967296:=by
 unfold ba;split
 .split
  .exact(by decide:(0:Nat)<4294967296)
  .exact wW _ _ _ _
 .exact(by decide:(0:Nat)<4294967296)
def Bp(b:Af)(a:Nat)(e n:Int)(ha:a<=b.length):(∃x,x≠0/\aO (e==0) b a e n=(none,a,x))\/e=0/\∃l,l.length<=b.length/\aO (e==0) b a e n=(some l,a+n.toNat,0)/\l=(b.drop a).take n.toNat:=by
 by_cases h:e=0
 .subst h;by_cases h1:n<0
  .exact .inl ⟨1,by decide,by simp[aO,h1]⟩
  .by_cases h2:n>(b.length:Int)-a
   .exact .inl ⟨3,by decide,by simp[aO,h1,h2]⟩
   .exact .inr ⟨rfl,(b.drop a).take n.toNat,by simp;omega,by simp only[aO,beq_self_eq_true,aN,ak h1,ak h2],rfl⟩
 .exact .inl ⟨e,h,by simp[aO,h]⟩
attribute[local go_sem] rx ro
def UQ(m:Bool)(b:Af)(a:Nat)(e:Int)(ha:a<=b.length)(hb:b.length<1000000000) :
  RM 231 [] m b a e (.str (ci (m&&e==0) b a e).1) (ci (m&&e==0) b a e).2.1 (ci (m&&e==0) b a e).2.2:=by
 refine bA lu ?_;simp only[go_sem,lu];refine ae (sv m b a e) ?_;cases h:(m&&e==0)
 .have r:ci false b a e=([],a,e):=by simp[ci]
  rw[r];simp only[go_sem];exact MJ (λ_ h=>by cases h) (by simp only[go_sem]) (by rfl) (by first|rfl|simp[go_sem,bU,KR])
 .obtain⟨rfl,h2⟩:=Bool.and_eq_true_iff.1 h;obtain rfl:e=0:=by simpa using h2
  simp only[go_sem];refine ae (H0 true b a 0 64 ha hb) ?_;have hl:=Ga true b a 0 64;have ha2:=fg (ok:=true) (e:=0) (most:=64) ha;have r:ci true b a 0=mh b a (aO ((ba true b a 0 64).2.2==0) b (ba true b a 0 64).2.1 (ba true b a 0 64).2.2 (ba true b a 0 64).1):=by simp[ci]
  rw[h,r];generalize hc:ba true b a 0 64=c at*;obtain⟨n,a1,e1⟩:=c;simp only[go_sem];refine ae (u9 true b a1 e1 n ha2 hb (by omega)) ?_;rw[bY];rcases Bp b a1 e1 (n:Int) ha2 with⟨x,hx,ht⟩|⟨rfl,l,hl2,ht,_⟩
  .have r2:mh b a (none,a1,x)=([],a,x):=by simp[mh,hx]
   rw[ht,r2];simp only[go_sem,mL,gT,aA hx,bj hx];exact MJ (λ_ h=>by cases h) (by simp only[go_sem]) (by rfl) (by first|rfl|simp[go_sem,bU,KR])
  .have b1:=dL l;rw[eB]at ht;rw[ht];simp only[go_sem,b1,gT];refine ab (UV l (by omega)) ?_;cases hv:uv l
   .have r2:mh b a (some l,a1+n,0)=([],a,9):=by simp[mh,hv]
    rw[r2];simp only[go_sem];refine aE (cA b ((a1+n:Nat):Int) 9) ?_;exact MJ (λ_ h=>by cases h) (by simp only[go_sem]) (by rfl) (by first|rfl|simp[go_sem,bU,KR])
   .have r2:mh b a (some l,a1+n,0)=(l,a1+n,0):=by simp[mh,hv]
    rw[r2];simp only[go_sem];exact MJ (λ_ h=>by cases h) (by simp only[go_sem]) (by rfl) (by first|rfl|simp[go_sem,bU,KR])
def Ug(b:Af)(a:Nat)(e:Int)(ha:a<=b.length)(hb:b.length<1000000000) :
  aj pg 246 [rx b a e] (.tup [rx b (ci (e==0) b a e).2.1 (ci (e==0) b a e).2.2,.str (ci (e==0) b a e).1]):=by
 refine aC rY ?_;have cc:=HT b a e ha hb 64;by_cases h:e=0
 .subst h;simp only[go_sem,rY];refine ab (cc) ?_;have hl:=Ga true b a 0 64;have ha2:=fg (ok:=true) (e:=0) (most:=64) ha;have r:ci true b a 0=mh b a (aO ((ba true b a 0 64).2.2==0) b (ba true b a 0 64).2.1 (ba true b a 0 64).2.2 (ba true b a 0 64).1):=by simp[ci]
  rw[r];simp only[go_sem];generalize hc:ba true b a 0 64=c at*;obtain⟨n,a1,e1⟩:=c;have ct:=uV b a1 e1 n ha2 hb (by omega);rcases Bp b a1 e1 (n:Int) ha2 with⟨x,hx,ht⟩|⟨rfl,l,hl2,ht,_⟩
  .have r2:mh b a (none,a1,x)=([],a,x):=by simp[mh,hx]
   rw[ht]at ct;rw[ht,r2];refine ab (ct) ?_;simp only[go_sem,aA hx,bj hx];refine aa (cM b a x) ?_;exact an
  .have b1:=dL l;rw[eB]at ht;rw[ht]at ct;rw[ht];refine aa (ct) ?_;refine ab (agr l (by omega)) ?_;cases hv:uv l
   .have r2:mh b a (some l,a1+n,0)=([],a,9):=by simp[mh,hv]
    rw[r2];simp only[go_sem];refine aa (cM b a 9) ?_;exact an
   .have r2:mh b a (some l,a1+n,0)=(l,a1+n,0):=by simp[mh,hv]
    rw[r2];simp only[go_sem,b1,gT];exact an
 .have r:ba (e==0) b a e 64=(0,a,e):=by simp[ba,h]
  have r1:aO (e==0) b a e ((0:Nat):Int)=(none,a,e):=by simp[aO,h]
  have r2:ci (e==0) b a e=([],a,e):=by simp[ci,h]
  have ct:=uV b a e ((0:Nat):Int) ha hb (by decide);rw[r]at cc;rw[r1]at ct;rw[r2];simp only[go_sem,rY];refine aa (cc) ?_;refine ab (ct) ?_;simp only[go_sem,aA h,bj h];refine ab (xH b a e e) ?_;simp only[go_sem,ak h];exact an
def ac6(b:Af)(a:Nat)(e n:Int)(ha:a<=b.length)(hb:b.length<1000000000)(hn:-9223372036854775808<=n/\n<9223372036854775808) :
  aQ pg 293 [.mp 1000 4 0 0,.int .i64 n] [(1000,ro true b a e)] sb (λr' σ'=>r' = .mp 24 4 0 0/\σ'=[(1000,ro true b (aO (e==0) b a e n).2.1 (aO (e==0) b a e n).2.2),(24,ro true ((aO (e==0) b a e n).1.getD []) ((0:Nat):Int) (aO (e==0) b a e n).2.2)]):=by
 refine bA nj ?_;simp only[go_sem,nj];refine ae (u9 true b a e n ha hb hn) ?_;rw[bY];cases hl:(aO (e==0) b a e n).1 with
 | none =>
  simp only[go_sem];refine aJ (Wk.nlh _ 24 (t:=287) (st:=4) (r:=[.bool true,.nl,.int .i64 0,.int .i64 (aO (e==0) b a e n).2.2]) (r':=[.bool true,.sl 1 [],.int .i64 0,.int .i64 (aO (e==0) b a e n).2.2]) (by simp only[go_sem]) ⟨.inl rfl,.inr ⟨rfl,1,rfl⟩,.inl rfl,.inl rfl,trivial⟩) [] (.mp 24 4 0 0) [(1000,ro true b (aO (e==0) b a e n).2.1 (aO (e==0) b a e n).2.2),(24,ro true [] ((0:Nat):Int) (aO (e==0) b a e n).2.2)] (by simp only[go_sem]) (by simp only[go_sem];rfl) rfl ⟨rfl,rfl⟩
 | some l =>
  simp only[go_sem];exact done [] _ [(1000,ro true b (aO (e==0) b a e n).2.1 (aO (e==0) b a e n).2.2),(24,ro true l ((0:Nat):Int) (aO (e==0) b a e n).2.2)] (by simp only[go_sem]) (by simp only[go_sem];rfl) rfl ⟨rfl,rfl⟩
def af0(b:Af)(a:Nat)(e n:Int)(ha:a<=b.length)(hb:b.length<1000000000)(hn:-9223372036854775808<=n/\n<9223372036854775808) :
  aj pg 305 [rx b a e,.int .i64 n] (.tup [rx b (aO (e==0) b a e n).2.1 (aO (e==0) b a e n).2.2,rx ((aO (e==0) b a e n).1.getD []) 0 (aO (e==0) b a e n).2.2]):=by
 refine aC AR ?_;simp only[go_sem,AR];refine ab (uV b a e n ha hb hn) ?_;cases hl:(aO (e==0) b a e n).1 with
 | none =>
  simp only[go_sem];exact bN (Wk.nlh _ 5 (t:=240) (st:=3) (r:=[.nl,.int .i64 0,.int .i64 (aO (e==0) b a e n).2.2]) (r':=[.sl 1 [],.int .i64 0,.int .i64 (aO (e==0) b a e n).2.2]) (by simp only[go_sem]) ⟨.inr ⟨rfl,1,rfl⟩,.inl rfl,.inl rfl,trivial⟩) [] (by simp only[go_sem]) rfl
 | some l =>
  simp only[go_sem];exact aB [] (by simp only[go_sem]) rfl
