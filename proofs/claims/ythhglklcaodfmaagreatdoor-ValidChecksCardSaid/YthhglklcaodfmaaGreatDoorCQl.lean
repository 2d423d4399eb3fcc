import Derived.Test.YthhglklcaodfmaaGreatDoorCQk
set_option linter.all false
set_option maxRecDepth 100000
set_option maxHeartbeats 40000000
namespace Go.Proofs.YthhglklcaodfmaaGreatDoor
section
open Go Go.Mw
attribute[local go_sem] bY
def agM(n:Nat):aj pg NO [.int .i64 n] (.bool (ND n)):=by
 refine ao nK ?_;unfold ND;by_cases h1:n<55296
 .rw[aF h1,nx];simp only[go_sem,nK,aF (show(n:Int)>=0 by omega),aF (show(n:Int)<55296 by omega)];exact aq [] (by first|(simp only[go_sem];done)|(simp only[go_sem];rfl)) (by rfl)
 .rw[aI h1,jW];by_cases h2:n>57343
  .rw[aF h2,dM];by_cases h3:n<=1114111
   .rw[aF h3];simp only[go_sem,nK,aF (show(n:Int)>=0 by omega),aI (show ¬(n:Int)<55296 by omega),aF (show(n:Int)>57343 by omega),aF (show(n:Int)<=1114111 by omega)];exact aq [] (by first|(simp only[go_sem];done)|(simp only[go_sem];rfl)) (by rfl)
   .rw[aI h3];simp only[go_sem,nK,aF (show(n:Int)>=0 by omega),aI (show ¬(n:Int)<55296 by omega),aF (show(n:Int)>57343 by omega),aI (show ¬(n:Int)<=1114111 by omega)];exact aq [] (by first|(simp only[go_sem];done)|(simp only[go_sem];rfl)) (by rfl)
  .rw[aI h2,dF];simp only[go_sem,nK,aF (show(n:Int)>=0 by omega),aI (show ¬(n:Int)<55296 by omega),aI (show ¬(n:Int)>57343 by omega)];exact aq [] (by first|(simp only[go_sem];done)|(simp only[go_sem];rfl)) (by rfl)
def YW(s:List UInt8)(i k:Nat):bn (s.drop i) k=(av s (i+k)).toNat:=by unfold bn;rw[LS]
def abT(s:List UInt8)(hs:s.length<=1048576)(i:Nat)(hi:i<s.length):aj pg FX [.str s,.int .i64 i] (.tup [.int .i64 (HQ (s.drop i)).1,.int .i64 (HQ (s.drop i)).2]):=by
 refine ao dy ?_;have hlen:(s.drop i).length=s.length-i:=by simp
 have hb:=YW s i;have h0:(av s i).toNat=bn (s.drop i) 0:=by rw[hb];rfl
 have hlt:=(av s i).toNat_lt;have wc:IntKind.i64.wrap ((av s i).toNat:Int)=((av s i).toNat:Int):=wi (by omega) (by omega);generalize hl:s.drop i=l at*;by_cases g0:bn l 0<128
 .rw[W5 g0];simp only[go_sem,dy,wc,aF (show((av s i).toNat:Int)<128 by omega)];refine⟨by omega,by omega,?_⟩;rw[<-h0];exact aq [] (by first|(simp only[go_sem];done)|(simp only[go_sem];rfl)) (by rfl)
 by_cases g1:bn l 0<192
 .rw[acT (by omega) (.inl g1)];simp only[go_sem,dy,wc,aI (show ¬((av s i).toNat:Int)<128 by omega),aI (show ¬((av s i).toNat:Int)>=192 by omega),aI (show ¬((av s i).toNat:Int)>=224 by omega),aI (show ¬((av s i).toNat:Int)>=240 by omega)];refine⟨by omega,by omega,?_⟩;exact aq [] (by first|(simp only[go_sem];done)|(simp only[go_sem];rfl)) (by rfl)
 by_cases g2:bn l 0<224
 .have hx:bn l 0-192<32:=by omega
  have wx:IntKind.i64.wrap ((av s i).toNat-192:Int)=((bn l 0-192:Nat):Int):=by rw[wi (by omega) (by omega)];omega
  rw[ajz (by omega) g2];have wn:IntKind.i64.wrap ((i:Int)+2)=((i+2:Nat):Int):=by rw[wi (by omega) (by omega)];omega
  by_cases gl:((i+2:Nat):Int)>(s.length:Int)
  .rw[mA (λq=>by have:=q.1;omega)];simp only[go_sem,dy,wc,aI (show ¬((av s i).toNat:Int)<128 by omega),aF (show((av s i).toNat:Int)>=192 by omega),aF (show((av s i).toNat:Int)<224 by omega),wx,wn,aF gl];refine⟨by omega,by omega,?_⟩;exact aq [] (by first|(simp only[go_sem];done)|(simp only[go_sem];rfl)) (by rfl)
  simp only[go_sem,dy,wc,aI (show ¬((av s i).toNat:Int)<128 by omega),aF (show((av s i).toNat:Int)>=192 by omega),aF (show((av s i).toNat:Int)<224 by omega),wx,wn,aI gl];refine⟨by omega,by omega,?_⟩;refine aA (λk:Nat=>⟨[(10,.int .i64 k),(9,.int .i64 (xk l (bn l 0-192) k:Nat)),(8,.int .i64 128),(7,.int .i64 2),(0,.str s),(1,.int .i64 i)],[]⟩) (λk=>1<=k/\k<=2/\∀j,1<=j->j<k->uy (bn l j)) (λk=>2-k) 1 ⟨aQ _,by decide,λj a b=>by omega⟩ (Wk.of ?_ ?_) ?_
  .simp only[go_sem,wx,xk];try simp
  .simp only[go_sem]
  rintro k ⟨hk1,hk,hc⟩;by_cases hkn:(k:Int)<2
  .have w1:IntKind.i64.wrap ((i:Int)+(k:Int))=((i+k:Nat):Int):=by rw[wi (by omega) (by omega)];omega
   have e8:IntKind.i64.wrap ((k:Int)+1)=(k:Int)+1:=wi (by omega) (by omega);have hd:=hb k;have hdl:=(av s (i+k)).toNat_lt;have wd:IntKind.i64.wrap ((av s (i+k)).toNat:Int)=((av s (i+k)).toNat:Int):=wi (by omega) (by omega);have hik:i+k<s.length:=by omega
   by_cases hct:uy (bn l k)
   .have hct':=hct;unfold uy at hct';have hxk:=Qi hx (k-1) (λj a b=>hc j a (by omega));rw[show k-1+1=k by omega]at hxk;have hp:(64:Nat)^(k-1)<=64^2:=agY (by decide) (by omega);have hxs:=agX (l:=l) (x:=bn l 0-192) hk1;generalize (64:Nat)^(k-1)=p at*;have wm:IntKind.i64.wrap ((xk l (bn l 0-192) k:Nat)*64:Int)=((xk l (bn l 0-192) k*64:Nat):Int):=by rw[wi (by omega) (by omega)];omega
    have wa:IntKind.i64.wrap (((xk l (bn l 0-192) k*64:Nat):Int)+((av s (i+k)).toNat:Int))=((xk l (bn l 0-192) k*64+bn l k:Nat):Int):=by rw[wi (by omega) (by omega)];omega
    have ws:IntKind.i64.wrap (((xk l (bn l 0-192) k*64+bn l k:Nat):Int)-128)=((xk l (bn l 0-192) (k+1):Nat):Int):=by rw[wi (by omega) (by omega)];omega
    simp only[go_sem,aF hkn,w1,wd,aI (show ¬((av s (i+k)).toNat:Int)<128 by omega),aI (show ¬((av s (i+k)).toNat:Int)>=192 by omega),wm,wa,ws];refine⟨by omega,by omega,aH (k+1) ⟨by omega,show k+1<=2 by omega,λj a b=>?_⟩ (show 2-(k+1)<2-k by omega) (Wk.of ?_ ?_)⟩
    .rcases kU j k with q|q
     .exact hc j a q
     .rw[show j=k by omega];exact hct
    .simp only[go_sem,e8];try simp
    .simp only[go_sem]
   .rw[mA (λq=>hct (q.2.1 k hk1 (by omega)))];unfold uy at hct;by_cases h1:(av s (i+k)).toNat<128
    .simp only[go_sem,aF hkn,w1,wd,aF (show((av s (i+k)).toNat:Int)<128 by omega)];refine⟨by omega,by omega,?_⟩;exact aq [] (by first|(simp only[go_sem];done)|(simp only[go_sem];rfl)) (by rfl)
    .simp only[go_sem,aF hkn,w1,wd,aI (show ¬((av s (i+k)).toNat:Int)<128 by omega),aF (show((av s (i+k)).toNat:Int)>=192 by omega)];refine⟨by omega,by omega,?_⟩;exact aq [] (by first|(simp only[go_sem];done)|(simp only[go_sem];rfl)) (by rfl)
  .obtain rfl:k=2:=by omega
   generalize hX:xk l (bn l 0-192) 2=X at*;by_cases h1:X<128
   .rw[mA (λq=>by have:=q.2.2.1;rw[hX]at this;omega)];simp only[go_sem,aI hkn,aF (show(X:Int)<128 by omega)];exact aq [] (by first|(simp only[go_sem];done)|(simp only[go_sem];rfl)) (by rfl)
   .simp only[go_sem,aI hkn,aI (show ¬(X:Int)<128 by omega)];refine ae (agM X) ?_;cases h2:ND X
    .rw[mA (λq=>by have:=q.2.2.2;rw[hX,h2]at this;cases this)];simp only[go_sem];exact aq [] (by first|(simp only[go_sem];done)|(simp only[go_sem];rfl)) (by rfl)
    .rw[JB ⟨by omega,hc,by rw[hX];omega,by rw[hX];exact h2⟩,hX];simp only[go_sem];exact aq [] (by first|(simp only[go_sem];done)|(simp only[go_sem];rfl)) (by rfl)
 by_cases g3:bn l 0<240
 .have hx:bn l 0-224<32:=by omega
  have wx:IntKind.i64.wrap ((av s i).toNat-224:Int)=((bn l 0-224:Nat):Int):=by rw[wi (by omega) (by omega)];omega
  rw[ajA (by omega) g3];have wn:IntKind.i64.wrap ((i:Int)+3)=((i+3:Nat):Int):=by rw[wi (by omega) (by omega)];omega
  by_cases gl:((i+3:Nat):Int)>(s.length:Int)
  .rw[mA (λq=>by have:=q.1;omega)];simp only[go_sem,dy,wc,aI (show ¬((av s i).toNat:Int)<128 by omega),aF (show((av s i).toNat:Int)>=192 by omega),aI (show ¬((av s i).toNat:Int)<224 by omega),aF (show((av s i).toNat:Int)>=224 by omega),aF (show((av s i).toNat:Int)<240 by omega),wx,wn,aF gl];refine⟨by omega,by omega,?_⟩;exact aq [] (by first|(simp only[go_sem];done)|(simp only[go_sem];rfl)) (by rfl)
  simp only[go_sem,dy,wc,aI (show ¬((av s i).toNat:Int)<128 by omega),aF (show((av s i).toNat:Int)>=192 by omega),aI (show ¬((av s i).toNat:Int)<224 by omega),aF (show((av s i).toNat:Int)>=224 by omega),aF (show((av s i).toNat:Int)<240 by omega),wx,wn,aI gl];refine⟨by omega,by omega,?_⟩;refine aA (λk:Nat=>⟨[(10,.int .i64 k),(9,.int .i64 (xk l (bn l 0-224) k:Nat)),(8,.int .i64 2048),(7,.int .i64 3),(0,.str s),(1,.int .i64 i)],[]⟩) (λk=>1<=k/\k<=3/\∀j,1<=j->j<k->uy (bn l j)) (λk=>3-k) 1 ⟨aQ _,by decide,λj a b=>by omega⟩ (Wk.of ?_ ?_) ?_
  .simp only[go_sem,wx,xk];try simp
  .simp only[go_sem]
  rintro k ⟨hk1,hk,hc⟩;by_cases hkn:(k:Int)<3
  .have w1:IntKind.i64.wrap ((i:Int)+(k:Int))=((i+k:Nat):Int):=by rw[wi (by omega) (by omega)];omega
   have e8:IntKind.i64.wrap ((k:Int)+1)=(k:Int)+1:=wi (by omega) (by omega);have hd:=hb k;have hdl:=(av s (i+k)).toNat_lt;have wd:IntKind.i64.wrap ((av s (i+k)).toNat:Int)=((av s (i+k)).toNat:Int):=wi (by omega) (by omega);have hik:i+k<s.length:=by omega
   by_cases hct:uy (bn l k)
   .have hct':=hct;unfold uy at hct';have hxk:=Qi hx (k-1) (λj a b=>hc j a (by omega));rw[show k-1+1=k by omega]at hxk;have hp:(64:Nat)^(k-1)<=64^2:=agY (by decide) (by omega);have hxs:=agX (l:=l) (x:=bn l 0-224) hk1;generalize (64:Nat)^(k-1)=p at*;have wm:IntKind.i64.wrap ((xk l (bn l 0-224) k:Nat)*64:Int)=((xk l (bn l 0-224) k*64:Nat):Int):=by rw[wi (by omega) (by omega)];omega
    have wa:IntKind.i64.wrap (((xk l (bn l 0-224) k*64:Nat):Int)+((av s (i+k)).toNat:Int))=((xk l (bn l 0-224) k*64+bn l k:Nat):Int):=by rw[wi (by omega) (by omega)];omega
    have ws:IntKind.i64.wrap (((xk l (bn l 0-224) k*64+bn l k:Nat):Int)-128)=((xk l (bn l 0-224) (k+1):Nat):Int):=by rw[wi (by omega) (by omega)];omega
    simp only[go_sem,aF hkn,w1,wd,aI (show ¬((av s (i+k)).toNat:Int)<128 by omega),aI (show ¬((av s (i+k)).toNat:Int)>=192 by omega),wm,wa,ws];refine⟨by omega,by omega,aH (k+1) ⟨by omega,show k+1<=3 by omega,λj a b=>?_⟩ (show 3-(k+1)<3-k by omega) (Wk.of ?_ ?_)⟩
    .rcases kU j k with q|q
     .exact hc j a q
     .rw[show j=k by omega];exact hct
    .simp only[go_sem,e8];try simp
    .simp only[go_sem]
   .rw[mA (λq=>hct (q.2.1 k hk1 (by omega)))];unfold uy at hct;by_cases h1:(av s (i+k)).toNat<128
    .simp only[go_sem,aF hkn,w1,wd,aF (show((av s (i+k)).toNat:Int)<128 by omega)];refine⟨by omega,by omega,?_⟩;exact aq [] (by first|(simp only[go_sem];done)|(simp only[go_sem];rfl)) (by rfl)
    .simp only[go_sem,aF hkn,w1,wd,aI (show ¬((av s (i+k)).toNat:Int)<128 by omega),aF (show((av s (i+k)).toNat:Int)>=192 by omega)];refine⟨by omega,by omega,?_⟩;exact aq [] (by first|(simp only[go_sem];done)|(simp only[go_sem];rfl)) (by rfl)
  .obtain rfl:k=3:=by omega
   generalize hX:xk l (bn l 0-224) 3=X at*;by_cases h1:X<2048
   .rw[mA (λq=>by have:=q.2.2.1;rw[hX]at this;omega)];simp only[go_sem,aI hkn,aF (show(X:Int)<2048 by omega)];exact aq [] (by first|(simp only[go_sem];done)|(simp only[go_sem];rfl)) (by rfl)
   .simp only[go_sem,aI hkn,aI (show ¬(X:Int)<2048 by omega)];refine ae (agM X) ?_;cases h2:ND X
    .rw[mA (λq=>by have:=q.2.2.2;rw[hX,h2]at this;cases this)];simp only[go_sem];exact aq [] (by first|(simp only[go_sem];done)|(simp only[go_sem];rfl)) (by rfl)
    .rw[JB ⟨by omega,hc,by rw[hX];omega,by rw[hX];exact h2⟩,hX];simp only[go_sem];exact aq [] (by first|(simp only[go_sem];done)|(simp only[go_sem];rfl)) (by rfl)
 by_cases g4:bn l 0<248
 .have hx:bn l 0-240<32:=by omega
  have wx:IntKind.i64.wrap ((av s i).toNat-240:Int)=((bn l 0-240:Nat):Int):=by rw[wi (by omega) (by omega)];omega
  rw[ajB (by omega) g4];have wn:IntKind.i64.wrap ((i:Int)+4)=((i+4:Nat):Int):=by rw[wi (by omega) (by omega)];omega
  by_cases gl:((i+4:Nat):Int)>(s.length:Int)
  .rw[mA (λq=>by have:=q.1;omega)];simp only[go_sem,dy,wc,aI (show ¬((av s i).toNat:Int)<128 by omega),aF (show((av s i).toNat:Int)>=192 by omega),aI (show ¬((av s i).toNat:Int)<224 by omega),aF (show((av s i).toNat:Int)>=224 by omega),aI (show ¬((av s i).toNat:Int)<240 by omega),aF (show((av s i).toNat:Int)>=240 by omega),aF (show((av s i).toNat:Int)<248 by omega),wx,wn,aF gl];refine⟨by omega,by omega,?_⟩;exact aq [] (by first|(simp only[go_sem];done)|(simp only[go_sem];rfl)) (by rfl)
  simp only[go_sem,dy,wc,aI (show ¬((av s i).toNat:Int)<128 by omega),aF (show((av s i).toNat:Int)>=192 by omega),aI (show ¬((av s i).toNat:Int)<224 by omega),aF (show((av s i).toNat:Int)>=224 by omega),aI (show ¬((av s i).toNat:Int)<240 by omega),aF (show((av s i).toNat:Int)>=240 by omega),aF (show((av s i).toNat:Int)<248 by omega),wx,wn,aI gl];refine⟨by omega,by omega,?_⟩;refine aA (λk:Nat=>⟨[(10,.int .i64 k),(9,.int .i64 (xk l (bn l 0-240) k:Nat)),(8,.int .i64 65536),(7,.int .i64 4),(0,.str s),(1,.int .i64 i)],[]⟩) (λk=>1<=k/\k<=4/\∀j,1<=j->j<k->uy (bn l j)) (λk=>4-k) 1 ⟨aQ _,by decide,λj a b=>by omega⟩ (Wk.of ?_ ?_) ?_
  .simp only[go_sem,wx,xk];try simp
  .simp only[go_sem]
  rintro k ⟨hk1,hk,hc⟩;by_cases hkn:(k:Int)<4
  .have w1:IntKind.i64.wrap ((i:Int)+(k:Int))=((i+k:Nat):Int):=by rw[wi (by omega) (by omega)];omega
   have e8:IntKind.i64.wrap ((k:Int)+1)=(k:Int)+1:=wi (by omega) (by omega);have hd:=hb k;have hdl:=(av s (i+k)).toNat_lt;have wd:IntKind.i64.wrap ((av s (i+k)).toNat:Int)=((av s (i+k)).toNat:Int):=wi (by omega) (by omega);have hik:i+k<s.length:=by omega
   by_cases hct:uy (bn l k)
   .have hct':=hct;unfold uy at hct';have hxk:=Qi hx (k-1) (λj a b=>hc j a (by omega));rw[show k-1+1=k by omega]at hxk;have hp:(64:Nat)^(k-1)<=64^2:=agY (by decide) (by omega);have hxs:=agX (l:=l) (x:=bn l 0-240) hk1;generalize (64:Nat)^(k-1)=p at*;have wm:IntKind.i64.wrap ((xk l (bn l 0-240) k:Nat)*64:Int)=((xk l (bn l 0-240) k*64:Nat):Int):=by rw[wi (by omega) (by omega)];omega
    have wa:IntKind.i64.wrap (((xk l (bn l 0-240) k*64:Nat):Int)+((av s (i+k)).toNat:Int))=((xk l (bn l 0-240) k*64+bn l k:Nat):Int):=by rw[wi (by omega) (by omega)];omega
    have ws:IntKind.i64.wrap (((xk l (bn l 0-240) k*64+bn l k:Nat):Int)-128)=((xk l (bn l 0-240) (k+1):Nat):Int):=by rw[wi (by omega) (by omega)];omega
    simp only[go_sem,aF hkn,w1,wd,aI (show ¬((av s (i+k)).toNat:Int)<128 by omega),aI (show ¬((av s (i+k)).toNat:Int)>=192 by omega),wm,wa,ws];refine⟨by omega,by omega,aH (k+1) ⟨by omega,show k+1<=4 by omega,λj a b=>?_⟩ (show 4-(k+1)<4-k by omega) (Wk.of ?_ ?_)⟩
    .rcases kU j k with q|q
     .exact hc j a q
     .rw[show j=k by omega];exact hct
    .simp only[go_sem,e8];try simp
    .simp only[go_sem]
   .rw[mA (λq=>hct (q.2.1 k hk1 (by omega)))];unfold uy at hct;by_cases h1:(av s (i+k)).toNat<128
    .simp only[go_sem,aF hkn,w1,wd,aF (show((av s (i+k)).toNat:Int)<128 by omega)];refine⟨by omega,by omega,?_⟩;exact aq [] (by first|(simp only[go_sem];done)|(simp only[go_sem];rfl)) (by rfl)
    .simp only[go_sem,aF hkn,w1,wd,aI (show ¬((av s (i+k)).toNat:Int)<128 by omega),aF (show((av s (i+k)).toNat:Int)>=192 by omega)];refine⟨by omega,by omega,?_⟩;exact aq [] (by first|(simp only[go_sem];done)|(simp only[go_sem];rfl)) (by rfl)
  .obtain rfl:k=4:=by omega
   generalize hX:xk l (bn l 0-240) 4=X at*;by_cases h1:X<65536
   .rw[mA (λq=>by have:=q.2.2.1;rw[hX]at this;omega)];simp only[go_sem,aI hkn,aF (show(X:Int)<65536 by omega)];exact aq [] (by first|(simp only[go_sem];done)|(simp only[go_sem];rfl)) (by rfl)
   .simp only[go_sem,aI hkn,aI (show ¬(X:Int)<65536 by omega)];refine ae (agM X) ?_;cases h2:ND X
    .rw[mA (λq=>by have:=q.2.2.2;rw[hX,h2]at this;cases this)];simp only[go_sem];exact aq [] (by first|(simp only[go_sem];done)|(simp only[go_sem];rfl)) (by rfl)
    .rw[JB ⟨by omega,hc,by rw[hX];omega,by rw[hX];exact h2⟩,hX];simp only[go_sem];exact aq [] (by first|(simp only[go_sem];done)|(simp only[go_sem];rfl)) (by rfl)
 .rw[acT (by omega) (.inr (by omega))];simp only[go_sem,dy,wc,aI (show ¬((av s i).toNat:Int)<128 by omega),aF (show((av s i).toNat:Int)>=192 by omega),aI (show ¬((av s i).toNat:Int)<224 by omega),aF (show((av s i).toNat:Int)>=224 by omega),aI (show ¬((av s i).toNat:Int)<240 by omega),aF (show((av s i).toNat:Int)>=240 by omega),aI (show ¬((av s i).toNat:Int)<248 by omega)];refine⟨by omega,by omega,?_⟩;exact aq [] (by first|(simp only[go_sem];done)|(simp only[go_sem];rfl)) (by rfl)
end
section
open Go Go.Mw
attribute[local go_sem] bY
def abU(s:List UInt8)(hs:s.length<=1048576):bA pg FV [.str s] [] sb (λr' σ'=>∃v:AV,alh v/\r' = .tup [v,.bool (uv s)]/\σ'=[]):=by
 refine b_ wJ ?_;simp only[go_sem,wJ];refine aA (λq:List Int×Nat=>⟨[(5,.int .i64 q.2),(4,.ms 900 1 0 q.1.length),(0,.str s)],[(900,⟨21,1,q.1.map r3,false⟩)]⟩) (λq=>q.2<=s.length/\q.1.length<=q.2/\uv s=uv (s.drop q.2)) (λq=>s.length-q.2) ([],0) ⟨dx _,dx _,rfl⟩ ((Wk.nil _ 4 900 1 21 (by simp only[go_sem]) (.inl (by decide))).trans (Wk.of ?_ ?_)) ?_
 .simp only[go_sem,St.mknil];try simp[go_sem]
 .simp only[go_sem,St.mknil];try simp[go_sem]
 rintro⟨l,p⟩ ⟨h1,h2,h3⟩;simp only at h1 h2 h3;have happ:=λys=>cC 900 21 1 l.length r3 l ys rfl;by_cases hp:(p:Int)<(s.length:Int)
 .have hp':p<s.length:=by omega
  have hd:0<(s.drop p).length:=by simp;omega
  have ct:=abT s hs p hp';have hl3:(s.drop p).length=s.length-p:=by simp
  have hgo:=λh=>agR (l:=s.drop p) hd h;have hno:=λh=>agS (l:=s.drop p) hd h;generalize HQ (s.drop p)=R at*;obtain⟨x,k⟩:=R;simp only at ct hgo hno;by_cases hk:k=0
  .subst hk;rw[h3,hno rfl];simp only[go_sem,aF hp];refine ae (ct) ?_;simp only[go_sem,show(((0:Nat):Int)==0)=true from rfl];exact done [] _ [] (by simp only[go_sem]) trivial rfl ⟨.nl,rfl,rfl,rfl⟩
  .obtain⟨q1,q2⟩:=hgo hk;rw[OE]at q1;have e8:IntKind.i64.wrap ((p:Int)+(k:Int))=((p+k:Nat):Int):=by rw[wi (by omega) (by omega)];omega
   simp only[go_sem,aF hp];refine ae (ct) ?_;simp only[go_sem,ac (show(k:Int)≠0 by omega),happ];refine⟨by omega,aH (l++[IntKind.i32.wrap (x:Int)],p+k) ⟨show p+k<=s.length by omega,show(l++[IntKind.i32.wrap (x:Int)]).length<=p+k by simp;omega,h3.trans q1⟩ (show s.length-(p+k)<s.length-p by omega) (Wk.of ?_ ?_)⟩
   .simp only[go_sem,e8];try simp
   .simp only[go_sem];try simp[ajd]
 .obtain rfl:p=s.length:=by omega
  rw[h3,List.drop_length,agQ];simp only[go_sem,aI hp];refine done [900] (.tup [.sl 1 (l.map r3),.bool true]) [] ?_ trivial rfl ⟨.sl 1 (l.map r3),rfl,rfl,rfl⟩;simp only[go_sem,aQ];rw[iF (by simp)]
def agN(s:List UInt8)(hs:smS s):aj pg FW [.str s] (.bool (uv s)):=by
 refine ao wK ?_;simp only[go_sem,wK];refine Y1 (abU s hs) ?_;intro v hv;simp only[go_sem];exact ah
end
section
open Go Go.Mw
def Ck(p i e:Int):(fF p i e).c=e:=by
 unfold fF;split
 .rename_i h;rw[h];rfl
 .rfl
attribute[local go_sem] bY aM aW du bT cX eY fM fZ iQ fY iB iz pq
def C8(s:List UInt8):aj pg IS [.str s] (.int .i64 (ow s)):=by
 refine ao qN ?_;unfold ow;by_cases q1:(s.length:Int)>64
 .rw[az (by omega)];simp only[go_sem,qN,aF q1];exact ah
 rw[an (by omega)];simp only[go_sem,qN,aI q1];have cc:=agN s (show s.length<=1048576 by omega);refine ae (cc) ?_;cases uv s
 .simp only[go_sem];exact aq [] (by simp only[go_sem];try rfl) (by rfl)
 .simp only[go_sem];exact aq [] (by simp only[go_sem];try rfl) (by rfl)
def imO(x:Im):Int:=if x.k<0\/x.k>3\/lR x≠x then 1 else if x.k=1 then Mv ⟨x.te,x.tl⟩else if x.k=2 then KY x.me else if x.k=3 then Zz x.g else if re x.f=false then 11 else 0
end
section
open Go Go.Mw
def exF(m:Md):Fa:=gr (λi x=>fF 7 i (MM x)) 0 m.exs (xq 7 m.exs.length 64)
attribute[local go_sem] bY aM aW du bT cX eY fM fZ iQ fY iB iz pq
def ajj(m:Md)(h:yD m):aj pg Cz [ba m] (iz (exF m)):=by
 refine ao sd ?_;obtain⟨G,hG⟩:∃G,exF m=G:=⟨_,rfl⟩
 rw[hG];have hts:=h.exs;have c0:=pF 7 m.exs.length 64;simp only[iz]at c0;simp only[go_sem,sd,ba];refine aa (c0) ?_;refine aA (λq:Nat×Fa=>⟨[(4,.int .i64 q.1),(1,.mp 1 12 0 0),(3,.mp 3 4 0 0),(2,.mp 2 4 0 0)],[(3,pq q.2),(2,pq cB),(1,⟨33,12,[nX m],true⟩)]⟩) (λq=>q.1<=m.exs.length/\G=gr (λi x=>fF 7 i (MM x)) q.1 (m.exs.drop q.1) q.2) (λq=>m.exs.length-q.1) (0,xq 7 m.exs.length 64) ⟨dx _,hG.symm⟩ (Wk.of ?_ ?_) ?_
 .simp only[go_sem];try simp[cB]
 .simp only[go_sem];try simp[cB]
 rintro⟨j,E⟩ ⟨hj,hx⟩;simp only at hj hx;by_cases h1:(j:Int)<(m.exs.length:Int);rotate_left
 .rw[a_ (by omega)]at hx;obtain rfl:G=E:=hx;simp only[go_sem,aI h1];exact aq [] (by simp only[go_sem];try rfl) (by rfl)
 have hj':j<m.exs.length:=by omega
 have e8:=cK hj' (by omega);have cn:=fW E;simp only[iz]at cn;by_cases hE:E.c=0;rotate_left
 .rw[p7 E hE]at hx;obtain rfl:G=E:=hx;rw[ac hE]at cn;simp only[go_sem,aF h1];refine aa (cn) ?_;exact aq [] (by simp only[go_sem];try rfl) (by rfl)
 rw[aD hE]at cn;rw[pZ hj' E hE]at hx;have c1:=C8 (av m.exs j).n;have c2:=qs (av m.exs j).i;have a1:=qq 7 j (ow (av m.exs j).n);have n1:=fW (fF 7 j (ow (av m.exs j).n));have a2:=qq 7 j 1;have n2:=fW (fF 7 j 1);rw[ac (show(fF 7 j 1).c≠0 by rw[Ck];decide)]at n2;have a3:=qq 7 j 11;simp only[iz]at a1 n1 a2 n2 a3;simp only[go_sem,aF h1];refine aa (cn) ?_;refine⟨by omega,h1,?_⟩;refine aa (c1) ?_;refine ae (a1) ?_;by_cases e0:ow (av m.exs j).n=0;rotate_left
 .have hf:MM (av m.exs j)=ow (av m.exs j).n:=by unfold MM;rw[az e0]
  rw[hf]at hx;rw[ac (show(fF 7 j (ow (av m.exs j).n)).c≠0 by rw[Ck];exact e0)]at n1;simp only[go_sem];refine aa (n1) ?_;refine aa (n1) ?_;refine aH (j+1,fF 7 j (ow (av m.exs j).n)) ⟨show j+1<=m.exs.length by omega,hx⟩ (show m.exs.length-(j+1)<m.exs.length-j by omega) (Wk.of ?_ ?_)
  .simp only[go_sem,e8];try simp
  .simp only[go_sem]
 have hf0:MM (av m.exs j)=if(av m.exs j).k<0\/(av m.exs j).k>3 then 1 else if re (av m.exs j).i=false then 11 else 0:=by unfold MM;rw[an (by simp[e0])]
 rw[aD (show(fF 7 j (ow (av m.exs j).n)).c=0 by rw[Ck];exact e0)]at n1;simp only[go_sem];refine ae (n1) ?_;by_cases q1:(av m.exs j).k<0
 .rw[hf0,az (.inl q1)]at hx;simp only[go_sem,aF q1];refine aa (a2) ?_;refine aa (n2) ?_;refine aH (j+1,fF 7 j 1) ⟨show j+1<=m.exs.length by omega,hx⟩ (show m.exs.length-(j+1)<m.exs.length-j by omega) (Wk.of ?_ ?_)
  .simp only[go_sem,e8];try simp
  .simp only[go_sem]
 by_cases q2:(av m.exs j).k>3
 .rw[hf0,az (.inr q2)]at hx;simp only[go_sem,aI q1,aF q2];refine aa (a2) ?_;refine aa (n2) ?_;refine aH (j+1,fF 7 j 1) ⟨show j+1<=m.exs.length by omega,hx⟩ (show m.exs.length-(j+1)<m.exs.length-j by omega) (Wk.of ?_ ?_)
  .simp only[go_sem,e8];try simp
  .simp only[go_sem]
 rw[hf0,an (by omega)]at hx;simp only[go_sem,aI q1,aI q2];refine aa (n1) ?_;refine ae (c2) ?_;cases v:re (av m.exs j).i
 .rw[az v]at hx;simp only[go_sem];refine aa (a3) ?_;refine aH (j+1,fF 7 j 11) ⟨show j+1<=m.exs.length by omega,hx⟩ (show m.exs.length-(j+1)<m.exs.length-j by omega) (Wk.of ?_ ?_)
  .simp only[go_sem,e8];try simp
  .simp only[go_sem]
 .rw[an (by simp[v]),<-e0]at hx;simp only[go_sem];refine aH (j+1,fF 7 j (ow (av m.exs j).n)) ⟨show j+1<=m.exs.length by omega,hx⟩ (show m.exs.length-(j+1)<m.exs.length-j by omega) (Wk.of ?_ ?_)
  .simp only[go_sem,e8];try simp
  .simp only[go_sem]
end
section
open Go Go.Mw
def csF(m:Md):Fa:=gr (λi x=>fF 11 i (MJ x)) 0 m.cs (xq 11 m.cs.length 8)
attribute[local go_sem] bY aM aW du bT cX eY fM fZ iQ fY iB iz pq
def ajf(m:Md)(h:yD m):aj pg Cy [ba m] (iz (csF m)):=by
 refine ao sc ?_;obtain⟨G,hG⟩:∃G,csF m=G:=⟨_,rfl⟩
 rw[hG];have hts:=h.cs;have c0:=pF 11 m.cs.length 8;simp only[iz]at c0;simp only[go_sem,sc,ba];refine aa (c0) ?_;refine aA (λq:Nat×Fa=>⟨[(4,.int .i64 q.1),(1,.mp 1 12 0 0),(3,.mp 3 4 0 0),(2,.mp 2 4 0 0)],[(3,pq q.2),(2,pq cB),(1,⟨33,12,[nX m],true⟩)]⟩) (λq=>q.1<=m.cs.length/\G=gr (λi x=>fF 11 i (MJ x)) q.1 (m.cs.drop q.1) q.2) (λq=>m.cs.length-q.1) (0,xq 11 m.cs.length 8) ⟨dx _,hG.symm⟩ (Wk.of ?_ ?_) ?_
 .simp only[go_sem];try simp[cB]
 .simp only[go_sem];try simp[cB]
 rintro⟨j,E⟩ ⟨hj,hx⟩;simp only at hj hx;by_cases h1:(j:Int)<(m.cs.length:Int);rotate_left
 .rw[a_ (by omega)]at hx;obtain rfl:G=E:=hx;simp only[go_sem,aI h1];exact aq [] (by simp only[go_sem];try rfl) (by rfl)
 have hj':j<m.cs.length:=by omega
 have e8:=cK hj' (by omega);have cn:=fW E;simp only[iz]at cn;by_cases hE:E.c=0;rotate_left
 .rw[p7 E hE]at hx;obtain rfl:G=E:=hx;rw[ac hE]at cn;simp only[go_sem,aF h1];refine aa (cn) ?_;exact aq [] (by simp only[go_sem];try rfl) (by rfl)
 rw[aD hE]at cn;rw[pZ hj' E hE]at hx;have c1:=C8 (av m.cs j).n;have a1:=qq 11 j (ow (av m.cs j).n);have n1:=fW (fF 11 j (ow (av m.cs j).n));have a2:=qq 11 j 6;have n2:=fW (fF 11 j 6);rw[ac (show(fF 11 j 6).c≠0 by rw[Ck];decide)]at n2;have a3:=qq 11 j 1;simp only[iz]at a1 n1 a2 n2 a3;simp only[go_sem,aF h1];refine aa (cn) ?_;refine⟨by omega,h1,?_⟩;refine aa (c1) ?_;refine ae (a1) ?_;by_cases e0:ow (av m.cs j).n=0;rotate_left
 .have hf:MJ (av m.cs j)=ow (av m.cs j).n:=by unfold MJ;rw[az e0]
  rw[hf]at hx;rw[ac (show(fF 11 j (ow (av m.cs j).n)).c≠0 by rw[Ck];exact e0)]at n1;simp only[go_sem];refine aa (n1) ?_;refine aa (n1) ?_;refine aH (j+1,fF 11 j (ow (av m.cs j).n)) ⟨show j+1<=m.cs.length by omega,hx⟩ (show m.cs.length-(j+1)<m.cs.length-j by omega) (Wk.of ?_ ?_)
  .simp only[go_sem,e8];try simp
  .simp only[go_sem]
 have hf0:MJ (av m.cs j)=if(av m.cs j).b.length>4096 then 6 else if(av m.cs j).af<0\/(av m.cs j).af>12 then 1 else 0:=by unfold MJ;rw[an (by simp[e0])]
 rw[aD (show(fF 11 j (ow (av m.cs j).n)).c=0 by rw[Ck];exact e0)]at n1;simp only[go_sem];refine ae (n1) ?_;by_cases q0:((av m.cs j).b.length:Int)>4096
 .rw[hf0,az (by omega)]at hx;simp only[go_sem,aF q0];refine aa (a2) ?_;refine aa (n2) ?_;refine aH (j+1,fF 11 j 6) ⟨show j+1<=m.cs.length by omega,hx⟩ (show m.cs.length-(j+1)<m.cs.length-j by omega) (Wk.of ?_ ?_)
  .simp only[go_sem,e8];try simp
  .simp only[go_sem]
 rw[hf0,an (by omega)]at hx;simp only[go_sem,aI q0];refine ae (n1) ?_;by_cases q1:(av m.cs j).af<0
 .rw[az (.inl q1)]at hx;simp only[go_sem,aF q1];refine aa (a3) ?_;refine aH (j+1,fF 11 j 1) ⟨show j+1<=m.cs.length by omega,hx⟩ (show m.cs.length-(j+1)<m.cs.length-j by omega) (Wk.of ?_ ?_)
  .simp only[go_sem,e8];try simp
  .simp only[go_sem]
 by_cases q2:(av m.cs j).af>12
 .rw[az (.inr q2)]at hx;simp only[go_sem,aI q1,aF q2];refine aa (a3) ?_;refine aH (j+1,fF 11 j 1) ⟨show j+1<=m.cs.length by omega,hx⟩ (show m.cs.length-(j+1)<m.cs.length-j by omega) (Wk.of ?_ ?_)
  .simp only[go_sem,e8];try simp
  .simp only[go_sem]
 rw[an (by omega),<-e0]at hx;simp only[go_sem,aI q1,aI q2];refine aH (j+1,fF 11 j (ow (av m.cs j).n)) ⟨show j+1<=m.cs.length by omega,hx⟩ (show m.cs.length-(j+1)<m.cs.length-j by omega) (Wk.of ?_ ?_)
 .simp only[go_sem,e8];try simp
 .simp only[go_sem]
end
section
open Go Go.Mw
def afJ{x:Im}(h:x.k=0):((x.te==0)&&((x.tl.mn==0)&&((x.tl.mx==0)&&((x.tl.hs==false)&&((x.me.mn==0)&&((x.me.mx==0)&&((x.me.hs==false)&&((x.g.v==0)&&(x.g.mu==false)))))))))=decide (lR x=x):=by
 obtain⟨m,n,k,f,te,⟨t1,t2,t3⟩,⟨m1,m2,m3⟩,⟨v,u⟩⟩:=x;simp only at h;subst h;rw[xJ,decide_eq_true_iff];simp only[lR,Int.reduceEq,dR,ij,Im.mk.injEq,Lm.mk.injEq,Gl.mk.injEq,dX,beq_iff_eq,true_and,and_true]
 grind
def afK{x:Im}(h:x.k=1):((x.f==0)&&((x.me.mn==0)&&((x.me.mx==0)&&((x.me.hs==false)&&((x.g.v==0)&&(x.g.mu==false))))))=decide (lR x=x):=by
 obtain⟨m,n,k,f,te,⟨t1,t2,t3⟩,⟨m1,m2,m3⟩,⟨v,u⟩⟩:=x;simp only at h;subst h;rw[xJ,decide_eq_true_iff];simp only[lR,Int.reduceEq,dR,ij,Im.mk.injEq,Lm.mk.injEq,Gl.mk.injEq,dX,beq_iff_eq,true_and,and_true]
 grind
def afL{x:Im}(h:x.k=2):((x.f==0)&&((x.te==0)&&((x.tl.mn==0)&&((x.tl.mx==0)&&((x.tl.hs==false)&&((x.g.v==0)&&(x.g.mu==false)))))))=decide (lR x=x):=by
 obtain⟨m,n,k,f,te,⟨t1,t2,t3⟩,⟨m1,m2,m3⟩,⟨v,u⟩⟩:=x;simp only at h;subst h;rw[xJ,decide_eq_true_iff];simp only[lR,Int.reduceEq,dR,ij,Im.mk.injEq,Lm.mk.injEq,Gl.mk.injEq,dX,beq_iff_eq,true_and,and_true]
 grind
def afM{x:Im}(h:x.k=3):((x.f==0)&&((x.te==0)&&((x.tl.mn==0)&&((x.tl.mx==0)&&((x.tl.hs==false)&&((x.me.mn==0)&&((x.me.mx==0)&&(x.me.hs==false))))))))=decide (lR x=x):=by
 obtain⟨m,n,k,f,te,⟨t1,t2,t3⟩,⟨m1,m2,m3⟩,⟨v,u⟩⟩:=x;simp only at h;subst h;rw[xJ,decide_eq_true_iff];simp only[lR,Int.reduceEq,dR,ij,Im.mk.injEq,Lm.mk.injEq,Gl.mk.injEq,dX,beq_iff_eq,true_and,and_true]
 grind
attribute[local go_sem] bY aM aW du bT cX eY fM fZ iQ fY iB iz pq
def af_(x:Im):aj pg Lh [.agg (KH x)] (.int .i64 (imO x)):=by
 refine ao eT ?_;have c4:=WP ⟨x.te,x.tl⟩;have c5:=WH x.me;have c6:=acN x.g;have c7:=qs x.f;obtain⟨G,hG⟩:∃G,imO x=G:=⟨_,rfl⟩
 rw[hG];unfold imO at hG;by_cases q:x.k=0
 .have key:=afJ q;by_cases z:lR x=x;rotate_left
  .rw[aI z]at key;rw[az (.inr (.inr z))]at hG;subst hG;simp only[go_sem,eT,aD q,key,GT];exact aq [] (by simp only[go_sem];try rfl) (by rfl)
  rw[aF z]at key;rw[an (λw=>by rcases w with w|w|w;omega;omega;exact w z)]at hG;rw[an (show ¬x.k=1 by omega)]at hG;rw[an (show ¬x.k=2 by omega)]at hG;rw[an (show ¬x.k=3 by omega)]at hG;simp only[go_sem,eT,aD q,key,Bt];refine ae (c7) ?_;cases v:re x.f
  .rw[az v]at hG;subst hG;simp only[go_sem];exact aq [] (by simp only[go_sem];try rfl) (by rfl)
  .rw[an (by simp[v])]at hG;subst hG;simp only[go_sem];exact aq [] (by simp only[go_sem];try rfl) (by rfl)
 by_cases q:x.k=1
 .have key:=afK q;by_cases z:lR x=x;rotate_left
  .rw[aI z]at key;rw[az (.inr (.inr z))]at hG;subst hG;simp only[go_sem,eT,ac (show x.k≠0 by omega),aD q,key,GT];exact aq [] (by simp only[go_sem];try rfl) (by rfl)
  rw[aF z]at key;rw[an (λw=>by rcases w with w|w|w;omega;omega;exact w z)]at hG;rw[az q]at hG;simp only[go_sem,eT,ac (show x.k≠0 by omega),aD q,key,Bt];refine aa (c4) ?_;subst hG;exact ah
 by_cases q:x.k=2
 .have key:=afL q;by_cases z:lR x=x;rotate_left
  .rw[aI z]at key;rw[az (.inr (.inr z))]at hG;subst hG;simp only[go_sem,eT,ac (show x.k≠0 by omega),ac (show x.k≠1 by omega),aD q,key,GT];exact aq [] (by simp only[go_sem];try rfl) (by rfl)
  rw[aF z]at key;rw[an (λw=>by rcases w with w|w|w;omega;omega;exact w z)]at hG;rw[an (show ¬x.k=1 by omega)]at hG;rw[az q]at hG;simp only[go_sem,eT,ac (show x.k≠0 by omega),ac (show x.k≠1 by omega),aD q,key,Bt];refine aa (c5) ?_;subst hG;exact ah
 by_cases q:x.k=3
 .have key:=afM q;by_cases z:lR x=x;rotate_left
  .rw[aI z]at key;rw[az (.inr (.inr z))]at hG;subst hG;simp only[go_sem,eT,ac (show x.k≠0 by omega),ac (show x.k≠1 by omega),ac (show x.k≠2 by omega),aD q,key,GT];exact aq [] (by simp only[go_sem];try rfl) (by rfl)
  rw[aF z]at key;rw[an (λw=>by rcases w with w|w|w;omega;omega;exact w z)]at hG;rw[an (show ¬x.k=1 by omega)]at hG;rw[an (show ¬x.k=2 by omega)]at hG;rw[az q]at hG;unfold Zz at hG;simp only[go_sem,eT,ac (show x.k≠0 by omega),ac (show x.k≠1 by omega),ac (show x.k≠2 by omega),aD q,key,Bt];refine ae (c6) ?_;cases v:rM x.g.v
  .rw[az v]at hG;subst hG;simp only[go_sem];exact aq [] (by simp only[go_sem];try rfl) (by rfl)
  .rw[an (by simp[v])]at hG;subst hG;simp only[go_sem];exact aq [] (by simp only[go_sem];try rfl) (by rfl)
 rw[az (by omega)]at hG;subst hG;simp only[go_sem,eT,ac (show x.k≠0 by omega),ac (show x.k≠1 by omega),ac (show x.k≠2 by omega),ac (show x.k≠3 by omega)];exact aq [] (by simp only[go_sem];try rfl) (by rfl)
end
section
open Go Go.Mw
def imF(m:Md):Fa:=gr (λi x=>fF 2 i (KI x)) 0 m.ims (xq 2 m.ims.length 32)
attribute[local go_sem] bY aM aW du bT cX eY fM fZ iQ fY iB iz pq
def af9(m:Md)(h:yD m):aj pg CB [ba m] (iz (imF m)):=by
 refine ao sf ?_;obtain⟨G,hG⟩:∃G,imF m=G:=⟨_,rfl⟩
 rw[hG];have hts:=h.ims;have c0:=pF 2 m.ims.length 32;simp only[iz]at c0;simp only[go_sem,sf,ba];refine aa (c0) ?_;refine aA (λq:Nat×Fa=>⟨[(4,.int .i64 q.1),(1,.mp 1 12 0 0),(3,.mp 3 4 0 0),(2,.mp 2 4 0 0)],[(3,pq q.2),(2,pq cB),(1,⟨33,12,[nX m],true⟩)]⟩) (λq=>q.1<=m.ims.length/\G=gr (λi x=>fF 2 i (KI x)) q.1 (m.ims.drop q.1) q.2) (λq=>m.ims.length-q.1) (0,xq 2 m.ims.length 32) ⟨dx _,hG.symm⟩ (Wk.of ?_ ?_) ?_
 .simp only[go_sem];try simp[cB]
 .simp only[go_sem];try simp[cB]
 rintro⟨j,E⟩ ⟨hj,hx⟩;simp only at hj hx;by_cases h1:(j:Int)<(m.ims.length:Int);rotate_left
 .rw[a_ (by omega)]at hx;obtain rfl:G=E:=hx;simp only[go_sem,aI h1];exact aq [] (by simp only[go_sem];try rfl) (by rfl)
 have hj':j<m.ims.length:=by omega
 have e8:=cK hj' (by omega);have cn:=fW E;simp only[iz]at cn;by_cases hE:E.c=0;rotate_left
 .rw[p7 E hE]at hx;obtain rfl:G=E:=hx;rw[ac hE]at cn;simp only[go_sem,aF h1];refine aa (cn) ?_;exact aq [] (by simp only[go_sem];try rfl) (by rfl)
 rw[aD hE]at cn;rw[pZ hj' E hE]at hx;have c1:=C8 (av m.ims j).m;have c2:=C8 (av m.ims j).n;have c3:=af_ (av m.ims j);have a1:=qq 2 j (ow (av m.ims j).m);have n1:=fW (fF 2 j (ow (av m.ims j).m));have a2:=qq 2 j (ow (av m.ims j).n);have n2:=fW (fF 2 j (ow (av m.ims j).n));have a3:=qq 2 j (imO (av m.ims j));simp only[iz]at a1 n1 a2 n2 a3;simp only[du]at c3;simp only[go_sem,aF h1];refine aa (cn) ?_;refine⟨by omega,h1,?_⟩;refine aa (c1) ?_;refine ae (a1) ?_;by_cases e0:ow (av m.ims j).m=0;rotate_left
 .have hf:KI (av m.ims j)=ow (av m.ims j).m:=by unfold KI;rw[az e0]
  rw[hf]at hx;rw[ac (show(fF 2 j (ow (av m.ims j).m)).c≠0 by rw[Ck];exact e0)]at n1;simp only[go_sem];refine aa (n1) ?_;refine aa (n1) ?_;refine aH (j+1,fF 2 j (ow (av m.ims j).m)) ⟨show j+1<=m.ims.length by omega,hx⟩ (show m.ims.length-(j+1)<m.ims.length-j by omega) (Wk.of ?_ ?_)
  .simp only[go_sem,e8];try simp
  .simp only[go_sem]
 rw[aD (show(fF 2 j (ow (av m.ims j).m)).c=0 by rw[Ck];exact e0)]at n1;simp only[go_sem];refine aa (n1) ?_;refine⟨by omega,h1,?_⟩;refine aa (c2) ?_;refine ae (a2) ?_;by_cases e1:ow (av m.ims j).n=0;rotate_left
 .have hf:KI (av m.ims j)=ow (av m.ims j).n:=by unfold KI;rw[an (by simp[e0]),az e1]
  rw[hf]at hx;rw[ac (show(fF 2 j (ow (av m.ims j).n)).c≠0 by rw[Ck];exact e1)]at n2;simp only[go_sem];refine aa (n2) ?_;refine aH (j+1,fF 2 j (ow (av m.ims j).n)) ⟨show j+1<=m.ims.length by omega,hx⟩ (show m.ims.length-(j+1)<m.ims.length-j by omega) (Wk.of ?_ ?_)
  .simp only[go_sem,e8];try simp
  .simp only[go_sem]
 have hf:KI (av m.ims j)=imO (av m.ims j):=by unfold KI imO;rw[an (by simp[e0]),an (by simp[e1])]
 rw[hf]at hx;rw[aD (show(fF 2 j (ow (av m.ims j).n)).c=0 by rw[Ck];exact e1)]at n2;simp only[go_sem];refine aa (n2) ?_;refine⟨by omega,h1,?_⟩;refine aa (c3) ?_;refine aa (a3) ?_;refine aH (j+1,fF 2 j (imO (av m.ims j))) ⟨show j+1<=m.ims.length by omega,hx⟩ (show m.ims.length-(j+1)<m.ims.length-j by omega) (Wk.of ?_ ?_)
 .simp only[go_sem,e8];try simp
 .simp only[go_sem]
end
section
open Go Go.Mw
def daR(P:bj->Bool)(i:Nat)(x:Da):Fa:=if x.mo≠0/\(x.mo≠1\/x.me≠0\/x.o.length>0)then fF 10 i 1 else if re x.me=false then fF 10 i 11 else if x.b.length>4096 then fF 10 i 6 else Fb P 10 i x.o
def dsF(P:bj->Bool)(m:Md):Fa:=gr (daR P) 0 m.ds (xq 10 m.ds.length 16)
attribute[local go_sem] bY aM aW du bT cX eY fM fZ iQ fY iB iz pq
def ajg(P:bj->Bool)(m:Md)(h:yD m)(hP:∀y,C_ y->aj pg e_ [fN y] (.bool (P y))):aj pg Ge [ba m] (iz (dsF P m)):=by
 refine ao wP ?_;obtain⟨G,hG⟩:∃G,dsF P m=G:=⟨_,rfl⟩
 rw[hG];have hts:=h.ds;have c0:=pF 10 m.ds.length 16;simp only[iz]at c0;simp only[go_sem,wP,ba];refine aa (c0) ?_;refine aA (λq:Nat×Fa=>⟨[(4,.int .i64 q.1),(1,.mp 1 12 0 0),(3,.mp 3 4 0 0),(2,.mp 2 4 0 0)],[(3,pq q.2),(2,pq cB),(1,⟨33,12,[nX m],true⟩)]⟩) (λq=>q.1<=m.ds.length/\G=gr (daR P) q.1 (m.ds.drop q.1) q.2) (λq=>m.ds.length-q.1) (0,xq 10 m.ds.length 16) ⟨dx _,hG.symm⟩ (Wk.of ?_ ?_) ?_
 .simp only[go_sem];try simp[cB]
 .simp only[go_sem];try simp[cB]
 rintro⟨j,E⟩ ⟨hj,hx⟩;simp only at hj hx;by_cases h1:(j:Int)<(m.ds.length:Int);rotate_left
 .rw[a_ (by omega)]at hx;obtain rfl:G=E:=hx;simp only[go_sem,aI h1];exact aq [] (by simp only[go_sem];try rfl) (by rfl)
 have hj':j<m.ds.length:=by omega
 have e8:=cK hj' (by omega);have cn:=fW E;simp only[iz]at cn;by_cases hE:E.c=0;rotate_left
 .rw[p7 E hE]at hx;obtain rfl:G=E:=hx;rw[ac hE]at cn;simp only[go_sem,aF h1];refine aa (cn) ?_;exact aq [] (by simp only[go_sem];try rfl) (by rfl)
 rw[aD hE]at cn;rw[pZ hj' E hE]at hx;have sx:=pU hts.2 hj';have c1:=qs (av m.ds j).me;have a1:=qq 10 j 1;have a2:=qq 10 j 11;have a3:=qq 10 j 6;have cr:=Bc P 10 j (av m.ds j).o sx.1 (λy hy=>hP y (sx.1.2 y hy));simp only[iz]at a1 a2 a3 cr;obtain⟨D,hD⟩:∃D,daR P j (av m.ds j)=D:=⟨_,rfl⟩
 rw[hD]at hx;unfold daR at hD;simp only[go_sem,aF h1];refine ae (cn) ?_;by_cases q1:(av m.ds j).mo=0
 .rw[an (λq=>q.1 q1)]at hD;simp only[go_sem,ay q1,ac (show(av m.ds j).mo≠1 by omega)];refine⟨by omega,h1,?_⟩;refine ae (c1) ?_;cases v:re (av m.ds j).me
  .rw[az v]at hD;simp only[go_sem];refine aa (a2) ?_;subst hD;refine aH (j+1,fF 10 j 11) ⟨show j+1<=m.ds.length by omega,hx⟩ (show m.ds.length-(j+1)<m.ds.length-j by omega) (Wk.of ?_ ?_)
   .simp only[go_sem,e8];try simp
   .simp only[go_sem]
  rw[an (by simp[v])]at hD;by_cases q5:((av m.ds j).b.length:Int)>4096
  .rw[az (by omega)]at hD;simp only[go_sem,aF q5];refine aa (a3) ?_;subst hD;refine aH (j+1,fF 10 j 6) ⟨show j+1<=m.ds.length by omega,hx⟩ (show m.ds.length-(j+1)<m.ds.length-j by omega) (Wk.of ?_ ?_)
   .simp only[go_sem,e8];try simp
   .simp only[go_sem]
  rw[an (by omega)]at hD;simp only[go_sem,aI q5];refine aa (cr) ?_;subst hD;refine aH (j+1,Fb P 10 j (av m.ds j).o) ⟨show j+1<=m.ds.length by omega,hx⟩ (show m.ds.length-(j+1)<m.ds.length-j by omega) (Wk.of ?_ ?_)
  .simp only[go_sem,e8];try simp
  .simp only[go_sem]
 by_cases q2:(av m.ds j).mo=1;rotate_left
 .rw[az ⟨q1,.inl q2⟩]at hD;simp only[go_sem,aE q1,aE q2];refine⟨by omega,h1,?_⟩;refine aa (a1) ?_;subst hD;refine aH (j+1,fF 10 j 1) ⟨show j+1<=m.ds.length by omega,hx⟩ (show m.ds.length-(j+1)<m.ds.length-j by omega) (Wk.of ?_ ?_)
  .simp only[go_sem,e8];try simp
  .simp only[go_sem]
 by_cases q3:(av m.ds j).me=0;rotate_left
 .rw[az ⟨q1,.inr (.inl q3)⟩]at hD;simp only[go_sem,aE q1,ay q2,aD q2,aE q3];refine⟨by omega,h1,?_⟩;refine aa (a1) ?_;subst hD;refine aH (j+1,fF 10 j 1) ⟨show j+1<=m.ds.length by omega,hx⟩ (show m.ds.length-(j+1)<m.ds.length-j by omega) (Wk.of ?_ ?_)
  .simp only[go_sem,e8];try simp
  .simp only[go_sem]
 by_cases q4:((av m.ds j).o.length:Int)>0
 .rw[az ⟨q1,.inr (.inr (by omega))⟩]at hD;simp only[go_sem,aE q1,ay q2,aD q2,ay q3,aF q4];refine⟨by omega,h1,?_⟩;refine aa (a1) ?_;subst hD;refine aH (j+1,fF 10 j 1) ⟨show j+1<=m.ds.length by omega,hx⟩ (show m.ds.length-(j+1)<m.ds.length-j by omega) (Wk.of ?_ ?_)
  .simp only[go_sem,e8];try simp
  .simp only[go_sem]
 rw[an (λq=>by rcases q.2 with z|z|z;exact z q2;exact z q3;omega)]at hD;simp only[go_sem,aE q1,ay q2,aD q2,ay q3,aI q4];refine⟨by omega,h1,?_⟩;refine ae (c1) ?_;cases v:re (av m.ds j).me
 .rw[az v]at hD;simp only[go_sem];refine aa (a2) ?_;subst hD;refine aH (j+1,fF 10 j 11) ⟨show j+1<=m.ds.length by omega,hx⟩ (show m.ds.length-(j+1)<m.ds.length-j by omega) (Wk.of ?_ ?_)
  .simp only[go_sem,e8];try simp
  .simp only[go_sem]
 rw[an (by simp[v])]at hD;by_cases q5:((av m.ds j).b.length:Int)>4096
 .rw[az (by omega)]at hD;simp only[go_sem,aF q5];refine aa (a3) ?_;subst hD;refine aH (j+1,fF 10 j 6) ⟨show j+1<=m.ds.length by omega,hx⟩ (show m.ds.length-(j+1)<m.ds.length-j by omega) (Wk.of ?_ ?_)
  .simp only[go_sem,e8];try simp
  .simp only[go_sem]
 rw[an (by omega)]at hD;simp only[go_sem,aI q5];refine aa (cr) ?_;subst hD;refine aH (j+1,Fb P 10 j (av m.ds j).o) ⟨show j+1<=m.ds.length by omega,hx⟩ (show m.ds.length-(j+1)<m.ds.length-j by omega) (Wk.of ?_ ?_)
 .simp only[go_sem,e8];try simp
 .simp only[go_sem]
end
section
open Go Go.Mw
def boF(P:bj->Bool)(m:Md):Fa:=gr (λi x=>Fb P 12 i x.b) 0 m.fs (cB)
attribute[local go_sem] bY aM aW du bT cX eY fM fZ iQ fY iB iz pq
def Wy(P:bj->Bool)(m:Md)(h:yD m)(hP:∀y,C_ y->aj pg e_ [fN y] (.bool (P y))):aj pg Eq [ba m] (iz (boF P m)):=by
 refine ao tV ?_;obtain⟨G,hG⟩:∃G,boF P m=G:=⟨_,rfl⟩
 rw[hG];have hts:=h.fs;simp only[go_sem,tV,ba];refine aA (λq:Nat×Fa=>⟨[(4,.int .i64 q.1),(1,.mp 1 12 0 0),(3,.mp 3 4 0 0),(2,.mp 2 4 0 0)],[(3,pq q.2),(2,pq cB),(1,⟨33,12,[nX m],true⟩)]⟩) (λq=>q.1<=m.fs.length/\G=gr (λi x=>Fb P 12 i x.b) q.1 (m.fs.drop q.1) q.2) (λq=>m.fs.length-q.1) (0,cB) ⟨dx _,hG.symm⟩ (Wk.of ?_ ?_) ?_
 .simp only[go_sem];try simp[cB]
 .simp only[go_sem];try simp[cB]
 rintro⟨j,E⟩ ⟨hj,hx⟩;simp only at hj hx;by_cases h1:(j:Int)<(m.fs.length:Int);rotate_left
 .rw[a_ (by omega)]at hx;obtain rfl:G=E:=hx;simp only[go_sem,aI h1];exact aq [] (by simp only[go_sem];try rfl) (by rfl)
 have hj':j<m.fs.length:=by omega
 have e8:=cK hj' (by omega);have cn:=fW E;simp only[iz]at cn;by_cases hE:E.c=0;rotate_left
 .rw[p7 E hE]at hx;obtain rfl:G=E:=hx;rw[ac hE]at cn;simp only[go_sem,aF h1];refine aa (cn) ?_;exact aq [] (by simp only[go_sem];try rfl) (by rfl)
 rw[aD hE]at cn;rw[pZ hj' E hE]at hx;have sx:=pU hts.2 hj';have cr:=Bc P 12 j (av m.fs j).b sx.2 (λy hy=>hP y (sx.2.2 y hy));simp only[iz]at cr;simp only[go_sem,aF h1];refine aa (cn) ?_;refine⟨by omega,h1,?_⟩;refine aa (cr) ?_;refine aH (j+1,Fb P 12 j (av m.fs j).b) ⟨show j+1<=m.fs.length by omega,hx⟩ (show m.fs.length-(j+1)<m.fs.length-j by omega) (Wk.of ?_ ?_)
 .simp only[go_sem,e8];try simp
 .simp only[go_sem]
end
section
open Go Go.Mw
def SA(x:El):Int:=if x.mo<0\/x.mo>2\/(x.mo≠0/\(x.tb≠0\/x.o.length>0))then 1 else if re x.tb=false then 11 else if Mg x.ty=false then 12 else if x.it.length>256 then 6 else 0
attribute[local go_sem] bY aM aW du bT cX eY fM fZ iQ fY iB iz pq
def abe(x:El):aj pg IP [.agg (Kq x)] (.int .i64 (SA x)):=by
 refine ao gN ?_;have c1:=qs x.tb;have c2:=acP x.ty;unfold SA;by_cases q1:x.mo<0
 .rw[az (.inl q1)];simp only[go_sem,gN,aF q1];exact aq [] (by simp only[go_sem];try rfl) (by rfl)
 by_cases q2:x.mo>2
 .rw[az (.inr (.inl q2))];simp only[go_sem,gN,aI q1,aF q2];exact aq [] (by simp only[go_sem];try rfl) (by rfl)
 by_cases q3:x.mo=0
 .rw[an (λq=>by rcases q with z|z|z;exact q1 z;exact q2 z;exact z.1 q3)];simp only[go_sem,gN,aI q1,aI q2,ay q3];refine ae (c1) ?_;cases v:re x.tb
  .simp only[go_sem];exact aq [] (by simp only[go_sem];try rfl) (by rfl)
  rw[an (by decide)];simp only[go_sem];refine ae (c2) ?_;cases Mg x.ty
  .simp only[go_sem];exact aq [] (by simp only[go_sem];try rfl) (by rfl)
  rw[an (by decide)];by_cases q5:(x.it.length:Int)>256
  .rw[az (by omega)];simp only[go_sem,aF q5];exact aq [] (by simp only[go_sem];try rfl) (by rfl)
  rw[an (by omega)];simp only[go_sem,aI q5];exact aq [] (by simp only[go_sem];try rfl) (by rfl)
 by_cases q4:x.tb=0;rotate_left
 .rw[az (.inr (.inr ⟨q3,.inl q4⟩))];simp only[go_sem,gN,aI q1,aI q2,aE q3,aE q4];exact aq [] (by simp only[go_sem];try rfl) (by rfl)
 by_cases q6:(x.o.length:Int)>0
 .rw[az (.inr (.inr ⟨q3,.inr (by omega)⟩))];simp only[go_sem,gN,aI q1,aI q2,aE q3,ay q4,aF q6];exact aq [] (by simp only[go_sem];try rfl) (by rfl)
 rw[an (λq=>by rcases q with z|z|z;exact q1 z;exact q2 z;rcases z.2 with y|y;exact y q4;omega)];simp only[go_sem,gN,aI q1,aI q2,aE q3,ay q4,aI q6];refine ae (c1) ?_;cases v:re x.tb
 .simp only[go_sem];exact aq [] (by simp only[go_sem];try rfl) (by rfl)
 rw[an (by decide)];simp only[go_sem];refine ae (c2) ?_;cases Mg x.ty
 .simp only[go_sem];exact aq [] (by simp only[go_sem];try rfl) (by rfl)
 rw[an (by decide)];by_cases q5:(x.it.length:Int)>256
 .rw[az (by omega)];simp only[go_sem,aF q5];exact aq [] (by simp only[go_sem];try rfl) (by rfl)
 rw[an (by omega)];simp only[go_sem,aI q5];exact aq [] (by simp only[go_sem];try rfl) (by rfl)
def elR(P:bj->Bool)(i:Nat)(x:El):Fa:=gr (λ_ l=>Fb P 9 i l) 0 x.it (if SA x=0 then Fb P 9 i x.o else fF 9 i (SA x))
end
section
open Go Go.Mw
def elO(x:El):au:=⟨86,5,[Kq x],true⟩
def elF(P:bj->Bool)(m:Md):Fa:=gr (elR P) 0 m.els (xq 9 m.els.length 16)
attribute[local go_sem] elO bY aM aW du bT cX eY fM fZ iQ fY iB iz pq
def ajh(P:bj->Bool)(m:Md)(h:yD m)(hP:∀y,C_ y->aj pg e_ [fN y] (.bool (P y))):aj pg Gf [ba m] (iz (elF P m)):=by
 refine ao wQ ?_;obtain⟨G,hG⟩:∃G,elF P m=G:=⟨_,rfl⟩
 rw[hG];have hts:=h.els;have c0:=pF 9 m.els.length 16;simp only[iz]at c0;simp only[go_sem,wQ,ba];refine aa (c0) ?_;refine aA (λq:Nat×Fa=>⟨[(4,.int .i64 q.1),(1,.mp 1 12 0 0),(3,.mp 3 4 0 0),(2,.mp 2 4 0 0)],[(3,pq q.2),(2,pq cB),(1,⟨33,12,[nX m],true⟩)]⟩) (λq=>q.1<=m.els.length/\G=gr (elR P) q.1 (m.els.drop q.1) q.2) (λq=>m.els.length-q.1) (0,xq 9 m.els.length 16) ⟨dx _,hG.symm⟩ (Wk.of ?_ ?_) ?_
 .simp only[go_sem];try simp[cB]
 .simp only[go_sem];try simp[cB]
 rintro⟨j,E⟩ ⟨hj,hx⟩;simp only at hj hx;by_cases h1:(j:Int)<(m.els.length:Int);rotate_left
 .rw[a_ (by omega)]at hx;obtain rfl:G=E:=hx;simp only[go_sem,aI h1];exact aq [] (by simp only[go_sem];try rfl) (by rfl)
 have hj':j<m.els.length:=by omega
 have e8:=cK hj' (by omega);have cn:=fW E;simp only[iz]at cn;by_cases hE:E.c=0;rotate_left
 .rw[p7 E hE]at hx;obtain rfl:G=E:=hx;rw[ac hE]at cn;simp only[go_sem,aF h1];refine aa (cn) ?_;exact aq [] (by simp only[go_sem];try rfl) (by rfl)
 rw[aD hE]at cn;rw[pZ hj' E hE]at hx;have sx:=pU hts.2 hj';have c1:=abe (av m.els j);have a1:=qq 9 j (SA (av m.els j));have n1:=fW (fF 9 j (SA (av m.els j)));have cr:=Bc P 9 j (av m.els j).o sx.1 (λy hy=>hP y (sx.1.2 y hy));simp only[iz]at a1 n1 cr;simp only[fZ]at c1;obtain⟨D,hD⟩:∃D,elR P j (av m.els j)=D:=⟨_,rfl⟩
 rw[hD]at hx;unfold elR at hD;simp only[go_sem,aF h1];refine aa (cn) ?_;refine⟨by omega,h1,?_⟩;refine aa (c1) ?_;refine ae (a1) ?_;by_cases e0:SA (av m.els j)=0
 .rw[az e0]at hD;rw[aD (show(fF 9 j (SA (av m.els j))).c=0 by rw[Ck];exact e0)]at n1;simp only[go_sem];refine aa (n1) ?_;refine aa (cr) ?_;refine aA (λq:Nat×Fa=>⟨[(6,.int .i64 q.1),(4,.int .i64 j),(5,.mp 5 5 0 0),(1,.mp 1 12 0 0),(3,.mp 3 4 0 0),(2,.mp 2 4 0 0)],[(5,elO (av m.els j)),(3,pq q.2),(2,pq cB),(1,⟨33,12,[nX m],true⟩)]⟩) (λq=>q.1<=(av m.els j).it.length/\D=gr (λ_ l=>Fb P 9 j l) q.1 ((av m.els j).it.drop q.1) q.2) (λq=>(av m.els j).it.length-q.1) (0,Fb P 9 j (av m.els j).o) ⟨dx _,hD.symm⟩ (Wk.of ?_ ?_) ?_
  .simp only[go_sem];try simp[cB]
  .simp only[go_sem];try simp[cB]
  rintro⟨k,E2⟩ ⟨hk,hy⟩;simp only at hk hy;by_cases g1:(k:Int)<((av m.els j).it.length:Int);rotate_left
  .rw[a_ (by omega)]at hy;obtain rfl:D=E2:=hy;simp only[go_sem,aI g1];refine aH (j+1,D) ⟨show j+1<=m.els.length by omega,hx⟩ (show m.els.length-(j+1)<m.els.length-j by omega) (Wk.of ?_ ?_)
   .simp only[go_sem,e8];try simp
   .simp only[go_sem]
  have hk':k<(av m.els j).it.length:=by omega
  have e9:=cK hk' (by have:=sx.2.1;omega);have cn2:=fW E2;simp only[iz]at cn2;by_cases hE2:E2.c=0;rotate_left
  .rw[p7 E2 hE2]at hy;obtain rfl:D=E2:=hy;rw[ac hE2]at cn2;simp only[go_sem,aF g1];refine aa (cn2) ?_;refine aH (j+1,D) ⟨show j+1<=m.els.length by omega,hx⟩ (show m.els.length-(j+1)<m.els.length-j by omega) (Wk.of ?_ ?_)
   .simp only[go_sem,e8];try simp
   .simp only[go_sem]
  rw[aD hE2]at cn2;rw[pZ hk' E2 hE2]at hy;have sy:=pU sx.2.2 hk';have cr2:=Bc P 9 j (av (av m.els j).it k) sy (λy hy=>hP y (sy.2 y hy));simp only[iz]at cr2;simp only[go_sem,aF g1];refine aa (cn2) ?_;refine⟨by omega,g1,?_⟩;refine aa (cr2) ?_;refine aH (k+1,Fb P 9 j (av (av m.els j).it k)) ⟨show k+1<=(av m.els j).it.length by omega,hy⟩ (show(av m.els j).it.length-(k+1)<(av m.els j).it.length-k by omega) (Wk.of ?_ ?_)
  .simp only[go_sem,e9];try simp
  .simp only[go_sem]
 .rw[an e0]at hD;rw[ac (show(fF 9 j (SA (av m.els j))).c≠0 by rw[Ck];exact e0)]at n1;simp only[go_sem];refine aa (n1) ?_;refine aA (λq:Nat×Fa=>⟨[(6,.int .i64 q.1),(4,.int .i64 j),(5,.mp 5 5 0 0),(1,.mp 1 12 0 0),(3,.mp 3 4 0 0),(2,.mp 2 4 0 0)],[(5,elO (av m.els j)),(3,pq q.2),(2,pq cB),(1,⟨33,12,[nX m],true⟩)]⟩) (λq=>q.1<=(av m.els j).it.length/\D=gr (λ_ l=>Fb P 9 j l) q.1 ((av m.els j).it.drop q.1) q.2) (λq=>(av m.els j).it.length-q.1) (0,fF 9 j (SA (av m.els j))) ⟨dx _,hD.symm⟩ (Wk.of ?_ ?_) ?_
  .simp only[go_sem];try simp[cB]
  .simp only[go_sem];try simp[cB]
  rintro⟨k,E2⟩ ⟨hk,hy⟩;simp only at hk hy;by_cases g1:(k:Int)<((av m.els j).it.length:Int);rotate_left
  .rw[a_ (by omega)]at hy;obtain rfl:D=E2:=hy;simp only[go_sem,aI g1];refine aH (j+1,D) ⟨show j+1<=m.els.length by omega,hx⟩ (show m.els.length-(j+1)<m.els.length-j by omega) (Wk.of ?_ ?_)
   .simp only[go_sem,e8];try simp
   .simp only[go_sem]
  have hk':k<(av m.els j).it.length:=by omega
  have e9:=cK hk' (by have:=sx.2.1;omega);have cn2:=fW E2;simp only[iz]at cn2;by_cases hE2:E2.c=0;rotate_left
  .rw[p7 E2 hE2]at hy;obtain rfl:D=E2:=hy;rw[ac hE2]at cn2;simp only[go_sem,aF g1];refine aa (cn2) ?_;refine aH (j+1,D) ⟨show j+1<=m.els.length by omega,hx⟩ (show m.els.length-(j+1)<m.els.length-j by omega) (Wk.of ?_ ?_)
   .simp only[go_sem,e8];try simp
   .simp only[go_sem]
  rw[aD hE2]at cn2;rw[pZ hk' E2 hE2]at hy;have sy:=pU sx.2.2 hk';have cr2:=Bc P 9 j (av (av m.els j).it k) sy (λy hy=>hP y (sy.2 y hy));simp only[iz]at cr2;simp only[go_sem,aF g1];refine aa (cn2) ?_;refine⟨by omega,g1,?_⟩;refine aa (cr2) ?_;refine aH (k+1,Fb P 9 j (av (av m.els j).it k)) ⟨show k+1<=(av m.els j).it.length by omega,hy⟩ (show(av m.els j).it.length-(k+1)<(av m.els j).it.length-k by omega) (Wk.of ?_ ?_)
  .simp only[go_sem,e9];try simp
  .simp only[go_sem]
end
open Go Go.Mw
def lT(n i l e:Int):dE cB n i l e=if e=0 then cB else⟨n,i,l,e⟩:=by
 unfold dE;by_cases h:e=0
 .rw[az h,an (λq=>q.2 h)]
 .rw[an h,az ⟨rfl,h⟩]
def Ih(n i l e:Int):(dE cB n i l e).c=0->dE cB n i l e=cB:=by
 rw[lT];split
 .exact λ_=>rfl
 .rename_i h;exact λq=>absurd q h
def acw{α:Type}{n:Int}{f:α->Int×Int}{g:Nat->α->Fa}(hg:∀(i:Nat)(x:α),dE cB n i (f x).1 (f x).2=g i x):∀(l:List α)(i:Nat)(F:Fa),(F.c=0->F=cB)->ee n i (l.map f) F=gr g i l F/\((gr g i l F).c=0->gr g i l F=cB)
 | [],i,F,h=>⟨rfl,h⟩
 | x::l,i,F,h=>by
  rw[cM,ee,gr];by_cases hF:F.c=0
  .rw[an (by simp[hF]),an (by simp[hF]),h hF,hg];exact acw hg l (i+1) _ (by rw[<-hg];exact Ih _ _ _ _)
  .rw[az hF,az hF];exact⟨rfl,h⟩
def qD(E X:Fa):Fa:=if E.c≠0 then E else X
def Q6(a b c:Fa):qD (qD a b) c=qD a (qD b c):=by
 unfold qD;by_cases h:a.c=0<;>simp[h]
def pr{a b:Fa}(ha:a.c=0->a=cB)(hb:b.c=0->b=cB):(qD a b).c=0->qD a b=cB:=by
 unfold qD;by_cases h:a.c=0
 .rw[an (by simp[h])];exact hb
 .rw[az h];exact ha
def kK{α:Type}{n most imp:Int}{f:α->Int×Int}{g:Nat->α->Fa}(hg:∀(i:Nat)(x:α),dE cB n i (f x).1 (f x).2=g i x)(l:List α)(h1:0<=imp/\imp<=140737488355328)(h3:l.length<=140737488355328)(h4:0<=most/\most<=140737488355328)(E:Fa)(hE:E.c=0->E=cB) :
  eF n most imp (l.map f) E=qD E (gr g 0 l (xq n l.length (most-imp)))/\((gr g 0 l (xq n l.length (most-imp))).c=0->gr g 0 l (xq n l.length (most-imp))=cB):=by
 have z:=acw hg l 0 (xq n l.length (most-imp)) ae6;refine⟨?_,z.2⟩;unfold eF;rw[bY,wi (by omega) (by omega),wi (by omega) (by omega)];unfold qD;by_cases h:E.c=0
 .rw[an (show ¬E.c≠0 by simp[h]),hE h,<-z.1];congr 1;unfold xq;by_cases q:(l.length:Int)+imp>most
  .rw[az q,az (show(l.length:Int)>most-imp by omega),lT,an (by decide)];congr 1;by_cases w:0<most-imp
   .rw[az w,an (by omega)]
   .rw[an w];by_cases w2:most-imp<0
    .rw[az w2]
    .rw[an w2];omega
  .rw[an q,an (show ¬(l.length:Int)>most-imp by omega)]
 .rw[az h,show(if(l.length:Int)+imp>most then dE E n (if 0<most-imp then most-imp else 0) 0 6 else E)=E by
   split
   .unfold dE;rw[an (λq=>h q.1)]
   .rfl]
  exact Nr E h
def gd(n:Int)(i:Nat)(e:Int):dE cB n i 0 e=fF n i e:=by rw[lT];rfl
def rI(P:bj->Bool)(n:Int)(i:Nat)(l:List bj):dE cB n i (fO P l).1 (fO P l).2=Fb P n i l:=by rw[lT];rfl
def Zy(P:bj->Bool)(i:Nat)(x:Gd):dE cB 6 i (Q7 P x).1 (Q7 P x).2=if rM x.g.v=false then fF 6 i 12 else Fb P 6 i x.i:=by
 unfold Q7 Zz;cases v:rM x.g.v
 .rw[az rfl,az (by decide),az rfl];exact gd 6 i 12
 .rw[an (by decide),an (by decide)];exact rI P 6 i x.i
def Zb(P:bj->Bool)(i:Nat)(x:Da):dE cB 10 i (M7 P x).1 (M7 P x).2=daR P i x:=by
 unfold M7 daR;split
 .exact gd 10 i 1
 split
 .exact gd 10 i 11
 split
 .exact gd 10 i 6
 .exact rI P 10 i x.o
def vF(P:bj->Bool)(i:Nat):∀(l:List (List bj))(j:Nat)(F:Fa),(F.c=0->F=cB)->gr (λ_ r=>Fb P 9 i r) j l F=qD F (dE cB 9 i (oV P l).1 (oV P l).2)
 | [],j,F,h=>by
  rw[gr];unfold qD;by_cases q:F.c=0
  .rw[an (by simp[q]),h q];rfl
  .rw[az q]
 | x::l,j,F,h=>by
  rw[gr];unfold qD;by_cases q:F.c=0
  .rw[an (by simp[q]),an (by simp[q]),vF P i l (j+1) _ (by rw[<-rI];exact Ih _ _ _ _)];rw[oV];unfold qD;rw[<-rI,lT];by_cases w:(fO P x).2=0
   .rw[az w,an (show ¬cB.c≠0 by decide),an (by simp[w])]
   .rw[an w,az (show(⟨9,(i:Int),(fO P x).1,(fO P x).2⟩:Fa).c≠0 from w),az w,lT,an w]
  .rw[az q,az q]
def Zi(P:bj->Bool)(i:Nat)(x:El):dE cB 9 i (ML P x).1 (ML P x).2=elR P i x:=by
 unfold ML elR SA;split
 .rw[an (by decide),vF P i _ _ _ Cj,gd];rfl
 split
 .rw[an (by decide),vF P i _ _ _ Cj,gd];rfl
 split
 .rw[an (by decide),vF P i _ _ _ Cj,gd];rfl
 split
 .rw[an (by decide),vF P i _ _ _ Cj,gd];rfl
 .rw[az rfl,vF P i _ _ _ (by rw[<-rI];exact Ih _ _ _ _),oV];unfold qD;rw[<-rI];by_cases w:(fO P x.o).2=0
  .rw[an (show ¬(fO P x.o).2≠0 by simp[w]),lT 9 i (fO P x.o).1 (fO P x.o).2,az w,an (show ¬cB.c≠0 by decide)]
  .rw[az w,az (show(dE cB 9 i (fO P x.o).1 (fO P x.o).2).c≠0 by rw[lT,an w];exact w)]
def FD:List Fa->Fa
 | []=>cB
 | F::r=>if F.c≠0 then F else FD r
def Zt(F:Fa)(r:List Fa):FD (F::r)=qD F (FD r):=rfl
def agf(P:bj->Bool)(m:Md):Fa:=FD [tyF m,imF m,cdF m,tbF m,mmF m,gdF P m,exF m,stF m,elF P m,dsF P m,csF m,boF P m]
def ae7(P:bj->Bool)(m:Md)(h:yD m):kB P m=agf P m:=by
 have hc:∀k,(0:Int)<=(dH k m.ims:Nat)/\((dH k m.ims:Nat):Int)<=140737488355328:=λk=>⟨by omega,by have:=gD (iO k m.ims) h.ims;omega⟩
 have z0:(0:Int)<=0/\(0:Int)<=140737488355328:=by decide
 have ft0:cB.c=0->cB=cB:=λ_=>rfl;obtain⟨e1,t1⟩:=kK (n:=1) (most:=64) (imp:=0) (g:=λi x=>fF 1 i (CS x)) (f:=λx=>(0,CS x)) (λi x=>gd 1 i _) m.ts z0 h.ts.1 (by decide) cB ft0;have e1':Vv m=tyF m:=e1;have t1':(Vv m).c=0->Vv m=cB:=by rw[e1'];exact t1
 obtain⟨e2,t2⟩:=kK (n:=2) (most:=32) (imp:=0) (g:=λi x=>fF 2 i (KI x)) (f:=λx=>(0,KI x)) (λi x=>gd 2 i _) m.ims z0 h.ims (by decide) (Vv m) t1';have e2':X6 m=qD (Vv m) (imF m):=e2;have t2':=pr t1' t2;rw[show qD (Vv m) _=X6 m from e2.symm]at t2';obtain⟨e3,t3⟩:=kK (n:=3) (most:=64) (g:=λi x=>fF 3 i (Dw x)) (f:=λx=>(0,Dw x)) (λi x=>gd 3 i _) m.fs (hc 0) h.fs.1 (by decide) (X6 m) t2';have e3':X7 m=qD (X6 m) (cdF m):=e3;have t3':=pr t2' t3;rw[show qD (X6 m) _=X7 m from e3.symm]at t3';obtain⟨e4,t4⟩:=kK (n:=4) (most:=4) (g:=λi x=>fF 4 i (Mv x)) (f:=λx=>(0,Mv x)) (λi x=>gd 4 i _) m.tbs (hc 1) h.tbs (by decide) (X7 m) t3';have e4':X8 m=qD (X7 m) (tbF m):=e4;have t4':=pr t3' t4;rw[show qD (X7 m) _=X8 m from e4.symm]at t4';obtain⟨e5,t5⟩:=kK (n:=5) (most:=2) (g:=λi x=>fF 5 i (KY x)) (f:=λx=>(0,KY x)) (λi x=>gd 5 i _) m.ms (hc 2) h.ms (by decide) (X8 m) t4';have e5':X9 m=qD (X8 m) (mmF m):=e5;have t5':=pr t4' t5;rw[show qD (X8 m) _=X9 m from e5.symm]at t5';obtain⟨e6,t6⟩:=kK (n:=6) (most:=32) (g:=λi x=>if rM x.g.v=false then fF 6 i 12 else Fb P 6 i x.i) (f:=Q7 P) (Zy P) m.gs (hc 3) h.gs.1 (by decide) (X9 m) t5';have e6':X_ P m=qD (X9 m) (gdF P m):=e6;have t6':=pr t5' t6;rw[show qD (X9 m) _=X_ P m from e6.symm]at t6';obtain⟨e7,t7⟩:=kK (n:=7) (most:=64) (imp:=0) (g:=λi x=>fF 7 i (MM x)) (f:=λx=>(0,MM x)) (λi x=>gd 7 i _) m.exs z0 h.exs (by decide) (X_ P m) t6';have e7':NI P m=qD (X_ P m) (exF m):=e7;have t7':=pr t6' t7;rw[show qD (X_ P m) _=NI P m from e7.symm]at t7';have e8':Iu P m=qD (NI P m) (stF m):=by
  unfold Iu stF qD;by_cases q:(NI P m).c=0
  .rw[an (show ¬(NI P m).c≠0 by simp[q])];split
   .rw[t7' q];exact gd 8 0 11
   .exact t7' q
  .rw[az q];split
   .unfold dE;rw[an (λw=>q w.1)]
   .rfl
 have t8':(Iu P m).c=0->Iu P m=cB:=by
  rw[e8'];refine pr t7' ?_;unfold stF;split
  .exact Cj
  .exact ft0
 obtain⟨e9,t9⟩:=kK (n:=9) (most:=16) (imp:=0) (g:=elR P) (f:=ML P) (Zi P) m.els z0 h.els.1 (by decide) (Iu P m) t8';have e9':Ya P m=qD (Iu P m) (elF P m):=e9;have t9':=pr t8' t9;rw[show qD (Iu P m) _=Ya P m from e9.symm]at t9';obtain⟨e10,t10⟩:=kK (n:=10) (most:=16) (imp:=0) (g:=daR P) (f:=M7 P) (Zb P) m.ds z0 h.ds.1 (by decide) (Ya P m) t9';have e10':FJ P m=qD (Ya P m) (dsF P m):=e10;have t10':=pr t9' t10;rw[show qD (Ya P m) _=FJ P m from e10.symm]at t10';obtain⟨e11,t11⟩:=kK (n:=11) (most:=8) (imp:=0) (g:=λi x=>fF 11 i (MJ x)) (f:=λx=>(0,MJ x)) (λi x=>gd 11 i _) m.cs z0 h.cs.1 (by decide) (FJ P m) t10';have e11':rh P m=qD (FJ P m) (csF m):=e11;have t11':=pr t10' t11;rw[show qD (FJ P m) _=rh P m from e11.symm]at t11';have hfl:=h.fs.1;obtain⟨e12,t12⟩:=kK (n:=12) (most:=(m.fs.length:Int)) (imp:=0) (g:=λi x=>Fb P 12 i x.b) (f:=λx=>fO P x.b) (λi x=>rI P 12 i x.b) m.fs z0 h.fs.1 (by omega) (rh P m) t11';rw[show xq 12 m.fs.length ((m.fs.length:Int)-0)=cB by unfold xq;rw[an (by omega)]]at e12 t12;have e12':kB P m=qD (rh P m) (boF P m):=by
  unfold kB;by_cases q:(rh P m).c=0
  .rw[az q];exact e12
  .rw[an q];unfold qD;rw[az q]
 have t12':qD (boF P m) cB=boF P m:=by
  unfold qD;by_cases q:(boF P m).c=0
  .rw[an (by simp[q])];exact(t12 q).symm
  .rw[az q]
 rw[e12',e11',e10',e9',e8',e7',e6',e5',e4',e3',e2',e1'];unfold agf;simp only[Zt,Q6];rw[show FD []=cB from rfl,t12']
def okR(P:bj->Bool)(l:List bj):Prop:=l.length<=2048/\∀x∈l,P x=true/\x.lb.length<=64
def aln(P:bj->Bool)(x:El):Prop:=SA x=0/\okR P x.o/\∀l∈x.it,okR P l
def alm(P:bj->Bool)(x:Da):Prop:=¬(x.mo≠0/\(x.mo≠1\/x.me≠0\/x.o.length>0))/\re x.me=true/\x.b.length<=4096/\okR P x.o
structure okM(P:bj->Bool)(m:Md):Prop where
 ts:m.ts.length<=64/\∀x∈m.ts,CS x=0
 ims:m.ims.length<=32/\∀x∈m.ims,KI x=0
 fs:(m.fs.length:Int)<=64-(dH 0 m.ims:Nat)/\∀x∈m.fs,Dw x=0
 tbs:(m.tbs.length:Int)<=4-(dH 1 m.ims:Nat)/\∀x∈m.tbs,Mv x=0
 ms:(m.ms.length:Int)<=2-(dH 2 m.ims:Nat)/\∀x∈m.ms,KY x=0
 gs:(m.gs.length:Int)<=32-(dH 3 m.ims:Nat)/\∀x∈m.gs,rM x.g.v=true/\okR P x.i
 exs:m.exs.length<=64/\∀x∈m.exs,MM x=0
 st:m.hs=true->re m.st=true
 els:m.els.length<=16/\∀x∈m.els,aln P x
 ds:m.ds.length<=16/\∀x∈m.ds,alm P x
 cs:m.cs.length<=8/\∀x∈m.cs,MJ x=0
 bo:∀x∈m.fs,okR P x.b
