import Derived.Test.YtdfofedlbljnhaaGreatDoorWQd
import Derived.Shelf.Unicode.ValidAny
set_option linter.all false
set_option maxRecDepth 100000
set_option maxHeartbeats 8000000
namespace Go.Proofs.YtdfofedlbljnhaaGreatDoor
open Go Go.Mw Go.Shelf
def acY:Go.Shelf.Ren:=⟨λ|196=>194|259=>273|n=>n,λ|9=>9|4=>4|3=>3|5=>5|12=>12|119=>325|0=>0|46=>320|139=>328|138=>327|53=>53|n=>n,λ|3=>0|4=>1|n=>n⟩
def Xr:Go.Proofs.Lays.n196 pg acY:={
 mixed:=by kernel_rfl
 f196:=Tryz.func194.trans (congrArg some (by kernel_rfl))
 f259:=Tryz.func273.trans (congrArg some (by kernel_rfl))
 t0:=Tryz.underlying0
 a0:=Tryz.isAgg0
 z0:=Tryz.sizeOf0
 v0:=Tryz.zeroValue0
 t3:=Tryz.underlying3
 a3:=Tryz.isAgg3
 z3:=Tryz.sizeOf3
 v3:=Tryz.zeroValue3
 t4:=Tryz.underlying4
 a4:=Tryz.isAgg4
 z4:=Tryz.sizeOf4
 v4:=Tryz.zeroValue4
 t5:=Tryz.underlying5
 a5:=Tryz.isAgg5
 z5:=Tryz.sizeOf5
 v5:=Tryz.zeroValue5
 t9:=Tryz.underlying9
 a9:=Tryz.isAgg9
 z9:=Tryz.sizeOf9
 v9:=Tryz.zeroValue9
 t12:=Tryz.underlying12
 a12:=Tryz.isAgg12
 z12:=Tryz.sizeOf12
 v12:=Tryz.zeroValue12
 t46:=Tryz.underlying320
 a46:=Tryz.isAgg320
 z46:=Tryz.sizeOf320
 v46:=Tryz.zeroValue320
 t53:=Tryz.underlying53
 a53:=Tryz.isAgg53
 z53:=Tryz.sizeOf53
 v53:=Tryz.zeroValue53
 t119:=Tryz.underlying325
 a119:=Tryz.isAgg325
 z119:=Tryz.sizeOf325
 t138:=Tryz.underlying327
 a138:=Tryz.isAgg327
 z138:=Tryz.sizeOf327
 v138:=Tryz.zeroValue327
 t139:=Tryz.underlying328
 a139:=Tryz.isAgg328
 z139:=Tryz.sizeOf328
 v139:=Tryz.zeroValue328
 g3:=by kernel_rfl
 g4:=by kernel_rfl}
def Oq(s:List UInt8)(hs:s.length<1000000000):ac pg xU [.str s] (.bool (uv s)):=by
 refine ac.of (λw bl M cargs hH hM ha=>?_) rfl
 match cargs,ha with
 | [a],⟨h1,_⟩ =>
  obtain rfl:=h1.str;refine(Any.utf8_ValidString Xr ⟨s.toArray⟩ w (by simp[ByteArray.size];omega) hH.1).mono ?_;rintro e w' ⟨rfl,hb⟩;exact⟨_,rfl,⟨hb.size,λb h _=>hb.block b h,λb c t fr h=>⟨c,fr,(hb.block b (bQ h)).trans h,rfl⟩,hb.os,hb.output⟩,IRel.bool _⟩
def Lg:Option (List UInt8)->AV
 | none=>.nl
 | some l=>.sl 1 (l.map dY)
def ab(o:Option (List UInt8)):aO (Lg o)=[]:=by cases o<;>rfl
def U2:Lg none = .nl:=rfl
def zG(l:List UInt8):Lg (some l) = .sl 1 (l.map dY):=rfl
attribute[go_sem] U2 zG
def bI(ok:Bool)(b:List UInt8)(a:Nat)(e n:Int):Option (List UInt8)×Nat×Int :=
 if ok=true then(if n<0 then(none,a,1)else if n>(b.length:Int)-a then(none,a,3)else(some ((b.drop a).take n.toNat),a+n.toNat,e))else(none,a,e)
def kG(ok:Bool)(b:List UInt8)(a:Nat)(e:Int):UInt8×Nat×Int :=
 if ok=true then(if(b.length:Int)-a<1 then(0,a,3)else(ah b a,a+1,e))else(0,a,e)
def rU(ok:Bool)(bits:Nat)(b:List UInt8)(a:Nat)(e:Int):Nat×Nat×Int :=
 if ok=true then(if(jh (b.drop a) bits).2.2≠0 then(0,a,(jh (b.drop a) bits).2.2)else((jh (b.drop a) bits).1,a+(jh (b.drop a) bits).2.1,e))else(0,a,e)
def rS(ok:Bool)(bits:Nat)(b:List UInt8)(a:Nat)(e:Int):Int×Nat×Int :=
 if ok=true then(if(iK (b.drop a) bits).2.2≠0 then(0,a,(iK (b.drop a) bits).2.2)else((iK (b.drop a) bits).1,a+(iK (b.drop a) bits).2.1,e))else(0,a,e)
def cA(ok:Bool)(b:List UInt8)(a:Nat)(e most:Int):Nat×Nat×Int :=
 if ok=true then(if(rU true 32 b a e).2.2=0/\((rU true 32 b a e).1:Int)>most then(0,a,6)else rU true 32 b a e)else(0,a,e)
def Hc(b:List UInt8)(bits:Nat)(h:1<=bits/\bits<=64):(jh b bits).1<2^bits:=by
 have hp:=Nat.two_pow_pos bits;unfold jh;split
 .exact hp
 split
 .exact hp
 rename_i h1 h2;rcases re b bits with⟨g1,g2,g3,g4⟩|⟨g1,g2⟩
 .refine Nat.lt_of_le_of_lt (Nat.mod_le _ _) ?_;by_cases hq:dG b bits+1=mst bits
  .rw[GL g2];have hv:=ou (b:=b) (i:=dG b bits) (Nat.le_of_lt g2);have h3:(ah b (dG b bits)).toNat/2^(bits-7*dG b bits)=0:=by
    have:=B2.1 h2;rw[G8,aF hq]at this;exact this
   have h4:(ah b (dG b bits)).toNat<2^(bits-7*dG b bits):=by
    rcases Nat.div_eq_zero_iff.1 h3 with h|h
    .exact absurd h (Nat.pos_iff_ne_zero.1 (Nat.two_pow_pos _))
    .exact h
   have h5:7*dG b bits<=bits:=by unfold mst at hq;omega
   have e:2^bits=2^(bits-7*dG b bits)*2^(7*dG b bits):=by rw[<-Nat.pow_add,Nat.sub_add_cancel h5]
   rw[e];have h6:(ah b (dG b bits)).toNat%128+1<=2^(bits-7*dG b bits):=Nat.lt_of_le_of_lt (Nat.mod_le _ _) h4;have h7:=rN (2^(7*dG b bits)) h6;rw[k8,Nat.one_mul]at h7;omega
  .have hv:=ou (b:=b) (i:=dG b bits+1) (by omega);have h5:7*(dG b bits+1)<=bits:=by unfold mst at*;omega
   exact Es hv (K9 (by decide) h5)
 .rcases g1 with g1|g1<;>rw[g1]at h1<;>exact absurd (by decide) h1
def Hb(b:List UInt8)(bits:Nat):(jh b bits).2.1<=b.length:=by
 unfold jh;split
 .exact cQ _
 split
 .exact cQ _
 rename_i h1 h2;rcases re b bits with⟨g1,g2,g3,g4⟩|⟨g1,g2⟩
 .exact g2
 .rcases g1 with g1|g1<;>rw[g1]at h1<;>exact absurd (by decide) h1
def Ha(b:List UInt8)(bits:Nat):(iK b bits).2.1<=b.length:=by
 unfold iK;split
 .exact cQ _
 split
 .exact cQ _
 rename_i h1 h2;rcases re b bits with⟨g1,g2,g3,g4⟩|⟨g1,g2⟩
 .exact g2
 .rcases g1 with g1|g1<;>rw[g1]at h1<;>exact absurd (by decide) h1
def Oe{ok:Bool}{b:List UInt8}{a:Nat}{e n:Int}(h:a<=b.length):(bI ok b a e n).2.1<=b.length:=by
 unfold bI
 repeat' split
 all_goals first|exact h|(simp only;omega)
def Yz{ok:Bool}{bits:Nat}{b:List UInt8}{a:Nat}{e:Int}(h:a<=b.length):(rU ok bits b a e).2.1<=b.length:=by
 have:=Hb (b.drop a) bits;simp only[jJ]at this;unfold rU
 repeat' split
 all_goals first|exact h|(simp only;omega)
def DS(ok:Bool)(b:List UInt8)(a:Nat)(e:Int):(rU ok 32 b a e).1<4294967296:=by
 have:=Hc (b.drop a) 32 (by decide);unfold rU
 repeat' split
 all_goals first|exact this|exact(by decide:(0:Nat)<4294967296)
def wo(q:Nat)(m:Bool)(l:List UInt8)(e:Int):ao:=⟨165,3,[[.bool m,.ms q 1 0 l.length,.int .i64 e]],true⟩
def wa(l:List UInt8):ao:=⟨5,1,l.map dY,false⟩
def WM(f:FuncId)(rest:List AV)(m:Bool)(l:List UInt8)(e:Int)(r:AV)(l':List UInt8)(e':Int):Prop :=
 aX pg f (.mp 1000 3 0 0::rest) [(1000,wo 2000 m l e),(2000,wa l)] sb (λr' σ'=>r'=r/\σ'=[(1000,wo 2000 m l' e'),(2000,wa l')])
def ee{f:FuncId}{rest:List AV}{m:Bool}{l:List UInt8}{e:Int}{r:AV}{l':List UInt8}{e':Int}{k j:Nat}{args:List AV}{d:Option Nat}{s:St}{K:St->Prop}(fs:List Nat)
  (h:WM f rest m l e r l' e') (hk:k≠2000) (hj:j≠1000) (hkj:k≠j) (hj2:j<1000\/2000<=j) (hr:aO r=[]) (hrest:∀x∈rest,aO x=[])
  (ha:args.map (xo fs s) = .mp k 3 0 0::rest) (h1:ak (frzs fs s).heap k=some (wo j m l e)) (h2:ak (frzs fs s).heap j=some (wa l))
  (hK:K ((St.mk (og j (frzs fs s).env) ((k,wo j m l' e')::(j,wa l')::oh j (frzs fs s).heap)).put d r)):cR pg f args d s K:=by
 have e1:fw [(1000,k),(2000,j)] 2000=j:=by
  simp only[fw];unfold iU;by_cases q:(2000:Nat)=k
  .exact absurd q.symm hk
  .simp[q]
 have e0:fw [(1000,k),(2000,j)] 1000=k:=by
  simp only[fw];unfold iU;by_cases q:k=2000
  .exact absurd q hk
  .simp[q,hkj]
 have b1:bw [(1000,k),(2000,j)] j=2000:=by have:=uM [(1000,k),(2000,j)] 2000;rwa[e1]at this
 have b0:bw [(1000,k),(2000,j)] k=1000:=by have:=uM [(1000,k),(2000,j)] 1000;rwa[e0]at this
 refine aaT fs (aX.at2 (rk:=wo j m l e) (rk':=wo j m l' e') h hk hj hkj hr hrest rfl rfl ?_ ?_) hkj ?_ hj2 ha h1 h2 hK
 .simp only[iP,wo,br,eR,k9,qx,rE,b1];rfl
 .simp only[iP,wo,br,eR,k9,qx,rE,e1];rfl
 .show sb (bw [(1000,k),(2000,j)] k);rw[b0];exact⟨by decide,by decide⟩
def aV{f:FuncId}{rest:List AV}{m:Bool}{l:List UInt8}{e:Int}{r:AV}{l':List UInt8}{e':Int}{k j:Nat}{args:List AV}{d:Option Nat}{s:St}{K:St->Prop}(fs:List Nat)
  (h:WM f rest m l e r l' e') (hK:K ((St.mk (og j (frzs fs s).env) ((k,wo j m l' e')::(j,wa l')::oh j (frzs fs s).heap)).put d r)) (hk:k≠2000:=by decide) (hj:j≠1000:=by decide) (hkj:k≠j:=by decide) (hj2:j<1000\/2000<=j:=by decide)
  (hr:aO r=[]:=by first|rfl|simp[go_sem,ab]) (hrest:∀x∈rest,aO x=[]:=by simp[go_sem])
  (ha:args.map (xo fs s) = .mp k 3 0 0::rest:=by rfl) (h1:ak (frzs fs s).heap k=some (wo j m l e):=by rfl) (h2:ak (frzs fs s).heap j=some (wa l):=by rfl):cR pg f args d s K:=ee fs h hk hj hkj hj2 hr hrest ha h1 h2 hK
def D9(m:Bool)(l:List UInt8)(e:Int):WM tI [] m l e (.bool (m&&e==0)) l e:=by
 refine bT ga ?_;cases m
 .simp only[ga,wo,wa,go_sem];exact done [] _ [(1000,wo 2000 false l e),(2000,wa l)] (by simp only[go_sem]) (by simp only[go_sem,wo,wa]) rfl ⟨rfl,rfl⟩
 .simp only[ga,wo,wa,go_sem];exact done [] _ [(1000,wo 2000 true l e),(2000,wa l)] (by simp only[go_sem]) (by simp only[go_sem,wo,wa]) rfl ⟨rfl,rfl⟩
def oq(m:Bool)(l:List UInt8)(e x:Int):WM va [.int .i64 x] m l e (.tup []) l (if(m&&e==0)=true then x else e):=by
 refine bT lF ?_;simp only[lF,wo,wa,go_sem];refine ee [] (k:=1000) (j:=2000) (D9 m l e) (by decide) (by decide) (by decide) (by decide) rfl (by simp) (by rfl) (by rfl) (by rfl) ?_;cases h:(m&&e==0)
 .simp only[go_sem,wo,wa];exact fI [] _ [(1000,wo 2000 m l e),(2000,wa l)] (by simp only[go_sem]) (by simp only[go_sem,wo,wa]) rfl ⟨rfl,rfl⟩
 .simp only[go_sem,wo,wa];exact fI [] _ [(1000,wo 2000 m l x),(2000,wa l)] (by simp only[go_sem]) (by simp only[go_sem,wo,wa]) rfl ⟨rfl,rfl⟩
def wB(ok:Bool)(l x:List UInt8):List UInt8:=if ok=true then l++x else l
def fZ(m:Bool)(l x:List UInt8)(e:Int)(hl:l.length<60000000000/\x.length<60000000000):WM kE [.sl 1 (x.map dY)] m l e (.tup []) (wB (m&&e==0) l x) e:=by
 refine bT kC ?_;simp only[kC,wo,wa,go_sem];refine ee [] (k:=1000) (j:=2000) (D9 m l e) (by decide) (by decide) (by decide) (by decide) rfl (by simp) (by rfl) (by rfl) (by rfl) ?_;cases h:(m&&e==0)
 .simp only[go_sem,wo,wa,wB,gd];exact fI [] _ [(1000,wo 2000 m l e),(2000,wa l)] (by simp only[go_sem]) (by simp only[go_sem,wo,wa]) rfl ⟨rfl,rfl⟩
 .have happ:=bX 2000 5 1 l.length dY l (x.map dY) rfl;simp only[go_sem,wo,wa,wB,happ];refine⟨by omega,fI [] _ [(1000,wo 2000 m (l++x) e),(2000,wa (l++x))] (by simp only[go_sem]) ?_ rfl ⟨rfl,rfl⟩⟩;simp only[go_sem,wo,wa,aJ,kr]
def kY{ok:Bool}{l x:List UInt8}:(wB ok l x).length<=l.length+x.length:=by
 unfold wB;split<;>simp
def vY(m:Bool)(l:List UInt8)(x:UInt8)(e:Int)(hl:l.length<60000000000):WM mb [.int .u8 x.toNat] m l e (.tup []) (wB (m&&e==0) l [x]) e:=by
 refine bT lE ?_;simp only[lE,wo,wa,go_sem];refine ee [6] (k:=1000) (j:=2000) (fZ m l [x] e ⟨hl,by simp⟩) (by decide) (by decide) (by decide) (by decide) rfl (by simp[go_sem]) ?_ (by simp only[go_sem,wo]) (by simp only[go_sem,wa]) ?_
 .simp only[go_sem,bG]
 .simp only[go_sem,wo,wa];exact fI [] _ [(1000,wo 2000 m (wB (m&&e==0) l [x]) e),(2000,wa (wB (m&&e==0) l [x]))] (by simp only[go_sem]) (by simp only[go_sem,wo,wa]) rfl ⟨rfl,rfl⟩
def wU(ok:Bool)(l:List UInt8)(e n:Int):List UInt8×Int :=
 if ok=true then(if n<0\/n>4294967295 then(l,1)else(l++ay n.toNat,e))else(l,e)
def lu{n:Nat}(h:n<=4294967295):(ay n).length<=5:=rA (k:=4) (by omega)
def Iw(m:Bool)(l:List UInt8)(e n:Int)(hl:l.length<60000000000):WM bH [.int .i64 n] m l e (.tup []) (wU (m&&e==0) l e n).1 (wU (m&&e==0) l e n).2:=by
 refine bT eY ?_;by_cases h1:n<0\/n>4294967295
 .have r:wU (m&&e==0) l e n=(l,if(m&&e==0)=true then 1 else e):=by
   unfold wU;cases (m&&e==0)<;>simp[h1]
  rw[r];by_cases h2:n<0
  .have d1:decide (n<0)=true:=aL h2;simp only[eY,wo,wa,go_sem,d1];refine ee [] (k:=1000) (j:=2000) (oq m l e 1) (by decide) (by decide) (by decide) (by decide) rfl (by simp[go_sem]) (by rfl) (by rfl) (by rfl) ?_;simp only[go_sem,wo,wa];exact done [] _ [(1000,wo 2000 m l (if(m&&e==0)=true then 1 else e)),(2000,wa l)] (by simp only[go_sem]) (by simp only[go_sem,wo,wa]) rfl ⟨rfl,rfl⟩
  .have d1:decide (n<0)=false:=aM h2;have d2:decide (n>4294967295)=true:=aL (by omega);simp only[eY,wo,wa,go_sem,d1,d2];refine ee [] (k:=1000) (j:=2000) (oq m l e 1) (by decide) (by decide) (by decide) (by decide) rfl (by simp[go_sem]) (by rfl) (by rfl) (by rfl) ?_;simp only[go_sem,wo,wa];exact done [] _ [(1000,wo 2000 m l (if(m&&e==0)=true then 1 else e)),(2000,wa l)] (by simp only[go_sem]) (by simp only[go_sem,wo,wa]) rfl ⟨rfl,rfl⟩
 .have d1:decide (n<0)=false:=aM (by omega);have d2:decide (n>4294967295)=false:=aM (by omega);obtain⟨k,rfl⟩:=Fw (show 0<=n by omega);have r:wU (m&&e==0) l e k=(wB (m&&e==0) l (ay k),e):=by
   unfold wU wB;cases (m&&e==0)<;>simp only[br,au h1,gd,cD,mz]
  have w1:IntKind.u64.wrap (k:Int)=(k:Int):=by rw[En];omega
  have hp:=lu (n:=k) (by omega);rw[r];simp only[eY,wo,wa,go_sem,d1,d2,w1];refine aa (ac3 k (by omega)) ?_;refine ee [] (k:=1000) (j:=2000) (fZ m l (ay k) e ⟨hl,by omega⟩) (by decide) (by decide) (by decide) (by decide) rfl (by simp[go_sem]) (by rfl) (by rfl) (by rfl) ?_;simp only[go_sem,wo,wa];exact fI [] _ [(1000,wo 2000 m (wB (m&&e==0) l (ay k)) e),(2000,wa (wB (m&&e==0) l (ay k)))] (by simp only[go_sem]) (by simp only[go_sem,wo,wa]) rfl ⟨rfl,rfl⟩
def wN(ok:Bool)(l:List UInt8)(e:Int)(x:List UInt8):List UInt8×Int :=
 if ok=true then(if uv x=false then(l,9)else if x.length>64 then(l,6)else(l++ay x.length++x,e))else(l,e)
def Or(m:Bool)(l x:List UInt8)(e:Int)(hl:l.length<40000000000/\x.length<10000000):WM mc [.str x] m l e (.tup []) (wN (m&&e==0) l e x).1 (wN (m&&e==0) l e x).2:=by
 refine bT lG ?_;simp only[lG,wo,wa,go_sem];refine aj (Oq x (by omega)) ?_;cases hv:uv x
 .have r:wN (m&&e==0) l e x=(l,if(m&&e==0)=true then 9 else e):=by
   unfold wN;cases (m&&e==0)<;>simp[hv]
  rw[r];simp only[go_sem];refine ee [] (k:=1000) (j:=2000) (oq m l e 9) (by decide) (by decide) (by decide) (by decide) rfl (by simp[go_sem]) (by rfl) (by rfl) (by rfl) ?_;simp only[go_sem,wo,wa];exact fI [] _ [(1000,wo 2000 m l (if(m&&e==0)=true then 9 else e)),(2000,wa l)] (by simp only[go_sem]) (by simp only[go_sem,wo,wa]) rfl ⟨rfl,rfl⟩
 .by_cases h64:x.length>64
  .have d1:decide ((x.length:Int)>64)=true:=aL (by omega);have r:wN (m&&e==0) l e x=(l,if(m&&e==0)=true then 6 else e):=by
    unfold wN;cases (m&&e==0)<;>simp[hv,h64]
   rw[r];simp only[go_sem,d1];refine ee [] (k:=1000) (j:=2000) (oq m l e 6) (by decide) (by decide) (by decide) (by decide) rfl (by simp[go_sem]) (by rfl) (by rfl) (by rfl) ?_;simp only[go_sem,wo,wa];exact fI [] _ [(1000,wo 2000 m l (if(m&&e==0)=true then 6 else e)),(2000,wa l)] (by simp only[go_sem]) (by simp only[go_sem,wo,wa]) rfl ⟨rfl,rfl⟩
  .have d1:decide ((x.length:Int)>64)=false:=aM (by omega);have r1:wU (m&&e==0) l e x.length=(wB (m&&e==0) l (ay x.length),e):=by
    unfold wU wB;have h1:¬((x.length:Int)<0\/(x.length:Int)>4294967295):=by omega
    cases (m&&e==0)<;>simp only[br,au h1,gd,cD,mz]
   have r:wN (m&&e==0) l e x=(wB (m&&e==0) (wB (m&&e==0) l (ay x.length)) x,e):=by
    unfold wN wB;cases (m&&e==0)<;>simp[hv,h64]
   have hp:=lu (n:=x.length) (by omega);have hl2:=kY (ok:=(m&&e==0)) (l:=l) (x:=ay x.length);rw[r];simp only[go_sem,d1];have c1:=Iw m l e x.length (by omega);rw[r1]at c1;refine ee [] (k:=1000) (j:=2000) c1 (by decide) (by decide) (by decide) (by decide) rfl (by simp[go_sem]) (by rfl) (by rfl) (by rfl) ?_;simp only[go_sem,wo,wa];refine⟨by omega,?_⟩;refine ee [10] (k:=1000) (j:=2000) (fZ m (wB (m&&e==0) l (ay x.length)) x e ⟨by omega,by omega⟩) (by decide) (by decide) (by decide) (by decide) rfl (by simp[go_sem]) ?_ (by simp only[go_sem,wo]) (by simp only[go_sem,wa]) ?_
   .simp only[go_sem,bG,cU];rw[dQ (by simp)];rfl
   .simp only[go_sem,wo,wa];exact fI [] _ [(1000,wo 2000 m (wB (m&&e==0) (wB (m&&e==0) l (ay x.length)) x) e),(2000,wa (wB (m&&e==0) (wB (m&&e==0) l (ay x.length)) x))] (by simp only[go_sem]) (by simp only[go_sem,wo,wa]) rfl ⟨rfl,rfl⟩
def wD(m:Bool)(l:List UInt8)(e:Int):Option (List UInt8)×Int:=if m=true then(if e=0 then(some l,0)else(none,e))else(none,2)
def zC(m:Bool)(l:List UInt8)(e:Int)(hl:l.length<60000000000):WM u_ [] m l e (.tup [Lg (wD m l e).1,.int .i64 (wD m l e).2]) l e:=by
 refine bT eD ?_;cases m
 .simp only[eD,wo,wa,go_sem,wD,gd];exact done [] _ [(1000,wo 2000 false l e),(2000,wa l)] (by simp only[go_sem]) (by simp only[go_sem,wo,wa]) rfl ⟨rfl,rfl⟩
 .by_cases he:e=0
  .subst he;have d:((0:Int) != 0)=false:=rfl;have hr:=KM 1 l.length 5 dY l rfl;simp only[eD,wo,wa,go_sem,wD,d,hr];refine⟨by omega,done [28] _ [(1000,wo 2000 true l 0),(2000,wa l)] ?_ (by simp only[go_sem,wo,wa]) rfl ⟨rfl,rfl⟩⟩;simp only[go_sem,bG,cU];rw[dQ (by simp)]
  .have d:(e != 0)=true:=by simp[he]
   have r:wD true l e=(none,e):=by simp[wD,he]
   rw[r];simp only[eD,wo,wa,go_sem,d];exact done [] _ [(1000,wo 2000 true l e),(2000,wa l)] (by simp only[go_sem]) (by simp only[go_sem,wo,wa]) rfl ⟨rfl,rfl⟩
def adh(m:Bool)(l:List UInt8)(e:Int):WM wq [] m l e (.int .i64 (if(m&&e==0)=true then(l.length:Int)else 0)) l e:=by
 refine bT nq ?_;simp only[nq,wo,wa,go_sem];refine ee [] (k:=1000) (j:=2000) (D9 m l e) (by decide) (by decide) (by decide) (by decide) rfl (by simp) (by rfl) (by rfl) (by rfl) ?_;cases h:(m&&e==0)
 .simp only[go_sem,wo,wa,gd];exact done [] _ [(1000,wo 2000 m l e),(2000,wa l)] (by simp only[go_sem]) (by simp only[go_sem,wo,wa]) rfl ⟨rfl,rfl⟩
 .simp only[go_sem,wo,wa];exact done [] _ [(1000,wo 2000 m l e),(2000,wa l)] (by simp only[go_sem]) (by simp only[go_sem,wo,wa]) rfl ⟨rfl,rfl⟩
def adi:aX pg A8 [] [] sb (λr' σ'=>r' = .mp 2 3 0 0/\σ'=[(2,wo 2000 true [] 0),(2000,wa [])]):=by
 refine bT AP ?_;simp only[AP,go_sem];refine bS ((Wk.new0 _ 2000 1 5 (by decide)).trans (Wk.nlm _ 2 (t:=165) (st:=3) (r:=[.bool true,.nl,.int .i64 0]) (r':=[.bool true,.ms 2000 1 0 0,.int .i64 0]) ?_ ?_)) [] (.mp 2 3 0 0) [(2,wo 2000 true [] 0),(2000,wa [])] ?_ ?_ rfl ⟨rfl,rfl⟩
 .simp only[go_sem]
 .exact⟨.inl rfl,.inr ⟨rfl,.inr ⟨2000,1,rfl⟩⟩,.inl rfl,trivial⟩
 .simp only[go_sem]
 .simp only[go_sem,wo,wa,aC]
def UW(b:List UInt8)(at_:Nat)(h:at_<b.length)(h9:at_<=9):ac pg PQ [.sl 1 (b.map dY),.int .i64 at_] (.int .u64 ((iu (b.take (at_+1))%18446744073709551616:Nat):Int)):=by
 refine aD Fy ?_;simp only[Fy,go_sem];refine an (λi:Nat=>⟨[(9,.int .i64 i),(8,.int .i64 (at_+1)),(5,.int .u64 ((iu (b.take i)%18446744073709551616:Nat):Int)),(0,.sl 1 (b.map dY))],[]⟩) (λi=>i<=at_+1) (λi=>at_+1-i) 0 (cQ _) (Wk.of ?_ ?_) ?_
 .simp[go_sem,wi (n:=(at_:Int)+1) (by omega) (by omega),iu]
 .simp[go_sem]
 rintro i hi;replace hi:i<=at_+1:=hi;rcases kz i (at_+1)with hlt|hge
 .have hd1:decide ((i:Int)<(at_:Int)+1)=true:=by simp;omega
  have hx:(ah b i).toNat<256:=(ah b i).toNat_lt;have hv:=ou (b:=b) (i:=i) (by omega);have hp:2^(7*i)<=2^63:=K9 (by decide) (by omega);have e1:IntKind.u64.wrap (((ah b i).toNat%128:Nat):Int)=(((ah b i).toNat%128:Nat):Int):=by rw[En];omega
  have e2:IntKind.i64.wrap (7*(i:Int))=((7*i:Nat):Int):=by rw[wi (by omega) (by omega)];omega
  have e3:¬((7*i:Nat):Int)<0:=by omega
  have e5:=U0 (y:=(ah b i).toNat%128) (s:=7*i) (by omega);have e6:iu (b.take i)%18446744073709551616=iu (b.take i):=Ew (by omega);have e7:=DN (n:=iu (b.take i)) (y:=(ah b i).toNat%128) (s:=7*i) (by omega) hv;simp only[go_sem,hd1,e2,e3];refine⟨by omega,by omega,aE (i+1) (show i+1<=at_+1 by omega) (show at_+1-(i+1)<at_+1-i by omega) (Wk.of ?_ ?_)⟩
  .have e8:=wi (n:=(i:Int)+1) (by omega) (by omega);have e9:=GL (show i<b.length by omega);simp only[go_sem,RA hx,e1,e5,e6,e7,e8,e9];rfl
  .simp[go_sem]
 .have hd1:decide ((i:Int)<(at_:Int)+1)=false:=by simp;omega
  have:i=at_+1:=by omega
  subst this;simp only[go_sem,hd1];exact aq [] (by simp[go_sem]) rfl
def lZ(b:List UInt8)(bits:Nat):AV:=if qq b bits=0 then .tup [.int .i64 (dG b bits),.int .i64 (G8 bits (dG b bits)),.int .i64 0]else .tup [.int .i64 0,.int .i64 0,.int .i64 (qq b bits)]
def US(b:List UInt8)(bits:Nat)(h:1<=bits/\bits<=64):ac pg L1 [.sl 1 (b.map dY),.int .i64 bits] (lZ b bits):=by
 have hm:mst bits<=10/\1<=mst bits/\7*mst bits<=bits+6:=by unfold mst;omega
 refine aD Cp ?_;have d1:decide ((bits:Int)<1)=false:=by simp;omega
 have d2:decide ((bits:Int)>64)=false:=by simp;omega
 have e1:IntKind.i64.wrap ((bits:Int)+6)=((bits+6:Nat):Int):=by rw[wi (by omega) (by omega)];omega
 have e2:(((bits+6:Nat):Int)).tdiv 7=(mst bits:Int):=by rw[show(7:Int)=((7:Nat):Int) from rfl,<-Int.ofNat_tdiv];rfl
 have e3:IntKind.i64.wrap (mst bits:Int)=(mst bits:Int):=wi (by omega) (by omega);simp only[Cp,go_sem,d1,d2,e1,e2,e3];refine⟨by omega,?_⟩;refine an (λi:Nat=>⟨[(19,.int .i64 i),(18,.int .i64 (mst bits)),(7,.int .i64 (mst bits)),(0,.sl 1 (b.map dY)),(1,.int .i64 bits)],[]⟩) (λi=>i<=mst bits/\i<=b.length/\I1 b (mst bits) 0=I1 b (mst bits-i) i) (λi=>mst bits-i) 0 ⟨cQ _,cQ _,rfl⟩ (Wk.of ?_ ?_) ?_
 .simp only[go_sem,e1,e2,e3];simp
 .simp[go_sem]
 rintro i ⟨hi,hib,hl⟩;replace hi:i<=mst bits:=hi;replace hib:i<=b.length:=hib;replace hl:I1 b (mst bits) 0=I1 b (mst bits-i) i:=hl;rcases kz i (mst bits)with hlt|hge
 .have hd1:decide ((i:Int)<(mst bits:Int))=true:=by simp;omega
  rw[show mst bits-i=(mst bits-(i+1))+1 by omega,I1]at hl;by_cases hb:i>=b.length
  .have hd2:decide ((i:Int)>=(b.length:Int))=true:=by simp;omega
   rw[aF hb]at hl;have r1:lZ b bits = .tup [.int .i64 0,.int .i64 0,.int .i64 3]:=by simp[lZ,qq,hl]
   simp only[go_sem,hd1,hd2];rw[r1];exact aq [] (by simp[go_sem]) rfl
  .have hd2:decide ((i:Int)>=(b.length:Int))=false:=by simp;omega
   rw[au hb]at hl;by_cases hc:128<=(ah b i).toNat
   .have hd3:decide (((ah b i).toNat:Int)>=128)=true:=by simp;omega
    rw[aF hc]at hl;simp only[go_sem,hd1,hd2,hd3];refine⟨by omega,by omega,aE (i+1) ⟨by omega,by omega,hl⟩ (show mst bits-(i+1)<mst bits-i by omega) (Wk.of ?_ ?_)⟩
    .have e8:=wi (n:=(i:Int)+1) (by omega) (by omega);simp[go_sem,e8]
    .simp[go_sem]
   .have hd3:decide (((ah b i).toNat:Int)>=128)=false:=by simp;omega
    rw[au hc]at hl;have w1:IntKind.i64.wrap ((mst bits:Int)-1)=(mst bits:Int)-1:=wi (by omega) (by omega);by_cases hq:i+1=mst bits
    .have hd4:((i:Int)==(mst bits:Int)-1)=true:=by simp;omega
     have r1:lZ b bits = .tup [.int .i64 i,.int .i64 ((bits:Int)-7*i),.int .i64 0]:=by
      have:((bits-7*i:Nat):Int)=(bits:Int)-7*i:=by omega
      simp[lZ,qq,dG,hl,G8,hq,this]
     have w2:IntKind.i64.wrap (7*(i:Int))=7*(i:Int):=wi (by omega) (by omega);have w3:IntKind.i64.wrap ((bits:Int)-7*(i:Int))=(bits:Int)-7*(i:Int):=wi (by omega) (by omega);simp only[go_sem,hd1,hd2,hd3,w1,hd4];rw[r1];exact⟨by omega,by omega,aq [] (by simp[go_sem,w2,w3]) rfl⟩
    .have hd4:((i:Int)==(mst bits:Int)-1)=false:=by simp;omega
     have r1:lZ b bits = .tup [.int .i64 i,.int .i64 7,.int .i64 0]:=by simp[lZ,qq,dG,hl,G8,hq]
     simp only[go_sem,hd1,hd2,hd3,w1,hd4];rw[r1];exact⟨by omega,by omega,aq [] (by simp[go_sem]) rfl⟩
 .have hd1:decide ((i:Int)<(mst bits:Int))=false:=by simp;omega
  rw[show mst bits-i=0 by omega,I1]at hl;have r1:lZ b bits = .tup [.int .i64 0,.int .i64 0,.int .i64 4]:=by simp[lZ,qq,hl]
  simp only[go_sem,hd1];rw[r1];exact aq [] (by simp[go_sem]) rfl
def uR(x:Nat×Nat×Int):AV:=.tup [.int .u64 x.1,.int .i64 x.2.1,.int .i64 x.2.2]
def sR(x:Int×Nat×Int):AV:=.tup [.int .i64 x.1,.int .i64 x.2.1,.int .i64 x.2.2]
def s_U(b:List UInt8)(bits:Nat)(h:1<=bits/\bits<=64):ac pg XK [.sl 1 (b.map dY),.int .i64 bits] (uR (jh b bits)):=by
 refine aD Nf ?_;simp only[Nf,go_sem];refine aj (US b bits h) ?_;rcases re b bits with⟨h1,h2,h3,h4⟩|⟨h1,h2⟩
 .have hc:=RL h h3;have hm:=TG h;have e1:lZ b bits = .tup [.int .i64 (dG b bits),.int .i64 (G8 bits (dG b bits)),.int .i64 0]:=by rw[lZ,aF h1]
  have e2:=Ch .u8 (x:=(ah b (dG b bits)).toNat) (s:=G8 bits (dG b bits)) (by show _<=8;omega);have e3:¬((G8 bits (dG b bits):Nat):Int)<0:=by omega
  by_cases hq:(ah b (dG b bits)).toNat/2^G8 bits (dG b bits)=0
  .have d1:((((ah b (dG b bits)).toNat/2^G8 bits (dG b bits):Nat):Int) != 0)=false:=by rw[hq];rfl
   have r:jh b bits=(iu (b.take (dG b bits+1))%18446744073709551616,dG b bits+1,0):=by simp[jh,h1,hq]
   simp only[go_sem,e1,bne_self_eq_false,e2,e3,d1];refine⟨by omega,by omega,bY (UW b (dG b bits) h2 (by omega)) (by simp[go_sem]) ?_⟩;have e8:=wi (n:=(dG b bits:Int)+1) (by omega) (by omega);simp only[go_sem];rw[r];exact aq [] (by simp[go_sem,e8,uR]) rfl
  .have d1:((((ah b (dG b bits)).toNat/2^G8 bits (dG b bits):Nat):Int) != 0)=true:=by
    have:(((ah b (dG b bits)).toNat/2^G8 bits (dG b bits):Nat):Int)≠0:=by omega
    simp only[bne,iS.2 this];rfl
   have r:jh b bits=(0,0,4):=by rw[jh,au (by simp[h1]),aF hq]
   simp only[go_sem,e1,bne_self_eq_false,e2,e3,d1];rw[r];exact⟨by omega,by omega,aq [] (by simp[go_sem,uR]) rfl⟩
 .have hne:qq b bits≠0:=by rcases h1 with h1|h1<;>rw[h1]<;>decide
  have e1:lZ b bits = .tup [.int .i64 0,.int .i64 0,.int .i64 (qq b bits)]:=by rw[lZ,au hne]
  have d1:(qq b bits != 0)=true:=by simp[hne]
  have r:jh b bits=(0,0,qq b bits):=by rw[jh,aF hne]
  simp only[go_sem,e1,d1];rw[r];exact aq [] (by simp[go_sem,uR]) rfl
def s_S(b:List UInt8)(bits:Nat)(h:1<=bits/\bits<=64):ac pg XJ [.sl 1 (b.map dY),.int .i64 bits] (sR (iK b bits)):=by
 refine aD Nc ?_;simp only[Nc,go_sem];refine aj (US b bits h) ?_;rcases re b bits with⟨h1,h2,h3,h4⟩|⟨h1,h2⟩
 .have hc:=RL h h3;have hm:=TG h;generalize hi:dG b bits=i at*;generalize hcn:G8 bits i=c at*;have hx:(ah b i).toNat<256:=(ah b i).toNat_lt;have e1:lZ b bits = .tup [.int .i64 i,.int .i64 c,.int .i64 0]:=by rw[lZ,aF h1,hi,hcn]
  have w1:IntKind.i64.wrap ((c:Int)-1)=((c-1:Nat):Int):=by rw[wi (by omega) (by omega)];omega
  have e2:=Ch .u8 (x:=(ah b i).toNat) (s:=c-1) (by show _<=8;omega);have e2':Cx .u8 127 ((c-1:Nat):Int)=((127/2^(c-1):Nat):Int):=Ch .u8 (x:=127) (s:=c-1) (by show _<=8;omega);have e3:¬((c-1:Nat):Int)<0:=by omega
  have w2:IntKind.i64.wrap ((i:Int)+1)=((i+1:Nat):Int):=by rw[wi (by omega) (by omega)];omega
  have w3:IntKind.i64.wrap (7*((i+1:Nat):Int))=((7*(i+1):Nat):Int):=by rw[wi (by omega) (by omega)];omega
  by_cases hq:(ah b i).toNat/2^(c-1)≠0/\(ah b i).toNat/2^(c-1)≠127/2^(c-1)
  .have d1:((((ah b i).toNat/2^(c-1):Nat):Int) != 0)=true:=by
    have:(((ah b i).toNat/2^(c-1):Nat):Int)≠0:=by omega
    simp only[bne,iS.2 this];rfl
   have d2:((((ah b i).toNat/2^(c-1):Nat):Int) != ((127/2^(c-1):Nat):Int))=true:=by
    have:(((ah b i).toNat/2^(c-1):Nat):Int)≠((127/2^(c-1):Nat):Int):=by omega
    simp only[bne,iS.2 this];rfl
   have r:iK b bits=(0,0,4):=by rw[iK,au (by simp[h1]),hi,hcn,aF hq]
   simp only[go_sem,e1,bne_self_eq_false,w1,e2,e2',e3,d1,d2];rw[r];exact⟨by omega,by omega,aq [] (by simp[go_sem,sR]) rfl⟩
  .have r:iK b bits=(MM b i,i+1,0):=by rw[iK,au (by simp[h1]),hi,hcn,au hq]
   have hv:=ou (b:=b) (i:=i+1) (by omega);rw[r];by_cases hz:(ah b i).toNat/2^(c-1)=0
   .have d1:((((ah b i).toNat/2^(c-1):Nat):Int) != 0)=false:=by rw[hz];rfl
    simp only[go_sem,e1,bne_self_eq_false,w1,e2,e2',e3,d1];refine⟨by omega,by omega,bY (UW b i h2 (by omega)) (by simp[go_sem]) ?_⟩;by_cases hw:i=9
    .subst hw;have d3:decide (((7*(9+1):Nat):Int)<64)=false:=by decide
     simp only[go_sem,w2,w3,d3];have e9:IntKind.i64.wrap ((iu (b.take (9+1))%18446744073709551616:Nat):Int)=MM b 9:=by
      unfold MM;refine vL ?_;split<;>omega
     exact aq [] (by simp only[go_sem,sR,e9,w2]) rfl
    .have hp:2^(7*(i+1))<=2^63:=K9 (by decide) (by omega);have d3:decide (((7*(i+1):Nat):Int)<64)=true:=by simp;omega
     have e6:iu (b.take (i+1))%18446744073709551616=iu (b.take (i+1)):=Ew (by omega);by_cases hb:64<=(ah b i).toNat%128
     .have d4:(bU .u8 ((ah b i).toNat:Int) 64 != 0)=true:=by rw[Nl hx];simpa using hb
      have e4:¬((7*(i+1):Nat):Int)<0:=by omega
      have e5:Jf .u64 18446744073709551615 ((7*(i+1):Nat):Int)=((18446744073709551615*2^(7*(i+1))%18446744073709551616:Nat):Int):=U0 (y:=18446744073709551615) (s:=7*(i+1)) (by omega);have e7:=DN (n:=iu (b.take (i+1))) (y:=18446744073709551615) (s:=7*(i+1)) (by omega) hv;have e9:IntKind.i64.wrap (((iu (b.take (i+1))+18446744073709551615*2^(7*(i+1)))%18446744073709551616:Nat):Int)=MM b i:=by
       unfold MM;rw[aF hb];refine vL ?_;have e10:(2:Int)^(7*(i+1))=((2^(7*(i+1)):Nat):Int):=by rw[Int.natCast_pow];rfl
       rw[e10];generalize 2^(7*(i+1))=p;omega
      simp only[go_sem,w2,w3,d3,d4,e4,e6,e5,e7];exact⟨by omega,by omega,aq [] (by simp only[go_sem,sR,e9,w2]) rfl⟩
     .have d4:(bU .u8 ((ah b i).toNat:Int) 64 != 0)=false:=by rw[Nl hx];simpa using hb
      have e9:IntKind.i64.wrap ((iu (b.take (i+1)):Nat):Int)=MM b i:=by
       unfold MM;rw[au hb,Int.sub_zero]
      simp only[go_sem,w2,w3,d3,d4,e6];exact⟨by omega,by omega,aq [] (by simp only[go_sem,sR,e9,w2]) rfl⟩
   .have d1:((((ah b i).toNat/2^(c-1):Nat):Int) != 0)=true:=by
     have:(((ah b i).toNat/2^(c-1):Nat):Int)≠0:=by omega
     simp only[bne,iS.2 this];rfl
    have d2:((((ah b i).toNat/2^(c-1):Nat):Int) != ((127/2^(c-1):Nat):Int))=false:=by
     have:(ah b i).toNat/2^(c-1)=127/2^(c-1):=Classical.byContradiction λhn=>hq ⟨hz,hn⟩;rw[this];simp
    simp only[go_sem,e1,bne_self_eq_false,w1,e2,e2',e3,d1,d2];refine⟨by omega,by omega,bY (UW b i h2 (by omega)) (by simp[go_sem]) ?_⟩;by_cases hw:i=9
    .subst hw;have d3:decide (((7*(9+1):Nat):Int)<64)=false:=by decide
     simp only[go_sem,w2,w3,d3];have e9:IntKind.i64.wrap ((iu (b.take (9+1))%18446744073709551616:Nat):Int)=MM b 9:=by
      unfold MM;refine vL ?_;split<;>omega
     exact aq [] (by simp only[go_sem,sR,e9,w2]) rfl
    .have hp:2^(7*(i+1))<=2^63:=K9 (by decide) (by omega);have d3:decide (((7*(i+1):Nat):Int)<64)=true:=by simp;omega
     have e6:iu (b.take (i+1))%18446744073709551616=iu (b.take (i+1)):=Ew (by omega);by_cases hb:64<=(ah b i).toNat%128
     .have d4:(bU .u8 ((ah b i).toNat:Int) 64 != 0)=true:=by rw[Nl hx];simpa using hb
      have e4:¬((7*(i+1):Nat):Int)<0:=by omega
      have e5:Jf .u64 18446744073709551615 ((7*(i+1):Nat):Int)=((18446744073709551615*2^(7*(i+1))%18446744073709551616:Nat):Int):=U0 (y:=18446744073709551615) (s:=7*(i+1)) (by omega);have e7:=DN (n:=iu (b.take (i+1))) (y:=18446744073709551615) (s:=7*(i+1)) (by omega) hv;have e9:IntKind.i64.wrap (((iu (b.take (i+1))+18446744073709551615*2^(7*(i+1)))%18446744073709551616:Nat):Int)=MM b i:=by
       unfold MM;rw[aF hb];refine vL ?_;have e10:(2:Int)^(7*(i+1))=((2^(7*(i+1)):Nat):Int):=by rw[Int.natCast_pow];rfl
       rw[e10];generalize 2^(7*(i+1))=p;omega
      simp only[go_sem,w2,w3,d3,d4,e4,e6,e5,e7];exact⟨by omega,by omega,aq [] (by simp only[go_sem,sR,e9,w2]) rfl⟩
     .have d4:(bU .u8 ((ah b i).toNat:Int) 64 != 0)=false:=by rw[Nl hx];simpa using hb
      have e9:IntKind.i64.wrap ((iu (b.take (i+1)):Nat):Int)=MM b i:=by
       unfold MM;rw[au hb,Int.sub_zero]
      simp only[go_sem,w2,w3,d3,d4,e6];exact⟨by omega,by omega,aq [] (by simp only[go_sem,sR,e9,w2]) rfl⟩
 .have hne:qq b bits≠0:=by rcases h1 with h1|h1<;>rw[h1]<;>decide
  have e1:lZ b bits = .tup [.int .i64 0,.int .i64 0,.int .i64 (qq b bits)]:=by rw[lZ,au hne]
  have d1:(qq b bits != 0)=true:=by simp[hne]
  have r:iK b bits=(0,0,qq b bits):=by rw[iK,aF hne]
  simp only[go_sem,e1,d1];rw[r];exact aq [] (by simp[go_sem,sR]) rfl
def On(n:Nat)(hn:n<18446744073709551616):ac pg HH [.nl,.int .u64 n] (.sl 1 ((ay n).map dY)):=by
 refine aD yK ?_;have a0:tC 6 5 1 0 0 [] (some ⟨5,1,[],false⟩)=some (.ms 6 1 0 0,.reb 6 ⟨5,1,[],false⟩):=rfl;simp only[yK,go_sem,a0];refine an (λq:List UInt8×Nat=>⟨[(5,.ms 6 1 0 q.1.length),(1,.int .u64 q.2)],[(6,⟨5,1,q.1.map dY,false⟩)]⟩) (λq=>q.1++ay q.2=ay n/\q.2<=n) (λq=>q.2) ([],n) ⟨rfl,bG _⟩ (Wk.of ?_ ?_) ?_
 .simp[go_sem]
 .simp[go_sem]
 rintro⟨acc,m⟩ ⟨hq,hm⟩;replace hq:acc++ay m=ay n:=hq;replace hm:m<=n:=hm;have hlen:acc.length+(ay m).length<=10:=by
  have:=rA (k:=9) (n:=n) (by omega);rw[<-hq]at this;simpa using this
 have w1:IntKind.u8.wrap (m:Int)=((m%256:Nat):Int):=by rw[vy];omega
 have happ:=λys=>bX 6 5 1 acc.length dY acc ys rfl;by_cases h1:m<128
 .have d1:decide ((m:Int)>=128)=false:=aM (by omega);simp only[go_sem,d1,w1,happ];refine⟨by omega,aq [6] ?_ rfl⟩;have e1:m%256=m:=by omega
  simp only[go_sem,w1,<-hq,zp h1,kr,yY (show m<256 by omega),e1];simp;exact dQ (by simp)
 .have d1:decide ((m:Int)>=128)=true:=aL (by omega);have t1:(m:Int).tmod 128=((m%128:Nat):Int):=(Int.ofNat_tmod m 128).symm;have t2:IntKind.u8.wrap ((m%128:Nat):Int)=((m%128:Nat):Int):=by rw[vy];omega
  have t3:IntKind.u8.wrap (((m%128:Nat):Int)+128)=((m%128+128:Nat):Int):=by rw[vy];omega
  have t4:(m:Int).tdiv 128=((m/128:Nat):Int):=(Int.ofNat_tdiv m 128).symm;have t5:IntKind.u64.wrap ((m/128:Nat):Int)=((m/128:Nat):Int):=by rw[En];omega
  simp only[go_sem,d1,t1,t2,t3,happ];refine⟨by omega,by omega,by omega,aE (acc++[UInt8.ofNat (m%128+128)],m/128) ⟨by rw[eU,<-hq,Cb h1];rfl,by show m/128<=n;omega⟩ (show m/128<m by omega) (Wk.of ?_ ?_)⟩
  .simp only[go_sem,t4,t5,aJ,jI]
  .simp only[go_sem,kr,yY (show m%128+128<256 by omega)]
def vX(n:Int)(hn:-9223372036854775808<=n/\n<9223372036854775808):ac pg HG [.nl,.int .i64 n] (.sl 1 ((ej n).map dY)):=by
 refine aD yJ ?_;have a0:tC 6 5 1 0 0 [] (some ⟨5,1,[],false⟩)=some (.ms 6 1 0 0,.reb 6 ⟨5,1,[],false⟩):=rfl;simp only[yJ,go_sem,a0];refine an (λq:List UInt8×Int=>⟨[(5,.ms 6 1 0 q.1.length),(1,.int .i64 q.2)],[(6,⟨5,1,q.1.map dY,false⟩)]⟩) (λq=>q.1++ej q.2=ej n/\-9223372036854775808<=q.2/\q.2<9223372036854775808) (λq=>q.2.natAbs) ([],n) ⟨rfl,hn⟩ (Wk.of ?_ ?_) ?_
 .simp[go_sem]
 .simp[go_sem]
 rintro⟨acc,m⟩ ⟨hq,hm⟩;replace hq:acc++ej m=ej n:=hq;replace hm:-9223372036854775808<=m/\m<9223372036854775808:=hm;have hlen:acc.length+(ej m).length<=10:=by
  have:=zo (k:=9) (n:=n) (by omega) (by omega);rw[<-hq]at this;simpa using this
 have happ:=λys=>bX 6 5 1 acc.length dY acc ys rfl;have w0:=V9 m;have w1:IntKind.u8.wrap (m%128)=(((m%128).toNat:Nat):Int):=by rw[vy];omega
 by_cases h1:-64<=m/\m<=63
 .have d1:decide (m < -64)=false:=aM (by omega);have d2:decide (m>63)=false:=aM (by omega);simp only[go_sem,d1,d2,w0,w1,happ];refine⟨by omega,aq [6] ?_ rfl⟩;simp only[go_sem,<-hq,Ca h1,kr,yY (show(m%128).toNat<256 by omega),jI];simp;exact dQ (by simp)
 .have w2:IntKind.u8.wrap ((((m%128).toNat:Nat):Int)+128)=(((m%128).toNat+128:Nat):Int):=by rw[vy];omega
  have w3:=NI m;have fin:∀s:St,leE s.env [(5,.ms 6 1 0 (acc.length+1)),(1,.int .i64 (m/128))]->QF s.heap [(6,⟨5,1,acc.map dY++[[.int .u8 (((m%128).toNat+128:Nat):Int)]],false⟩)] ->
    ∀K,Xk (λq:List UInt8×Int=>⟨[(5,.ms 6 1 0 q.1.length),(1,.int .i64 q.2)],[(6,⟨5,1,q.1.map dY,false⟩)]⟩) (λq=>q.1++ej q.2=ej n/\-9223372036854775808<=q.2/\q.2<9223372036854775808) (λq=>q.2.natAbs) (acc,m) K .nrm s:=λs hs1 hs2 K=>by
   refine aE (acc++[UInt8.ofNat ((m%128).toNat+128)],m/128) ⟨by rw[eU,<-hq,In h1];rfl,by show _<=m/128;omega,by show m/128<_;omega⟩ (show(m/128).natAbs<m.natAbs by omega) (Wk.of ?_ ?_)
   .simpa only[aJ,jI]using hs1
   .simpa only[kr,eR,k9,yY (show(m%128).toNat+128<256 by omega)]using hs2
  by_cases h2:m < -64
  .have d1:decide (m < -64)=true:=aL (by omega);simp only[go_sem,d1,w0,w1,w2,happ];refine⟨by omega,by decide,fin _ ?_ ?_ _⟩
   .simp only[go_sem,w3]
   .simp only[go_sem]
  .have d1:decide (m < -64)=false:=aM (by omega);have d2:decide (m>63)=true:=aL (by omega);simp only[go_sem,d1,d2,w0,w1,w2,happ];refine⟨by omega,by decide,fin _ ?_ ?_ _⟩
   .simp only[go_sem,w3]
   .simp only[go_sem]
