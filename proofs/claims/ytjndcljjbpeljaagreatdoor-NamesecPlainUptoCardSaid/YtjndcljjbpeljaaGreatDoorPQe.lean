import Derived.Test.YtjndcljjbpeljaaGreatDoorPQd
set_option linter.all false
set_option maxRecDepth 100000
set_option maxHeartbeats 4000000
namespace Go.Proofs.YtjndcljjbpeljaaGreatDoor
open Go Go.Mw
def wo (q:Nat) (m:Bool) (l:List UInt8) (e:Int):ao:=⟨175,3,[[.bool m,.ms q 1 0 l.length,.int .i64 e]],true⟩
def wa (l:List UInt8):ao:=⟨5,1,l.map dJ,false⟩
def WM (f:FuncId) (rest:List AV) (m:Bool) (l:List UInt8) (e:Int) (r:AV) (l':List UInt8) (e':Int):Prop :=
 br Tryz.prog f (.mp 1000 3 0 0 :: rest) [(1000,wo 2000 m l e),(2000,wa l)] sb (fun r' σ'=>r'=r∧σ'=[(1000,wo 2000 m l' e'),(2000,wa l')])
theorem ga {f:FuncId} {rest:List AV} {m:Bool} {l:List UInt8} {e:Int} {r:AV} {l':List UInt8} {e':Int} {k j:Nat} {args:List AV} {d:Option Nat} {s:St} {K:St→Prop} (fs:List Nat)
  (h:WM f rest m l e r l' e') (hk:k≠2000) (hj:j≠1000) (hkj:k≠j) (hj2:j<1000∨2000≤j) (hr:aP r=[]) (hrest:∀x∈rest,aP x=[])
  (ha:args.map (mg fs s) = .mp k 3 0 0 :: rest) (h1:ak (frzs fs s).heap k=some (wo j m l e)) (h2:ak (frzs fs s).heap j=some (wa l))
  (hK:K ((St.mk (jJ j (frzs fs s).env) ((k,wo j m l' e') :: (j,wa l') :: jK j (frzs fs s).heap)).put d r)):cW Tryz.prog f args d s K:=by
 have e1:fw [(1000,k),(2000,j)] 2000=j:=by
  simp only [fw];unfold jo
  by_cases q:(2000:Nat)=k
  ·exact absurd q.symm hk
  ·simp [q]
 have e0:fw [(1000,k),(2000,j)] 1000=k:=by
  simp only [fw];unfold jo
  by_cases q:k=2000
  ·exact absurd q hk
  ·simp [q,hkj]
 have b1:bw [(1000,k),(2000,j)] j=2000:=by have:=o8 [(1000,k),(2000,j)] 2000;rwa [e1] at this
 have b0:bw [(1000,k),(2000,j)] k=1000:=by have:=o8 [(1000,k),(2000,j)] 1000;rwa [e0] at this
 refine Nx fs (br.at2 (rk:=wo j m l e) (rk':=wo j m l' e') h hk hj hkj hr hrest rfl rfl ?_ ?_) hkj ?_ hj2 ha h1 h2 hK
 ·simp only [eU,wo,bF,eW,List.map_nil,k9,k_,b1];rfl
 ·simp only [eU,wo,bF,eW,List.map_nil,k9,k_,e1];rfl
 ·show sb (bw [(1000,k),(2000,j)] k)
  rw [b0];exact ⟨by decide,by decide⟩
theorem cG {f:FuncId} {rest:List AV} {m:Bool} {l:List UInt8} {e:Int} {r:AV} {l':List UInt8} {e':Int} {k j:Nat} {args:List AV} {d:Option Nat} {s:St} {K:St→Prop} (fs:List Nat)
  (h:WM f rest m l e r l' e') (hK:K ((St.mk (jJ j (frzs fs s).env) ((k,wo j m l' e') :: (j,wa l') :: jK j (frzs fs s).heap)).put d r)) (hk:k≠2000:=by decide) (hj:j≠1000:=by decide) (hkj:k≠j:=by decide) (hj2:j<1000∨2000≤j:=by decide)
  (hr:aP r=[]:=by first | rfl | simp [go_sem,ac]) (hrest:∀x∈rest,aP x=[]:=by simp [go_sem])
  (ha:args.map (mg fs s) = .mp k 3 0 0 :: rest:=by rfl) (h1:ak (frzs fs s).heap k=some (wo j m l e):=by rfl) (h2:ak (frzs fs s).heap j=some (wa l):=by rfl):cW Tryz.prog f args d s K:=ga fs h hk hj hkj hj2 hr hrest ha h1 h2 hK
theorem vH (m:Bool) (l:List UInt8) (e:Int):WM YH [] m l e (.bool (m&&e==0)) l e:=by
 refine aT (ic:=GW.body) aq WP rfl rfl ?_
 cases m
 ·simp only [GW,wo,wa,go_sem]
  exact done [] _ [(1000,wo 2000 false l e),(2000,wa l)] (by simp only [go_sem]) (by simp only [go_sem,wo,wa]) rfl ⟨rfl,rfl⟩
 ·simp only [GW,wo,wa,go_sem]
  exact done [] _ [(1000,wo 2000 true l e),(2000,wa l)] (by simp only [go_sem]) (by simp only [go_sem,wo,wa]) rfl ⟨rfl,rfl⟩
theorem kX (m:Bool) (l:List UInt8) (e x:Int):WM YP [.int .i64 x] m l e (.tup []) l (if (m&&e==0)=true then x else e):=by
 refine aT (ic:=Mg.body) aq WY rfl rfl ?_
 simp only [Mg,wo,wa,go_sem]
 refine ga [] (k:=1000) (j:=2000) (vH m l e) (by decide) (by decide) (by decide) (by decide) rfl (by simp) (by rfl) (by rfl) (by rfl) ?_
 cases h:(m&&e==0)
 ·simp only [go_sem,wo,wa]
  exact ea [] _ [(1000,wo 2000 m l e),(2000,wa l)] (by simp only [go_sem]) (by simp only [go_sem,wo,wa]) rfl ⟨rfl,rfl⟩
 ·simp only [go_sem,wo,wa]
  exact ea [] _ [(1000,wo 2000 m l x),(2000,wa l)] (by simp only [go_sem]) (by simp only [go_sem,wo,wa]) rfl ⟨rfl,rfl⟩
def wB (ok:Bool) (l x:List UInt8):List UInt8:=if ok=true then l++x else l
theorem mN (m:Bool) (l x:List UInt8) (e:Int) (hl:l.length<60000000000∧x.length<60000000000):WM YG [.sl 1 (x.map dJ)] m l e (.tup []) (wB (m&&e==0) l x) e:=by
 refine aT (ic:=L8.body) aq WO rfl rfl ?_
 simp only [L8,wo,wa,go_sem]
 refine ga [] (k:=1000) (j:=2000) (vH m l e) (by decide) (by decide) (by decide) (by decide) rfl (by simp) (by rfl) (by rfl) (by rfl) ?_
 cases h:(m&&e==0)
 ·simp only [go_sem,wo,wa,wB,gK]
  exact ea [] _ [(1000,wo 2000 m l e),(2000,wa l)] (by simp only [go_sem]) (by simp only [go_sem,wo,wa]) rfl ⟨rfl,rfl⟩
 ·have happ:=bu 2000 5 1 l.length dJ l (x.map dJ) rfl
  simp only [go_sem,wo,wa,wB,happ]
  refine ⟨by omega,ea [] _ [(1000,wo 2000 m (l++x) e),(2000,wa (l++x))] (by simp only [go_sem]) ?_ rfl ⟨rfl,rfl⟩⟩
  simp only [go_sem,wo,wa,aJ,List.map_append]
theorem qs {ok:Bool} {l x:List UInt8}:(wB ok l x).length≤l.length+x.length:=by
 unfold wB;split<;>simp
theorem Kt (m:Bool) (l:List UInt8) (x:UInt8) (e:Int) (hl:l.length<60000000000):WM YN [.int .u8 x.toNat] m l e (.tup []) (wB (m&&e==0) l [x]) e:=by
 refine aT (ic:=Mf.body) aq WW rfl rfl ?_
 simp only [Mf,wo,wa,go_sem]
 refine ga [6] (k:=1000) (j:=2000) (mN m l [x] e ⟨hl,by simp⟩) (by decide) (by decide) (by decide) (by decide) rfl (by simp [go_sem]) ?_ (by simp only [go_sem,wo]) (by simp only [go_sem,wa]) ?_
 ·simp only [go_sem,bj]
 ·simp only [go_sem,wo,wa]
  exact ea [] _ [(1000,wo 2000 m (wB (m&&e==0) l [x]) e),(2000,wa (wB (m&&e==0) l [x]))] (by simp only [go_sem]) (by simp only [go_sem,wo,wa]) rfl ⟨rfl,rfl⟩
def wU (ok:Bool) (l:List UInt8) (e n:Int):List UInt8×Int :=
 if ok=true then (if n<0∨n>4294967295 then (l,1) else (l++aA n.toNat,e)) else (l,e)
theorem iI {n:Nat} (h:n≤4294967295):(aA n).length≤5:=gV (k:=4) (by omega)
theorem xn (m:Bool) (l:List UInt8) (e n:Int) (hl:l.length<60000000000):WM UV [.int .i64 n] m l e (.tup []) (wU (m&&e==0) l e n).1 (wU (m&&e==0) l e n).2:=by
 refine aT (ic:=Cm.body) aq Xa rfl rfl ?_
 by_cases h1:n<0∨n>4294967295
 ·have r:wU (m&&e==0) l e n=(l,if (m&&e==0)=true then 1 else e):=by
   unfold wU;cases (m&&e==0)<;>simp [h1]
  rw [r]
  by_cases h2:n<0
  ·have d1:decide (n<0)=true:=aF h2
   simp only [Cm,wo,wa,go_sem,d1]
   refine ga [] (k:=1000) (j:=2000) (kX m l e 1) (by decide) (by decide) (by decide) (by decide) rfl (by simp [go_sem]) (by rfl) (by rfl) (by rfl) ?_
   simp only [go_sem,wo,wa]
   exact done [] _ [(1000,wo 2000 m l (if (m&&e==0)=true then 1 else e)),(2000,wa l)] (by simp only [go_sem]) (by simp only [go_sem,wo,wa]) rfl ⟨rfl,rfl⟩
  ·have d1:decide (n<0)=false:=aG h2
   have d2:decide (n>4294967295)=true:=aF (by omega)
   simp only [Cm,wo,wa,go_sem,d1,d2]
   refine ga [] (k:=1000) (j:=2000) (kX m l e 1) (by decide) (by decide) (by decide) (by decide) rfl (by simp [go_sem]) (by rfl) (by rfl) (by rfl) ?_
   simp only [go_sem,wo,wa]
   exact done [] _ [(1000,wo 2000 m l (if (m&&e==0)=true then 1 else e)),(2000,wa l)] (by simp only [go_sem]) (by simp only [go_sem,wo,wa]) rfl ⟨rfl,rfl⟩
 ·have d1:decide (n<0)=false:=aG (by omega)
  have d2:decide (n>4294967295)=false:=aG (by omega)
  obtain ⟨k,rfl⟩:=xG (show 0≤n by omega)
  have r:wU (m&&e==0) l e k=(wB (m&&e==0) l (aA k),e):=by
   unfold wU wB;cases (m&&e==0)<;>simp only [bF,aD h1,gK,dc,ib]
  have w1:IntKind.u64.wrap (k:Int)=(k:Int):=by rw [sn];omega
  have hp:=iI (n:=k) (by omega)
  rw [r]
  simp only [Cm,wo,wa,go_sem,d1,d2,w1]
  refine aa (P1 k (by omega)) ?_
  simp only [go_sem]
  refine ga [] (k:=1000) (j:=2000) (mN m l (aA k) e ⟨hl,by omega⟩) (by decide) (by decide) (by decide) (by decide) rfl (by simp [go_sem]) (by rfl) (by rfl) (by rfl) ?_
  simp only [go_sem,wo,wa]
  exact ea [] _ [(1000,wo 2000 m (wB (m&&e==0) l (aA k)) e),(2000,wa (wB (m&&e==0) l (aA k)))] (by simp only [go_sem]) (by simp only [go_sem,wo,wa]) rfl ⟨rfl,rfl⟩
def wN (ok:Bool) (l:List UInt8) (e:Int) (x:List UInt8):List UInt8×Int :=
 if ok=true then (if uv x=false then (l,9) else if x.length>64 then (l,6) else (l++aA x.length++x,e)) else (l,e)
theorem Ku (m:Bool) (l x:List UInt8) (e:Int) (hl:l.length<40000000000∧x.length<10000000):WM UU [.str x] m l e (.tup []) (wN (m&&e==0) l e x).1 (wN (m&&e==0) l e x).2:=by
 refine aT (ic:=Mh.body) aq WZ rfl rfl ?_
 simp only [Mh,wo,wa,go_sem]
 refine aa (FT x (by omega)) ?_
 cases hv:uv x
 ·have r:wN (m&&e==0) l e x=(l,if (m&&e==0)=true then 9 else e):=by
   unfold wN;cases (m&&e==0)<;>simp [hv]
  rw [r]
  simp only [go_sem]
  refine ga [] (k:=1000) (j:=2000) (kX m l e 9) (by decide) (by decide) (by decide) (by decide) rfl (by simp [go_sem]) (by rfl) (by rfl) (by rfl) ?_
  simp only [go_sem,wo,wa]
  exact ea [] _ [(1000,wo 2000 m l (if (m&&e==0)=true then 9 else e)),(2000,wa l)] (by simp only [go_sem]) (by simp only [go_sem,wo,wa]) rfl ⟨rfl,rfl⟩
 ·by_cases h64:x.length>64
  ·have d1:decide ((x.length:Int)>64)=true:=aF (by omega)
   have r:wN (m&&e==0) l e x=(l,if (m&&e==0)=true then 6 else e):=by
    unfold wN;cases (m&&e==0)<;>simp [hv,h64]
   rw [r]
   simp only [go_sem,d1]
   refine ga [] (k:=1000) (j:=2000) (kX m l e 6) (by decide) (by decide) (by decide) (by decide) rfl (by simp [go_sem]) (by rfl) (by rfl) (by rfl) ?_
   simp only [go_sem,wo,wa]
   exact ea [] _ [(1000,wo 2000 m l (if (m&&e==0)=true then 6 else e)),(2000,wa l)] (by simp only [go_sem]) (by simp only [go_sem,wo,wa]) rfl ⟨rfl,rfl⟩
  ·have d1:decide ((x.length:Int)>64)=false:=aG (by omega)
   have r1:wU (m&&e==0) l e x.length=(wB (m&&e==0) l (aA x.length),e):=by
    unfold wU wB
    have h1:¬((x.length:Int)<0∨(x.length:Int)>4294967295):=by omega
    cases (m&&e==0)<;>simp only [bF,aD h1,gK,dc,ib]
   have r:wN (m&&e==0) l e x=(wB (m&&e==0) (wB (m&&e==0) l (aA x.length)) x,e):=by
    unfold wN wB;cases (m&&e==0)<;>simp [hv,h64]
   have hp:=iI (n:=x.length) (by omega)
   have hl2:=qs (ok:=(m&&e==0)) (l:=l) (x:=aA x.length)
   rw [r]
   simp only [go_sem,d1]
   have c1:=xn m l e x.length (by omega)
   rw [r1] at c1
   refine ga [] (k:=1000) (j:=2000) c1 (by decide) (by decide) (by decide) (by decide) rfl (by simp [go_sem]) (by rfl) (by rfl) (by rfl) ?_
   simp only [go_sem,wo,wa]
   refine ⟨by omega,?_⟩
   refine ga [10] (k:=1000) (j:=2000) (mN m (wB (m&&e==0) l (aA x.length)) x e ⟨by omega,by omega⟩) (by decide) (by decide) (by decide) (by decide) rfl (by simp [go_sem]) ?_ (by simp only [go_sem,wo]) (by simp only [go_sem,wa]) ?_
   ·simp only [go_sem,bj,cY]
    rw [dS (by simp)]
    rfl
   ·simp only [go_sem,wo,wa]
    exact ea [] _ [(1000,wo 2000 m (wB (m&&e==0) (wB (m&&e==0) l (aA x.length)) x) e),(2000,wa (wB (m&&e==0) (wB (m&&e==0) l (aA x.length)) x))] (by simp only [go_sem]) (by simp only [go_sem,wo,wa]) rfl ⟨rfl,rfl⟩
def wD (m:Bool) (l:List UInt8) (e:Int):Option (List UInt8)×Int:=if m=true then (if e=0 then (some l,0) else (none,e)) else (none,2)
theorem iK (m:Bool) (l:List UInt8) (e:Int) (hl:l.length<60000000000):WM YO [] m l e (.tup [FW (wD m l e).1,.int .i64 (wD m l e).2]) l e:=by
 refine aT (ic:=Ck.body) aq WX rfl rfl ?_
 cases m
 ·simp only [Ck,wo,wa,go_sem,wD,gK]
  exact done [] _ [(1000,wo 2000 false l e),(2000,wa l)] (by simp only [go_sem]) (by simp only [go_sem,wo,wa]) rfl ⟨rfl,rfl⟩
 ·by_cases he:e=0
  ·subst he
   have d:((0:Int) != 0)=false:=rfl
   have hr:=vE 1 l.length 5 dJ l rfl
   simp only [Ck,wo,wa,go_sem,wD,d,hr]
   refine ⟨by omega,done [28] _ [(1000,wo 2000 true l 0),(2000,wa l)] ?_ (by simp only [go_sem,wo,wa]) rfl ⟨rfl,rfl⟩⟩
   simp only [go_sem,bj,cY]
   rw [dS (by simp)]
  ·have d:(e != 0)=true:=by simp [he]
   have r:wD true l e=(none,e):=by simp [wD,he]
   rw [r]
   simp only [Ck,wo,wa,go_sem,d]
   exact done [] _ [(1000,wo 2000 true l e),(2000,wa l)] (by simp only [go_sem]) (by simp only [go_sem,wo,wa]) rfl ⟨rfl,rfl⟩
theorem P_:br Tryz.prog Ls [] [] sb (fun r' σ'=>r' = .mp 2 3 0 0∧σ'=[(2,wo 2000 true [] 0),(2000,wa [])]):=by
 refine aT (ic:=B_.body) aq SD rfl rfl ?_
 simp only [B_,go_sem]
 refine L0 ((Wk.new0 _ 2000 1 5 (by decide)).trans (Wk.nlm _ 2 (t:=175) (st:=3) (r:=[.bool true,.nl,.int .i64 0]) (r':=[.bool true,.ms 2000 1 0 0,.int .i64 0]) ?_ ?_)) [] (.mp 2 3 0 0) [(2,wo 2000 true [] 0),(2000,wa [])] ?_ ?_ rfl ⟨rfl,rfl⟩
 ·simp only [go_sem]
 ·exact ⟨.inl rfl,.inr ⟨rfl,.inr ⟨2000,1,rfl⟩⟩,.inl rfl,trivial⟩
 ·simp only [go_sem]
 ·simp only [go_sem,wo,wa,ay]
theorem VB (b:List UInt8) (at_:Nat) (h:at_<b.length) (h9:at_≤9):ae Tryz.prog UT [.sl 1 (b.map dJ),.int .i64 at_] (.int .u64 ((iW (b.take (at_+1)) % 18446744073709551616:Nat):Int)):=by
 refine ab (ic:=Cj.body) aq ST rfl rfl ?_
 simp only [Cj,go_sem]
 refine an (fun i:Nat=>⟨[(9,.int .i64 i),(8,.int .i64 (at_+1)),(5,.int .u64 ((iW (b.take i) % 18446744073709551616:Nat):Int)),(0,.sl 1 (b.map dJ))],[]⟩) (fun i=>i≤at_+1) (fun i=>at_+1 - i) 0 (cE _) (Wk.of ?_ ?_) ?_
 ·simp [go_sem,wi (n:=(at_:Int)+1) (by omega) (by omega),iW]
 ·simp [go_sem]
 rintro i hi
 replace hi:i≤at_+1:=hi
 rcases dT i (at_+1) with hlt | hge
 ·have hd1:decide ((i:Int)<(at_:Int)+1)=true:=by simp;omega
  have hx:(ah b i).toNat<256:=(ah b i).toNat_lt
  have hv:=jO (b:=b) (i:=i) (by omega)
  have hp:2 ^ (7 * i)≤2 ^ 63:=Nat.pow_le_pow_right (by decide) (by omega)
  have e1:IntKind.u64.wrap (((ah b i).toNat % 128:Nat):Int)=(((ah b i).toNat % 128:Nat):Int):=by rw [sn];omega
  have e2:IntKind.i64.wrap (7 * (i:Int))=((7 * i:Nat):Int):=by rw [wi (by omega) (by omega)];omega
  have e3:¬((7 * i:Nat):Int)<0:=by omega
  have e5:=VD (y:=(ah b i).toNat % 128) (s:=7 * i) (by omega)
  have e6:iW (b.take i) % 18446744073709551616=iW (b.take i):=Nat.mod_eq_of_lt (by omega)
  have e7:=Fe (n:=iW (b.take i)) (y:=(ah b i).toNat % 128) (s:=7 * i) (by omega) hv
  simp only [go_sem,hd1,e2,e3]
  refine ⟨by omega,by omega,aC (i+1) (show i+1≤at_+1 by omega) (show at_+1 - (i+1)<at_+1 - i by omega) (Wk.of ?_ ?_)⟩
  ·have e8:=wi (n:=(i:Int)+1) (by omega) (by omega)
   have e9:=sm (show i<b.length by omega)
   simp only [go_sem,Nr hx,e1,e5,e6,e7,e8,e9]
   rfl
  ·simp [go_sem]
 ·have hd1:decide ((i:Int)<(at_:Int)+1)=false:=by simp;omega
  have:i=at_+1:=by omega
  subst this
  simp only [go_sem,hd1]
  exact au [] (by simp [go_sem]) rfl
def jd (b:List UInt8) (bits:Nat):AV:=if lM b bits=0 then .tup [.int .i64 (dk b bits),.int .i64 (wh bits (dk b bits)),.int .i64 0] else .tup [.int .i64 0,.int .i64 0,.int .i64 (lM b bits)]
theorem P5 (b:List UInt8) (bits:Nat) (h:1≤bits∧bits≤64):ae Tryz.prog UO [.sl 1 (b.map dJ),.int .i64 bits] (jd b bits):=by
 have hm:mst bits≤10∧1≤mst bits∧7 * mst bits≤bits+6:=by unfold mst;omega
 refine ab (ic:=Cg.body) aq SO rfl rfl ?_
 have d1:decide ((bits:Int)<1)=false:=by simp;omega
 have d2:decide ((bits:Int)>64)=false:=by simp;omega
 have e1:IntKind.i64.wrap ((bits:Int)+6)=((bits+6:Nat):Int):=by rw [wi (by omega) (by omega)];omega
 have e2:(((bits+6:Nat):Int)).tdiv 7=(mst bits:Int):=by rw [show (7:Int)=((7:Nat):Int) from rfl,← Int.ofNat_tdiv];rfl
 have e3:IntKind.i64.wrap (mst bits:Int)=(mst bits:Int):=wi (by omega) (by omega)
 simp only [Cg,go_sem,d1,d2,e1,e2,e3]
 refine ⟨by omega,?_⟩
 refine an (fun i:Nat=>⟨[(19,.int .i64 i),(18,.int .i64 (mst bits)),(7,.int .i64 (mst bits)),(0,.sl 1 (b.map dJ)),(1,.int .i64 bits)],[]⟩) (fun i=>i≤mst bits∧i≤b.length∧ub b (mst bits) 0=ub b (mst bits - i) i) (fun i=>mst bits - i) 0 ⟨cE _,cE _,rfl⟩ (Wk.of ?_ ?_) ?_
 ·simp only [go_sem,e1,e2,e3]
  simp
 ·simp [go_sem]
 rintro i ⟨hi,hib,hl⟩
 replace hi:i≤mst bits:=hi
 replace hib:i≤b.length:=hib
 replace hl:ub b (mst bits) 0=ub b (mst bits - i) i:=hl
 rcases dT i (mst bits) with hlt | hge
 ·have hd1:decide ((i:Int)<(mst bits:Int))=true:=by simp;omega
  rw [show mst bits - i=(mst bits - (i+1))+1 by omega,ub] at hl
  by_cases hb:i≥b.length
  ·have hd2:decide ((i:Int)≥(b.length:Int))=true:=by simp;omega
   rw [aK hb] at hl
   have r1:jd b bits = .tup [.int .i64 0,.int .i64 0,.int .i64 3]:=by simp [jd,lM,hl]
   simp only [go_sem,hd1,hd2]
   rw [r1]
   exact au [] (by simp [go_sem]) rfl
  ·have hd2:decide ((i:Int)≥(b.length:Int))=false:=by simp;omega
   rw [aD hb] at hl
   by_cases hc:128≤(ah b i).toNat
   ·have hd3:decide (((ah b i).toNat:Int)≥128)=true:=by simp;omega
    rw [aK hc] at hl
    simp only [go_sem,hd1,hd2,hd3]
    refine ⟨by omega,by omega,aC (i+1) ⟨by omega,by omega,hl⟩ (show mst bits - (i+1)<mst bits - i by omega) (Wk.of ?_ ?_)⟩
    ·have e8:=wi (n:=(i:Int)+1) (by omega) (by omega)
     simp [go_sem,e8]
    ·simp [go_sem]
   ·have hd3:decide (((ah b i).toNat:Int)≥128)=false:=by simp;omega
    rw [aD hc] at hl
    have w1:IntKind.i64.wrap ((mst bits:Int) - 1)=(mst bits:Int) - 1:=wi (by omega) (by omega)
    by_cases hq:i+1=mst bits
    ·have hd4:((i:Int)==(mst bits:Int) - 1)=true:=by simp;omega
     have r1:jd b bits = .tup [.int .i64 i,.int .i64 ((bits:Int) - 7 * i),.int .i64 0]:=by
      have:((bits - 7 * i:Nat):Int)=(bits:Int) - 7 * i:=by omega
      simp [jd,lM,dk,hl,wh,hq,this]
     have w2:IntKind.i64.wrap (7 * (i:Int))=7 * (i:Int):=wi (by omega) (by omega)
     have w3:IntKind.i64.wrap ((bits:Int) - 7 * (i:Int))=(bits:Int) - 7 * (i:Int):=wi (by omega) (by omega)
     simp only [go_sem,hd1,hd2,hd3,w1,hd4]
     rw [r1]
     exact ⟨by omega,by omega,au [] (by simp [go_sem,w2,w3]) rfl⟩
    ·have hd4:((i:Int)==(mst bits:Int) - 1)=false:=by simp;omega
     have r1:jd b bits = .tup [.int .i64 i,.int .i64 7,.int .i64 0]:=by simp [jd,lM,dk,hl,wh,hq]
     simp only [go_sem,hd1,hd2,hd3,w1,hd4]
     rw [r1]
     exact ⟨by omega,by omega,au [] (by simp [go_sem]) rfl⟩
 ·have hd1:decide ((i:Int)<(mst bits:Int))=false:=by simp;omega
  rw [show mst bits - i=0 by omega,ub] at hl
  have r1:jd b bits = .tup [.int .i64 0,.int .i64 0,.int .i64 4]:=by simp [jd,lM,hl]
  simp only [go_sem,hd1]
  rw [r1]
  exact au [] (by simp [go_sem]) rfl
def uR (x:Nat×Nat×Int):AV:=.tup [.int .u64 x.1,.int .i64 x.2.1,.int .i64 x.2.2]
theorem s_U (b:List UInt8) (bits:Nat) (h:1≤bits∧bits≤64):ae Tryz.prog Jq [.sl 1 (b.map dJ),.int .i64 bits] (uR (e_ b bits)):=by
 refine ab (ic:=sw.body) aq HY rfl rfl ?_
 simp only [sw,go_sem]
 refine aa (P5 b bits h) ?_
 rcases nq b bits with ⟨h1,h2,h3,h4⟩ | ⟨h1,h2⟩
 ·have hc:=NG h h3
  have hm:=OY h
  have e1:jd b bits = .tup [.int .i64 (dk b bits),.int .i64 (wh bits (dk b bits)),.int .i64 0]:=by rw [jd,aK h1]
  have e2:=y_ .u8 (x:=(ah b (dk b bits)).toNat) (s:=wh bits (dk b bits)) (by show _≤8;omega)
  have e3:¬((wh bits (dk b bits):Nat):Int)<0:=by omega
  by_cases hq:(ah b (dk b bits)).toNat / 2 ^ wh bits (dk b bits)=0
  ·have d1:((((ah b (dk b bits)).toNat / 2 ^ wh bits (dk b bits):Nat):Int) != 0)=false:=by rw [hq];rfl
   have r:e_ b bits=(iW (b.take (dk b bits+1)) % 18446744073709551616,dk b bits+1,0):=by simp [e_,h1,hq]
   simp only [go_sem,e1,bne_self_eq_false,e2,e3,d1]
   refine ⟨by omega,by omega,ck (VB b (dk b bits) h2 (by omega)) (by simp [go_sem]) ?_⟩
   have e8:=wi (n:=(dk b bits:Int)+1) (by omega) (by omega)
   simp only [go_sem]
   rw [r]
   exact au [] (by simp [go_sem,e8,uR]) rfl
  ·have d1:((((ah b (dk b bits)).toNat / 2 ^ wh bits (dk b bits):Nat):Int) != 0)=true:=by
    have:(((ah b (dk b bits)).toNat / 2 ^ wh bits (dk b bits):Nat):Int)≠0:=by omega
    simp only [bne,mT.2 this];rfl
   have r:e_ b bits=(0,0,4):=by rw [e_,aD (by simp [h1]),aK hq]
   simp only [go_sem,e1,bne_self_eq_false,e2,e3,d1]
   rw [r]
   exact ⟨by omega,by omega,au [] (by simp [go_sem,uR]) rfl⟩
 ·have hne:lM b bits≠0:=by rcases h1 with h1 | h1<;>rw [h1]<;>decide
  have e1:jd b bits = .tup [.int .i64 0,.int .i64 0,.int .i64 (lM b bits)]:=by rw [jd,aD hne]
  have d1:(lM b bits != 0)=true:=by simp [hne]
  have r:e_ b bits=(0,0,lM b bits):=by rw [e_,aK hne]
  simp only [go_sem,e1,d1]
  rw [r]
  exact au [] (by simp [go_sem,uR]) rfl
theorem yY (n:Nat) (hn:n<18446744073709551616):ae Tryz.prog Ue [.nl,.int .u64 n] (.sl 1 ((aA n).map dJ)):=by
 refine ab (ic:=BP.body) aq Sa rfl rfl ?_
 have a0:l8 6 5 1 0 0 [] (some ⟨5,1,[],false⟩)=some (.ms 6 1 0 0,.reb 6 ⟨5,1,[],false⟩):=rfl
 simp only [BP,go_sem,a0]
 refine an (fun q:List UInt8×Nat=>⟨[(5,.ms 6 1 0 q.1.length),(1,.int .u64 q.2)],[(6,⟨5,1,q.1.map dJ,false⟩)]⟩) (fun q=>q.1++aA q.2=aA n∧q.2≤n) (fun q=>q.2) ([],n) ⟨rfl,bj _⟩ (Wk.of ?_ ?_) ?_
 ·simp [go_sem]
 ·simp [go_sem]
 rintro ⟨acc,m⟩ ⟨hq,hm⟩
 replace hq:acc++aA m=aA n:=hq
 replace hm:m≤n:=hm
 have hlen:acc.length+(aA m).length≤10:=by
  have:=gV (k:=9) (n:=n) (by omega)
  rw [← hq] at this
  simpa using this
 have w1:IntKind.u8.wrap (m:Int)=((m % 256:Nat):Int):=by rw [qt];omega
 have happ:=fun ys=>bu 6 5 1 acc.length dJ acc ys rfl
 by_cases h1:m<128
 ·have d1:decide ((m:Int)≥128)=false:=aG (by omega)
  simp only [go_sem,d1,w1,happ]
  refine ⟨by omega,au [6] ?_ rfl⟩
  have e1:m % 256=m:=by omega
  simp only [go_sem,w1,← hq,kS h1,List.map_append,o9 (show m<256 by omega),e1]
  simp
  exact dS (by simp)
 ·have d1:decide ((m:Int)≥128)=true:=aF (by omega)
  have t1:(m:Int).tmod 128=((m % 128:Nat):Int):=(Int.ofNat_tmod m 128).symm
  have t2:IntKind.u8.wrap ((m % 128:Nat):Int)=((m % 128:Nat):Int):=by rw [qt];omega
  have t3:IntKind.u8.wrap (((m % 128:Nat):Int)+128)=((m % 128+128:Nat):Int):=by rw [qt];omega
  have t4:(m:Int).tdiv 128=((m / 128:Nat):Int):=(Int.ofNat_tdiv m 128).symm
  have t5:IntKind.u64.wrap ((m / 128:Nat):Int)=((m / 128:Nat):Int):=by rw [sn];omega
  simp only [go_sem,d1,t1,t2,t3,happ]
  refine ⟨by omega,by omega,by omega,aC (acc++[UInt8.ofNat (m % 128+128)],m / 128) ⟨by rw [dB,← hq,oK h1];rfl,by show m / 128≤n;omega⟩ (show m / 128<m by omega) (Wk.of ?_ ?_)⟩
  ·simp only [go_sem,t4,t5,aJ,jP]
  ·simp only [go_sem,List.map_append,o9 (show m % 128+128<256 by omega)]
theorem kV (n:Int) (hn:-9223372036854775808≤n∧n<9223372036854775808):ae Tryz.prog Ud [.nl,.int .i64 n] (.sl 1 ((fq n).map dJ)):=by
 refine ab (ic:=BO.body) aq R_ rfl rfl ?_
 have a0:l8 6 5 1 0 0 [] (some ⟨5,1,[],false⟩)=some (.ms 6 1 0 0,.reb 6 ⟨5,1,[],false⟩):=rfl
 simp only [BO,go_sem,a0]
 refine an (fun q:List UInt8×Int=>⟨[(5,.ms 6 1 0 q.1.length),(1,.int .i64 q.2)],[(6,⟨5,1,q.1.map dJ,false⟩)]⟩) (fun q=>q.1++fq q.2=fq n∧-9223372036854775808≤q.2∧q.2<9223372036854775808) (fun q=>q.2.natAbs) ([],n) ⟨rfl,hn⟩ (Wk.of ?_ ?_) ?_
 ·simp [go_sem]
 ·simp [go_sem]
 rintro ⟨acc,m⟩ ⟨hq,hm⟩
 replace hq:acc++fq m=fq n:=hq
 replace hm:-9223372036854775808≤m∧m<9223372036854775808:=hm
 have hlen:acc.length+(fq m).length≤10:=by
  have:=p7 (k:=9) (n:=n) (by omega) (by omega)
  rw [← hq] at this
  simpa using this
 have happ:=fun ys=>bu 6 5 1 acc.length dJ acc ys rfl
 have w0:=HK m
 have w1:IntKind.u8.wrap (m % 128)=(((m % 128).toNat:Nat):Int):=by rw [qt];omega
 by_cases h1:-64≤m∧m≤63
 ·have d1:decide (m < -64)=false:=aG (by omega)
  have d2:decide (m>63)=false:=aG (by omega)
  simp only [go_sem,d1,d2,w0,w1,happ]
  refine ⟨by omega,au [6] ?_ rfl⟩
  simp only [go_sem,← hq,tD h1,List.map_append,o9 (show (m % 128).toNat<256 by omega),jP]
  simp
  exact dS (by simp)
 ·have w2:IntKind.u8.wrap ((((m % 128).toNat:Nat):Int)+128)=(((m % 128).toNat+128:Nat):Int):=by rw [qt];omega
  have w3:=IG m
  have fin:∀s:St,TF s.env [(5,.ms 6 1 0 (acc.length+1)),(1,.int .i64 (m / 128))]→GO s.heap [(6,⟨5,1,acc.map dJ++[[.int .u8 (((m % 128).toNat+128:Nat):Int)]],false⟩)] →
    ∀K,Ll (fun q:List UInt8×Int=>⟨[(5,.ms 6 1 0 q.1.length),(1,.int .i64 q.2)],[(6,⟨5,1,q.1.map dJ,false⟩)]⟩) (fun q=>q.1++fq q.2=fq n∧-9223372036854775808≤q.2∧q.2<9223372036854775808) (fun q=>q.2.natAbs) (acc,m) K .nrm s:=fun s hs1 hs2 K=>by
   refine aC (acc++[UInt8.ofNat ((m % 128).toNat+128)],m / 128) ⟨by rw [dB,← hq,yN h1];rfl,by show _≤m / 128;omega,by show m / 128<_;omega⟩ (show (m / 128).natAbs<m.natAbs by omega) (Wk.of ?_ ?_)
   ·simpa only [aJ,jP] using hs1
   ·simpa only [List.map_append,eW,List.map_nil,o9 (show (m % 128).toNat+128<256 by omega)] using hs2
  by_cases h2:m < -64
  ·have d1:decide (m < -64)=true:=aF (by omega)
   simp only [go_sem,d1,w0,w1,w2,happ]
   refine ⟨by omega,by decide,fin _ ?_ ?_ _⟩
   ·simp only [go_sem,w3]
   ·simp only [go_sem]
  ·have d1:decide (m < -64)=false:=aG (by omega)
   have d2:decide (m>63)=true:=aF (by omega)
   simp only [go_sem,d1,d2,w0,w1,w2,happ]
   refine ⟨by omega,by decide,fin _ ?_ ?_ _⟩
   ·simp only [go_sem,w3]
   ·simp only [go_sem]
end Go.Proofs.YtjndcljjbpeljaaGreatDoor