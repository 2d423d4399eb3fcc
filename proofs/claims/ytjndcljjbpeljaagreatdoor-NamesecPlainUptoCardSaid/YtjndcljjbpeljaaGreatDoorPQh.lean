import Derived.Test.YtjndcljjbpeljaaGreatDoorPQg
set_option linter.all false
set_option maxRecDepth 100000
set_option maxHeartbeats 40000000
namespace Go.Proofs.YtjndcljjbpeljaaGreatDoor
open Go Go.Mw
def Oe (s:List UInt8):Prop:=uv s=true∧s.length≤64
def Wb (i:Int):Prop:=0≤i∧i<4294967296
def Ti (n:Nm):Prop:=Wb n.i∧Oe n.s
def Th (l:List Nm):Prop:=l.length≤72∧∀n∈l,Ti n
def z8 (x:Lc):Prop:=Wb x.f∧Th x.l
def z_ (n:Ns):Prop:=Oe n.m∧(n.fs.length≤64∧Th n.fs)∧n.ls.length≤64∧∀x∈n.ls,z8 x
theorem Gh {s:List UInt8} (h:A6 s=0):Oe s:=by
 unfold A6 at h
 split at h
 ·cases h
 ·split at h
  ·cases h
  ·exact ⟨by simp_all,by omega⟩
theorem Gf:∀{l:List Nm},KH l=0→∀n∈l,Oe n.s
 | [],_,n,hn=>by cases hn
 | y :: r,h,n,hn=>by
  unfold KH at h
  split at h
  ·rename_i hne;exact absurd h hne
  ·rename_i hz
   simp only [ne_eq,Decidable.not_not] at hz
   rcases eH.1 hn with rfl | hn
   ·exact Gh hz
   ·exact Gf h n hn
theorem Gg {l:List Nm} {m:Int} (h:ud l m=0):(l.length:Int)≤m∧∀n∈l,Oe n.s:=by
 unfold ud at h
 split at h
 ·cases h
 ·exact ⟨by omega,Gf h⟩
theorem ED:∀{l:List Lc},EC l=0→∀x∈l,ud x.l 72=0
 | [],_,x,hx=>by cases hx
 | y :: r,h,x,hx=>by
  unfold EC at h
  split at h
  ·rename_i hne;exact absurd h hne
  ·rename_i hz
   simp only [ne_eq,Decidable.not_not] at hz
   rcases eH.1 hx with rfl | hx
   ·exact hz
   ·exact ED h x hx
theorem xE {l:List Int} (h:A8 l=true):∀i∈l,Wb i:=by
 intro i hi
 have:=ee.1 h i hi
 simp only [iz,bY,cP] at this
 exact this
theorem Nz {n:Ns} (h:tZ n=0):z_ n∧(f7 n).all Bg=true:=by
 unfold tZ at h
 split at h
 ·rename_i hne;exact absurd h hne
 rename_i hA
 simp only [ne_eq,Decidable.not_not] at hA
 split at h
 ·cases h
 rename_i hw
 split at h
 ·cases h
 rename_i hr
 unfold sG at hA
 split at hA
 ·rename_i hne;exact absurd hA hne
 rename_i h0
 split at hA
 ·rename_i hne;exact absurd hA hne
 rename_i h1
 split at hA
 ·cases hA
 rename_i h2
 simp only [ne_eq,Decidable.not_not] at h0 h1
 have hw':(f7 n).all A8=true:=by simpa using hw
 have hr':(f7 n).all Bg=true:=by simpa using hr
 obtain ⟨q1,q2⟩:=Gg h1
 have hin:∀r∈f7 n,A8 r=true:=ee.1 hw'
 refine ⟨⟨Gh h0,⟨by omega,by omega,fun x hx=>⟨xE (hin (oC n.fs) (by simp [f7])) _ (List.mem_map.2 ⟨x,hx,rfl⟩),q2 x hx⟩⟩,by omega,fun x hx=>⟨xE (hin (uP n.ls) (by simp [f7])) _ (List.mem_map.2 ⟨x,hx,rfl⟩),?_⟩⟩,hr'⟩
 obtain ⟨p1,p2⟩:=Gg (ED hA x hx)
 exact ⟨by omega,fun y hy=>⟨xE (hin (oC x.l) (by simp only [f7,eH,List.mem_map];exact .inr (.inr ⟨x,hx,rfl⟩))) _ (List.mem_map.2 ⟨y,hy,rfl⟩),p2 y hy⟩⟩
theorem pU {n:Nat} (h:n<4294967296):(aA n).length≤5:=gV (k:=4) (by omega)
theorem eM {s:List UInt8} (h:Oe s):(bN s).length≤69:=by
 have:=pU (n:=s.length) (by have:=h.2;omega)
 have:=h.2
 unfold bN
 rw [aJ]
 omega
theorem zV {n:Nm} (h:Ti n):(rI n).length≤74:=by
 have:=pU (n:=n.i.toNat) (by have:=h.1.2;omega)
 have:=eM h.2
 unfold rI
 rw [aJ]
 omega
theorem uI:∀(a b:List Nm),eC (a++b)=eC a++eC b
 | [],b=>rfl
 | n :: r,b=>by simp only [kM,eC,uI r b,dB]
theorem pj:∀{l:List Nm},(∀n∈l,Ti n)→(eC l).length≤74 * l.length
 | [],_=>bj _
 | n :: r,h=>by
  have h1:=zV (h n (by simp))
  have h2:=pj (l:=r) fun x hx=>h x (by simp [hx])
  simp only [eC,aJ,aQ]
  omega
theorem Ij {l:List Nm} {i:Nat} (h:i<l.length):eC (l.take (i+1))=eC (l.take i)++rI (ah l i):=by
 rw [lU h,uI]
 simp [eC]
theorem rH {l:List Nm} (h:Th l) (i:Nat):(eC (l.take i)).length≤5328:=by
 have:=pj (l:=l.take i) fun x hx=>h.2 x (List.mem_of_mem_take hx)
 have:=h.1
 rw [lh] at *
 omega
theorem eJ {l:List Nm} (h:Th l):(bh l).length≤5333:=by
 have:=pU (n:=l.length) (by have:=h.1;omega)
 have:=rH h l.length
 rw [dj] at this
 unfold bh
 rw [aJ]
 omega
theorem uG:∀(a b:List Lc),iu (a++b)=iu a++iu b
 | [],b=>rfl
 | n :: r,b=>by simp only [kM,iu,uG r b,dB]
theorem uH:∀{l:List Lc},(∀n∈l,z8 n)→(iu l).length≤5338 * l.length
 | [],_=>bj _
 | x :: r,h=>by
  have h1:=eJ (h x (by simp)).2
  have h0:=pU (n:=x.f.toNat) (by have:=(h x (by simp)).1.2;omega)
  have h2:=uH (l:=r) fun y hy=>h y (by simp [hy])
  simp only [iu,aJ,aQ]
  omega
theorem Ii {l:List Lc} {i:Nat} (h:i<l.length):iu (l.take (i+1))=iu (l.take i)++(aA (ah l i).f.toNat++bh (ah l i).l):=by
 rw [lU h,uG]
 simp [iu]
theorem rE {l:List Lc} (hl:l.length≤64) (h:∀n∈l,z8 n) (i:Nat):(iu (l.take i)).length≤341632:=by
 have:=uH (l:=l.take i) fun x hx=>h x (List.mem_of_mem_take hx)
 rw [lh] at *
 omega
theorem ej {l:List Lc} (hl:l.length≤64) (h:∀n∈l,z8 n):(bQ l).length≤341637:=by
 have:=pU (n:=l.length) (by omega)
 have:=rE hl h l.length
 rw [dj] at this
 unfold bQ
 rw [aJ]
 omega
theorem bO {b:UInt8} {x:List UInt8} (h:x.length<4294967296):(bV b x).length≤x.length+6:=by
 have:=pU h
 unfold bV
 simp only [aQ,aJ]
 omega
theorem dY {n:Ns} (h:z_ n):(df n).length≤400000:=by
 obtain ⟨h1,⟨h2,h3⟩,h4,h5⟩:=h
 have a1:=eM h1
 have a2:=eJ h3
 have a3:=ej h4 h5
 have b1:=bO (b:=0) (x:=bN n.m) (by omega)
 have b2:=bO (b:=1) (x:=bh n.fs) (by omega)
 have b3:=bO (b:=2) (x:=bQ n.ls) (by omega)
 unfold df
 simp only [aJ]
 repeat' split
 all_goals (try simp only [ay]);omega
theorem Od {l:List Nm} (h:∀n∈l,Ti n) {i:Nat} (hi:i<l.length):Ti (ah l i):=by
 rw [bD hi];exact h _ (List.getElem_mem hi)
theorem Iz {l:List Lc} (h:∀n∈l,z8 n) {i:Nat} (hi:i<l.length):z8 (ah l i):=by
 rw [bD hi];exact h _ (List.getElem_mem hi)
theorem yf {i:Int} (h:Wb i):∃k:Nat,i=(k:Int)∧k<4294967296:=by
 obtain ⟨k,rfl⟩:=xG h.1
 exact ⟨k,rfl,by have:=h.2;omega⟩
section
def nr (n:Ns):ao:=⟨37,3,[iU n],true⟩
def wv:ao:=⟨88,1,[[.mp 1000 3 0 0]],true⟩
theorem Wg {l:List UInt8} (n:Nat) (hn:n<4294967296) (hl:l.length<60000000000):WM UV [.int .i64 (n:Int)] true l 0 (.tup []) (l++aA n) 0:=by
 have h:=xn true l 0 (n:Int) hl
 rw [show wU (true&&(0:Int)==0) l 0 (n:Int)=(l++aA n,0) by
  unfold wU
  rw [aK (show (true&&(0:Int)==0)=true from rfl),aD (by omega)]
  rfl] at h
 exact h
theorem v_t {l s:List UInt8} (h:Oe s) (hl:l.length<10000000):WM UU [.str s] true l 0 (.tup []) (l++bN s) 0:=by
 have hw:=Ku true l s 0 ⟨by omega,by have:=h.2;omega⟩
 rw [show wN (true&&(0:Int)==0) l 0 s=(l++bN s,0) by
  unfold wN bN
  rw [aK (show (true&&(0:Int)==0)=true from rfl),aD (by rw [h.1];decide),aD (by have:=h.2;omega),dB]] at hw
 exact hw
attribute [local go_sem] cY wo wa nr iU wv
theorem LZ {b:List UInt8} (l:List Nm) (h:Th l) (hb:b.length<9000000):WM UD [.sl 2 (l.map nw)] true b 0 (.tup []) (b++bh l) 0:=by
 refine aT (ic:=B9.body) aq SC rfl rfl ?_
 obtain ⟨hl,hg⟩:=h
 simp only [go_sem,B9]
 refine cG [] (k:=1000) (j:=2000) (Wg (l:=b) l.length (by omega) (by omega)) ?_
 simp only [go_sem]
 have hu:=pU (n:=l.length) (by omega)
 refine an (fun i:Nat=>⟨[(12,.int .i64 i),(11,.int .i64 l.length),(10,.sl 2 (l.map nw)),(0,.mp 1000 3 0 0)],[(1000,wo 2000 true (b++aA l.length++eC (l.take i)) 0),(2000,wa (b++aA l.length++eC (l.take i)))]⟩) (fun i=>i≤l.length) (fun i=>l.length - i) 0 (cE _) (Wk.of ?_ ?_) ?_
 ·simp only [go_sem];try simp
 ·simp only [go_sem,f8,eC,gx]
 intro i hi
 have hlen:(b++aA l.length++eC (l.take i)).length<9500000:=by
  have:=rH ⟨hl,hg⟩ i
  simp only [aJ]
  omega
 by_cases h1:(i:Int)<(l.length:Int)
 ·have hi':i<l.length:=by omega
  have e8:=wi (n:=(i:Int)+1) (by omega) (by omega)
  obtain ⟨g1,g2⟩:=Od hg hi'
  have hs:eC (l.take (i+1))=eC (l.take i)++rI (ah l i):=Ij hi'
  unfold rI at hs
  obtain ⟨k,hk,hk2⟩:=yf g1
  rw [hk,ib] at hs
  have hu2:=pU hk2
  have hw:b++aA l.length++eC (l.take i)++aA k++bN (ah l i).s=b++aA l.length++eC (l.take (i+1)):=by rw [hs];simp only [dB]
  simp only [go_sem,aF h1,hk]
  refine ⟨by omega,h1,?_⟩
  refine cG [] (k:=1000) (j:=2000) (Wg (l:=b++aA l.length++eC (l.take i)) k hk2 (by omega)) ?_
  simp only [go_sem]
  refine cG [] (k:=1000) (j:=2000) (v_t (l:=b++aA l.length++eC (l.take i)++aA k) g2 (by rw [aJ];omega)) ?_
  simp only [go_sem]
  rw [hw]
  refine aC (i+1) (show i+1≤l.length by omega) (show l.length - (i+1)<l.length - i by omega) (Wk.of ?_ ?_)
  ·simp only [go_sem,e8];try simp
  ·simp only [go_sem];try simp [go_sem,wo,wa]
 ·obtain rfl:i=l.length:=by omega
  simp only [go_sem,aG h1]
  rw [dj]
  exact ea [] _ [(1000,wo 2000 true (b++bh l) 0),(2000,wa (b++bh l))] (by simp only [go_sem]) (by simp only [go_sem,bh,dB]) rfl ⟨rfl,rfl⟩
def WC (f:FuncId) (n:Ns) (x:List UInt8):Prop:=br Tryz.prog f [.mp 1000 3 0 0,.mp 1001 3 0 0] [(1000,wo 2000 true [] 0),(2000,wa []),(1001,nr n)] sb (fun r' σ'=>r' = .tup []∧σ'=[(1000,wo 2000 true x 0),(2000,wa x),(1001,nr n)])
theorem KN (n:Ns) (h:z_ n):WC Zf n (bN n.m):=by
 refine aT (ic:=Mu.body) aq Xp rfl rfl ?_
 simp only [go_sem,Mu,nr,iU]
 refine cG [] (k:=1000) (j:=2000) (v_t (l:=[]) h.1 (by decide)) ?_
 simp only [go_sem]
 exact ea [] _ [(1000,wo 2000 true (bN n.m) 0),(2000,wa (bN n.m)),(1001,nr n)] (by simp only [go_sem]) (by simp only [go_sem,nr,iU]) rfl ⟨rfl,rfl⟩
theorem KO (n:Ns) (h:z_ n):WC Zg n (bh n.fs):=by
 refine aT (ic:=Mv.body) aq Xq rfl rfl ?_
 simp only [go_sem,Mv,nr,iU]
 refine cG [] (k:=1000) (j:=2000) (LZ (b:=[]) n.fs h.2.1.2 (by decide)) ?_
 simp only [go_sem]
 exact ea [] _ [(1000,wo 2000 true (bh n.fs) 0),(2000,wa (bh n.fs)),(1001,nr n)] (by simp only [go_sem]) (by simp only [go_sem,nr,iU]) rfl ⟨rfl,rfl⟩
theorem KP (n:Ns) (h:z_ n):WC Zh n (bQ n.ls):=by
 refine aT (ic:=Mx.body) aq Xr rfl rfl ?_
 obtain ⟨_,_,hl,hg⟩:=h
 simp only [go_sem,Mx,nr,iU]
 refine cG [] (k:=1000) (j:=2000) (Wg (l:=[]) n.ls.length (by omega) (by decide)) ?_
 simp only [go_sem]
 have hu:=pU (n:=n.ls.length) (by omega)
 refine an (fun i:Nat=>⟨[(13,.int .i64 i),(12,.int .i64 n.ls.length),(11,.sl 2 (n.ls.map qK)),(0,.mp 1000 3 0 0)],[(1000,wo 2000 true (aA n.ls.length++iu (n.ls.take i)) 0),(2000,wa (aA n.ls.length++iu (n.ls.take i))),(1001,nr n)]⟩) (fun i=>i≤n.ls.length) (fun i=>n.ls.length - i) 0 (cE _) (Wk.of ?_ ?_) ?_
 ·simp only [go_sem];try simp
 ·simp only [go_sem,f8,iu,gx,nr,iU];try simp
 intro i hi
 have hlen:(aA n.ls.length++iu (n.ls.take i)).length<400000:=by
  have:=rE hl hg i
  simp only [aJ]
  omega
 by_cases h1:(i:Int)<(n.ls.length:Int)
 ·have hi':i<n.ls.length:=by omega
  have e8:=wi (n:=(i:Int)+1) (by omega) (by omega)
  obtain ⟨g1,g2⟩:=Iz hg hi'
  have hs:iu (n.ls.take (i+1))=iu (n.ls.take i)++(aA (ah n.ls i).f.toNat++bh (ah n.ls i).l):=Ii hi'
  obtain ⟨k,hk,hk2⟩:=yf g1
  rw [hk,ib] at hs
  have hu2:=pU hk2
  have hw:aA n.ls.length++iu (n.ls.take i)++aA k++bh (ah n.ls i).l=aA n.ls.length++iu (n.ls.take (i+1)):=by rw [hs];simp only [dB]
  simp only [go_sem,aF h1,hk]
  refine ⟨by omega,h1,?_⟩
  refine cG [] (k:=1000) (j:=2000) (Wg (l:=aA n.ls.length++iu (n.ls.take i)) k hk2 (by omega)) ?_
  simp only [go_sem]
  refine cG [] (k:=1000) (j:=2000) (LZ (b:=aA n.ls.length++iu (n.ls.take i)++aA k) (ah n.ls i).l g2 (by rw [aJ];omega)) ?_
  simp only [go_sem]
  rw [hw]
  refine aC (i+1) (show i+1≤n.ls.length by omega) (show n.ls.length - (i+1)<n.ls.length - i by omega) (Wk.of ?_ ?_)
  ·simp only [go_sem,e8];try simp
  ·simp only [go_sem];try simp [go_sem,wo,wa]
 ·obtain rfl:i=n.ls.length:=by omega
  simp only [go_sem,aG h1]
  rw [dj]
  exact ea [] _ [(1000,wo 2000 true (bQ n.ls) 0),(2000,wa (bQ n.ls)),(1001,nr n)] (by simp only [go_sem]) (by simp only [go_sem,bQ]) rfl ⟨rfl,rfl⟩
theorem eP {f:FuncId} (hb:ek Tryz.prog f=true) {n:Ns} {x:List UInt8} (h:WC f n x) (hx:x.length<400000) (id:UInt8) {l:List UInt8} (hl:l.length<1000000) :
  br Tryz.prog Ze [.int .u8 id.toNat,.fn f [.mp 1002 3 0 0],.mp 1001 1 0 0] [(1000,wo 2000 true l 0),(2000,wa l),(1001,wv),(1002,nr n)] sb
   (fun r' σ'=>r' = .tup []∧σ'=[(1000,wo 2000 true (l++bV id x) 0),(2000,wa (l++bV id x)),(1001,wv),(1002,nr n)]):=by
 refine aT (ic:=Ms.body) aq Xo rfl rfl ?_
 have cy:=Kt true l id 0 (by omega)
 rw [show wB (true&&(0:Int)==0) l [id]=l++[id] from rfl] at cy
 have cp:=Kv true (l++[id]) 0 (by simp;omega) true x 0 (by omega)
 rw [show wP (true&&(0:Int)==0) (l++[id]) 0 true x 0=(l++bV id x,0) by simp [wP,wB,bV]] at cp
 simp only [go_sem,Ms,wv]
 refine ei 904 905 (by decide) (by decide) (by decide) (by simp only [go_sem]) (by simp only [go_sem]) ?_
 simp only [go_sem]
 rw [aK (wF (by kernel_rfl) hb)]
 refine ⟨hb,?_⟩
 refine cC (σ2:=[(904,wo 905 true [] 0),(905,wa []),(1002,nr n)]) (r3:=.tup []) (σ3:=[(904,wo 905 true x 0),(905,wa x),(1002,nr n)]) h [(1000,904),(2000,905),(1001,1002)] [905] rfl rfl rfl rfl ?_ ?_ ?_ ?_
 ·simp only [go_sem];simp
 ·simp only [go_sem];simp [sb,bw,jo,ak]
 ·simp only [go_sem];simp [ak]
 simp only [go_sem]
 refine cG [] (k:=1000) (j:=2000) (cy) ?_
 simp only [go_sem]
 refine cC (σ2:=[(1000,wo 2000 true (l++[id]) 0),(2000,wa (l++[id])),(904,wo 905 true x 0),(905,wa x)]) (r3:=.tup []) (σ3:=[(1000,wo 2000 true (l++bV id x) 0),(2000,wa (l++bV id x)),(904,wo 905 true x 0),(905,wa x)]) cp [(1001,904),(2001,905)] [2000,905] rfl rfl rfl rfl ?_ ?_ ?_ ?_
 ·simp only [go_sem];simp
 ·simp only [go_sem];simp [sb,bw,jo,ak]
 ·simp only [go_sem];simp [ak]
 simp only [go_sem]
 exact ea [] _ [(1000,wo 2000 true (l++bV id x) 0),(2000,wa (l++bV id x)),(1001,wv),(1002,nr n)] (by simp only [go_sem]) (by simp only [go_sem,wv,nr,iU]) rfl ⟨rfl,rfl⟩
end
section
def JV (n:Ns):List UInt8:=if n.m=[] then [] else bV 0 (bN n.m)
def JW (n:Ns):List UInt8:=if n.fs=[] then [] else bV 1 (bh n.fs)
def JX (n:Ns):List UInt8:=if n.ls=[] then [] else bV 2 (bQ n.ls)
theorem eX (n:Ns):df n=(JV n++JW n)++JX n:=rfl
attribute [local go_sem] cY wo wa nr iU wv
theorem Gs (n:Ns) (hg:z_ n) (cc:ae Tryz.prog mr [.agg [.str n.m,.sl 2 (n.fs.map nw),.sl 2 (n.ls.map qK)]] (.int .i64 0)) (h1:n.m=[]) (h2:n.fs=[]) (h3:n.ls=[]):ae Tryz.prog tn [qN n] (.tup [.sl 1 ((df n).map dJ),.int .i64 0]):=by
 refine ab (ic:=jx.body) aq sN rfl rfl ?_
 have f10:(!(n.m==[]))=false:=by simp [h1]
 have f20:decide ((n.fs.length:Int)>0)=false:=by simp [h2]
 have f30:decide ((n.ls.length:Int)>0)=false:=by simp [h3]
 have a1:=eM hg.1
 have a2:=bO (b:=0) (x:=bN n.m) (by omega)
 have a3:=eJ hg.2.1.2
 have a4:=bO (b:=1) (x:=bh n.fs) (by omega)
 have a5:=ej hg.2.2.1 hg.2.2.2
 have a6:=bO (b:=2) (x:=bQ n.ls) (by omega)
 have hB:df n=([]:List UInt8):=by rw [eX];simp [JV,JW,JX,h1,h2,h3]
 have hl:(([]:List UInt8)).length≤400000:=by rw [← hB];exact dY hg
 have d4:=iK true (([]:List UInt8)) 0 (by omega)
 rw [show wD true (([]:List UInt8)) 0=(some (([]:List UInt8)),0) from rfl] at d4
 rw [hB]
 simp only [go_sem,jx]
 refine aa (cc) ?_
 simp only [go_sem]
 refine ei 904 905 (by decide) (by decide) (by decide) (by simp only [go_sem]) (by simp only [go_sem]) ?_
 simp only [go_sem,f10,f20,f30]
 refine cG [] (k:=904) (j:=905) (d4) ?_
 simp only [go_sem]
 exact au [] (by simp only [go_sem,dN]) (by first | rfl | simp [go_sem,ac])
theorem Gt (n:Ns) (hg:z_ n) (cc:ae Tryz.prog mr [.agg [.str n.m,.sl 2 (n.fs.map nw),.sl 2 (n.ls.map qK)]] (.int .i64 0)) (h1:n.m=[]) (h2:n.fs=[]) (h3:n.ls≠[]):ae Tryz.prog tn [qN n] (.tup [.sl 1 ((df n).map dJ),.int .i64 0]):=by
 refine ab (ic:=jx.body) aq sN rfl rfl ?_
 have f10:(!(n.m==[]))=false:=by simp [h1]
 have f20:decide ((n.fs.length:Int)>0)=false:=by simp [h2]
 have f31:decide ((n.ls.length:Int)>0)=true:=by have:=List.length_pos_iff.2 h3;simp;omega
 have a1:=eM hg.1
 have a2:=bO (b:=0) (x:=bN n.m) (by omega)
 have a3:=eJ hg.2.1.2
 have a4:=bO (b:=1) (x:=bh n.fs) (by omega)
 have a5:=ej hg.2.2.1 hg.2.2.2
 have a6:=bO (b:=2) (x:=bQ n.ls) (by omega)
 have hB:df n=bV 2 (bQ n.ls):=by rw [eX];simp [JV,JW,JX,h1,h2,h3]
 have hl:(bV 2 (bQ n.ls)).length≤400000:=by rw [← hB];exact dY hg
 have d4:=iK true (bV 2 (bQ n.ls)) 0 (by omega)
 rw [show wD true (bV 2 (bQ n.ls)) 0=(some (bV 2 (bQ n.ls)),0) from rfl] at d4
 rw [hB]
 simp only [go_sem,jx]
 refine aa (cc) ?_
 simp only [go_sem]
 refine ei 904 905 (by decide) (by decide) (by decide) (by simp only [go_sem]) (by simp only [go_sem]) ?_
 simp only [go_sem,f10,f20,f31]
 have c3:=eP (by kernel_rfl) (KP n hg) (by omega) 2 (l:=([]:List UInt8)) (by (try simp only [aJ]);(try simp only [ay]);omega)
 rw [kK] at c3
 refine ⟨by kernel_rfl,?_⟩
 refine cC (σ2:=[(904,wo 905 true (([]:List UInt8)) 0),(905,wa (([]:List UInt8))),(5,⟨88,1,[[.mp 904 3 0 0]],true⟩),(1,nr n)]) (r3:=.tup []) (σ3:=[(904,wo 905 true (bV 2 (bQ n.ls)) 0),(905,wa (bV 2 (bQ n.ls))),(5,⟨88,1,[[.mp 904 3 0 0]],true⟩),(1,nr n)]) c3 [(1000,904),(2000,905),(1001,5),(1002,1)] [905] rfl rfl rfl rfl ?_ ?_ ?_ ?_
 ·simp only [go_sem];simp
 ·simp only [go_sem];simp [sb,bw,jo,ak]
 ·simp only [go_sem];simp [ak]
 simp only [go_sem,f10,f20,f31]
 refine cG [] (k:=904) (j:=905) (d4) ?_
 simp only [go_sem]
 exact au [] (by simp only [go_sem,dN]) (by first | rfl | simp [go_sem,ac])
theorem Gu (n:Ns) (hg:z_ n) (cc:ae Tryz.prog mr [.agg [.str n.m,.sl 2 (n.fs.map nw),.sl 2 (n.ls.map qK)]] (.int .i64 0)) (h1:n.m=[]) (h2:n.fs≠[]) (h3:n.ls=[]):ae Tryz.prog tn [qN n] (.tup [.sl 1 ((df n).map dJ),.int .i64 0]):=by
 refine ab (ic:=jx.body) aq sN rfl rfl ?_
 have f10:(!(n.m==[]))=false:=by simp [h1]
 have f21:decide ((n.fs.length:Int)>0)=true:=by have:=List.length_pos_iff.2 h2;simp;omega
 have f30:decide ((n.ls.length:Int)>0)=false:=by simp [h3]
 have a1:=eM hg.1
 have a2:=bO (b:=0) (x:=bN n.m) (by omega)
 have a3:=eJ hg.2.1.2
 have a4:=bO (b:=1) (x:=bh n.fs) (by omega)
 have a5:=ej hg.2.2.1 hg.2.2.2
 have a6:=bO (b:=2) (x:=bQ n.ls) (by omega)
 have hB:df n=bV 1 (bh n.fs):=by rw [eX];simp [JV,JW,JX,h1,h2,h3]
 have hl:(bV 1 (bh n.fs)).length≤400000:=by rw [← hB];exact dY hg
 have d4:=iK true (bV 1 (bh n.fs)) 0 (by omega)
 rw [show wD true (bV 1 (bh n.fs)) 0=(some (bV 1 (bh n.fs)),0) from rfl] at d4
 rw [hB]
 simp only [go_sem,jx]
 refine aa (cc) ?_
 simp only [go_sem]
 refine ei 904 905 (by decide) (by decide) (by decide) (by simp only [go_sem]) (by simp only [go_sem]) ?_
 simp only [go_sem,f10,f21,f30]
 have c2:=eP (by kernel_rfl) (KO n hg) (by omega) 1 (l:=([]:List UInt8)) (by (try simp only [aJ]);(try simp only [ay]);omega)
 rw [kK] at c2
 refine ⟨by kernel_rfl,?_⟩
 refine cC (σ2:=[(904,wo 905 true (([]:List UInt8)) 0),(905,wa (([]:List UInt8))),(5,⟨88,1,[[.mp 904 3 0 0]],true⟩),(1,nr n)]) (r3:=.tup []) (σ3:=[(904,wo 905 true (bV 1 (bh n.fs)) 0),(905,wa (bV 1 (bh n.fs))),(5,⟨88,1,[[.mp 904 3 0 0]],true⟩),(1,nr n)]) c2 [(1000,904),(2000,905),(1001,5),(1002,1)] [905] rfl rfl rfl rfl ?_ ?_ ?_ ?_
 ·simp only [go_sem];simp
 ·simp only [go_sem];simp [sb,bw,jo,ak]
 ·simp only [go_sem];simp [ak]
 simp only [go_sem,f10,f21,f30]
 refine cG [] (k:=904) (j:=905) (d4) ?_
 simp only [go_sem]
 exact au [] (by simp only [go_sem,dN]) (by first | rfl | simp [go_sem,ac])
theorem Gv (n:Ns) (hg:z_ n) (cc:ae Tryz.prog mr [.agg [.str n.m,.sl 2 (n.fs.map nw),.sl 2 (n.ls.map qK)]] (.int .i64 0)) (h1:n.m=[]) (h2:n.fs≠[]) (h3:n.ls≠[]):ae Tryz.prog tn [qN n] (.tup [.sl 1 ((df n).map dJ),.int .i64 0]):=by
 refine ab (ic:=jx.body) aq sN rfl rfl ?_
 have f10:(!(n.m==[]))=false:=by simp [h1]
 have f21:decide ((n.fs.length:Int)>0)=true:=by have:=List.length_pos_iff.2 h2;simp;omega
 have f31:decide ((n.ls.length:Int)>0)=true:=by have:=List.length_pos_iff.2 h3;simp;omega
 have a1:=eM hg.1
 have a2:=bO (b:=0) (x:=bN n.m) (by omega)
 have a3:=eJ hg.2.1.2
 have a4:=bO (b:=1) (x:=bh n.fs) (by omega)
 have a5:=ej hg.2.2.1 hg.2.2.2
 have a6:=bO (b:=2) (x:=bQ n.ls) (by omega)
 have hB:df n=bV 1 (bh n.fs)++bV 2 (bQ n.ls):=by rw [eX];simp [JV,JW,JX,h1,h2,h3]
 have hl:(bV 1 (bh n.fs)++bV 2 (bQ n.ls)).length≤400000:=by rw [← hB];exact dY hg
 have d4:=iK true (bV 1 (bh n.fs)++bV 2 (bQ n.ls)) 0 (by omega)
 rw [show wD true (bV 1 (bh n.fs)++bV 2 (bQ n.ls)) 0=(some (bV 1 (bh n.fs)++bV 2 (bQ n.ls)),0) from rfl] at d4
 rw [hB]
 simp only [go_sem,jx]
 refine aa (cc) ?_
 simp only [go_sem]
 refine ei 904 905 (by decide) (by decide) (by decide) (by simp only [go_sem]) (by simp only [go_sem]) ?_
 simp only [go_sem,f10,f21,f31]
 have c2:=eP (by kernel_rfl) (KO n hg) (by omega) 1 (l:=([]:List UInt8)) (by (try simp only [aJ]);(try simp only [ay]);omega)
 rw [kK] at c2
 refine ⟨by kernel_rfl,?_⟩
 refine cC (σ2:=[(904,wo 905 true (([]:List UInt8)) 0),(905,wa (([]:List UInt8))),(5,⟨88,1,[[.mp 904 3 0 0]],true⟩),(1,nr n)]) (r3:=.tup []) (σ3:=[(904,wo 905 true (bV 1 (bh n.fs)) 0),(905,wa (bV 1 (bh n.fs))),(5,⟨88,1,[[.mp 904 3 0 0]],true⟩),(1,nr n)]) c2 [(1000,904),(2000,905),(1001,5),(1002,1)] [905] rfl rfl rfl rfl ?_ ?_ ?_ ?_
 ·simp only [go_sem];simp
 ·simp only [go_sem];simp [sb,bw,jo,ak]
 ·simp only [go_sem];simp [ak]
 simp only [go_sem,f10,f21,f31]
 have c3:=eP (by kernel_rfl) (KP n hg) (by omega) 2 (l:=bV 1 (bh n.fs)) (by (try simp only [aJ]);(try simp only [ay]);omega)
 refine ⟨by kernel_rfl,?_⟩
 refine cC (σ2:=[(904,wo 905 true (bV 1 (bh n.fs)) 0),(905,wa (bV 1 (bh n.fs))),(5,⟨88,1,[[.mp 904 3 0 0]],true⟩),(1,nr n)]) (r3:=.tup []) (σ3:=[(904,wo 905 true (bV 1 (bh n.fs)++bV 2 (bQ n.ls)) 0),(905,wa (bV 1 (bh n.fs)++bV 2 (bQ n.ls))),(5,⟨88,1,[[.mp 904 3 0 0]],true⟩),(1,nr n)]) c3 [(1000,904),(2000,905),(1001,5),(1002,1)] [905] rfl rfl rfl rfl ?_ ?_ ?_ ?_
 ·simp only [go_sem];simp
 ·simp only [go_sem];simp [sb,bw,jo,ak]
 ·simp only [go_sem];simp [ak]
 simp only [go_sem,f10,f21,f31]
 refine cG [] (k:=904) (j:=905) (d4) ?_
 simp only [go_sem]
 exact au [] (by simp only [go_sem,dN]) (by first | rfl | simp [go_sem,ac])
theorem Gw (n:Ns) (hg:z_ n) (cc:ae Tryz.prog mr [.agg [.str n.m,.sl 2 (n.fs.map nw),.sl 2 (n.ls.map qK)]] (.int .i64 0)) (h1:n.m≠[]) (h2:n.fs=[]) (h3:n.ls=[]):ae Tryz.prog tn [qN n] (.tup [.sl 1 ((df n).map dJ),.int .i64 0]):=by
 refine ab (ic:=jx.body) aq sN rfl rfl ?_
 have f11:(!(n.m==[]))=true:=by simp [h1]
 have f20:decide ((n.fs.length:Int)>0)=false:=by simp [h2]
 have f30:decide ((n.ls.length:Int)>0)=false:=by simp [h3]
 have a1:=eM hg.1
 have a2:=bO (b:=0) (x:=bN n.m) (by omega)
 have a3:=eJ hg.2.1.2
 have a4:=bO (b:=1) (x:=bh n.fs) (by omega)
 have a5:=ej hg.2.2.1 hg.2.2.2
 have a6:=bO (b:=2) (x:=bQ n.ls) (by omega)
 have hB:df n=bV 0 (bN n.m):=by rw [eX];simp [JV,JW,JX,h1,h2,h3]
 have hl:(bV 0 (bN n.m)).length≤400000:=by rw [← hB];exact dY hg
 have d4:=iK true (bV 0 (bN n.m)) 0 (by omega)
 rw [show wD true (bV 0 (bN n.m)) 0=(some (bV 0 (bN n.m)),0) from rfl] at d4
 rw [hB]
 simp only [go_sem,jx]
 refine aa (cc) ?_
 simp only [go_sem]
 refine ei 904 905 (by decide) (by decide) (by decide) (by simp only [go_sem]) (by simp only [go_sem]) ?_
 simp only [go_sem,f11,f20,f30]
 have c1:=eP (by kernel_rfl) (KN n hg) (by omega) 0 (l:=([]:List UInt8)) (by (try simp only [aJ]);(try simp only [ay]);omega)
 rw [kK] at c1
 refine ⟨by kernel_rfl,?_⟩
 refine cC (σ2:=[(904,wo 905 true (([]:List UInt8)) 0),(905,wa (([]:List UInt8))),(5,⟨88,1,[[.mp 904 3 0 0]],true⟩),(1,nr n)]) (r3:=.tup []) (σ3:=[(904,wo 905 true (bV 0 (bN n.m)) 0),(905,wa (bV 0 (bN n.m))),(5,⟨88,1,[[.mp 904 3 0 0]],true⟩),(1,nr n)]) c1 [(1000,904),(2000,905),(1001,5),(1002,1)] [905] rfl rfl rfl rfl ?_ ?_ ?_ ?_
 ·simp only [go_sem];simp
 ·simp only [go_sem];simp [sb,bw,jo,ak]
 ·simp only [go_sem];simp [ak]
 simp only [go_sem,f11,f20,f30]
 refine cG [] (k:=904) (j:=905) (d4) ?_
 simp only [go_sem]
 exact au [] (by simp only [go_sem,dN]) (by first | rfl | simp [go_sem,ac])
theorem Gx (n:Ns) (hg:z_ n) (cc:ae Tryz.prog mr [.agg [.str n.m,.sl 2 (n.fs.map nw),.sl 2 (n.ls.map qK)]] (.int .i64 0)) (h1:n.m≠[]) (h2:n.fs=[]) (h3:n.ls≠[]):ae Tryz.prog tn [qN n] (.tup [.sl 1 ((df n).map dJ),.int .i64 0]):=by
 refine ab (ic:=jx.body) aq sN rfl rfl ?_
 have f11:(!(n.m==[]))=true:=by simp [h1]
 have f20:decide ((n.fs.length:Int)>0)=false:=by simp [h2]
 have f31:decide ((n.ls.length:Int)>0)=true:=by have:=List.length_pos_iff.2 h3;simp;omega
 have a1:=eM hg.1
 have a2:=bO (b:=0) (x:=bN n.m) (by omega)
 have a3:=eJ hg.2.1.2
 have a4:=bO (b:=1) (x:=bh n.fs) (by omega)
 have a5:=ej hg.2.2.1 hg.2.2.2
 have a6:=bO (b:=2) (x:=bQ n.ls) (by omega)
 have hB:df n=bV 0 (bN n.m)++bV 2 (bQ n.ls):=by rw [eX];simp [JV,JW,JX,h1,h2,h3]
 have hl:(bV 0 (bN n.m)++bV 2 (bQ n.ls)).length≤400000:=by rw [← hB];exact dY hg
 have d4:=iK true (bV 0 (bN n.m)++bV 2 (bQ n.ls)) 0 (by omega)
 rw [show wD true (bV 0 (bN n.m)++bV 2 (bQ n.ls)) 0=(some (bV 0 (bN n.m)++bV 2 (bQ n.ls)),0) from rfl] at d4
 rw [hB]
 simp only [go_sem,jx]
 refine aa (cc) ?_
 simp only [go_sem]
 refine ei 904 905 (by decide) (by decide) (by decide) (by simp only [go_sem]) (by simp only [go_sem]) ?_
 simp only [go_sem,f11,f20,f31]
 have c1:=eP (by kernel_rfl) (KN n hg) (by omega) 0 (l:=([]:List UInt8)) (by (try simp only [aJ]);(try simp only [ay]);omega)
 rw [kK] at c1
 refine ⟨by kernel_rfl,?_⟩
 refine cC (σ2:=[(904,wo 905 true (([]:List UInt8)) 0),(905,wa (([]:List UInt8))),(5,⟨88,1,[[.mp 904 3 0 0]],true⟩),(1,nr n)]) (r3:=.tup []) (σ3:=[(904,wo 905 true (bV 0 (bN n.m)) 0),(905,wa (bV 0 (bN n.m))),(5,⟨88,1,[[.mp 904 3 0 0]],true⟩),(1,nr n)]) c1 [(1000,904),(2000,905),(1001,5),(1002,1)] [905] rfl rfl rfl rfl ?_ ?_ ?_ ?_
 ·simp only [go_sem];simp
 ·simp only [go_sem];simp [sb,bw,jo,ak]
 ·simp only [go_sem];simp [ak]
 simp only [go_sem,f11,f20,f31]
 have c3:=eP (by kernel_rfl) (KP n hg) (by omega) 2 (l:=bV 0 (bN n.m)) (by (try simp only [aJ]);(try simp only [ay]);omega)
 refine ⟨by kernel_rfl,?_⟩
 refine cC (σ2:=[(904,wo 905 true (bV 0 (bN n.m)) 0),(905,wa (bV 0 (bN n.m))),(5,⟨88,1,[[.mp 904 3 0 0]],true⟩),(1,nr n)]) (r3:=.tup []) (σ3:=[(904,wo 905 true (bV 0 (bN n.m)++bV 2 (bQ n.ls)) 0),(905,wa (bV 0 (bN n.m)++bV 2 (bQ n.ls))),(5,⟨88,1,[[.mp 904 3 0 0]],true⟩),(1,nr n)]) c3 [(1000,904),(2000,905),(1001,5),(1002,1)] [905] rfl rfl rfl rfl ?_ ?_ ?_ ?_
 ·simp only [go_sem];simp
 ·simp only [go_sem];simp [sb,bw,jo,ak]
 ·simp only [go_sem];simp [ak]
 simp only [go_sem,f11,f20,f31]
 refine cG [] (k:=904) (j:=905) (d4) ?_
 simp only [go_sem]
 exact au [] (by simp only [go_sem,dN]) (by first | rfl | simp [go_sem,ac])
theorem Gy (n:Ns) (hg:z_ n) (cc:ae Tryz.prog mr [.agg [.str n.m,.sl 2 (n.fs.map nw),.sl 2 (n.ls.map qK)]] (.int .i64 0)) (h1:n.m≠[]) (h2:n.fs≠[]) (h3:n.ls=[]):ae Tryz.prog tn [qN n] (.tup [.sl 1 ((df n).map dJ),.int .i64 0]):=by
 refine ab (ic:=jx.body) aq sN rfl rfl ?_
 have f11:(!(n.m==[]))=true:=by simp [h1]
 have f21:decide ((n.fs.length:Int)>0)=true:=by have:=List.length_pos_iff.2 h2;simp;omega
 have f30:decide ((n.ls.length:Int)>0)=false:=by simp [h3]
 have a1:=eM hg.1
 have a2:=bO (b:=0) (x:=bN n.m) (by omega)
 have a3:=eJ hg.2.1.2
 have a4:=bO (b:=1) (x:=bh n.fs) (by omega)
 have a5:=ej hg.2.2.1 hg.2.2.2
 have a6:=bO (b:=2) (x:=bQ n.ls) (by omega)
 have hB:df n=bV 0 (bN n.m)++bV 1 (bh n.fs):=by rw [eX];simp [JV,JW,JX,h1,h2,h3]
 have hl:(bV 0 (bN n.m)++bV 1 (bh n.fs)).length≤400000:=by rw [← hB];exact dY hg
 have d4:=iK true (bV 0 (bN n.m)++bV 1 (bh n.fs)) 0 (by omega)
 rw [show wD true (bV 0 (bN n.m)++bV 1 (bh n.fs)) 0=(some (bV 0 (bN n.m)++bV 1 (bh n.fs)),0) from rfl] at d4
 rw [hB]
 simp only [go_sem,jx]
 refine aa (cc) ?_
 simp only [go_sem]
 refine ei 904 905 (by decide) (by decide) (by decide) (by simp only [go_sem]) (by simp only [go_sem]) ?_
 simp only [go_sem,f11,f21,f30]
 have c1:=eP (by kernel_rfl) (KN n hg) (by omega) 0 (l:=([]:List UInt8)) (by (try simp only [aJ]);(try simp only [ay]);omega)
 rw [kK] at c1
 refine ⟨by kernel_rfl,?_⟩
 refine cC (σ2:=[(904,wo 905 true (([]:List UInt8)) 0),(905,wa (([]:List UInt8))),(5,⟨88,1,[[.mp 904 3 0 0]],true⟩),(1,nr n)]) (r3:=.tup []) (σ3:=[(904,wo 905 true (bV 0 (bN n.m)) 0),(905,wa (bV 0 (bN n.m))),(5,⟨88,1,[[.mp 904 3 0 0]],true⟩),(1,nr n)]) c1 [(1000,904),(2000,905),(1001,5),(1002,1)] [905] rfl rfl rfl rfl ?_ ?_ ?_ ?_
 ·simp only [go_sem];simp
 ·simp only [go_sem];simp [sb,bw,jo,ak]
 ·simp only [go_sem];simp [ak]
 simp only [go_sem,f11,f21,f30]
 have c2:=eP (by kernel_rfl) (KO n hg) (by omega) 1 (l:=bV 0 (bN n.m)) (by (try simp only [aJ]);(try simp only [ay]);omega)
 refine ⟨by kernel_rfl,?_⟩
 refine cC (σ2:=[(904,wo 905 true (bV 0 (bN n.m)) 0),(905,wa (bV 0 (bN n.m))),(5,⟨88,1,[[.mp 904 3 0 0]],true⟩),(1,nr n)]) (r3:=.tup []) (σ3:=[(904,wo 905 true (bV 0 (bN n.m)++bV 1 (bh n.fs)) 0),(905,wa (bV 0 (bN n.m)++bV 1 (bh n.fs))),(5,⟨88,1,[[.mp 904 3 0 0]],true⟩),(1,nr n)]) c2 [(1000,904),(2000,905),(1001,5),(1002,1)] [905] rfl rfl rfl rfl ?_ ?_ ?_ ?_
 ·simp only [go_sem];simp
 ·simp only [go_sem];simp [sb,bw,jo,ak]
 ·simp only [go_sem];simp [ak]
 simp only [go_sem,f11,f21,f30]
 refine cG [] (k:=904) (j:=905) (d4) ?_
 simp only [go_sem]
 exact au [] (by simp only [go_sem,dN]) (by first | rfl | simp [go_sem,ac])
theorem Gz (n:Ns) (hg:z_ n) (cc:ae Tryz.prog mr [.agg [.str n.m,.sl 2 (n.fs.map nw),.sl 2 (n.ls.map qK)]] (.int .i64 0)) (h1:n.m≠[]) (h2:n.fs≠[]) (h3:n.ls≠[]):ae Tryz.prog tn [qN n] (.tup [.sl 1 ((df n).map dJ),.int .i64 0]):=by
 refine ab (ic:=jx.body) aq sN rfl rfl ?_
 have f11:(!(n.m==[]))=true:=by simp [h1]
 have f21:decide ((n.fs.length:Int)>0)=true:=by have:=List.length_pos_iff.2 h2;simp;omega
 have f31:decide ((n.ls.length:Int)>0)=true:=by have:=List.length_pos_iff.2 h3;simp;omega
 have a1:=eM hg.1
 have a2:=bO (b:=0) (x:=bN n.m) (by omega)
 have a3:=eJ hg.2.1.2
 have a4:=bO (b:=1) (x:=bh n.fs) (by omega)
 have a5:=ej hg.2.2.1 hg.2.2.2
 have a6:=bO (b:=2) (x:=bQ n.ls) (by omega)
 have hB:df n=bV 0 (bN n.m)++bV 1 (bh n.fs)++bV 2 (bQ n.ls):=by rw [eX];simp [JV,JW,JX,h1,h2,h3]
 have hl:(bV 0 (bN n.m)++bV 1 (bh n.fs)++bV 2 (bQ n.ls)).length≤400000:=by rw [← hB];exact dY hg
 have d4:=iK true (bV 0 (bN n.m)++bV 1 (bh n.fs)++bV 2 (bQ n.ls)) 0 (by omega)
 rw [show wD true (bV 0 (bN n.m)++bV 1 (bh n.fs)++bV 2 (bQ n.ls)) 0=(some (bV 0 (bN n.m)++bV 1 (bh n.fs)++bV 2 (bQ n.ls)),0) from rfl] at d4
 rw [hB]
 simp only [go_sem,jx]
 refine aa (cc) ?_
 simp only [go_sem]
 refine ei 904 905 (by decide) (by decide) (by decide) (by simp only [go_sem]) (by simp only [go_sem]) ?_
 simp only [go_sem,f11,f21,f31]
 have c1:=eP (by kernel_rfl) (KN n hg) (by omega) 0 (l:=([]:List UInt8)) (by (try simp only [aJ]);(try simp only [ay]);omega)
 rw [kK] at c1
 refine ⟨by kernel_rfl,?_⟩
 refine cC (σ2:=[(904,wo 905 true (([]:List UInt8)) 0),(905,wa (([]:List UInt8))),(5,⟨88,1,[[.mp 904 3 0 0]],true⟩),(1,nr n)]) (r3:=.tup []) (σ3:=[(904,wo 905 true (bV 0 (bN n.m)) 0),(905,wa (bV 0 (bN n.m))),(5,⟨88,1,[[.mp 904 3 0 0]],true⟩),(1,nr n)]) c1 [(1000,904),(2000,905),(1001,5),(1002,1)] [905] rfl rfl rfl rfl ?_ ?_ ?_ ?_
 ·simp only [go_sem];simp
 ·simp only [go_sem];simp [sb,bw,jo,ak]
 ·simp only [go_sem];simp [ak]
 simp only [go_sem,f11,f21,f31]
 have c2:=eP (by kernel_rfl) (KO n hg) (by omega) 1 (l:=bV 0 (bN n.m)) (by (try simp only [aJ]);(try simp only [ay]);omega)
 refine ⟨by kernel_rfl,?_⟩
 refine cC (σ2:=[(904,wo 905 true (bV 0 (bN n.m)) 0),(905,wa (bV 0 (bN n.m))),(5,⟨88,1,[[.mp 904 3 0 0]],true⟩),(1,nr n)]) (r3:=.tup []) (σ3:=[(904,wo 905 true (bV 0 (bN n.m)++bV 1 (bh n.fs)) 0),(905,wa (bV 0 (bN n.m)++bV 1 (bh n.fs))),(5,⟨88,1,[[.mp 904 3 0 0]],true⟩),(1,nr n)]) c2 [(1000,904),(2000,905),(1001,5),(1002,1)] [905] rfl rfl rfl rfl ?_ ?_ ?_ ?_
 ·simp only [go_sem];simp
 ·simp only [go_sem];simp [sb,bw,jo,ak]
 ·simp only [go_sem];simp [ak]
 simp only [go_sem,f11,f21,f31]
 have c3:=eP (by kernel_rfl) (KP n hg) (by omega) 2 (l:=bV 0 (bN n.m)++bV 1 (bh n.fs)) (by (try simp only [aJ]);(try simp only [ay]);omega)
 refine ⟨by kernel_rfl,?_⟩
 refine cC (σ2:=[(904,wo 905 true (bV 0 (bN n.m)++bV 1 (bh n.fs)) 0),(905,wa (bV 0 (bN n.m)++bV 1 (bh n.fs))),(5,⟨88,1,[[.mp 904 3 0 0]],true⟩),(1,nr n)]) (r3:=.tup []) (σ3:=[(904,wo 905 true (bV 0 (bN n.m)++bV 1 (bh n.fs)++bV 2 (bQ n.ls)) 0),(905,wa (bV 0 (bN n.m)++bV 1 (bh n.fs)++bV 2 (bQ n.ls))),(5,⟨88,1,[[.mp 904 3 0 0]],true⟩),(1,nr n)]) c3 [(1000,904),(2000,905),(1001,5),(1002,1)] [905] rfl rfl rfl rfl ?_ ?_ ?_ ?_
 ·simp only [go_sem];simp
 ·simp only [go_sem];simp [sb,bw,jo,ak]
 ·simp only [go_sem];simp [ak]
 simp only [go_sem,f11,f21,f31]
 refine cG [] (k:=904) (j:=905) (d4) ?_
 simp only [go_sem]
 exact au [] (by simp only [go_sem,dN]) (by first | rfl | simp [go_sem,ac])
theorem vG (n:Ns) (hn:QZ n):ae Tryz.prog tn [qN n] (.tup [.sl 1 ((eL n).1.map dJ),.int .i64 (eL n).2]):=by
 have cc:=Kp n hn
 simp only [Az] at cc
 by_cases h:tZ n=0
 rotate_left
 ·refine ab (ic:=jx.body) aq sN rfl rfl ?_
  rw [show eL n=([],tZ n) by unfold eL;rw [aK h]]
  simp only [go_sem,jx]
  refine aa (cc) ?_
  simp only [go_sem,aZ h]
  exact cO (Wk.nls _ 2 1 (by simp only [go_sem])) [] (by first | rfl | simp only [go_sem]) rfl
 obtain ⟨hg,_⟩:=Nz h
 rw [show eL n=(df n,0) by unfold eL;rw [aD (by simp [h])]]
 rw [h] at cc
 by_cases h1:n.m=[]<;>by_cases h2:n.fs=[]<;>by_cases h3:n.ls=[]
 ·exact Gs n hg cc h1 h2 h3
 ·exact Gt n hg cc h1 h2 h3
 ·exact Gu n hg cc h1 h2 h3
 ·exact Gv n hg cc h1 h2 h3
 ·exact Gw n hg cc h1 h2 h3
 ·exact Gx n hg cc h1 h2 h3
 ·exact Gy n hg cc h1 h2 h3
 ·exact Gz n hg cc h1 h2 h3
end
section
theorem KG:(true&&(0:Int)==0)=true:=rfl
theorem oE {l:List Nm} (h:l≠[]):nY l=(ah l (l.length - 1)).i:=by
 have hp:=List.length_pos_iff.2 h
 unfold nY
 rw [List.getLast?_eq_getElem?,jg (by omega)]
theorem yq {l:List Lc} (h:l≠[]):EA l=(ah l (l.length - 1)).f:=by
 have hp:=List.length_pos_iff.2 h
 unfold EA
 rw [List.getLast?_eq_getElem?,jg (by omega)]
theorem Tp {k:Nat} {b:List UInt8} {a:Nat} {out:List Nm} {v a1:Nat} {e1:Int} {s:List UInt8} {a2:Nat} {e2:Int} (hU:rU true 32 b a 0=(v,a1,e1)) (hN:fu (e1==0) b a1 e1=(s,a2,e2)) :
  gt (k+1) b a 0 out=gt k b a2 (Lf out v e2) (out++[⟨v,s⟩]):=by
 rw [gt,aD (by decide)]
 simp only [hU,hN]
theorem s9 {k:Nat} {b:List UInt8} {a:Nat} {e:Int} {out:List Nm} (h:e≠0∨k=0):gt k b a e out=(out,a,e):=by
 cases k with
 | zero=>rfl
 | succ k=>rw [gt,aK (by simpa using h)]
theorem Tf {k:Nat} {b:List UInt8} {a:Nat} {out:List Lc} {v a1:Nat} {e1:Int} {l:List Nm} {a2:Nat} {e2:Int} (hU:rU true 32 b a 0=(v,a1,e1)) (hN:wE b a1 (z7 out v e1) 72=(l,a2,e2)) :
  gc (k+1) b a 0 out=gc k b a2 e2 (out++[⟨v,l⟩]):=by
 rw [gc,aD (by decide)]
 simp only [hU,hN]
theorem s8 {k:Nat} {b:List UInt8} {a:Nat} {e:Int} {out:List Lc} (h:e≠0∨k=0):gc k b a e out=(out,a,e):=by
 cases k with
 | zero=>rfl
 | succ k=>rw [gc,aK (by simpa using h)]
theorem To:∀(k:Nat) {b:List UInt8} {a:Nat} {e:Int} {out:List Nm},a≤b.length→(gt k b a e out).2.1≤b.length
 | 0,b,a,e,out,h=>h
 | k+1,b,a,e,out,h=>by
  rw [gt]
  split
  ·exact h
  ·exact To k (tI (Fn h))
theorem Lg {b:List UInt8} {a:Nat} {e most:Int} (h:a≤b.length):(wE b a e most).2.1≤b.length:=To _ (kB h)
attribute [local go_sem] cY ro
theorem LY (b:List UInt8) (a:Nat) (e most:Int) (ha:a≤b.length) (hb:b.length<1000000000) (hm:most≤1000) :
  RM UC [.int .i64 most] true b a e (.sl 2 ((wE b a e most).1.map nw)) (wE b a e most).2.1 (wE b a e most).2.2:=by
 refine aT (ic:=B8.body) aq SB rfl rfl ?_
 have hc:=tN true b a e most ha hb
 rw [bR] at hc
 have hca:=kB (ok:=e==0) (e:=e) (most:=most) ha
 have hcl:=ny (e==0) b a e most
 unfold wE
 generalize bH (e==0) b a e most=c at *
 obtain ⟨N,a0,e0⟩:=c
 simp only at hc hca hcl
 obtain ⟨G,hG⟩:∃G,gt N b a0 e0 []=G:=⟨_,rfl⟩
 rw [hG]
 simp only [go_sem,B8]
 refine aY (hc) ?_
 simp only [go_sem]
 refine an (fun q:Nat×Nat×Int×List Nm=>⟨[(6,.int .i64 q.1),(5,.ms 900 2 0 q.2.2.2.length),(0,.mp 1000 4 0 0)],[(900,⟨180,2,q.2.2.2.map nw,false⟩),(1000,ro true b q.2.1 q.2.2.1)]⟩)
  (fun q=>q.2.1≤b.length∧q.1+q.2.2.2.length≤4294967296∧G=gt q.1 b q.2.1 q.2.2.1 q.2.2.2) (fun q=>q.1) (N,a0,e0,[]) ⟨hca,by simp;omega,hG.symm⟩ ((Wk.nil _ 5 900 2 180 (by simp only [go_sem]) (.inl (by decide))).trans (Wk.of ?_ ?_)) ?_
 ·simp only [go_sem,St.mknil];try simp [go_sem]
 ·simp only [go_sem,St.mknil];try simp [go_sem]
 rintro ⟨k,a1,e1,out⟩ ⟨h1,h2,h3⟩
 simp only at h1 h2 h3
 have happ:=fun ys=>bu 900 180 2 out.length nw out ys rfl
 by_cases hk:(k:Int)>0
 rotate_left
 ·rw [s9 (.inr (by omega))] at h3
  subst h3
  simp only [go_sem,aG hk]
  refine done [900] (.sl 2 (out.map nw)) [(1000,ro true b a1 e1)] ?_ (by simp only [go_sem]) rfl ⟨rfl,rfl⟩
  simp only [go_sem,bj]
  rw [dS (by simp)]
 by_cases he:e1=0
 rotate_left
 ·rw [s9 (.inl he)] at h3
  subst h3
  simp only [go_sem,aF hk]
  refine aY (mM true b a1 e1) ?_
  simp only [go_sem,aN he]
  refine done [900] (.sl 2 (out.map nw)) [(1000,ro true b a1 e1)] ?_ (by simp only [go_sem]) rfl ⟨rfl,rfl⟩
  simp only [go_sem,bj]
  rw [dS (by simp)]
 subst he
 obtain ⟨k,rfl⟩:∃k',k=k'+1:=⟨k - 1,by omega⟩
 have e9:IntKind.i64.wrap (((k+1:Nat):Int) - 1)=(k:Int):=by rw [wi (by omega) (by omega)];omega
 have cU:=yX true b a1 0 h1 hb
 rw [KG] at cU
 have uA:=Fn (ok:=true) (bits:=32) (e:=0) h1
 have uL:=vt true b a1 0
 rcases hU:rU true 32 b a1 0 with ⟨v,a2,e2⟩
 rw [hU] at cU uA uL
 simp only at cU uA uL
 have cN:=FR true b a2 e2 uA hb
 rw [bR] at cN
 have nA:=tI (ok:=e2==0) (e:=e2) uA
 rcases hN:fu (e2==0) b a2 e2 with ⟨s,a3,e3⟩
 rw [hN] at cN nA
 simp only at cN nA
 rw [Tp hU hN] at h3
 have hl2:(out++[⟨(v:Int),s⟩]:List Nm).length=out.length+1:=by simp
 have hk':k<k+1:=by omega
 by_cases hz:out.length=0
 ·rw [show Lf out v e3=e3 by unfold Lf;rw [aD (fun h=>h.2.1 (nJ hz))]] at h3
  simp only [go_sem,aF hk]
  refine aY (mM true b a1 0) ?_
  simp only [go_sem]
  refine aY (cU) ?_
  simp only [go_sem]
  refine aY (cN) ?_
  simp only [go_sem,happ,aG (show ¬(out.length:Int)>0 by omega)]
  refine ⟨by omega,aC (k,a3,e3,out++[⟨v,s⟩]) ⟨nA,show k+(out++[(⟨v,s⟩:Nm)]).length≤4294967296 by omega,h3⟩ hk' (Wk.of ?_ ?_)⟩
  ·simp only [go_sem,e9];try simp
  ·simp only [go_sem];try simp [Jx]
 ·have hne:out≠[]:=fun h=>hz (by rw [h];rfl)
  have e7:IntKind.i64.wrap ((out.length:Int) - 1)=((out.length - 1:Nat):Int):=by rw [wi (by omega) (by omega)];omega
  have hlt:out.length - 1<out.length:=by omega
  by_cases hle:(v:Int)≤(ah out (out.length - 1)).i
  ·have hg:Lf out v e3=if (true&&e3==0)=true then 7 else e3:=by
    unfold Lf
    rw [oE hne]
    by_cases q:e3=0
    ·rw [aK ⟨q,hne,hle⟩,aK (by simp [q])]
    ·rw [aD (fun h=>q h.1),aD (by simp [q])]
   rw [hg] at h3
   simp only [go_sem,aF hk]
   refine aY (mM true b a1 0) ?_
   simp only [go_sem]
   refine aY (cU) ?_
   simp only [go_sem]
   refine aY (cN) ?_
   simp only [go_sem,aF (show (out.length:Int)>0 by omega),e7,hlt,aF hle]
   refine ⟨by omega,?_⟩
   refine aY (xj true b a3 e3 7) ?_
   simp only [go_sem,happ]
   refine ⟨by omega,aC (k,a3,if (true&&e3==0)=true then 7 else e3,out++[⟨v,s⟩]) ⟨nA,show k+(out++[(⟨v,s⟩:Nm)]).length≤4294967296 by omega,h3⟩ hk' (Wk.of ?_ ?_)⟩
   ·simp only [go_sem,e9];try simp
   ·simp only [go_sem];try simp [Jx]
  ·have hg:Lf out v e3=e3:=by
    unfold Lf
    rw [oE hne,aD (fun h=>hle h.2.2)]
   rw [hg] at h3
   simp only [go_sem,aF hk]
   refine aY (mM true b a1 0) ?_
   simp only [go_sem]
   refine aY (cU) ?_
   simp only [go_sem]
   refine aY (cN) ?_
   simp only [go_sem,aF (show (out.length:Int)>0 by omega),e7,hlt,aG hle,happ]
   refine ⟨by omega,by omega,aC (k,a3,e3,out++[⟨v,s⟩]) ⟨nA,show k+(out++[(⟨v,s⟩:Nm)]).length≤4294967296 by omega,h3⟩ hk' (Wk.of ?_ ?_)⟩
   ·simp only [go_sem,e9];try simp
   ·simp only [go_sem];try simp [Jx]
theorem Gn (b:List UInt8) (a:Nat) (e:Int) (ha:a≤b.length) (hb:b.length<1000000000) :
  RM ZC [] true b a e (.sl 2 ((Iy b a e).1.map qK)) (Iy b a e).2.1 (Iy b a e).2.2:=by
 refine aT (ic:=MU.body) aq XS rfl rfl ?_
 have hc:=tN true b a e 64 ha hb
 rw [bR] at hc
 have hca:=kB (ok:=e==0) (e:=e) (most:=64) ha
 have hcl:=ny (e==0) b a e 64
 unfold Iy
 generalize bH (e==0) b a e 64=c at *
 obtain ⟨N,a0,e0⟩:=c
 simp only at hc hca hcl
 obtain ⟨G,hG⟩:∃G,gc N b a0 e0 []=G:=⟨_,rfl⟩
 rw [hG]
 simp only [go_sem,MU]
 refine aY (hc) ?_
 simp only [go_sem]
 refine an (fun q:Nat×Nat×Int×List Lc=>⟨[(4,.int .i64 q.1),(3,.ms 900 2 0 q.2.2.2.length),(0,.mp 1000 4 0 0)],[(900,⟨50,2,q.2.2.2.map qK,false⟩),(1000,ro true b q.2.1 q.2.2.1)]⟩)
  (fun q=>q.2.1≤b.length∧q.1+q.2.2.2.length≤4294967296∧G=gc q.1 b q.2.1 q.2.2.1 q.2.2.2) (fun q=>q.1) (N,a0,e0,[]) ⟨hca,by simp;omega,hG.symm⟩ ((Wk.nil _ 3 900 2 50 (by simp only [go_sem]) (.inl (by decide))).trans (Wk.of ?_ ?_)) ?_
 ·simp only [go_sem,St.mknil];try simp [go_sem]
 ·simp only [go_sem,St.mknil];try simp [go_sem]
 rintro ⟨k,a1,e1,out⟩ ⟨h1,h2,h3⟩
 simp only at h1 h2 h3
 have happ:=fun ys=>bu 900 50 2 out.length qK out ys rfl
 by_cases hk:(k:Int)>0
 rotate_left
 ·rw [s8 (.inr (by omega))] at h3
  subst h3
  simp only [go_sem,aG hk]
  refine done [900] (.sl 2 (out.map qK)) [(1000,ro true b a1 e1)] ?_ (by simp only [go_sem]) rfl ⟨rfl,rfl⟩
  simp only [go_sem,bj]
  rw [dS (by simp)]
 by_cases he:e1=0
 rotate_left
 ·rw [s8 (.inl he)] at h3
  subst h3
  simp only [go_sem,aF hk]
  refine aY (mM true b a1 e1) ?_
  simp only [go_sem,aN he]
  refine done [900] (.sl 2 (out.map qK)) [(1000,ro true b a1 e1)] ?_ (by simp only [go_sem]) rfl ⟨rfl,rfl⟩
  simp only [go_sem,bj]
  rw [dS (by simp)]
 subst he
 obtain ⟨k,rfl⟩:∃k',k=k'+1:=⟨k - 1,by omega⟩
 have e9:IntKind.i64.wrap (((k+1:Nat):Int) - 1)=(k:Int):=by rw [wi (by omega) (by omega)];omega
 have cU:=yX true b a1 0 h1 hb
 rw [KG] at cU
 have uA:=Fn (ok:=true) (bits:=32) (e:=0) h1
 have uL:=vt true b a1 0
 rcases hU:rU true 32 b a1 0 with ⟨v,a2,e2⟩
 rw [hU] at cU uA uL
 simp only at cU uA uL
 have cN:=LY b a2 (z7 out v e2) 72 uA hb (by decide)
 have nA:=Lg (e:=z7 out v e2) (most:=72) uA
 rcases hN:wE b a2 (z7 out v e2) 72 with ⟨s,a3,e3⟩
 rw [hN] at cN nA
 simp only at cN nA
 rw [Tf hU hN] at h3
 have hl2:(out++[⟨(v:Int),s⟩]:List Lc).length=out.length+1:=by simp
 have hk':k<k+1:=by omega
 by_cases hz:out.length=0
 ·rw [show z7 out v e2=e2 by unfold z7;rw [aD (fun h=>h.2.1 (nJ hz))]] at cN
  simp only [go_sem,aF hk]
  refine aY (mM true b a1 0) ?_
  simp only [go_sem]
  refine aY (cU) ?_
  simp only [go_sem,aG (show ¬(out.length:Int)>0 by omega)]
  refine aY (cN) ?_
  simp only [go_sem,happ]
  refine ⟨by omega,aC (k,a3,e3,out++[⟨v,s⟩]) ⟨nA,show k+(out++[(⟨v,s⟩:Lc)]).length≤4294967296 by omega,h3⟩ hk' (Wk.of ?_ ?_)⟩
  ·simp only [go_sem,e9];try simp
  ·simp only [go_sem];try simp [Jj]
 ·have hne:out≠[]:=fun h=>hz (by rw [h];rfl)
  have e7:IntKind.i64.wrap ((out.length:Int) - 1)=((out.length - 1:Nat):Int):=by rw [wi (by omega) (by omega)];omega
  have hlt:out.length - 1<out.length:=by omega
  by_cases hle:(v:Int)≤(ah out (out.length - 1)).f
  ·have hg:z7 out v e2=if (true&&e2==0)=true then 7 else e2:=by
    unfold z7
    rw [yq hne]
    by_cases q:e2=0
    ·rw [aK ⟨q,hne,hle⟩,aK (by simp [q])]
    ·rw [aD (fun h=>q h.1),aD (by simp [q])]
   rw [hg] at cN
   simp only [go_sem,aF hk]
   refine aY (mM true b a1 0) ?_
   simp only [go_sem]
   refine aY (cU) ?_
   simp only [go_sem,aF (show (out.length:Int)>0 by omega),e7,hlt,aF hle]
   refine ⟨by omega,?_⟩
   refine aY (xj true b a2 e2 7) ?_
   simp only [go_sem]
   refine aY (cN) ?_
   simp only [go_sem,happ]
   refine ⟨by omega,aC (k,a3,e3,out++[⟨v,s⟩]) ⟨nA,show k+(out++[(⟨v,s⟩:Lc)]).length≤4294967296 by omega,h3⟩ hk' (Wk.of ?_ ?_)⟩
   ·simp only [go_sem,e9];try simp
   ·simp only [go_sem];try simp [Jj]
  ·have hg:z7 out v e2=e2:=by
    unfold z7
    rw [yq hne,aD (fun h=>hle h.2.2)]
   rw [hg] at cN
   simp only [go_sem,aF hk]
   refine aY (mM true b a1 0) ?_
   simp only [go_sem]
   refine aY (cU) ?_
   simp only [go_sem,aF (show (out.length:Int)>0 by omega),e7,hlt,aG hle]
   refine ⟨by omega,?_⟩
   refine aY (cN) ?_
   simp only [go_sem,happ]
   refine ⟨by omega,aC (k,a3,e3,out++[⟨v,s⟩]) ⟨nA,show k+(out++[(⟨v,s⟩:Lc)]).length≤4294967296 by omega,h3⟩ hk' (Wk.of ?_ ?_)⟩
   ·simp only [go_sem,e9];try simp
   ·simp only [go_sem];try simp [Jj]
end
end Go.Proofs.YtjndcljjbpeljaaGreatDoor