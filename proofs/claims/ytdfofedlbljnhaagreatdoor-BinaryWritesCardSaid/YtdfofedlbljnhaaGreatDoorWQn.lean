import Derived.Test.YtdfofedlbljnhaaGreatDoorWQm
set_option linter.all false
set_option maxRecDepth 100000
set_option maxHeartbeats 40000000
namespace Go.Proofs.YtdfofedlbljnhaaGreatDoor
open Go Go.Mw
def fJ{n:Int}(h:ik n=true):∃k:Nat,n=(k:Int)/\k<4294967296:=by
 simp only[ik,cE,eQ]at h;obtain⟨k,rfl⟩:=Fw (show 0<=n by omega);exact⟨k,rfl,by omega⟩
def H5{l:List Int}(h:¬(l.length:Int)>0):l=[]:=zU (by omega)
def Bp(ok:Bool)(l x y:List UInt8):wB ok (wB ok l x) y=wB ok l (x++y):=by cases ok<;>simp[wB]
def ag7(ok:Bool)(l:List UInt8):wB ok l []=l:=by cases ok<;>simp[wB]
def aag{ok:Bool}{l:List UInt8}{e:Int}{n:Nat}(h:n<4294967296):wU ok l e (n:Int)=(wB ok l (ay n),e):=by
 unfold wU wB;cases ok
 .rfl
 .simp only[br,mz];rw[au (by omega)]
def bA{n:Nat}(h:n<4294967296):(ay n).length<=5:=rA (k:=4) (by omega)
def uS:∀{ns:List Int},ns.all ik=true->(eN ns).length<=5*ns.length
 | [],_=>bG _
 | n::ns,h=>by
  simp only[xA,cE]at h;obtain⟨k,rfl,hk⟩:=fJ h.1;have:=uS h.2;have:=bA hk;rw[show eN ((k:Int)::ns)=ay k++eN ns from rfl,aJ,aT];omega
def FR{ns:List Int}{i:Nat}(h:i<ns.length):eN (ns.take (i+1))=eN (ns.take i)++ay (ah ns i).toNat:=by
 unfold eN;rw[List.take_succ_eq_append_getElem h,vz,bD h];simp
def Lr{f:Int->Bool}{l:List Int}{k:Nat}(h:l.all f=true)(hk:k<l.length):f (ah l k)=true:=by
 rw[bD hk];exact fz.1 h _ (na hk)
def xn{ns:List Int}(h:ns.all ik=true)(i:Nat):(eN (ns.take i)).length<=5*ns.length:=by
 have h1:(ns.take i).all ik=true:=fz.2 λx hx=>fz.1 h x (List.mem_of_mem_take hx);have:=uS h1;rw[pA]at this;omega
section
variable{l:List UInt8}{e:Int}(hl:l.length<45000000000)
include hl
theorem tN(n:Nat)(hn:n<4294967296):WM bH [.int .i64 (n:Int)] true l e (.tup []) (wB (e==0) l (ay n)) e:=by
 have h:=Iw true l e (n:Int) (by omega);rw[aag hn]at h;exact h
theorem Yl(n:Nat)(hn:n<4294967296):ac pg dj [wx l e,.int .i64 (n:Int)] (wx (wB (e==0) l (ay n)) e):=by
 have h:=N_ l e (by omega) (n:Int);rw[aag hn]at h;exact h
end
section
variable{l:List UInt8}{e:Int}(hl:l.length<40000000000)
include hl
attribute[local go_sem] ro wo wa wx rx cL dm aS
theorem vw(ns:List Int)(h:ns.all ik=true)(hn:ns.length<=9223372036854775807)(hg:e=0->l.length+5*ns.length<40000000000):WM C8 [.sl 1 (ns.map oE)] true l e (.tup []) (wB (e==0) l (eN ns)) e:=by
 refine bT tX ?_;have hwl:∀i,(wB (e==0) l (eN (ns.take i))).length<40000000000:=λi=>by
  by_cases he:e=0
  .have:=hg he;have ht:=xn h i;have hwl:=kY (ok:=e==0) (l:=l) (x:=eN (ns.take i));omega
  .rw[aw he];exact hl
 simp only[go_sem,tX];refine an (λi:Nat=>⟨[(8,.int .i64 i),(7,.int .i64 ns.length),(6,.sl 1 (ns.map oE)),(0,.mp 1000 3 0 0)],[(1000,wo 2000 true (wB (e==0) l (eN (ns.take i))) e),(2000,wa (wB (e==0) l (eN (ns.take i))))]⟩) (λi=>i<=ns.length) (λi=>ns.length-i) 0 (cQ _) (Wk.of ?_ ?_) ?_
 .simp only[go_sem];try simp
 .simp only[go_sem,mA,eN,List.flatMap_nil,ag7];try simp[go_sem]
 intro i hi;have hwi:=hwl i;by_cases h1:(i:Int)<(ns.length:Int)
 .have hi':i<ns.length:=by omega
  obtain⟨m,hm1,hm2⟩:=fJ (Lr h hi');have hs:=FR hi';have e8:=wi (n:=(i:Int)+1) (by omega) (by omega);rw[hm1,mz]at hs;simp only[go_sem,aL h1,hm1];refine⟨by omega,h1,?_⟩;refine aV [] (k:=1000) (j:=2000) (tN (l:=wB (e==0) l (eN (ns.take i))) (e:=e) (by omega) m hm2) ?_;simp only[go_sem,Bp];rw[<-hs];refine aE (i+1) (show i+1<=ns.length by omega) (show ns.length-(i+1)<ns.length-i by omega) (Wk.of ?_ ?_)
  .simp only[go_sem,e8];try simp
  .simp only[go_sem];try simp[go_sem,wo,wa]
 .obtain rfl:i=ns.length:=by omega
  simp only[go_sem,aM h1];rw[eV];exact da [] _ [(1000,wo 2000 true (wB (e==0) l (eN ns)) e),(2000,wa (wB (e==0) l (eN ns)))] ⟨rfl,rfl⟩
end
section
def WX(f:FuncId)(rest:List AV)(x:List UInt8):Prop:=∀l:List UInt8,l.length+x.length<=1000000000->WM f rest true l 0 (.tup []) (l++x) 0
def Vk(n:Nat)(hn:n<4294967296):WX bH [.int .i64 (n:Int)] (ay n):=λl hl=>tN (l:=l) (e:=0) (by omega) n hn
def Vz{n:Int}(h:0<=n/\n<4294967296):WX bH [.int .i64 n] (ay n.toNat):=by
 obtain⟨k,rfl⟩:=Fw h.1;exact Vk k (by omega)
def Vy(x:UInt8):WX mb [.int .u8 x.toNat] [x]:=λl hl=>vY true l x 0 (by omega)
def aja(x:List UInt8):WX kE [.sl 1 (x.map dY)] x:=λl hl=>fZ true l x 0 ⟨by omega,by omega⟩
def lj(fs:List Nat){f:FuncId}{rest:List AV}{x:List UInt8}(h:WX f rest x){k j:Nat}{l:List UInt8}{args:List AV}{d:Option Nat}{s:St}{K:St->Prop}(ha:args.map (xo fs s) = .mp k 3 0 0::rest)(hrest:∀y∈rest,aO y=[])(h1:ak (frzs fs s).heap k=some (wo j true l 0))(h2:ak (frzs fs s).heap j=some (wa l))
  (hb:l.length+x.length<=1000000000) (hn:k≠2000/\j≠1000/\k≠j/\(j<1000\/2000<=j)) (hK:K ((St.mk (og j (frzs fs s).env) ((k,wo j true (l++x) 0)::(j,wa (l++x))::oh j (frzs fs s).heap)).put d (.tup []))):cR pg f args d s K :=
 ee fs (h l hb) hn.1 hn.2.1 hn.2.2.1 hn.2.2.2 rfl hrest ha h1 h2 hK
def Lu{f:FuncId}{rest:List AV}{x:List UInt8}(h:WX f rest x){k j:Nat}{l:List UInt8}{args:List AV}{d:Option Nat}{s:St}{K:St->Prop}(ha:args = .mp k 3 0 0::rest)(hrest:∀y∈rest,aO y=[])(h1:ak s.heap k=some (wo j true l 0))(h2:ak s.heap j=some (wa l))
  (hb:l.length+x.length<=1000000000) (hn:k≠2000/\j≠1000/\k≠j/\(j<1000\/2000<=j)) (hK:K ((St.mk (og j s.env) ((k,wo j true (l++x) 0)::(j,wa (l++x))::oh j s.heap)).put d (.tup []))):cR pg f args d s K :=
 lj [] h (by rw[ha];exact List.map_id' _) hrest h1 h2 hb hn hK
def aK{f:FuncId}{rest:List AV}{x:List UInt8}(h:WX f rest x){k j:Nat}{l:List UInt8}{args:List AV}{d:Option Nat}{s:St}{K:St->Prop}(ha:args = .mp k 3 0 0::rest)(hK:K ((St.mk (og j s.env) ((k,wo j true (l++x) 0)::(j,wa (l++x))::oh j s.heap)).put d (.tup [])))
  (hrest:∀y∈rest,aO y=[]:=by simp[go_sem]) (h1:ak s.heap k=some (wo j true l 0):=by rfl) (h2:ak s.heap j=some (wa l):=by rfl)
  (hb:l.length+x.length<=1000000000:=by (try simp only[aJ,aT,aC]);omega) (hn:k≠2000/\j≠1000/\k≠j/\(j<1000\/2000<=j):=by decide):cR pg f args d s K:=Lu h ha hrest h1 h2 hb hn hK
def db{w l x:List UInt8}{s:St}{e:IX}{rs:List lS}(he:∀j,e≠.ext j)(h0:q_ rs s=some (.tup []))(h1:ak s.heap 1000=some (wo 2000 true l 0))(h2:ak s.heap 2000=some (wa l))(h:l=w++x) :
  mD rs (λr' σ'=>r' = .tup []/\σ'=[(1000,wo 2000 true (w++x) 0),(2000,wa (w++x))]) e s:=by
 subst h;exact FP he h0 h1 h2 rfl
def wlB(u t st:Nat)(z:List AV):bR :=
 (.seq (.reg [mv 8 0,
 mv 9 1,
 o0 10 (.len (.s 9)),
 o0 11 (.call u [(.s 8),(.s 10)])] [8,9,10,11])
 (.seq (.reg [mv 12 1,
 o0 13 (.len (.s 12)),
 o0 14 (.mov (.c (.int .i64 0)))] [])
 (.block 0 (.loop (.seq (.reg [o0 15 (.bin .lss (.s 14) (.s 13))] [])
 (.seq (.cond (.s 15)
 .skip
 (.exit 0))
 (.seq (.block 1 (.seq (.reg [o0 16 (.iadr st (.s 12) (.s 14)),
 o0 17 (.load (some st) (.s 16)),
 o0 7 (.new t z),
 ⟨none,.store st (.s 7) (.s 17),none⟩] [16,17])
 (.reg [mv 18 2,
 mv 19 0,
 o0 20 (.load (some st) (.s 7)),
 o0 21 (.callv (.s 18) [(.s 19),(.s 20)])] [18,19,20,21])))
 (.reg [o0 22 (.bin .add (.s 14) (.c (.int .i64 1))),
 mv 14 22] [22]))))))))
def r7{α:Type}[Inhabited α]{f:α->List UInt8}{l:List α}{i:Nat}(h:i<l.length):(l.take (i+1)).flatMap f=(l.take i).flatMap f++f (ah l i):=by
 rw[su h,vz,List.flatMap_singleton]
def vJ{α:Type}[Inhabited α]{f:α->List UInt8}{l:List α}{i:Nat}(h:i<l.length):((l.take i).flatMap f).length+(f (ah l i)).length<=(l.flatMap f).length:=by
 have e:l=l.take (i+1)++l.drop (i+1):=(IS _ _).symm;have:=congrArg (λl=>(l.flatMap f).length) e;simp only[vz,aJ,r7 h]at this;omega
attribute[local go_sem] cU wo wa cL dm aS
def po{α:Type}[Inhabited α]{n t st:Nat}{z:List AV}{f:α->List AV}{g:FuncId}{caps:List AV}{enc:α->List UInt8}(hc:ny pg n=some ⟨23,3,[],wlB bH t st z⟩)(hz:z.length=st)(hf:∀x,aeu st (f x))
  (l:List α) (hl:l.length<4294967296) (hg:bP pg g=true) (hcp:∀i,caps.any (mP i)=false) (hcv:∀x∈caps,aO x=[]) (hone:∀x∈l,WX g (.agg (f x)::caps) (enc x)) :
  WX n [.sl st (l.map f),.fn g caps] (aQ enc l):=by
 intro w hw;unfold aQ at hw⊢;rw[aJ]at hw;refine jy (ic:=wlB bH t st z) u6 hc rfl rfl ?_;have c1:=Vk l.length hl w (by omega);subst hz;have q1:∀x,yD (some z.length) (f x)=some (.agg (f x)):=λx=>NS (hf x).1;have q2:∀x,I6 7 z.length z.length 0 0 (some ⟨t,z.length,[z],true⟩) (some (f x))=some (.put 7 ⟨t,z.length,[f x],true⟩):=λx=>OA rfl (hf x).1;have q3:∀x i,(f x).any (mC i)=false:=λx i=>(hf x).2.1 i;have q4:∀i x,x∈caps->mP i x=false:=λi x hx=>by
  have:=hcp i;rw[vB]at this;simpa using this x hx
 simp only[go_sem,wlB];refine aV [] (k:=1000) (j:=2000) (c1) ?_;simp only[go_sem];refine an (λi:Nat=>⟨[(14,.int .i64 i),(13,.int .i64 l.length),(12,.sl z.length (l.map f)),(2,.fn g caps),(0,.mp 1000 3 0 0)],[(1000,wo 2000 true (w++(ay l.length++(l.take i).flatMap enc)) 0),(2000,wa (w++(ay l.length++(l.take i).flatMap enc)))]⟩) (λi=>i<=l.length) (λi=>l.length-i) 0 (cQ _) (Wk.of ?_ ?_) ?_
 .simp only[go_sem];try (simp;exact q4 _)
 .simp only[go_sem,mA,List.flatMap_nil,gh];try simp[go_sem]
 intro i hi2;by_cases h1:(i:Int)<(l.length:Int);rotate_left
 .obtain rfl:i=l.length:=by omega
  simp only[go_sem,aM h1];rw[eV];exact da [] _ [(1000,wo 2000 true (w++(ay l.length++l.flatMap enc)) 0),(2000,wa (w++(ay l.length++l.flatMap enc)))] ⟨rfl,rfl⟩
 have hi':i<l.length:=by omega
 have e8:=dv hi' (by omega);have ht:=vJ (f:=enc) hi';have c2:=bN hone hi' (w++(ay l.length++(l.take i).flatMap enc)) (by simp only[aJ];omega);simp only[go_sem,aL h1,q1,q2,q3,hcp];refine⟨by omega,h1,?_⟩;rw[aF (JC hg)];refine⟨hg,?_⟩;refine ee [] (k:=1000) (j:=2000) c2 (by decide) (by decide) (by decide) (by decide) rfl (λx hx=>?_) (List.map_id' _) (by rfl) (by rfl) ?_
 .rcases eA.1 hx with rfl|hx
  .exact(hf _).2.2
  .exact hcv x hx
 have e9:w++(ay l.length++(l.take i).flatMap enc)++enc (ah l i)=w++(ay l.length++(l.take (i+1)).flatMap enc):=by
  rw[r7 hi'];simp only[eU]
 simp only[go_sem,e9,hcp];refine aE (i+1) (show i+1<=l.length by omega) (show l.length-(i+1)<l.length-i by omega) (Wk.of ?_ ?_)
 .simp only[go_sem,e8];try simp
 .simp only[go_sem];try simp[go_sem,wo,wa]
def adP(u:Nat):bR :=
 (.seq (.reg [mv 8 0,
 mv 9 1,
 o0 10 (.len (.s 9)),
 o0 11 (.call u [(.s 8),(.s 10)])] [8,9,10,11])
 (.seq (.reg [mv 12 1,
 o0 13 (.len (.s 12)),
 o0 14 (.mov (.c (.int .i64 0)))] [])
 (.block 0 (.loop (.seq (.reg [o0 15 (.bin .lss (.s 14) (.s 13))] [])
 (.seq (.cond (.s 15)
 .skip
 (.exit 0))
 (.seq (.block 1 (.seq (.reg [o0 16 (.iadr 1 (.s 12) (.s 14)),
 o0 17 (.load none (.s 16)),
 mv 7 17] [16,17])
 (.reg [mv 18 2,
 mv 19 0,
 mv 20 7,
 o0 21 (.callv (.s 18) [(.s 19),(.s 20)])] [18,19,20,21])))
 (.reg [o0 22 (.bin .add (.s 14) (.c (.int .i64 1))),
 mv 14 22] [22]))))))))
def Zd{α:Type}[Inhabited α]{n:Nat}{f:α->List AV}{v:α->AV}{g:FuncId}{caps:List AV}{enc:α->List UInt8}(hc:ny pg n=some ⟨23,3,[],adP bH⟩)(hf:∀x,f x=[v x])(hv1:∀x i,mV i (v x)=false)(hv2:∀x,aO (v x)=[])
  (l:List α) (hl:l.length<4294967296) (hg:bP pg g=true) (hcp:∀i,caps.any (mP i)=false) (hcv:∀x∈caps,aO x=[]) (hone:∀x∈l,WX g (v x::caps) (enc x)) :
  WX n [.sl 1 (l.map f),.fn g caps] (aQ enc l):=by
 intro w hw;unfold aQ at hw⊢;rw[aJ]at hw;refine jy (ic:=adP bH) u6 hc rfl rfl ?_;have c1:=Vk l.length hl w (by omega);have q4:∀i x,x∈caps->mP i x=false:=λi x hx=>by
  have:=hcp i;rw[vB]at this;simpa using this x hx
 simp only[go_sem,adP];refine aV [] (k:=1000) (j:=2000) (c1) ?_;simp only[go_sem];refine an (λi:Nat=>⟨[(14,.int .i64 i),(13,.int .i64 l.length),(12,.sl 1 (l.map f)),(2,.fn g caps),(0,.mp 1000 3 0 0)],[(1000,wo 2000 true (w++(ay l.length++(l.take i).flatMap enc)) 0),(2000,wa (w++(ay l.length++(l.take i).flatMap enc)))]⟩) (λi=>i<=l.length) (λi=>l.length-i) 0 (cQ _) (Wk.of ?_ ?_) ?_
 .simp only[go_sem];try (simp;exact q4 _)
 .simp only[go_sem,mA,List.flatMap_nil,gh];try simp[go_sem]
 intro i hi2;by_cases h1:(i:Int)<(l.length:Int);rotate_left
 .obtain rfl:i=l.length:=by omega
  simp only[go_sem,aM h1];rw[eV];exact da [] _ [(1000,wo 2000 true (w++(ay l.length++l.flatMap enc)) 0),(2000,wa (w++(ay l.length++l.flatMap enc)))] ⟨rfl,rfl⟩
 have hi':i<l.length:=by omega
 have e8:=dv hi' (by omega);have ht:=vJ (f:=enc) hi';have c2:=bN hone hi' (w++(ay l.length++(l.take i).flatMap enc)) (by simp only[aJ];omega);simp only[go_sem,aL h1,hf,hv1,hcp];refine⟨by omega,h1,?_⟩;rw[aF (JC hg)];refine⟨hg,?_⟩;refine ee [] (k:=1000) (j:=2000) c2 (by decide) (by decide) (by decide) (by decide) rfl (λx hx=>?_) (List.map_id' _) (by rfl) (by rfl) ?_
 .rcases eA.1 hx with rfl|hx
  .exact hv2 _
  .exact hcv x hx
 have e9:w++(ay l.length++(l.take i).flatMap enc)++enc (ah l i)=w++(ay l.length++(l.take (i+1)).flatMap enc):=by
  rw[r7 hi'];simp only[eU]
 simp only[go_sem,e9,hcp];refine aE (i+1) (show i+1<=l.length by omega) (show l.length-(i+1)<l.length-i by omega) (Wk.of ?_ ?_)
 .simp only[go_sem,e8];try simp
 .simp only[go_sem];try simp[go_sem,wo,wa]
end
def fP{α β:Type}(r:Rd α)(f:α->Nat->Rd β):Rd β:=match r with
 | .ok (x,k)=>f x k
 | .error e=>.error e
def jg{α β:Type}(x:α)(k:Nat)(f:α->Nat->Rd β):fP (.ok (x,k)) f=f x k:=rfl
def oT{α β:Type}(e:Int×Nat)(f:α->Nat->Rd β):fP (.error e) f = .error e:=rfl
def gN{α:Type}(one:List UInt8->Nat->Rd α):Nat->List UInt8->Nat->Rd (List α)
 | 0,_,a=>.ok ([],a)
 | n+1,b,a=>fP (one b a) λx k=>fP (gN one n b k) λl k'=>.ok (x::l,k')
def Vq{α:Type}(one:List UInt8->Nat->Rd α)(most:Int)(b:List UInt8)(a:Nat):Rd (List α):=fP (gC b a most) λn k=>gN one n b k
def gFt(b:List UInt8)(a:Nat):Rd Ft:=fP (gB b a) λx k=>if x=96 then fP (Vq gV 8 b k) λps k1=>fP (Vq gV 8 b k1) λrs k2=>.ok (⟨ps,rs⟩,k2)else .error (4,k)
def LM(b:List UInt8)(a:Nat):Rd Lm:=fP (gB b a) λx k=>if x>1 then .error (4,k)else fP (gU b k) λmn k1 =>
 if x=1 then fP (gU b k1) λmx k2=>if mx<mn then .error (20,k2)else .ok (⟨mn,mx,true⟩,k2)else .ok (⟨mn,0,false⟩,k1)
def QD(b:List UInt8)(a:Nat):Rd Tb:=fP (gV b a) λt k=>if t=3\/t=4 then fP (LM b k) λl k1=>.ok (⟨t,l⟩,k1)else .error (12,k)
def Jz(b:List UInt8)(a:Nat):Rd Gl:=fP (gV b a) λt k=>fP (gB b k) λx k1=>if x>1 then .error (4,k1)else .ok (⟨t,x==1⟩,k1)
def gNm(b:List UInt8)(a:Nat):Rd (List UInt8):=if(dl true b a 0).2.2=0 then .ok ((dl true b a 0).1,(dl true b a 0).2.1)else .error ((dl true b a 0).2.2,(dl true b a 0).2.1)
def gIm(b:List UInt8)(a:Nat):Rd Im:=fP (gNm b a) λm k=>fP (gNm b k) λn k1=>fP (gB b k1) λx k2 =>
 if x=0 then fP (gU b k2) λf k3=>.ok (⟨m,n,0,f,0,⟨0,0,false⟩,⟨0,0,false⟩,⟨0,false⟩⟩,k3)else
 if x=1 then fP (QD b k2) λt k3=>.ok (⟨m,n,1,0,t.e,t.l,⟨0,0,false⟩,⟨0,false⟩⟩,k3)else
 if x=2 then fP (LM b k2) λl k3=>.ok (⟨m,n,2,0,0,⟨0,0,false⟩,l,⟨0,false⟩⟩,k3)else
 if x=3 then fP (Jz b k2) λg k3=>.ok (⟨m,n,3,0,0,⟨0,0,false⟩,⟨0,0,false⟩,g⟩,k3)else .error (4,k2)
def gX(b:List UInt8)(a:Nat):Rd (List bj):=gE (b.length+1) 1 b a 2048
def gGd(b:List UInt8)(a:Nat):Rd Gd:=fP (Jz b a) λg k=>fP (gX b k) λl k1=>.ok (⟨g,l⟩,k1)
def gEx(b:List UInt8)(a:Nat):Rd Ex:=fP (gNm b a) λn k=>fP (gB b k) λx k1=>if x>3 then .error (4,k1)else fP (gU b k1) λi k2=>.ok (⟨n,(x.toNat:Int),i⟩,k2)
def Mu(k:Int):List bj:=[⟨210,k,0,0,0,0,0,[],[]⟩,⟨11,0,0,0,0,0,0,[],[]⟩]
def gIt(n:Nat)(b:List UInt8)(a:Nat):Rd (List bj):=if n<4 then fP (gU b a) λx k=>.ok (Mu x,k)else gX b a
def cz(n:Nat):Int:=if n%4=1 then 1 else if n%4=3 then 2 else 0
def gEl(b:List UInt8)(a:Nat):Rd El:=fP (gU b a) λn k=>if n>7 then .error (4,k)else
 fP (if n%4=2 then fP (gU b k) λx k1=>.ok ((x:Int),k1)else .ok (0,k)) λtb k1 =>
 fP (if n%2=0 then gX b k1 else .ok ([],k1)) λo k2 =>
 fP (if n%4=0 then .ok (3,k2)else if n<4 then fP (gB b k2) λx k3=>if x=0 then .ok (3,k3)else .error (4,k3)else gV b k2) λt k3 =>
 fP (Vq (gIt n) 256 b k3) λl k4=>.ok (⟨cz n,tb,o,t,l⟩,k4)
def gDa(b:List UInt8)(a:Nat):Rd Da:=fP (gU b a) λn k=>if n>2 then .error (4,k)else
 fP (if n=2 then fP (gU b k) λx k1=>.ok ((x:Int),k1)else .ok (0,k)) λme k1 =>
 fP (if n=1 then .ok ([],k1)else gX b k1) λo k2 =>
 fP (gC b k2 4096) λn2 k3=>if n2>b.length-k3 then .error (3,k3)else .ok (⟨if n=1 then 1 else 0,me,o,(b.drop k3).take n2⟩,k3+n2)
def gLo:Nat->List UInt8->Nat->List Int->Rd (List Int)
 | 0,_,a,l=>.ok (l,a)
 | n+1,b,a,l=>fP (gU b a) λmany k=>fP (gV b k) λt k1=>if(many:Int)>64-l.length then .error (6,k1)else gLo n b k1 (l++List.replicate many t)
def abj(b:List UInt8):Rd (List Int×List bj):=fP (gC b 0 64) λn k=>fP (gLo n b k []) λl k1=>fP (gX b k1) λx k2=>if k2=b.length then .ok ((l,x),k2)else .error (5,k2)
def gCd(b:List UInt8)(a:Nat):Rd (List Int×List bj):=fP (gU b a) λn k=>if n>b.length-k then .error (3,k)else
 match abj ((b.drop k).take n)with
 | .ok (x,_)=>.ok (x,k+n)
 | .error e=>.error (e.1,k+n)
structure Dc where
 m:Md
 place:Int
 codes:Nat
 data:Int
def Bk{α:Type}(one:List UInt8->Nat->Rd α)(enc:α->List UInt8)(x:α):Prop:=∀(b:List UInt8)(a:Nat)(r:List UInt8),b.drop a=enc x++r->one b a = .ok (x,a+(enc x).length)
def IJ{t:Int}:jK t=true↔1<=t/\t<=4:=by
 unfold jK nuB Cf;simp only[pz,beq_iff_eq];omega
def x9{t:Int}:Cf t=true↔t=3\/t=4:=by
 unfold Cf;simp only[pz,beq_iff_eq]
def Sf{x:Ft}(h:A3 x=0):x.ps.length<=8/\x.rs.length<=8/\(∀t∈x.ps,jK t=true)/\∀t∈x.rs,jK t=true:=by
 unfold A3 at h;by_cases h1:x.ps.length>8\/x.rs.length>8
 .rw[aF h1]at h;cases h
 rw[au h1]at h;by_cases h2:iR x.ps=false\/iR x.rs=false
 .rw[aF h2]at h;cases h
 have k:∀l,¬iR l=false->∀t∈l,jK t=true:=λl hl=>by
  have:iR l=true:=by simpa using hl
  unfold iR at this;exact fz.1 this
 exact⟨by omega,by omega,k _ λg=>h2 (.inl g),k _ λg=>h2 (.inr g)⟩
def JN(l:Lm):Prop:=(0<=l.mn/\l.mn<4294967296)/\(l.hs=true->l.mn<=l.mx/\l.mx<4294967296)/\(l.hs=false->l.mx=0)
def ZH{l:Lm}{most:Int}(hm:most<4294967296)(h:Le l most=true):JN l:=by
 unfold Le at h;by_cases h1:l.mn<0\/l.mn>most
 .rw[aF h1]at h;cases h
 rw[au h1]at h;by_cases h2:l.hs=false
 .rw[aF h2,beq_iff_eq]at h;exact⟨by omega,(λq=>by rw[h2]at q;cases q),λ_=>h⟩
 .rw[au h2,cE,eQ,eQ]at h;exact⟨by omega,λ_=>by omega,λq=>absurd q h2⟩
def Vb{x:Tb}(h:Ei x=0):(x.e=3\/x.e=4)/\JN x.l:=by
 unfold Ei at h;by_cases h1:Cf x.e=false
 .rw[aF h1]at h;cases h
 rw[au h1]at h;by_cases h2:Le x.l 1024=false
 .rw[aF h2]at h;cases h
 exact⟨x9.1 (by simpa using h1),ZH (most:=1024) (by decide) (by simpa using h2)⟩
def Gp{l:Lm}(h:Gn l=0):JN l:=by
 unfold Gn at h;by_cases h2:Le l 256=false
 .rw[aF h2]at h;cases h
 exact ZH (most:=256) (by decide) (by simpa using h2)
def ZA{g:Gl}(h:QE g=0):jK g.v=true:=by
 unfold QE at h;by_cases h1:jK g.v=false
 .rw[aF h1]at h;cases h
 .simpa using h1
def SJ{x:Im}(h:ED x=0):jE x.m=0/\jE x.n=0/\(0<=x.k/\x.k<=3)/\jV x=x/\(x.k=0->nX x.f=true)/\(x.k=1->Ei ⟨x.te,x.tl⟩=0)/\(x.k=2->Gn x.me=0)/\(x.k=3->QE x.g=0):=by
 unfold ED at h;by_cases h1:jE x.m≠0
 .rw[aF h1]at h;exact absurd h h1
 rw[au h1]at h;by_cases h2:jE x.n≠0
 .rw[aF h2]at h;exact absurd h h2
 rw[au h2]at h;by_cases h3:x.k<0\/x.k>3\/jV x≠x
 .rw[aF h3]at h;cases h
 rw[au h3]at h;refine⟨Decidable.not_not.1 h1,Decidable.not_not.1 h2,by omega,Decidable.not_not.1 λq=>h3 (.inr (.inr q)),λq=>?_,λq=>?_,λq=>?_,λq=>?_⟩
 .rw[au (by omega),au (by omega),au (by omega)]at h;by_cases h4:nX x.f=false
  .rw[aF h4]at h;cases h
  .simpa using h4
 .rw[aF q]at h;exact h
 .rw[au (by omega),aF q]at h;exact h
 .rw[au (by omega),au (by omega),aF q]at h;exact h
def dO{n:Int}:nX n=true↔0<=n/\n<4294967296:=by
 unfold nX;simp only[cE,eQ,ge_iff_le]
section
def aae(t:Int):yF t=jK t:=by
 unfold yF jK nuB Cf;rw[zT];simp only[cE,pz,eQ,beq_iff_eq];omega
def GN{t:Int}(h:jK t=true):WX rf [.int .i64 t] (fh t):=λl hl=>zB (l:=l) (e:=0) (by omega) t (by rw[aae];exact h)
def sw{s:List UInt8}(h:jE s=0):WX mc [.str s] (uT s):=λl hl=>by
 have hs:s.length<=64/\uv s=true:=by
  unfold jE at h;by_cases h1:s.length>64
  .rw[aF h1]at h;cases h
  rw[au h1]at h;by_cases h2:uv s=false
  .rw[aF h2]at h;cases h
  .exact⟨by omega,by simpa using h2⟩
 have c:=Or true l s 0 ⟨by omega,by omega⟩;have e:wN (true&&(0:Int)==0) l 0 s=(l++uT s,0):=by
  unfold wN uT;simp[hs.2];omega
 rw[e]at c;exact c
def Tg{y:Lm}(h:JN y):Le y 4294967295=true:=by
 obtain⟨h1,h2,h3⟩:=h;unfold Le;rw[au (by omega)];by_cases q:y.hs=false
 .rw[aF q,beq_iff_eq];exact h3 q
 .rw[au q];have:=h2 (by simpa using q);simp only[cE,eQ];omega
attribute[local go_sem] cU wo wa cL dm aS
def Vl{y:Lm}(h:JN y):WX iN [.agg (p7 y)] (iw y):=by
 intro l hl;have hr:=h.1;refine bT iI ?_;have c1:=Hw y 4294967295;rw[Tg h,cC]at c1;have h2:=h.2.1;cases hh:y.hs
 .have e:iw y=[0]++ay y.mn.toNat:=by unfold iw;rw[hh];rfl
  rw[e]at hl⊢;simp only[aJ,aT,aC]at hl;simp only[go_sem,iI,cC,hh];rw[hh]at c1;refine aa (c1) ?_;refine aK (Vy 0) rfl ?_;simp only[go_sem];refine aK (Vz hr) rfl ?_;simp only[go_sem];exact db (λ_ h=>by cases h) rfl (by rfl) (by rfl) (by simp[])
 .have e:iw y=[1]++(ay y.mn.toNat++ay y.mx.toNat):=by unfold iw;rw[hh];rfl
  rw[e]at hl⊢;have hx:=h2 hh;simp only[aJ,aT,aC]at hl;simp only[go_sem,iI,cC,hh];rw[hh]at c1;refine aa (c1) ?_;refine aK (Vy 1) rfl ?_;simp only[go_sem];refine aK (Vz hr) rfl ?_;simp only[go_sem];refine aK (Vz (n:=y.mx) (by omega)) rfl ?_;simp only[go_sem];exact db (λ_ h=>by cases h) rfl (by rfl) (by rfl) (by simp[])
def aaj{x:Tb}(h:Ei x=0):WX jo [.agg (xx x)] (oY x):=by
 intro l hl;obtain⟨h1,h2⟩:=Vb h;refine bT oN ?_;have c1:=JS x.e;have c2:=Hw x.l 4294967295;rw[Tg h2,cC]at c2;rw[x9.2 h1]at c1;have c3:=Vl h2;rw[cC]at c3;unfold oY at hl⊢;simp only[aJ]at hl;simp only[go_sem,oN,df];refine aa (c1) ?_;refine aa (c2) ?_;refine aK (GN (IJ.2 (by omega))) rfl ?_;simp only[go_sem];refine aK (c3) rfl ?_;simp only[go_sem];exact db (λ_ h=>by cases h) rfl (by rfl) (by rfl) (by simp[])
def aai{g:Gl}(h:jK g.v=true):WX ww [.agg (Hm g)] (AZ g):=by
 intro l hl;refine bT iH ?_;have c1:=NX g.v;rw[h]at c1;unfold AZ at hl⊢;cases hm:g.mu
 .rw[hm]at hl;simp only[aJ,aT,aC,gd,cD]at hl⊢;simp only[go_sem,iH,Hm,hm];refine aa (c1) ?_;refine aK (GN h) rfl ?_;simp only[go_sem];refine aK (Vy 0) rfl ?_;simp only[go_sem];exact db (λ_ h=>by cases h) rfl (by rfl) (by rfl) (by simp[])
 .rw[hm]at hl;simp only[aJ,aT,aC,br]at hl⊢;simp only[go_sem,iH,Hm,hm];refine aa (c1) ?_;refine aK (GN h) rfl ?_;simp only[go_sem];refine aK (Vy 1) rfl ?_;simp only[go_sem];exact db (λ_ h=>by cases h) rfl (by rfl) (by rfl) (by simp[])
end
def EE(op:Int):Bool:=op==2||op==3||op==4
def ry(l:List Int)(i:Nat)(op:Int):List Int:=if EE op then l++[(i:Int)]else if op==11 then l.dropLast else l
def ba(B:List bj):Nat->List Int
 | 0=>[-1]
 | i+1=>ry (ba B i) i (ah B i).op
def xW(B:List bj)(i:Nat):Int:=ah (ba B i) ((ba B i).length-1)
def sg(B:List bj)(h:Int)(i:Nat):Bool:=(List.range i).any λj=>decide (h<j)&&(ah B j).op==5&&decide (0<(ba B j).length)&&xW B j==h
def cx(B:List bj)(i:Nat):Bool:=(ah B i).op==5&&(decide (xW B i<0)||(ah B (xW B i).toNat).op != 4||sg B (xW B i) i)
def dX(B:List bj)(i:Nat):Int:=if(ba B i).length=0 then 16 else if cx B i then 16 else if EE (ah B i).op&&decide (32<=(ba B i).length)then 6 else 0
def Bd(B:List bj):Nat->Nat->Int×Int
 | _,0=>if 0<(ba B B.length).length then(B.length,3)else(0,0)
 | i,k+1=>if dX B i≠0 then(i,dX B i)else Bd B (i+1) k
def nchk(B:List bj):Int×Int:=Bd B 0 B.length
def vg(B:List bj):∀i,(ba B i).length<=i+1
 | 0=>by simp[ba]
 | i+1=>by
  have:=vg B i;simp only[ba,ry];split
  .simp;omega
  .split
   .simp;omega
   .omega
def Fn{l:List Int}{k:Nat}(h:k<l.length-1):ah l.dropLast k=ah l k:=by
 rw[List.dropLast_eq_take,Km h]
def xY(B:List bj):∀(i:Nat),(∀j,j<i->0<(ba B j).length)->∀k,k<(ba B i).length->(k=0/\ah (ba B i) k = -1)\/(0<k/\∃j:Nat,ah (ba B i) k=j/\j<i/\ba B j=(ba B i).take k/\EE (ah B j).op=true)
 | 0,_,k,hk=>by
  simp only[ba,jI]at hk⊢;have:k=0:=by omega
  subst this;exact .inl ⟨rfl,rfl⟩
 | i+1,hne,k,hk=>by
  have ih:=xY B i (λj hj=>hne j (by omega)) k;have h0:=hne i (by omega);simp only[ba]at hk⊢;unfold ry at hk⊢;by_cases hb:EE (ah B i).op
  .rw[aF hb]at hk⊢;simp only[aJ,jI]at hk;by_cases h2:k<(ba B i).length
   .rw[Gu h2,List.take_append_of_le_length (by omega)];rcases ih h2 with h|⟨h3,j,h4,h5,h6,h7⟩
    .exact .inl h
    .exact .inr ⟨h3,j,h4,by omega,h6,h7⟩
   .have hk2:k=(ba B i).length:=by omega
    subst hk2;exact .inr ⟨h0,i,Bh,by omega,by simp,hb⟩
  .rw[au hb]at hk⊢;by_cases h11:((ah B i).op==11)=true
   .rw[aF h11]at hk⊢;simp only[List.length_dropLast]at hk;rw[Fn hk,List.dropLast_eq_take,List.take_take,IR (by omega)];rcases ih (by omega)with h|⟨h3,j,h4,h5,h6,h7⟩
    .exact .inl h
    .exact .inr ⟨h3,j,h4,by omega,h6,h7⟩
   .rw[au h11]at hk⊢;rcases ih hk with h|⟨h3,j,h4,h5,h6,h7⟩
    .exact .inl h
    .exact .inr ⟨h3,j,h4,by omega,h6,h7⟩
def Gr{B:List bj}{i:Nat}(hne:∀j,j<i->0<(ba B j).length)(h0:0<(ba B i).length) :
  ((ba B i).length=1/\xW B i = -1)\/(1<(ba B i).length/\∃j:Nat,xW B i=j/\j<i/\ba B j=(ba B i).take ((ba B i).length-1)/\EE (ah B j).op=true):=by
 rcases xY B i hne ((ba B i).length-1) (by omega)with⟨h1,h2⟩|⟨h1,h2⟩
 .exact .inl ⟨by omega,h2⟩
 .exact .inr ⟨by omega,h2⟩
def DD{B:List bj}{i:Nat}(hne:∀j,j<i->0<(ba B j).length)(h0:0<(ba B i).length):-1<=xW B i/\xW B i<i:=by
 rcases Gr hne h0 with⟨_,h⟩|⟨_,j,h,h2,_⟩<;>omega
def N0{B:List bj}{i:Nat}(h:dX B i=0):0<(ba B i).length:=by
 unfold dX at h;split at h
 .cases h
 .omega
def TL{B:List bj}{i:Nat}(h:dX B i=0):cx B i=false/\(EE (ah B i).op&&decide (32<=(ba B i).length))=false:=by
 unfold dX at h;split at h
 .cases h
 split at h
 .cases h
 split at h
 .cases h
 .rename_i h1 h2 h3;exact⟨by simpa using h2,by simpa using h3⟩
def L7{B:List bj}{i k:Nat}(h:dX B i=0):Bd B i (k+1)=Bd B (i+1) k:=by simp[Bd,h]
def L8{B:List bj}{i k:Nat}(h:dX B i≠0):Bd B i (k+1)=((i:Int),dX B i):=by simp[Bd,h]
def Gq{B:List bj}{i:Nat}(hi:i<=B.length)(h:∀j,j<i->dX B j=0):nchk B=Bd B i (B.length-i):=by
 induction i with
 | zero=>rfl
 | succ i ih =>
  rw[ih (by omega) (λj hj=>h j (by omega)),show B.length-i=(B.length-(i+1))+1 by omega,L7 (h i (by omega))]
def sf{B:List bj}{i:Nat}(hi:i<B.length)(h:∀j,j<i->dX B j=0)(he:dX B i≠0):nchk B=((i:Int),dX B i):=by
 rw[Gq (by omega) h,show B.length-i=(B.length-(i+1))+1 by omega,L8 he]
def DC{B:List bj}(h:∀j,j<B.length->dX B j=0):nchk B=if 0<(ba B B.length).length then((B.length:Int),3)else(0,0):=by
 rw[Gq (bG _) h,GQ];rfl
def L9(B:List bj):(∃i,i<B.length/\(∀j,j<i->dX B j=0)/\dX B i≠0)\/∀j,j<B.length->dX B j=0:=by
 have:∀n,n<=B.length->(∃i,i<n/\(∀j,j<i->dX B j=0)/\dX B i≠0)\/∀j,j<n->dX B j=0:=λn=>by
  induction n with
  | zero=>exact λ_=>.inr λj hj=>absurd hj (Nat.not_lt_zero _)
  | succ n ih =>
   intro hn;rcases ih (by omega)with⟨i,h1,h2⟩|h
   .exact .inl ⟨i,by omega,h2⟩
   .by_cases he:dX B n=0
    .refine .inr λj hj=>?_;rcases Nat.lt_or_eq_of_le (Nat.le_of_lt_succ hj)with h1|h1
     .exact h j h1
     .rw[h1];exact he
    .exact .inl ⟨n,by omega,h,he⟩
 rcases this _ (bG _)with⟨i,h1,h2⟩|h
 .exact .inl ⟨i,h1,h2⟩
 .exact .inr h
def Bf(B:List bj):Prop:=(∀j,j<B.length->dX B j=0)/\ba B B.length=[]
def PT(B:List bj):(nchk B).2=0↔Bf B:=by
 rcases L9 B with⟨i,h1,h2,h3⟩|h
 .rw[sf h1 h2 h3];exact⟨λhh=>absurd hh h3,λhg=>absurd (hg.1 i h1) h3⟩
 .rw[DC h];by_cases hl:0<(ba B B.length).length
  .rw[aF hl];refine⟨λhh=>(by cases hh),λhg=>?_⟩;rw[hg.2]at hl;cases hl
  .rw[au hl];exact⟨λ_=>⟨h,zU (by omega)⟩,λ_=>rfl⟩
def AA(x:bj):Bool:=Mm (qu x.op) (x7 x.op) x
def agK(x:bj)(h:Ow x):ac pg cM [di x] (.bool (AA x)):=by
 obtain⟨h1,h2,h3⟩:=h;obtain⟨t1,_,t3,_⟩:=GK x.op;have c:=KS x (qu x.op) (lm x.op) t3 (by omega);rw[t1,ZS (qu x.op) (lm x.op) (x7 x.op) x h3]at c;exact c
def ags(x:bj)(h:Ow x):ac pg dq [di x] (.bool (AA x)):=by
 obtain⟨h1,h2,h3⟩:=h;exact KE x (qu x.op) (lm x.op) rfl (by omega)
def Mb(l:List bj):Prop:=∀x∈l,PL x=true/\x.lb.length<=64/\0<=x.n/\x.n<18446744073709551616
def Jp(x:bj):1<=(Ab x).length:=by
 unfold Ab kO;split
 .simp only[aJ,aT];omega
 .simp only[aJ,aT];omega
def LC(x:bj)(l:List bj):et (x::l)=Ab x++et l:=by simp[et]
def rz{l:List bj}(h:QH AA l)(hn:∀x∈l,0<=x.n/\x.n<18446744073709551616):Mb l/\l.length<=2048:=⟨λx hx=>⟨(h.2 x hx).1,(h.2 x hx).2,hn x hx⟩,h.1⟩
def R7{x:Ex}(h:Hf x=0):jE x.n=0/\(0<=x.k/\x.k<=3)/\nX x.i=true:=by
 unfold Hf at h;by_cases h1:jE x.n≠0
 .rw[aF h1]at h;exact absurd h h1
 rw[au h1]at h;by_cases h2:x.k<0\/x.k>3
 .rw[aF h2]at h;cases h
 rw[au h2]at h;by_cases h3:nX x.i=false
 .rw[aF h3]at h;cases h
 exact⟨Decidable.not_not.1 h1,by omega,by simpa using h3⟩
def RY{x:Da}(h:Kp AA x):(x.mo=0\/x.mo=1/\x.me=0/\x.o=[])/\nX x.me=true/\x.b.length<=4096/\QH AA x.o:=by
 refine⟨?_,h.2⟩;by_cases h0:x.mo=0
 .exact .inl h0
 have h1:=h.1;have h2:¬(x.mo≠1\/x.me≠0\/x.o.length>0):=λq=>h1 ⟨h0,q⟩;exact .inr ⟨by omega,by omega,zU (by omega)⟩
def acE{x:bj}(h:PL x=true)(ho:x.op=210):x =⟨210,x.a,0,0,0,0,0,[],[]⟩/\0<=x.a/\x.a<4294967296:=by
 obtain⟨op,a,b,n,k,v,z,ty,lb⟩:=x;simp only at ho;subst ho;have hi:qu 210=4:=by decide +kernel
 have hk:x7 210=true:=by decide +kernel
 unfold PL Mm KJ at h;simp only[hi,hk,Int.reduceEq,Int.reduceBEq,false_or,or_false,or_true,true_or,or_self,br,cD,iT,kA,bW,cE,beq_iff_eq,sz,decide_eq_false_iff_not,eQ,pz]at h;obtain⟨⟨rfl,rfl,rfl⟩,hlb,hty,ha,rfl,rfl⟩:=h;obtain⟨m,rfl,hm⟩:=fJ ha;rw[H5 hlb,H5 hty];exact⟨rfl,by simp only;omega,by simp only;omega⟩
def agd{x:bj}(h:PL x=true)(ho:x.op=11):x =⟨11,0,0,0,0,0,0,[],[]⟩:=by
 obtain⟨op,a,b,n,k,v,z,ty,lb⟩:=x;simp only at ho;subst ho;have hi:qu 11=0:=by decide +kernel
 have hk:x7 11=true:=by decide +kernel
 unfold PL Mm KJ at h;simp only[hi,hk,Int.reduceEq,Int.reduceBEq,false_or,or_false,or_true,true_or,or_self,br,cD,iT,kA,bW,cE,beq_iff_eq,sz,decide_eq_false_iff_not,eQ,pz]at h;obtain⟨⟨rfl,rfl,rfl⟩,hlb,hty,rfl,rfl,rfl⟩:=h;rw[H5 hlb,H5 hty]
def vO{l:List bj}(h:tF l=true)(ho:Mb l):l=Mu (ah l 0).a/\0<=(ah l 0).a/\(ah l 0).a<4294967296:=by
 unfold tF at h;simp only[cE,beq_iff_eq]at h;obtain⟨⟨h1,h2⟩,h3⟩:=h;obtain⟨x,y,rfl⟩:∃x y,l=[x,y]:=by
  rcases l with _|⟨x,_|⟨y,_|⟨z,l⟩⟩⟩
  .simp at h1
  .simp at h1
  .exact⟨x,y,rfl⟩
  .simp at h1
 have hx:=(ho x (by simp)).1;have hy:=(ho y (by simp)).1;obtain⟨e1,e2,e3⟩:=acE hx h2;have e4:=agd hy h3;refine⟨?_,e2,e3⟩;show[x,y]=[⟨210,x.a,0,0,0,0,0,[],[]⟩,⟨11,0,0,0,0,0,0,[],[]⟩];rw[<-e1,<-e4]
def z_{x:El}(h:LB x=0):(0<=x.mo/\x.mo<=2)/\(x.mo≠0->x.tb=0/\x.o=[])/\nX x.tb=true/\Cf x.ty=true/\x.it.length<=256:=by
 unfold LB at h;by_cases h1:x.mo<0\/x.mo>2\/(x.mo≠0/\(x.tb≠0\/x.o.length>0))
 .rw[aF h1]at h;cases h
 rw[au h1]at h;by_cases h2:nX x.tb=false
 .rw[aF h2]at h;cases h
 rw[au h2]at h;by_cases h3:Cf x.ty=false
 .rw[aF h3]at h;cases h
 rw[au h3]at h;by_cases h4:x.it.length>256
 .rw[aF h4]at h;cases h
 refine⟨by omega,λq=>⟨by omega,zU (by omega)⟩,by simpa using h2,by simpa using h3,by omega⟩
def LJ{x:El}(hm:0<=x.mo/\x.mo<=2):dp x<=7/\(dp x%4=2↔x.mo=0/\(x.tb≠0\/x.ty≠3))/\(dp x%2=0↔x.mo=0)/\(dp x%4=0↔x.mo=0/\¬(x.tb≠0\/x.ty≠3))/\(dp x<4↔dL x=false)/\cz (dp x)=x.mo:=by
 unfold dp cz;cases dL x
 .simp only[gd,cD];by_cases h1:x.mo=1
  .simp only[h1,br];simp
  rw[au h1];by_cases h2:x.mo=2
  .simp only[h2,br];simp
  rw[au h2];have h0:x.mo=0:=by omega
  by_cases h3:x.tb≠0\/x.ty≠3
  .rw[aF h3];simp[h0,h3]
  .rw[au h3];simp only[h0];simp only[h3];simp
 .simp only[br];by_cases h1:x.mo=1
  .simp only[h1,br];simp
  rw[au h1];by_cases h2:x.mo=2
  .simp only[h2,br];simp
  rw[au h2];have h0:x.mo=0:=by omega
  by_cases h3:x.tb≠0\/x.ty≠3
  .rw[aF h3];simp[h0,h3]
  .rw[au h3];simp only[h0];simp only[h3];simp
def Fp(l:List bj):Prop:=∀y∈l,0<=y.n/\y.n<18446744073709551616
def Pi(r:List (Nat×Int)):List Int:=r.flatMap λp=>List.replicate p.1 p.2
def Ou(t:Int):∀l:List Int,l.take (same t l)=List.replicate (same t l) t
 | []=>rfl
 | x::l=>by
  rw[same];by_cases h:x=t
  .rw[aF h,List.take_succ_cons,Ou t l,Eo,h]
  .rw[au h];rfl
def Ot(t:Int):∀l:List Int,same t l<=l.length
 | []=>bG _
 | x::l=>by
  rw[same];have:=Ot t l;by_cases h:x=t
  .rw[aF h,aT];omega
  .rw[au h];omega
def Ae:∀(f:Nat)(l:List Int),l.length<=f->Pi (vr f l)=l
 | 0,l,h=>by
  have:l=[]:=zU (by omega);subst this;rfl
 | f+1,[],h=>rfl
 | f+1,x::l,h=>by
  rw[aT]at h;have h1:=Ae f (l.drop (same x l)) (by rw[jJ];omega);rw[vr];unfold Pi at h1⊢;rw[wG,h1,Eo,<-Ou,k7,IS]
def Is:∀(f:Nat)(l:List Int),∀p∈vr f l,1<=p.1/\p.2∈l
 | 0,l,p,h=>by cases h
 | f+1,[],p,h=>by cases h
 | f+1,x::l,p,h=>by
  rw[vr]at h;rcases eA.1 h with rfl|h
  .exact⟨by simp,by simp⟩
  .obtain⟨h1,h2⟩:=Is f _ p h;exact⟨h1,List.mem_cons_of_mem _ (List.mem_of_mem_drop h2)⟩
def zu:∀(f:Nat)(l:List Int),(vr f l).length<=l.length
 | 0,l=>cQ _
 | f+1,[]=>bG _
 | f+1,x::l=>by
  have:=zu f (l.drop (same x l));rw[jJ]at this;rw[vr,aT,aT];omega
def ae0{x:Cd}(h:EB x=0):nX x.t=true/\x.lo.length<=64/\∀t∈x.lo,jK t=true:=by
 unfold EB at h;by_cases h1:nX x.t=false
 .rw[aF h1]at h;cases h
 rw[au h1]at h;by_cases h2:x.lo.length>64
 .rw[aF h2]at h;cases h
 rw[au h2]at h;by_cases h3:iR x.lo=false
 .rw[aF h3]at h;cases h
 have:iR x.lo=true:=by simpa using h3
 unfold iR at this;exact⟨by simpa using h1,by omega,fz.1 this⟩
