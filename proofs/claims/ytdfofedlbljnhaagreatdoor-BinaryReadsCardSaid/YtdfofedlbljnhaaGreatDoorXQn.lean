import Derived.Test.YtdfofedlbljnhaaGreatDoorXQm
set_option linter.all false
set_option maxRecDepth 100000
set_option maxHeartbeats 40000000
namespace Go.Proofs.YtdfofedlbljnhaaGreatDoor
section
open Go Go.Mw
def JS(o:Int):((o==2)=true\/((o==2)=false/\((o==3)=true\/((o==3)=false/\((o==4)=true\/((o==4)=false/\((o==11)=true\/(o==11)=false))))))):=by
 cases o==2<;>cases o==3<;>cases o==4<;>cases o==11<;>simp
variable{b:Af}{a:Nat}(ha:a<=b.length)(hb:b.length<1000000000)
include ha hb
attribute[local go_sem] ro wo wa wx rx Eu ce Fm
def ac3{e:Int}(he:e≠0):RM 328 [] true b a e (.int .i64 0) a e:=by
 refine bA nO ?_;simp only[go_sem,nO];refine ae (po true b a e ha hb) ?_;simp only[go_sem,ei he,bY,li,to0,wr0];refine ae (aS true b a e) ?_;simp only[go_sem,ei he];exact eW [] _ [(1000,ro true b a e)] ⟨rfl,rfl⟩
def NJ{e:Int}(he:e≠0):RM 292 [] true b a e (bn z0) a e:=by
 refine bA k7 ?_;simp only[go_sem,k7];refine aE (ac3 ha hb he) ?_;refine ae (aS true b a e) ?_;simp only[go_sem,j0 he];exact aJ (Wk.nlm _ 2 (r':=az z0) rfl (fA ..)) [] (bn z0) [(1000,ro true b a e)] (by simp only[go_sem,az];rfl) (by simp only[go_sem]) rfl ⟨rfl,rfl⟩
def exs(l:List be):AV:=.sl 9 (l.map az)
def PN(most:Int)(hm:WK most):RX 238 [.int .i64 most] b a (gE (b.length+1) 1 b a most) [] exs:=by
 refine bA gq ?_;simp only[go_sem,gq];refine aq (λq:List be×Nat×Nat=>⟨[(6,.int .i64 q.2.2),(5,.ms 900 9 0 q.1.length),(4,.nl),(1,.int .i64 most),(0,.mp 1000 4 0 0)],[(900,⟨58,9,q.1.map az,false⟩),(1000,ro true b q.2.1 0)]⟩)
  (λq=>EI b (b.length+1) a most q.1 q.2.1 q.2.2) (λq=>b.length-q.2.1) ([],a,1) (ad9 ha (Nat.lt_succ_self _)) ((Wk.nil _ 5 900 9 58 (by simp only[go_sem]) (.inl (by decide))).trans (Wk.of ?_ ?_)) ?_
 .simp only[go_sem,St.mknil];try simp[go_sem]
 .simp only[go_sem,St.mknil];try simp[go_sem]
 rintro⟨l,a1,d⟩ hE;replace hE:EI b (b.length+1) a most l a1 d:=hE;have ha1:a1<=b.length:=hE.1;have hl1:l.length+a<=a1:=hE.2.1;have hd1:d<=l.length+1:=hE.2.2.1;by_cases hd:(d:Int)>0
 .have hd':1<=d:=by omega
  by_cases hmo:(l.length:Int)>=most
  .simp only[go_sem,aK hd,aK hmo];refine aE (cA b a1 6) ?_;refine aE (NJ ha1 hb (show(6:Int)≠0 by decide)) ?_;refine aE (aS true b a1 6) ?_;refine aJ (Wk.nil _ 4 901 9 58 (by simp only[go_sem]) (.inl (by decide))) [901] (exs []) [(1000,ro true b a1 6)] ?_ ?_ rfl ⟨([],a1,6),dS.er (Mx hE hd' hmo) (by decide) ha1,rfl,rfl⟩
   .simp only[go_sem,St.mknil];rfl
   .simp only[go_sem,St.mknil]
  .simp only[go_sem,aK hd,aL hmo];refine yd (YT ha1 hb) ⟨by decide,by decide⟩ (λ_=>rfl) (by simp) rfl (λ_=>rfl) (by rfl) ?_;rintro⟨x,a2,e2⟩ ⟨p1,p2⟩;replace p1:a2<=b.length:=p1;rcases p2 with⟨x',k2,q1,q2⟩|⟨e,q1,he,q2,q3⟩
   .cases q2;have hE2:=Zk hE hd' hmo q1;have hadv:=K5 q1;have happ:=λys=>bq 900 58 9 l.length az l ys rfl;simp only[go_sem,dw];refine ae (aS true b a2 0) ?_;have hw1:IntKind.i64.wrap ((d:Int)+1)=((d+1:Nat):Int):=by rw[wi (by omega) (by omega)];omega
    have hw2:IntKind.i64.wrap ((d:Int)-1)=((d-1:Nat):Int):=by rw[wi (by omega) (by omega)];omega
    have hda:kD x.op d=if x.op=2\/x.op=3\/x.op=4 then d+1 else if x.op=11 then d-1 else d:=rfl
    rcases JS x.op with h2|⟨h2,h3|⟨h3,h4|⟨h4,h5|h5⟩⟩⟩
    .rw[show kD x.op d=d+1 by rw[hda,au (.inl (eq_of_beq h2))]]at hE2;simp only[go_sem,h2,happ,hw1];refine⟨by omega,aF (l++[x],a2,d+1) hE2 (show b.length-a2<b.length-a1 by omega) (Wk.of ?_ ?_)⟩
     .simp only[go_sem]
      try simp
     .simp only[go_sem]
      try simp[az,ce]
    .rw[show kD x.op d=d+1 by rw[hda,au (.inr (.inl (eq_of_beq h3)))]]at hE2;simp only[go_sem,h2,h3,happ,hw1];refine⟨by omega,aF (l++[x],a2,d+1) hE2 (show b.length-a2<b.length-a1 by omega) (Wk.of ?_ ?_)⟩
     .simp only[go_sem]
      try simp
     .simp only[go_sem]
      try simp[az,ce]
    .rw[show kD x.op d=d+1 by rw[hda,au (.inr (.inr (eq_of_beq h4)))]]at hE2;simp only[go_sem,h2,h3,h4,happ,hw1];refine⟨by omega,aF (l++[x],a2,d+1) hE2 (show b.length-a2<b.length-a1 by omega) (Wk.of ?_ ?_)⟩
     .simp only[go_sem]
      try simp
     .simp only[go_sem]
      try simp[az,ce]
    .rw[show kD x.op d=d-1 by rw[hda,ak (by have:=ne_of_beq_false h2;have:=ne_of_beq_false h3;have:=ne_of_beq_false h4;omega),au (eq_of_beq h5)]]at hE2;simp only[go_sem,h2,h3,h4,h5,happ,hw2];refine⟨by omega,aF (l++[x],a2,d-1) hE2 (show b.length-a2<b.length-a1 by omega) (Wk.of ?_ ?_)⟩
     .simp only[go_sem]
      try simp
     .simp only[go_sem]
      try simp[az,ce]
    .rw[show kD x.op d=d by rw[hda,ak (by have:=ne_of_beq_false h2;have:=ne_of_beq_false h3;have:=ne_of_beq_false h4;omega),ak (ne_of_beq_false h5)]]at hE2;simp only[go_sem,h2,h3,h4,h5,happ];refine⟨by omega,aF (l++[x],a2,d) hE2 (show b.length-a2<b.length-a1 by omega) (Wk.of ?_ ?_)⟩
     .simp only[go_sem]
      try simp
     .simp only[go_sem]
      try simp[az,ce]
   .obtain rfl:e2=e:=q3;simp only[go_sem];refine ae (aS true b a2 e2) ?_;simp only[go_sem,j0 he];refine aJ (Wk.nil _ 4 901 9 58 (by simp only[go_sem]) (.inl (by decide))) [901] (exs []) [(1000,ro true b a2 e2)] ?_ ?_ rfl ⟨([],a2,e2),dS.er (Qj hE hd' hmo q1) he p1,rfl,rfl⟩
    .simp only[go_sem,St.mknil];rfl
    .simp only[go_sem,St.mknil]
 .obtain rfl:d=0:=by omega
  simp only[go_sem,aL hd];refine done [900] (exs l) [(1000,ro true b a1 0)] ?_ (by simp only[go_sem]) rfl ⟨(l,a1,0),dS.ok (Qi hE) ha1,rfl,rfl⟩;simp only[go_sem,bZ,a_];rw[cI (by rw[bZ];omega)];rfl
end
open Go Go.Mw
def RB(l:Af):Prop:=0<l.length/\(∀i,i+1<l.length->128<=(ac l i).toNat)/\(ac l (l.length-1)).toNat<128
def IN{x:UInt8}(h:x.toNat<128):RB [x]:=⟨by simp,λi hi=>absurd hi (by simp),h⟩
def OH{x:UInt8}{l:Af}(hx:128<=x.toNat)(h:RB l):RB (x::l):=by
 obtain⟨h1,h2,h3⟩:=h;refine⟨by simp,λi hi=>?_,?_⟩
 .cases i with
  | zero=>exact hx
  | succ i=>rw[JL];exact h2 i (by simpa using hi)
 .rw[i0,Nat.add_sub_cancel,show l.length=(l.length-1)+1 by omega,JL];exact h3
def E5:∀(k:Nat)(n:Int),n.natAbs<=k->RB (gQ n):=by
 intro k
 induction k with
 | zero=>intro n h;rw[yO (by omega)];exact IN (by rw[ofNat_toNat (by omega)];omega)
 | succ k ih =>
  intro n h;by_cases h1:-64<=n/\n<=63
  .rw[yO h1];exact IN (by rw[ofNat_toNat (by omega)];omega)
  .rw[HQ h1];exact OH (by rw[ofNat_toNat (by omega)];omega) (ih (n/128) (by omega))
def PB(n:Int):RB (gQ n):=E5 _ n (a_ _)
def Vj(i:Nat):128^i=2^(7*i):=by rw[show(128:Nat)=2^7 from rfl,<-Nat.pow_mul]
def Uc(n:Int):0<(gQ n).length:=(PB n).1
def acz(k:Nat):(128:Int)^k=((2^(7*k):Nat):Int):=by
 rw[<-Vj,Int.natCast_pow];rfl
def kS{n:Int}(h:qn n=true):∃k:Nat,n=(k:Int)/\k<4294967296:=by
 simp only[qn,cW,gj]at h;obtain⟨k,rfl⟩:=Ks (show 0<=n by omega);exact⟨k,rfl,by omega⟩
def Hv{l:List Int}(h:¬(l.length:Int)>0):l=[]:=B0 (by omega)
def Bu(ok:Bool)(l x y:Af):wB ok (wB ok l x) y=wB ok l (x++y):=by cases ok<;>simp[wB]
def agM(ok:Bool)(l:Af):wB ok l []=l:=by cases ok<;>simp[wB]
def agN{ok:Bool}{l:Af}{e:Int}{n:Nat}(h:n<4294967296):wU ok l e (n:Int)=(wB ok l (aD n),e):=by
 unfold wU wB;cases ok
 .rfl
 .simp only[aN,eB];rw[ak (by omega)]
def cH{n:Nat}(h:n<4294967296):(aD n).length<=5:=mi (k:=4) (by omega)
def yi:∀{ns:List Int},ns.all qn=true->(gH ns).length<=5*ns.length
 | [],_=>a_ _
 | n::ns,h=>by
  simp only[xc,cW]at h;obtain⟨k,rfl,hk⟩:=kS h.1;have:=yi h.2;have:=cH hk;rw[show gH ((k:Int)::ns)=aD k++gH ns from rfl,cP,i0];omega
def OG{ns:List Int}{i:Nat}(h:i<ns.length):gH (ns.take (i+1))=gH (ns.take i)++aD (ac ns i).toNat:=by
 unfold gH;rw[List.take_succ_eq_append_getElem h,Ee,bv h];simp
def aaJ{f:Int->Bool}{l:List Int}{k:Nat}(h:l.all f=true)(hk:k<l.length):f (ac l k)=true:=by
 rw[bv hk];exact fk.1 h _ (tL hk)
def Ez{ns:List Int}(h:ns.all qn=true)(i:Nat):(gH (ns.take i)).length<=5*ns.length:=by
 have h1:(ns.take i).all qn=true:=fk.2 λx hx=>fk.1 h x (List.mem_of_mem_take hx);have:=yi h1;rw[qD]at this;omega
section
variable{l:Af}{e:Int}(hl:l.length<45000000000)
include hl
def tG(n:Nat)(hn:n<4294967296):WM 95 [.int .i64 (n:Int)] true l e (.tup []) (wB (e==0) l (aD n)) e:=by
 have h:=H2 true l e (n:Int) (by omega);rw[agN hn]at h;exact h
end
section
variable{l:Af}{e:Int}(hl:l.length<40000000000)
include hl
attribute[local go_sem] ro wo wa wx rx dw ce az
def u7(ns:List Int)(h:ns.all qn=true)(hn:ns.length<=9223372036854775807)(hg:e=0->l.length+5*ns.length<40000000000):WM 270 [.sl 1 (ns.map jM)] true l e (.tup []) (wB (e==0) l (gH ns)) e:=by
 refine bA tS ?_;have hwl:∀i,(wB (e==0) l (gH (ns.take i))).length<40000000000:=λi=>by
  by_cases he:e=0
  .have:=hg he;have ht:=Ez h i;have hwl:=qA (ok:=e==0) (l:=l) (x:=gH (ns.take i));omega
  .rw[aA he];exact hl
 simp only[go_sem,tS];refine aq (λi:Nat=>⟨[(8,.int .i64 i),(7,.int .i64 ns.length),(6,.sl 1 (ns.map jM)),(0,.mp 1000 3 0 0)],[(1000,wo 2000 true (wB (e==0) l (gH (ns.take i))) e),(2000,wa (wB (e==0) l (gH (ns.take i))))]⟩) (λi=>i<=ns.length) (λi=>ns.length-i) 0 (cm _) (Wk.of ?_ ?_) ?_
 .simp only[go_sem];try simp
 .simp only[go_sem,rI,gH,List.flatMap_nil,agM];try simp[go_sem]
 intro i hi;have hwi:=hwl i;by_cases h1:(i:Int)<(ns.length:Int)
 .have hi':i<ns.length:=by omega
  obtain⟨m,hm1,hm2⟩:=kS (aaJ h hi');have hs:=OG hi';have e8:=wi (n:=(i:Int)+1) (by omega) (by omega);rw[hm1,eB]at hs;simp only[go_sem,aK h1,hm1];refine⟨by omega,h1,?_⟩;refine aT [] (k:=1000) (j:=2000) (tG (l:=wB (e==0) l (gH (ns.take i))) (e:=e) (by omega) m hm2) ?_;simp only[go_sem,Bu];rw[<-hs];refine aF (i+1) (show i+1<=ns.length by omega) (show ns.length-(i+1)<ns.length-i by omega) (Wk.of ?_ ?_)
  .simp only[go_sem,e8];try simp
  .simp only[go_sem];try simp[go_sem,wo,wa]
 .obtain rfl:i=ns.length:=by omega
  simp only[go_sem,aL h1];rw[pJ];exact cR [] _ [(1000,wo 2000 true (wB (e==0) l (gH ns)) e),(2000,wa (wB (e==0) l (gH ns)))] ⟨rfl,rfl⟩
end
section
def WX(f:FuncId)(rest:List AV)(x:Af):Prop:=∀l:Af,l.length+x.length<=1000000000->WM f rest true l 0 (.tup []) (l++x) 0
def Vq(n:Nat)(hn:n<4294967296):WX 95 [.int .i64 (n:Int)] (aD n):=λl hl=>tG (l:=l) (e:=0) (by omega) n hn
def VF{n:Int}(h:0<=n/\n<4294967296):WX 95 [.int .i64 n] (aD n.toNat):=by
 obtain⟨k,rfl⟩:=Ks h.1;exact Vq k (by omega)
def VE(x:UInt8):WX 107 [.int .u8 x.toNat] [x]:=λl hl=>vr true l x 0 (by omega)
def ai9(x:Af):WX 113 [.sl 1 (x.map de)] x:=λl hl=>fU true l x 0 ⟨by omega,by omega⟩
def k_(fs:List Nat){f:FuncId}{rest:List AV}{x:Af}(h:WX f rest x){k j:Nat}{l:Af}{args:List AV}{d:Option Nat}{s:St}{K:St->Prop}(ha:args.map (wE fs s) = .mp k 3 0 0::rest)(hrest:∀y∈rest,aM y=[])(h1:ah (frzs fs s).heap k=some (wo j true l 0))(h2:ah (frzs fs s).heap j=some (wa l))
  (hb:l.length+x.length<=1000000000) (hn:k≠2000/\j≠1000/\k≠j/\(j<1000\/2000<=j)) (hK:K ((St.mk (oi j (frzs fs s).env) ((k,wo j true (l++x) 0)::(j,wa (l++x))::oq j (frzs fs s).heap)).put d (.tup []))):cO pg f args d s K :=
 dY fs (h l hb) hn.1 hn.2.1 hn.2.2.1 hn.2.2.2 rfl hrest ha h1 h2 hK
def KQ{f:FuncId}{rest:List AV}{x:Af}(h:WX f rest x){k j:Nat}{l:Af}{args:List AV}{d:Option Nat}{s:St}{K:St->Prop}(ha:args = .mp k 3 0 0::rest)(hrest:∀y∈rest,aM y=[])(h1:ah s.heap k=some (wo j true l 0))(h2:ah s.heap j=some (wa l))
  (hb:l.length+x.length<=1000000000) (hn:k≠2000/\j≠1000/\k≠j/\(j<1000\/2000<=j)) (hK:K ((St.mk (oi j s.env) ((k,wo j true (l++x) 0)::(j,wa (l++x))::oq j s.heap)).put d (.tup []))):cO pg f args d s K :=
 k_ [] h (by rw[ha];exact List.map_id' _) hrest h1 h2 hb hn hK
def aH{f:FuncId}{rest:List AV}{x:Af}(h:WX f rest x){k j:Nat}{l:Af}{args:List AV}{d:Option Nat}{s:St}{K:St->Prop}(ha:args = .mp k 3 0 0::rest)(hK:K ((St.mk (oi j s.env) ((k,wo j true (l++x) 0)::(j,wa (l++x))::oq j s.heap)).put d (.tup [])))
  (hrest:∀y∈rest,aM y=[]:=by simp[go_sem]) (h1:ah s.heap k=some (wo j true l 0):=by rfl) (h2:ah s.heap j=some (wa l):=by rfl)
  (hb:l.length+x.length<=1000000000:=by (try simp only[cP,i0,cj]);omega) (hn:k≠2000/\j≠1000/\k≠j/\(j<1000\/2000<=j):=by decide):cO pg f args d s K:=KQ h ha hrest h1 h2 hb hn hK
def cX{w l x:Af}{s:St}{e:IX}{rs:List nS}(he:∀j,e≠.ext j)(h0:sg rs s=some (.tup []))(h1:ah s.heap 1000=some (wo 2000 true l 0))(h2:ah s.heap 2000=some (wa l))(h:l=w++x) :
  mz rs (λr' σ'=>r' = .tup []/\σ'=[(1000,wo 2000 true (w++x) 0),(2000,wa (w++x))]) e s:=by
 subst h;exact Fz he h0 h1 h2 rfl
def wlB(u t st:Nat)(z:List AV):bI :=
 (.seq (.reg [mv 8 0,
 mv 9 1,
 o0 10 (.len (.s 9)),
 o0 11 (.call u [(.s 8),(.s 10)])] [8,9,10,11])
 (.seq (.reg [mv 12 1,
 o0 13 (.len (.s 12)),
 o0 14 (.mov (.c (.int .i64 0)))] [])
 (.block 0 (.loop (.seq (.reg [o0 15 (.bin .lss (.s 14) (.s 13))] [])
 (.seq (.cond (.s 15)
 .skip
 (.exit 0))
 (.seq (.block 1 (.seq (.reg [o0 16 (.iadr st (.s 12) (.s 14)),
 o0 17 (.load (some st) (.s 16)),
 o0 7 (.new t z),
 ⟨none,.store st (.s 7) (.s 17),none⟩] [16,17])
 (.reg [mv 18 2,
 mv 19 0,
 o0 20 (.load (some st) (.s 7)),
 o0 21 (.callv (.s 18) [(.s 19),(.s 20)])] [18,19,20,21])))
 (.reg [o0 22 (.bin .add (.s 14) (.c (.int .i64 1))),
 mv 14 22] [22]))))))))
def vi{α:Type}[Inhabited α]{f:α->Af}{l:List α}{i:Nat}(h:i<l.length):(l.take (i+1)).flatMap f=(l.take i).flatMap f++f (ac l i):=by
 rw[D_ h,Ee,List.flatMap_singleton]
def yj{α:Type}[Inhabited α]{f:α->Af}{l:List α}{i:Nat}(h:i<l.length):((l.take i).flatMap f).length+(f (ac l i)).length<=(l.flatMap f).length:=by
 have e:l=l.take (i+1)++l.drop (i+1):=(Ku _ _).symm;have:=congrArg (λl=>(l.flatMap f).length) e;simp only[Ee,cP,vi h]at this;omega
attribute[local go_sem] bZ wo wa dw ce az
def pt{α:Type}[Inhabited α]{n t st:Nat}{z:List AV}{f:α->List AV}{g:FuncId}{caps:List AV}{enc:α->Af}(hc:lK pg n=some ⟨23,3,[],wlB 95 t st z⟩)(hz:z.length=st)(hf:∀x,aed st (f x))
  (l:List α) (hl:l.length<4294967296) (hg:bK pg g=true) (hcp:∀i,caps.any (mP i)=false) (hcv:∀x∈caps,aM x=[]) (hone:∀x∈l,WX g (.agg (f x)::caps) (enc x)) :
  WX n [.sl st (l.map f),.fn g caps] (br enc l):=by
 intro w hw;unfold br at hw⊢;rw[cP]at hw;refine jB (ic:=wlB 95 t st z) s9 hc rfl rfl ?_;have c1:=Vq l.length hl w (by omega);subst hz;have q1:∀x,uI (some z.length) (f x)=some (.agg (f x)):=λx=>M7 (hf x).1;have q2:∀x,Is 7 z.length z.length 0 0 (some ⟨t,z.length,[z],true⟩) (some (f x))=some (.put 7 ⟨t,z.length,[f x],true⟩):=λx=>NW rfl (hf x).1;have q3:∀x i,(f x).any (mC i)=false:=λx i=>(hf x).2.1 i;have q4:∀i x,x∈caps->mP i x=false:=λi x hx=>by
  have:=hcp i;rw[zC]at this;simpa using this x hx
 simp only[go_sem,wlB];refine aT [] (k:=1000) (j:=2000) (c1) ?_;simp only[go_sem];refine aq (λi:Nat=>⟨[(14,.int .i64 i),(13,.int .i64 l.length),(12,.sl z.length (l.map f)),(2,.fn g caps),(0,.mp 1000 3 0 0)],[(1000,wo 2000 true (w++(aD l.length++(l.take i).flatMap enc)) 0),(2000,wa (w++(aD l.length++(l.take i).flatMap enc)))]⟩) (λi=>i<=l.length) (λi=>l.length-i) 0 (cm _) (Wk.of ?_ ?_) ?_
 .simp only[go_sem];try (simp;exact q4 _)
 .simp only[go_sem,rI,List.flatMap_nil,m_];try simp[go_sem]
 intro i hi2;by_cases h1:(i:Int)<(l.length:Int);rotate_left
 .obtain rfl:i=l.length:=by omega
  simp only[go_sem,aL h1];rw[pJ];exact cR [] _ [(1000,wo 2000 true (w++(aD l.length++l.flatMap enc)) 0),(2000,wa (w++(aD l.length++l.flatMap enc)))] ⟨rfl,rfl⟩
 have hi':i<l.length:=by omega
 have e8:=ey hi' (by omega);have ht:=yj (f:=enc) hi';have c2:=eV hone hi' (w++(aD l.length++(l.take i).flatMap enc)) (by simp only[cP];omega);simp only[go_sem,aK h1,q1,q2,q3,hcp];refine⟨by omega,h1,?_⟩;rw[au (I2 hg)];refine⟨hg,?_⟩;refine dY [] (k:=1000) (j:=2000) c2 (by decide) (by decide) (by decide) (by decide) rfl (λx hx=>?_) (List.map_id' _) (by rfl) (by rfl) ?_
 .rcases dQ.1 hx with rfl|hx
  .exact(hf _).2.2
  .exact hcv x hx
 have e9:w++(aD l.length++(l.take i).flatMap enc)++enc (ac l i)=w++(aD l.length++(l.take (i+1)).flatMap enc):=by
  rw[vi hi'];simp only[xP]
 simp only[go_sem,e9,hcp];refine aF (i+1) (show i+1<=l.length by omega) (show l.length-(i+1)<l.length-i by omega) (Wk.of ?_ ?_)
 .simp only[go_sem,e8];try simp
 .simp only[go_sem];try simp[go_sem,wo,wa]
def adJ(u:Nat):bI :=
 (.seq (.reg [mv 8 0,
 mv 9 1,
 o0 10 (.len (.s 9)),
 o0 11 (.call u [(.s 8),(.s 10)])] [8,9,10,11])
 (.seq (.reg [mv 12 1,
 o0 13 (.len (.s 12)),
 o0 14 (.mov (.c (.int .i64 0)))] [])
 (.block 0 (.loop (.seq (.reg [o0 15 (.bin .lss (.s 14) (.s 13))] [])
 (.seq (.cond (.s 15)
 .skip
 (.exit 0))
 (.seq (.block 1 (.seq (.reg [o0 16 (.iadr 1 (.s 12) (.s 14)),
 o0 17 (.load none (.s 16)),
 mv 7 17] [16,17])
 (.reg [mv 18 2,
 mv 19 0,
 mv 20 7,
 o0 21 (.callv (.s 18) [(.s 19),(.s 20)])] [18,19,20,21])))
 (.reg [o0 22 (.bin .add (.s 14) (.c (.int .i64 1))),
 mv 14 22] [22]))))))))
def Zi{α:Type}[Inhabited α]{n:Nat}{f:α->List AV}{v:α->AV}{g:FuncId}{caps:List AV}{enc:α->Af}(hc:lK pg n=some ⟨23,3,[],adJ 95⟩)(hf:∀x,f x=[v x])(hv1:∀x i,mV i (v x)=false)(hv2:∀x,aM (v x)=[])
  (l:List α) (hl:l.length<4294967296) (hg:bK pg g=true) (hcp:∀i,caps.any (mP i)=false) (hcv:∀x∈caps,aM x=[]) (hone:∀x∈l,WX g (v x::caps) (enc x)) :
  WX n [.sl 1 (l.map f),.fn g caps] (br enc l):=by
 intro w hw;unfold br at hw⊢;rw[cP]at hw;refine jB (ic:=adJ 95) s9 hc rfl rfl ?_;have c1:=Vq l.length hl w (by omega);have q4:∀i x,x∈caps->mP i x=false:=λi x hx=>by
  have:=hcp i;rw[zC]at this;simpa using this x hx
 simp only[go_sem,adJ];refine aT [] (k:=1000) (j:=2000) (c1) ?_;simp only[go_sem];refine aq (λi:Nat=>⟨[(14,.int .i64 i),(13,.int .i64 l.length),(12,.sl 1 (l.map f)),(2,.fn g caps),(0,.mp 1000 3 0 0)],[(1000,wo 2000 true (w++(aD l.length++(l.take i).flatMap enc)) 0),(2000,wa (w++(aD l.length++(l.take i).flatMap enc)))]⟩) (λi=>i<=l.length) (λi=>l.length-i) 0 (cm _) (Wk.of ?_ ?_) ?_
 .simp only[go_sem];try (simp;exact q4 _)
 .simp only[go_sem,rI,List.flatMap_nil,m_];try simp[go_sem]
 intro i hi2;by_cases h1:(i:Int)<(l.length:Int);rotate_left
 .obtain rfl:i=l.length:=by omega
  simp only[go_sem,aL h1];rw[pJ];exact cR [] _ [(1000,wo 2000 true (w++(aD l.length++l.flatMap enc)) 0),(2000,wa (w++(aD l.length++l.flatMap enc)))] ⟨rfl,rfl⟩
 have hi':i<l.length:=by omega
 have e8:=ey hi' (by omega);have ht:=yj (f:=enc) hi';have c2:=eV hone hi' (w++(aD l.length++(l.take i).flatMap enc)) (by simp only[cP];omega);simp only[go_sem,aK h1,hf,hv1,hcp];refine⟨by omega,h1,?_⟩;rw[au (I2 hg)];refine⟨hg,?_⟩;refine dY [] (k:=1000) (j:=2000) c2 (by decide) (by decide) (by decide) (by decide) rfl (λx hx=>?_) (List.map_id' _) (by rfl) (by rfl) ?_
 .rcases dQ.1 hx with rfl|hx
  .exact hv2 _
  .exact hcv x hx
 have e9:w++(aD l.length++(l.take i).flatMap enc)++enc (ac l i)=w++(aD l.length++(l.take (i+1)).flatMap enc):=by
  rw[vi hi'];simp only[xP]
 simp only[go_sem,e9,hcp];refine aF (i+1) (show i+1<=l.length by omega) (show l.length-(i+1)<l.length-i by omega) (Wk.of ?_ ?_)
 .simp only[go_sem,e8];try simp
 .simp only[go_sem];try simp[go_sem,wo,wa]
end
section
abbrev PS(α:Type):=Nat->Int->α×Nat×Int
def dn{α:Type}(b:Af)(t:PS α)(g:Nat->Rd α):Prop:=∀a e,a<=b.length->(t a e).2.1<=b.length/\(e≠0->(t a e).2=(a,e)) /\
 (e=0->(∃x k,g a = .ok (x,k)/\t a e=(x,k,0))\/∃e' k,g a = .error (e',k)/\e'≠0/\(t a e).2=(k,e'))
def pb{α β:Type}(t:PS α)(u:α->PS β):PS β:=λa e=>u (t a e).1 (t a e).2.1 (t a e).2.2
def pP{α:Type}(x:α):PS α:=λa e=>(x,a,e)
def pF{α:Type}(c:Int)(x:α):PS α:=λa e=>(x,a,if e=0 then c else e)
def pI{α:Type}(c:Prop)[Decidable c](t u:PS α):PS α:=λa e=>if c then t a e else u a e
def dn.bd{α β:Type}{b:Af}{t:PS α}{g:Nat->Rd α}{u:α->PS β}{r:α->Nat->Rd β}(h:dn b t g)(hu:∀x,dn b (u x) (r x)):dn b (pb t u) (λa=>fq (g a) r):=by
 intro a e ha;obtain⟨h1,h2,h3⟩:=h a e ha;obtain⟨u1,u2,u3⟩:=hu (t a e).1 (t a e).2.1 (t a e).2.2 h1;refine⟨u1,λhe=>?_,λhe=>?_⟩
 .have h4:=h2 he;have h5:(t a e).2.2=e:=by rw[h4]
  have h6:(t a e).2.1=a:=by rw[h4]
  show(u _ _ _).2=_;rw[u2 (by rw[h5];exact he),h5,h6]
 .rcases h3 he with⟨x,k,g1,g2⟩|⟨e',k,g1,g2,g3⟩
  .have u4:=u3 (by rw[g2]);show(∃y j,fq (g a) r=_/\u (t a e).1 (t a e).2.1 (t a e).2.2=_)\/∃e' j,fq (g a) r=_/\_/\(u (t a e).1 (t a e).2.1 (t a e).2.2).2=_;rw[g1,dq];rw[g2]at u4⊢;exact u4
  .have h5:(t a e).2.2=e':=by rw[g3]
   have h6:(t a e).2.1=k:=by rw[g3]
   refine .inr ⟨e',k,by show fq (g a) r=_;rw[g1,fF],g2,?_⟩;show(u _ _ _).2=_;rw[u2 (by rw[h5];exact g2),h5,h6]
def dn.pure{α:Type}{b:Af}(x:α):dn b (pP x) (λa=>.ok (x,a)):=λa e ha=>⟨ha,λ_=>rfl,λhe=>.inl ⟨x,a,rfl,by rw[he];rfl⟩⟩
def dn.fail{α:Type}{b:Af}{c:Int}(hc:c≠0)(x:α):dn b (pF c x) (λa=>.error (c,a)):=λa e ha=>⟨ha,λhe=>by unfold pF;rw[ak he],λhe=>.inr ⟨c,a,rfl,hc,by unfold pF;rw[au he]⟩⟩
def dn.ite{α:Type}{b:Af}{c:Prop}[Decidable c]{t u:PS α}{g r:Nat->Rd α}(h:dn b t g)(hu:dn b u r):dn b (pI c t u) (λa=>if c then g a else r a):=by
 intro a e ha;unfold pI;by_cases hc:c
 .simp only[au hc];exact h a e ha
 .simp only[ak hc];exact hu a e ha
def dn.congr{α:Type}{b:Af}{t:PS α}{g r:Nat->Rd α}(h:dn b t g)(e:∀a,g a=r a):dn b t r:=by rw[<-funext e];exact h
def GC{α β:Type}{c:Prop}[Decidable c]{e:Int×Nat}{x:α}{k:Nat}{f:α->Nat->Rd β}:fq (if c then .error e else .ok (x,k)) f=if c then .error e else f x k:=by
 by_cases h:c
 .rw[au h,au h];rfl
 .rw[ak h,ak h];rfl
def Ch(c:Int)(p:Prop)[Decidable p]:PS Unit:=pI p (pF c ()) (pP ())
def dn.fi{β:Type}{b:Af}{c:Int}(hc:c≠0){p:Prop}[Decidable p]{u:Unit->PS β}{r:Nat->Rd β}(hu:dn b (u ()) r):dn b (pb (Ch c p) u) (λa=>if p then .error (c,a)else r a) :=
 (((dn.fail hc ()).ite (dn.pure ())).bd (r:=λ_=>r) λ_=>hu).congr λa=>GC
def cT(b:Af):PS UInt8:=λa e=>eD (e==0) b a e
def kv(b:Af):PS Nat:=λa e=>rU (e==0) 32 b a e
def pC(b:Af)(most:Int):PS Nat:=λa e=>ba (e==0) b a e most
def Ps(b:Af):PS (Af):=λa e=>ci (e==0) b a e
def dF{α:Type}(g:Nat->Rd α)(d:α):PS α:=λa e=>if e=0 then(match g a with
 | .ok (x,k)=>(x,k,0)
 | .error (e',k)=>(d,k,e'))else(d,a,e)
def Zr{α:Type}(b:Af)(g:Nat->Rd α):Prop:=∀a,a<=b.length->(∀x k,g a = .ok (x,k)->k<=b.length)/\∀e k,g a = .error (e,k)->e≠0/\k<=b.length
def dn.wel{α:Type}{b:Af}{t:PS α}{g:Nat->Rd α}(h:dn b t g):Zr b g:=by
 intro a ha;obtain⟨h1,_,h2⟩:=h a 0 ha;rcases h2 rfl with⟨x,k,g1,g2⟩|⟨e',k,g1,g2,g3⟩
 .rw[g2]at h1;refine⟨λx' k' h3=>?_,λe k' h3=>?_⟩
  .rw[g1]at h3;cases h3;exact h1
  .rw[g1]at h3;cases h3
 .have h4:(t a 0).2.1=k:=by rw[g3]
  refine⟨λx' k' h3=>?_,λe k' h3=>?_⟩
  .rw[g1]at h3;cases h3
  .rw[g1]at h3;cases h3;exact⟨g2,h4▸h1⟩
def Zr.oks{α:Type}{b:Af}{g:Nat->Rd α}(h:Zr b g)(d:α):dn b (dF g d) g:=by
 intro a e ha;obtain⟨h1,h2⟩:=h a ha;unfold dF;by_cases he:e=0
 .rw[au he];cases hg:g a with
  | ok q =>
   obtain⟨x,k⟩:=q;exact⟨h1 _ _ hg,λh=>absurd he h,λ_=>.inl ⟨x,k,rfl,rfl⟩⟩
  | error q =>
   obtain⟨e',k⟩:=q;exact⟨(h2 _ _ hg).2,λh=>absurd he h,λ_=>.inr ⟨e',k,rfl,(h2 _ _ hg).1,rfl⟩⟩
 .rw[ak he];exact⟨ha,λ_=>rfl,λh=>absurd h he⟩
variable{b:Af}
def xE:dn b (cT b) (gB b):=by
 intro a e ha;refine⟨Yu ha,λhe=>?_,λhe=>?_⟩
 .unfold cT;rw[ei he,li]
 .subst he;rcases ow b a with⟨x,h1,h2,h3⟩|⟨h1,h2⟩
  .exact .inl ⟨x,a+1,h1,h2⟩
  .exact .inr ⟨3,a,h1,by decide,by show(eD true b a 0).2=_;rw[h2]⟩
def kW:dn b (kv b) (gU b):=by
 intro a e ha;refine⟨PC ha,λhe=>?_,λhe=>?_⟩
 .unfold kv;rw[ei he,mZ]
 .subst he;rcases d_ ha with⟨x,k,h1,h2,_⟩|⟨e,he,h1,h2⟩
  .exact .inl ⟨x,k,h1,h2⟩
  .exact .inr ⟨e,a,h1,he,by show(rU true 32 b a 0).2=_;rw[h2]⟩
def Ak(most:Int):dn b (pC b most) (λa=>gC b a most):=by
 intro a e ha;refine⟨fg ha,λhe=>?_,λhe=>?_⟩
 .unfold pC;rw[ei he,DN]
 .subst he;rcases yQ most ha with⟨x,k,h1,h2,_⟩|⟨e,he,h1,h2⟩
  .exact .inl ⟨x,k,h1,h2⟩
  .exact .inr ⟨e,a,h1,he,by show(ba true b a 0 most).2=_;rw[h2]⟩
def pN{α:Type}(one:PS α):Nat->PS (List α)
 | 0=>pP []
 | n+1=>λa e=>if e=0 then pb one (λx=>pb (pN one n) λl=>pP (x::l)) a e else([],a,e)
def dn.n{α:Type}{one:PS α}{g:Af->Nat->Rd α}(h:dn b one (g b)):∀n,dn b (pN one n) (gN g n b)
 | 0=>dn.pure []
 | n+1=>by
  have h1:=h.bd (u:=λx=>pb (pN one n) λl=>pP (x::l)) (r:=λx k=>fq (gN g n b k) λl k'=>.ok (x::l,k')) λx=>(dn.n h n).bd λl=>dn.pure (x::l);intro a e ha;obtain⟨q1,q2,q3⟩:=h1 a e ha;unfold pN;by_cases he:e=0
  .rw[au he];exact⟨q1,q2,q3⟩
  .rw[ak he];exact⟨ha,λ_=>rfl,λh=>absurd h he⟩
def pL{α:Type}(b:Af)(one:PS α)(most:Int):PS (List α):=pb (pC b most) (pN one)
def dn.l{α:Type}{one:PS α}{g:Af->Nat->Rd α}(h:dn b one (g b))(most:Int):dn b (pL b one most) (zG g most b):=(Ak most).bd λn=>h.n n
end
section
def aV{α:Type}(L:Nat)(r:Rd α):Prop:=(∀x k,r = .ok (x,k)->k<=L)/\∀e k,r = .error (e,k)->e≠0/\k<=L
def aV.ok{α:Type}{L k:Nat}(x:α)(h:k<=L):aV L (.ok (x,k):Rd α):=⟨λ_ _ e=>(by cases e;exact h),λ_ _ e=>(by cases e)⟩
def aV.er{α:Type}{L k:Nat}{e:Int}(he:e≠0)(h:k<=L):aV L (.error (e,k):Rd α):=⟨λ_ _ e=>(by cases e),λ_ _ e=>(by cases e;exact⟨he,h⟩)⟩
def aV.ite{α:Type}{L:Nat}{c:Prop}[Decidable c]{r s:Rd α}(h1:aV L r)(h2:aV L s):aV L (if c then r else s):=by
 by_cases h:c
 .rw[au h];exact h1
 .rw[ak h];exact h2
def aV.mt{α β:Type}{L:Nat}{r:Rd α}{f:α->Nat->Rd β}(h:aV L r)(hf:∀x k,k<=L->aV L (f x k)):aV L (match r with
  | .ok (x,k)=>f x k
  | .error e=>.error e):=by
 cases hr:r with
 | ok q =>
  obtain⟨x,k⟩:=q;exact hf x k (h.1 x k hr)
 | error e =>
  obtain⟨e,k⟩:=e;exact aV.er (h.2 e k hr).1 (h.2 e k hr).2
def aV.cs{α:Type}{L:Nat}{r:Rd α}(h:aV L r):(∃x k,r = .ok (x,k)/\k<=L)\/∃e k,r = .error (e,k)/\e≠0/\k<=L:=by
 cases hr:r with
 | ok q=>exact .inl ⟨q.1,q.2,rfl,h.1 _ _ hr⟩
 | error q=>exact .inr ⟨q.1,q.2,rfl,h.2 _ _ hr⟩
def aV.bd{α β:Type}{L:Nat}{r:Rd α}{f:α->Nat->Rd β}(h:aV L r)(hf:∀x k,k<=L->aV L (f x k)):aV L (fq r f):=aV.mt h hf
variable{b:Af}{a:Nat}
def Zj(ha:a<=b.length):aV b.length (gB b a):=xE.wel a ha
def za(ha:a<=b.length):aV b.length (gU b a):=kW.wel a ha
def ai2{most:Int}(ha:a<=b.length):aV b.length (gC b a most):=(Ak most).wel a ha
def adK{bits:Nat}(ha:a<=b.length):aV b.length (gS bits b a):=by
 have:=CE (b.drop a) bits;unfold gS;by_cases h:(di (b.drop a) bits).2.2=0
 .rw[au h];exact aV.ok _ (by simp only[jK]at this;omega)
 .rw[ak h];exact aV.er h ha
def Ib(ha:a<=b.length):aV b.length (gV b a):=by
 unfold gV;rcases(Zj ha).cs with⟨x,k,hr,hk⟩|⟨e,k,hr,he,hk⟩
 rotate_left
 .rw[hr];exact aV.er he hk
 rw[hr];dsimp only;refine aV.ite ?_ ?_
 .exact aV.ok _ hk
 .exact aV.er (by decide) hk
def ai4(ha:a<=b.length):aV b.length (gK b a):=by
 unfold gK;rcases(adK ha).cs with⟨x,k,hr,hk⟩|⟨e,k,hr,he,hk⟩
 rotate_left
 .rw[hr];exact aV.er he hk
 rw[hr];dsimp only;refine aV.ite ?_ ?_
 .exact aV.ok _ hk
 .refine aV.ite ?_ ?_
  .exact aV.ok _ hk
  .refine aV.ite ?_ ?_
   .exact aV.ok _ hk
   .exact aV.er (by decide) hk
def ai6(ha:a<=b.length):aV b.length (gO b a):=by
 unfold gO;rcases(Zj ha).cs with⟨x,k,hr,hk⟩|⟨e,k,hr,he,hk⟩
 rotate_left
 .rw[hr];exact aV.er he hk
 rw[hr];dsimp only;refine aV.ite ?_ ?_
 .rcases(za hk).cs with⟨x,k,hr,hk⟩|⟨e,k,hr,he,hk⟩
  rotate_left
  .rw[hr];exact aV.er he hk
  rw[hr];dsimp only;refine aV.ite ?_ ?_
  .exact aV.ok _ hk
  .exact aV.er (by decide) hk
 .refine aV.ite ?_ ?_
  .exact aV.ok _ hk
  .exact aV.er (by decide) hk
def agQ:∀(n:Nat){a:Nat},a<=b.length->aV b.length (gL n b a)
 | 0,a,ha=>aV.ok _ ha
 | n+1,a,ha=>by
  unfold gL;rcases(za ha).cs with⟨x,k,hr,hk⟩|⟨e,k,hr,he,hk⟩
  rotate_left
  .rw[hr];exact aV.er he hk
  rw[hr];dsimp only;rcases(agQ n hk).cs with⟨x,k,hr,hk⟩|⟨e,k,hr,he,hk⟩
  rotate_left
  .rw[hr];exact aV.er he hk
  rw[hr];dsimp only;exact aV.ok _ hk
def ai1(ha:a<=b.length):aV b.length (gA b a):=by
 unfold gA;rcases(za ha).cs with⟨x,k,hr,hk⟩|⟨e,k,hr,he,hk⟩
 rotate_left
 .rw[hr];exact aV.er he hk
 rw[hr];dsimp only;refine aV.ite ?_ ?_
 .exact aV.er (by decide) hk
 .refine aV.ite ?_ ?_
  .rcases(za hk).cs with⟨x,k,hr,hk⟩|⟨e,k,hr,he,hk⟩
   rotate_left
   .rw[hr];exact aV.er he hk
   rw[hr];dsimp only;rcases(za hk).cs with⟨x,k,hr,hk⟩|⟨e,k,hr,he,hk⟩
   rotate_left
   .rw[hr];exact aV.er he hk
   rw[hr];dsimp only;exact aV.ok _ hk
  .rcases(za hk).cs with⟨x,k,hr,hk⟩|⟨e,k,hr,he,hk⟩
   rotate_left
   .rw[hr];exact aV.er he hk
   rw[hr];dsimp only;exact aV.ok _ hk
def ai5{i:Int}(ha:a<=b.length):aV b.length (gM i b a):=by
 unfold gM;refine aV.ite ?_ ?_
 .rcases(ai4 ha).cs with⟨⟨p,q,r⟩,k,hr,hk⟩|⟨e,k,hr,he,hk⟩
  rotate_left
  .rw[hr];exact aV.er he hk
  rw[hr];dsimp only;exact aV.ok _ hk
 .refine aV.ite ?_ ?_
  .rcases(ai2 ha).cs with⟨x,k,hr,hk⟩|⟨e,k,hr,he,hk⟩
   rotate_left
   .rw[hr];exact aV.er he hk
   rw[hr];dsimp only;rcases(agQ _ hk).cs with⟨x,k,hr,hk⟩|⟨e,k,hr,he,hk⟩
   rotate_left
   .rw[hr];exact aV.er he hk
   rw[hr];dsimp only;rcases(za hk).cs with⟨x,k,hr,hk⟩|⟨e,k,hr,he,hk⟩
   rotate_left
   .rw[hr];exact aV.er he hk
   rw[hr];dsimp only;exact aV.ok _ hk
  .refine aV.ite ?_ ?_
   .rcases(za ha).cs with⟨x,k,hr,hk⟩|⟨e,k,hr,he,hk⟩
    rotate_left
    .rw[hr];exact aV.er he hk
    rw[hr];dsimp only;rcases(za hk).cs with⟨x,k,hr,hk⟩|⟨e,k,hr,he,hk⟩
    rotate_left
    .rw[hr];exact aV.er he hk
    rw[hr];dsimp only;exact aV.ok _ hk
   .refine aV.ite ?_ ?_
    .rcases(za ha).cs with⟨x,k,hr,hk⟩|⟨e,k,hr,he,hk⟩
     rotate_left
     .rw[hr];exact aV.er he hk
     rw[hr];dsimp only;refine aV.ite ?_ ?_
     .rcases(Ib hk).cs with⟨x,k,hr,hk⟩|⟨e,k,hr,he,hk⟩
      rotate_left
      .rw[hr];exact aV.er he hk
      rw[hr];dsimp only;exact aV.ok _ hk
     .exact aV.er (by decide) hk
    .refine aV.ite ?_ ?_
     .rcases(za ha).cs with⟨x,k,hr,hk⟩|⟨e,k,hr,he,hk⟩
      rotate_left
      .rw[hr];exact aV.er he hk
      rw[hr];dsimp only;exact aV.ok _ hk
     .refine aV.ite ?_ ?_
      .rcases(ai1 ha).cs with⟨⟨p,q,r⟩,k,hr,hk⟩|⟨e,k,hr,he,hk⟩
       rotate_left
       .rw[hr];exact aV.er he hk
       rw[hr];dsimp only;exact aV.ok _ hk
      .refine aV.ite ?_ ?_
       .rcases(adK ha).cs with⟨x,k,hr,hk⟩|⟨e,k,hr,he,hk⟩
        rotate_left
        .rw[hr];exact aV.er he hk
        rw[hr];dsimp only;exact aV.ok _ hk
       .refine aV.ite ?_ ?_
        .rcases(adK ha).cs with⟨x,k,hr,hk⟩|⟨e,k,hr,he,hk⟩
         rotate_left
         .rw[hr];exact aV.er he hk
         rw[hr];dsimp only;exact aV.ok _ hk
        .refine aV.ite ?_ ?_
         .rcases(Ib ha).cs with⟨x,k,hr,hk⟩|⟨e,k,hr,he,hk⟩
          rotate_left
          .rw[hr];exact aV.er he hk
          rw[hr];dsimp only;refine aV.ite ?_ ?_
          .exact aV.ok _ hk
          .exact aV.er (by decide) hk
         .refine aV.ite ?_ ?_
          .exact aV.ok _ ha
          .rcases(za ha).cs with⟨x,k,hr,hk⟩|⟨e,k,hr,he,hk⟩
           rotate_left
           .rw[hr];exact aV.er he hk
           rw[hr];dsimp only;exact aV.ok _ hk
def ai3(ha:a<=b.length):aV b.length (gI b a):=by
 unfold gI;rcases(ai6 ha).cs with⟨x,k,hr,hk⟩|⟨e,k,hr,he,hk⟩
 rotate_left
 .rw[hr];exact aV.er he hk
 rw[hr];dsimp only;rcases(ai5 hk).cs with⟨x,k,hr,hk⟩|⟨e,k,hr,he,hk⟩
 rotate_left
 .rw[hr];exact aV.er he hk
 rw[hr];dsimp only;exact aV.ok _ hk
def agO:∀(f d:Nat){a:Nat}{m:Int},a<=b.length->aV b.length (gE f d b a m)
 | 0,d,a,m,ha=>aV.er (by decide) ha
 | f+1,d,a,m,ha=>by
  unfold gE;refine aV.ite ?_ ?_
  .exact aV.er (by decide) ha
  .rcases(ai3 ha).cs with⟨x,k,hr,hk⟩|⟨e,k,hr,he,hk⟩
   rotate_left
   .rw[hr];exact aV.er he hk
   rw[hr];dsimp only;refine aV.ite ?_ ?_
   .exact aV.ok _ hk
   .rcases(agO f _ hk).cs with⟨x,k,hr,hk⟩|⟨e,k,hr,he,hk⟩
    rotate_left
    .rw[hr];exact aV.er he hk
    rw[hr];dsimp only;exact aV.ok _ hk
def ai7(ha:a<=b.length):aV b.length (gX b a):=agO _ _ ha
def yK:dn b (Ps b) (gNm b):=by
 intro a e ha;refine⟨HU ha,λhe=>?_,λhe=>?_⟩
 .unfold Ps ci;rw[ei he];rfl
 .subst he;unfold gNm;by_cases h:(ci true b a 0).2.2=0
  .rw[au h];refine .inl ⟨_,_,rfl,?_⟩;show ci true b a 0=((ci true b a 0).1,(ci true b a 0).2.1,0);exact Prod.ext rfl (Prod.ext rfl h)
  .rw[ak h];exact .inr ⟨_,_,rfl,h,rfl⟩
def N2(ha:a<=b.length):aV b.length (yl b a):=by
 unfold yl;exact(Zj ha).bd λx k hk=>aV.ite (aV.er (by decide) hk) ((za hk).bd λmn k hk=>aV.ite ((za hk).bd λmx k hk=>aV.ite (aV.er (by decide) hk) (aV.ok _ hk)) (aV.ok _ hk))
def agR(ha:a<=b.length):aV b.length (Ce b a):=by
 unfold Ce;exact(Ib ha).bd λt k hk=>aV.ite ((N2 hk).bd λl k hk=>aV.ok _ hk) (aV.er (by decide) hk)
def agP(ha:a<=b.length):aV b.length (CV b a):=by
 unfold CV;exact(Ib ha).bd λt k hk=>(Zj hk).bd λx k hk=>aV.ite (aV.er (by decide) hk) (aV.ok _ hk)
end
def Bk{α:Type}(one:Af->Nat->Rd α)(enc:α->Af)(x:α):Prop:=∀(b:Af)(a:Nat)(r:Af),b.drop a=enc x++r->one b a = .ok (x,a+(enc x).length)
def Vo{t:Int}:qh t=true↔1<=t/\t<=4:=by
 unfold qh nuB Ep;simp only[sC,beq_iff_eq];omega
def xI{t:Int}:Ep t=true↔t=3\/t=4:=by
 unfold Ep;simp only[sC,beq_iff_eq]
def ZF{x:Ft}(h:MS x=0):x.ps.length<=8/\x.rs.length<=8/\(∀t∈x.ps,qh t=true)/\∀t∈x.rs,qh t=true:=by
 unfold MS at h;by_cases h1:x.ps.length>8\/x.rs.length>8
 .rw[au h1]at h;cases h
 rw[ak h1]at h;by_cases h2:pH x.ps=false\/pH x.rs=false
 .rw[au h2]at h;cases h
 have k:∀l,¬pH l=false->∀t∈l,qh t=true:=λl hl=>by
  have:pH l=true:=by simpa using hl
  unfold pH at this;exact fk.1 this
 exact⟨by omega,by omega,k _ λg=>h2 (.inl g),k _ λg=>h2 (.inr g)⟩
def Pd(l:Lm):Prop:=(0<=l.mn/\l.mn<4294967296)/\(l.hs=true->l.mn<=l.mx/\l.mx<4294967296)/\(l.hs=false->l.mx=0)
def ZQ{l:Lm}{most:Int}(hm:most<4294967296)(h:Qb l most=true):Pd l:=by
 unfold Qb at h;by_cases h1:l.mn<0\/l.mn>most
 .rw[au h1]at h;cases h
 rw[ak h1]at h;by_cases h2:l.hs=false
 .rw[au h2,beq_iff_eq]at h;exact⟨by omega,(λq=>by rw[h2]at q;cases q),λ_=>h⟩
 .rw[ak h2,cW,gj,gj]at h;exact⟨by omega,λ_=>by omega,λq=>absurd q h2⟩
def aab{x:Tb}(h:KA x=0):(x.e=3\/x.e=4)/\Pd x.l:=by
 unfold KA at h;by_cases h1:Ep x.e=false
 .rw[au h1]at h;cases h
 rw[ak h1]at h;by_cases h2:Qb x.l 1024=false
 .rw[au h2]at h;cases h
 exact⟨xI.1 (by simpa using h1),ZQ (most:=1024) (by decide) (by simpa using h2)⟩
def Nf{l:Lm}(h:Nc l=0):Pd l:=by
 unfold Nc at h;by_cases h2:Qb l 256=false
 .rw[au h2]at h;cases h
 exact ZQ (most:=256) (by decide) (by simpa using h2)
def aeZ{g:Gl}(h:Vv g=0):qh g.v=true:=by
 unfold Vv at h;by_cases h1:qh g.v=false
 .rw[au h1]at h;cases h
 .simpa using h1
def ZL{x:Im}(h:M1 x=0):Aj x.m=0/\Aj x.n=0/\(0<=x.k/\x.k<=3)/\Fp x=x/\(x.k=0->tC x.f=true)/\(x.k=1->KA ⟨x.te,x.tl⟩=0)/\(x.k=2->Nc x.me=0)/\(x.k=3->Vv x.g=0):=by
 unfold M1 at h;by_cases h1:Aj x.m≠0
 .rw[au h1]at h;exact absurd h h1
 rw[ak h1]at h;by_cases h2:Aj x.n≠0
 .rw[au h2]at h;exact absurd h h2
 rw[ak h2]at h;by_cases h3:x.k<0\/x.k>3\/Fp x≠x
 .rw[au h3]at h;cases h
 rw[ak h3]at h;refine⟨Decidable.not_not.1 h1,Decidable.not_not.1 h2,by omega,Decidable.not_not.1 λq=>h3 (.inr (.inr q)),λq=>?_,λq=>?_,λq=>?_,λq=>?_⟩
 .rw[ak (by omega),ak (by omega),ak (by omega)]at h;by_cases h4:tC x.f=false
  .rw[au h4]at h;cases h
  .simpa using h4
 .rw[au q]at h;exact h
 .rw[ak (by omega),au q]at h;exact h
 .rw[ak (by omega),ak (by omega),au q]at h;exact h
def ji{n:Int}:tC n=true↔0<=n/\n<4294967296:=by
 unfold tC;simp only[cW,gj,ge_iff_le]
section
def agH(t:Int):BZ t=qh t:=by
 unfold BZ qh nuB Ep;rw[Bv];simp only[cW,sC,gj,beq_iff_eq];omega
def Gq{t:Int}(h:qh t=true):WX 191 [.int .i64 t] (i8 t):=λl hl=>yY (l:=l) (e:=0) (by omega) t (by rw[agH];exact h)
def sA{s:Af}(h:Aj s=0):WX 106 [.str s] (A6 s):=λl hl=>by
 have hs:s.length<=64/\uv s=true:=by
  unfold Aj at h;by_cases h1:s.length>64
  .rw[au h1]at h;cases h
  rw[ak h1]at h;by_cases h2:uv s=false
  .rw[au h2]at h;cases h
  .exact⟨by omega,by simpa using h2⟩
 have c:=NN true l s 0 ⟨by omega,by omega⟩;have e:wN (true&&(0:Int)==0) l 0 s=(l++A6 s,0):=by
  unfold wN A6;simp[hs.2];omega
 rw[e]at c;exact c
def S0{y:Lm}(h:Pd y):Qb y 4294967295=true:=by
 obtain⟨h1,h2,h3⟩:=h;unfold Qb;rw[ak (by omega)];by_cases q:y.hs=false
 .rw[au q,beq_iff_eq];exact h3 q
 .rw[ak q];have:=h2 (by simpa using q);simp only[cW,gj];omega
attribute[local go_sem] bZ wo wa dw ce az
def Vr{y:Lm}(h:Pd y):WX 99 [.agg (j7 y)] (o6 y):=by
 intro l hl;have hr:=h.1;refine bA iO ?_;have c1:=G1 y 4294967295;rw[S0 h,dc]at c1;have h2:=h.2.1;cases hh:y.hs
 .have e:o6 y=[0]++aD y.mn.toNat:=by unfold o6;rw[hh];rfl
  rw[e]at hl⊢;simp only[cP,i0,cj]at hl;simp only[go_sem,iO,dc,hh];rw[hh]at c1;refine aa (c1) ?_;refine aH (VE 0) rfl ?_;simp only[go_sem];refine aH (VF hr) rfl ?_;simp only[go_sem];exact cX (λ_ h=>by cases h) rfl (by rfl) (by rfl) (by simp[])
 .have e:o6 y=[1]++(aD y.mn.toNat++aD y.mx.toNat):=by unfold o6;rw[hh];rfl
  rw[e]at hl⊢;have hx:=h2 hh;simp only[cP,i0,cj]at hl;simp only[go_sem,iO,dc,hh];rw[hh]at c1;refine aa (c1) ?_;refine aH (VE 1) rfl ?_;simp only[go_sem];refine aH (VF hr) rfl ?_;simp only[go_sem];refine aH (VF (n:=y.mx) (by omega)) rfl ?_;simp only[go_sem];exact cX (λ_ h=>by cases h) rfl (by rfl) (by rfl) (by simp[])
def aal{x:Tb}(h:KA x=0):WX 97 [.agg (rM x)] (uE x):=by
 intro l hl;obtain⟨h1,h2⟩:=aab h;refine bA oQ ?_;have c1:=Je x.e;have c2:=G1 x.l 4294967295;rw[S0 h2,dc]at c2;rw[xI.2 h1]at c1;have c3:=Vr h2;rw[dc]at c3;unfold uE at hl⊢;simp only[cP]at hl;simp only[go_sem,oQ,dA];refine aa (c1) ?_;refine aa (c2) ?_;refine aH (Gq (Vo.2 (by omega))) rfl ?_;simp only[go_sem];refine aH (c3) rfl ?_;simp only[go_sem];exact cX (λ_ h=>by cases h) rfl (by rfl) (by rfl) (by simp[])
def aak{g:Gl}(h:qh g.v=true):WX 102 [.agg (Ek g)] (FB g):=by
 intro l hl;refine bA iN ?_;have c1:=Na g.v;rw[h]at c1;unfold FB at hl⊢;cases hm:g.mu
 .rw[hm]at hl;simp only[cP,i0,cj,gR,bB]at hl⊢;simp only[go_sem,iN,Ek,hm];refine aa (c1) ?_;refine aH (Gq h) rfl ?_;simp only[go_sem];refine aH (VE 0) rfl ?_;simp only[go_sem];exact cX (λ_ h=>by cases h) rfl (by rfl) (by rfl) (by simp[])
 .rw[hm]at hl;simp only[cP,i0,cj,aN]at hl⊢;simp only[go_sem,iN,Ek,hm];refine aa (c1) ?_;refine aH (Gq h) rfl ?_;simp only[go_sem];refine aH (VE 1) rfl ?_;simp only[go_sem];exact cX (λ_ h=>by cases h) rfl (by rfl) (by rfl) (by simp[])
end
section
def RP{α:Type}(f:FuncId)(rest:List AV)(b:Af)(t:PS α)(av:α->AV):Prop :=
 ∀(a:Nat)(e:Int),a<=b.length->RM f rest true b a e (av (t a e).1) (t a e).2.1 (t a e).2.2
def RP.of{α:Type}{f:FuncId}{rest:List AV}{b:Af}{g:Nat->Rd α}{d:α}{av:α->AV}(h0:∀a,a<=b.length->RX f rest b a (g a) d av)(h1:∀(a:Nat)(e:Int),a<=b.length->e≠0->RM f rest true b a e (av d) a e):RP f rest b (dF g d) av:=by
 intro a e ha;unfold dF;by_cases he:e=0
 .subst he;rw[au rfl];refine aQ.mono (h0 a ha) (λ_ h=>h) ?_;rintro r' σ' ⟨q,⟨_,⟨x,k,hr,rfl⟩|⟨e,hr,_,h2,h3⟩⟩,rfl,rfl⟩
  .rw[hr];exact⟨rfl,rfl⟩
  .rw[hr,<-h2,<-h3];exact⟨rfl,rfl⟩
 .rw[ak he];exact h1 a e ha he
variable{b:Af}(hb:b.length<1000000000)
include hb
def An:RP 148 [] b (cT b) (λx=>.int .u8 x.toNat):=λa e ha=>po true b a e ha hb
def NB:RP 150 [] b (kv b) (λx=>.int .i64 (x:Nat)):=λa e ha=>fj true b a e ha hb
def Yf(most:Int):RP 234 [.int .i64 most] b (pC b most) (λx=>.int .i64 (x:Nat)):=λa e ha=>H0 true b a e most ha hb
def aco:RP 231 [] b (Ps b) .str:=λa e ha=>UQ true b a e ha hb
def Yg:RP 237 [] b (dF (gV b) 0) (.int .i64):=RP.of (λa ha=>DZ ha hb) λa e ha he=>xK ha hb he
omit hb in
def pB(x:Lm):AV:=.agg (j7 x)
omit hb in
def u0:((((0:UInt8).toNat:Nat):Int)==1)=false:=rfl
omit hb in
def u1:((((1:UInt8).toNat:Nat):Int)==1)=true:=rfl
omit hb in
def d0:decide ((((0:UInt8).toNat:Nat):Int)>1)=false:=rfl
omit hb in
def d1:decide ((((1:UInt8).toNat:Nat):Int)>1)=false:=rfl
attribute[local go_sem] ro wo wa ce dw
def PP{a:Nat}{e:Int}(ha:a<=b.length)(he:e≠0):RM 163 [] true b a e (pB ⟨0,0,false⟩) a e:=by
 refine bA eO ?_;simp only[go_sem,eO];refine ae (po true b a e ha hb) ?_;simp only[go_sem,ei he,bY,li];refine ae (aS true b a e) ?_;simp only[go_sem,ei he]
 try simp only[go_sem]
 refine⟨by kernel_rfl,?_⟩;refine ae (fj true b _ _ ha hb) ?_;simp only[go_sem,ei he,bY,mZ,u0];refine ae (aS true b _ _) ?_;simp only[go_sem,ei he];refine ae (aS true b _ _) ?_;simp only[go_sem,j0 he];exact done [] _ [(1000,ro true b a e)] (by simp only[go_sem,pB,j7]) (by simp only[go_sem]) rfl ⟨rfl,rfl⟩
omit hb in
theorem N1(x:UInt8):x>1/\decide ((x.toNat:Int)>1)=true/\x≠1\/x=0\/x=1:=by
 by_cases h:x>1
 .refine .inl ⟨h,?_,λe=>by subst e;exact absurd h (by decide)⟩;have:=UInt8.lt_iff_toNat_lt.1 h;have e:(1:UInt8).toNat=1:=rfl;exact aK (by omega)
 .refine .inr ?_;have h2:x.toNat<=1:=by
   have:=mt UInt8.lt_iff_toNat_lt.2 h;have e:(1:UInt8).toNat=1:=rfl;omega
  rcases(show x.toNat=0\/x.toNat=1 by omega)with h3|h3
  .exact .inl (B3.1 h3)
  .exact .inr (B3.1 h3)
def YV{a:Nat}(ha:a<=b.length):RX 163 [] b a (yl b a) ⟨0,0,false⟩ pB:=by
 refine bA eO ?_;simp only[go_sem,eO];refine ae (po true b a 0 ha hb) ?_;unfold yl;rcases ow b a with⟨x,h1,h2,h3⟩|⟨h1,h2⟩
 rotate_left
 .rw[h1,fF];simp only[go_sem,nJ,h2];refine aE (aS true b a 3) ?_;have he:(3:Int)≠0:=by decide
  try simp only[go_sem]
  refine⟨by kernel_rfl,?_⟩;refine ae (fj true b _ _ ha hb) ?_;simp only[go_sem,ei he,bY,mZ,u0];refine ae (aS true b _ _) ?_;simp only[go_sem,ei he];refine ae (aS true b _ _) ?_;simp only[go_sem,j0 he];exact done [] _ [(1000,ro true b a 3)] (by simp only[go_sem,pB,j7]) (by simp only[go_sem]) rfl ⟨(⟨0,0,false⟩,a,3),dS.er rfl he ha,rfl,rfl⟩
 rw[h1,dq];clear ha;have ha:=h3;clear h3;simp only[go_sem,nJ,h2];clear h1 h2;generalize a+1=k at*;refine ae (aS true b (k:Nat) 0) ?_;rcases N1 x with⟨hx,hd,hn⟩|rfl|rfl
 .rw[au hx];simp only[go_sem,hd];refine ae (cA b k 4) ?_;have he:(4:Int)≠0:=by decide
  have hq:((x.toNat:Int)==1)=false:=by
   refine fK.2 λh=>hn (B3.1 ?_);have e:(1:UInt8).toNat=1:=rfl;omega
  simp only[go_sem];refine⟨by kernel_rfl,?_⟩;refine ae (fj true b _ _ ha hb) ?_;simp only[go_sem,ei he,bY,mZ,hq];refine ae (aS true b _ _) ?_;simp only[go_sem,ei he];refine ae (aS true b _ _) ?_;simp only[go_sem,j0 he];exact done [] _ [(1000,ro true b k 4)] (by simp only[go_sem,pB,j7]) (by simp only[go_sem]) rfl ⟨(⟨0,0,false⟩,k,4),dS.er rfl he ha,rfl,rfl⟩
 .simp only[go_sem,d0];refine⟨by kernel_rfl,?_⟩;refine ae (fj true b _ _ ha hb) ?_;rw[ak (by decide)];simp only[ak (show ¬(0:UInt8)=1 by decide)];rcases d_ ha with⟨n,k1,g1,g2,g3,g4⟩|⟨e,he,g1,g2⟩
  .rw[g1,dq];simp only[go_sem,nJ,g2,u0];refine aE (aS true b (k1:Nat) 0) ?_;refine aE (aS true b (k1:Nat) 0) ?_;exact done [] _ [(1000,ro true b k1 0)] (by simp only[go_sem,pB,j7]) (by simp only[go_sem]) rfl ⟨(⟨n,0,false⟩,k1,0),dS.ok rfl g4,rfl,rfl⟩
  .rw[g1,fF];simp only[go_sem,nJ,g2,u0];refine ae (aS true b (k:Nat) e) ?_;simp only[go_sem,ei he];refine ae (aS true b (k:Nat) e) ?_;simp only[go_sem,j0 he];exact done [] _ [(1000,ro true b k e)] (by simp only[go_sem,pB,j7]) (by simp only[go_sem]) rfl ⟨(⟨0,0,false⟩,k,e),dS.er rfl he ha,rfl,rfl⟩
 .simp only[go_sem,d1];refine⟨by kernel_rfl,?_⟩;refine ae (fj true b _ _ ha hb) ?_;rw[ak (by decide)];simp only[au rfl];rcases d_ ha with⟨n,k1,g1,g2,g3,g4⟩|⟨e,he,g1,g2⟩
  .rw[g1,dq];simp only[go_sem,nJ,g2,u1];refine⟨by kernel_rfl,?_⟩;refine ae (fj true b _ _ g4 hb) ?_;rcases d_ g4 with⟨m,k2,j1,j2,j3,j4⟩|⟨e,he,j1,j2⟩
   .rw[j1,dq];simp only[go_sem,nJ,j2,u1];refine ae (aS true b (k2:Nat) 0) ?_;by_cases hl:m<n
    .rw[au hl];have hl':(m:Int)<(n:Int):=by omega
     simp only[go_sem,aK hl'];refine aE (cA b k2 20) ?_;refine aE (aS true b (k2:Nat) 20) ?_;exact done [] _ [(1000,ro true b k2 20)] (by simp only[go_sem,pB,j7]) (by simp only[go_sem]) rfl ⟨(⟨0,0,false⟩,k2,20),dS.er rfl (by decide) j4,rfl,rfl⟩
    .rw[ak hl];have hl':¬(m:Int)<(n:Int):=by omega
     simp only[go_sem,aL hl'];refine aE (aS true b (k2:Nat) 0) ?_;exact done [] _ [(1000,ro true b k2 0)] (by simp only[go_sem,pB,j7]) (by simp only[go_sem]) rfl ⟨(⟨n,m,true⟩,k2,0),dS.ok rfl j4,rfl,rfl⟩
   .rw[j1,fF];simp only[go_sem,nJ,j2,u1];refine ae (aS true b (k1:Nat) e) ?_;simp only[go_sem,ei he];refine ae (aS true b (k1:Nat) e) ?_;simp only[go_sem,j0 he];exact done [] _ [(1000,ro true b k1 e)] (by simp only[go_sem,pB,j7]) (by simp only[go_sem]) rfl ⟨(⟨0,0,false⟩,k1,e),dS.er rfl he g4,rfl,rfl⟩
  .rw[g1,fF];simp only[go_sem,nJ,g2,u1];refine⟨by kernel_rfl,?_⟩;refine ae (fj true b _ _ ha hb) ?_;simp only[go_sem,ei he,bY,mZ];refine ae (aS true b (k:Nat) e) ?_;simp only[go_sem,ei he];refine ae (aS true b (k:Nat) e) ?_;simp only[go_sem,j0 he];exact done [] _ [(1000,ro true b k e)] (by simp only[go_sem,pB,j7]) (by simp only[go_sem]) rfl ⟨(⟨0,0,false⟩,k,e),dS.er rfl he ha,rfl,rfl⟩
def Pt:RP 163 [] b (dF (yl b) ⟨0,0,false⟩) pB:=RP.of (λa ha=>YV hb ha) λa e ha he=>PP hb ha he
