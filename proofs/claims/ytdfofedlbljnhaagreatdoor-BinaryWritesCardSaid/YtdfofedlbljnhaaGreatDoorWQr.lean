import Derived.Test.YtdfofedlbljnhaaGreatDoorWQq
set_option linter.all false
set_option maxRecDepth 100000
set_option maxHeartbeats 40000000
namespace Go.Proofs.YtdfofedlbljnhaaGreatDoor
section
open Go Go.Mw
def bx(q:Nat)(l:List Int):ao:=⟨44,1,[[.ms q 1 0 l.length]],true⟩
def ia(l:List Int):ao:=⟨3,1,l.map ri,false⟩
def oB(b:Bool)(p:Int):List Int:=if b=true then[p]else[]
attribute[local go_sem] cU dm aS bx ia
def afw(p:Int)(b:Bool)(l:List Int)(hl:l.length<=1000):aX pg nF [.int .i64 p,.bool b,.mp 1000 1 0 0] [(1000,bx 2000 l),(2000,ia l)] sb (λr' σ'=>r' = .tup []/\σ'=[(1000,bx 2000 (l++oB b p)),(2000,ia (l++oB b p))]):=by
 refine bT iF ?_;cases b
 .rw[show l++oB false p=l from gh l];simp only[go_sem,iF];exact da [] _ [(1000,bx 2000 l),(2000,ia l)] ⟨rfl,rfl⟩
 .have hap:tC 2000 3 1 0 l.length [[.int .i64 p]] (some ⟨3,1,l.map ri,false⟩)=some (.ms 2000 1 0 (l++oB true p).length,.reb 2000 ⟨3,1,(l++oB true p).map ri,false⟩):=by
   rw[bX 2000 3 1 _ ri _ _ rfl,aF ⟨by simp,by omega,.inr (by decide)⟩];simp[oB,ri]
  simp only[go_sem,iF,hap];exact da [] _ [(1000,bx 2000 (l++oB true p)),(2000,ia (l++oB true p))] ⟨rfl,rfl⟩
def fQ{p:Int}{b:Bool}{l:List Int}{d:Option Nat}{s:St}{K:St->Prop}(hl:l.length<=1000)(h1:ak s.heap 3=some (bx 900 l))(h2:ak s.heap 900=some (ia l))
  (hK:K (((St.mk (dD [900] s.env) ([(3,bx 900 (l++oB b p)),(900,ia (l++oB b p))]++dx [900] s.heap)).put d (.tup [])))):cR pg nF [.int .i64 p,.bool b,.mp 3 1 0 0] d s K:=by
 refine d_ (σ2:=[(3,bx 900 l),(900,ia l)]) (r3:=.tup []) (σ3:=[(3,bx 900 (l++oB b p)),(900,ia (l++oB b p))]) (afw p b l hl) [(1000,3),(2000,900)] [900] rfl rfl rfl rfl ?_ ?_ ?_ hK
 .simp[h1,h2]
 .simp[sb,bw,iU,ak]
 .simp[ak]
def pf(n:Nat)(p:Int):oB (decide ((n:Int)>0)) p=tq (n>0) p:=by
 unfold oB tq;by_cases h:n>0
 .rw[aF h,aL (by omega)];rfl
 .rw[au h,aM (by omega)];rfl
def afH(b:Bool)(p:Int):oB b p=tq (b=true) p:=rfl
def dP(c:Prop)[Decidable c](p:Int):(tq c p).length<=1:=by unfold tq;split<;>simp
def TE(m:Md):ac pg zf [cY m] (.sl 1 ((qt m).map ri)):=by
 refine aD pD ?_;rw[AB];simp only[go_sem,pD,cY,bC];refine⟨by kernel_rfl,?_⟩;refine ii (EG.new0 _ _ 900 1 3 (by decide) (by simp[go_sem])) ?_;refine ii (EG.nlm _ _ 3 (t:=44) (st:=1) (r:=[.nl]) (r':=[.ms 900 1 0 0]) (by simp only[go_sem]) ⟨.inr ⟨rfl,.inr ⟨900,1,rfl⟩⟩,trivial⟩) ?_;refine fQ (l:=[]) (by simp) (by simp only[go_sem]) (by simp only[go_sem]) ?_;simp only[go_sem,pf,fA];generalize h1:tq (m.ts.length>0) 1=l1;have g1:l1.length<=1:=by rw[<-h1];exact dP _ _
 refine⟨by kernel_rfl,?_⟩;refine fQ (l:=l1) (by omega) (by simp only[go_sem]) (by simp only[go_sem]) ?_;simp only[go_sem,pf,fA];generalize h2:l1++tq (m.ims.length>0) 2=l2;have g2:l2.length<=2:=by rw[<-h2,aJ];have:=dP (m.ims.length>0) 2;omega
 refine⟨by kernel_rfl,?_⟩;refine fQ (l:=l2) (by omega) (by simp only[go_sem]) (by simp only[go_sem]) ?_;simp only[go_sem,pf,fA];generalize h3:l2++tq (m.fs.length>0) 3=l3;have g3:l3.length<=3:=by rw[<-h3,aJ];have:=dP (m.fs.length>0) 3;omega
 refine⟨by kernel_rfl,?_⟩;refine fQ (l:=l3) (by omega) (by simp only[go_sem]) (by simp only[go_sem]) ?_;simp only[go_sem,pf,fA];generalize h4:l3++tq (m.tbs.length>0) 4=l4;have g4:l4.length<=4:=by rw[<-h4,aJ];have:=dP (m.tbs.length>0) 4;omega
 refine⟨by kernel_rfl,?_⟩;refine fQ (l:=l4) (by omega) (by simp only[go_sem]) (by simp only[go_sem]) ?_;simp only[go_sem,pf,fA];generalize h5:l4++tq (m.ms.length>0) 5=l5;have g5:l5.length<=5:=by rw[<-h5,aJ];have:=dP (m.ms.length>0) 5;omega
 refine⟨by kernel_rfl,?_⟩;refine fQ (l:=l5) (by omega) (by simp only[go_sem]) (by simp only[go_sem]) ?_;simp only[go_sem,pf,fA];generalize h6:l5++tq (m.gs.length>0) 6=l6;have g6:l6.length<=6:=by rw[<-h6,aJ];have:=dP (m.gs.length>0) 6;omega
 refine⟨by kernel_rfl,?_⟩;refine fQ (l:=l6) (by omega) (by simp only[go_sem]) (by simp only[go_sem]) ?_;simp only[go_sem,pf,fA];generalize h7:l6++tq (m.exs.length>0) 7=l7;have g7:l7.length<=7:=by rw[<-h7,aJ];have:=dP (m.exs.length>0) 7;omega
 refine⟨by kernel_rfl,?_⟩;refine fQ (l:=l7) (by omega) (by simp only[go_sem]) (by simp only[go_sem]) ?_;simp only[go_sem,afH,fA];generalize h8:l7++tq (m.hs=true) 8=l8;have g8:l8.length<=8:=by rw[<-h8,aJ];have:=dP (m.hs=true) 8;omega
 refine⟨by kernel_rfl,?_⟩;refine fQ (l:=l8) (by omega) (by simp only[go_sem]) (by simp only[go_sem]) ?_;simp only[go_sem,pf,fA];generalize h9:l8++tq (m.els.length>0) 9=l9;have g9:l9.length<=9:=by rw[<-h9,aJ];have:=dP (m.els.length>0) 9;omega
 refine⟨by kernel_rfl,?_⟩;refine fQ (l:=l9) (by omega) (by simp only[go_sem]) (by simp only[go_sem]) ?_;simp only[go_sem,pf,fA];generalize h10:l9++tq (m.ds.length>0) 10=l10;have g10:l10.length<=10:=by rw[<-h10,aJ];have:=dP (m.ds.length>0) 10;omega
 refine⟨by kernel_rfl,?_⟩;refine fQ (l:=l10) (by omega) (by simp only[go_sem]) (by simp only[go_sem]) ?_;simp only[go_sem,pf,fA];generalize h11:l10++tq (m.fs.length>0) 11=l11;have g11:l11.length<=11:=by rw[<-h11,aJ];have:=dP (m.fs.length>0) 11;omega
 refine⟨by kernel_rfl,?_⟩;refine fQ (l:=l11) (by omega) (by simp only[go_sem]) (by simp only[go_sem]) ?_;simp only[go_sem,pf,fA];generalize h12:l11++tq (m.ds.length>0) 12=l12;have g12:l12.length<=12:=by rw[<-h12,aJ];have:=dP (m.ds.length>0) 12;omega
 exact aq [900] (by simp only[go_sem,bG];rw[dQ (by simp)]) rfl
end
section
open Go Go.Mw
def Jr(ks:List Int):List (AV×AV):=ks.map λp=>(AV.int .i64 p,AV.bool true)
def CH(n:Int):∀ks:List Int,(n∉ks/\jx .i (.int .i64 n) (Jr ks)=some none)\/(n∈ks/\∃i p,jx .i (.int .i64 n) (Jr ks)=some (some i)/\(Jr ks)[i]?=some (p,.bool true))
 | []=>.inl ⟨by simp,rfl⟩
 | k::ks=>by
  by_cases h:n=k
  .subst h;refine .inr ⟨by simp,0,_,?_,rfl⟩;simp[Jr,jx,GI]
  .have e:jx .i (.int .i64 n) (Jr (k::ks))=(jx .i (.int .i64 n) (Jr ks)).map λq=>q.map (· + 1):=by
    have hb:(n==k)=false:=by simpa using h
    simp[Jr,jx,GI,hb]
   rcases CH n ks with⟨h1,h2⟩|⟨h1,i,p,h2,h3⟩
   .exact .inl ⟨by simp[h,h1],by rw[e,h2];rfl⟩
   .exact .inr ⟨by simp[h1],i+1,p,by rw[e,h2];rfl,by simpa[Jr]using h3⟩
def Yw{n:Int}{ks:List Int}(h:n∉ks):KA .i (.int .i64 n) (.bool true) (Jr ks)=some (Jr (ks++[n])):=by
 unfold KA;rcases CH n ks with⟨_,h2⟩|⟨h1,_⟩
 .rw[h2];simp[Jr]
 .exact absurd h1 h
def Th(K:AV->bE->Prop)(n:Int)(ks:List Int):lkS K false (.bool false) (Jr ks) (jx .i (.int .i64 n) (Jr ks))=K (.bool (decide (n∈ks))) .no:=by
 rcases CH n ks with⟨h1,h2⟩|⟨h1,i,p,h2,h3⟩
 .rw[h2,aM h1];rfl
 .rw[h2,aL h1];simp[lkS,h3]
def vj(m:Md):(qt m).length<=12:=by
 rw[AB];simp only[aJ];have:=dP (m.ts.length>0) 1;have:=dP (m.ims.length>0) 2;have:=dP (m.fs.length>0) 3;have:=dP (m.tbs.length>0) 4;have:=dP (m.ms.length>0) 5;have:=dP (m.gs.length>0) 6;have:=dP (m.exs.length>0) 7;have:=dP (m.hs=true) 8;have:=dP (m.els.length>0) 9;have:=dP (m.ds.length>0) 10;have:=dP (m.fs.length>0) 11;have:=dP (m.ds.length>0) 12;omega
attribute[local go_sem] cU dm aS bC eS
def PO{m:Md}(hc:m.cs.length<=9223372036854775807):ac pg Am [cY m] (.bool (Ig m)):=by
 refine aD qC ?_;have c:=TE m;have hpw:=Oa m;unfold Ig;simp only[cY,bC]at c;have hpl:=vj m;generalize qt m=ps at*;have h0:Jr [0]=[(AV.int .i64 0,AV.bool true)]:=rfl;have hf0:KA .i (.int .i64 0) (.bool true) []=some (Jr [0]):=rfl;simp only[go_sem,qC,cY];refine⟨rfl,rfl,_,hf0,?_⟩;refine aa (c) ?_;refine an (λi:Nat=>⟨[(14,.int .i64 i),(13,.int .i64 ps.length),(12,.sl 1 (ps.map ri)),(3,.mm 9 true),(1,.mp 1 12 0 0)],[(9,@ao.mk 0 0 [] false (.mp (Jr (0::ps.take i)))),(1,⟨33,12,[[.sl 2 (m.ts.map vK),.sl 13 (m.ims.map vM),.sl 3 (m.fs.map qB),.sl 4 (m.tbs.map xx),.sl 3 (m.ms.map p7),.sl 3 (m.gs.map zX),.sl 3 (m.exs.map y6),.bool m.hs,.int .i64 m.st,.sl 5 (m.els.map fR),.sl 4 (m.ds.map nz),.sl 3 (m.cs.map CB)]],true⟩)]⟩) (λi=>i<=ps.length) (λi=>ps.length-i) 0 (cQ _) (Wk.of ?_ ?_) ?_
 .simp only[go_sem];try simp
 .simp only[go_sem,mA];try simp[go_sem]
 intro i hi2;by_cases q1:(i:Int)<(ps.length:Int)
 .have hi':i<ps.length:=by omega
  have e8:=dv hi' (by omega);have hn:ah ps i∉0::ps.take i:=by
   rw[List.pairwise_cons]at hpw;have e:ps=ps.take i++ps.drop i:=(IS _ _).symm;have hd:ah ps i∈ps.drop i:=by rw[qk hi'];simp
   have hp2:=hpw.2;rw[e,List.pairwise_append]at hp2;intro hm;rcases eA.1 hm with q|q
   .have:=hpw.1 _ (List.mem_of_mem_drop hd);omega
   .have:=hp2.2.2 _ q _ hd;omega
  have hput:=Yw hn;have hnx:0::ps.take i++[ah ps i]=0::ps.take (i+1):=by rw[su hi'];rfl
  rw[hnx]at hput;simp only[go_sem,aL q1];refine⟨by omega,q1,rfl,rfl,_,hput,?_⟩;refine aE (i+1) (show i+1<=ps.length by omega) (show ps.length-(i+1)<ps.length-i by omega) (Wk.of ?_ ?_)
  .simp only[go_sem,e8];try simp
  .simp only[go_sem];try simp[go_sem]
 obtain rfl:i=ps.length:=by omega
 rw[eV];simp only[go_sem,aM q1];clear q1 hi2;have hin:∀a:Int,decide (a∈0::ps)=decide (a=0\/a∈ps):=λa=>by simp
 refine an (λq:Nat×Int=>⟨[(24,.int .i64 q.1),(23,.int .i64 m.cs.length),(22,.sl 3 (m.cs.map CB)),(6,.int .i64 q.2),(3,.mm 9 true)],[(9,@ao.mk 0 0 [] false (.mp (Jr (0::ps))))]⟩) (λq=>q.1<=m.cs.length/\xZ ps q.2 (m.cs.drop q.1)=xZ ps 0 m.cs) (λq=>m.cs.length-q.1) (0,0) ⟨cQ _,rfl⟩ (Wk.of ?_ ?_) ?_
 .simp only[go_sem];try simp
 .simp only[go_sem];try simp[go_sem]
 rintro⟨i,l⟩ ⟨hi2,ho⟩;simp only at hi2 ho;by_cases q1:(i:Int)<(m.cs.length:Int);rotate_left
 .rw[M9 (by omega),xZ]at ho;rw[<-ho];simp only[go_sem,aM q1];exact az
 have hi':i<m.cs.length:=by omega
 have e8:=dv hi' (by omega);rw[qk hi',xZ]at ho;by_cases q2:(ah m.cs i).af<l
 .rw[aL q2,iT,pq,dR]at ho;rw[<-ho];simp only[go_sem,aL q1,aL q2];refine⟨by omega,q1,?_⟩;exact az
 by_cases q3:(ah m.cs i).af=0\/(ah m.cs i).af∈ps
 .rw[aM q2,aL q3]at ho;simp only[pq,Bool.or_self,wE,bW]at ho;simp only[go_sem,aL q1,aM q2,Th,hin,aL q3];refine⟨by omega,q1,?_⟩;refine aE (i+1,(ah m.cs i).af) ⟨show i+1<=m.cs.length by omega,ho⟩ (show m.cs.length-(i+1)<m.cs.length-i by omega) (Wk.of ?_ ?_)
  .simp only[go_sem,e8];try simp
  .simp only[go_sem];try simp[go_sem]
 .rw[aM q2,aM q3]at ho;simp only[wE,Bool.or_true,pq,dR]at ho;rw[<-ho];simp only[go_sem,aL q1,aM q2,Th,hin,aM q3];refine⟨by omega,q1,?_⟩;exact az
end
section
open Go Go.Mw
def T6(o:Int):((o==2)=true\/((o==2)=false/\((o==3)=true\/((o==3)=false/\((o==4)=true\/((o==4)=false/\((o==11)=true\/(o==11)=false))))))):=by
 cases o==2<;>cases o==3<;>cases o==4<;>cases o==11<;>simp
variable{b:List UInt8}{a:Nat}(ha:a<=b.length)(hb:b.length<1000000000)
include ha hb
attribute[local go_sem] ro wo wa wx rx G3 dm GY
theorem ac5{e:Int}(he:e≠0):RM zg [] true b a e (.int .i64 0) a e:=by
 refine bT nP ?_;simp only[go_sem,nP];refine ae (pm true b a e ha hb) ?_;simp only[go_sem,pw he,bW,vV,to0,wr0];refine ae (aU true b a e) ?_;simp only[go_sem,pw he];exact eT [] _ [(1000,ro true b a e)] ⟨rfl,rfl⟩
theorem Ol{e:Int}(he:e≠0):RM xp [] true b a e (di z0) a e:=by
 refine bT k_ ?_;simp only[go_sem,k_];refine aH (ac5 ha hb he) ?_;refine ae (aU true b a e) ?_;simp only[go_sem,vI he];exact bS (Wk.nlm _ 2 (r':=aS z0) rfl (Av ..)) [] (di z0) [(1000,ro true b a e)] (by simp only[go_sem,aS];rfl) (by simp only[go_sem]) rfl ⟨rfl,rfl⟩
def exs(l:List bj):AV:=.sl 9 (l.map aS)
theorem Qj(most:Int)(hm:Vt most):RX j6 [.int .i64 most] b a (gE (b.length+1) 1 b a most) [] exs:=by
 refine bT gp ?_;simp only[go_sem,gp];refine an (λq:List bj×Nat×Nat=>⟨[(6,.int .i64 q.2.2),(5,.ms 900 9 0 q.1.length),(4,.nl),(1,.int .i64 most),(0,.mp 1000 4 0 0)],[(900,⟨58,9,q.1.map aS,false⟩),(1000,ro true b q.2.1 0)]⟩)
  (λq=>EI b (b.length+1) a most q.1 q.2.1 q.2.2) (λq=>b.length-q.2.1) ([],a,1) (ahx ha (Nat.lt_succ_self _)) ((Wk.nil _ 5 900 9 58 (by simp only[go_sem]) (.inl (by decide))).trans (Wk.of ?_ ?_)) ?_
 .simp only[go_sem,St.mknil];try simp[go_sem]
 .simp only[go_sem,St.mknil];try simp[go_sem]
 rintro⟨l,a1,d⟩ hE;replace hE:EI b (b.length+1) a most l a1 d:=hE;have ha1:a1<=b.length:=hE.1;have hl1:l.length+a<=a1:=hE.2.1;have hd1:d<=l.length+1:=hE.2.2.1;by_cases hd:(d:Int)>0
 .have hd':1<=d:=by omega
  by_cases hmo:(l.length:Int)>=most
  .simp only[go_sem,aL hd,aL hmo];refine aH (cI b a1 6) ?_;refine aH (Ol ha1 hb (show(6:Int)≠0 by decide)) ?_;refine aH (aU true b a1 6) ?_;refine bS (Wk.nil _ 4 901 9 58 (by simp only[go_sem]) (.inl (by decide))) [901] (exs []) [(1000,ro true b a1 6)] ?_ ?_ rfl ⟨([],a1,6),jw.er (VA hE hd' hmo) (by decide) ha1,rfl,rfl⟩
   .simp only[go_sem,St.mknil];rfl
   .simp only[go_sem,St.mknil]
  .simp only[go_sem,aL hd,aM hmo];refine yZ (YO ha1 hb) ⟨by decide,by decide⟩ (λ_=>rfl) (by simp) rfl (λ_=>rfl) (by rfl) ?_;rintro⟨x,a2,e2⟩ ⟨p1,p2⟩;replace p1:a2<=b.length:=p1;rcases p2 with⟨x',k2,q1,q2⟩|⟨e,q1,he,q2,q3⟩
   .cases q2;have hE2:=aem hE hd' hmo q1;have hadv:=Si q1;have happ:=λys=>bX 900 58 9 l.length aS l ys rfl;simp only[go_sem,cL];refine ae (aU true b a2 0) ?_;have hw1:IntKind.i64.wrap ((d:Int)+1)=((d+1:Nat):Int):=by rw[wi (by omega) (by omega)];omega
    have hw2:IntKind.i64.wrap ((d:Int)-1)=((d-1:Nat):Int):=by rw[wi (by omega) (by omega)];omega
    have hda:s6 x.op d=if x.op=2\/x.op=3\/x.op=4 then d+1 else if x.op=11 then d-1 else d:=rfl
    rcases T6 x.op with h2|⟨h2,h3|⟨h3,h4|⟨h4,h5|h5⟩⟩⟩
    .rw[show s6 x.op d=d+1 by rw[hda,aF (.inl (eq_of_beq h2))]]at hE2;simp only[go_sem,h2,happ,hw1];refine⟨by omega,aE (l++[x],a2,d+1) hE2 (show b.length-a2<b.length-a1 by omega) (Wk.of ?_ ?_)⟩
     .simp only[go_sem]
      try simp
     .simp only[go_sem]
      try simp[aS,dm]
    .rw[show s6 x.op d=d+1 by rw[hda,aF (.inr (.inl (eq_of_beq h3)))]]at hE2;simp only[go_sem,h2,h3,happ,hw1];refine⟨by omega,aE (l++[x],a2,d+1) hE2 (show b.length-a2<b.length-a1 by omega) (Wk.of ?_ ?_)⟩
     .simp only[go_sem]
      try simp
     .simp only[go_sem]
      try simp[aS,dm]
    .rw[show s6 x.op d=d+1 by rw[hda,aF (.inr (.inr (eq_of_beq h4)))]]at hE2;simp only[go_sem,h2,h3,h4,happ,hw1];refine⟨by omega,aE (l++[x],a2,d+1) hE2 (show b.length-a2<b.length-a1 by omega) (Wk.of ?_ ?_)⟩
     .simp only[go_sem]
      try simp
     .simp only[go_sem]
      try simp[aS,dm]
    .rw[show s6 x.op d=d-1 by rw[hda,au (by have:=ne_of_beq_false h2;have:=ne_of_beq_false h3;have:=ne_of_beq_false h4;omega),aF (eq_of_beq h5)]]at hE2;simp only[go_sem,h2,h3,h4,h5,happ,hw2];refine⟨by omega,aE (l++[x],a2,d-1) hE2 (show b.length-a2<b.length-a1 by omega) (Wk.of ?_ ?_)⟩
     .simp only[go_sem]
      try simp
     .simp only[go_sem]
      try simp[aS,dm]
    .rw[show s6 x.op d=d by rw[hda,au (by have:=ne_of_beq_false h2;have:=ne_of_beq_false h3;have:=ne_of_beq_false h4;omega),au (ne_of_beq_false h5)]]at hE2;simp only[go_sem,h2,h3,h4,h5,happ];refine⟨by omega,aE (l++[x],a2,d) hE2 (show b.length-a2<b.length-a1 by omega) (Wk.of ?_ ?_)⟩
     .simp only[go_sem]
      try simp
     .simp only[go_sem]
      try simp[aS,dm]
   .obtain rfl:e2=e:=q3;simp only[go_sem];refine ae (aU true b a2 e2) ?_;simp only[go_sem,vI he];refine bS (Wk.nil _ 4 901 9 58 (by simp only[go_sem]) (.inl (by decide))) [901] (exs []) [(1000,ro true b a2 e2)] ?_ ?_ rfl ⟨([],a2,e2),jw.er (aao hE hd' hmo q1) he p1,rfl,rfl⟩
    .simp only[go_sem,St.mknil];rfl
    .simp only[go_sem,St.mknil]
 .obtain rfl:d=0:=by omega
  simp only[go_sem,aM hd];refine done [900] (exs l) [(1000,ro true b a1 0)] ?_ (by simp only[go_sem]) rfl ⟨(l,a1,0),jw.ok (aan hE) ha1,rfl,rfl⟩;simp only[go_sem,cU,bG];rw[dQ (by rw[cU];omega)];rfl
end
section
open Go Go.Mw
abbrev PS(α:Type):=Nat->Int->α×Nat×Int
def eM{α:Type}(b:List UInt8)(t:PS α)(g:Nat->Rd α):Prop:=∀a e,a<=b.length->(t a e).2.1<=b.length/\(e≠0->(t a e).2=(a,e)) /\
 (e=0->(∃x k,g a = .ok (x,k)/\t a e=(x,k,0))\/∃e' k,g a = .error (e',k)/\e'≠0/\(t a e).2=(k,e'))
def pb{α β:Type}(t:PS α)(u:α->PS β):PS β:=λa e=>u (t a e).1 (t a e).2.1 (t a e).2.2
def pP{α:Type}(x:α):PS α:=λa e=>(x,a,e)
def pF{α:Type}(c:Int)(x:α):PS α:=λa e=>(x,a,if e=0 then c else e)
def pI{α:Type}(c:Prop)[Decidable c](t u:PS α):PS α:=λa e=>if c then t a e else u a e
def eM.bd{α β:Type}{b:List UInt8}{t:PS α}{g:Nat->Rd α}{u:α->PS β}{r:α->Nat->Rd β}(h:eM b t g)(hu:∀x,eM b (u x) (r x)):eM b (pb t u) (λa=>fP (g a) r):=by
 intro a e ha;obtain⟨h1,h2,h3⟩:=h a e ha;obtain⟨u1,u2,u3⟩:=hu (t a e).1 (t a e).2.1 (t a e).2.2 h1;refine⟨u1,λhe=>?_,λhe=>?_⟩
 .have h4:=h2 he;have h5:(t a e).2.2=e:=by rw[h4]
  have h6:(t a e).2.1=a:=by rw[h4]
  show(u _ _ _).2=_;rw[u2 (by rw[h5];exact he),h5,h6]
 .rcases h3 he with⟨x,k,g1,g2⟩|⟨e',k,g1,g2,g3⟩
  .have u4:=u3 (by rw[g2]);show(∃y j,fP (g a) r=_/\u (t a e).1 (t a e).2.1 (t a e).2.2=_)\/∃e' j,fP (g a) r=_/\_/\(u (t a e).1 (t a e).2.1 (t a e).2.2).2=_;rw[g1,jg];rw[g2]at u4⊢;exact u4
  .have h5:(t a e).2.2=e':=by rw[g3]
   have h6:(t a e).2.1=k:=by rw[g3]
   refine .inr ⟨e',k,by show fP (g a) r=_;rw[g1,oT],g2,?_⟩;show(u _ _ _).2=_;rw[u2 (by rw[h5];exact g2),h5,h6]
def eM.pure{α:Type}{b:List UInt8}(x:α):eM b (pP x) (λa=>.ok (x,a)):=λa e ha=>⟨ha,λ_=>rfl,λhe=>.inl ⟨x,a,rfl,by rw[he];rfl⟩⟩
def eM.fail{α:Type}{b:List UInt8}{c:Int}(hc:c≠0)(x:α):eM b (pF c x) (λa=>.error (c,a)):=λa e ha=>⟨ha,λhe=>by unfold pF;rw[au he],λhe=>.inr ⟨c,a,rfl,hc,by unfold pF;rw[aF he]⟩⟩
def eM.ite{α:Type}{b:List UInt8}{c:Prop}[Decidable c]{t u:PS α}{g r:Nat->Rd α}(h:eM b t g)(hu:eM b u r):eM b (pI c t u) (λa=>if c then g a else r a):=by
 intro a e ha;unfold pI;by_cases hc:c
 .simp only[aF hc];exact h a e ha
 .simp only[au hc];exact hu a e ha
def eM.congr{α:Type}{b:List UInt8}{t:PS α}{g r:Nat->Rd α}(h:eM b t g)(e:∀a,g a=r a):eM b t r:=by rw[<-funext e];exact h
def G4{α β:Type}{c:Prop}[Decidable c]{e:Int×Nat}{x:α}{k:Nat}{f:α->Nat->Rd β}:fP (if c then .error e else .ok (x,k)) f=if c then .error e else f x k:=by
 by_cases h:c
 .rw[aF h,aF h];rfl
 .rw[au h,au h];rfl
def I4(c:Int)(p:Prop)[Decidable p]:PS Unit:=pI p (pF c ()) (pP ())
def eM.fi{β:Type}{b:List UInt8}{c:Int}(hc:c≠0){p:Prop}[Decidable p]{u:Unit->PS β}{r:Nat->Rd β}(hu:eM b (u ()) r):eM b (pb (I4 c p) u) (λa=>if p then .error (c,a)else r a) :=
 (((eM.fail hc ()).ite (eM.pure ())).bd (r:=λ_=>r) λ_=>hu).congr λa=>G4
def fX(b:List UInt8):PS UInt8:=λa e=>kG (e==0) b a e
def tL(b:List UInt8):PS Nat:=λa e=>rU (e==0) 32 b a e
def pC(b:List UInt8)(most:Int):PS Nat:=λa e=>cA (e==0) b a e most
def Yh(b:List UInt8):PS (List UInt8):=λa e=>dl (e==0) b a e
def iV{α:Type}(g:Nat->Rd α)(d:α):PS α:=λa e=>if e=0 then(match g a with
 | .ok (x,k)=>(x,k,0)
 | .error (e',k)=>(d,k,e'))else(d,a,e)
def Zm{α:Type}(b:List UInt8)(g:Nat->Rd α):Prop:=∀a,a<=b.length->(∀x k,g a = .ok (x,k)->k<=b.length)/\∀e k,g a = .error (e,k)->e≠0/\k<=b.length
def eM.wel{α:Type}{b:List UInt8}{t:PS α}{g:Nat->Rd α}(h:eM b t g):Zm b g:=by
 intro a ha;obtain⟨h1,_,h2⟩:=h a 0 ha;rcases h2 rfl with⟨x,k,g1,g2⟩|⟨e',k,g1,g2,g3⟩
 .rw[g2]at h1;refine⟨λx' k' h3=>?_,λe k' h3=>?_⟩
  .rw[g1]at h3;cases h3;exact h1
  .rw[g1]at h3;cases h3
 .have h4:(t a 0).2.1=k:=by rw[g3]
  refine⟨λx' k' h3=>?_,λe k' h3=>?_⟩
  .rw[g1]at h3;cases h3
  .rw[g1]at h3;cases h3;exact⟨g2,h4▸h1⟩
def Zm.oks{α:Type}{b:List UInt8}{g:Nat->Rd α}(h:Zm b g)(d:α):eM b (iV g d) g:=by
 intro a e ha;obtain⟨h1,h2⟩:=h a ha;unfold iV;by_cases he:e=0
 .rw[aF he];cases hg:g a with
  | ok q =>
   obtain⟨x,k⟩:=q;exact⟨h1 _ _ hg,λh=>absurd he h,λ_=>.inl ⟨x,k,rfl,rfl⟩⟩
  | error q =>
   obtain⟨e',k⟩:=q;exact⟨(h2 _ _ hg).2,λh=>absurd he h,λ_=>.inr ⟨e',k,rfl,(h2 _ _ hg).1,rfl⟩⟩
 .rw[au he];exact⟨ha,λ_=>rfl,λh=>absurd h he⟩
variable{b:List UInt8}
theorem DL:eM b (fX b) (gB b):=by
 intro a e ha;refine⟨Yx ha,λhe=>?_,λhe=>?_⟩
 .unfold fX;rw[pw he,vV]
 .subst he;rcases zq b a with⟨x,h1,h2,h3⟩|⟨h1,h2⟩
  .exact .inl ⟨x,a+1,h1,h2⟩
  .exact .inr ⟨3,a,h1,by decide,by show(kG true b a 0).2=_;rw[h2]⟩
theorem tK:eM b (tL b) (gU b):=by
 intro a e ha;refine⟨Yz ha,λhe=>?_,λhe=>?_⟩
 .unfold tL;rw[pw he,BW]
 .subst he;rcases vm ha with⟨x,k,h1,h2,_⟩|⟨e,he,h1,h2⟩
  .exact .inl ⟨x,k,h1,h2⟩
  .exact .inr ⟨e,a,h1,he,by show(rU true 32 b a 0).2=_;rw[h2]⟩
theorem Fq(most:Int):eM b (pC b most) (λa=>gC b a most):=by
 intro a e ha;refine⟨pj ha,λhe=>?_,λhe=>?_⟩
 .unfold pC;rw[pw he,KB]
 .subst he;rcases DR most ha with⟨x,k,h1,h2,_⟩|⟨e,he,h1,h2⟩
  .exact .inl ⟨x,k,h1,h2⟩
  .exact .inr ⟨e,a,h1,he,by show(cA true b a 0 most).2=_;rw[h2]⟩
def pN{α:Type}(one:PS α):Nat->PS (List α)
 | 0=>pP []
 | n+1=>λa e=>if e=0 then pb one (λx=>pb (pN one n) λl=>pP (x::l)) a e else([],a,e)
def eM.n{α:Type}{one:PS α}{g:List UInt8->Nat->Rd α}(h:eM b one (g b)):∀n,eM b (pN one n) (gN g n b)
 | 0=>eM.pure []
 | n+1=>by
  have h1:=h.bd (u:=λx=>pb (pN one n) λl=>pP (x::l)) (r:=λx k=>fP (gN g n b k) λl k'=>.ok (x::l,k')) λx=>(eM.n h n).bd λl=>eM.pure (x::l);intro a e ha;obtain⟨q1,q2,q3⟩:=h1 a e ha;unfold pN;by_cases he:e=0
  .rw[aF he];exact⟨q1,q2,q3⟩
  .rw[au he];exact⟨ha,λ_=>rfl,λh=>absurd h he⟩
def pL{α:Type}(b:List UInt8)(one:PS α)(most:Int):PS (List α):=pb (pC b most) (pN one)
def eM.l{α:Type}{one:PS α}{g:List UInt8->Nat->Rd α}(h:eM b one (g b))(most:Int):eM b (pL b one most) (Vq g most b):=(Fq most).bd λn=>h.n n
end
section
open Go Go.Mw
def aZ{α:Type}(L:Nat)(r:Rd α):Prop:=(∀x k,r = .ok (x,k)->k<=L)/\∀e k,r = .error (e,k)->e≠0/\k<=L
def aZ.ok{α:Type}{L k:Nat}(x:α)(h:k<=L):aZ L (.ok (x,k):Rd α):=⟨λ_ _ e=>(by cases e;exact h),λ_ _ e=>(by cases e)⟩
def aZ.er{α:Type}{L k:Nat}{e:Int}(he:e≠0)(h:k<=L):aZ L (.error (e,k):Rd α):=⟨λ_ _ e=>(by cases e),λ_ _ e=>(by cases e;exact⟨he,h⟩)⟩
def aZ.ite{α:Type}{L:Nat}{c:Prop}[Decidable c]{r s:Rd α}(h1:aZ L r)(h2:aZ L s):aZ L (if c then r else s):=by
 by_cases h:c
 .rw[aF h];exact h1
 .rw[au h];exact h2
def aZ.mt{α β:Type}{L:Nat}{r:Rd α}{f:α->Nat->Rd β}(h:aZ L r)(hf:∀x k,k<=L->aZ L (f x k)):aZ L (match r with
  | .ok (x,k)=>f x k
  | .error e=>.error e):=by
 cases hr:r with
 | ok q =>
  obtain⟨x,k⟩:=q;exact hf x k (h.1 x k hr)
 | error e =>
  obtain⟨e,k⟩:=e;exact aZ.er (h.2 e k hr).1 (h.2 e k hr).2
def aZ.cs{α:Type}{L:Nat}{r:Rd α}(h:aZ L r):(∃x k,r = .ok (x,k)/\k<=L)\/∃e k,r = .error (e,k)/\e≠0/\k<=L:=by
 cases hr:r with
 | ok q=>exact .inl ⟨q.1,q.2,rfl,h.1 _ _ hr⟩
 | error q=>exact .inr ⟨q.1,q.2,rfl,h.2 _ _ hr⟩
def aZ.bd{α β:Type}{L:Nat}{r:Rd α}{f:α->Nat->Rd β}(h:aZ L r)(hf:∀x k,k<=L->aZ L (f x k)):aZ L (fP r f):=aZ.mt h hf
variable{b:List UInt8}{a:Nat}
def Zf(ha:a<=b.length):aZ b.length (gB b a):=DL.wel a ha
def zJ(ha:a<=b.length):aZ b.length (gU b a):=tK.wel a ha
def ai5{most:Int}(ha:a<=b.length):aZ b.length (gC b a most):=(Fq most).wel a ha
theorem adQ{bits:Nat}(ha:a<=b.length):aZ b.length (gS bits b a):=by
 have:=Ha (b.drop a) bits;unfold gS;by_cases h:(iK (b.drop a) bits).2.2=0
 .rw[aF h];exact aZ.ok _ (by simp only[jJ]at this;omega)
 .rw[au h];exact aZ.er h ha
theorem M6(ha:a<=b.length):aZ b.length (gV b a):=by
 unfold gV;rcases(Zf ha).cs with⟨x,k,hr,hk⟩|⟨e,k,hr,he,hk⟩
 rotate_left
 .rw[hr];exact aZ.er he hk
 rw[hr];dsimp only;refine aZ.ite ?_ ?_
 .exact aZ.ok _ hk
 .exact aZ.er (by decide) hk
theorem ai7(ha:a<=b.length):aZ b.length (gK b a):=by
 unfold gK;rcases(adQ ha).cs with⟨x,k,hr,hk⟩|⟨e,k,hr,he,hk⟩
 rotate_left
 .rw[hr];exact aZ.er he hk
 rw[hr];dsimp only;refine aZ.ite ?_ ?_
 .exact aZ.ok _ hk
 .refine aZ.ite ?_ ?_
  .exact aZ.ok _ hk
  .refine aZ.ite ?_ ?_
   .exact aZ.ok _ hk
   .exact aZ.er (by decide) hk
theorem ai9(ha:a<=b.length):aZ b.length (gO b a):=by
 unfold gO;rcases(Zf ha).cs with⟨x,k,hr,hk⟩|⟨e,k,hr,he,hk⟩
 rotate_left
 .rw[hr];exact aZ.er he hk
 rw[hr];dsimp only;refine aZ.ite ?_ ?_
 .rcases(zJ hk).cs with⟨x,k,hr,hk⟩|⟨e,k,hr,he,hk⟩
  rotate_left
  .rw[hr];exact aZ.er he hk
  rw[hr];dsimp only;refine aZ.ite ?_ ?_
  .exact aZ.ok _ hk
  .exact aZ.er (by decide) hk
 .refine aZ.ite ?_ ?_
  .exact aZ.ok _ hk
  .exact aZ.er (by decide) hk
def aha:∀(n:Nat){a:Nat},a<=b.length->aZ b.length (gL n b a)
 | 0,a,ha=>aZ.ok _ ha
 | n+1,a,ha=>by
  unfold gL;rcases(zJ ha).cs with⟨x,k,hr,hk⟩|⟨e,k,hr,he,hk⟩
  rotate_left
  .rw[hr];exact aZ.er he hk
  rw[hr];dsimp only;rcases(aha n hk).cs with⟨x,k,hr,hk⟩|⟨e,k,hr,he,hk⟩
  rotate_left
  .rw[hr];exact aZ.er he hk
  rw[hr];dsimp only;exact aZ.ok _ hk
theorem ai4(ha:a<=b.length):aZ b.length (gA b a):=by
 unfold gA;rcases(zJ ha).cs with⟨x,k,hr,hk⟩|⟨e,k,hr,he,hk⟩
 rotate_left
 .rw[hr];exact aZ.er he hk
 rw[hr];dsimp only;refine aZ.ite ?_ ?_
 .exact aZ.er (by decide) hk
 .refine aZ.ite ?_ ?_
  .rcases(zJ hk).cs with⟨x,k,hr,hk⟩|⟨e,k,hr,he,hk⟩
   rotate_left
   .rw[hr];exact aZ.er he hk
   rw[hr];dsimp only;rcases(zJ hk).cs with⟨x,k,hr,hk⟩|⟨e,k,hr,he,hk⟩
   rotate_left
   .rw[hr];exact aZ.er he hk
   rw[hr];dsimp only;exact aZ.ok _ hk
  .rcases(zJ hk).cs with⟨x,k,hr,hk⟩|⟨e,k,hr,he,hk⟩
   rotate_left
   .rw[hr];exact aZ.er he hk
   rw[hr];dsimp only;exact aZ.ok _ hk
theorem ai8{i:Int}(ha:a<=b.length):aZ b.length (gM i b a):=by
 unfold gM;refine aZ.ite ?_ ?_
 .rcases(ai7 ha).cs with⟨⟨p,q,r⟩,k,hr,hk⟩|⟨e,k,hr,he,hk⟩
  rotate_left
  .rw[hr];exact aZ.er he hk
  rw[hr];dsimp only;exact aZ.ok _ hk
 .refine aZ.ite ?_ ?_
  .rcases(ai5 ha).cs with⟨x,k,hr,hk⟩|⟨e,k,hr,he,hk⟩
   rotate_left
   .rw[hr];exact aZ.er he hk
   rw[hr];dsimp only;rcases(aha _ hk).cs with⟨x,k,hr,hk⟩|⟨e,k,hr,he,hk⟩
   rotate_left
   .rw[hr];exact aZ.er he hk
   rw[hr];dsimp only;rcases(zJ hk).cs with⟨x,k,hr,hk⟩|⟨e,k,hr,he,hk⟩
   rotate_left
   .rw[hr];exact aZ.er he hk
   rw[hr];dsimp only;exact aZ.ok _ hk
  .refine aZ.ite ?_ ?_
   .rcases(zJ ha).cs with⟨x,k,hr,hk⟩|⟨e,k,hr,he,hk⟩
    rotate_left
    .rw[hr];exact aZ.er he hk
    rw[hr];dsimp only;rcases(zJ hk).cs with⟨x,k,hr,hk⟩|⟨e,k,hr,he,hk⟩
    rotate_left
    .rw[hr];exact aZ.er he hk
    rw[hr];dsimp only;exact aZ.ok _ hk
   .refine aZ.ite ?_ ?_
    .rcases(zJ ha).cs with⟨x,k,hr,hk⟩|⟨e,k,hr,he,hk⟩
     rotate_left
     .rw[hr];exact aZ.er he hk
     rw[hr];dsimp only;refine aZ.ite ?_ ?_
     .rcases(M6 hk).cs with⟨x,k,hr,hk⟩|⟨e,k,hr,he,hk⟩
      rotate_left
      .rw[hr];exact aZ.er he hk
      rw[hr];dsimp only;exact aZ.ok _ hk
     .exact aZ.er (by decide) hk
    .refine aZ.ite ?_ ?_
     .rcases(zJ ha).cs with⟨x,k,hr,hk⟩|⟨e,k,hr,he,hk⟩
      rotate_left
      .rw[hr];exact aZ.er he hk
      rw[hr];dsimp only;exact aZ.ok _ hk
     .refine aZ.ite ?_ ?_
      .rcases(ai4 ha).cs with⟨⟨p,q,r⟩,k,hr,hk⟩|⟨e,k,hr,he,hk⟩
       rotate_left
       .rw[hr];exact aZ.er he hk
       rw[hr];dsimp only;exact aZ.ok _ hk
      .refine aZ.ite ?_ ?_
       .rcases(adQ ha).cs with⟨x,k,hr,hk⟩|⟨e,k,hr,he,hk⟩
        rotate_left
        .rw[hr];exact aZ.er he hk
        rw[hr];dsimp only;exact aZ.ok _ hk
       .refine aZ.ite ?_ ?_
        .rcases(adQ ha).cs with⟨x,k,hr,hk⟩|⟨e,k,hr,he,hk⟩
         rotate_left
         .rw[hr];exact aZ.er he hk
         rw[hr];dsimp only;exact aZ.ok _ hk
        .refine aZ.ite ?_ ?_
         .rcases(M6 ha).cs with⟨x,k,hr,hk⟩|⟨e,k,hr,he,hk⟩
          rotate_left
          .rw[hr];exact aZ.er he hk
          rw[hr];dsimp only;refine aZ.ite ?_ ?_
          .exact aZ.ok _ hk
          .exact aZ.er (by decide) hk
         .refine aZ.ite ?_ ?_
          .exact aZ.ok _ ha
          .rcases(zJ ha).cs with⟨x,k,hr,hk⟩|⟨e,k,hr,he,hk⟩
           rotate_left
           .rw[hr];exact aZ.er he hk
           rw[hr];dsimp only;exact aZ.ok _ hk
theorem ai6(ha:a<=b.length):aZ b.length (gI b a):=by
 unfold gI;rcases(ai9 ha).cs with⟨x,k,hr,hk⟩|⟨e,k,hr,he,hk⟩
 rotate_left
 .rw[hr];exact aZ.er he hk
 rw[hr];dsimp only;rcases(ai8 hk).cs with⟨x,k,hr,hk⟩|⟨e,k,hr,he,hk⟩
 rotate_left
 .rw[hr];exact aZ.er he hk
 rw[hr];dsimp only;exact aZ.ok _ hk
def ag9:∀(f d:Nat){a:Nat}{m:Int},a<=b.length->aZ b.length (gE f d b a m)
 | 0,d,a,m,ha=>aZ.er (by decide) ha
 | f+1,d,a,m,ha=>by
  unfold gE;refine aZ.ite ?_ ?_
  .exact aZ.er (by decide) ha
  .rcases(ai6 ha).cs with⟨x,k,hr,hk⟩|⟨e,k,hr,he,hk⟩
   rotate_left
   .rw[hr];exact aZ.er he hk
   rw[hr];dsimp only;refine aZ.ite ?_ ?_
   .exact aZ.ok _ hk
   .rcases(ag9 f _ hk).cs with⟨x,k,hr,hk⟩|⟨e,k,hr,he,hk⟩
    rotate_left
    .rw[hr];exact aZ.er he hk
    rw[hr];dsimp only;exact aZ.ok _ hk
def ai_(ha:a<=b.length):aZ b.length (gX b a):=ag9 _ _ ha
theorem Gv:eM b (Yh b) (gNm b):=by
 intro a e ha;refine⟨Od ha,λhe=>?_,λhe=>?_⟩
 .unfold Yh dl;rw[pw he];rfl
 .subst he;unfold gNm;by_cases h:(dl true b a 0).2.2=0
  .rw[aF h];refine .inl ⟨_,_,rfl,?_⟩;show dl true b a 0=((dl true b a 0).1,(dl true b a 0).2.1,0);exact Prod.ext rfl (Prod.ext rfl h)
  .rw[au h];exact .inr ⟨_,_,rfl,h,rfl⟩
theorem Vj(ha:a<=b.length):aZ b.length (LM b a):=by
 unfold LM;exact(Zf ha).bd λx k hk=>aZ.ite (aZ.er (by decide) hk) ((zJ hk).bd λmn k hk=>aZ.ite ((zJ hk).bd λmx k hk=>aZ.ite (aZ.er (by decide) hk) (aZ.ok _ hk)) (aZ.ok _ hk))
theorem ahb(ha:a<=b.length):aZ b.length (QD b a):=by
 unfold QD;exact(M6 ha).bd λt k hk=>aZ.ite ((Vj hk).bd λl k hk=>aZ.ok _ hk) (aZ.er (by decide) hk)
theorem ag_(ha:a<=b.length):aZ b.length (Jz b a):=by
 unfold Jz;exact(M6 ha).bd λt k hk=>(Zf hk).bd λx k hk=>aZ.ite (aZ.er (by decide) hk) (aZ.ok _ hk)
end
section
open Go Go.Mw
def RP{α:Type}(f:FuncId)(rest:List AV)(b:List UInt8)(t:PS α)(av:α->AV):Prop :=
 ∀(a:Nat)(e:Int),a<=b.length->RM f rest true b a e (av (t a e).1) (t a e).2.1 (t a e).2.2
def RP.of{α:Type}{f:FuncId}{rest:List AV}{b:List UInt8}{g:Nat->Rd α}{d:α}{av:α->AV}(h0:∀a,a<=b.length->RX f rest b a (g a) d av)(h1:∀(a:Nat)(e:Int),a<=b.length->e≠0->RM f rest true b a e (av d) a e):RP f rest b (iV g d) av:=by
 intro a e ha;unfold iV;by_cases he:e=0
 .subst he;rw[aF rfl];refine aX.mono (h0 a ha) (λ_ h=>h) ?_;rintro r' σ' ⟨q,⟨_,⟨x,k,hr,rfl⟩|⟨e,hr,_,h2,h3⟩⟩,rfl,rfl⟩
  .rw[hr];exact⟨rfl,rfl⟩
  .rw[hr,<-h2,<-h3];exact⟨rfl,rfl⟩
 .rw[au he];exact h1 a e ha he
variable{b:List UInt8}(hb:b.length<1000000000)
include hb
def Ay:RP l_ [] b (fX b) (λx=>.int .u8 x.toNat):=λa e ha=>pm true b a e ha hb
def N9:RP nD [] b (tL b) (λx=>.int .i64 (x:Nat)):=λa e ha=>fv true b a e ha hb
def Yj(most:Int):RP cW [.int .i64 most] b (pC b most) (λx=>.int .i64 (x:Nat)):=λa e ha=>Iu true b a e most ha hb
def acD:RP ma [] b (Yh b) .str:=λa e ha=>UT true b a e ha hb
def Yk:RP kU [] b (iV (gV b) 0) (.int .i64):=RP.of (λa ha=>D6 ha hb) λa e ha he=>ya ha hb he
omit hb in
def I0(x:Lm):AV:=.agg (p7 x)
omit hb in
def u0:((((0:UInt8).toNat:Nat):Int)==1)=false:=rfl
omit hb in
def u1:((((1:UInt8).toNat:Nat):Int)==1)=true:=rfl
omit hb in
def d0:decide ((((0:UInt8).toNat:Nat):Int)>1)=false:=rfl
omit hb in
def d1:decide ((((1:UInt8).toNat:Nat):Int)>1)=false:=rfl
attribute[local go_sem] ro wo wa dm cL
theorem Ql{a:Nat}{e:Int}(ha:a<=b.length)(he:e≠0):RM fb [] true b a e (I0 ⟨0,0,false⟩) a e:=by
 refine bT e_ ?_;simp only[go_sem,e_];refine ae (pm true b a e ha hb) ?_;simp only[go_sem,pw he,bW,vV];refine ae (aU true b a e) ?_;simp only[go_sem,pw he]
 try simp only[go_sem]
 refine⟨by kernel_rfl,?_⟩;refine ae (fv true b _ _ ha hb) ?_;simp only[go_sem,pw he,bW,BW,u0];refine ae (aU true b _ _) ?_;simp only[go_sem,pw he];refine ae (aU true b _ _) ?_;simp only[go_sem,vI he];exact done [] _ [(1000,ro true b a e)] (by simp only[go_sem,I0,p7]) (by simp only[go_sem]) rfl ⟨rfl,rfl⟩
omit hb in
theorem aad(x:UInt8):x>1/\decide ((x.toNat:Int)>1)=true/\x≠1\/x=0\/x=1:=by
 by_cases h:x>1
 .refine .inl ⟨h,?_,λe=>by subst e;exact absurd h (by decide)⟩;have:=UInt8.lt_iff_toNat_lt.1 h;have e:(1:UInt8).toNat=1:=rfl;exact aL (by omega)
 .refine .inr ?_;have h2:x.toNat<=1:=by
   have:=mt UInt8.lt_iff_toNat_lt.2 h;have e:(1:UInt8).toNat=1:=rfl;omega
  rcases(show x.toNat=0\/x.toNat=1 by omega)with h3|h3
  .exact .inl (IP.1 h3)
  .exact .inr (IP.1 h3)
theorem YQ{a:Nat}(ha:a<=b.length):RX fb [] b a (LM b a) ⟨0,0,false⟩ I0:=by
 refine bT e_ ?_;simp only[go_sem,e_];refine ae (pm true b a 0 ha hb) ?_;unfold LM;rcases zq b a with⟨x,h1,h2,h3⟩|⟨h1,h2⟩
 rotate_left
 .rw[h1,oT];simp only[go_sem,nK,h2];refine aH (aU true b a 3) ?_;have he:(3:Int)≠0:=by decide
  try simp only[go_sem]
  refine⟨by kernel_rfl,?_⟩;refine ae (fv true b _ _ ha hb) ?_;simp only[go_sem,pw he,bW,BW,u0];refine ae (aU true b _ _) ?_;simp only[go_sem,pw he];refine ae (aU true b _ _) ?_;simp only[go_sem,vI he];exact done [] _ [(1000,ro true b a 3)] (by simp only[go_sem,I0,p7]) (by simp only[go_sem]) rfl ⟨(⟨0,0,false⟩,a,3),jw.er rfl he ha,rfl,rfl⟩
 rw[h1,jg];clear ha;have ha:=h3;clear h3;simp only[go_sem,nK,h2];clear h1 h2;generalize a+1=k at*;refine ae (aU true b (k:Nat) 0) ?_;rcases aad x with⟨hx,hd,hn⟩|rfl|rfl
 .rw[aF hx];simp only[go_sem,hd];refine ae (cI b k 4) ?_;have he:(4:Int)≠0:=by decide
  have hq:((x.toNat:Int)==1)=false:=by
   refine iS.2 λh=>hn (IP.1 ?_);have e:(1:UInt8).toNat=1:=rfl;omega
  simp only[go_sem];refine⟨by kernel_rfl,?_⟩;refine ae (fv true b _ _ ha hb) ?_;simp only[go_sem,pw he,bW,BW,hq];refine ae (aU true b _ _) ?_;simp only[go_sem,pw he];refine ae (aU true b _ _) ?_;simp only[go_sem,vI he];exact done [] _ [(1000,ro true b k 4)] (by simp only[go_sem,I0,p7]) (by simp only[go_sem]) rfl ⟨(⟨0,0,false⟩,k,4),jw.er rfl he ha,rfl,rfl⟩
 .simp only[go_sem,d0];refine⟨by kernel_rfl,?_⟩;refine ae (fv true b _ _ ha hb) ?_;rw[au (by decide)];simp only[au (show ¬(0:UInt8)=1 by decide)];rcases vm ha with⟨n,k1,g1,g2,g3,g4⟩|⟨e,he,g1,g2⟩
  .rw[g1,jg];simp only[go_sem,nK,g2,u0];refine aH (aU true b (k1:Nat) 0) ?_;refine aH (aU true b (k1:Nat) 0) ?_;exact done [] _ [(1000,ro true b k1 0)] (by simp only[go_sem,I0,p7]) (by simp only[go_sem]) rfl ⟨(⟨n,0,false⟩,k1,0),jw.ok rfl g4,rfl,rfl⟩
  .rw[g1,oT];simp only[go_sem,nK,g2,u0];refine ae (aU true b (k:Nat) e) ?_;simp only[go_sem,pw he];refine ae (aU true b (k:Nat) e) ?_;simp only[go_sem,vI he];exact done [] _ [(1000,ro true b k e)] (by simp only[go_sem,I0,p7]) (by simp only[go_sem]) rfl ⟨(⟨0,0,false⟩,k,e),jw.er rfl he ha,rfl,rfl⟩
 .simp only[go_sem,d1];refine⟨by kernel_rfl,?_⟩;refine ae (fv true b _ _ ha hb) ?_;rw[au (by decide)];simp only[aF rfl];rcases vm ha with⟨n,k1,g1,g2,g3,g4⟩|⟨e,he,g1,g2⟩
  .rw[g1,jg];simp only[go_sem,nK,g2,u1];refine⟨by kernel_rfl,?_⟩;refine ae (fv true b _ _ g4 hb) ?_;rcases vm g4 with⟨m,k2,j1,j2,j3,j4⟩|⟨e,he,j1,j2⟩
   .rw[j1,jg];simp only[go_sem,nK,j2,u1];refine ae (aU true b (k2:Nat) 0) ?_;by_cases hl:m<n
    .rw[aF hl];have hl':(m:Int)<(n:Int):=by omega
     simp only[go_sem,aL hl'];refine aH (cI b k2 20) ?_;refine aH (aU true b (k2:Nat) 20) ?_;exact done [] _ [(1000,ro true b k2 20)] (by simp only[go_sem,I0,p7]) (by simp only[go_sem]) rfl ⟨(⟨0,0,false⟩,k2,20),jw.er rfl (by decide) j4,rfl,rfl⟩
    .rw[au hl];have hl':¬(m:Int)<(n:Int):=by omega
     simp only[go_sem,aM hl'];refine aH (aU true b (k2:Nat) 0) ?_;exact done [] _ [(1000,ro true b k2 0)] (by simp only[go_sem,I0,p7]) (by simp only[go_sem]) rfl ⟨(⟨n,m,true⟩,k2,0),jw.ok rfl j4,rfl,rfl⟩
   .rw[j1,oT];simp only[go_sem,nK,j2,u1];refine ae (aU true b (k1:Nat) e) ?_;simp only[go_sem,pw he];refine ae (aU true b (k1:Nat) e) ?_;simp only[go_sem,vI he];exact done [] _ [(1000,ro true b k1 e)] (by simp only[go_sem,I0,p7]) (by simp only[go_sem]) rfl ⟨(⟨0,0,false⟩,k1,e),jw.er rfl he g4,rfl,rfl⟩
  .rw[g1,oT];simp only[go_sem,nK,g2,u1];refine⟨by kernel_rfl,?_⟩;refine ae (fv true b _ _ ha hb) ?_;simp only[go_sem,pw he,bW,BW];refine ae (aU true b (k:Nat) e) ?_;simp only[go_sem,pw he];refine ae (aU true b (k:Nat) e) ?_;simp only[go_sem,vI he];exact done [] _ [(1000,ro true b k e)] (by simp only[go_sem,I0,p7]) (by simp only[go_sem]) rfl ⟨(⟨0,0,false⟩,k,e),jw.er rfl he ha,rfl,rfl⟩
def P2:RP fb [] b (iV (LM b) ⟨0,0,false⟩) I0:=RP.of (λa ha=>YQ hb ha) λa e ha he=>Ql hb ha he
end
section
open Go Go.Mw
def KX{α:Type}{g:Nat->Rd α}{d:α}{a:Nat}{e:Int}(he:e≠0):iV g d a e=(d,a,e):=au he
def MW{α:Type}{L:Nat}{g:Nat->Rd α}(d:α){a:Nat}(h:aZ L (g a)):(∃x k,g a = .ok (x,k)/\iV g d a 0=(x,k,0)/\k<=L)\/∃e k,g a = .error (e,k)/\e≠0/\iV g d a 0=(d,k,e)/\k<=L:=by
 unfold iV;rw[aF rfl];rcases h.cs with⟨x,k,hr,hk⟩|⟨e,k,hr,he,hk⟩
 .rw[hr];exact .inl ⟨x,k,rfl,rfl,hk⟩
 .rw[hr];exact .inr ⟨e,k,rfl,he,rfl,hk⟩
def Y8(x:Tb):AV:=.agg (xx x)
def Sl(x:Gl):AV:=.agg (Hm x)
def Lh:Tb:=⟨0,⟨0,0,false⟩⟩
def yC:Gl:=⟨0,false⟩
variable{b:List UInt8}(hb:b.length<1000000000)
include hb
attribute[local go_sem] ro wo wa dm cL
theorem Qm{a:Nat}{e:Int}(ha:a<=b.length)(he:e≠0):RM fL [] true b a e (Y8 Lh) a e:=by
 refine bT fE ?_;simp only[go_sem,fE];refine ae (Yk hb a e ha) ?_;simp only[go_sem,KX he];refine ae (aU true b a e) ?_;simp only[go_sem,pw he];refine ae (P2 hb a e ha) ?_;simp only[go_sem,KX he,I0,p7];refine ae (aU true b a e) ?_;simp only[go_sem,vI he];exact done [] _ [(1000,ro true b a e)] (by simp only[go_sem,Y8,xx,Lh]) (by simp only[go_sem]) rfl ⟨rfl,rfl⟩
theorem YR{a:Nat}(ha:a<=b.length):RX fL [] b a (QD b a) Lh Y8:=by
 refine bT fE ?_;simp only[go_sem,fE];refine ae (Yk hb a 0 ha) ?_;unfold QD;rcases MW 0 (M6 ha)with⟨t,k,g1,g2,g3⟩|⟨e,k,g1,he,g2,g3⟩
 rotate_left
 .rw[g1,oT];simp only[go_sem,g2];have ha:=g3;refine ae (aU true b k e) ?_;simp only[go_sem,pw he];refine ae (P2 hb _ _ ha) ?_;simp only[go_sem,KX he,I0,p7];refine ae (aU true b _ _) ?_;simp only[go_sem,vI he];exact done [] _ [(1000,ro true b k e)] (by simp only[go_sem,Y8,xx,Lh]) (by simp only[go_sem]) rfl ⟨(_,k,e),jw.er rfl he ha,rfl,rfl⟩
 rw[g1,jg];simp only[go_sem,g2];refine ae (aU true b k 0) ?_;have c1:=JS t;simp only[go_sem];refine aj (c1) ?_;clear ha;have ha:=g3;by_cases ht:t=3\/t=4
 .rw[aF ht];simp only[go_sem,x9.2 ht];refine ae (P2 hb k 0 ha) ?_;rcases MW ⟨0,0,false⟩ (Vj ha)with⟨l,k1,j1,j2,j3⟩|⟨e,k1,j1,he,j2,j3⟩
  .rw[j1,jg];simp only[go_sem,j2,I0,p7];refine aH (aU true b k1 0) ?_;exact done [] _ [(1000,ro true b k1 0)] (by simp only[go_sem,Y8,xx,Lh]) (by simp only[go_sem]) rfl ⟨(_,k1,0),jw.ok rfl j3,rfl,rfl⟩
  .rw[j1,oT];simp only[go_sem,j2,I0,p7];refine ae (aU true b k1 e) ?_;simp only[go_sem,vI he];exact done [] _ [(1000,ro true b k1 e)] (by simp only[go_sem,Y8,xx,Lh]) (by simp only[go_sem]) rfl ⟨(_,k1,e),jw.er rfl he j3,rfl,rfl⟩
 .rw[au ht];have hf:Cf t=false:=by
   cases h:Cf t
   .rfl
   .exact absurd (x9.1 h) ht
  simp only[go_sem,hf];refine ae (cI b k 12) ?_;have he:(12:Int)≠0:=by decide
  simp only[go_sem];refine ae (P2 hb _ _ ha) ?_;simp only[go_sem,KX he,I0,p7];refine ae (aU true b _ _) ?_;simp only[go_sem,vI he];exact done [] _ [(1000,ro true b k 12)] (by simp only[go_sem,Y8,xx,Lh]) (by simp only[go_sem]) rfl ⟨(_,k,12),jw.er rfl he ha,rfl,rfl⟩
def af_:RP fL [] b (iV (QD b) Lh) Y8:=RP.of (λa ha=>YR hb ha) λa e ha he=>Qm hb ha he
theorem Qk{a:Nat}{e:Int}(ha:a<=b.length)(he:e≠0):RM iM [] true b a e (Sl yC) a e:=by
 refine bT eZ ?_;simp only[go_sem,eZ];refine ae (Yk hb a e ha) ?_;simp only[go_sem,KX he];refine ae (pm true b a e ha hb) ?_;simp only[go_sem,pw he,bW,vV];refine ae (aU true b a e) ?_;simp only[go_sem,pw he];refine ae (aU true b a e) ?_;simp only[go_sem,vI he];exact done [] _ [(1000,ro true b a e)] (by simp only[go_sem,Sl,Hm,yC]) (by simp only[go_sem]) rfl ⟨rfl,rfl⟩
theorem YP{a:Nat}(ha:a<=b.length):RX iM [] b a (Jz b a) yC Sl:=by
 refine bT eZ ?_;simp only[go_sem,eZ];refine ae (Yk hb a 0 ha) ?_;unfold Jz;rcases MW 0 (M6 ha)with⟨t,k,g1,g2,g3⟩|⟨e,k,g1,he,g2,g3⟩
 rotate_left
 .rw[g1,oT];simp only[go_sem,g2];refine ae (pm true b k e g3 hb) ?_;simp only[go_sem,pw he,bW,vV];refine ae (aU true b k e) ?_;simp only[go_sem,pw he];refine ae (aU true b k e) ?_;simp only[go_sem,vI he];exact done [] _ [(1000,ro true b k e)] (by simp only[go_sem,Sl,Hm,yC]) (by simp only[go_sem]) rfl ⟨(_,k,e),jw.er rfl he g3,rfl,rfl⟩
 rw[g1,jg];simp only[go_sem,g2];refine ae (pm true b k 0 g3 hb) ?_;rcases zq b k with⟨x,h1,h2,h3⟩|⟨h1,h2⟩
 rotate_left
 .rw[h1,oT];simp only[go_sem,nK,h2];refine aH (aU true b k 3) ?_;refine aH (aU true b k 3) ?_;exact done [] _ [(1000,ro true b k 3)] (by simp only[go_sem,Sl,Hm,yC]) (by simp only[go_sem]) rfl ⟨(_,k,3),jw.er rfl (by decide) g3,rfl,rfl⟩
 rw[h1,jg];simp only[go_sem,nK,h2];clear h1 h2;generalize k+1=k1 at*;refine ae (aU true b (k1:Nat) 0) ?_;rcases aad x with⟨hx,hd,hn⟩|rfl|rfl
 .rw[aF hx];simp only[go_sem,hd];refine aH (cI b k1 4) ?_;refine aH (aU true b k1 4) ?_;exact done [] _ [(1000,ro true b k1 4)] (by simp only[go_sem,Sl,Hm,yC]) (by simp only[go_sem]) rfl ⟨(_,k1,4),jw.er rfl (by decide) h3,rfl,rfl⟩
 .rw[au (by decide)];simp only[go_sem,d0];refine ae (aU true b k1 0) ?_;simp only[go_sem,u0];exact done [] _ [(1000,ro true b k1 0)] (by simp only[go_sem,Sl,Hm,yC,show((0:UInt8)==1)=false from rfl]) (by simp only[go_sem]) rfl ⟨(_,k1,0),jw.ok rfl h3,rfl,rfl⟩
 .rw[au (by decide)];simp only[go_sem,d1];refine ae (aU true b k1 0) ?_;simp only[go_sem,u1];exact done [] _ [(1000,ro true b k1 0)] (by simp only[go_sem,Sl,Hm,yC]) (by simp only[go_sem]) rfl ⟨(_,k1,0),jw.ok rfl h3,rfl,rfl⟩
def af6:RP iM [] b (iV (Jz b) yC) Sl:=RP.of (λa ha=>YP hb ha) λa e ha he=>Qk hb ha he
theorem KR{a:Nat}{e:Int}(ha:a<=b.length)(he:e≠0):RM j6 [.int .i64 2048] true b a e (exs []) a e:=by
 refine bT gp ?_;simp only[go_sem,gp];refine an (λq:Unit=>⟨[(6,.int .i64 1),(5,.ms 900 9 0 0),(4,.nl),(1,.int .i64 2048),(0,.mp 1000 4 0 0)],[(900,⟨58,9,[],false⟩),(1000,ro true b a e)]⟩)
  (λq=>True) (λq=>0) () trivial ((Wk.nil _ 5 900 9 58 (by simp only[go_sem]) (.inl (by decide))).trans (Wk.of ?_ ?_)) ?_
 .simp only[go_sem,St.mknil];try simp[go_sem]
 .simp only[go_sem,St.mknil];try simp[go_sem]
 rintro⟨⟩ _;simp only[go_sem,show decide ((1:Int)>0)=true from rfl,show decide (((0:Nat):Int)>=2048)=false from rfl,show decide ((0:Int)>=2048)=false from rfl];refine aH (Ol ha hb he) ?_;refine ae (aU true b a e) ?_;simp only[go_sem,vI he];refine bS (Wk.nil _ 4 901 9 58 (by simp only[go_sem]) (.inl (by decide))) [901] (exs []) [(1000,ro true b a e)] ?_ ?_ rfl ⟨rfl,rfl⟩
 .simp only[go_sem,St.mknil];rfl
 .simp only[go_sem,St.mknil]
def Vv:RP j6 [.int .i64 2048] b (iV (gX b) []) exs:=RP.of (λa ha=>Qj ha hb 2048 ⟨by decide,by decide⟩) λa e ha he=>KR hb ha he
end
section
open Go Go.Mw
def rlB(u v t st:Nat)(z:List AV):bR :=
 (.seq (.reg [o0 6 (.mov (.c .nl))] [])
 (.seq (.reg [o0 7 (.mov (.c .nl))] [])
 (.seq (.seq (.reg [mv 9 0,
 mv 10 1,
 o0 11 (.call u [(.s 9),(.s 10)]),
 mv 8 11] [9,10,11])
 (.block 0 (.loop (.seq (.seq (.reg [mv 12 8,
 o0 13 (.bin .gtr (.s 12) (.c (.int .i64 0))),
 mv 14 13,
 mt 15 0 14,
 ot 16 14 (.call v [(.s 15)]),
 ot 17 14 (.bin .eql (.s 16) (.c (.int .i64 0))),
 o0 18 (.pick (.s 14) (.s 17) (.c (.bool false)))] [12,13,14,15,16,17])
 (.cond (.s 18)
 .skip
 (.exit 0)))
 (.seq (.block 1 (.reg [mv 21 7,
 mv 22 2,
 mv 23 0,
 o0 24 (.callv (.s 22) [(.s 23)]),
 o0 25 (.bsl t st [z] [(0,(.s 24))]),
 o0 26 (.app t st (.s 21) (.s 25)),
 mv 7 26] [21,22,23,24,25,26]))
 (.reg [mv 19 8,
 o0 20 (.bin .sub (.s 19) (.c (.int .i64 1))),
 mv 8 20] [19,20]))))))
 (.seq (.reg [mv 27 7,
 mv 6 27] [27])
 .ret))))
def aew(st:Nat)(c:List AV):Prop:=c.length=st/\c.all qn=true/\aO (.agg c)=[]/\∀i,c.any (mC i)=false
def zm{b:List UInt8}{most:Int}{a:Nat}{e:Int}:(pC b most a e).1<4294967296:=by
 have:=DS true b a e;unfold pC cA
 repeat' split
 all_goals first|(show(0:Nat)<_;decide)|exact DS _ _ _ _
def Yg{α:Type}{one:PS α}{m a:Nat}{e:Int}(he:e≠0):pN one m a e=([],a,e):=by
 cases m with
 | zero=>rfl
 | succ m=>exact au he
def Yf{α:Type}(one:PS α)(m a:Nat):pN one (m+1) a 0=((one a 0).1::(pN one m (one a 0).2.1 (one a 0).2.2).1,(pN one m (one a 0).2.1 (one a 0).2.2).2):=by
 show(if(0:Int)=0 then pb one (λx=>pb (pN one m) λl=>pP (x::l)) a 0 else([],a,0))=_;rw[aF rfl];rfl
variable{b:List UInt8}(hb:b.length<1000000000)
include hb
attribute[local go_sem] cU ro wa
def sm{α:Type}[Inhabited α]{n t st:Nat}{z:List AV}{f:α->List AV}{g:FuncId}{caps:List AV}{one:PS α}(hc:ny pg n=some ⟨28,3,[.tmp 6],rlB cW dM t st z⟩)
  (hv:∀x,aew st (f x)) (hg:bP pg g=true) (hcp:∀i,caps.any (mP i)=false) (hcv:∀x∈caps,aO x=[]) (ho:RP g caps b one λx=>.agg (f x)) (hw:∃r,eM b one r) (most:Nat) (hm:most<4294967296) :
  RP n [.int .i64 (most:Nat),.fn g caps] b (pL b one most) (λl=>.sl st (l.map f)):=by
 intro a e ha;refine jy (ic:=rlB cW dM t st z) u6 hc rfl rfl ?_;have q4:∀i x,x∈caps->mP i x=false:=λi x hx=>by
  have:=hcp i;rw[vB]at this;simpa using this x hx
 simp only[go_sem,rlB];refine aH (Yj hb most a e ha) ?_;have hN:=zm (b:=b) (most:=most) (a:=a) (e:=e);have h0:pL b one most a e=([]++(pN one (pC b most a e).1 (pC b most a e).2.1 (pC b most a e).2.2).1,(pN one (pC b most a e).1 (pC b most a e).2.1 (pC b most a e).2.2).2):=rfl;have hk:(pC b most a e).2.1<=b.length:=pj ha;generalize pL b one most a e=R at*;generalize pC b most a e=c at*;obtain⟨N,a0,e0⟩:=c;simp only at hN h0 hk⊢;refine an (λq:Nat×List α×Nat×Int=>⟨[(8,.int .i64 (q.1:Nat)),(7,.ms 900 st 0 q.2.1.length),(6,.nl),(0,.mp 1000 4 0 0),(1,.int .i64 (most:Nat)),(2,.fn g caps)],[(900,⟨t,st,q.2.1.map f,false⟩),(1000,ro true b q.2.2.1 q.2.2.2)]⟩)
  (λq=>q.2.2.1<=b.length/\q.2.1.length+q.1<=N/\R=(q.2.1++(pN one q.1 q.2.2.1 q.2.2.2).1,(pN one q.1 q.2.2.1 q.2.2.2).2)) (λq=>q.1) (N,[],a0,e0) ⟨hk,by simp,h0⟩ ((Wk.nil _ 7 900 st t (by simp only[go_sem]) (.inl (by decide))).trans (Wk.of ?_ ?_)) ?_
 .simp only[go_sem,St.mknil];try (simp;exact q4 _)
 .simp only[go_sem,St.mknil];try simp[go_sem]
 rintro⟨m,l,a1,e1⟩ ⟨h1,h2,h3⟩;simp only at h1 h2 h3;have v2:∀x,(f x).length=st:=λx=>(hv x).1;have v3:∀x,(f x).all qn=true:=λx=>(hv x).2.1;have v5:∀x i,(f x).any (mC i)=false:=λx i=>(hv x).2.2.2 i;have happ:=λys=>bX 900 t st l.length f l ys rfl;by_cases hm1:(m:Int)>0;rotate_left
 .obtain rfl:m=0:=by omega
  simp only[go_sem,aM hm1];subst h3;refine done [900] _ [(1000,ro true b a1 e1)] ?_ (by simp only[go_sem]) rfl ⟨rfl,rfl⟩;simp only[go_sem,cU,bG];rw[dQ (by rw[cU];omega)];simp[pN,pP]
 obtain⟨m,rfl⟩:∃k,m=k+1:=⟨m-1,by omega⟩
 have hw1:IntKind.i64.wrap (((m+1:Nat):Int)-1)=(m:Int):=by rw[wi (by omega) (by omega)];omega
 simp only[go_sem,aL hm1];refine ae (aU true b a1 e1) ?_;by_cases he:e1=0;rotate_left
 .simp only[go_sem,pw he];rw[Yg he]at h3;subst h3;refine done [900] _ [(1000,ro true b a1 e1)] ?_ (by simp only[go_sem]) rfl ⟨rfl,rfl⟩;simp only[go_sem,cU,bG];rw[dQ (by rw[cU];omega)]
 subst he;simp only[go_sem];rw[aF (JC hg)];refine⟨hg,?_⟩;refine dZ (ho a1 0 h1) ⟨by decide,by decide⟩ (hv _).2.2.1 hcv rfl rfl (by rfl) ?_;rw[Yf]at h3;obtain⟨r,hr⟩:=hw;have hk2:=(hr a1 0 h1).1;generalize one a1 0=y at*;obtain⟨x,a2,e2⟩:=y;simp only at h3 hk2⊢;simp only[go_sem,v2,v3,v5,hcp,happ,hw1];refine⟨by omega,aE (m,l++[x],a2,e2) ⟨hk2,by simp;omega,by rw[h3];simp⟩ (show m<m+1 by omega) (Wk.of ?_ ?_)⟩
 .simp only[go_sem];try simp
 .simp only[go_sem];try simp[go_sem]
end
section
open Go Go.Mw
def pM{α:Type}(one:PS α):Nat->PS (List α)
 | 0=>pP []
 | n+1=>pb one λx=>pb (pM one n) λl=>pP (x::l)
def eM.m{α:Type}{b:List UInt8}{one:PS α}{g:List UInt8->Nat->Rd α}(h:eM b one (g b)):∀n,eM b (pM one n) (gN g n b)
 | 0=>eM.pure []
 | n+1=>h.bd (r:=λx k=>fP (gN g n b k) λl k'=>.ok (x::l,k')) λx=>(eM.m h n).bd λl=>eM.pure (x::l)
def aiv{α:Type}(one:PS α)(m a:Nat)(e:Int):pM one (m+1) a e=((one a e).1::(pM one m (one a e).2.1 (one a e).2.2).1,(pM one m (one a e).2.1 (one a e).2.2).2):=rfl
def vas(l:List Int):AV:=.sl 1 (l.map oE)
def QI(b:List UInt8):PS (List Int):=pb (pC b 8) (pM (iV (gV b) 0))
def uV(b:List UInt8):Zm b (gV b):=λa ha=>M6 ha
def Bi(b:List UInt8):eM b (QI b) (Vq gV 8 b):=(Fq 8).bd λn=>eM.m (g:=gV) ((uV b).oks 0) n
def afX{b:List UInt8}{most:Int}(h0:0<=most){a:Nat}{e:Int}(ha:a<=b.length):((pC b most a e).1:Int)<=most:=by
 unfold pC;by_cases he:e=0
 .subst he;show((cA true b a 0 most).1:Int)<=most;rcases DR most ha with⟨n,k,_,h2,h3,_⟩|⟨e,_,_,h2⟩
  .rw[h2];exact h3
  .rw[h2];exact h0
 .rw[pw he,KB];exact h0
variable{b:List UInt8}(hb:b.length<1000000000)
include hb
attribute[local go_sem] cU ro wa
theorem Az:RP C_ [] b (QI b) vas:=by
 intro a e ha;refine bT tZ ?_;simp only[go_sem,tZ];refine⟨by kernel_rfl,?_⟩;refine aH (Yj hb 8 a e ha) ?_;have hN:=afX (b:=b) (most:=8) (by decide) (e:=e) ha;have h0:QI b a e=([]++(pM (iV (gV b) 0) (pC b 8 a e).1 (pC b 8 a e).2.1 (pC b 8 a e).2.2).1,(pM (iV (gV b) 0) (pC b 8 a e).1 (pC b 8 a e).2.1 (pC b 8 a e).2.2).2):=rfl;have hk:(pC b 8 a e).2.1<=b.length:=pj ha;generalize QI b a e=R at*;generalize pC b 8 a e=c at*;obtain⟨N,a0,e0⟩:=c;simp only at hN h0 hk⊢;refine an (λq:Nat×List Int×Nat×Int=>⟨[(9,.int .i64 q.2.1.length),(8,.int .i64 N),(4,.ms 900 1 0 q.2.1.length),(2,.nl),(0,.mp 1000 4 0 0)],[(900,⟨54,1,q.2.1.map oE,false⟩),(1000,ro true b q.2.2.1 q.2.2.2)]⟩)
  (λq=>q.2.2.1<=b.length/\q.2.1.length+q.1=N/\R=(q.2.1++(pM (iV (gV b) 0) q.1 q.2.2.1 q.2.2.2).1,(pM (iV (gV b) 0) q.1 q.2.2.1 q.2.2.2).2)) (λq=>q.1) (N,[],a0,e0) ⟨hk,by simp,h0⟩ ((Wk.nil _ 4 900 1 54 (by simp only[go_sem]) (.inl (by decide))).trans (Wk.of ?_ ?_)) ?_
 .simp only[go_sem,St.mknil];try simp[go_sem]
 .simp only[go_sem,St.mknil];try simp[go_sem]
 rintro⟨m,l,a1,e1⟩ ⟨h1,h2,h3⟩;simp only at h1 h2 h3;have happ:=λys=>bX 900 54 1 l.length oE l ys rfl;by_cases hm1:(l.length:Int)<(N:Int);rotate_left
 .obtain rfl:m=0:=by omega
  simp only[go_sem,aM hm1];subst h3;refine done [900] _ [(1000,ro true b a1 e1)] ?_ (by simp only[go_sem]) rfl ⟨rfl,rfl⟩;simp only[go_sem,cU,bG];rw[dQ (by rw[cU];omega)];simp[pM,pP,vas]
 obtain⟨m,rfl⟩:∃k,m=k+1:=⟨m-1,by omega⟩
 have hw1:IntKind.i64.wrap ((l.length:Int)+1)=((l.length+1:Nat):Int):=by rw[wi (by omega) (by omega)];omega
 simp only[go_sem,aL hm1];refine ae (Yk hb a1 e1 h1) ?_;rw[aiv]at h3;have hk2:=((uV b).oks 0 a1 e1 h1).1;generalize iV (gV b) 0 a1 e1=y at*;obtain⟨x,a2,e2⟩:=y;simp only at h3 hk2⊢;simp only[go_sem,happ,hw1];refine⟨by omega,aE (m,l++[x],a2,e2) ⟨hk2,by simp;omega,by rw[h3];simp⟩ (show m<m+1 by omega) (Wk.of ?_ ?_)⟩
 .simp only[go_sem];try simp
 .simp only[go_sem];try simp[go_sem,dm]
def Vp(x:Ft):AV:=.agg (vK x)
omit hb in
def ft2(ps rs:List Int)(e:Int):Ft:=if e=0 then⟨ps,rs⟩else⟨[],[]⟩
def Kw(b:List UInt8):PS Ft:=pb (QI b) λps=>pb (QI b) λrs=>λa e=>(ft2 ps rs e,a,e)
def pFt(b:List UInt8):PS Ft:=pb (fX b) λx=>pb (I4 4 (x≠96)) λ_=>Kw b
omit hb in
def ab8:eM b (Kw b) (λa=>fP (Vq gV 8 b a) λps k1=>fP (Vq gV 8 b k1) λrs k2=>.ok (⟨ps,rs⟩,k2)) :=
 (Bi b).bd (r:=λps k1=>fP (Vq gV 8 b k1) λrs k2=>.ok ((⟨ps,rs⟩:Ft),k2)) λps=>(Bi b).bd λrs=>λa e ha=>⟨ha,λ_=>rfl,λhe=>.inl ⟨_,a,rfl,by subst he;rfl⟩⟩
omit hb in
theorem ab9:eM b (pFt b) (gFt b):=by
 have h:=DL.bd (b:=b) (u:=λx=>pb (I4 4 (x≠96)) λ_=>Kw b) (r:=λx k=>if x≠96 then .error (4,k)else fP (Vq gV 8 b k) λps k1=>fP (Vq gV 8 b k1) λrs k2=>.ok ((⟨ps,rs⟩:Ft),k2)) λx=>eM.fi (by decide) ab8;refine h.congr λa=>?_;unfold gFt;congr 1;funext x k;by_cases hx:x=96
 .rw[au (λh=>h hx),aF hx]
 .rw[aF hx,au hx]
theorem aiA:RP qa [] b (pFt b) Vp:=by
 intro a e ha;refine bT pK ?_;simp only[go_sem,pK];refine ae (Ay hb a e ha) ?_;have hR:pFt b a e=Kw b (fX b a e).2.1 (if(fX b a e).1≠96/\(fX b a e).2.2=0 then 4 else(fX b a e).2.2):=by
  show Kw b (I4 4 ((fX b a e).1≠96) (fX b a e).2.1 (fX b a e).2.2).2.1 (I4 4 ((fX b a e).1≠96) (fX b a e).2.1 (fX b a e).2.2).2.2=_;unfold I4 pI pF pP;by_cases h1:(fX b a e).1≠96
  .by_cases h2:(fX b a e).2.2=0
   .simp[h1,h2]
   .simp[h1,h2]
  .simp[h1]
 have h2:=(DL a e ha).1;generalize pFt b a e=R at*;generalize fX b a e=y at*;obtain⟨x,a2,e2⟩:=y;simp only at h2 hR⊢;simp only[go_sem];refine ae (aU true b a2 e2) ?_;by_cases he:e2=0;rotate_left
 .simp only[go_sem,pw he];rw[au (λh=>he h.2)]at hR;refine ae (Az hb a2 e2 h2) ?_;have k3:=(Bi b a2 e2 h2).1;unfold Kw at hR;simp only[pb,pP]at hR;generalize QI b a2 e2=y at*;obtain⟨ps,a3,e3⟩:=y;simp only at k3 hR⊢;simp only[go_sem,vas];refine ae (Az hb a3 e3 k3) ?_;have k4:=(Bi b a3 e3 k3).1;generalize QI b a3 e3=y at*;obtain⟨rs,a4,e4⟩:=y;simp only at k4 hR⊢;simp only[go_sem,vas];refine ae (aU true b a4 e4) ?_;subst hR;by_cases he4:e4=0
  .subst he4;simp only[go_sem];exact done [] _ [(1000,ro true b a4 0)] (by simp only[go_sem,Vp,vK,ft2]) (by simp only[go_sem]) rfl ⟨rfl,rfl⟩
  .have hz:ft2 ps rs e4 =⟨[],[]⟩:=au he4;simp only[go_sem,vI he4,hz];exact bS (Wk.nlm _ 2 (r':=vK ⟨[],[]⟩) rfl ⟨.inr ⟨rfl,.inl ⟨1,rfl⟩⟩,.inr ⟨rfl,.inl ⟨1,rfl⟩⟩,trivial⟩) [] (Vp ⟨[],[]⟩) [(1000,ro true b a4 e4)] (by simp only[go_sem,Vp,vK]) (by simp only[go_sem]) rfl ⟨rfl,rfl⟩
 have ht:(e2==0)=true:=beq_iff_eq.2 he;by_cases hx:x=96
 .subst hx;have hd:((((96:UInt8).toNat:Nat):Int) != 96)=false:=rfl;rw[au (λh=>h.1 rfl)]at hR;simp only[go_sem,ht,hd];refine ae (Az hb a2 e2 h2) ?_;have k3:=(Bi b a2 e2 h2).1;unfold Kw at hR;simp only[pb,pP]at hR;generalize QI b a2 e2=y at*;obtain⟨ps,a3,e3⟩:=y;simp only at k3 hR⊢;simp only[go_sem,vas];refine ae (Az hb a3 e3 k3) ?_;have k4:=(Bi b a3 e3 k3).1;generalize QI b a3 e3=y at*;obtain⟨rs,a4,e4⟩:=y;simp only at k4 hR⊢;simp only[go_sem,vas];refine ae (aU true b a4 e4) ?_;subst hR;by_cases he4:e4=0
  .subst he4;simp only[go_sem];exact done [] _ [(1000,ro true b a4 0)] (by simp only[go_sem,Vp,vK,ft2]) (by simp only[go_sem]) rfl ⟨rfl,rfl⟩
  .have hz:ft2 ps rs e4 =⟨[],[]⟩:=au he4;simp only[go_sem,vI he4,hz];exact bS (Wk.nlm _ 2 (r':=vK ⟨[],[]⟩) rfl ⟨.inr ⟨rfl,.inl ⟨1,rfl⟩⟩,.inr ⟨rfl,.inl ⟨1,rfl⟩⟩,trivial⟩) [] (Vp ⟨[],[]⟩) [(1000,ro true b a4 e4)] (by simp only[go_sem,Vp,vK]) (by simp only[go_sem]) rfl ⟨rfl,rfl⟩
 .have hd:((x.toNat:Int) != 96)=true:=by
   refine bne_iff_ne.2 λh=>hx (IP.1 ?_);have e:(96:UInt8).toNat=96:=rfl;omega
  have cf:=D5 true b a2 e2 4;have h4:(if(true&&e2==0)=true then(4:Int)else e2)=if x≠96/\e2=0 then 4 else e2:=by
   rw[aF (show(true&&e2==0)=true from ht),aF ⟨hx,he⟩]
  rw[h4]at cf;simp only[go_sem,ht,hd];obtain⟨e2,h42⟩:∃k:Int,(if x≠96/\e2=0 then(4:Int)else e2)=k:=⟨_,rfl⟩
  rw[h42]at cf hR;refine aH (cf) ?_;refine ae (Az hb a2 e2 h2) ?_;have k3:=(Bi b a2 e2 h2).1;unfold Kw at hR;simp only[pb,pP]at hR;generalize QI b a2 e2=y at*;obtain⟨ps,a3,e3⟩:=y;simp only at k3 hR⊢;simp only[go_sem,vas];refine ae (Az hb a3 e3 k3) ?_;have k4:=(Bi b a3 e3 k3).1;generalize QI b a3 e3=y at*;obtain⟨rs,a4,e4⟩:=y;simp only at k4 hR⊢;simp only[go_sem,vas];refine ae (aU true b a4 e4) ?_;subst hR;by_cases he4:e4=0
  .subst he4;simp only[go_sem];exact done [] _ [(1000,ro true b a4 0)] (by simp only[go_sem,Vp,vK,ft2]) (by simp only[go_sem]) rfl ⟨rfl,rfl⟩
  .have hz:ft2 ps rs e4 =⟨[],[]⟩:=au he4;simp only[go_sem,vI he4,hz];exact bS (Wk.nlm _ 2 (r':=vK ⟨[],[]⟩) rfl ⟨.inr ⟨rfl,.inl ⟨1,rfl⟩⟩,.inr ⟨rfl,.inl ⟨1,rfl⟩⟩,trivial⟩) [] (Vp ⟨[],[]⟩) [(1000,ro true b a4 e4)] (by simp only[go_sem,Vp,vK]) (by simp only[go_sem]) rfl ⟨rfl,rfl⟩
end
section
open Go Go.Mw
def pGd(b:List UInt8):PS Gd:=pb (iV (Jz b) yC) λg=>pb (iV (gX b) []) λl=>pP ⟨g,l⟩
def Hl(b:List UInt8):Zm b (Jz b):=λa ha=>ag_ ha
def NC(b:List UInt8):Zm b (QD b):=λa ha=>ahb ha
def NB(b:List UInt8):Zm b (LM b):=λa ha=>Vj ha
def jj(b:List UInt8):Zm b (gX b):=λa ha=>ai_ ha
def afQ(b:List UInt8):eM b (pGd b) (gGd b):=((Hl b).oks yC).bd λg=>((jj b).oks []).bd λl=>eM.pure (b:=b) (⟨g,l⟩:Gd)
def Yd(b:List UInt8):PS Ex:=pb (Yh b) λn=>pb (fX b) λx=>pb (I4 4 (x>3)) λ_=>pb (tL b) λi=>pP ⟨n,(x.toNat:Int),i⟩
def afP(b:List UInt8):eM b (Yd b) (gEx b):=Gv.bd λn=>DL.bd λx=>eM.fi (by decide) (tK.bd λi=>eM.pure (b:=b) (⟨n,(x.toNat:Int),i⟩:Ex))
def Lf:Lm:=⟨0,0,false⟩
def Ye(b:List UInt8):PS Im:=pb (Yh b) λm=>pb (Yh b) λn=>pb (fX b) λx =>
 pI (x=0) (pb (tL b) λf=>pP ⟨m,n,0,f,0,Lf,Lf,yC⟩) <|
 pI (x=1) (pb (iV (QD b) Lh) λt=>pP ⟨m,n,1,0,t.e,t.l,Lf,yC⟩) <|
 pI (x=2) (pb (iV (LM b) Lf) λl=>pP ⟨m,n,2,0,0,Lf,l,yC⟩) <|
 pI (x=3) (pb (iV (Jz b) yC) λg=>pP ⟨m,n,3,0,0,Lf,Lf,g⟩) <| pF 4 ⟨m,n,(x.toNat:Int),0,0,Lf,Lf,yC⟩
def afR(b:List UInt8):eM b (Ye b) (gIm b):=Gv.bd λm=>Gv.bd λn=>DL.bd λx =>
 (tK.bd λf=>eM.pure _).ite <| (((NC b).oks Lh).bd λt=>eM.pure _).ite <| (((NB b).oks Lf).bd λl=>eM.pure _).ite <| (((Hl b).oks yC).bd λg=>eM.pure _).ite (eM.fail (by decide) _)
variable{b:List UInt8}(hb:b.length<1000000000)
include hb
attribute[local go_sem] cU ro wa
theorem aiB:RP nH [] b (pGd b) (λx=>.agg (zX x)):=by
 intro a e ha;refine bT nv ?_;simp only[go_sem,nv];refine ae (af6 hb a e ha) ?_;have k1:=((Hl b).oks yC a e ha).1;have hR:pGd b a e=(⟨(iV (Jz b) yC a e).1,(iV (gX b) [] (iV (Jz b) yC a e).2.1 (iV (Jz b) yC a e).2.2).1⟩,(iV (gX b) [] (iV (Jz b) yC a e).2.1 (iV (Jz b) yC a e).2.2).2):=rfl;generalize pGd b a e=R at*;generalize iV (Jz b) yC a e=y at*;obtain⟨g,a1,e1⟩:=y;simp only at k1 hR⊢;simp only[go_sem,Sl,Hm];refine ae (Vv hb a1 e1 k1) ?_;have k2:=((jj b).oks [] a1 e1 k1).1;generalize iV (gX b) [] a1 e1=y at*;obtain⟨l,a2,e2⟩:=y;simp only at k2 hR⊢;subst hR;simp only[go_sem,exs];exact done [] _ [(1000,ro true b a2 e2)] (by simp only[go_sem,zX]) (by simp only[go_sem]) rfl ⟨rfl,rfl⟩
omit hb in
theorem Fr(a:Nat)(e c:Int):RM gQ [.int .i64 c] true b a e (.tup []) a (if e=0 then c else e):=by
 have h:=D5 true b a e c;by_cases he:e=0
 .subst he;exact h
 .rw[au he];rw[pw he]at h;exact h
omit hb in
theorem ag1(x:UInt8):decide ((x.toNat:Int)>3)=decide (x>3):=by
 have:x>3↔(x.toNat:Int)>3:=by
  have e:(3:UInt8).toNat=3:=rfl;rw[gt_iff_lt,UInt8.lt_iff_toNat_lt];omega
 exact decide_eq_decide.2 this.symm
theorem aiz:RP nG [] b (Yd b) (λx=>.agg (y6 x)):=by
 intro a e ha;refine bT nu ?_;simp only[go_sem,nu];refine ae (acD hb a e ha) ?_;have k1:=(Gv (b:=b) a e ha).1;have hR:Yd b a e=Yd b a e:=rfl
 conv at hR=>rhs;simp only[Yd,pb,pP,I4,pI,pF]
 generalize Yd b a e=R at*;generalize Yh b a e=y at*;obtain⟨nm,a1,e1⟩:=y;simp only at k1 hR⊢;simp only[go_sem];refine ae (Ay hb a1 e1 k1) ?_;have k3:=(DL (b:=b) a1 e1 k1).1;generalize fX b a1 e1=y at*;obtain⟨x,a3,e3⟩:=y;simp only at k3 hR⊢;have w:=wi (n:=(x.toNat:Int)) (by omega) (by have:=UInt8.toNat_lt x;omega);by_cases hx:x>3
 .simp only[aF hx]at hR;have d:=(ag1 x).trans (aL hx);simp only[go_sem,w,d];have cf:=Fr (b:=b) a3 e3 4;obtain⟨e3,h42⟩:∃k:Int,(if e3=0 then(4:Int)else e3)=k:=⟨_,rfl⟩
  rw[h42]at cf hR;refine aH (cf) ?_;refine ae (N9 hb a3 e3 k3) ?_;generalize tL b a3 e3=y at*;obtain⟨i,a4,e4⟩:=y;simp only at hR⊢;subst hR;simp only[go_sem];exact done [] _ [(1000,ro true b a4 e4)] (by simp only[go_sem,y6]) (by simp only[go_sem]) rfl ⟨rfl,rfl⟩
 .simp only[au hx]at hR;have d:=(ag1 x).trans (aM hx);simp only[go_sem,w,d];refine ae (N9 hb a3 e3 k3) ?_;generalize tL b a3 e3=y at*;obtain⟨i,a4,e4⟩:=y;simp only at hR⊢;subst hR;simp only[go_sem];exact done [] _ [(1000,ro true b a4 e4)] (by simp only[go_sem,y6]) (by simp only[go_sem]) rfl ⟨rfl,rfl⟩
end
section
open Go Go.Mw
def ag2(x:UInt8):x=0\/x=1\/x=2\/x=3\/(x≠0/\x≠1/\x≠2/\x≠3/\((x.toNat:Int)==0)=false/\((x.toNat:Int)==1)=false/\((x.toNat:Int)==2)=false/\((x.toNat:Int)==3)=false):=by
 by_cases h0:x=0
 .exact .inl h0
 by_cases h1:x=1
 .exact .inr (.inl h1)
 by_cases h2:x=2
 .exact .inr (.inr (.inl h2))
 by_cases h3:x=3
 .exact .inr (.inr (.inr (.inl h3)))
 have q:∀y:UInt8,x≠y->((x.toNat:Int)==(y.toNat:Int))=false:=λy h=>iS.2 λe=>h (IP.1 (by omega));exact .inr (.inr (.inr (.inr ⟨h0,h1,h2,h3,q 0 h0,q 1 h1,q 2 h2,q 3 h3⟩)))
variable{b:List UInt8}(hb:b.length<1000000000)
include hb
attribute[local go_sem] cU ro wa
theorem aiC:RP nI [] b (Ye b) (λx=>.agg (vM x)):=by
 intro a e ha;refine bT nw ?_;simp only[go_sem,nw];refine ae (acD hb a e ha) ?_;have k1:=(Gv (b:=b) a e ha).1;have hR:Ye b a e=Ye b a e:=rfl
 conv at hR=>rhs;simp only[Ye,pb,pP,pI,pF]
 generalize Ye b a e=R at*;generalize Yh b a e=y at*;obtain⟨nm,a1,e1⟩:=y;simp only at k1 hR⊢;simp only[go_sem];refine ae (acD hb a1 e1 k1) ?_;have k2:=(Gv (b:=b) a1 e1 k1).1;generalize Yh b a1 e1=y at*;obtain⟨nn,a2,e2⟩:=y;simp only at k2 hR⊢;simp only[go_sem];refine ae (Ay hb a2 e2 k2) ?_;have k3:=(DL (b:=b) a2 e2 k2).1;generalize fX b a2 e2=y at*;obtain⟨x,a3,e3⟩:=y;simp only at k3 hR⊢;have w:=wi (n:=(x.toNat:Int)) (by omega) (by have:=UInt8.toNat_lt x;omega);rcases ag2 x with rfl|rfl|rfl|rfl|⟨q0,q1,q2,q3,p0,p1,p2,p3⟩
 .simp only[aF]at hR;simp only[go_sem,show(((0:UInt8).toNat:Nat):Int)=0 from rfl,show IntKind.i64.wrap 0=0 from rfl];refine ae (N9 hb a3 e3 k3) ?_;generalize tL b a3 e3=y at*;obtain⟨i,a4,e4⟩:=y;simp only at hR⊢;subst hR;simp only[go_sem];exact done [] _ [(1000,ro true b a4 e4)] (by simp only[go_sem,vM,Lf,yC]) (by simp only[go_sem]) rfl ⟨rfl,rfl⟩
 .simp only[aF,au (show ¬(1:UInt8)=0 by decide)]at hR;simp only[go_sem,show(((1:UInt8).toNat:Nat):Int)=1 from rfl,show IntKind.i64.wrap 1=1 from rfl,show((1:Int)==0)=false from rfl];refine ae (af_ hb a3 e3 k3) ?_;generalize iV (QD b) Lh a3 e3=y at*;obtain⟨i,a4,e4⟩:=y;simp only at hR⊢;subst hR;simp only[go_sem,Y8,xx];exact done [] _ [(1000,ro true b a4 e4)] (by simp only[go_sem,vM,Lf,yC]) (by simp only[go_sem]) rfl ⟨rfl,rfl⟩
 .simp only[aF,au (show ¬(2:UInt8)=0 by decide),au (show ¬(2:UInt8)=1 by decide)]at hR;simp only[go_sem,show(((2:UInt8).toNat:Nat):Int)=2 from rfl,show IntKind.i64.wrap 2=2 from rfl,show((2:Int)==0)=false from rfl,show((2:Int)==1)=false from rfl];refine ae (P2 hb a3 e3 k3) ?_;have hz:iV (LM b) Lf=iV (LM b) ⟨0,0,false⟩:=rfl;rw[hz]at hR;generalize iV (LM b) ⟨0,0,false⟩ a3 e3=y at*;obtain⟨i,a4,e4⟩:=y;simp only at hR⊢;subst hR;simp only[go_sem,I0,p7];exact done [] _ [(1000,ro true b a4 e4)] (by simp only[go_sem,vM,Lf,yC]) (by simp only[go_sem]) rfl ⟨rfl,rfl⟩
 .simp only[aF,au (show ¬(3:UInt8)=0 by decide),au (show ¬(3:UInt8)=1 by decide),au (show ¬(3:UInt8)=2 by decide)]at hR;simp only[go_sem,show(((3:UInt8).toNat:Nat):Int)=3 from rfl,show IntKind.i64.wrap 3=3 from rfl,show((3:Int)==0)=false from rfl,show((3:Int)==1)=false from rfl,show((3:Int)==2)=false from rfl];refine ae (af6 hb a3 e3 k3) ?_;generalize iV (Jz b) yC a3 e3=y at*;obtain⟨i,a4,e4⟩:=y;simp only at hR⊢;subst hR;simp only[go_sem,Sl,Hm];exact done [] _ [(1000,ro true b a4 e4)] (by simp only[go_sem,vM,Lf,yC]) (by simp only[go_sem]) rfl ⟨rfl,rfl⟩
 .simp only[au q0,au q1,au q2,au q3]at hR;simp only[go_sem,w,p0,p1,p2,p3];refine ae (Fr a3 e3 4) ?_;generalize (if e3=0 then(4:Int)else e3)=e4 at*;subst hR;simp only[go_sem];exact done [] _ [(1000,ro true b a3 e4)] (by simp only[go_sem,vM,Lf,yC]) (by simp only[go_sem]) rfl ⟨rfl,rfl⟩
end
section
open Go Go.Mw
def B3{α β γ:Type}(r:Rd α)(f:α->Nat->Rd β)(g:β->Nat->Rd γ):fP (fP r f) g=fP r λx k=>fP (f x k) g:=by cases r<;>rfl
def BT(b:List UInt8)(n:Nat):PS (List UInt8):=λa e=>((bI (e==0) b a e (n:Nat)).1.getD [],(bI (e==0) b a e (n:Nat)).2)
def TY(b:List UInt8)(n:Nat):eM b (BT b n) (λa=>if n>b.length-a then .error (3,a)else .ok ((b.drop a).take n,a+n)):=by
 intro a e ha;refine⟨Oe ha,λhe=>?_,λhe=>?_⟩
 .unfold BT bI;rw[pw he,au (by decide)]
 .subst he;unfold BT bI;rw[aF (show((0:Int)==0)=true from rfl),au (by omega)];by_cases h:n>b.length-a
  .rw[aF (by omega)];exact .inr ⟨3,a,aF h,by decide,rfl⟩
  .rw[au (by omega),mz];exact .inl ⟨_,_,au h,rfl⟩
def pDq(b:List UInt8)(n:Nat):PS (Int×Int×List bj) :=
 pI (n=0) (pb (iV (gX b) []) λo=>pP (0,0,o)) <| pI (n=1) (pP (1,0,[])) <| pI (n=2) (pb (tL b) λm=>pb (iV (gX b) []) λo=>pP (0,(m:Int),o)) <| pF 4 (0,0,[])
def Yb(b:List UInt8):PS Da:=pb (tL b) λn=>pb (pDq b n) λq=>pb (pC b 4096) λn2=>pb (BT b n2) λl=>pP ⟨q.1,q.2.1,q.2.2,l⟩
def afM(b:List UInt8)(n:Nat):eM b (pDq b n) (λk=>if n=0 then fP (gX b k) λo k=>.ok ((0,0,o),k)else if n=1 then .ok ((1,0,[]),k)else if n=2 then fP (gU b k) λm k=>fP (gX b k) λo k=>.ok ((0,(m:Int),o),k)else .error (4,k)) :=
 (((jj b).oks []).bd λo=>eM.pure _).ite <| (eM.pure _).ite <| (tK.bd λm=>((jj b).oks []).bd λo=>eM.pure _).ite (eM.fail (by decide) _)
def afL(b:List UInt8):eM b (Yb b) (gDa b):=by
 have h:=tK.bd (b:=b) λn=>(afM b n).bd λq=>(Fq 4096).bd λn2=>(TY b n2).bd λl=>eM.pure (b:=b) (⟨q.1,q.2.1,q.2.2,l⟩:Da);refine h.congr λa=>?_;unfold gDa;congr 1;funext n k;by_cases h0:n=0
 .subst h0;simp only[aF,B3,jg,au (show ¬(0:Nat)>2 by decide),au (show ¬(0:Nat)=2 by decide),au (show ¬(0:Nat)=1 by decide),G4]
 by_cases h1:n=1
 .subst h1;simp only[aF,B3,jg,au (show ¬(1:Nat)>2 by decide),au (show ¬(1:Nat)=2 by decide),au (show ¬(1:Nat)=0 by decide),G4]
 by_cases h2:n=2
 .subst h2;simp only[aF,B3,jg,au (show ¬(2:Nat)>2 by decide),au (show ¬(2:Nat)=1 by decide),au (show ¬(2:Nat)=0 by decide),G4]
 .rw[au h0,au h1,au h2,aF (by omega)];rfl
variable{b:List UInt8}(hb:b.length<1000000000)
include hb
attribute[local go_sem] cU ro wa
theorem aix:RP p9 [] b (Yb b) (λx=>.agg (nz x)):=by
 intro a e ha;refine bT pH ?_;simp only[go_sem,pH];refine ae (N9 hb a e ha) ?_;have k1:=(tK (b:=b) a e ha).1;have hR:Yb b a e=Yb b a e:=rfl
 conv at hR=>rhs;simp only[Yb,pDq,pb,pP,pI,pF]
 generalize Yb b a e=R at*;generalize tL b a e=y at*;obtain⟨n,a1,e1⟩:=y;simp only at k1 hR⊢;by_cases h0:n=0
 .subst h0;simp only[aF]at hR;simp only[go_sem,show((((0:Nat):Int))==0)=true from rfl];refine ae (Vv hb a1 e1 k1) ?_;have k3:=((jj b).oks [] a1 e1 k1).1;generalize iV (gX b) [] a1 e1=y at*;obtain⟨ol,a3,e3⟩:=y;simp only at k3 hR⊢;simp only[go_sem,exs]
  try simp only[go_sem]
  refine ae (Yj hb 4096 a3 e3 k3) ?_;have k4:=((Fq 4096) a3 e3 k3).1;have hN:=zm (b:=b) (most:=4096) (a:=a3) (e:=e3);generalize pC b 4096 a3 e3=y at*;obtain⟨n2,a4,e4⟩:=y;simp only at k4 hN hR⊢;simp only[go_sem];refine ae (vx true b a4 e4 n2 k4 hb ⟨by omega,by omega⟩) ?_;rw[bW];unfold BT at hR;generalize bI (e4==0) b a4 e4 (n2:Nat)=y at*;obtain⟨l,a5,e5⟩:=y;simp only at hR⊢;subst hR;cases l with
  | none =>
   simp only[go_sem];exact bS (Wk.nlm _ 2 (r':=nz ⟨0,0,ol,[]⟩) rfl ⟨.inl rfl,.inl rfl,(by first|exact .inl rfl|exact .inr ⟨rfl,.inl ⟨_,rfl⟩⟩),.inr ⟨rfl,.inl ⟨_,rfl⟩⟩,trivial⟩) [] (.agg (nz ⟨0,0,ol,[]⟩)) [(1000,ro true b a5 e5)] (by simp only[go_sem,nz]) (by simp only[go_sem]) rfl ⟨rfl,rfl⟩
  | some l =>
   simp only[go_sem];exact bS (Wk.nlm _ 2 (r':=nz ⟨0,0,ol,l⟩) rfl ⟨.inl rfl,.inl rfl,(by first|exact .inl rfl|exact .inr ⟨rfl,.inl ⟨_,rfl⟩⟩),.inl rfl,trivial⟩) [] (.agg (nz ⟨0,0,ol,l⟩)) [(1000,ro true b a5 e5)] (by simp only[go_sem,nz]) (by simp only[go_sem]) rfl ⟨rfl,rfl⟩
 by_cases h1:n=1
 .subst h1;simp only[aF,au (show ¬(1:Nat)=0 by decide)]at hR;simp only[go_sem,show((((1:Nat):Int))==0)=false from rfl,show((((1:Nat):Int))==1)=true from rfl];have k3:=k1;obtain⟨a3,ha3⟩:∃k,a1=k:=⟨a1,rfl⟩
  obtain⟨e3,he3⟩:∃k,e1=k:=⟨e1,rfl⟩
  rw[ha3]at k3;rw[ha3,he3]at hR⊢
  try simp only[go_sem]
  refine ae (Yj hb 4096 a3 e3 k3) ?_;have k4:=((Fq 4096) a3 e3 k3).1;have hN:=zm (b:=b) (most:=4096) (a:=a3) (e:=e3);generalize pC b 4096 a3 e3=y at*;obtain⟨n2,a4,e4⟩:=y;simp only at k4 hN hR⊢;simp only[go_sem];refine ae (vx true b a4 e4 n2 k4 hb ⟨by omega,by omega⟩) ?_;rw[bW];unfold BT at hR;generalize bI (e4==0) b a4 e4 (n2:Nat)=y at*;obtain⟨l,a5,e5⟩:=y;simp only at hR⊢;subst hR;cases l with
  | none =>
   simp only[go_sem];exact bS (Wk.nlm _ 2 (r':=nz ⟨1,0,[],[]⟩) rfl ⟨.inl rfl,.inl rfl,(by first|exact .inl rfl|exact .inr ⟨rfl,.inl ⟨_,rfl⟩⟩),.inr ⟨rfl,.inl ⟨_,rfl⟩⟩,trivial⟩) [] (.agg (nz ⟨1,0,[],[]⟩)) [(1000,ro true b a5 e5)] (by simp only[go_sem,nz]) (by simp only[go_sem]) rfl ⟨rfl,rfl⟩
  | some l =>
   simp only[go_sem];exact bS (Wk.nlm _ 2 (r':=nz ⟨1,0,[],l⟩) rfl ⟨.inl rfl,.inl rfl,(by first|exact .inl rfl|exact .inr ⟨rfl,.inl ⟨_,rfl⟩⟩),.inl rfl,trivial⟩) [] (.agg (nz ⟨1,0,[],l⟩)) [(1000,ro true b a5 e5)] (by simp only[go_sem,nz]) (by simp only[go_sem]) rfl ⟨rfl,rfl⟩
 by_cases h2:n=2
 .subst h2;simp only[aF,au (show ¬(2:Nat)=0 by decide),au (show ¬(2:Nat)=1 by decide)]at hR;simp only[go_sem,show((((2:Nat):Int))==0)=false from rfl,show((((2:Nat):Int))==1)=false from rfl,show((((2:Nat):Int))==2)=true from rfl];refine ae (N9 hb a1 e1 k1) ?_;have k2:=(tK (b:=b) a1 e1 k1).1;generalize tL b a1 e1=y at*;obtain⟨m,a2,e2⟩:=y;simp only at k2 hR⊢;simp only[go_sem];refine ae (Vv hb a2 e2 k2) ?_;have k3:=((jj b).oks [] a2 e2 k2).1;generalize iV (gX b) [] a2 e2=y at*;obtain⟨ol,a3,e3⟩:=y;simp only at k3 hR⊢;simp only[go_sem,exs]
  try simp only[go_sem]
  refine ae (Yj hb 4096 a3 e3 k3) ?_;have k4:=((Fq 4096) a3 e3 k3).1;have hN:=zm (b:=b) (most:=4096) (a:=a3) (e:=e3);generalize pC b 4096 a3 e3=y at*;obtain⟨n2,a4,e4⟩:=y;simp only at k4 hN hR⊢;simp only[go_sem];refine ae (vx true b a4 e4 n2 k4 hb ⟨by omega,by omega⟩) ?_;rw[bW];unfold BT at hR;generalize bI (e4==0) b a4 e4 (n2:Nat)=y at*;obtain⟨l,a5,e5⟩:=y;simp only at hR⊢;subst hR;cases l with
  | none =>
   simp only[go_sem];exact bS (Wk.nlm _ 2 (r':=nz ⟨0,(m:Int),ol,[]⟩) rfl ⟨.inl rfl,.inl rfl,(by first|exact .inl rfl|exact .inr ⟨rfl,.inl ⟨_,rfl⟩⟩),.inr ⟨rfl,.inl ⟨_,rfl⟩⟩,trivial⟩) [] (.agg (nz ⟨0,(m:Int),ol,[]⟩)) [(1000,ro true b a5 e5)] (by simp only[go_sem,nz]) (by simp only[go_sem]) rfl ⟨rfl,rfl⟩
  | some l =>
   simp only[go_sem];exact bS (Wk.nlm _ 2 (r':=nz ⟨0,(m:Int),ol,l⟩) rfl ⟨.inl rfl,.inl rfl,(by first|exact .inl rfl|exact .inr ⟨rfl,.inl ⟨_,rfl⟩⟩),.inl rfl,trivial⟩) [] (.agg (nz ⟨0,(m:Int),ol,l⟩)) [(1000,ro true b a5 e5)] (by simp only[go_sem,nz]) (by simp only[go_sem]) rfl ⟨rfl,rfl⟩
 simp only[au h0,au h1,au h2]at hR;have p0:(((n:Int))==0)=false:=iS.2 (by omega);have p1:(((n:Int))==1)=false:=iS.2 (by omega);have p2:(((n:Int))==2)=false:=iS.2 (by omega);simp only[go_sem,p0,p1,p2];have cf:=Fr (b:=b) a1 e1 4;generalize (if e1=0 then(4:Int)else e1)=e3 at*;refine ae (cf) ?_;have k3:=k1;obtain⟨a3,ha3⟩:∃k,a1=k:=⟨a1,rfl⟩
 rw[ha3]at k3;rw[ha3]at hR⊢
 try simp only[go_sem]
 refine ae (Yj hb 4096 a3 e3 k3) ?_;have k4:=((Fq 4096) a3 e3 k3).1;have hN:=zm (b:=b) (most:=4096) (a:=a3) (e:=e3);generalize pC b 4096 a3 e3=y at*;obtain⟨n2,a4,e4⟩:=y;simp only at k4 hN hR⊢;simp only[go_sem];refine ae (vx true b a4 e4 n2 k4 hb ⟨by omega,by omega⟩) ?_;rw[bW];unfold BT at hR;generalize bI (e4==0) b a4 e4 (n2:Nat)=y at*;obtain⟨l,a5,e5⟩:=y;simp only at hR⊢;subst hR;cases l with
 | none =>
  simp only[go_sem];exact bS (Wk.nlm _ 2 (r':=nz ⟨0,0,[],[]⟩) rfl ⟨.inl rfl,.inl rfl,(by first|exact .inl rfl|exact .inr ⟨rfl,.inl ⟨_,rfl⟩⟩),.inr ⟨rfl,.inl ⟨_,rfl⟩⟩,trivial⟩) [] (.agg (nz ⟨0,0,[],[]⟩)) [(1000,ro true b a5 e5)] (by simp only[go_sem,nz]) (by simp only[go_sem]) rfl ⟨rfl,rfl⟩
 | some l =>
  simp only[go_sem];exact bS (Wk.nlm _ 2 (r':=nz ⟨0,0,[],l⟩) rfl ⟨.inl rfl,.inl rfl,(by first|exact .inl rfl|exact .inr ⟨rfl,.inl ⟨_,rfl⟩⟩),.inl rfl,trivial⟩) [] (.agg (nz ⟨0,0,[],l⟩)) [(1000,ro true b a5 e5)] (by simp only[go_sem,nz]) (by simp only[go_sem]) rfl ⟨rfl,rfl⟩
