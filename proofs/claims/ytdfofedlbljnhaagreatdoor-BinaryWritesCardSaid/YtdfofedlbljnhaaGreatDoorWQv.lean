import Derived.Test.YtdfofedlbljnhaaGreatDoorWQu
set_option linter.all false
set_option maxRecDepth 100000
set_option maxHeartbeats 40000000
namespace Go.Proofs.YtdfofedlbljnhaaGreatDoor
section
open Go Go.Mw
attribute[local go_sem] cU dm aS bC eS bh ef zX cK
def YA(l:List Int)(hl:l.length<=9223372036854775807)(x:Int):ac pg Fk [.sl 1 (l.map ri),.int .i64 x] (.bool (decide (x∈l))):=by
 refine aD xi ?_;simp only[go_sem,xi];refine an (λi:Nat=>⟨[(5,.int .i64 i),(1,.int .i64 x),(0,.sl 1 (l.map ri))],[]⟩) (λi=>i<=l.length/\x∉l.take i) (λi=>l.length-i) 0 ⟨cQ _,by simp⟩ (Wk.of ?_ ?_) ?_
 .simp only[go_sem];try simp
 .simp only[go_sem]
 rintro i ⟨hi,hx⟩;by_cases q:(i:Int)<(l.length:Int)
 .have hi':i<l.length:=by omega
  have e8:=wi (n:=(i:Int)+1) (by omega) (by omega);by_cases h:ah l i=x
  .rw[aL (show x∈l by rw[<-h,bD hi'];exact na hi')];simp only[go_sem,aL q,ri,be h];refine⟨by omega,q,?_⟩;exact az
  .simp only[go_sem,aL q,ri,aw h];refine⟨by omega,q,?_⟩;refine aE (i+1) ⟨show i+1<=l.length by omega,by rw[su hi',f9,kq];rintro(q|q);exact hx q;exact h q.symm⟩ (show l.length-(i+1)<l.length-i by omega) (Wk.of ?_ ?_)
   .simp only[go_sem,e8];try simp
   .simp only[go_sem]
 .obtain rfl:i=l.length:=by omega
  rw[eV]at hx;rw[aM hx];simp only[go_sem,aM q];exact az
def pS{α:Type}[Inhabited α]{f:α->Bool}{l:List α}{i:Nat}(h:i<l.length)(hf:f (ah l i)=false):l.all f=false:=by
 rw[List.all_eq_false];exact⟨_,na h,by rw[<-bD h,hf];decide⟩
def FM{l:List bj}(h:(nchk l).2=0):tS l=true:=by unfold tS;simp[h]
def FL{l:List bj}(h:¬(nchk l).2=0):tS l=false:=by unfold tS;simpa using h
def UA{m:Md}(h:okM AA m):ac pg Dx [cY m] (.bool (H3 m)):=by
 refine aD uF ?_;have hfs:=h.fs.1;have hgs:=h.gs.1;have hel:=h.els.1;have hds:=h.ds.1;rw[TM];simp only[go_sem,uF,cY];refine an (λi:Nat=>⟨[(3,.int .i64 i),(1,.mp 1 12 0 0)],[(1,⟨33,12,[nZ m],true⟩)]⟩) (λi=>i<=m.fs.length/\(m.fs.take i).all (λx=>tS x.b)=true) (λi=>m.fs.length-i) 0 ⟨cQ _,rfl⟩ (Wk.of ?_ ?_) ?_
 .simp only[go_sem];try simp
 .simp only[go_sem];try simp[go_sem]
 rintro i ⟨hi,ha⟩;by_cases q1:(i:Int)<(m.fs.length:Int)
 .have hi':i<m.fs.length:=by omega
  have e8:=wi (n:=(i:Int)+1) (by omega) (by omega);have hl:=(bN h.bo hi').1;have c:=oz (ah m.fs i).b (by omega);simp only[go_sem,aL q1];refine⟨by omega,q1,?_⟩;refine aj (c) ?_;by_cases z:(nchk (ah m.fs i).b).2=0
  .simp only[go_sem,bB z];refine aE (i+1) ⟨show i+1<=m.fs.length by omega,by rw[pT hi',ha,FM z];rfl⟩ (show m.fs.length-(i+1)<m.fs.length-i by omega) (Wk.of ?_ ?_)
   .simp only[go_sem,e8];try simp
   .simp only[go_sem];try simp[go_sem]
  .rw[pS (f:=λx:Cd=>tS x.b) hi' (FL z)];simp only[dR];simp only[go_sem,bv z];exact az
 obtain rfl:i=m.fs.length:=by omega
 rw[eV]at ha;rw[ha];simp only[go_sem,aM q1];clear q1 hi ha;refine an (λi:Nat=>⟨[(6,.int .i64 i),(1,.mp 1 12 0 0)],[(1,⟨33,12,[nZ m],true⟩)]⟩) (λi=>i<=m.gs.length/\(m.gs.take i).all (λx=>tS x.i)=true) (λi=>m.gs.length-i) 0 ⟨cQ _,rfl⟩ (Wk.of ?_ ?_) ?_
 .simp only[go_sem];try simp
 .simp only[go_sem];try simp[go_sem]
 rintro i ⟨hi,ha⟩;by_cases q1:(i:Int)<(m.gs.length:Int)
 .have hi':i<m.gs.length:=by omega
  have e8:=wi (n:=(i:Int)+1) (by omega) (by omega);have hl:=(bN h.gs.2 hi').2.1;have c:=oz (ah m.gs i).i (by omega);simp only[go_sem,aL q1];refine⟨by omega,q1,?_⟩;refine aj (c) ?_;by_cases z:(nchk (ah m.gs i).i).2=0
  .simp only[go_sem,bB z];refine aE (i+1) ⟨show i+1<=m.gs.length by omega,by rw[pT hi',ha,FM z];rfl⟩ (show m.gs.length-(i+1)<m.gs.length-i by omega) (Wk.of ?_ ?_)
   .simp only[go_sem,e8];try simp
   .simp only[go_sem];try simp[go_sem]
  .rw[pS (f:=λx:Gd=>tS x.i) hi' (FL z)];simp only[dR,Bool.and_false,bW];simp only[go_sem,bv z];exact az
 obtain rfl:i=m.gs.length:=by omega
 rw[eV]at ha;rw[ha];simp only[go_sem,aM q1];clear q1 hi ha;refine an (λi:Nat=>⟨[(9,.int .i64 i),(1,.mp 1 12 0 0)],[(1,⟨33,12,[nZ m],true⟩)]⟩) (λi=>i<=m.els.length/\(m.els.take i).all Nt=true) (λi=>m.els.length-i) 0 ⟨cQ _,rfl⟩ (Wk.of ?_ ?_) ?_
 .simp only[go_sem];try simp
 .simp only[go_sem];try simp[go_sem]
 rintro i ⟨hi,ha⟩;by_cases q1:(i:Int)<(m.els.length:Int)
 .have hi':i<m.els.length:=by omega
  have e8:=wi (n:=(i:Int)+1) (by omega) (by omega);obtain⟨k1,k2,k3⟩:=bN h.els.2 hi';have kl:=k2.1;have hit:=(z_ k1).2.2.2.2;have c:=oz (ah m.els i).o (by omega);by_cases m0:(ah m.els i).mo=0
  .by_cases z:(nchk (ah m.els i).o).2=0
   .have hz:((ah m.els i).mo != 0||tS (ah m.els i).o)=true:=by rw[FM z,Bool.or_true]
    simp only[go_sem,aL q1];refine⟨by omega,q1,?_⟩;refine aj (c) ?_;simp only[go_sem,be m0,bB z];refine⟨by omega,q1,?_⟩;refine an (λj:Nat=>⟨[(12,.int .i64 j),(9,.int .i64 i),(1,.mp 1 12 0 0)],[(1,⟨33,12,[nZ m],true⟩)]⟩) (λj=>j<=(ah m.els i).it.length/\((ah m.els i).it.take j).all tS=true) (λj=>(ah m.els i).it.length-j) 0 ⟨cQ _,rfl⟩ (Wk.of ?_ ?_) ?_
    .simp only[go_sem];try simp
    .simp only[go_sem];try simp[go_sem]
    rintro j ⟨hj,hja⟩;by_cases q2:(j:Int)<((ah m.els i).it.length:Int)
    .have hj':j<(ah m.els i).it.length:=by omega
     have e9:=wi (n:=(j:Int)+1) (by omega) (by omega);have c2:=oz (ah (ah m.els i).it j) (by have:=(bN k3 hj').1;omega);simp only[go_sem,aL q2];refine⟨by omega,q1,by omega,q1,by omega,q2,?_⟩;refine aj (c2) ?_;by_cases z2:(nchk (ah (ah m.els i).it j)).2=0
     .simp only[go_sem,bB z2];refine aE (j+1) ⟨show j+1<=(ah m.els i).it.length by omega,by rw[pT hj',hja,FM z2];rfl⟩ (show(ah m.els i).it.length-(j+1)<(ah m.els i).it.length-j by omega) (Wk.of ?_ ?_)
      .simp only[go_sem,e9];try simp
      .simp only[go_sem];try simp[go_sem]
     .rw[pS (f:=Nt) hi' (by unfold Nt;rw[pS (f:=tS) hj' (FL z2),Bool.and_false])];simp only[dR,Bool.and_false,bW];simp only[go_sem,bv z2];exact az
    obtain rfl:j=(ah m.els i).it.length:=by omega
    rw[eV]at hja;simp only[go_sem,aM q2];refine⟨by omega,q1,?_⟩;refine aE (i+1) ⟨show i+1<=m.els.length by omega,by rw[pT hi',ha];unfold Nt;rw[hz,hja];rfl⟩ (show m.els.length-(i+1)<m.els.length-i by omega) (Wk.of ?_ ?_)
    .simp only[go_sem,e8];try simp
    .simp only[go_sem];try simp[go_sem]
   .rw[pS (f:=Nt) hi' (by unfold Nt;rw[m0,FL z];rfl)];simp only[dR,Bool.and_false,bW];simp only[go_sem,aL q1];refine⟨by omega,q1,?_⟩;refine aj (c) ?_;simp only[go_sem,be m0,bv z];refine⟨by omega,q1,?_⟩;exact az
  .have hz:((ah m.els i).mo != 0||tS (ah m.els i).o)=true:=by rw[bv m0,iT]
   simp only[go_sem,aL q1];refine⟨by omega,q1,?_⟩;refine aj (c) ?_;simp only[go_sem,aw m0];refine⟨by omega,q1,?_⟩;refine an (λj:Nat=>⟨[(12,.int .i64 j),(9,.int .i64 i),(1,.mp 1 12 0 0)],[(1,⟨33,12,[nZ m],true⟩)]⟩) (λj=>j<=(ah m.els i).it.length/\((ah m.els i).it.take j).all tS=true) (λj=>(ah m.els i).it.length-j) 0 ⟨cQ _,rfl⟩ (Wk.of ?_ ?_) ?_
   .simp only[go_sem];try simp
   .simp only[go_sem];try simp[go_sem]
   rintro j ⟨hj,hja⟩;by_cases q2:(j:Int)<((ah m.els i).it.length:Int)
   .have hj':j<(ah m.els i).it.length:=by omega
    have e9:=wi (n:=(j:Int)+1) (by omega) (by omega);have c2:=oz (ah (ah m.els i).it j) (by have:=(bN k3 hj').1;omega);simp only[go_sem,aL q2];refine⟨by omega,q1,by omega,q1,by omega,q2,?_⟩;refine aj (c2) ?_;by_cases z2:(nchk (ah (ah m.els i).it j)).2=0
    .simp only[go_sem,bB z2];refine aE (j+1) ⟨show j+1<=(ah m.els i).it.length by omega,by rw[pT hj',hja,FM z2];rfl⟩ (show(ah m.els i).it.length-(j+1)<(ah m.els i).it.length-j by omega) (Wk.of ?_ ?_)
     .simp only[go_sem,e9];try simp
     .simp only[go_sem];try simp[go_sem]
    .rw[pS (f:=Nt) hi' (by unfold Nt;rw[pS (f:=tS) hj' (FL z2),Bool.and_false])];simp only[dR,Bool.and_false,bW];simp only[go_sem,bv z2];exact az
   obtain rfl:j=(ah m.els i).it.length:=by omega
   rw[eV]at hja;simp only[go_sem,aM q2];refine⟨by omega,q1,?_⟩;refine aE (i+1) ⟨show i+1<=m.els.length by omega,by rw[pT hi',ha];unfold Nt;rw[hz,hja];rfl⟩ (show m.els.length-(i+1)<m.els.length-i by omega) (Wk.of ?_ ?_)
   .simp only[go_sem,e8];try simp
   .simp only[go_sem];try simp[go_sem]
 obtain rfl:i=m.els.length:=by omega
 rw[eV]at ha;rw[ha];simp only[go_sem,aM q1];clear q1 hi ha;refine an (λi:Nat=>⟨[(15,.int .i64 i),(1,.mp 1 12 0 0)],[(1,⟨33,12,[nZ m],true⟩)]⟩) (λi=>i<=m.ds.length/\(m.ds.take i).all QB=true) (λi=>m.ds.length-i) 0 ⟨cQ _,rfl⟩ (Wk.of ?_ ?_) ?_
 .simp only[go_sem];try simp
 .simp only[go_sem];try simp[go_sem]
 rintro i ⟨hi,ha⟩;by_cases q1:(i:Int)<(m.ds.length:Int)
 .have hi':i<m.ds.length:=by omega
  have e8:=wi (n:=(i:Int)+1) (by omega) (by omega);have hl:=(bN h.ds.2 hi').2.2.2.1;have c:=oz (ah m.ds i).o (by omega);by_cases m0:(ah m.ds i).mo=0
  .by_cases z:(nchk (ah m.ds i).o).2=0
   .have hz:QB (ah m.ds i)=true:=by unfold QB;rw[FM z,Bool.or_true]
    simp only[go_sem,aL q1];refine⟨by omega,q1,?_⟩;refine aj (c) ?_;simp only[go_sem,be m0,bB z];refine⟨by omega,q1,?_⟩;refine aE (i+1) ⟨show i+1<=m.ds.length by omega,by rw[pT hi',ha,hz];rfl⟩ (show m.ds.length-(i+1)<m.ds.length-i by omega) (Wk.of ?_ ?_)
    .simp only[go_sem,e8];try simp
    .simp only[go_sem];try simp[go_sem]
   .rw[pS (f:=QB) hi' (by unfold QB;rw[m0,FL z];rfl)];simp only[go_sem,aL q1];refine⟨by omega,q1,?_⟩;refine aj (c) ?_;simp only[go_sem,be m0,bv z];refine⟨by omega,q1,?_⟩;exact az
  .have hz:QB (ah m.ds i)=true:=by unfold QB;rw[bv m0,iT]
   simp only[go_sem,aL q1];refine⟨by omega,q1,?_⟩;refine aj (c) ?_;simp only[go_sem,aw m0];refine⟨by omega,q1,?_⟩;refine aE (i+1) ⟨show i+1<=m.ds.length by omega,by rw[pT hi',ha,hz];rfl⟩ (show m.ds.length-(i+1)<m.ds.length-i by omega) (Wk.of ?_ ?_)
   .simp only[go_sem,e8];try simp
   .simp only[go_sem];try simp[go_sem]
 obtain rfl:i=m.ds.length:=by omega
 rw[eV]at ha;rw[ha];simp only[go_sem,aM q1];exact az
def uY(cs:List Cu)(i:Nat):Int:=if i=0 then 0 else(ah cs (i-1)).af
def B7(cs:List Cu)(i:Nat):uY cs (i+1)=(ah cs i).af:=by unfold uY;rw[au (by omega)];rfl
def Qg{m:Md}(hc:m.cs.length<=9223372036854775807):ac pg BN [cY m] (.bool (Ig m)):=by
 have c:=KF m;have hpi:=Ii m;have hpl:=vj m;simp only[cY,bC]at c;unfold Ig;generalize qt m=ps at*;refine aD sX ?_;simp only[go_sem,sX,cY];refine aa (c) ?_;refine an (λi:Nat=>⟨[(4,.int .i64 i),(3,.sl 1 (ps.map ri)),(1,.mp 1 12 0 0)],[(1,⟨33,12,[nZ m],true⟩)]⟩) (λi=>i<=m.cs.length/\xZ ps (uY m.cs i) (m.cs.drop i)=xZ ps 0 m.cs) (λi=>m.cs.length-i) 0 ⟨cQ _,rfl⟩ (Wk.of ?_ ?_) ?_
 .simp only[go_sem];try simp
 .simp only[go_sem];try simp[go_sem]
 rintro i ⟨hi,ho⟩;by_cases q:(i:Int)<(m.cs.length:Int);rotate_left
 .obtain rfl:i=m.cs.length:=by omega
  rw[List.drop_length,xZ]at ho;rw[<-ho];simp only[go_sem,aM q];exact az
 have hi':i<m.cs.length:=by omega
 have e8:=wi (n:=(i:Int)+1) (by omega) (by omega);rw[vH hi',xZ]at ho;generalize ha:(ah m.cs i).af=a at*;have cm:=YA ps (by omega) a;generalize hF:xZ ps 0 m.cs=F at*;by_cases a0:a=0
 .have hok:decide (a=0\/a∈ps)=true:=aL (.inl a0);rw[hok]at ho;by_cases i0:i=0
  .have hn:¬a<0:=by
    have:=of_decide_eq_true hok;rcases this with h|h
    .omega
    .have:=hpi a h;omega
   have hl0:uY m.cs i=0:=by unfold uY;rw[aF i0]
   rw[hl0,aM hn]at ho;simp only[go_sem,aL q,ha,bB a0,aM (show ¬(i:Int)>0 by omega)];refine⟨by omega,q,?_⟩;refine aE (i+1) ⟨show i+1<=m.cs.length by omega,by rw[B7,ha,<-ho];rfl⟩ (show m.cs.length-(i+1)<m.cs.length-i by omega) (Wk.of ?_ ?_)
   .simp only[go_sem,e8];try simp
   .simp only[go_sem];try simp[go_sem]
  have w1:IntKind.i64.wrap ((i:Int)-1)=((i-1:Nat):Int):=by rw[wi (by omega) (by omega)];omega
  have hl0:uY m.cs i=(ah m.cs (i-1)).af:=by unfold uY;rw[au i0]
  rw[hl0]at ho;by_cases l:a<(ah m.cs (i-1)).af
  .rw[aL l]at ho;simp only[iT,pq,dR]at ho;rw[<-ho];simp only[go_sem,aL q,ha,bB a0,aL (show(i:Int)>0 by omega),w1,aL l];refine⟨by omega,q,?_⟩;refine⟨by omega,by omega,?_⟩;exact az
  .rw[aM l]at ho;simp only[go_sem,aL q,ha,bB a0,aL (show(i:Int)>0 by omega),w1,aM l];refine⟨by omega,q,?_⟩;refine⟨by omega,by omega,?_⟩;refine aE (i+1) ⟨show i+1<=m.cs.length by omega,by rw[B7,ha,<-ho];rfl⟩ (show m.cs.length-(i+1)<m.cs.length-i by omega) (Wk.of ?_ ?_)
   .simp only[go_sem,e8];try simp
   .simp only[go_sem];try simp[go_sem]
 by_cases hin:a∈ps
 .have hok:decide (a=0\/a∈ps)=true:=aL (.inr hin);rw[hok]at ho;by_cases i0:i=0
  .have hn:¬a<0:=by
    have:=of_decide_eq_true hok;rcases this with h|h
    .omega
    .have:=hpi a h;omega
   have hl0:uY m.cs i=0:=by unfold uY;rw[aF i0]
   rw[hl0,aM hn]at ho;simp only[go_sem,aL q,ha,bv a0];refine⟨by omega,q,?_⟩;refine aj (cm) ?_;rw[aL hin];simp only[go_sem,aM (show ¬(i:Int)>0 by omega)];refine aE (i+1) ⟨show i+1<=m.cs.length by omega,by rw[B7,ha,<-ho];rfl⟩ (show m.cs.length-(i+1)<m.cs.length-i by omega) (Wk.of ?_ ?_)
   .simp only[go_sem,e8];try simp
   .simp only[go_sem];try simp[go_sem]
  have w1:IntKind.i64.wrap ((i:Int)-1)=((i-1:Nat):Int):=by rw[wi (by omega) (by omega)];omega
  have hl0:uY m.cs i=(ah m.cs (i-1)).af:=by unfold uY;rw[au i0]
  rw[hl0]at ho;by_cases l:a<(ah m.cs (i-1)).af
  .rw[aL l]at ho;simp only[iT,pq,dR]at ho;rw[<-ho];simp only[go_sem,aL q,ha,bv a0];refine⟨by omega,q,?_⟩;refine aj (cm) ?_;rw[aL hin];simp only[go_sem,aL (show(i:Int)>0 by omega),w1,aL l];refine⟨by omega,by omega,?_⟩;exact az
  .rw[aM l]at ho;simp only[go_sem,aL q,ha,bv a0];refine⟨by omega,q,?_⟩;refine aj (cm) ?_;rw[aL hin];simp only[go_sem,aL (show(i:Int)>0 by omega),w1,aM l];refine⟨by omega,by omega,?_⟩;refine aE (i+1) ⟨show i+1<=m.cs.length by omega,by rw[B7,ha,<-ho];rfl⟩ (show m.cs.length-(i+1)<m.cs.length-i by omega) (Wk.of ?_ ?_)
   .simp only[go_sem,e8];try simp
   .simp only[go_sem];try simp[go_sem]
 .have hok:decide (a=0\/a∈ps)=false:=aM (by rintro(h|h);exact a0 h;exact hin h);rw[hok]at ho;simp only[wE,Bool.or_true,pq,dR]at ho;simp only[go_sem,aL q,ha,bv a0];refine⟨by omega,q,?_⟩;refine aj (cm) ?_;rw[aM hin,<-ho];simp only[go_sem];exact az
end
open Go Go.Mw
section
variable{l:List UInt8}{e:Int}(hl:l.length<=1000)
include hl
attribute[local go_sem] ro wo wa wx rx cL dm aS
end
def o1(x:bj):Option (List UInt8)×Int:=wD true (py x [] 0).1 (py x [] 0).2
section
def YX(f:FuncId)(rest:List AV)(x:List UInt8):Prop:=∀l:List UInt8,l.length+x.length<=1000000000->ac pg f (wx l 0::rest) (wx (l++x) 0)
def aI{f:FuncId}{rest:List AV}{x:List UInt8}(h:YX f rest x){l:List UInt8}{args:List AV}{d:Option Nat}{s:St}{K:St->Prop}(ha:args=wx l 0::rest)(hid:∀x∈args,aO x=[])(hl:l.length+x.length<=1000000000)(hk:K (s.put d (wx (l++x) 0))):cR pg f args d s K:=by
 subst ha;exact bY (h l hl) hid hk
def aG{f:FuncId}{rest:List AV}{x:List UInt8}(h:YX f rest x){l:List UInt8}{args:List AV}{i:Nat}{bf:List Nat}{op:nR}{d:Option Nat}{hist:List HI}{s:St}{K:List HI->St->Prop}(ha:args=wx l 0::rest)(hid:∀x∈args,aO x=[])(hl:l.length+x.length<=1000000000)
  (hk:eH op s .no=true/\iL bf ⟨i,cO op s.env,[],[],false,false⟩ hist=true/\K (⟨i,cO op s.env,[],[],false,false⟩::hist) (s.put d (wx (l++x) 0))):CU pg f args i bf op d hist s K:=by
 subst ha;exact aN (h l hl) hid rfl hk
def ei{w l x:List UInt8}{s:St}{e:IX}{rs:List lS}(he:∀j,e≠.ext j)(h0:q_ rs s=some (wx l 0))(h:l=w++x):AS rs (wx (w++x) 0) e s:=by
 subst h;exact⟨he,s,Wk.refl s,[],h0,rfl⟩
def tQ(n:Nat)(hn:n<4294967296):YX dj [.int .i64 (n:Int)] (ay n):=λl hl=>P3 (by omega) n hn
def GO{n:Int}(h:0<=n/\n<4294967296):YX dj [.int .i64 n] (ay n.toNat):=by
 have:=tQ n.toNat (by omega);rwa[show((n.toNat:Nat):Int)=n by omega]at this
def I7(x:UInt8):YX m5 [.int .u8 x.toNat] [x]:=λl hl=>DO (l:=l) (e:=0) (hl:=by omega) x
def K7(x:List UInt8):YX rj [.sl 1 (x.map dY)] x:=λl hl=>kg l 0 (by omega) x (by omega)
def tA{t:Int}(h:jK t=true):YX ft [.int .i64 t] (fh t):=λl hl=>rD (l:=l) (e:=0) (by omega) t (by rw[aae];exact h)
def M7{s:List UInt8}(h:jE s=0):YX tk [.str s] (uT s):=λl hl=>by
 have hs:s.length<=64/\uv s=true:=by
  unfold jE at h;by_cases h1:s.length>64
  .rw[aF h1]at h;cases h
  rw[au h1]at h;by_cases h2:uv s=false
  .rw[aF h2]at h;cases h
  .exact⟨by omega,by simpa using h2⟩
 have c:=Ua l 0 (by omega) s (by omega);have e:wN ((0:Int)==0) l 0 s=(l++uT s,0):=by
  unfold wN uT;simp[hs.2];omega
 rw[e]at c;exact c
def ad0(x:List UInt8):YX tn [wx x 0] (ay x.length++x):=λl hl=>by
 have hx:x.length<1000000000:=by
  have:=Um x.length;simp only[aJ]at hl;omega
 simp only[aJ]at hl;have c:=Ub l 0 (by omega) x 0 (by omega);have e:wP ((0:Int)==0) l 0 true x 0=(l++(ay x.length++x),0):=by simp[wP,wB]
 rw[e]at c;exact c
attribute[local go_sem] cU wx cL dm aS
def Og{y:Lm}(h:JN y):ac pg Dt [.agg (p7 y)] (.bool true):=by
 obtain⟨h1,h2,h3⟩:=h;have ix:∀n:Int,0<=n/\n<4294967296->ik n=true:=λn h=>by unfold ik;simp;omega
 have n1:=DW y.mn;rw[ix _ h1]at n1;refine aD oQ ?_;cases hh:y.hs
 .simp only[go_sem,oQ,cC,hh];refine aj (n1) ?_;simp only[go_sem,h3 hh];exact ax
 .have hx:=h2 hh;have n2:=DW y.mx;rw[ix _ (by omega)]at n2;simp only[go_sem,oQ,cC,hh];refine aa (n1) ?_;refine aj (n2) ?_;simp only[go_sem,aL (show y.mx>=y.mn by omega)];exact ax
def Vm{y:Lm}(h:JN y):YX zi [.agg (p7 y)] (iw y):=by
 intro l hl;have c1:=Og h;obtain⟨h1,h2,h3⟩:=h;rw[cC]at c1;refine aD jS ?_;have hr:=bA (n:=y.mn.toNat) (by omega);cases hh:y.hs
 .have e:iw y=[0]++ay y.mn.toNat:=by unfold iw;rw[hh];rfl
  rw[e]at hl⊢;simp only[aJ,aT,aC]at hl;simp only[go_sem,jS,cC,hh];rw[hh]at c1;refine aa (c1) ?_
  first|refine aI (I7 0) rfl (by simp[go_sem,ab,wx]) (by (try simp only[aJ,aT,aC]);omega) ?_|refine aG (I7 0) rfl (by simp[go_sem,ab,wx]) (by (try simp only[aJ,aT,aC]);omega) ?_
  simp only[go_sem]
  first|refine aI (GO h1) rfl (by simp[go_sem,ab,wx]) (by (try simp only[aJ,aT,aC]);omega) ?_|refine aG (GO h1) rfl (by simp[go_sem,ab,wx]) (by (try simp only[aJ,aT,aC]);omega) ?_
  simp only[go_sem];exact ei (λ_ h=>by cases h) (by rfl) (by simp[])
 .have e:iw y=[1]++(ay y.mn.toNat++ay y.mx.toNat):=by unfold iw;rw[hh];rfl
  rw[e]at hl⊢;have hx:=h2 hh;simp only[aJ,aT,aC]at hl;simp only[go_sem,jS,cC,hh];rw[hh]at c1;refine aa (c1) ?_
  first|refine aI (I7 1) rfl (by simp[go_sem,ab,wx]) (by (try simp only[aJ,aT,aC]);omega) ?_|refine aG (I7 1) rfl (by simp[go_sem,ab,wx]) (by (try simp only[aJ,aT,aC]);omega) ?_
  simp only[go_sem]
  first|refine aI (GO h1) rfl (by simp[go_sem,ab,wx]) (by (try simp only[aJ,aT,aC]);omega) ?_|refine aG (GO h1) rfl (by simp[go_sem,ab,wx]) (by (try simp only[aJ,aT,aC]);omega) ?_
  simp only[go_sem]
  first|refine aI (GO (n:=y.mx) (by omega)) rfl (by simp[go_sem,ab,wx]) (by (try simp only[aJ,aT,aC]);omega) ?_|refine aG (GO (n:=y.mx) (by omega)) rfl (by simp[go_sem,ab,wx]) (by (try simp only[aJ,aT,aC]);omega) ?_
  simp only[go_sem];exact ei (λ_ h=>by cases h) (by rfl) (by simp[])
def aam{x:Tb}(h:Ei x=0):YX Ar [.agg (xx x)] (oY x):=by
 intro l hl;obtain⟨h1,h2⟩:=Vb h;refine aD qL ?_;have c1:=UB x.e;have c2:=Og h2;rw[cC]at c2;rw[x9.2 h1]at c1;have c3:=Vm h2;have cv:=tA (t:=x.e) (IJ.2 (by omega));rw[cC]at c3;unfold oY at hl⊢;simp only[aJ]at hl;simp only[go_sem,qL,df];refine aa (c1) ?_;refine aa (c2) ?_
 first|refine aI (cv) rfl (by simp[go_sem,ab,wx]) (by (try simp only[aJ,aT,aC]);omega) ?_|refine aG (cv) rfl (by simp[go_sem,ab,wx]) (by (try simp only[aJ,aT,aC]);omega) ?_
 simp only[go_sem]
 first|refine aI (c3) rfl (by simp[go_sem,ab,wx]) (by (try simp only[aJ,aT,aC]);omega) ?_|refine aG (c3) rfl (by simp[go_sem,ab,wx]) (by (try simp only[aJ,aT,aC]);omega) ?_
 simp only[go_sem];exact ei (λ_ h=>by cases h) (by rfl) (by simp[])
def aak{g:Gl}(h:jK g.v=true):YX zh [.agg (Hm g)] (AZ g):=by
 intro l hl;refine aD jR ?_;unfold AZ at hl⊢;cases hm:g.mu
 .rw[hm]at hl;simp only[aJ,aT,aC,gd,cD]at hl⊢;simp only[go_sem,jR,Hm,hm]
  first|refine aI (tA h) rfl (by simp[go_sem,ab,wx]) (by (try simp only[aJ,aT,aC]);omega) ?_|refine aG (tA h) rfl (by simp[go_sem,ab,wx]) (by (try simp only[aJ,aT,aC]);omega) ?_
  simp only[go_sem]
  first|refine aI (I7 0) rfl (by simp[go_sem,ab,wx]) (by (try simp only[aJ,aT,aC]);omega) ?_|refine aG (I7 0) rfl (by simp[go_sem,ab,wx]) (by (try simp only[aJ,aT,aC]);omega) ?_
  simp only[go_sem];exact ei (λ_ h=>by cases h) (by rfl) (by simp[])
 .rw[hm]at hl;simp only[aJ,aT,aC,br]at hl⊢;simp only[go_sem,jR,Hm,hm]
  first|refine aI (tA h) rfl (by simp[go_sem,ab,wx]) (by (try simp only[aJ,aT,aC]);omega) ?_|refine aG (tA h) rfl (by simp[go_sem,ab,wx]) (by (try simp only[aJ,aT,aC]);omega) ?_
  simp only[go_sem]
  first|refine aI (I7 1) rfl (by simp[go_sem,ab,wx]) (by (try simp only[aJ,aT,aC]);omega) ?_|refine aG (I7 1) rfl (by simp[go_sem,ab,wx]) (by (try simp only[aJ,aT,aC]);omega) ?_
  simp only[go_sem];exact ei (λ_ h=>by cases h) (by rfl) (by simp[])
end
section
def cX(k j:Nat)(E:List (Nat×AV))(H:List (Nat×ao))(v:List UInt8)(i:Nat):St:=⟨(k,.int .i64 i)::E,(j,⟨81,2,[[.sl 1 (v.map dY),.int .i64 0]],true⟩)::H⟩
def dE{α:Type}[Inhabited α](k j:Nat)(E:List (Nat×AV))(H:List (Nat×ao))(enc:α->List UInt8)(l:List α)(w:List UInt8){x:bR}{s:St}{K:IX->St->Prop}(hw:w.length+(l.flatMap enc).length<=1000000000)(hl:l.length<4294967296)(h0:Wk s (cX k j E H w 0))
  (hx:jD pg x (cX k j E H (w++l.flatMap enc) l.length) (Xk (λq:Nat=>cX k j E H (w++(l.take q).flatMap enc) q) (λq=>q<=l.length) (λq=>l.length-q) l.length K))
  (hs:∀i v,i<l.length->(i:Int)<(l.length:Int)->v.length+(enc (ah l i)).length<=1000000000->IntKind.i64.wrap ((i:Int)+1)=((i+1:Nat):Int)->(∀s',Wk s' (cX k j E H (v++enc (ah l i)) (i+1))->Xk (λq:Nat=>cX k j E H (w++(l.take q).flatMap enc) q) (λq=>q<=l.length) (λq=>l.length-q) i K .nrm s') ->
   jD pg x (cX k j E H v i) (Xk (λq:Nat=>cX k j E H (w++(l.take q).flatMap enc) q) (λq=>q<=l.length) (λq=>l.length-q) i K)):jD pg (.loop x) s K:=by
 refine an (λq:Nat=>cX k j E H (w++(l.take q).flatMap enc) q) (λq=>q<=l.length) (λq=>l.length-q) 0 (cQ _) (by show Wk s (cX k j E H (w++(l.take 0).flatMap enc) 0);rw[mA,List.flatMap_nil,gh];exact h0) ?_;intro i hi;by_cases h1:i<l.length
 .refine hs i _ h1 (by omega) ?_ (by rw[wi (by omega) (by omega)];omega) λs' h=>aE (i+1) (show i+1<=l.length by omega) (show l.length-(i+1)<l.length-i by omega) ?_
  .have:=vJ (f:=enc) h1;rw[aJ];omega
  .show Wk s' (cX k j E H (w++(l.take (i+1)).flatMap enc) (i+1));rw[r7 h1,<-eU];exact h
 .obtain rfl:i=l.length:=by have:i<=l.length:=hi;omega
  show jD _ _ (cX k j E H (w++(l.take l.length).flatMap enc) l.length) _;rw[eV];exact hx
attribute[local go_sem] cU wx cL dm aS
def KG(l:List Int)(h1:l.length<=8)(h2:∀t∈l,jK t=true):ac pg HV [.sl 1 (l.map oE)] (.int .i64 0):=by
 refine aD yS ?_;simp only[go_sem,yS,aM (show ¬(l.length:Int)>8 by omega)];refine an (λi:Nat=>⟨[(3,.int .i64 i),(0,.sl 1 (l.map oE))],[]⟩) (λi=>i<=l.length) (λi=>l.length-i) 0 (cQ _) (Wk.of ?_ ?_) ?_
 .simp only[go_sem];try simp
 .simp only[go_sem]
 intro i hi;by_cases q1:(i:Int)<(l.length:Int)
 .have hi':i<l.length:=by omega
  have e8:=wi (n:=(i:Int)+1) (by omega) (by omega);have c:=UE (ah l i);rw[bN h2 hi']at c;simp only[go_sem,aL q1];refine⟨by omega,q1,?_⟩;refine aa (c) ?_;refine aE (i+1) (show i+1<=l.length by omega) (show l.length-(i+1)<l.length-i by omega) (Wk.of ?_ ?_)
  .simp only[go_sem,e8];try simp
  .simp only[go_sem]
 .simp only[go_sem,aM q1];exact az
def IK{l:List Int}(h1:l.length<=8)(h2:∀t∈l,jK t=true):YX BM [.sl 1 (l.map oE)] (aQ fh l):=by
 intro w hw;unfold aQ at hw⊢;simp only[aJ]at hw;refine aD sW ?_;simp only[go_sem,sW]
 first|refine aI (tQ l.length (by omega)) rfl (by simp[go_sem,ab,wx]) (by (try simp only[aJ,aT,aC]);omega) ?_|refine aG (tQ l.length (by omega)) rfl (by simp[go_sem,ab,wx]) (by (try simp only[aJ,aT,aC]);omega) ?_
 simp only[go_sem];refine dE 5 2 [(4,.mp 4 2 0 0),(2,.mp 2 2 0 0),(1,.sl 1 (l.map oE))] [(4,⟨81,2,[[.nl,.int .i64 0]],true⟩)] fh l (w++ay l.length) (by rw[aJ];omega) (by omega) (Wk.of ?_ ?_) ?_ ?_
 .simp only[go_sem,cX];try simp
 .simp only[go_sem,cX];try simp[go_sem]
 .simp only[go_sem,cX,aM (rO _)];exact ei (λ_ h=>by cases h) (by rfl) (by simp[])
 intro i v hi q1 hv e8 k;simp only[go_sem,cX,aL q1];refine⟨by omega,q1,?_⟩
 first|refine aI (tA (bN h2 hi)) rfl (by simp[go_sem,ab,wx]) (by (try simp only[aJ,aT,aC]);omega) ?_|refine aG (tA (bN h2 hi)) rfl (by simp[go_sem,ab,wx]) (by (try simp only[aJ,aT,aC]);omega) ?_
 simp only[go_sem];refine k _ (Wk.of ?_ ?_)
 .simp only[go_sem,cX,e8];try simp
 .simp only[go_sem,cX];try simp[go_sem]
def ahm{x:Ft}(h:A3 x=0):YX BL [.agg (vK x)] (pX x):=by
 intro w hw;obtain⟨h1,h2,h3,h4⟩:=Sf h;have c1:=KG x.ps h1 h3;have c2:=KG x.rs h2 h4;rw[show pX x=[96]++(aQ fh x.ps++aQ fh x.rs) from rfl]at hw⊢;simp only[aJ,aT,aC]at hw;refine aD sV ?_;simp only[go_sem,sV,du];refine aa (c1) ?_;refine aa (c2) ?_
 first|refine aI (I7 96) rfl (by simp[go_sem,ab,wx]) (by (try simp only[aJ,aT,aC]);omega) ?_|refine aG (I7 96) rfl (by simp[go_sem,ab,wx]) (by (try simp only[aJ,aT,aC]);omega) ?_
 simp only[go_sem]
 first|refine aI (IK h1 h3) rfl (by simp[go_sem,ab,wx]) (by (try simp only[aJ,aT,aC]);omega) ?_|refine aG (IK h1 h3) rfl (by simp[go_sem,ab,wx]) (by (try simp only[aJ,aT,aC]);omega) ?_
 simp only[go_sem]
 first|refine aI (IK h2 h4) rfl (by simp[go_sem,ab,wx]) (by (try simp only[aJ,aT,aC]);omega) ?_|refine aG (IK h2 h4) rfl (by simp[go_sem,ab,wx]) (by (try simp only[aJ,aT,aC]);omega) ?_
 simp only[go_sem];exact ei (λ_ h=>by cases h) (by rfl) (by simp[])
end
section
def iq{w:List UInt8}{s:St}{e:IX}{rs:List lS}{l:List UInt8}(he:∀j,e≠.ext j)(h0:q_ rs s=some (wx l 0))(h:l=w):AS rs (wx w 0) e s:=by
 subst h;exact⟨he,s,Wk.refl s,[],h0,rfl⟩
def ahr{x:bj}(h:PL x=true)(hb:x.lb.length<=64)(hn:0<=x.n):YX A_ [di x] (Ab x):=λl hl=>by
 have:=Jp x;have c:=agt (l:=l) (e:=0) (by omega) x hn (by omega);rw[T9 h hb]at c;exact c
attribute[local go_sem] cU wx cL dm aS
def rM{L:List bj}(ho:Mb L)(hl:L.length<=2147483647):YX Du [.sl 9 (L.map aS)] (et L):=by
 intro w hw;unfold et at hw⊢;refine aD uD ?_;simp only[go_sem,uD];refine dE 5 2 [(4,.mp 4 2 0 0),(2,.mp 2 2 0 0),(1,.sl 9 (L.map aS))] [(4,⟨81,2,[[.nl,.int .i64 0]],true⟩)] Ab L w (by omega) (by omega) (Wk.of ?_ ?_) ?_ ?_
 .simp only[go_sem,cX];try simp
 .simp only[go_sem,cX];try simp[go_sem]
 .simp only[go_sem,cX,aM (rO _)];exact ei (λ_ h=>by cases h) (by rfl) (by simp[])
 intro i v hi q1 hv e8 k;obtain⟨a1,a2,a3,a4⟩:=bN ho hi;have c:=ahr a1 a2 a3;simp only[cL]at c;simp only[go_sem,cX,aL q1];refine⟨by omega,q1,?_⟩
 first|refine aI (c) rfl (by simp[go_sem,ab,wx]) (by (try simp only[aJ,aT,aC]);omega) ?_|refine aG (c) rfl (by simp[go_sem,ab,wx]) (by (try simp only[aJ,aT,aC]);omega) ?_
 simp only[go_sem];refine k _ (Wk.of ?_ ?_)
 .simp only[go_sem,cX,e8];try simp
 .simp only[go_sem,cX];try simp[go_sem]
def ahn{x:Im}(h:ED x=0):YX zj [.agg (vM x)] (pY x):=by
 intro w hw;obtain⟨h1,h2,h3,h4,h5,h6,h7,h8⟩:=SJ h;have hk8:IntKind.u8.wrap x.k=(((UInt8.ofNat x.k.toNat).toNat:Nat):Int):=OI h3;have cn1:=M7 h1;have cn2:=M7 h2;have cb:=I7 (UInt8.ofNat x.k.toNat);rw[<-hk8]at cb;unfold pY at hw⊢;refine aD eF ?_;rcases(show x.k=0\/x.k=1\/x.k=2\/x.k=3 by omega)with q|q|q|q
 .rw[aF q]at hw⊢;simp only[aJ,aT,aC]at hw;have ct:=GO (dO.1 (h5 q));simp only[go_sem,eF,cP]
  first|refine aI (cn1) rfl (by simp[go_sem,ab,wx]) (by (try simp only[aJ,aT,aC]);omega) ?_|refine aG (cn1) rfl (by simp[go_sem,ab,wx]) (by (try simp only[aJ,aT,aC]);omega) ?_
  simp only[go_sem]
  first|refine aI (cn2) rfl (by simp[go_sem,ab,wx]) (by (try simp only[aJ,aT,aC]);omega) ?_|refine aG (cn2) rfl (by simp[go_sem,ab,wx]) (by (try simp only[aJ,aT,aC]);omega) ?_
  simp only[go_sem]
  first|refine aI (cb) rfl (by simp[go_sem,ab,wx]) (by (try simp only[aJ,aT,aC]);omega) ?_|refine aG (cb) rfl (by simp[go_sem,ab,wx]) (by (try simp only[aJ,aT,aC]);omega) ?_
  simp only[go_sem,q]
  first|refine aI (ct) rfl (by simp[go_sem,ab,wx]) (by (try simp only[aJ,aT,aC]);omega) ?_|refine aG (ct) rfl (by simp[go_sem,ab,wx]) (by (try simp only[aJ,aT,aC]);omega) ?_
  simp only[go_sem];exact ei (λ_ h=>by cases h) (by rfl) (by simp[])
 .rw[au (by omega),aF q]at hw⊢;simp only[aJ,aT,aC]at hw;have ct:=aam (h6 q);rw[df]at ct;simp only[go_sem,eF,cP]
  first|refine aI (cn1) rfl (by simp[go_sem,ab,wx]) (by (try simp only[aJ,aT,aC]);omega) ?_|refine aG (cn1) rfl (by simp[go_sem,ab,wx]) (by (try simp only[aJ,aT,aC]);omega) ?_
  simp only[go_sem]
  first|refine aI (cn2) rfl (by simp[go_sem,ab,wx]) (by (try simp only[aJ,aT,aC]);omega) ?_|refine aG (cn2) rfl (by simp[go_sem,ab,wx]) (by (try simp only[aJ,aT,aC]);omega) ?_
  simp only[go_sem]
  first|refine aI (cb) rfl (by simp[go_sem,ab,wx]) (by (try simp only[aJ,aT,aC]);omega) ?_|refine aG (cb) rfl (by simp[go_sem,ab,wx]) (by (try simp only[aJ,aT,aC]);omega) ?_
  simp only[go_sem,q]
  first|refine aI (ct) rfl (by simp[go_sem,ab,wx]) (by (try simp only[aJ,aT,aC]);omega) ?_|refine aG (ct) rfl (by simp[go_sem,ab,wx]) (by (try simp only[aJ,aT,aC]);omega) ?_
  simp only[go_sem];exact ei (λ_ h=>by cases h) (by rfl) (by simp[])
 .rw[au (by omega),au (by omega),aF q]at hw⊢;simp only[aJ,aT,aC]at hw;have ct:=Vm (Gp (h7 q));rw[cC]at ct;simp only[go_sem,eF,cP]
  first|refine aI (cn1) rfl (by simp[go_sem,ab,wx]) (by (try simp only[aJ,aT,aC]);omega) ?_|refine aG (cn1) rfl (by simp[go_sem,ab,wx]) (by (try simp only[aJ,aT,aC]);omega) ?_
  simp only[go_sem]
  first|refine aI (cn2) rfl (by simp[go_sem,ab,wx]) (by (try simp only[aJ,aT,aC]);omega) ?_|refine aG (cn2) rfl (by simp[go_sem,ab,wx]) (by (try simp only[aJ,aT,aC]);omega) ?_
  simp only[go_sem]
  first|refine aI (cb) rfl (by simp[go_sem,ab,wx]) (by (try simp only[aJ,aT,aC]);omega) ?_|refine aG (cb) rfl (by simp[go_sem,ab,wx]) (by (try simp only[aJ,aT,aC]);omega) ?_
  simp only[go_sem,q]
  first|refine aI (ct) rfl (by simp[go_sem,ab,wx]) (by (try simp only[aJ,aT,aC]);omega) ?_|refine aG (ct) rfl (by simp[go_sem,ab,wx]) (by (try simp only[aJ,aT,aC]);omega) ?_
  simp only[go_sem];exact ei (λ_ h=>by cases h) (by rfl) (by simp[])
 .rw[au (by omega),au (by omega),au (by omega)]at hw⊢;simp only[aJ,aT,aC]at hw;have ct:=aak (ZA (h8 q));simp only[Hm]at ct;simp only[go_sem,eF,cP]
  first|refine aI (cn1) rfl (by simp[go_sem,ab,wx]) (by (try simp only[aJ,aT,aC]);omega) ?_|refine aG (cn1) rfl (by simp[go_sem,ab,wx]) (by (try simp only[aJ,aT,aC]);omega) ?_
  simp only[go_sem]
  first|refine aI (cn2) rfl (by simp[go_sem,ab,wx]) (by (try simp only[aJ,aT,aC]);omega) ?_|refine aG (cn2) rfl (by simp[go_sem,ab,wx]) (by (try simp only[aJ,aT,aC]);omega) ?_
  simp only[go_sem]
  first|refine aI (cb) rfl (by simp[go_sem,ab,wx]) (by (try simp only[aJ,aT,aC]);omega) ?_|refine aG (cb) rfl (by simp[go_sem,ab,wx]) (by (try simp only[aJ,aT,aC]);omega) ?_
  simp only[go_sem,q]
  first|refine aI (ct) rfl (by simp[go_sem,ab,wx]) (by (try simp only[aJ,aT,aC]);omega) ?_|refine aG (ct) rfl (by simp[go_sem,ab,wx]) (by (try simp only[aJ,aT,aC]);omega) ?_
  simp only[go_sem];exact ei (λ_ h=>by cases h) (by rfl) (by simp[])
def adX{x:Da}(h:Kp AA x)(hn:Fp x.o):YX BO [.agg (nz x)] (pV x):=by
 intro w hw;obtain⟨d1,d2,d3,d4⟩:=RY h;obtain⟨j1,j2⟩:=rz d4 hn;have co:=rM j1 (by omega);have ce:=GO (dO.1 d2);have cl:=tQ x.b.length (by omega);unfold pV at hw⊢;refine aD jc ?_;by_cases q:x.mo=1
 .rw[aF q]at hw⊢;simp only[aJ,aT,aC]at hw;simp only[go_sem,jc,ef,be q]
  first|refine aI (tQ 1 (by decide)) rfl (by simp[go_sem,ab,wx]) (by (try simp only[aJ,aT,aC]);omega) ?_|refine aG (tQ 1 (by decide)) rfl (by simp[go_sem,ab,wx]) (by (try simp only[aJ,aT,aC]);omega) ?_
  simp only[go_sem]
  first|refine aI (cl) rfl (by simp[go_sem,ab,wx]) (by (try simp only[aJ,aT,aC]);omega) ?_|refine aG (cl) rfl (by simp[go_sem,ab,wx]) (by (try simp only[aJ,aT,aC]);omega) ?_
  simp only[go_sem]
  first|refine aI (K7 x.b) rfl (by simp[go_sem,ab,wx]) (by (try simp only[aJ,aT,aC]);omega) ?_|refine aG (K7 x.b) rfl (by simp[go_sem,ab,wx]) (by (try simp only[aJ,aT,aC]);omega) ?_
  simp only[go_sem];exact ei (λ_ h=>by cases h) (by rfl) (by simp[])
 by_cases q2:x.me=0
 .rw[au q,aF q2]at hw⊢;simp only[aJ,aT,aC]at hw;simp only[go_sem,jc,ef,aw q,be q2]
  first|refine aI (tQ 0 (by decide)) rfl (by simp[go_sem,ab,wx]) (by (try simp only[aJ,aT,aC]);omega) ?_|refine aG (tQ 0 (by decide)) rfl (by simp[go_sem,ab,wx]) (by (try simp only[aJ,aT,aC]);omega) ?_
  simp only[go_sem]
  first|refine aI (co) rfl (by simp[go_sem,ab,wx]) (by (try simp only[aJ,aT,aC]);omega) ?_|refine aG (co) rfl (by simp[go_sem,ab,wx]) (by (try simp only[aJ,aT,aC]);omega) ?_
  simp only[go_sem]
  first|refine aI (cl) rfl (by simp[go_sem,ab,wx]) (by (try simp only[aJ,aT,aC]);omega) ?_|refine aG (cl) rfl (by simp[go_sem,ab,wx]) (by (try simp only[aJ,aT,aC]);omega) ?_
  simp only[go_sem]
  first|refine aI (K7 x.b) rfl (by simp[go_sem,ab,wx]) (by (try simp only[aJ,aT,aC]);omega) ?_|refine aG (K7 x.b) rfl (by simp[go_sem,ab,wx]) (by (try simp only[aJ,aT,aC]);omega) ?_
  simp only[go_sem];exact ei (λ_ h=>by cases h) (by rfl) (by simp[])
 .rw[au q,au q2]at hw⊢;simp only[aJ,aT,aC]at hw;simp only[go_sem,jc,ef,aw q,aw q2]
  first|refine aI (tQ 2 (by decide)) rfl (by simp[go_sem,ab,wx]) (by (try simp only[aJ,aT,aC]);omega) ?_|refine aG (tQ 2 (by decide)) rfl (by simp[go_sem,ab,wx]) (by (try simp only[aJ,aT,aC]);omega) ?_
  simp only[go_sem]
  first|refine aI (ce) rfl (by simp[go_sem,ab,wx]) (by (try simp only[aJ,aT,aC]);omega) ?_|refine aG (ce) rfl (by simp[go_sem,ab,wx]) (by (try simp only[aJ,aT,aC]);omega) ?_
  simp only[go_sem]
  first|refine aI (co) rfl (by simp[go_sem,ab,wx]) (by (try simp only[aJ,aT,aC]);omega) ?_|refine aG (co) rfl (by simp[go_sem,ab,wx]) (by (try simp only[aJ,aT,aC]);omega) ?_
  simp only[go_sem]
  first|refine aI (cl) rfl (by simp[go_sem,ab,wx]) (by (try simp only[aJ,aT,aC]);omega) ?_|refine aG (cl) rfl (by simp[go_sem,ab,wx]) (by (try simp only[aJ,aT,aC]);omega) ?_
  simp only[go_sem]
  first|refine aI (K7 x.b) rfl (by simp[go_sem,ab,wx]) (by (try simp only[aJ,aT,aC]);omega) ?_|refine aG (K7 x.b) rfl (by simp[go_sem,ab,wx]) (by (try simp only[aJ,aT,aC]);omega) ?_
  simp only[go_sem];exact ei (λ_ h=>by cases h) (by rfl) (by simp[])
end
section
def ZZ(l:List Int)(i:Nat):List (Nat×Int):=vr l.length (l.drop i)
def GH:∀(f g:Nat)(l:List Int),l.length<=f->l.length<=g->vr f l=vr g l
 | 0,g,l,h,_=>by
  obtain rfl:l=[]:=zU (by omega);cases g<;>rfl
 | f+1,0,l,_,h=>by
  obtain rfl:l=[]:=zU (by omega);rfl
 | f+1,g+1,[],_,_=>rfl
 | f+1,g+1,x::l,h1,h2=>by
  simp only[aT]at h1 h2;simp only[vr];rw[GH f g (l.drop (same x l)) (by rw[jJ];omega) (by rw[jJ];omega)]
def agC(l:List Int):ZZ l 0=gD l:=by unfold ZZ gD;rw[M8]
def Z0{l:List Int}{i:Nat}(h:i<l.length):ZZ l i=(same (ah l i) (l.drop i),ah l i)::ZZ l (i+same (ah l i) (l.drop i)):=by
 have hd:=vH h;have hs:same (ah l i) (l.drop i)=same (ah l i) (l.drop (i+1))+1:=by rw[hd,same,aF rfl]
 have e:l.drop (i+same (ah l i) (l.drop i))=(l.drop (i+1)).drop (same (ah l i) (l.drop (i+1))):=by
  rw[hs,Ev];congr 1;omega
 obtain⟨n,hn⟩:∃n,l.length=n+1:=⟨l.length-1,by omega⟩
 unfold ZZ;rw[e,hs,GH l.length n ((l.drop (i+1)).drop _) (by simp only[jJ];omega) (by simp only[jJ];omega)]
 conv=>lhs;rw[hn,hd,vr]
def YM{l:List Int}:ZZ l l.length=[]:=by
 unfold ZZ;rw[List.drop_length];cases l.length<;>rfl
def MH{l:List Int}{k:Nat}{t:Int}(h:k<l.length):same t (l.drop k)=if ah l k=t then same t (l.drop (k+1))+1 else 0:=by rw[vH h,same]
def adj{l:List Int}{t:Int}:same t (l.drop l.length)=0:=by rw[List.drop_length];rfl
def aal{n:Nat}{t:Int}(h1:n<4294967296)(h2:jK t=true):(kP (n,t)).length<=6:=by
 have:=bA h1;unfold kP;simp only[fh,aJ,aT,aC];omega
attribute[local go_sem] cU wx cL dm aS
def adW{x:Cd}(h1:x.lo.length<=64)(h2:∀t∈x.lo,jK t=true)(h4:Mb x.b)(h5:x.b.length<=2048):ac pg HZ [.agg (qB x)] (wx (jX x) 0):=by
 have hB:=Aa h1 h4 h5;refine aD yW ?_;simp only[go_sem,yW,cK];refine an (λq:Nat×List (Nat×Int)=>⟨[(5,.int .i64 q.1),(4,.int .i64 q.2.length),(3,.mp 3 2 0 0),(2,.mp 2 2 0 0),(1,.mp 1 3 0 0)],[(3,⟨81,2,[[.sl 1 ((q.2.flatMap kP).map dY),.int .i64 0]],true⟩),(1,⟨61,3,[qB x],true⟩),(2,⟨81,2,[[.nl,.int .i64 0]],true⟩)]⟩) (λq=>q.1<=x.lo.length/\q.2.length<=q.1/\(q.2.flatMap kP).length<=6*q.1/\q.2++ZZ x.lo q.1=gD x.lo) (λq=>x.lo.length-q.1) (0,[]) ⟨cQ _,bG _,bG _,agC _⟩ ?_ ?_
 .refine(Wk.nlh _ 3 (r:=[.nl,.int .i64 0]) (r':=[.sl 1 [],.int .i64 0]) (by rfl) ⟨.inr ⟨rfl,1,rfl⟩,.inl rfl,trivial⟩).trans (Wk.of ?_ ?_)
  .simp only[go_sem];try simp
  .simp only[go_sem,cK];try simp[go_sem]
 rintro⟨i,R⟩ ⟨hi,hR,hl,hr⟩;simp only at hi hR hl hr;by_cases q1:(i:Int)<(x.lo.length:Int);rotate_left
 .obtain rfl:i=x.lo.length:=by omega
  rw[YM,gh]at hr;subst hr;have hb:jX x=ay (gD x.lo).length++(gD x.lo).flatMap kP++et x.b:=by unfold jX Jq aQ;rfl
  rw[hb]at hB;simp only[aJ]at hB;simp only[go_sem,aM q1,cK];refine aj (T_ ((gD x.lo).flatMap kP) 0) ?_;rw[show wD true ((gD x.lo).flatMap kP) 0=(some ((gD x.lo).flatMap kP),0) from rfl];simp only[go_sem];refine dA [wx [] 0,.int .i64 (gD x.lo).length] ⟨nJ 0,.inl rfl,trivial⟩ ?_
  first|refine aI (tQ (gD x.lo).length (by omega)) rfl (by simp[go_sem,ab,wx]) (by (try simp only[aJ,aT,aC]);omega) ?_|refine aG (tQ (gD x.lo).length (by omega)) rfl (by simp[go_sem,ab,wx]) (by (try simp only[aJ,aT,aC]);omega) ?_
  simp only[go_sem]
  first|refine aI (K7 ((gD x.lo).flatMap kP)) rfl (by simp[go_sem,ab,wx]) (by (try simp only[aJ,aT,aC]);omega) ?_|refine aG (K7 ((gD x.lo).flatMap kP)) rfl (by simp[go_sem,ab,wx]) (by (try simp only[aJ,aT,aC]);omega) ?_
  simp only[go_sem,cK]
  first|refine aI (rM h4 (by omega)) rfl (by simp[go_sem,ab,wx]) (by (try simp only[aJ,aT,aC]);omega) ?_|refine aG (rM h4 (by omega)) rfl (by simp[go_sem,ab,wx]) (by (try simp only[aJ,aT,aC]);omega) ?_
  simp only[go_sem];exact iq (λ_ h=>by cases h) (by rfl) (by rw[hb];try simp)
 have hi':i<x.lo.length:=by omega
 have hs1:same (ah x.lo i) (x.lo.drop i)=same (ah x.lo i) (x.lo.drop (i+1))+1:=by rw[MH hi',aF rfl]
 have hs2:=Ot (ah x.lo i) (x.lo.drop i);rw[jJ]at hs2;obtain⟨n,hn⟩:∃n,n=same (ah x.lo i) (x.lo.drop i):=⟨_,rfl⟩
 simp only[go_sem,aL q1,cK];refine an (λk:Nat=>⟨[(6,.int .i64 k),(5,.int .i64 i),(4,.int .i64 R.length),(3,.mp 3 2 0 0),(2,.mp 2 2 0 0),(1,.mp 1 3 0 0)],[(3,⟨81,2,[[.sl 1 ((R.flatMap kP).map dY),.int .i64 0]],true⟩),(1,⟨61,3,[qB x],true⟩),(2,⟨81,2,[[.nl,.int .i64 0]],true⟩)]⟩) (λk=>i<=k/\k<=x.lo.length/\(k-i)+same (ah x.lo i) (x.lo.drop k)=n) (λk=>x.lo.length-k) i ⟨bG _,by omega,by rw[hn];omega⟩ (Wk.of ?_ ?_) ?_
 .simp only[go_sem];try simp
 .simp only[go_sem,cK];try simp[go_sem]
 rintro k ⟨hk1,hk2,hk3⟩;by_cases q2:(k:Int)<(x.lo.length:Int)
 .have hk':k<x.lo.length:=by omega
  by_cases q3:ah x.lo k=ah x.lo i
  .have e8:=wi (n:=(k:Int)+1) (by omega) (by omega);rw[MH hk',aF q3]at hk3;simp only[go_sem,aL q2,cK,be q3];refine⟨by omega,q2,by omega,q1,?_⟩;refine aE (k+1) ⟨by omega,by omega,by omega⟩ (show x.lo.length-(k+1)<x.lo.length-k by omega) (Wk.of ?_ ?_)
   .simp only[go_sem,e8];try simp
   .simp only[go_sem,cK];try simp[go_sem]
  .rw[MH hk',au q3]at hk3;simp only[go_sem,aL q2,cK,aw q3];refine⟨by omega,q2,by omega,q1,?_⟩;have hv:=bN h2 hi';have hy:=aal (n:=n) (by omega) hv;have w1:IntKind.i64.wrap ((k:Int)-(i:Int))=(n:Int):=by rw[wi (by omega) (by omega)];omega
   have w2:IntKind.i64.wrap ((R.length:Int)+1)=((R.length+1:Nat):Int):=by rw[wi (by omega) (by omega)];omega
   have c2:=tQ n (by omega);unfold kP at hy;simp only[aJ]at hy
   try simp only[go_sem,w1]
   first|refine aI (c2) rfl (by simp[go_sem,ab,wx]) (by (try simp only[aJ,aT,aC]);omega) ?_|refine aG (c2) rfl (by simp[go_sem,ab,wx]) (by (try simp only[aJ,aT,aC]);omega) ?_
   simp only[go_sem];refine⟨by omega,q1,?_⟩
   first|refine aI (tA hv) rfl (by simp[go_sem,ab,wx]) (by (try simp only[aJ,aT,aC]);omega) ?_|refine aG (tA hv) rfl (by simp[go_sem,ab,wx]) (by (try simp only[aJ,aT,aC]);omega) ?_
   simp only[go_sem,w2];refine aE (i+n,R++[(n,ah x.lo i)]) ⟨by omega,by simp;omega,by rw[vz,aJ];simp only[wG,List.flatMap_nil,gh,kP,aJ];omega,by rw[<-hr,Z0 hi',<-hn];simp⟩ (show x.lo.length-(i+n)<x.lo.length-i by omega) (Wk.of ?_ ?_)
   .simp only[go_sem];try simp;try omega
   .simp only[go_sem,cK,vz,wG,List.flatMap_nil,gh,kP,eU];try simp[go_sem]
 .have hk:k=x.lo.length:=by omega
  rw[hk,adj,<-hk]at hk3;simp only[go_sem,aM q2,cK];have hv:=bN h2 hi';have hy:=aal (n:=n) (by omega) hv;have w1:IntKind.i64.wrap ((k:Int)-(i:Int))=(n:Int):=by rw[wi (by omega) (by omega)];omega
  have w2:IntKind.i64.wrap ((R.length:Int)+1)=((R.length+1:Nat):Int):=by rw[wi (by omega) (by omega)];omega
  have c2:=tQ n (by omega);unfold kP at hy;simp only[aJ]at hy
  try simp only[go_sem,w1]
  first|refine aI (c2) rfl (by simp[go_sem,ab,wx]) (by (try simp only[aJ,aT,aC]);omega) ?_|refine aG (c2) rfl (by simp[go_sem,ab,wx]) (by (try simp only[aJ,aT,aC]);omega) ?_
  simp only[go_sem];refine⟨by omega,q1,?_⟩
  first|refine aI (tA hv) rfl (by simp[go_sem,ab,wx]) (by (try simp only[aJ,aT,aC]);omega) ?_|refine aG (tA hv) rfl (by simp[go_sem,ab,wx]) (by (try simp only[aJ,aT,aC]);omega) ?_
  simp only[go_sem,w2];refine aE (i+n,R++[(n,ah x.lo i)]) ⟨by omega,by simp;omega,by rw[vz,aJ];simp only[wG,List.flatMap_nil,gh,kP,aJ];omega,by rw[<-hr,Z0 hi',<-hn];simp⟩ (show x.lo.length-(i+n)<x.lo.length-i by omega) (Wk.of ?_ ?_)
  .simp only[go_sem];try simp;try omega
  .simp only[go_sem,cK,vz,wG,List.flatMap_nil,gh,kP,eU];try simp[go_sem]
end
section
attribute[local go_sem] cU wx cL dm aS
def YC(l:List bj):ac pg Fl [.sl 9 (l.map aS)] (.bool (tF l)):=by
 refine aD li ?_;unfold tF;by_cases q1:l.length=2;rotate_left
 .rw[iS.2 q1];simp only[go_sem,li,aw (show(l.length:Int)≠2 by omega),dR];exact az
 rw[q1];by_cases q2:(ah l 0).op=210;rotate_left
 .rw[aw q2];simp only[go_sem,li,be (show(l.length:Int)=2 by omega),aw q2,dR,Bool.and_false];refine⟨by omega,by omega,?_⟩;exact az
 rw[be q2];simp only[go_sem,li,be (show(l.length:Int)=2 by omega),be q2];refine⟨by omega,by omega,by omega,by omega,?_⟩;cases (ah l 1).op==11
 .exact az
 .exact az
def Zv(x:El)(i:Nat):Int:=if(x.it.take i).any (λl=>!tF l)=true then 4 else 0
def afe{x:El}{i:Nat}(h:i<x.it.length):Zv x (i+1)=if tF (ah x.it i)=true then Zv x i else 4:=by
 unfold Zv;rw[su h,List.any_append];simp only[List.any_cons,List.any_nil,Bool.or_false];cases tF (ah x.it i)<;>simp
def acS{x:El}(hm:0<=x.mo/\x.mo<=2)(hl:x.it.length<=256):ac pg HY [.agg (fR x)] (.int .i64 (dp x:Nat)):=by
 refine aD yV ?_;simp only[go_sem,yV,bh];refine an (λi:Nat=>⟨[(4,.int .i64 i),(3,.int .i64 (Zv x i)),(1,.mp 1 5 0 0)],[(1,⟨112,5,[fR x],true⟩)]⟩) (λi=>i<=x.it.length) (λi=>x.it.length-i) 0 (cQ _) (Wk.of ?_ ?_) ?_
 .simp only[go_sem];try simp[Zv]
 .simp only[go_sem,bh];try simp[go_sem]
 intro i hi;by_cases q1:(i:Int)<(x.it.length:Int)
 .have hi':i<x.it.length:=by omega
  have e8:=wi (n:=(i:Int)+1) (by omega) (by omega);have hn:=afe hi';have c:=YC (ah x.it i);simp only[go_sem,aL q1,bh];refine⟨by omega,q1,?_⟩;refine aj (c) ?_;cases hr:tF (ah x.it i)
  .rw[hr]at hn;simp only[gd,cD]at hn;simp only[go_sem];refine aE (i+1) (show i+1<=x.it.length by omega) (show x.it.length-(i+1)<x.it.length-i by omega) (Wk.of ?_ ?_)
   .simp only[go_sem,e8,hn];try simp
   .simp only[go_sem,bh];try simp[go_sem]
  .rw[hr]at hn;simp only[br]at hn;simp only[go_sem];refine aE (i+1) (show i+1<=x.it.length by omega) (show x.it.length-(i+1)<x.it.length-i by omega) (Wk.of ?_ ?_)
   .simp only[go_sem,e8,hn];try simp
   .simp only[go_sem,bh];try simp[go_sem]
 obtain rfl:i=x.it.length:=by omega
 have hx3:x.ty=3->Zv x x.it.length=if dL x=true then 4 else 0:=λh=>by unfold Zv dL;rw[eV,h];simp
 have hxn:x.ty≠3->dL x=true:=λh=>by unfold dL;simp[h]
 generalize Zv x x.it.length=n4 at*;by_cases m4:x.ty=3
 .have hx4:=hx3 m4;subst hx4;by_cases m1:x.mo=1
  .have hf:dp x=(if dL x=true then 4 else 0)+1:=by unfold dp;rw[aF m1]
   rw[hf];cases dL x
   .simp only[go_sem,aM q1,bh,bB m4,be m1];exact aq [] (by simp only[go_sem];try rfl) rfl
   .simp only[go_sem,aM q1,bh,bB m4,be m1];exact aq [] (by simp only[go_sem];try rfl) rfl
  by_cases m2:x.mo=2
  .have hf:dp x=(if dL x=true then 4 else 0)+3:=by unfold dp;rw[au m1,aF m2]
   rw[hf];cases dL x
   .simp only[go_sem,aM q1,bh,bB m4,aw m1,be m2];exact aq [] (by simp only[go_sem];try rfl) rfl
   .simp only[go_sem,aM q1,bh,bB m4,aw m1,be m2];exact aq [] (by simp only[go_sem];try rfl) rfl
  by_cases m3:x.tb=0
  .have hf:dp x=(if dL x=true then 4 else 0)+0:=by unfold dp;rw[au m1,au m2,au (show ¬(x.tb≠0\/x.ty≠3)by simp[m3,m4])]
   rw[hf];cases dL x
   .simp only[go_sem,aM q1,bh,bB m4,aw m1,aw m2,bB m3];exact aq [] (by simp only[go_sem];try rfl) rfl
   .simp only[go_sem,aM q1,bh,bB m4,aw m1,aw m2,bB m3];exact aq [] (by simp only[go_sem];try rfl) rfl
  .have hf:dp x=(if dL x=true then 4 else 0)+2:=by unfold dp;rw[au m1,au m2,aF (show x.tb≠0\/x.ty≠3 from .inl m3)]
   rw[hf];cases dL x
   .simp only[go_sem,aM q1,bh,bB m4,aw m1,aw m2,bv m3];exact aq [] (by simp only[go_sem];try rfl) rfl
   .simp only[go_sem,aM q1,bh,bB m4,aw m1,aw m2,bv m3];exact aq [] (by simp only[go_sem];try rfl) rfl
 .have he:=hxn m4;by_cases m1:x.mo=1
  .have hf:dp x=5:=by unfold dp;rw[aF m1,he];rfl
   rw[hf];simp only[go_sem,aM q1,bh,bv m4,be m1];exact aq [] (by simp only[go_sem];try rfl) rfl
  by_cases m2:x.mo=2
  .have hf:dp x=7:=by unfold dp;rw[au m1,aF m2,he];rfl
   rw[hf];simp only[go_sem,aM q1,bh,bv m4,aw m1,be m2];exact aq [] (by simp only[go_sem];try rfl) rfl
  .have hf:dp x=6:=by unfold dp;rw[au m1,au m2,aF (show x.tb≠0\/x.ty≠3 from .inr m4),he];rfl
   rw[hf];by_cases m3:x.tb=0
   .simp only[go_sem,aM q1,bh,bv m4,aw m1,aw m2,bB m3];exact aq [] (by simp only[go_sem];try rfl) rfl
   .simp only[go_sem,aM q1,bh,bv m4,aw m1,aw m2,bv m3];exact aq [] (by simp only[go_sem];try rfl) rfl
def adY{x:El}(h:Ma AA x)(hn:Fp x.o)(hn2:∀l∈x.it,Fp l):YX BP [.agg (fR x)] (pW x):=by
 intro w hw;obtain⟨hB,ho,hi⟩:=h;obtain⟨b1,b2,b3,b4,b5⟩:=z_ hB;obtain⟨f1,f2,f3,f4,f5,f6⟩:=LJ b1;obtain⟨j1,j2⟩:=rz ho hn;have hJ:∀l∈x.it,Mb l/\l.length<=2048:=λl hl=>rz (hi l hl) (hn2 l hl);have hrf:dp x<4->∀l∈x.it,tF l=true:=λq=>by
  have:=f5.1 q;unfold dL at this;rw[Bool.or_eq_false_iff,vB]at this;intro l hl;have:=this.2 l hl;simpa using this
 have cv:=tA (IJ.2 (by have:=x9.1 b4;omega):jK x.ty=true);have ct:=GO (dO.1 b3);have co:=rM j1 (by omega);have cf:=acS b1 b5;have cu:=tQ (dp x) (by omega);have cl:=tQ x.it.length (by omega);refine aD sY ?_;unfold pW at hw⊢;simp only[bh]at cf;generalize dp x=n at*;have hcn:(aQ (fS n) x.it).length=(ay x.it.length).length+(x.it.flatMap (fS n)).length:=by unfold aQ;rw[aJ]
 rcases(show n=0\/n=1\/n=2\/n=3\/n=4\/n=5\/n=6\/n=7 by omega)with rfl|rfl|rfl|rfl|rfl|rfl|rfl|rfl
 all_goals
  simp only[Nat.reduceMod,Nat.reduceDiv,Nat.reduceMul,Nat.reduceLT,Nat.reduceEqDiff,reduceCtorEq,br,cD,gh,fA,aJ,aT,aC,nk0,nk1,nk2,nk3,nk4,nk5,nk6,nk7]at hw cf cu⊢;simp only[go_sem,sY,bh];refine aj (cf) ?_;simp only[go_sem,Int.reduceTMod,Int.reduceEq,not_false_eq_true,true_and,show decide ((1:Int)<4)=true from rfl,show decide ((2:Int)<4)=true from rfl,show decide ((3:Int)<4)=true from rfl,show decide ((5:Int)<4)=false from rfl,show decide ((6:Int)<4)=false from rfl,show decide ((7:Int)<4)=false from rfl]
  first|refine aI (cu) rfl (by simp[go_sem,ab,wx]) (by (try simp only[aJ,aT,aC]);omega) ?_|refine aG (cu) rfl (by simp[go_sem,ab,wx]) (by (try simp only[aJ,aT,aC]);omega) ?_
  simp only[go_sem,Int.reduceTMod,Int.reduceEq,not_false_eq_true,true_and,show decide ((1:Int)<4)=true from rfl,show decide ((2:Int)<4)=true from rfl,show decide ((3:Int)<4)=true from rfl,show decide ((5:Int)<4)=false from rfl,show decide ((6:Int)<4)=false from rfl,show decide ((7:Int)<4)=false from rfl]
 .try simp only[go_sem,show decide ((0:Int)<4)=true from rfl,Int.reduceTMod,Int.reduceEq,not_false_eq_true,true_and]
  first|refine aI (co) rfl (by simp[go_sem,ab,wx]) (by (try simp only[aJ,aT,aC]);omega) ?_|refine aG (co) rfl (by simp[go_sem,ab,wx]) (by (try simp only[aJ,aT,aC]);omega) ?_
  simp only[go_sem,Int.reduceTMod,Int.reduceEq,not_false_eq_true,true_and,show decide ((0:Int)<4)=true from rfl]
  first|refine aI (cl) rfl (by simp[go_sem,ab,wx]) (by (try simp only[aJ,aT,aC]);omega) ?_|refine aG (cl) rfl (by simp[go_sem,ab,wx]) (by (try simp only[aJ,aT,aC]);omega) ?_
  simp only[go_sem,Int.reduceTMod,Int.reduceEq,not_false_eq_true,true_and,show decide ((0:Int)<4)=true from rfl];generalize hv:w++ay 0++et x.o=v at*;have hvl:=congrArg List.length hv;simp only[aJ,aT,aC]at hvl;refine dE 6 2 [(5,.int .i64 0),(2,.mp 2 2 0 0),(3,.mp 3 5 0 0),(4,.mp 4 2 0 0)] [(3,⟨112,5,[fR x],true⟩),(4,⟨81,2,[[.nl,.int .i64 0]],true⟩)] (fS 0) x.it (v++ay x.it.length) (by rw[aJ];omega) (by omega) (Wk.of ?_ ?_) ?_ ?_
  .simp only[go_sem,cX];try simp
  .simp only[go_sem,cX,bh];try simp[go_sem]
  .simp only[go_sem,cX,bh,aM (rO _)];exact ei (λ_ h=>by cases h) (by rfl) (by subst hv;unfold aQ;simp)
  intro i u hi q1 hu e8 k;have hj:=bN hJ hi;obtain⟨e1,e2,e3⟩:=vO (bN (hrf (by decide)) hi) hj.1;have hl2:(ah x.it i).length=2:=by rw[e1];rfl
  rw[show fS 0 (ah x.it i)=ay (ah (ah x.it i) 0).a.toNat from aF (by decide)]at hu k;simp only[go_sem,cX,bh,jY,aL q1,show decide ((0:Int)<4)=true from rfl];refine⟨by omega,q1,by omega,by omega,?_⟩
  first|refine aI (GO ⟨e2,e3⟩) rfl (by simp[go_sem,ab,wx]) (by (try simp only[aJ,aT,aC]);omega) ?_|refine aG (GO ⟨e2,e3⟩) rfl (by simp[go_sem,ab,wx]) (by (try simp only[aJ,aT,aC]);omega) ?_
  simp only[go_sem];refine k _ (Wk.of ?_ ?_)
  .simp only[go_sem,cX,e8];try simp
  .simp only[go_sem,cX,bh];try simp[go_sem]
 .try simp only[go_sem,show decide ((1:Int)<4)=true from rfl,Int.reduceTMod,Int.reduceEq,not_false_eq_true,true_and]
  first|refine aI (I7 0) rfl (by simp[go_sem,ab,wx]) (by (try simp only[aJ,aT,aC]);omega) ?_|refine aG (I7 0) rfl (by simp[go_sem,ab,wx]) (by (try simp only[aJ,aT,aC]);omega) ?_
  simp only[go_sem,Int.reduceTMod,Int.reduceEq,not_false_eq_true,true_and,show decide ((1:Int)<4)=true from rfl]
  first|refine aI (cl) rfl (by simp[go_sem,ab,wx]) (by (try simp only[aJ,aT,aC]);omega) ?_|refine aG (cl) rfl (by simp[go_sem,ab,wx]) (by (try simp only[aJ,aT,aC]);omega) ?_
  simp only[go_sem,Int.reduceTMod,Int.reduceEq,not_false_eq_true,true_and,show decide ((1:Int)<4)=true from rfl];generalize hv:w++ay 1++[0]=v at*;have hvl:=congrArg List.length hv;simp only[aJ,aT,aC]at hvl;refine dE 6 2 [(5,.int .i64 1),(2,.mp 2 2 0 0),(3,.mp 3 5 0 0),(4,.mp 4 2 0 0)] [(3,⟨112,5,[fR x],true⟩),(4,⟨81,2,[[.nl,.int .i64 0]],true⟩)] (fS 1) x.it (v++ay x.it.length) (by rw[aJ];omega) (by omega) (Wk.of ?_ ?_) ?_ ?_
  .simp only[go_sem,cX];try simp
  .simp only[go_sem,cX,bh];try simp[go_sem]
  .simp only[go_sem,cX,bh,aM (rO _)];exact ei (λ_ h=>by cases h) (by rfl) (by subst hv;unfold aQ;simp)
  intro i u hi q1 hu e8 k;have hj:=bN hJ hi;obtain⟨e1,e2,e3⟩:=vO (bN (hrf (by decide)) hi) hj.1;have hl2:(ah x.it i).length=2:=by rw[e1];rfl
  rw[show fS 1 (ah x.it i)=ay (ah (ah x.it i) 0).a.toNat from aF (by decide)]at hu k;simp only[go_sem,cX,bh,jY,aL q1,show decide ((1:Int)<4)=true from rfl];refine⟨by omega,q1,by omega,by omega,?_⟩
  first|refine aI (GO ⟨e2,e3⟩) rfl (by simp[go_sem,ab,wx]) (by (try simp only[aJ,aT,aC]);omega) ?_|refine aG (GO ⟨e2,e3⟩) rfl (by simp[go_sem,ab,wx]) (by (try simp only[aJ,aT,aC]);omega) ?_
  simp only[go_sem];refine k _ (Wk.of ?_ ?_)
  .simp only[go_sem,cX,e8];try simp
  .simp only[go_sem,cX,bh];try simp[go_sem]
 .try simp only[go_sem,show decide ((2:Int)<4)=true from rfl,Int.reduceTMod,Int.reduceEq,not_false_eq_true,true_and]
  first|refine aI (ct) rfl (by simp[go_sem,ab,wx]) (by (try simp only[aJ,aT,aC]);omega) ?_|refine aG (ct) rfl (by simp[go_sem,ab,wx]) (by (try simp only[aJ,aT,aC]);omega) ?_
  simp only[go_sem,Int.reduceTMod,Int.reduceEq,not_false_eq_true,true_and,show decide ((2:Int)<4)=true from rfl]
  first|refine aI (co) rfl (by simp[go_sem,ab,wx]) (by (try simp only[aJ,aT,aC]);omega) ?_|refine aG (co) rfl (by simp[go_sem,ab,wx]) (by (try simp only[aJ,aT,aC]);omega) ?_
  simp only[go_sem,Int.reduceTMod,Int.reduceEq,not_false_eq_true,true_and,show decide ((2:Int)<4)=true from rfl]
  first|refine aI (I7 0) rfl (by simp[go_sem,ab,wx]) (by (try simp only[aJ,aT,aC]);omega) ?_|refine aG (I7 0) rfl (by simp[go_sem,ab,wx]) (by (try simp only[aJ,aT,aC]);omega) ?_
  simp only[go_sem,Int.reduceTMod,Int.reduceEq,not_false_eq_true,true_and,show decide ((2:Int)<4)=true from rfl]
  first|refine aI (cl) rfl (by simp[go_sem,ab,wx]) (by (try simp only[aJ,aT,aC]);omega) ?_|refine aG (cl) rfl (by simp[go_sem,ab,wx]) (by (try simp only[aJ,aT,aC]);omega) ?_
  simp only[go_sem,Int.reduceTMod,Int.reduceEq,not_false_eq_true,true_and,show decide ((2:Int)<4)=true from rfl];generalize hv:w++ay 2++ay x.tb.toNat++et x.o++[0]=v at*;have hvl:=congrArg List.length hv;simp only[aJ,aT,aC]at hvl;refine dE 6 2 [(5,.int .i64 2),(2,.mp 2 2 0 0),(3,.mp 3 5 0 0),(4,.mp 4 2 0 0)] [(3,⟨112,5,[fR x],true⟩),(4,⟨81,2,[[.nl,.int .i64 0]],true⟩)] (fS 2) x.it (v++ay x.it.length) (by rw[aJ];omega) (by omega) (Wk.of ?_ ?_) ?_ ?_
  .simp only[go_sem,cX];try simp
  .simp only[go_sem,cX,bh];try simp[go_sem]
  .simp only[go_sem,cX,bh,aM (rO _)];exact ei (λ_ h=>by cases h) (by rfl) (by subst hv;unfold aQ;simp)
  intro i u hi q1 hu e8 k;have hj:=bN hJ hi;obtain⟨e1,e2,e3⟩:=vO (bN (hrf (by decide)) hi) hj.1;have hl2:(ah x.it i).length=2:=by rw[e1];rfl
  rw[show fS 2 (ah x.it i)=ay (ah (ah x.it i) 0).a.toNat from aF (by decide)]at hu k;simp only[go_sem,cX,bh,jY,aL q1,show decide ((2:Int)<4)=true from rfl];refine⟨by omega,q1,by omega,by omega,?_⟩
  first|refine aI (GO ⟨e2,e3⟩) rfl (by simp[go_sem,ab,wx]) (by (try simp only[aJ,aT,aC]);omega) ?_|refine aG (GO ⟨e2,e3⟩) rfl (by simp[go_sem,ab,wx]) (by (try simp only[aJ,aT,aC]);omega) ?_
  simp only[go_sem];refine k _ (Wk.of ?_ ?_)
  .simp only[go_sem,cX,e8];try simp
  .simp only[go_sem,cX,bh];try simp[go_sem]
 .try simp only[go_sem,show decide ((3:Int)<4)=true from rfl,Int.reduceTMod,Int.reduceEq,not_false_eq_true,true_and]
  first|refine aI (I7 0) rfl (by simp[go_sem,ab,wx]) (by (try simp only[aJ,aT,aC]);omega) ?_|refine aG (I7 0) rfl (by simp[go_sem,ab,wx]) (by (try simp only[aJ,aT,aC]);omega) ?_
  simp only[go_sem,Int.reduceTMod,Int.reduceEq,not_false_eq_true,true_and,show decide ((3:Int)<4)=true from rfl]
  first|refine aI (cl) rfl (by simp[go_sem,ab,wx]) (by (try simp only[aJ,aT,aC]);omega) ?_|refine aG (cl) rfl (by simp[go_sem,ab,wx]) (by (try simp only[aJ,aT,aC]);omega) ?_
  simp only[go_sem,Int.reduceTMod,Int.reduceEq,not_false_eq_true,true_and,show decide ((3:Int)<4)=true from rfl];generalize hv:w++ay 3++[0]=v at*;have hvl:=congrArg List.length hv;simp only[aJ,aT,aC]at hvl;refine dE 6 2 [(5,.int .i64 3),(2,.mp 2 2 0 0),(3,.mp 3 5 0 0),(4,.mp 4 2 0 0)] [(3,⟨112,5,[fR x],true⟩),(4,⟨81,2,[[.nl,.int .i64 0]],true⟩)] (fS 3) x.it (v++ay x.it.length) (by rw[aJ];omega) (by omega) (Wk.of ?_ ?_) ?_ ?_
  .simp only[go_sem,cX];try simp
  .simp only[go_sem,cX,bh];try simp[go_sem]
  .simp only[go_sem,cX,bh,aM (rO _)];exact ei (λ_ h=>by cases h) (by rfl) (by subst hv;unfold aQ;simp)
  intro i u hi q1 hu e8 k;have hj:=bN hJ hi;obtain⟨e1,e2,e3⟩:=vO (bN (hrf (by decide)) hi) hj.1;have hl2:(ah x.it i).length=2:=by rw[e1];rfl
  rw[show fS 3 (ah x.it i)=ay (ah (ah x.it i) 0).a.toNat from aF (by decide)]at hu k;simp only[go_sem,cX,bh,jY,aL q1,show decide ((3:Int)<4)=true from rfl];refine⟨by omega,q1,by omega,by omega,?_⟩
  first|refine aI (GO ⟨e2,e3⟩) rfl (by simp[go_sem,ab,wx]) (by (try simp only[aJ,aT,aC]);omega) ?_|refine aG (GO ⟨e2,e3⟩) rfl (by simp[go_sem,ab,wx]) (by (try simp only[aJ,aT,aC]);omega) ?_
  simp only[go_sem];refine k _ (Wk.of ?_ ?_)
  .simp only[go_sem,cX,e8];try simp
  .simp only[go_sem,cX,bh];try simp[go_sem]
 .try simp only[go_sem,show decide ((4:Int)<4)=false from rfl,Int.reduceTMod,Int.reduceEq,not_false_eq_true,true_and]
  first|refine aI (co) rfl (by simp[go_sem,ab,wx]) (by (try simp only[aJ,aT,aC]);omega) ?_|refine aG (co) rfl (by simp[go_sem,ab,wx]) (by (try simp only[aJ,aT,aC]);omega) ?_
  simp only[go_sem,Int.reduceTMod,Int.reduceEq,not_false_eq_true,true_and,show decide ((4:Int)<4)=false from rfl]
  first|refine aI (cl) rfl (by simp[go_sem,ab,wx]) (by (try simp only[aJ,aT,aC]);omega) ?_|refine aG (cl) rfl (by simp[go_sem,ab,wx]) (by (try simp only[aJ,aT,aC]);omega) ?_
  simp only[go_sem,Int.reduceTMod,Int.reduceEq,not_false_eq_true,true_and,show decide ((4:Int)<4)=false from rfl];generalize hv:w++ay 4++et x.o=v at*;have hvl:=congrArg List.length hv;simp only[aJ,aT,aC]at hvl;refine dE 6 2 [(5,.int .i64 4),(2,.mp 2 2 0 0),(3,.mp 3 5 0 0),(4,.mp 4 2 0 0)] [(3,⟨112,5,[fR x],true⟩),(4,⟨81,2,[[.nl,.int .i64 0]],true⟩)] (fS 4) x.it (v++ay x.it.length) (by rw[aJ];omega) (by omega) (Wk.of ?_ ?_) ?_ ?_
  .simp only[go_sem,cX];try simp
  .simp only[go_sem,cX,bh];try simp[go_sem]
  .simp only[go_sem,cX,bh,aM (rO _)];exact ei (λ_ h=>by cases h) (by rfl) (by subst hv;unfold aQ;simp)
  intro i u hi q1 hu e8 k;have hj:=bN hJ hi;rw[show fS 4 (ah x.it i)=et (ah x.it i) from au (by decide)]at hu k;simp only[go_sem,cX,bh,jY,aL q1,show decide ((4:Int)<4)=false from rfl];refine⟨by omega,q1,?_⟩
  first|refine aI (rM hj.1 (by omega)) rfl (by simp[go_sem,ab,wx]) (by (try simp only[aJ,aT,aC]);omega) ?_|refine aG (rM hj.1 (by omega)) rfl (by simp[go_sem,ab,wx]) (by (try simp only[aJ,aT,aC]);omega) ?_
  simp only[go_sem];refine k _ (Wk.of ?_ ?_)
  .simp only[go_sem,cX,e8];try simp
  .simp only[go_sem,cX,bh];try simp[go_sem]
 .try simp only[go_sem,show decide ((5:Int)<4)=false from rfl,Int.reduceTMod,Int.reduceEq,not_false_eq_true,true_and]
  first|refine aI (cv) rfl (by simp[go_sem,ab,wx]) (by (try simp only[aJ,aT,aC]);omega) ?_|refine aG (cv) rfl (by simp[go_sem,ab,wx]) (by (try simp only[aJ,aT,aC]);omega) ?_
  simp only[go_sem,Int.reduceTMod,Int.reduceEq,not_false_eq_true,true_and,show decide ((5:Int)<4)=false from rfl]
  first|refine aI (cl) rfl (by simp[go_sem,ab,wx]) (by (try simp only[aJ,aT,aC]);omega) ?_|refine aG (cl) rfl (by simp[go_sem,ab,wx]) (by (try simp only[aJ,aT,aC]);omega) ?_
  simp only[go_sem,Int.reduceTMod,Int.reduceEq,not_false_eq_true,true_and,show decide ((5:Int)<4)=false from rfl];generalize hv:w++ay 5++fh x.ty=v at*;have hvl:=congrArg List.length hv;simp only[aJ,aT,aC]at hvl;refine dE 6 2 [(5,.int .i64 5),(2,.mp 2 2 0 0),(3,.mp 3 5 0 0),(4,.mp 4 2 0 0)] [(3,⟨112,5,[fR x],true⟩),(4,⟨81,2,[[.nl,.int .i64 0]],true⟩)] (fS 5) x.it (v++ay x.it.length) (by rw[aJ];omega) (by omega) (Wk.of ?_ ?_) ?_ ?_
  .simp only[go_sem,cX];try simp
  .simp only[go_sem,cX,bh];try simp[go_sem]
  .simp only[go_sem,cX,bh,aM (rO _)];exact ei (λ_ h=>by cases h) (by rfl) (by subst hv;unfold aQ;simp)
  intro i u hi q1 hu e8 k;have hj:=bN hJ hi;rw[show fS 5 (ah x.it i)=et (ah x.it i) from au (by decide)]at hu k;simp only[go_sem,cX,bh,jY,aL q1,show decide ((5:Int)<4)=false from rfl];refine⟨by omega,q1,?_⟩
  first|refine aI (rM hj.1 (by omega)) rfl (by simp[go_sem,ab,wx]) (by (try simp only[aJ,aT,aC]);omega) ?_|refine aG (rM hj.1 (by omega)) rfl (by simp[go_sem,ab,wx]) (by (try simp only[aJ,aT,aC]);omega) ?_
  simp only[go_sem];refine k _ (Wk.of ?_ ?_)
  .simp only[go_sem,cX,e8];try simp
  .simp only[go_sem,cX,bh];try simp[go_sem]
 .try simp only[go_sem,show decide ((6:Int)<4)=false from rfl,Int.reduceTMod,Int.reduceEq,not_false_eq_true,true_and]
  first|refine aI (ct) rfl (by simp[go_sem,ab,wx]) (by (try simp only[aJ,aT,aC]);omega) ?_|refine aG (ct) rfl (by simp[go_sem,ab,wx]) (by (try simp only[aJ,aT,aC]);omega) ?_
  simp only[go_sem,Int.reduceTMod,Int.reduceEq,not_false_eq_true,true_and,show decide ((6:Int)<4)=false from rfl]
  first|refine aI (co) rfl (by simp[go_sem,ab,wx]) (by (try simp only[aJ,aT,aC]);omega) ?_|refine aG (co) rfl (by simp[go_sem,ab,wx]) (by (try simp only[aJ,aT,aC]);omega) ?_
  simp only[go_sem,Int.reduceTMod,Int.reduceEq,not_false_eq_true,true_and,show decide ((6:Int)<4)=false from rfl]
  first|refine aI (cv) rfl (by simp[go_sem,ab,wx]) (by (try simp only[aJ,aT,aC]);omega) ?_|refine aG (cv) rfl (by simp[go_sem,ab,wx]) (by (try simp only[aJ,aT,aC]);omega) ?_
  simp only[go_sem,Int.reduceTMod,Int.reduceEq,not_false_eq_true,true_and,show decide ((6:Int)<4)=false from rfl]
  first|refine aI (cl) rfl (by simp[go_sem,ab,wx]) (by (try simp only[aJ,aT,aC]);omega) ?_|refine aG (cl) rfl (by simp[go_sem,ab,wx]) (by (try simp only[aJ,aT,aC]);omega) ?_
  simp only[go_sem,Int.reduceTMod,Int.reduceEq,not_false_eq_true,true_and,show decide ((6:Int)<4)=false from rfl];generalize hv:w++ay 6++ay x.tb.toNat++et x.o++fh x.ty=v at*;have hvl:=congrArg List.length hv;simp only[aJ,aT,aC]at hvl;refine dE 6 2 [(5,.int .i64 6),(2,.mp 2 2 0 0),(3,.mp 3 5 0 0),(4,.mp 4 2 0 0)] [(3,⟨112,5,[fR x],true⟩),(4,⟨81,2,[[.nl,.int .i64 0]],true⟩)] (fS 6) x.it (v++ay x.it.length) (by rw[aJ];omega) (by omega) (Wk.of ?_ ?_) ?_ ?_
  .simp only[go_sem,cX];try simp
  .simp only[go_sem,cX,bh];try simp[go_sem]
  .simp only[go_sem,cX,bh,aM (rO _)];exact ei (λ_ h=>by cases h) (by rfl) (by subst hv;unfold aQ;simp)
  intro i u hi q1 hu e8 k;have hj:=bN hJ hi;rw[show fS 6 (ah x.it i)=et (ah x.it i) from au (by decide)]at hu k;simp only[go_sem,cX,bh,jY,aL q1,show decide ((6:Int)<4)=false from rfl];refine⟨by omega,q1,?_⟩
  first|refine aI (rM hj.1 (by omega)) rfl (by simp[go_sem,ab,wx]) (by (try simp only[aJ,aT,aC]);omega) ?_|refine aG (rM hj.1 (by omega)) rfl (by simp[go_sem,ab,wx]) (by (try simp only[aJ,aT,aC]);omega) ?_
  simp only[go_sem];refine k _ (Wk.of ?_ ?_)
  .simp only[go_sem,cX,e8];try simp
  .simp only[go_sem,cX,bh];try simp[go_sem]
 .try simp only[go_sem,show decide ((7:Int)<4)=false from rfl,Int.reduceTMod,Int.reduceEq,not_false_eq_true,true_and]
  first|refine aI (cv) rfl (by simp[go_sem,ab,wx]) (by (try simp only[aJ,aT,aC]);omega) ?_|refine aG (cv) rfl (by simp[go_sem,ab,wx]) (by (try simp only[aJ,aT,aC]);omega) ?_
  simp only[go_sem,Int.reduceTMod,Int.reduceEq,not_false_eq_true,true_and,show decide ((7:Int)<4)=false from rfl]
  first|refine aI (cl) rfl (by simp[go_sem,ab,wx]) (by (try simp only[aJ,aT,aC]);omega) ?_|refine aG (cl) rfl (by simp[go_sem,ab,wx]) (by (try simp only[aJ,aT,aC]);omega) ?_
  simp only[go_sem,Int.reduceTMod,Int.reduceEq,not_false_eq_true,true_and,show decide ((7:Int)<4)=false from rfl];generalize hv:w++ay 7++fh x.ty=v at*;have hvl:=congrArg List.length hv;simp only[aJ,aT,aC]at hvl;refine dE 6 2 [(5,.int .i64 7),(2,.mp 2 2 0 0),(3,.mp 3 5 0 0),(4,.mp 4 2 0 0)] [(3,⟨112,5,[fR x],true⟩),(4,⟨81,2,[[.nl,.int .i64 0]],true⟩)] (fS 7) x.it (v++ay x.it.length) (by rw[aJ];omega) (by omega) (Wk.of ?_ ?_) ?_ ?_
  .simp only[go_sem,cX];try simp
  .simp only[go_sem,cX,bh];try simp[go_sem]
  .simp only[go_sem,cX,bh,aM (rO _)];exact ei (λ_ h=>by cases h) (by rfl) (by subst hv;unfold aQ;simp)
  intro i u hi q1 hu e8 k;have hj:=bN hJ hi;rw[show fS 7 (ah x.it i)=et (ah x.it i) from au (by decide)]at hu k;simp only[go_sem,cX,bh,jY,aL q1,show decide ((7:Int)<4)=false from rfl];refine⟨by omega,q1,?_⟩
  first|refine aI (rM hj.1 (by omega)) rfl (by simp[go_sem,ab,wx]) (by (try simp only[aJ,aT,aC]);omega) ?_|refine aG (rM hj.1 (by omega)) rfl (by simp[go_sem,ab,wx]) (by (try simp only[aJ,aT,aC]);omega) ?_
  simp only[go_sem];refine k _ (Wk.of ?_ ?_)
  .simp only[go_sem,cX,e8];try simp
  .simp only[go_sem,cX,bh];try simp[go_sem]
end
section
def lk{α:Type}(f:α->List UInt8)(l:List α):aQ f l=[]++ay l.length++l.flatMap f:=rfl
variable{m:Md}(h:Kq m)(ht:B0 m<=6000)
include h ht
attribute[local go_sem] cU wx cL dm aS bC
theorem ajj:ac pg eO [cY m,.int .i64 1] (wx (dF m 1) 0):=by
 have hw:(dF m 1).length<=10000000:=fT h ht 1 (λq=>absurd q (by decide));have hl:m.ts.length<=64:=by have:=h.lim.ts.1;omega
 have he:dF m 1=aQ pX m.ts:=rfl;rw[he,lk]at hw⊢;simp only[aJ,aC]at hw;refine aD b_ ?_;simp only[go_sem,b_,cY];refine dA [wx [] 0,.int .i64 m.ts.length] ⟨nJ 0,.inl rfl,trivial⟩ ?_
 first|refine aI (tQ m.ts.length (by omega)) rfl (by simp[go_sem,ab,wx]) (by (try simp only[aJ,aT,aC]);omega) ?_|refine aG (tQ m.ts.length (by omega)) rfl (by simp[go_sem,ab,wx]) (by (try simp only[aJ,aT,aC]);omega) ?_
 simp only[go_sem];refine dE 6 5 [(2,.mp 2 12 0 0),(5,.mp 5 2 0 0),(4,.mp 4 2 0 0)] [(2,⟨33,12,[nZ m],true⟩),(4,⟨81,2,[[.nl,.int .i64 0]],true⟩)] pX m.ts ([]++ay m.ts.length) (by simp only[aJ,aC];omega) (by omega) (Wk.of ?_ ?_) ?_ ?_
 .simp only[go_sem,cX];try simp
 .simp only[go_sem,cX];try simp[go_sem]
 .simp only[go_sem,cX,aM (rO _)];exact iq (λ_ h=>by cases h) (by rfl) rfl
 intro i v hi q1 hu e8 k;have c:=ahm (bN h.lim.ts.2 hi);rw[du]at c;simp only[go_sem,cX,aL q1,du];refine⟨by omega,q1,?_⟩
 first|refine aI (c) rfl (by simp[go_sem,ab,wx]) (by (try simp only[aJ,aT,aC]);omega) ?_|refine aG (c) rfl (by simp[go_sem,ab,wx]) (by (try simp only[aJ,aT,aC]);omega) ?_
 simp only[go_sem];refine k _ (Wk.of ?_ ?_)
 .simp only[go_sem,cX,e8];try simp
 .simp only[go_sem,cX];try simp[go_sem]
theorem ajk:ac pg eO [cY m,.int .i64 2] (wx (dF m 2) 0):=by
 have hw:(dF m 2).length<=10000000:=fT h ht 2 (λq=>absurd q (by decide));have hl:m.ims.length<=64:=by have:=h.lim.ims.1;omega
 have he:dF m 2=aQ pY m.ims:=rfl;rw[he,lk]at hw⊢;simp only[aJ,aC]at hw;refine aD b_ ?_;simp only[go_sem,b_,cY];refine dA [wx [] 0,.int .i64 m.ims.length] ⟨nJ 0,.inl rfl,trivial⟩ ?_
 first|refine aI (tQ m.ims.length (by omega)) rfl (by simp[go_sem,ab,wx]) (by (try simp only[aJ,aT,aC]);omega) ?_|refine aG (tQ m.ims.length (by omega)) rfl (by simp[go_sem,ab,wx]) (by (try simp only[aJ,aT,aC]);omega) ?_
 simp only[go_sem];refine dE 7 5 [(2,.mp 2 12 0 0),(5,.mp 5 2 0 0),(4,.mp 4 2 0 0)] [(2,⟨33,12,[nZ m],true⟩),(4,⟨81,2,[[.nl,.int .i64 0]],true⟩)] pY m.ims ([]++ay m.ims.length) (by simp only[aJ,aC];omega) (by omega) (Wk.of ?_ ?_) ?_ ?_
 .simp only[go_sem,cX];try simp
 .simp only[go_sem,cX];try simp[go_sem]
 .simp only[go_sem,cX,aM (rO _)];exact iq (λ_ h=>by cases h) (by rfl) rfl
 intro i v hi q1 hu e8 k;have c:=ahn (bN h.lim.ims.2 hi);rw[cP]at c;simp only[go_sem,cX,aL q1,cP];refine⟨by omega,q1,?_⟩
 first|refine aI (c) rfl (by simp[go_sem,ab,wx]) (by (try simp only[aJ,aT,aC]);omega) ?_|refine aG (c) rfl (by simp[go_sem,ab,wx]) (by (try simp only[aJ,aT,aC]);omega) ?_
 simp only[go_sem];refine k _ (Wk.of ?_ ?_)
 .simp only[go_sem,cX,e8];try simp
 .simp only[go_sem,cX];try simp[go_sem]
theorem ajl:ac pg eO [cY m,.int .i64 3] (wx (dF m 3) 0):=by
 have hw:(dF m 3).length<=10000000:=fT h ht 3 (λq=>absurd q (by decide));have hl:m.fs.length<=64:=by have:=h.lim.fs.1;omega
 have he:dF m 3=aQ (λx:Cd=>ay x.t.toNat) m.fs:=rfl;rw[he,lk]at hw⊢;simp only[aJ,aC]at hw;refine aD b_ ?_;simp only[go_sem,b_,cY];refine dA [wx [] 0,.int .i64 m.fs.length] ⟨nJ 0,.inl rfl,trivial⟩ ?_
 first|refine aI (tQ m.fs.length (by omega)) rfl (by simp[go_sem,ab,wx]) (by (try simp only[aJ,aT,aC]);omega) ?_|refine aG (tQ m.fs.length (by omega)) rfl (by simp[go_sem,ab,wx]) (by (try simp only[aJ,aT,aC]);omega) ?_
 simp only[go_sem];refine dE 8 5 [(2,.mp 2 12 0 0),(5,.mp 5 2 0 0),(4,.mp 4 2 0 0)] [(2,⟨33,12,[nZ m],true⟩),(4,⟨81,2,[[.nl,.int .i64 0]],true⟩)] (λx:Cd=>ay x.t.toNat) m.fs ([]++ay m.fs.length) (by simp only[aJ,aC];omega) (by omega) (Wk.of ?_ ?_) ?_ ?_
 .simp only[go_sem,cX];try simp
 .simp only[go_sem,cX];try simp[go_sem]
 .simp only[go_sem,cX,aM (rO _)];exact iq (λ_ h=>by cases h) (by rfl) rfl
 intro i v hi q1 hu e8 k;have c:=GO (dO.1 (DK h (ah m.fs i) (by rw[bD hi];exact na hi)).2.2.2.2.2)
 try simp only at hu k
 simp only[go_sem,cX,aL q1,cK];refine⟨by omega,q1,?_⟩
 first|refine aI (c) rfl (by simp[go_sem,ab,wx]) (by (try simp only[aJ,aT,aC]);omega) ?_|refine aG (c) rfl (by simp[go_sem,ab,wx]) (by (try simp only[aJ,aT,aC]);omega) ?_
 simp only[go_sem];refine k _ (Wk.of ?_ ?_)
 .simp only[go_sem,cX,e8];try simp
 .simp only[go_sem,cX];try simp[go_sem]
theorem ajm:ac pg eO [cY m,.int .i64 4] (wx (dF m 4) 0):=by
 have hw:(dF m 4).length<=10000000:=fT h ht 4 (λq=>absurd q (by decide));have hl:m.tbs.length<=64:=by have:=h.lim.tbs.1;omega
 have he:dF m 4=aQ oY m.tbs:=rfl;rw[he,lk]at hw⊢;simp only[aJ,aC]at hw;refine aD b_ ?_;simp only[go_sem,b_,cY];refine dA [wx [] 0,.int .i64 m.tbs.length] ⟨nJ 0,.inl rfl,trivial⟩ ?_
 first|refine aI (tQ m.tbs.length (by omega)) rfl (by simp[go_sem,ab,wx]) (by (try simp only[aJ,aT,aC]);omega) ?_|refine aG (tQ m.tbs.length (by omega)) rfl (by simp[go_sem,ab,wx]) (by (try simp only[aJ,aT,aC]);omega) ?_
 simp only[go_sem];refine dE 9 5 [(2,.mp 2 12 0 0),(5,.mp 5 2 0 0),(4,.mp 4 2 0 0)] [(2,⟨33,12,[nZ m],true⟩),(4,⟨81,2,[[.nl,.int .i64 0]],true⟩)] oY m.tbs ([]++ay m.tbs.length) (by simp only[aJ,aC];omega) (by omega) (Wk.of ?_ ?_) ?_ ?_
 .simp only[go_sem,cX];try simp
 .simp only[go_sem,cX];try simp[go_sem]
 .simp only[go_sem,cX,aM (rO _)];exact iq (λ_ h=>by cases h) (by rfl) rfl
 intro i v hi q1 hu e8 k;have c:=aam (bN h.lim.tbs.2 hi);rw[df]at c;simp only[go_sem,cX,aL q1,df];refine⟨by omega,q1,?_⟩
 first|refine aI (c) rfl (by simp[go_sem,ab,wx]) (by (try simp only[aJ,aT,aC]);omega) ?_|refine aG (c) rfl (by simp[go_sem,ab,wx]) (by (try simp only[aJ,aT,aC]);omega) ?_
 simp only[go_sem];refine k _ (Wk.of ?_ ?_)
 .simp only[go_sem,cX,e8];try simp
 .simp only[go_sem,cX];try simp[go_sem]
theorem ajn:ac pg eO [cY m,.int .i64 5] (wx (dF m 5) 0):=by
 have hw:(dF m 5).length<=10000000:=fT h ht 5 (λq=>absurd q (by decide));have hl:m.ms.length<=64:=by have:=h.lim.ms.1;omega
 have he:dF m 5=aQ iw m.ms:=rfl;rw[he,lk]at hw⊢;simp only[aJ,aC]at hw;refine aD b_ ?_;simp only[go_sem,b_,cY];refine dA [wx [] 0,.int .i64 m.ms.length] ⟨nJ 0,.inl rfl,trivial⟩ ?_
 first|refine aI (tQ m.ms.length (by omega)) rfl (by simp[go_sem,ab,wx]) (by (try simp only[aJ,aT,aC]);omega) ?_|refine aG (tQ m.ms.length (by omega)) rfl (by simp[go_sem,ab,wx]) (by (try simp only[aJ,aT,aC]);omega) ?_
 simp only[go_sem];refine dE 10 5 [(2,.mp 2 12 0 0),(5,.mp 5 2 0 0),(4,.mp 4 2 0 0)] [(2,⟨33,12,[nZ m],true⟩),(4,⟨81,2,[[.nl,.int .i64 0]],true⟩)] iw m.ms ([]++ay m.ms.length) (by simp only[aJ,aC];omega) (by omega) (Wk.of ?_ ?_) ?_ ?_
 .simp only[go_sem,cX];try simp
 .simp only[go_sem,cX];try simp[go_sem]
 .simp only[go_sem,cX,aM (rO _)];exact iq (λ_ h=>by cases h) (by rfl) rfl
 intro i v hi q1 hu e8 k;have c:=Vm (Gp (bN h.lim.ms.2 hi));rw[cC]at c;simp only[go_sem,cX,aL q1,cC];refine⟨by omega,q1,?_⟩
 first|refine aI (c) rfl (by simp[go_sem,ab,wx]) (by (try simp only[aJ,aT,aC]);omega) ?_|refine aG (c) rfl (by simp[go_sem,ab,wx]) (by (try simp only[aJ,aT,aC]);omega) ?_
 simp only[go_sem];refine k _ (Wk.of ?_ ?_)
 .simp only[go_sem,cX,e8];try simp
 .simp only[go_sem,cX];try simp[go_sem]
theorem ajo:ac pg eO [cY m,.int .i64 6] (wx (dF m 6) 0):=by
 have hw:(dF m 6).length<=10000000:=fT h ht 6 (λq=>absurd q (by decide));have hl:m.gs.length<=64:=by have:=h.lim.gs.1;omega
 have he:dF m 6=aQ qU m.gs:=rfl;rw[he,lk]at hw⊢;simp only[aJ,aC]at hw;refine aD b_ ?_;simp only[go_sem,b_,cY];refine dA [wx [] 0,.int .i64 m.gs.length] ⟨nJ 0,.inl rfl,trivial⟩ ?_
 first|refine aI (tQ m.gs.length (by omega)) rfl (by simp[go_sem,ab,wx]) (by (try simp only[aJ,aT,aC]);omega) ?_|refine aG (tQ m.gs.length (by omega)) rfl (by simp[go_sem,ab,wx]) (by (try simp only[aJ,aT,aC]);omega) ?_
 simp only[go_sem];refine dE 11 5 [(2,.mp 2 12 0 0),(5,.mp 5 2 0 0),(4,.mp 4 2 0 0)] [(2,⟨33,12,[nZ m],true⟩),(4,⟨81,2,[[.nl,.int .i64 0]],true⟩)] qU m.gs ([]++ay m.gs.length) (by simp only[aJ,aC];omega) (by omega) (Wk.of ?_ ?_) ?_ ?_
 .simp only[go_sem,cX];try simp
 .simp only[go_sem,cX];try simp[go_sem]
 .simp only[go_sem,cX,aM (rO _)];exact iq (λ_ h=>by cases h) (by rfl) rfl
 intro i v hi q1 hu e8 k;have hg:=bN h.lim.gs.2 hi;have hj:=(rz hg.2 (h.num.2.1 _ (by rw[bD hi];exact na hi))).1;have c:=aak hg.1;have c2:=rM hj (by have:=hg.2.1;omega);simp only[Hm]at c;unfold qU at hu k;rw[<-eU]at k;rw[aJ]at hu;simp only[go_sem,cX,aL q1,zX];refine⟨by omega,q1,?_⟩
 first|refine aI (c) rfl (by simp[go_sem,ab,wx]) (by (try simp only[aJ,aT,aC]);omega) ?_|refine aG (c) rfl (by simp[go_sem,ab,wx]) (by (try simp only[aJ,aT,aC]);omega) ?_
 simp only[go_sem,zX];refine⟨by omega,q1,?_⟩
 first|refine aI (c2) rfl (by simp[go_sem,ab,wx]) (by (try simp only[aJ,aT,aC]);omega) ?_|refine aG (c2) rfl (by simp[go_sem,ab,wx]) (by (try simp only[aJ,aT,aC]);omega) ?_
 simp only[go_sem];refine k _ (Wk.of ?_ ?_)
 .simp only[go_sem,cX,e8];try simp
 .simp only[go_sem,cX];try simp[go_sem]
theorem Zg{p:Int}(hp:1<=p/\p<=12)(hs:p=8->m.hs=true)(hm:7<=p->ac pg eG [cY m,.int .i64 p] (wx (dF m p) 0)):ac pg eO [cY m,.int .i64 p] (wx (dF m p) 0):=by
 rcases(show p=1\/p=2\/p=3\/p=4\/p=5\/p=6\/7<=p by omega)with rfl|rfl|rfl|rfl|rfl|rfl|q
 .exact ajj h ht
 .exact ajk h ht
 .exact ajl h ht
 .exact ajm h ht
 .exact ajn h ht
 .exact ajo h ht
 have c:=hm q;simp only[cY,bC]at c;refine aD b_ ?_;simp only[go_sem,b_,cY,aw (show p≠1 by omega),aw (show p≠2 by omega),aw (show p≠3 by omega),aw (show p≠4 by omega),aw (show p≠5 by omega),aw (show p≠6 by omega)];refine aa (c) ?_;exact az
theorem ajp:ac pg eG [cY m,.int .i64 7] (wx (dF m 7) 0):=by
 have hw:(dF m 7).length<=10000000:=fT h ht 7 (λq=>absurd q (by decide));have hl:m.exs.length<=64:=by have:=h.lim.exs.1;omega
 have he:dF m 7=aQ qT m.exs:=rfl;rw[he,lk]at hw⊢;simp only[aJ,aC]at hw;refine aD cZ ?_;simp only[go_sem,cZ,cY];refine dA [wx [] 0,.int .i64 m.exs.length] ⟨nJ 0,.inl rfl,trivial⟩ ?_
 first|refine aI (tQ m.exs.length (by omega)) rfl (by simp[go_sem,ab,wx]) (by (try simp only[aJ,aT,aC]);omega) ?_|refine aG (tQ m.exs.length (by omega)) rfl (by simp[go_sem,ab,wx]) (by (try simp only[aJ,aT,aC]);omega) ?_
 simp only[go_sem];refine dE 6 5 [(2,.mp 2 12 0 0),(5,.mp 5 2 0 0),(4,.mp 4 2 0 0)] [(2,⟨33,12,[nZ m],true⟩),(4,⟨81,2,[[.nl,.int .i64 0]],true⟩)] qT m.exs ([]++ay m.exs.length) (by simp only[aJ,aC];omega) (by omega) (Wk.of ?_ ?_) ?_ ?_
 .simp only[go_sem,cX];try simp
 .simp only[go_sem,cX];try simp[go_sem]
 .simp only[go_sem,cX,aM (rO _)];exact iq (λ_ h=>by cases h) (by rfl) rfl
 intro i v hi q1 hu e8 k;have hx:=bN h.lim.exs.2 hi;obtain⟨e1,e2,e3⟩:=R7 hx;have hk8:IntKind.u8.wrap (ah m.exs i).k=(((UInt8.ofNat (ah m.exs i).k.toNat).toNat:Nat):Int):=OI e2;have cn:=M7 e1;have cb:=I7 (UInt8.ofNat (ah m.exs i).k.toNat);rw[<-hk8]at cb;have ci:=GO (dO.1 e3);unfold qT at hu k;rw[<-eU,<-eU]at k;simp only[aJ,aT,aC]at hu;simp only[go_sem,cX,aL q1,y6];refine⟨by omega,q1,?_⟩
 first|refine aI (cn) rfl (by simp[go_sem,ab,wx]) (by (try simp only[aJ,aT,aC]);omega) ?_|refine aG (cn) rfl (by simp[go_sem,ab,wx]) (by (try simp only[aJ,aT,aC]);omega) ?_
 simp only[go_sem,y6];refine⟨by omega,q1,?_⟩
 first|refine aI (cb) rfl (by simp[go_sem,ab,wx]) (by (try simp only[aJ,aT,aC]);omega) ?_|refine aG (cb) rfl (by simp[go_sem,ab,wx]) (by (try simp only[aJ,aT,aC]);omega) ?_
 simp only[go_sem,y6];refine⟨by omega,q1,?_⟩
 first|refine aI (ci) rfl (by simp[go_sem,ab,wx]) (by (try simp only[aJ,aT,aC]);omega) ?_|refine aG (ci) rfl (by simp[go_sem,ab,wx]) (by (try simp only[aJ,aT,aC]);omega) ?_
 simp only[go_sem];refine k _ (Wk.of ?_ ?_)
 .simp only[go_sem,cX,e8];try simp
 .simp only[go_sem,cX];try simp[go_sem]
theorem ajq(hs:m.hs=true):ac pg eG [cY m,.int .i64 8] (wx (dF m 8) 0):=by
 have _:=ht;have c:=GO (dO.1 (h.lim.st hs));refine aD cZ ?_;simp only[go_sem,cZ,cY];refine dA [wx [] 0,.int .i64 m.st] ⟨nJ 0,.inl rfl,trivial⟩ ?_;refine aI c rfl (by simp[go_sem,wx]) (by have:=bA (n:=m.st.toNat) (by have:=dO.1 (h.lim.st hs);omega);(try simp only[aC]);omega) ?_;simp only[go_sem];exact iq (λ_ h=>by cases h) (by rfl) rfl
theorem aho:ac pg eG [cY m,.int .i64 10] (wx (dF m 10) 0):=by
 have _:=ht;have hl:m.ds.length<=64:=by have:=h.lim.ds.1;omega
 refine aD cZ ?_;simp only[go_sem,cZ,cY];refine dA [wx [] 0,.int .i64 m.ds.length] ⟨nJ 0,.inl rfl,trivial⟩ ?_;refine aI (tQ m.ds.length (by omega)) rfl (by simp[go_sem,wx]) (by have:=bA (n:=m.ds.length) (by omega);(try simp only[aC]);omega) ?_;simp only[go_sem];exact iq (λ_ h=>by cases h) (by rfl) rfl
theorem ajr:ac pg eG [cY m,.int .i64 9] (wx (dF m 9) 0):=by
 have hw:(dF m 9).length<=10000000:=fT h ht 9 (λq=>absurd q (by decide));have hl:m.els.length<=64:=by have:=h.lim.els.1;omega
 have he:dF m 9=aQ pW m.els:=rfl;rw[he,lk]at hw⊢;simp only[aJ,aC]at hw;refine aD cZ ?_;simp only[go_sem,cZ,cY];refine dA [wx [] 0,.int .i64 m.els.length] ⟨nJ 0,.inl rfl,trivial⟩ ?_
 first|refine aI (tQ m.els.length (by omega)) rfl (by simp[go_sem,ab,wx]) (by (try simp only[aJ,aT,aC]);omega) ?_|refine aG (tQ m.els.length (by omega)) rfl (by simp[go_sem,ab,wx]) (by (try simp only[aJ,aT,aC]);omega) ?_
 simp only[go_sem];refine dE 7 5 [(2,.mp 2 12 0 0),(5,.mp 5 2 0 0),(4,.mp 4 2 0 0)] [(2,⟨33,12,[nZ m],true⟩),(4,⟨81,2,[[.nl,.int .i64 0]],true⟩)] pW m.els ([]++ay m.els.length) (by simp only[aJ,aC];omega) (by omega) (Wk.of ?_ ?_) ?_ ?_
 .simp only[go_sem,cX];try simp
 .simp only[go_sem,cX];try simp[go_sem]
 .simp only[go_sem,cX,aM (rO _)];exact iq (λ_ h=>by cases h) (by rfl) rfl
 intro i v hi q1 hu e8 k;have c:=adY (bN h.lim.els.2 hi) (h.num.2.2.1 _ (by rw[bD hi];exact na hi)).1 (h.num.2.2.1 _ (by rw[bD hi];exact na hi)).2;rw[bh]at c;simp only[go_sem,cX,aL q1,bh];refine⟨by omega,q1,?_⟩
 first|refine aI (c) rfl (by simp[go_sem,ab,wx]) (by (try simp only[aJ,aT,aC]);omega) ?_|refine aG (c) rfl (by simp[go_sem,ab,wx]) (by (try simp only[aJ,aT,aC]);omega) ?_
 simp only[go_sem];refine k _ (Wk.of ?_ ?_)
 .simp only[go_sem,cX,e8];try simp
 .simp only[go_sem,cX];try simp[go_sem]
theorem ahp:ac pg eG [cY m,.int .i64 11] (wx (dF m 11) 0):=by
 have hw:(dF m 11).length<=10000000:=fT h ht 11 (λq=>absurd q (by decide));have hl:m.fs.length<=64:=by have:=h.lim.fs.1;omega
 have he:dF m 11=aQ nA m.fs:=rfl;rw[he,lk]at hw⊢;simp only[aJ,aC]at hw;refine aD cZ ?_;simp only[go_sem,cZ,cY];refine dA [wx [] 0,.int .i64 m.fs.length] ⟨nJ 0,.inl rfl,trivial⟩ ?_
 first|refine aI (tQ m.fs.length (by omega)) rfl (by simp[go_sem,ab,wx]) (by (try simp only[aJ,aT,aC]);omega) ?_|refine aG (tQ m.fs.length (by omega)) rfl (by simp[go_sem,ab,wx]) (by (try simp only[aJ,aT,aC]);omega) ?_
 simp only[go_sem];refine dE 8 5 [(2,.mp 2 12 0 0),(5,.mp 5 2 0 0),(4,.mp 4 2 0 0)] [(2,⟨33,12,[nZ m],true⟩),(4,⟨81,2,[[.nl,.int .i64 0]],true⟩)] nA m.fs ([]++ay m.fs.length) (by simp only[aJ,aC];omega) (by omega) (Wk.of ?_ ?_) ?_ ?_
 .simp only[go_sem,cX];try simp
 .simp only[go_sem,cX];try simp[go_sem]
 .simp only[go_sem,cX,aM (rO _)];exact iq (λ_ h=>by cases h) (by rfl) rfl
 intro i v hi q1 hu e8 k;obtain⟨o1,o2,o3,o4,o5,o6⟩:=DK h (ah m.fs i) (by rw[bD hi];exact na hi);have c:=adW o1 o2 o4 o5;rw[cK]at c;have c2:=ad0 (jX (ah m.fs i));unfold nA at hu k;rw[aJ]at hu;simp only[go_sem,cX,aL q1,cK];refine⟨by omega,q1,?_⟩
 first|refine bY c (by simp[go_sem]) ?_|refine aN c (by simp[go_sem]) rfl ?_
 simp only[go_sem]
 first|refine aI (c2) rfl (by simp[go_sem,ab,wx]) (by (try simp only[aJ,aT,aC]);omega) ?_|refine aG (c2) rfl (by simp[go_sem,ab,wx]) (by (try simp only[aJ,aT,aC]);omega) ?_
 simp only[go_sem];refine k _ (Wk.of ?_ ?_)
 .simp only[go_sem,cX,e8];try simp
 .simp only[go_sem,cX];try simp[go_sem]
theorem ahq:ac pg eG [cY m,.int .i64 12] (wx (dF m 12) 0):=by
 have hw:(dF m 12).length<=10000000:=fT h ht 12 (λq=>absurd q (by decide));have hl:m.ds.length<=64:=by have:=h.lim.ds.1;omega
 have he:dF m 12=aQ pV m.ds:=rfl;rw[he,lk]at hw⊢;simp only[aJ,aC]at hw;refine aD cZ ?_;simp only[go_sem,cZ,cY];refine dA [wx [] 0,.int .i64 m.ds.length] ⟨nJ 0,.inl rfl,trivial⟩ ?_
 first|refine aI (tQ m.ds.length (by omega)) rfl (by simp[go_sem,ab,wx]) (by (try simp only[aJ,aT,aC]);omega) ?_|refine aG (tQ m.ds.length (by omega)) rfl (by simp[go_sem,ab,wx]) (by (try simp only[aJ,aT,aC]);omega) ?_
 simp only[go_sem];refine dE 9 5 [(2,.mp 2 12 0 0),(5,.mp 5 2 0 0),(4,.mp 4 2 0 0)] [(2,⟨33,12,[nZ m],true⟩),(4,⟨81,2,[[.nl,.int .i64 0]],true⟩)] pV m.ds ([]++ay m.ds.length) (by simp only[aJ,aC];omega) (by omega) (Wk.of ?_ ?_) ?_ ?_
 .simp only[go_sem,cX];try simp
 .simp only[go_sem,cX];try simp[go_sem]
 .simp only[go_sem,cX,aM (rO _)];exact iq (λ_ h=>by cases h) (by rfl) rfl
 intro i v hi q1 hu e8 k;have c:=adX (bN h.lim.ds.2 hi) (h.num.2.2.2 _ (by rw[bD hi];exact na hi));rw[ef]at c;simp only[go_sem,cX,aL q1,ef];refine⟨by omega,q1,?_⟩
 first|refine aI (c) rfl (by simp[go_sem,ab,wx]) (by (try simp only[aJ,aT,aC]);omega) ?_|refine aG (c) rfl (by simp[go_sem,ab,wx]) (by (try simp only[aJ,aT,aC]);omega) ?_
 simp only[go_sem];refine k _ (Wk.of ?_ ?_)
 .simp only[go_sem,cX,e8];try simp
 .simp only[go_sem,cX];try simp[go_sem]
theorem adZ{p:Int}(hp:7<=p/\p<=12)(hs:p=8->m.hs=true):ac pg eG [cY m,.int .i64 p] (wx (dF m p) 0):=by
 rcases(show p=7\/p=8\/p=9\/p=10\/p=11\/p=12 by omega)with rfl|rfl|rfl|rfl|rfl|rfl
 .exact ajp h ht
 .exact ajq h ht (hs rfl)
 .exact ajr h ht
 .exact aho h ht
 .exact ahp h ht
 .exact ahq h ht
