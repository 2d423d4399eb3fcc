import Derived.Test.YtijcmjncppkpiaaGreatDoorCQr
set_option linter.all false
set_option maxRecDepth 100000
set_option maxHeartbeats 40000000
namespace Go.Proofs.YtijcmjncppkpiaaGreatDoor
section
open Go Go.Mw
attribute[local go_sem] bP zp bn bc aD aU bT Gw tU iD gC fa dn ez df dA
def XA(m:Md)(s:Sp)(hb:m.gs.length<=1000000)(hi1:∀g∈m.gs,g.i.length<=1000000):Ao o8 MP m s eC (m.gs.map λg=>jk s g.i g.g.v):=by
 intro i hi _ F hF;rw[bP]at hi;rw[ph _ hi];refine dj jf ?_;have hX2:=hi1 (ap m.gs i) (by rw[aV hi];exact gO _);generalize hX:ap m.gs i=X at hX2;have kt:=wZ m s F X.i X.g.v hX2;have hi2:(i:Int)<(m.gs.length:Int):=by omega
 generalize jk s X.i X.g.v=R at kt⊢;simp only[go_sem,jf,MP,eC,cY,hX];refine⟨by omega,hi2,by omega,hi2,?_⟩;refine kG kt (by simp only[go_sem]) (by simp only[go_sem]) ?_;simp only[go_sem];exact aM [] _ [(1000,fH m s F),(1001,sQ)] ⟨rfl,rfl⟩
def XC(m:Md)(s:Sp)(h:tS s):Ao o9 MP m s eC [Je s m.st]:=by
 intro i hi _ F hF;have hi0:i=0:=by simp at hi;omega
 subst hi0;rw[show ap [Je s m.st] 0=Je s m.st from rfl];refine dj jg ?_;have c1:=QK s m.st h.sm;have hn:=λf=>abn h (i:=m.st) (f:=f);unfold Je;generalize s.fn m.st=q at c1 hn⊢;simp only[bc,aD,aU]at c1;simp only[go_sem,jg,MP,eC];refine aL c1 (by simp[go_sem]) rfl ?_;cases q with
 | none =>
  simp only[go_sem,Option.isSome_none];exact aM [] _ [(1000,fH m s F),(1001,sQ)] ⟨rfl,rfl⟩
 | some f =>
  obtain⟨h1,h2⟩:=hn f rfl;have hw:IntKind.i64.wrap ((f.ps.length:Int)+f.rs.length)=((f.ps.length+f.rs.length:Nat):Int):=by rw[wi (by omega) (by omega)];omega
  dsimp only;by_cases g:((f.ps.length+f.rs.length:Nat):Int)>0
  .rw[aF (by omega)];simp only[go_sem,Option.isSome_some,gb,hw,aw g];exact aM [] _ [(1000,fH m s F),(1001,sQ)] ⟨rfl,rfl⟩
  .rw[ax (by omega)];simp only[go_sem,Option.isSome_some,gb,hw,aC g];exact aM [] _ [(1000,fH m s F),(1001,sQ)] ⟨rfl,rfl⟩
def XD(m:Md)(s:Sp)(hb:m.ds.length<=1000000)(hi1:∀d∈m.ds,d.o.length<=1000000):Ao oh MP m s eC (m.ds.map (MC s)):=by
 intro i hi _ F hF;rw[bP]at hi;rw[ph _ hi];refine dj iE ?_;have hX2:=hi1 (ap m.ds i) (by rw[aV hi];exact gO _);generalize hX:ap m.ds i=X at hX2;have kt:=wZ m s F X.o 1 hX2;have kh:=JW m s F 2 X.me;have hi2:(i:Int)<(m.ds.length:Int):=by omega
 obtain⟨T,hT⟩:∃T,MC s X=T:=⟨_,rfl⟩
 rw[hT];unfold MC at hT;generalize jk s X.o 1=R at kt hT;simp only[go_sem,iE,MP,eC,cY,hX];refine⟨by omega,hi2,?_⟩;by_cases h1:X.mo=0;rotate_left
 .rw[aF h1]at hT;subst hT;simp only[go_sem,aG h1];exact aM [] _ [(1000,fH m s F),(1001,sQ)] ⟨rfl,rfl⟩
 rw[ax (λq=>q h1)]at hT;simp only[go_sem,ar h1];refine kG kh (by simp only[go_sem]) (by simp only[go_sem]) ?_;cases h2:vP s 2 X.me
 .rw[aF h2]at hT;subst hT;simp only[go_sem];exact aM [] _ [(1000,fH m s F),(1001,sQ)] ⟨rfl,rfl⟩
 rw[ax (by rw[h2];decide)]at hT;subst hT;simp only[go_sem];refine kG kt (by simp only[go_sem]) (by simp only[go_sem]) ?_;simp only[go_sem];exact aM [] _ [(1000,fH m s F),(1001,sQ)] ⟨rfl,rfl⟩
def O1(s:Sp)(ty:Int){l:List (List a_)}{j:Nat}(h:j<l.length):zV s ty (l.drop j)=if(jk s (ap l j) ty).2≠0 then jk s (ap l j) ty else zV s ty (l.drop (j+1)):=by
 rw[cH h,zV]
def Yg(m:Md)(s:Sp)(F:Fa)(i:Nat)(hi:i<m.els.length)(hb:m.els.length<=1000000)(ho:(ap m.els i).o.length<=1000000)(hit:(ap m.els i).it.length<=1000000/\∀l∈(ap m.els i).it,l.length<=1000000):LkC i9 [.int .i64 i] m s F (.tup [.int .i64 (Fz s (ap m.els i)).1,.int .i64 (Fz s (ap m.els i)).2]):=by
 refine dj mO ?_;obtain⟨hit1,hit2⟩:=hit;generalize hX:ap m.els i=X at*;have kt:=wZ m s F X.o 1 ho;have cv:=sF s X.tb;have hi2:(i:Int)<(m.els.length:Int):=by omega
 simp only[bc,aD,bT]at cv;obtain⟨T,hT⟩:∃T,Fz s X=T:=⟨_,rfl⟩
 rw[hT];unfold Fz at hT;simp only[go_sem,mO,cY,hX];refine⟨by omega,hi2,?_⟩;by_cases h1:X.mo=0;rotate_left
 .rw[ax h1]at hT;simp only[go_sem,ab h1];refine ao (λq:Nat=>⟨[(59,.int .i64 q),(58,.int .i64 X.it.length),(57,.sl 1 (X.it.map oX)),(6,.mp 6 5 0 0),(0,.mp 1000 17 0 0)],[(1000,fH m s F),(6,⟨109,5,[rK X],true⟩)]⟩)
   (λq=>q<=X.it.length/\zV s X.ty (X.it.drop q)=T) (λq=>X.it.length-q) 0 ⟨cR _,hT⟩ (Wk.of ?_ ?_) ?_
  .simp only[go_sem];try simp
  .simp only[go_sem];try rfl
  intro j hh;obtain⟨hj,hx⟩:j<=X.it.length/\zV s X.ty (X.it.drop j)=T:=hh;by_cases h2:(j:Int)<(X.it.length:Int);rotate_left
  .rw[cu (by omega)]at hx;simp only[zV]at hx;subst hx;simp only[go_sem,aC h2];exact aM [] _ [(1000,fH m s F)] ⟨rfl,rfl⟩
  have hj':j<X.it.length:=by omega
  have e8:=cA hj' (by omega);have hYl:=hit2 (ap X.it j) (by rw[aV hj'];exact gO _);rw[O1 s X.ty hj']at hx;generalize hY:ap X.it j=Y at hx hYl;have ky:=wZ m s F Y X.ty hYl;generalize jk s Y X.ty=R2 at ky hx;simp only[go_sem,aw h2,hY];refine⟨by omega,h2,?_⟩;refine kG ky (by simp only[go_sem]) (by simp only[go_sem]) ?_;by_cases h3:R2.2=0;rotate_left
  .rw[aF h3]at hx;subst hx;simp only[go_sem,aG h3];exact aM [] _ [(1000,fH m s F)] ⟨rfl,rfl⟩
  rw[ax (λq=>q h3)]at hx;simp only[go_sem,ar h3];refine ay (j+1) ⟨show j+1<=X.it.length by omega,hx⟩ (show X.it.length-(j+1)<X.it.length-j by omega) (Wk.of ?_ ?_)
  .simp only[go_sem,e8];try simp
  .simp only[go_sem];try rfl
 rw[aF h1]at hT;simp only[go_sem,aK h1];refine aL cv (by simp[go_sem]) rfl ?_;generalize d9 s.tb X.tb=q at hT;cases q with
 | none =>
  dsimp only at hT;subst hT;simp only[go_sem,Option.isSome_none];exact aM [] _ [(1000,fH m s F)] ⟨rfl,rfl⟩
 | some t =>
  dsimp only at hT;by_cases h4:t.e=X.ty;rotate_left
  .rw[aF h4]at hT;subst hT;simp only[go_sem,Option.isSome_some,gb,aG h4];exact aM [] _ [(1000,fH m s F)] ⟨rfl,rfl⟩
  rw[ax (λq=>q h4)]at hT;generalize jk s X.o 1=R at kt hT;simp only[go_sem,Option.isSome_some,gb,ar h4];refine kG kt (by simp only[go_sem]) (by simp only[go_sem]) ?_;by_cases h5:R.2=0;rotate_left
  .rw[aF h5]at hT;subst hT;simp only[go_sem,aG h5];exact aM [] _ [(1000,fH m s F)] ⟨rfl,rfl⟩
  rw[ax (λq=>q h5)]at hT;simp only[go_sem,ar h5];refine ao (λq:Nat=>⟨[(59,.int .i64 q),(58,.int .i64 X.it.length),(57,.sl 1 (X.it.map oX)),(6,.mp 6 5 0 0),(0,.mp 1000 17 0 0)],[(1000,fH m s F),(6,⟨109,5,[rK X],true⟩)]⟩)
   (λq=>q<=X.it.length/\zV s X.ty (X.it.drop q)=T) (λq=>X.it.length-q) 0 ⟨cR _,hT⟩ (Wk.of ?_ ?_) ?_
  .simp only[go_sem];try simp
  .simp only[go_sem];try rfl
  intro j hh;obtain⟨hj,hx⟩:j<=X.it.length/\zV s X.ty (X.it.drop j)=T:=hh;by_cases h2:(j:Int)<(X.it.length:Int);rotate_left
  .rw[cu (by omega)]at hx;simp only[zV]at hx;subst hx;simp only[go_sem,aC h2];exact aM [] _ [(1000,fH m s F)] ⟨rfl,rfl⟩
  have hj':j<X.it.length:=by omega
  have e8:=cA hj' (by omega);have hYl:=hit2 (ap X.it j) (by rw[aV hj'];exact gO _);rw[O1 s X.ty hj']at hx;generalize hY:ap X.it j=Y at hx hYl;have ky:=wZ m s F Y X.ty hYl;generalize jk s Y X.ty=R2 at ky hx;simp only[go_sem,aw h2,hY];refine⟨by omega,h2,?_⟩;refine kG ky (by simp only[go_sem]) (by simp only[go_sem]) ?_;by_cases h3:R2.2=0;rotate_left
  .rw[aF h3]at hx;subst hx;simp only[go_sem,aG h3];exact aM [] _ [(1000,fH m s F)] ⟨rfl,rfl⟩
  rw[ax (λq=>q h3)]at hx;simp only[go_sem,ar h3];refine ay (j+1) ⟨show j+1<=X.it.length by omega,hx⟩ (show X.it.length-(j+1)<X.it.length-j by omega) (Wk.of ?_ ?_)
  .simp only[go_sem,e8];try simp
  .simp only[go_sem];try rfl
def bme(i:Nat):List AV:=[.mp 1000 17 0 0,.int .i64 i]
def eN(i:Nat):List (Nat×aj):=[]
def abh:okE eN:=⟨(λi p hp=>by cases hp),(λi p hp=>by cases hp),(λi j p hp=>by cases hp)⟩
def Xz(m:Md)(s:Sp)(hb:m.els.length<=1000000)(h:∀e∈m.els,e.o.length<=1000000/\e.it.length<=1000000/\∀l∈e.it,l.length<=1000000):Ao i9 bme m s eN (m.els.map (Fz s)):=by
 intro i hi _ F hF;rw[bP]at hi;rw[ph _ hi];have hm:=h (ap m.els i) (by rw[aV hi];exact gO _);exact Yg m s F i hi hb hm.1 hm.2
def YG(m:Md):aj:=⟨33,12,[mI m],true⟩
def J8(m:Md):YG m =⟨33,12,[mI m],true⟩:=rfl
def eM(m:Md)(i:Nat):List (Nat×aj):=[(1001,YG m),(1002,sQ)]
def clm(i:Nat):List AV:=[.int .i64 i,.mp 1001 12 0 0,.mp 1002 1 0 0]
def abg(m:Md):okE (eM m):=⟨(λi p hp=>by simp only[eM,bp,bZ,or_false]at hp;rcases hp with rfl|rfl<;>rfl),(λi p hp=>by
 simp only[eM,bp,bZ,or_false]at hp;rcases hp with rfl|rfl
 .exact⟨show(1001:Nat)≠1000 by decide,.inl ⟨show 1000<=1001 by decide,show 1001<2000 by decide⟩⟩
 .exact⟨show(1002:Nat)≠1000 by decide,.inl ⟨show 1000<=1002 by decide,show 1002<2000 by decide⟩⟩),(λi j p hp=>by simp only[eM,bp,bZ,or_false]at hp;rcases hp with rfl|rfl<;>rfl)⟩
def Xy(hLeft:eS)(m:Md)(s:Sp)(hs:tS s)(hb:m.fs.length<=1000000)(hf:∀f∈m.fs,bdB f):Ao lA clm m s (eM m) (m.fs.map (rH m s)):=by
 intro i hi _ F hF;rw[bP]at hi;rw[ph _ hi];refine dj qk ?_;have kb:=QN hLeft m s i hs hi (by omega) (hf (ap m.fs i) (by rw[aV hi];exact gO _));generalize rH m s (ap m.fs i)=R at kb⊢;simp only[PO,bn,bc,aD]at kb;simp only[go_sem,qk,clm,eM,J8];refine aa (kb) ?_;exact done [] _ [(1000,fH m s F),(1001,YG m),(1002,sQ)] (by simp only[go_sem]) (by simp only[go_sem,J8]) rfl ⟨rfl,rfl⟩
end
section
open Go Go.Mw
def yE(n:List UInt8):AV×AV:=(.str n,.bool true)
def AR(k:List UInt8):∀es:List (List UInt8),dq .s (.str k) (es.map yE)=some (es.findIdx? λp=>k==p)
 | []=>rfl
 | e::r=>by
  simp only[bY,dq,yE,xI,List.findIdx?_cons];cases h:(k==e)
  .simp only[AR k r];cases r.findIdx? (λp=>k==p)<;>rfl
  .rfl
def IB(K:AV->aW->Prop)(k:List UInt8)(es:List (List UInt8)):GB K false (.bool false) (es.map yE) (dq .s (.str k) (es.map yE))=K (.bool (decide (k∈es))) .no:=by
 rw[AR];cases h:es.findIdx? (λp=>k==p)with
 | none =>
  have hn:k∉es:=λhk=>by
   have:=List.findIdx?_eq_none_iff.1 h k hk;simp at this
  simp only[GB,jr,fS,aC hn]
 | some i =>
  obtain⟨hi,h1,_⟩:=List.findIdx?_eq_some_iff_getElem.1 h;have hm:k∈es:=by
   have:k=es[i]:=by simpa using h1
   rw[this];exact gO hi
  simp only[GB,fR,jZ hi,fo,yE,jr,fS,aw hm]
def Zu{k:List UInt8}{es:List (List UInt8)}(h:k∉es):yF .s (.str k) (.bool true) (es.map yE)=some ((es++[k]).map yE):=by
 unfold yF;rw[AR];cases hf:es.findIdx? (λp=>k==p)with
 | none=>simp[yE]
 | some i =>
  obtain⟨hi,h1,_⟩:=List.findIdx?_eq_some_iff_getElem.1 hf;exact absurd (by rw[show k=es[i] from by simpa using h1];exact gO hi) h
def FA(s:Sp):∀(l:List Ex)(seen:List (List UInt8)),(mB s seen l).length=l.length
 | [],_=>rfl
 | x::l,seen=>by rw[mB,j1,FA s l,j1]
def exA(s:Sp)(seen:List (List UInt8))(x:Ex):Int×Int:=if x.n∈seen then(0,21)else if vP s x.k x.i=false then(0,11)else(0,0)
def KF(s:Sp):∀(l:List Ex)(seen:List (List UInt8))(i:Nat),i<l.length->ap (mB s seen l) i=exA s (seen++(l.take i).map (·.n)) (ap l i)
 | [],_,i,h=>by simp at h
 | x::l,seen,0,h=>by rw[mB,iO,eL,lm];rfl
 | x::l,seen,i+1,h=>by
  have h':i<l.length:=by simpa using h
  have:=KF s l (seen++[x.n]) i h';rw[mB,List.take_succ_cons,bY];show ap (mB s (seen++[x.n]) l) i=exA s (seen++x.n::_) (ap l i);rw[this,mE];rfl
def sN(m:Md)(res:List (Int×Int)):Nat->List (List UInt8)
 | 0=>[]
 | i+1=>if(ap res i).2≠0 then sN m res i else sN m res i++[(ap m.exs i).n]
def Wu(m:Md)(res:List (Int×Int)):∀i,i<=m.exs.length->(∀j,j<i->(ap res j).2=0)->sN m res i=(m.exs.take i).map (·.n)
 | 0,_,_=>rfl
 | i+1,hi,h=>by
  rw[sN,ax (λq=>q (h i (by omega))),Wu m res i (by omega) (λj hj=>h j (by omega)),lE (by omega),dW];rfl
def nmC:aj:=⟨253,1,[[.mm 2000 true]],true⟩
def Dy:nmC =⟨253,1,[[.mm 2000 true]],true⟩:=rfl
def eX(m:Md)(s:Sp)(i:Nat):List (Nat×aj):=[(1001,sQ),(1002,nmC),(2000,@aj.mk 0 0 [] false (.mp ((sN m (mB s [] m.exs) i).map yE)))]
def clx(i:Nat):List AV:=[.int .i64 i,.mp 1001 1 0 0,.mp 1002 1 0 0]
attribute[local go_sem] bP zp bn bc aD aU bT Gw tU iD df dA
def XB(m:Md)(s:Sp)(hb:m.exs.length<=1000000):Ao fc clx m s (eX m s) (mB s [] m.exs):=by
 intro i hi hok F hF;rw[FA]at hi;have hN:=Wu m (mB s [] m.exs) i (by omega) hok;have hr:=KF s m.exs [] i hi;rw[iD,<-hN]at hr;have hS:sN m (mB s [] m.exs) (i+1)=if(ap (mB s [] m.exs) i).2≠0 then sN m (mB s [] m.exs) i else sN m (mB s [] m.exs) i++[(ap m.exs i).n]:=rfl
 unfold eX;rw[hS,hr];generalize sN m (mB s [] m.exs) i=N;refine dj dk ?_;generalize hX:ap m.exs i=X;have kh:=JW m s F X.k X.i;have hi2:(i:Int)<(m.exs.length:Int):=by omega
 unfold exA;by_cases h1:X.n∈N
 .rw[aF h1];simp only[go_sem,dk,clx,cY,hX,Dy,IB,aw h1];refine⟨by omega,hi2,?_⟩;exact done [] _ [(1000,fH m s F),(1001,sQ),(1002,nmC),(2000,@aj.mk 0 0 [] false (.mp (N.map yE)))] (by simp only[go_sem]) (by simp only[go_sem,Dy]) rfl ⟨rfl,rfl⟩
 rw[ax h1];cases h2:vP s X.k X.i
 .rw[h2]at kh;rw[aF rfl];simp only[go_sem,dk,clx,cY,hX,Dy,IB,aC h1];refine⟨by omega,hi2,?_⟩;refine kG kh (by simp only[go_sem]) (by simp only[go_sem]) ?_;simp only[go_sem];exact done [] _ [(1000,fH m s F),(1001,sQ),(1002,nmC),(2000,@aj.mk 0 0 [] false (.mp (N.map yE)))] (by simp only[go_sem]) (by simp only[go_sem,Dy]) rfl ⟨rfl,rfl⟩
 .rw[h2]at kh;rw[ax (show ¬(true=false)by decide)];have hp:=Zu h1;simp only[go_sem,dk,clx,cY,hX,Dy,IB,aC h1];refine⟨by omega,hi2,?_⟩;refine kG kh (by simp only[go_sem]) (by simp only[go_sem]) ?_;simp only[go_sem];refine⟨rfl,rfl,_,hp,?_⟩;exact done [] _ [(1000,fH m s F),(1001,sQ),(1002,nmC),(2000,@aj.mk 0 0 [] false (.mp ((N++[X.n]).map yE)))] (by simp only[go_sem]) (by simp only[go_sem,Dy]) rfl ⟨rfl,rfl⟩
def QS(l:List Int)(v:Int)(hl:l.length<=1000000):∃r:Int,ah pg pT [.sl 1 (l.map ri),.int .i64 v] (.int .i64 r)/\(r>=0↔v∈l):=by
 refine⟨match l.findIdx? (λx=>v==x)with|some i=>(i:Int)|none=>-1,?_,?_⟩
 .obtain⟨T,hT⟩:∃T,(match l.findIdx? (λx=>v==x)with|some i=>(i:Int)|none=>-1)=T:=⟨_,rfl⟩
  rw[hT];refine au jC ?_;simp only[go_sem,jC];refine ao (λq:Nat=>⟨[(8,.int .i64 q),(7,.int .i64 l.length),(1,.int .i64 v),(0,.sl 1 (l.map ri))],[]⟩)
   (λq=>q<=l.length/\∀j,j<q->¬v=ap l j) (λq=>l.length-q) 0 ⟨cR _,λj hj=>absurd hj (Nat.not_lt_zero j)⟩ (Wk.of ?_ ?_) ?_
  .simp only[go_sem];try simp
  .simp only[go_sem];try rfl
  intro i hh;obtain⟨hi,hx⟩:i<=l.length/\∀j,j<i->¬v=ap l j:=hh;by_cases h1:(i:Int)<(l.length:Int)
  .have hi':i<l.length:=by omega
   have e8:=cA hi' (by omega);by_cases h2:v=ap l i
   .have hf:l.findIdx? (λx=>v==x)=some i:=by
     rw[List.findIdx?_eq_some_iff_getElem];refine⟨hi',by rw[<-aV hi'];exact beq_iff_eq.2 h2,λj hj=>?_⟩;have:=hx j hj;rw[aV (by omega)]at this;simpa using this
    rw[hf]at hT;subst hT;simp only[go_sem,aw h1,aK h2];refine⟨by omega,h1,?_⟩;exact an
   .simp only[go_sem,aw h1,ab h2];refine⟨by omega,h1,?_⟩;refine ay (i+1) ⟨show i+1<=l.length by omega,λj hj=>?_⟩ (show l.length-(i+1)<l.length-i by omega) (Wk.of ?_ ?_)
    .by_cases hji:j=i
     .rw[hji];exact h2
     .exact hx j (by have hj:j<i+1:=hj;omega)
    .simp only[go_sem,e8];try simp
    .simp only[go_sem];try rfl
  have hie:i=l.length:=by omega
  have hf:l.findIdx? (λx=>v==x)=none:=by
   rw[List.findIdx?_eq_none_iff];intro x hxm;obtain⟨j,hj,rfl⟩:=List.mem_iff_getElem.1 hxm;have:=hx j (by omega);rw[aV hj]at this;simpa using this
  rw[hf]at hT;subst hT;simp only[go_sem,aC h1];exact an
 .cases hf:l.findIdx? (λx=>v==x)with
  | none =>
   have hn:v∉l:=λhk=>by
    have:=List.findIdx?_eq_none_iff.1 hf v hk;simp at this
   exact⟨λq=>absurd q (by decide),λq=>absurd q hn⟩
  | some i =>
   obtain⟨hi,h1,_⟩:=List.findIdx?_eq_some_iff_getElem.1 hf;exact⟨λ_=>by rw[show v=l[i] from by simpa using h1];exact gO hi,λ_=>by show(i:Int)>=0;omega⟩
def Va(l:List Int)(v:Int)(hl:l.length<=1000000):ah pg nA [.sl 1 (l.map ri),.int .i64 v] (.bool (decide (v∈l))):=by
 obtain⟨r,hr,hm⟩:=QS l v hl;refine au gZ ?_;rw[show decide (v∈l)=decide (r>=0) from by simp only[hm]];simp only[go_sem,gZ];refine aa (hr) ?_;exact ac
def Fy(p:List Int):∀(l:List Cu)(last:Int),(oG p last l).length=l.length
 | [],_=>rfl
 | x::l,last=>by rw[oG,j1,Fy p l,j1]
def aba(p:List Int)(last:Int)(x:Cu):Int×Int:=if x.af<last\/(x.af≠0/\x.af∉p)then(0,7)else(0,0)
def V9(last:Int)(l:List Cu)(i:Nat):Int:=if i=0 then last else(ap l (i-1)).af
def KE(p:List Int):∀(l:List Cu)(last:Int)(i:Nat),i<l.length->ap (oG p last l) i=aba p (V9 last l i) (ap l i)
 | [],_,i,h=>by simp at h
 | x::l,last,0,h=>rfl
 | x::l,last,i+1,h=>by
  have h':i<l.length:=by simpa using h
  have:=KE p l x.af i h';rw[oG];show ap (oG p x.af l) i=_;rw[this];cases i with
  | zero=>rfl
  | succ i=>rfl
def sL(m:Md)(res:List (Int×Int)):Nat->Int
 | 0=>0
 | i+1=>if(ap res i).2≠0 then sL m res i else(ap m.cs i).af
def acs(m:Md)(res:List (Int×Int)):∀i,(∀j,j<i->(ap res j).2=0)->sL m res i=V9 0 m.cs i
 | 0,_=>rfl
 | i+1,h=>by
  rw[sL,ax (λq=>q (h i (by omega)))];rfl
def TM(v:Int):aj:=⟨3,1,[[.int .i64 v]],true⟩
def w7(v:Int):TM v =⟨3,1,[[.int .i64 v]],true⟩:=rfl
def Fe(p:List Int):aj:=⟨87,1,[[.sl 1 (p.map ri)]],true⟩
def xw(p:List Int):Fe p =⟨87,1,[[.sl 1 (p.map ri)]],true⟩:=rfl
def eU(m:Md)(p:List Int)(i:Nat):List (Nat×aj):=[(1001,sQ),(1002,TM (sL m (oG p 0 m.cs) i)),(1003,Fe p)]
def clu(i:Nat):List AV:=[.int .i64 i,.mp 1001 1 0 0,.mp 1002 1 0 0,.mp 1003 1 0 0]
def XE(m:Md)(s:Sp)(p:List Int)(hp:p.length<=1000000)(hb:m.cs.length<=1000000):Ao eH clu m s (eU m p) (oG p 0 m.cs):=by
 intro i hi hok F hF;rw[Fy]at hi;have hN:=acs m (oG p 0 m.cs) i hok;have hr:=KE p m.cs 0 i hi;rw[<-hN]at hr;have hS:sL m (oG p 0 m.cs) (i+1)=if(ap (oG p 0 m.cs) i).2≠0 then sL m (oG p 0 m.cs) i else(ap m.cs i).af:=rfl
 unfold eU;rw[hS,hr];generalize sL m (oG p 0 m.cs) i=N;refine dj cJ ?_;generalize hX:ap m.cs i=X;have kc:=Va p X.af hp;have hi2:(i:Int)<(m.cs.length:Int):=by omega
 unfold aba;by_cases h1:X.af<N
 .rw[aF (.inl h1)];simp only[go_sem,cJ,clu,cY,hX,w7,xw,aw h1];refine⟨by omega,hi2,?_⟩;exact done [] _ [(1000,fH m s F),(1001,sQ),(1002,TM N),(1003,Fe p)] (by simp only[go_sem]) (by simp only[go_sem,w7,xw]) rfl ⟨rfl,rfl⟩
 by_cases h2:X.af=0
 .rw[ax (by rintro(q|q);exact h1 q;exact q.1 h2)];simp only[go_sem,cJ,clu,cY,hX,w7,xw,aC h1,ar h2];refine⟨by omega,hi2,?_⟩;exact done [] _ [(1000,fH m s F),(1001,sQ),(1002,TM X.af),(1003,Fe p)] (by simp only[go_sem]) (by simp only[go_sem,w7,xw]) rfl ⟨rfl,rfl⟩
 by_cases h3:X.af∈p
 .rw[ax (by rintro(q|q);exact h1 q;exact q.2 h3)];rw[aw h3]at kc;simp only[go_sem,cJ,clu,cY,hX,w7,xw,aC h1,aG h2];refine⟨by omega,hi2,?_⟩;refine aa (kc) ?_;exact done [] _ [(1000,fH m s F),(1001,sQ),(1002,TM X.af),(1003,Fe p)] (by simp only[go_sem]) (by simp only[go_sem,w7,xw]) rfl ⟨rfl,rfl⟩
 .rw[aF (.inr ⟨h2,h3⟩)];rw[aC h3]at kc;simp only[go_sem,cJ,clu,cY,hX,w7,xw,aC h1,aG h2];refine⟨by omega,hi2,?_⟩;refine aa (kc) ?_;exact done [] _ [(1000,fH m s F),(1001,sQ),(1002,TM N),(1003,Fe p)] (by simp only[go_sem]) (by simp only[go_sem,w7,xw]) rfl ⟨rfl,rfl⟩
end
section
open Go Go.Mw
def JF{f:FuncId}{caps:List AV}(h4:f<4000000)(hB:bM pg f=true)(i:Nat)(d:Option Nat)(w:St)(K:St->Prop)(h:cB pg f (.int .i64 i::caps) d w K):JG pg (.fn f caps) [.int .i64 i] d w K:=by
 rw[wS,aF h4];exact⟨hB,h⟩
def wM{f:FuncId}{m:Md}{s:Sp}{res:List (Int×Int)}{part:Int}{F:Fa}(hf:Ao f MP m s eC res)(h4:f<4000000)(hB:bM pg f=true)(hr:res.length<=1000000){n:Int}{d:Option Nat}{w:St}{K:St->Prop}(hn:n=(res.length:Int))(h0:ae w.heap 1000=some (fH m s F))(h1:ae w.heap 1=some sQ)
  (hk:K ((St.mk w.env ([(1000,fH m s (kH part 0 res F)),(1,sQ)]++w.heap)).put d (.tup []))):cB pg dd [.mp 1000 17 0 0,.int .i64 part,.int .i64 n,.fn f [.mp 1 1 0 0]] d w K:=by
 subst hn;have h:=Bb (caps:=[.mp 1001 1 0 0]) (f:=f) hf abf (JF h4 hB) (λi F=>rfl) rfl hr part F;refine ey (σ2:=[(1000,fH m s F),(1,sQ)]) (σ3:=[(1000,fH m s (kH part 0 res F)),(1,sQ)]) (r3:=.tup []) h [(1001,1)] [] rfl rfl rfl rfl (λp hp=>?_) (λp hp=>?_) (λp hp=>?_) hk
 .simp only[bp,bZ,or_false]at hp;rcases hp with rfl|rfl
  .exact h0
  .exact h1
 .simp only[bp,bZ,or_false]at hp;rcases hp with rfl|rfl
  .exact .inl ⟨⟨show 1000<=1000 by decide,show 1000<2000 by decide⟩,rfl⟩
  .exact .inl ⟨⟨show 1000<=1001 by decide,show 1001<2000 by decide⟩,rfl⟩
 .simp only[bp,bZ,or_false]at hp;rcases hp with rfl|rfl<;>rfl
def LkT(f:FuncId)(m:Md)(s:Sp)(F F':Fa):Prop:=aZ pg f [.mp 1000 17 0 0] [(1000,fH m s F)] Ku (λr' σ'=>r' = .tup []/\σ'=[(1000,fH m s F')])
attribute[local go_sem] bP zp bn bc aD aU bT Gw tU iD
def TD(m:Md)(s:Sp)(F:Fa)(h:B0 s)(h1:m.ims.length<=1000000)(h2:m.fs.length<=1000000):LkT tI m s F (kH 3 0 (m.fs.map λf=>CS s f.t) (kH 2 0 (m.ims.map (MD s)) F)):=by
 refine dj lP ?_;simp only[go_sem,lP];refine wM (F:=F) (N8 m s h h1) (by decide) (by kernel_rfl) (by rw[bP];exact h1) (by rw[bP]) (by simp only[go_sem]) (by simp only[go_sem]) ?_;simp only[go_sem];refine wM (F:=kH 2 0 (m.ims.map (MD s)) F) (N9 m s h h2) (by decide) (by kernel_rfl) (by rw[bP];exact h2) (by rw[bP]) (by simp only[go_sem]) (by simp only[go_sem]) ?_;simp only[go_sem];exact wP [] _ [(1000,fH m s (kH 3 0 (m.fs.map λf=>CS s f.t) (kH 2 0 (m.ims.map (MD s)) F)))] ⟨rfl,rfl⟩
def Sq{m:Md}{s:Sp}{F:Fa}(hb:m.exs.length<=1000000){n:Int}{d:Option Nat}{w:St}{K:St->Prop}(hn:n=(m.exs.length:Int))(h0:ae w.heap 1000=some (fH m s F))(h1:ae w.heap 1=some sQ)(h2:ae w.heap 2=some ⟨253,1,[[.mm 12 true]],true⟩)(h3:ae w.heap 12=some (@aj.mk 0 0 [] false (.mp [])))
  (hk:∀X,K ((St.mk (jW [2000,12] w.env) ([(1000,fH m s (kH 7 0 (mB s [] m.exs) F)),(1,sQ)]++X)).put d (.tup []))):cB pg dd [.mp 1000 17 0 0,.int .i64 7,.int .i64 n,.fn fc [.mp 1 1 0 0,.mp 2 1 0 0]] d w K:=by
 subst hn;have hl:(mB s [] m.exs).length=m.exs.length:=FA s m.exs []
 have hok:okE (eX m s):=⟨(λi p hp=>by simp only[eX,bp,bZ,or_false]at hp;rcases hp with rfl|rfl|rfl<;>rfl),(λi p hp=>by
  simp only[eX,bp,bZ,or_false]at hp;rcases hp with rfl|rfl|rfl
  .exact⟨show(1001:Nat)≠1000 by decide,.inl ⟨show 1000<=1001 by decide,show 1001<2000 by decide⟩⟩
  .exact⟨show(1002:Nat)≠1000 by decide,.inl ⟨show 1000<=1002 by decide,show 1002<2000 by decide⟩⟩
  .exact⟨show(2000:Nat)≠1000 by decide,.inr rfl⟩),(λi j p hp=>by simp only[eX,bp,bZ,or_false]at hp;rcases hp with rfl|rfl|rfl<;>rfl)⟩
 have h:=Bb (caps:=[.mp 1001 1 0 0,.mp 1002 1 0 0]) (f:=fc) (ag:=clx) (XB m s hb) hok (JF (by decide) (by kernel_rfl)) (λi F=>rfl) rfl (by rw[hl];exact hb) 7 F;rw[hl]at h;generalize (if F.c≠0 then 0 else CR (mB s [] m.exs))=J at h;refine ey (σ2:=[(1000,fH m s F),(1,sQ),(2,⟨253,1,[[.mm 12 true]],true⟩),(12,@aj.mk 0 0 [] false (.mp []))]) (σ3:=[(1000,fH m s (kH 7 0 (mB s [] m.exs) F)),(1,sQ),(2,⟨253,1,[[.mm 12 true]],true⟩),(12,@aj.mk 0 0 [] false (.mp ((sN m (mB s [] m.exs) J).map yE)))]) (r3:=.tup []) h [(1001,1),(1002,2),(2000,12)] [2000,12] rfl rfl rfl rfl (λp hp=>?_) (λp hp=>?_) (λp hp=>?_) (hk _)
 .simp only[bp,bZ,or_false]at hp;rcases hp with rfl|rfl|rfl|rfl
  .exact h0
  .exact h1
  .exact h2
  .exact h3
 .simp only[bp,bZ,or_false]at hp;rcases hp with rfl|rfl|rfl|rfl
  .exact .inl ⟨⟨show 1000<=1000 by decide,show 1000<2000 by decide⟩,rfl⟩
  .exact .inl ⟨⟨show 1000<=1001 by decide,show 1001<2000 by decide⟩,rfl⟩
  .exact .inl ⟨⟨show 1000<=1002 by decide,show 1002<2000 by decide⟩,rfl⟩
  .exact .inr ⟨by simp,.inl (show 12<1000 by decide),.inl rfl⟩
 .simp only[bp,bZ,or_false]at hp;rcases hp with rfl|rfl|rfl|rfl<;>rfl
def LF(m:Md)(s:Sp)(F:Fa)(h:tS s)(h1:m.gs.length<=1000000)(h1b:∀g∈m.gs,g.i.length<=1000000)(h2:m.exs.length<=1000000):LkT qT m s F (if m.hs=true then kH 8 0 [Je s m.st] (kH 7 0 (mB s [] m.exs) (kH 6 0 (m.gs.map λg=>jk s g.i g.g.v) F))else kH 7 0 (mB s [] m.exs) (kH 6 0 (m.gs.map λg=>jk s g.i g.g.v) F)):=by
 refine dj j8 ?_;obtain⟨F1,hF1⟩:∃G,kH 6 0 (m.gs.map λg=>jk s g.i g.g.v) F=G:=⟨_,rfl⟩
 obtain⟨F2,hF2⟩:∃G,kH 7 0 (mB s [] m.exs) F1=G:=⟨_,rfl⟩
 rw[hF1,hF2];simp only[go_sem,j8];refine wM (F:=F) (XA m s h1 h1b) (by decide) (by kernel_rfl) (by rw[bP];exact h1) (by rw[bP]) (by simp only[go_sem]) (by simp only[go_sem]) ?_;rw[hF1];simp only[go_sem];refine Sq (s:=s) (F:=F1) h2 rfl (by simp only[go_sem]) (by simp only[go_sem]) (by simp only[go_sem]) (by simp only[go_sem]) (λX=>?_);rw[hF2];cases hh:m.hs
 .simp only[go_sem,hh];exact done [] _ [(1000,fH m s F2)] (by simp only[go_sem]) (by simp only[go_sem,hh]) rfl ⟨rfl,by simp only[go_sem,hh]⟩
 .simp only[go_sem,hh];refine wM (F:=F2) (XC m s h) (by decide) (by kernel_rfl) (by simp) rfl (by simp only[go_sem,hh]) (by simp only[go_sem]) ?_;simp only[go_sem,hh];exact iY [] _ [(1000,fH m s (kH 8 0 [Je s m.st] F2))] (by simp only[go_sem]) (by simp only[go_sem,hh]) rfl ⟨rfl,by simp only[go_sem,hh]⟩
def Tx{m:Md}{s:Sp}{F:Fa}(h1:m.els.length<=1000000)(h:∀e∈m.els,e.o.length<=1000000/\e.it.length<=1000000/\∀l∈e.it,l.length<=1000000){n:Int}{d:Option Nat}{w:St}{K:St->Prop}(hn:n=(m.els.length:Int))(h0:ae w.heap 1000=some (fH m s F))
  (hk:K ((St.mk w.env ([(1000,fH m s (kH 9 0 (m.els.map (Fz s)) F))]++w.heap)).put d (.tup []))):cB pg dd [.mp 1000 17 0 0,.int .i64 9,.int .i64 n,.fn 4000199 [.mp 1000 17 0 0]] d w K:=by
 subst hn
 have h:=Bb (caps:=[.mp 1000 17 0 0]) (f:=4000199) (g:=i9) (ag:=bme) (Xz m s h1 h) abh (λi d w K hh=>by
  rw[wS,ax (by decide)];exact⟨by kernel_rfl,hh⟩) (λi F=>rfl) rfl (by rw[bP];exact h1) 9 F
 rw[bP]at h;refine gz h [] (λp hp=>?_) (λp hp=>?_) (λp hp=>?_) hk
 .rw[eF.1 hp];exact h0
 .rw[eF.1 hp];exact .inl ⟨⟨show 1000<=1000 by decide,show 1000<2000 by decide⟩,rfl⟩
 .rw[eF.1 hp];rfl
end
section
open Go Go.Mw
def So{m:Md}{s:Sp}{F:Fa}{p:List Int}(hp:p.length<=1000000)(hb:m.cs.length<=1000000){n:Int}{d:Option Nat}{w:St}{K:St->Prop}(hn:n=(m.cs.length:Int))(h0:ae w.heap 1000=some (fH m s F))(h1:ae w.heap 1=some sQ)(h2:ae w.heap 2=some (Fe p))(h3:ae w.heap 3=some (TM 0))
  (hk:∀X,K ((St.mk w.env ([(1000,fH m s (kH 11 0 (oG p 0 m.cs) F))]++X)).put d (.tup []))):cB pg dd [.mp 1000 17 0 0,.int .i64 11,.int .i64 n,.fn eH [.mp 1 1 0 0,.mp 3 1 0 0,.mp 2 1 0 0]] d w K:=by
 subst hn;have hl:(oG p 0 m.cs).length=m.cs.length:=Fy p m.cs 0
 have hok:okE (eU m p):=⟨(λi p hp=>by simp only[eU,bp,bZ,or_false]at hp;rcases hp with rfl|rfl|rfl<;>rfl),(λi p hp=>by
  simp only[eU,bp,bZ,or_false]at hp;rcases hp with rfl|rfl|rfl
  .exact⟨show(1001:Nat)≠1000 by decide,.inl ⟨show 1000<=1001 by decide,show 1001<2000 by decide⟩⟩
  .exact⟨show(1002:Nat)≠1000 by decide,.inl ⟨show 1000<=1002 by decide,show 1002<2000 by decide⟩⟩
  .exact⟨show(1003:Nat)≠1000 by decide,.inl ⟨show 1000<=1003 by decide,show 1003<2000 by decide⟩⟩),(λi j p hp=>by simp only[eU,bp,bZ,or_false]at hp;rcases hp with rfl|rfl|rfl<;>rfl)⟩
 have h:=Bb (caps:=[.mp 1001 1 0 0,.mp 1002 1 0 0,.mp 1003 1 0 0]) (f:=eH) (ag:=clu) (XE m s p hp hb) hok (JF (by decide) (by kernel_rfl)) (λi F=>rfl) rfl (by rw[hl];exact hb) 11 F;rw[hl]at h;generalize (if F.c≠0 then 0 else CR (oG p 0 m.cs))=J at h;refine ey (σ2:=[(1000,fH m s F),(1,sQ),(3,TM 0),(2,Fe p)]) (σ3:=[(1000,fH m s (kH 11 0 (oG p 0 m.cs) F)),(1,sQ),(3,TM (sL m (oG p 0 m.cs) J)),(2,Fe p)]) (r3:=.tup []) h [(1001,1),(1002,3),(1003,2)] [] rfl rfl rfl rfl (λp hp=>?_) (λp hp=>?_) (λp hp=>?_) (hk _)
 .simp only[bp,bZ,or_false]at hp;rcases hp with rfl|rfl|rfl|rfl
  .exact h0
  .exact h1
  .exact h3
  .exact h2
 .simp only[bp,bZ,or_false]at hp;rcases hp with rfl|rfl|rfl|rfl
  .exact .inl ⟨⟨show 1000<=1000 by decide,show 1000<2000 by decide⟩,rfl⟩
  .exact .inl ⟨⟨show 1000<=1001 by decide,show 1001<2000 by decide⟩,rfl⟩
  .exact .inl ⟨⟨show 1000<=1002 by decide,show 1002<2000 by decide⟩,rfl⟩
  .exact .inl ⟨⟨show 1000<=1003 by decide,show 1003<2000 by decide⟩,rfl⟩
 .simp only[bp,bZ,or_false]at hp;rcases hp with rfl|rfl|rfl|rfl<;>rfl
def UJ(m:Md):(IS m).length<=1000:=by
 rw[Qk];simp only[ej];have:=dE (m.ts.length>0) 1;have:=dE (m.ims.length>0) 2;have:=dE (m.fs.length>0) 3;have:=dE (m.tbs.length>0) 4;have:=dE (m.ms.length>0) 5;have:=dE (m.gs.length>0) 6;have:=dE (m.exs.length>0) 7;have:=dE (m.hs=true) 8;have:=dE (m.els.length>0) 9;have:=dE (m.ds.length>0) 10;have:=dE (m.fs.length>0) 11;have:=dE (m.ds.length>0) 12;omega
attribute[local go_sem] bP zp bn bc aD aU bT Gw tU iD w7 xw
def Iy(m:Md)(s:Sp)(F:Fa)(h1:m.els.length<=1000000)(h:∀e∈m.els,e.o.length<=1000000/\e.it.length<=1000000/\∀l∈e.it,l.length<=1000000)(h2:m.ds.length<=1000000)(h2b:∀d∈m.ds,d.o.length<=1000000)(h3:m.cs.length<=1000000):LkT pP m s F (kH 11 0 (oG (IS m) 0 m.cs) (kH 10 0 (m.ds.map (MC s)) (kH 9 0 (m.els.map (Fz s)) F))):=by
 refine dj ju ?_;have cs:=PL m;simp only[da,bn]at cs;have hpl:=UJ m;obtain⟨F1,hF1⟩:∃G,kH 9 0 (m.els.map (Fz s)) F=G:=⟨_,rfl⟩
 obtain⟨F2,hF2⟩:∃G,kH 10 0 (m.ds.map (MC s)) F1=G:=⟨_,rfl⟩
 rw[hF1,hF2];simp only[go_sem,ju];refine Tx (s:=s) (F:=F) h1 h rfl (by simp only[go_sem]) ?_;rw[hF1];simp only[go_sem];refine wM (F:=F1) (XD m s h2 h2b) (by decide) (by kernel_rfl) (by rw[bP];exact h2) (by rw[bP]) (by simp only[go_sem]) (by simp only[go_sem]) ?_;rw[hF2];simp only[go_sem];refine aa (cs) ?_;refine So (s:=s) (F:=F2) (p:=IS m) (by omega) h3 rfl (by simp only[go_sem]) (by simp only[go_sem]) (by simp only[go_sem]) (by simp only[go_sem]) (λX=>?_);simp only[go_sem];exact wP [] _ [(1000,fH m s (kH 11 0 (oG (IS m) 0 m.cs) F2))] ⟨rfl,rfl⟩
def H9{f:FuncId}{m:Md}{s:Sp}{F F':Fa}(h:LkT f m s F F'){d:Option Nat}{w:St}{K:St->Prop}(h0:ae w.heap 15=some (fH m s F))
  (hk:K ((St.mk w.env ([(15,fH m s F')]++w.heap)).put d (.tup []))):cB pg f [.mp 15 17 0 0] d w K:=by
 refine ey (σ2:=[(15,fH m s F)]) (σ3:=[(15,fH m s F')]) (r3:=.tup []) h [(1000,15)] [] rfl rfl rfl rfl (λp hp=>?_) (λp hp=>?_) (λp hp=>?_) hk
 .rw[eF.1 hp];exact h0
 .rw[eF.1 hp];exact .inl ⟨⟨show 1000<=1000 by decide,show 1000<2000 by decide⟩,rfl⟩
 .rw[eF.1 hp];rfl
def Pd:aj:=⟨167,1,[[.mp 15 17 0 0]],true⟩
def Pe:Pd =⟨167,1,[[.mp 15 17 0 0]],true⟩:=rfl
def Sn{m:Md}{s:Sp}{F:Fa}(hLeft:eS)(hs:tS s)(hb:m.fs.length<=1000000)(hf:∀f∈m.fs,bdB f){n:Int}{d:Option Nat}{w:St}{K:St->Prop}(hn:n=(m.fs.length:Int))(h0:ae w.heap 15=some (fH m s F))(h1:ae w.heap 1=some (YG m))(h2:ae w.heap 4=some Pd)
  (hk:K ((St.mk w.env ([(15,fH m s (kH 12 0 (m.fs.map (rH m s)) F)),(1,YG m),(4,Pd)]++w.heap)).put d (.tup []))):cB pg dd [.mp 15 17 0 0,.int .i64 12,.int .i64 n,.fn lA [.mp 1 12 0 0,.mp 4 1 0 0]] d w K:=by
 subst hn;have h:=Bb (caps:=[.mp 1001 12 0 0,.mp 1002 1 0 0]) (f:=lA) (ag:=clm) (Xy hLeft m s hs hb hf) (abg m) (JF (by decide) (by kernel_rfl)) (λi F=>rfl) rfl (by rw[bP];exact hb) 12 F;rw[bP]at h;refine ey (σ2:=[(15,fH m s F),(1,YG m),(4,Pd)]) (σ3:=[(15,fH m s (kH 12 0 (m.fs.map (rH m s)) F)),(1,YG m),(4,Pd)]) (r3:=.tup []) h [(1000,15),(1001,1),(1002,4)] [] rfl rfl rfl rfl (λp hp=>?_) (λp hp=>?_) (λp hp=>?_) hk
 .simp only[bp,bZ,or_false]at hp;rcases hp with rfl|rfl|rfl
  .exact h0
  .exact h1
  .exact h2
 .simp only[bp,bZ,or_false]at hp;rcases hp with rfl|rfl|rfl
  .exact .inl ⟨⟨show 1000<=1000 by decide,show 1000<2000 by decide⟩,rfl⟩
  .exact .inl ⟨⟨show 1000<=1001 by decide,show 1001<2000 by decide⟩,rfl⟩
  .exact .inl ⟨⟨show 1000<=1002 by decide,show 1002<2000 by decide⟩,rfl⟩
 .simp only[bp,bZ,or_false]at hp;rcases hp with rfl|rfl|rfl<;>rfl
structure ckB(m:Md):Prop where
 sp:Ry m
 t:∀x∈m.ts,x.ps.length<=100/\x.rs.length<=100
 f:∀f∈m.fs,bdB f
 g:∀g∈m.gs,g.i.length<=1000000
 e:∀e∈m.els,e.o.length<=1000000/\e.it.length<=1000000/\∀l∈e.it,l.length<=1000000
 d:m.ds.length<=1000000/\∀d∈m.ds,d.o.length<=1000000
 c:m.cs.length<=1000000
def Rd{m:Md}(h:∀x∈m.ts,x.ps.length<=100/\x.rs.length<=100):tS (I6 m):=h
def Q6(hLeft:eS)(m:Md)(hm:Rx m)(h:(w9 B9 m).c=0->ckB m):ah pg CH [da m] (.agg [.int .i64 (Ea m).p,.int .i64 (Ea m).i,.int .i64 (Ea m).l,.int .i64 (Ea m).c]):=by
 refine au uA ?_;have cl:=Pz B9 m hm (λy hy=>Ww y hy);unfold Ea;generalize hL:w9 B9 m=L at cl h⊢;simp only[da,bn]at cl;simp only[go_sem,uA,da];refine ak (cl) ?_;by_cases h0:L.c=0;rotate_left
 .rw[aF h0];simp only[go_sem,aG h0];exact an
 rw[ax (λq=>q h0)];have hb:=h h0;have cs:=Q4 m hb.sp;rw[Wf]at cs;have hsp:=hb.sp;simp only[da,bn]at cs;simp only[go_sem,ar h0];refine aL cs (by simp[go_sem]) rfl ?_;have k1:=TD m (I6 m) Wa (Rd hb.t).sm (by have:=hsp.ims;omega) (by have:=hsp.fs;omega);have k2:=LF m (I6 m) (ck2 m (I6 m)) (Rd hb.t) (by have:=hsp.gs;omega) hb.g (by have:=hsp.exs;omega);have k3:=Iy m (I6 m) (ck5 m (I6 m)) (by have:=hsp.els;omega) hb.e hb.d.1 hb.d.2 hb.c;generalize hsA:I6 m=s at*;have hty:tS s:=by rw[<-hsA];exact Rd hb.t
 simp only[go_sem];refine H9 k1 (by simp only[go_sem,Wa]) ?_;simp only[go_sem];refine H9 (F:=ck2 m s) k2 (by simp only[go_sem,ck2,ck1]) ?_;simp only[go_sem];refine H9 (F:=ck5 m s) k3 (by simp only[go_sem,ck5,ck4,ck3]) ?_;simp only[go_sem];refine Sn (s:=s) (F:=ck8 m s) hLeft hty (by have:=hsp.fs;omega) hb.f rfl (by simp only[go_sem,ck8,ck7,ck6]) (by simp only[go_sem,J8]) (by simp only[go_sem,Pe]) ?_;simp only[go_sem,ck9,J8,Pe];exact ac
def acD(hLeft:eS)(m:Md)(hm:Rx m)(h:(w9 B9 m).c=0->ckB m):ah pg vz [da m] (.bool ((Ea m).c==0)):=by
 refine au As ?_;have c:=Q6 hLeft m hm h;simp only[da,bn]at c;simp only[go_sem,As,da];refine aa (c) ?_;exact ac
end
open Go Go.Mw
def Ee{F:Fa}{p i l e:Int}(h:(lU F p i l e).c=0):F.c=0/\e=0:=by
 unfold lU at h;by_cases h1:F.c=0
 .by_cases h2:e=0
  .exact⟨h1,h2⟩
  .rw[aF ⟨h1,h2⟩]at h;exact absurd h h2
 .rw[ax (λq=>h1 q.1)]at h;exact absurd h h1
def V5{n:Int}:∀{l:List (Int×Int)}{i:Nat}{F:Fa},(kH n i l F).c=0->F.c=0/\∀r∈l,r.2=0
 | [],i,F,h=>⟨h,λr hr=>by cases hr⟩
 | r::l,i,F,h=>by
  rw[kH]at h;by_cases h1:F.c≠0
  .rw[aF h1]at h;exact absurd h h1
  rw[ax h1]at h;obtain⟨h2,h3⟩:=V5 h;obtain⟨h4,h5⟩:=Ee h2;refine⟨h4,λr' hr'=>?_⟩;rcases bp.1 hr' with rfl|q
  .exact h5
  .exact h3 r' q
def jV{n most imp:Int}{res:List (Int×Int)}{F:Fa}(h:(fg n most imp res F).c=0):F.c=0/\IntKind.i64.wrap ((res.length:Int)+imp)<=most/\∀r∈res,r.2=0:=by
 unfold fg at h;obtain⟨h1,h2⟩:=V5 h;by_cases h3:IntKind.i64.wrap ((res.length:Int)+imp)>most
 .rw[aF h3]at h1;exact absurd (Ee h1).2 (by decide)
 .rw[ax h3]at h1;exact⟨h1,by omega,h2⟩
def QC{P:a_->Bool}:∀{l:List a_}{i:Nat},(Fk P i l).2=0->∀x∈l,P x=true/\x.lb.length<=64
 | [],i,h,x,hx=>by cases hx
 | y::l,i,h,x,hx=>by
  rw[Fk]at h;by_cases h1:P y=false
  .rw[aF h1]at h;exact absurd h (show ¬(10:Int)=0 by decide)
  rw[ax h1]at h;by_cases h2:y.lb.length>64
  .rw[aF h2]at h;exact absurd h (show ¬(6:Int)=0 by decide)
  rw[ax h2]at h;rcases bp.1 hx with rfl|q
  .exact⟨by simpa using h1,by omega⟩
  .exact QC h x q
def Fj{P:a_->Bool}{l:List a_}(h:(li P l).2=0):l.length<=2048/\∀x∈l,P x=true/\x.lb.length<=64:=by
 unfold li at h;by_cases h1:l.length>2048
 .rw[aF h1]at h;exact absurd h (show ¬(6:Int)=0 by decide)
 rw[ax h1]at h;exact⟨by omega,QC h⟩
def Ko{P:a_->Bool}:∀{l:List (List a_)},(uM P l).2=0->∀x∈l,(li P x).2=0
 | [],h,x,hx=>by cases hx
 | y::l,h,x,hx=>by
  rw[uM]at h;by_cases h1:(li P y).2≠0
  .rw[aF h1]at h;exact absurd h h1
  rw[ax h1]at h;rcases bp.1 hx with rfl|q
  .exact Decidable.of_not_not h1
  .exact Ko h x q
def abi{P:a_->Bool}{x:El}(h:(Rt P x).2=0):x.it.length<=256/\∀l∈x.o::x.it,(li P l).2=0:=by
 unfold Rt at h;split at h
 .exact absurd h (show ¬(1:Int)=0 by decide)
 split at h
 .exact absurd h (show ¬(11:Int)=0 by decide)
 split at h
 .exact absurd h (show ¬(12:Int)=0 by decide)
 split at h
 .exact absurd h (show ¬(6:Int)=0 by decide)
 .exact⟨by omega,Ko h⟩
def abc{P:a_->Bool}{x:Da}(h:(Rs P x).2=0):(li P x.o).2=0:=by
 unfold Rs at h;split at h
 .exact absurd h (show ¬(1:Int)=0 by decide)
 split at h
 .exact absurd h (show ¬(11:Int)=0 by decide)
 split at h
 .exact absurd h (show ¬(6:Int)=0 by decide)
 .exact h
def abq{P:a_->Bool}{x:Gd}(h:(V3 P x).2=0):(li P x.i).2=0:=by
 unfold V3 at h;split at h
 .rename_i q;exact absurd h q
 .exact h
def aa4{x:Cd}(h:Sr x=0):x.lo.length<=64:=by
 unfold Sr at h;split at h
 .exact absurd h (by decide)
 split at h
 .exact absurd h (by decide)
 .omega
def abm{x:Ft}(h:SH x=0):x.ps.length<=8/\x.rs.length<=8:=by
 unfold SH at h;split at h
 .exact absurd h (by decide)
 .omega
def Xm(m:Md)(hm:Rx m)(h:(w9 B9 m).c=0):ckB m:=by
 unfold w9 at h;by_cases h11:(Be B9 m).c=0;rotate_left
 .rw[ax h11]at h;exact absurd h h11
 rw[aF h11]at h;obtain⟨_,_,r12⟩:=jV h;obtain⟨h10,l11,r11⟩:=jV h11;obtain⟨h9,l10,r10⟩:=jV h10;obtain⟨h8,l9,r9⟩:=jV h9;have h7:(Wb B9 m).c=0:=by
  unfold Rv at h8;split at h8
  .exact(Ee h8).1
  .exact h8
 obtain⟨h6,l7,r7⟩:=jV h7;obtain⟨h5,l6,r6⟩:=jV h6;obtain⟨h4,l5,r5⟩:=jV h5;obtain⟨h3,l4,r4⟩:=jV h4;obtain⟨h2,l3,r3⟩:=jV h3;obtain⟨h1,l2,r2⟩:=jV h2;obtain⟨h0,l1,r1⟩:=jV h1;simp only[bP]at l1 l2 l3 l4 l5 l6 l7 l9 l10 l11;have c0:=ly 0 m.ims;have c1:=ly 1 m.ims;have c2:=ly 2 m.ims;have c3:=ly 3 m.ims;have b1:=hm.ts.1;have b2:=hm.ims;have b3:=hm.fs.1;have b4:=hm.tbs;have b5:=hm.ms;have b6:=hm.gs.1;have b7:=hm.exs;have b9:=hm.els.1;have b10:=hm.ds.1;have b11:=hm.cs.1;rw[wi (by omega) (by omega)]at l1 l2 l3 l4 l5 l6 l7 l9 l10 l11;have e1:∀x∈m.ts,x.ps.length<=8/\x.rs.length<=8:=λx hx=>abm (r1 (0,SH x) (dN.2 ⟨x,hx,rfl⟩));have e3:∀x∈m.fs,x.lo.length<=64:=λx hx=>aa4 (r3 (0,Sr x) (dN.2 ⟨x,hx,rfl⟩));have e6:∀x∈m.gs,x.i.length<=2048:=λx hx=>(Fj (abq (r6 (V3 B9 x) (dN.2 ⟨x,hx,rfl⟩)))).1;have e9:∀x∈m.els,x.it.length<=256/\∀l∈x.o::x.it,l.length<=2048:=λx hx=>by
  obtain⟨q1,q2⟩:=abi (r9 (Rt B9 x) (dN.2 ⟨x,hx,rfl⟩));exact⟨q1,λl hl=>(Fj (q2 l hl)).1⟩
 have e10:∀x∈m.ds,x.o.length<=2048:=λx hx=>(Fj (abc (r10 (Rs B9 x) (dN.2 ⟨x,hx,rfl⟩)))).1;have e12:∀x∈m.fs,x.b.length<=2048/\∀y∈x.b,B9 y=true/\y.lb.length<=64:=λx hx=>Fj (r12 (li B9 x.b) (dN.2 ⟨x,hx,rfl⟩));refine⟨⟨by omega,by omega,by omega,by omega,by omega,by omega,by omega,by omega,λg hg=>?_,λe he=>?_,λx hx=>?_⟩,λx hx=>?_,λf hf=>?_,λg hg=>?_,λe he=>?_,⟨by omega,λd hd=>?_⟩,by omega⟩
 .have:=e6 g hg;omega
 .obtain⟨q1,q2⟩:=e9 e he;exact⟨by omega,λl hl=>by have:=q2 l (List.mem_cons_of_mem _ hl);omega⟩
 .have:=e1 x hx;omega
 .have:=e1 x hx;omega
 .exact⟨e3 f hf,(e12 f hf).1,λy hy=>⟨((hm.fs.2 f hf).2).2 y hy,((e12 f hf).2 y hy).2⟩⟩
 .have:=e6 g hg;omega
 .obtain⟨q1,q2⟩:=e9 e he;exact⟨by have:=q2 e.o List.mem_cons_self;omega,by omega,λl hl=>by have:=q2 l (List.mem_cons_of_mem _ hl);omega⟩
 .have:=e10 d hd;omega
def aey(hLeft:eS)(m:Md)(hm:Rx m):ah pg vz [da m] (.bool ((Ea m).c==0)):=acD hLeft m hm (Xm m hm)
def Pm:eS:=λS l h1 h2 h3=>Fq (QT S l h1 h2 h3) rfl (λx hx=>by
 rw[eF.1 hx];rfl)
def acP(m:Md)(hm:Rx m):ah pg vz [da m] (.bool ((Ea m).c==0)):=aey Pm m hm
def BS{B:Nat}(hB:B<=140737488355328){l:List a_}(h:bL D1 B l):I5 l:=⟨by have:=h.1;omega,λx hx=>⟨by have:=(h.2 x hx).2.1.1;omega,by have:=(h.2 x hx).2.2.1;omega,(h.2 x hx).1.1⟩⟩
def acG{B:Nat}(hB:B<=140737488355328){m:Md}(hm:NG B m):Rx m:=by
 obtain⟨b1,b2,b3,b4,b5,b6,b7,b8,b9,b10⟩:=hm;exact⟨⟨cZ b1.1 hB,λx hx=>⟨by have:=(b1.2 x hx).1.1;omega,by have:=(b1.2 x hx).2.1;omega⟩⟩,cZ b2.1 hB,⟨cZ b3.1 hB,λx hx=>⟨by have:=(b3.2 x hx).1.1;omega,BS hB (b3.2 x hx).2⟩⟩,cZ b4.1 hB,cZ b5.1 hB,⟨cZ b6.1 hB,λx hx=>BS hB (b6.2 x hx)⟩,cZ b7.1 hB,⟨cZ b8.1 hB,λx hx=>⟨BS hB (b8.2 x hx).1,cZ (b8.2 x hx).2.1 hB,λl hl=>BS hB ((b8.2 x hx).2.2 l hl)⟩⟩,⟨cZ b9.1 hB,λx hx=>⟨BS hB (b9.2 x hx).1,by have:=(b9.2 x hx).2.1;omega⟩⟩,⟨cZ b10.1 hB,λx hx=>by have:=(b10.2 x hx).2.1;show x.b.length<=_;omega⟩⟩
section
def nC:List a_:=[⟨11,0,0,0,0,0,0,[],[]⟩]
def bJ:Md:=⟨[⟨[],[]⟩,⟨[],[]⟩],[],[⟨0,[],nC⟩,⟨1,[],nC⟩],[],[],[],[⟨[102],0,1⟩],false,0,[],[],[]⟩
def I0:List AV:=[.sl 2 [[.nl,.nl],[.nl,.nl]],.nl,.sl 3 [[.int .i64 0,.nl,.sl 9 [[.int .i64 11,.int .i64 0,.int .i64 0,.int .u64 0,.int .i64 0,.int .i64 0,.int .i64 0,.nl,.nl]]],[.int .i64 1,.nl,.sl 9 [[.int .i64 11,.int .i64 0,.int .i64 0,.int .u64 0,.int .i64 0,.int .i64 0,.int .i64 0,.nl,.nl]]]],.nl,.nl,.nl,.sl 3 [[.str [102],.int .i64 0,.int .i64 1]],.bool false,.int .i64 0,.nl,.nl,.nl]
attribute[local go_sem] bP bn
def VD:ah pg GL [] (.agg I0):=by
 refine au yV ?_;simp only[go_sem,yV];refine⟨_,Wk.frzs [3,6] _,?_⟩;simp only[go_sem,LZ];exact aE [11,13] (by simp only[go_sem];try rfl) (by simp[I0,go_sem])
end
def Wi:Nd (.sl 9 [[.int .i64 11,.int .i64 0,.int .i64 0,.int .u64 0,.int .i64 0,.int .i64 0,.int .i64 0,.nl,.nl]]) (.sl 9 (nC.map bH)):=EU ⟨⟨.rfl _,.rfl _,.rfl _,.rfl _,.rfl _,.rfl _,.rfl _,.nl _,.nl _,trivial⟩,trivial⟩
def PX:nld (.agg I0) (da bJ):=.inr ⟨_,_,rfl,rfl,EU ⟨⟨.nl _,.nl _,trivial⟩,⟨.nl _,.nl _,trivial⟩,trivial⟩,.nl _,EU ⟨⟨.rfl _,.nl _,Wi,trivial⟩,⟨.rfl _,.nl _,Wi,trivial⟩,trivial⟩,.nl _,.nl _,.nl _,.rfl _,.rfl _,.rfl _,.nl _,.nl _,.nl _,trivial⟩
def VS:(Ea bJ).c=0:=by kernel_rfl
def Wy:Rx bJ:=⟨⟨by decide,λx hx=>by
  simp only[bJ,bp,bZ,or_false]at hx;rcases hx with rfl|rfl<;>exact⟨by decide,by decide⟩⟩,by decide,⟨by decide,λx hx=>by
  simp only[bJ,bp,bZ,or_false]at hx
  rcases hx with rfl|rfl<;>exact⟨by decide,by decide,λy hy=>by
   simp only[nC,eF]at hy;subst hy;exact⟨by simp,by simp,by decide⟩⟩⟩,by decide,by decide,⟨by decide,λx h=>by cases h⟩,by decide,⟨by decide,λx h=>by cases h⟩,⟨by decide,λx h=>by cases h⟩,⟨by decide,λx h=>by cases h⟩⟩
section
def VT:cpM bJ:=⟨⟨by decide,λx hx=>by
  simp only[bJ,bp,bZ,or_false]at hx;rcases hx with rfl|rfl<;>exact⟨by decide,by decide⟩⟩,by decide,⟨by decide,λx hx=>by
  simp only[bJ,bp,bZ,or_false]at hx
  rcases hx with rfl|rfl<;>exact⟨by decide,by decide,λy hy=>by
   simp only[nC,eF]at hy;subst hy;exact⟨by simp,by simp,by decide⟩⟩⟩,by decide,by decide,⟨by decide,λx h=>by cases h⟩,by decide,⟨by decide,λx h=>by cases h⟩,⟨by decide,λx h=>by cases h⟩,⟨by decide,λx h=>by cases h⟩⟩
def acN:bJ.ts=[⟨[],[]⟩,⟨[],[]⟩]:=rfl
def qG:Md:={bJ with ts:=[⟨[],[]⟩],fs:=[⟨0,[],nC⟩,⟨0,[],nC⟩]}
def Jc:Nat->List Ft
 | 0=>[]
 | _=>[⟨[],[]⟩]
def Fw:Nat->List (AV×AV)
 | 0=>[]
 | 1=>[(.int .i64 0,.int .i64 0)]
 | _=>[(.int .i64 0,.int .i64 0),(.int .i64 1,.int .i64 0)]
def In:Nat->List Cd
 | 2=>[⟨0,[],nC⟩,⟨0,[],nC⟩]
 | _=>[⟨0,[],nC⟩,⟨1,[],nC⟩]
def ZT(id row:Nat)(t:TypeId)(l:List Cd)(v:Int):DN id 1 3 row 0 (some ⟨t,3,l.map pt,false⟩) (some [.int .i64 v])=if row<l.length then some (.put id ⟨t,3,(l.set row {ap l row with t:=v}).map pt,false⟩)else none :=
 sG id 1 3 row 0 t pt l [.int .i64 v] (λc=>{c with t:=v}) rfl rfl (λx=>by simp[cj]) (λx=>rfl)
def Uc(es:List (AV×AV)):aj:=@aj.mk 0 0 [] false (.mp es)
def PR(es:List (AV×AV)):Uc es = @aj.mk 0 0 [] false (.mp es):=rfl
def z58:aj:=⟨33,12,[[.nl,.nl,.nl,.nl,.nl,.nl,.nl,.bool false,.int .i64 0,.nl,.nl,.nl]],true⟩
def WP:z58 =⟨33,12,[[.nl,.nl,.nl,.nl,.nl,.nl,.nl,.bool false,.int .i64 0,.nl,.nl,.nl]],true⟩:=rfl
attribute[local go_sem] bP bn cj aU IE PR WP nO
def abD(es:List (AV×AV)):Idl qE [.fm es] nC where
 lt:=by decide
 hb:=by kernel_rfl
 c x hx:=by
  simp only[nC,eF]at hx;subst hx;refine au qj ?_;simp only[go_sem,qj,bH,show((11:Int)==17)=false from rfl,show((0:Int)==2)=false from rfl];exact Mw.Fd [] (by simp only[go_sem]) rfl
def abC(es:List (AV×AV)):Idl qB [.fm es] nC where
 lt:=by decide
 hb:=by kernel_rfl
 c x hx:=by
  simp only[nC,eF]at hx;subst hx;refine au qh ?_;simp only[go_sem,qh,bH,show((11:Int)==16)=false from rfl,show((11:Int)==210)=false from rfl];exact Mw.Fd [] (by simp only[go_sem]) rfl
def My:ah pg CE [da bJ] (da qG):=by
 refine au uw ?_;have c:=Kt bJ VT (by decide);have ok:=acP bJ Wy;rw[VS]at ok;simp only[da,bn]at c ok;simp only[go_sem,uw,da];refine gz c [901,18] (by simp[go_sem]) (by simp[go_sem]) (by simp[go_sem]) ?_;simp only[go_sem];refine aa (ok) ?_;refine ao (λj:Nat=>⟨[(25,.int .i64 j),(24,.int .i64 2),(23,.sl 2 (bJ.ts.map kz)),(5,.ms 900 2 0 (Jc j).length),(4,.mp 4 1 0 0),(3,.mp 3 12 0 0),(2,.mp 2 12 0 0)],[(2,z58),(3,⟨33,12,[LS bJ 901 18],true⟩),(4,⟨66,1,[[.mm 21 true]],true⟩),(21,Uc (Fw j)),(900,⟨68,2,(Jc j).map kz,false⟩),(901,⟨44,3,bJ.fs.map pt,false⟩),(18,rM bJ)]⟩) (λj=>j<=2) (λj=>2-j) 0 (cR _) ((Wk.nil _ 5 900 2 68 (by simp only[go_sem]) (.inl (by decide))).trans (Wk.of ?_ ?_)) ?_
 .simp only[go_sem,St.mknil];try simp[go_sem,Jc,acN]
 .simp only[go_sem,St.mknil];try simp[go_sem,Jc]
  rfl
 intro j hj;replace hj:j<=2:=hj;have lt:bJ.ts.length=2:=rfl;have t0:Jc 0=[]:=rfl;have t1:Jc 1=[⟨[],[]⟩]:=rfl;have t2:Jc 2=[⟨[],[]⟩]:=rfl;have q0:Fw 0=[]:=rfl;have q1:Fw 1=[(.int .i64 0,.int .i64 0)]:=rfl;have q2:Fw 2=[(.int .i64 0,.int .i64 0),(.int .i64 1,.int .i64 0)]:=rfl;have zz:=aC (show ¬(0:Int)<((0:Nat):Int)by omega);rcases(by omega:j=0\/j=1\/j=2)with rfl|rfl|rfl
 .have n0:ap bJ.ts 0 =⟨[],[]⟩:=rfl;have lk:∀K:AV->aW->Prop,GB K true (.int .i64 0) [] (dq .i (.int .i64 ((0:Nat):Int)) [])=K (.tup [.int .i64 0,.bool false]) .no:=λK=>rfl;simp only[go_sem,aw (show((0:Nat):Int)<2 by omega),lt,n0,t0,q0,iN,eL];refine⟨by omega,by omega,?_⟩;refine ao (λ_:Unit=>_) (λ_=>True) (λ_=>0) () trivial (Wk.refl _) (λ_ _=>?_);simp only[go_sem,zz,lk];refine⟨rfl,rfl,[(.int .i64 0,.int .i64 0)],rfl,?_⟩;simp only[go_sem,n8];refine ay 1 (show 1<=2 by omega) (show 2-1<2-0 by omega) (Wk.of ?_ ?_)
  .simp only[go_sem,t1,show IntKind.i64.wrap (((0:Nat):Int)+1)=((1:Nat):Int) from rfl];try simp
  .simp only[go_sem,t1,q1];try simp
   try rfl
 .have n1:ap bJ.ts 1 =⟨[],[]⟩:=rfl;have m1:ap ([⟨[],[]⟩]:List Ft) 0 =⟨[],[]⟩:=rfl;have c:=ad5 ⟨[],[]⟩ ⟨[],[]⟩ ⟨by decide,by decide⟩;rw[aw rfl]at c;simp only[go_sem]at c;have lk:∀K:AV->aW->Prop,GB K true (.int .i64 0) [(.int .i64 0,.int .i64 0),(.int .i64 1,.int .i64 0)] (dq .i (.int .i64 ((1:Nat):Int)) [(.int .i64 0,.int .i64 0),(.int .i64 1,.int .i64 0)])=K (.tup [.int .i64 0,.bool true]) .no:=λK=>rfl;simp only[go_sem,aw (show((1:Nat):Int)<2 by omega),lt,n1,t1,q1,pq];refine⟨by omega,by omega,?_⟩;refine ao (λ_:Unit=>_) (λ_=>True) (λ_=>0) () trivial (Wk.refl _) (λ_ _=>?_);simp only[go_sem,aw (show(0:Int)<((1:Nat):Int)by omega)];refine⟨⟨by omega,by omega⟩,?_⟩;refine aa (c) ?_;refine⟨rfl,rfl,[(.int .i64 0,.int .i64 0),(.int .i64 1,.int .i64 0)],rfl,?_⟩;simp only[go_sem,lk];refine ay 2 (show 2<=2 by omega) (show 2-2<2-1 by omega) (Wk.of ?_ ?_)
  .simp only[go_sem,t2,show IntKind.i64.wrap (((1:Nat):Int)+1)=((2:Nat):Int) from rfl];try simp
  .simp only[go_sem,t2,q2];try simp
   try rfl
 have im0:bJ.ims=[]:=rfl;simp only[go_sem,aC (show ¬((2:Nat):Int)<2 by omega),lt,t2,q2,im0,eL,iN];refine ao (λ_:Unit=>_) (λ_=>True) (λ_=>0) () trivial (Wk.refl _) (λ_ _=>?_);simp only[go_sem,zz];refine ao (λj:Nat=>⟨[(87,.int .i64 j),(86,.int .i64 2),(4,.mp 4 1 0 0),(3,.mp 3 12 0 0),(2,.mp 2 12 0 0)],[(2,z58),(3,⟨33,12,[LS qG 901 18],true⟩),(4,⟨66,1,[[.mm 21 true]],true⟩),(21,Uc (Fw 2)),(901,⟨44,3,(In j).map pt,false⟩),(18,rM bJ)]⟩) (λj=>j<=2) (λj=>2-j) 0 (cR _) ((Wk.frzs [900] _).trans (Wk.of ?_ ?_)) ?_
 .simp only[go_sem];try simp
  try rfl
 .simp only[go_sem];try simp
  repeat' (first|rfl|apply And.intro)
 intro j hj;replace hj:j<=2:=hj;have lk:∀(K:AV->aW->Prop)(n:Nat),n<=1->GB K false (.int .i64 0) (Fw 2) (dq .i (.int .i64 (n:Int)) (Fw 2))=K (.int .i64 0) .no:=λK n hn=>by
  rcases(by omega:n=0\/n=1)with rfl|rfl<;>rfl
 have lf:qG.fs.length=2:=rfl;have hfl:∀j,(In j).length=2:=λj=>by unfold In;split<;>rfl
 by_cases h1:((j:Nat):Int)<2
 .have hty:∃n:Nat,n<=1/\(ap (In j) j).t=(n:Int):=by
   rcases(by omega:j=0\/j=1)with rfl|rfl
   .exact⟨0,by omega,rfl⟩
   .exact⟨1,by omega,rfl⟩
  obtain⟨n,hn,ht⟩:=hty;have hst:(In j).set j {ap (In j) j with t:=0}=In (j+1):=by
   rcases(by omega:j=0\/j=1)with rfl|rfl<;>rfl
  have e8:IntKind.i64.wrap ((j:Int)+1)=((j+1:Nat):Int):=by rw[wi (by omega) (by omega)];omega
  have lk2:=λK=>lk K n hn;simp only[go_sem,aw h1,lf,ht,ZT,cY,hst,hfl,lk2];refine⟨⟨by omega,by omega⟩,by omega,⟨by omega,by omega⟩,by omega,ay (j+1) (show j+1<=2 by omega) (show 2-(j+1)<2-j by omega) (Wk.of ?_ ?_)⟩
  .simp only[go_sem,e8];try simp
  .simp only[go_sem];try simp
   repeat' (first|rfl|apply And.intro)
 obtain rfl:j=2:=by omega
 have ct:=HC (g:=qE) (cs:=[.fm (Fw 2)]) qG (λx hx=>by
  simp only[qG,bp,bZ,or_false]at hx;rcases hx with rfl|rfl<;>exact⟨abD _,by decide⟩) (by decide) rfl rfl rfl
 simp only[go_sem,aC h1];refine bA (eZ.frzs [21,901] _ _) ?_;simp only[go_sem];refine bA (eZ.unrec _ _ 4 (t:=66) (st:=1) (r:=[.fm (Fw 2)]) (by rfl) (λx hx=>by rw[eF.1 hx];exact⟨rfl,rfl⟩)) ?_;refine bA (eZ.frzs [4] _ _) ?_;simp only[go_sem];refine ey (σ2:=[(3,xc qG 18),(18,rM qG)]) (σ3:=[(3,xc qG 18),(18,rM qG)]) (r3:=.tup []) ct [(1000,3),(1001,18)] [18] rfl rfl rfl rfl (λp hp=>?_) (λp hp=>?_) (λp hp=>?_) ?_
 .simp only[bp,bZ,or_false]at hp;rcases hp with rfl|rfl
  .simp only[go_sem];rfl
  .simp only[go_sem];rfl
 .simp only[bp,bZ,or_false]at hp;rcases hp with rfl|rfl
  .exact .inl ⟨⟨show 1000<=1000 by decide,show 1000<2000 by decide⟩,rfl⟩
  .exact .inr ⟨by simp,.inl (show 18<1000 by decide),.inl rfl⟩
 .simp only[bp,bZ,or_false]at hp;rcases hp with rfl|rfl<;>rfl
 simp only[go_sem,kJ,kK];refine aE [18] ?_ rfl;simp only[go_sem,aN];rw[gN (by simp)]
end
section
def Rc:Ry bJ:=⟨by decide,by decide,by decide,by decide,by decide,by decide,by decide,by decide,λx hx=>(by cases hx),λx hx=>(by cases hx),by decide⟩
def Wt:ZG bJ:=⟨by decide,by decide,by decide,λx hx=>(by cases hx),λx hx=>(by cases hx),by decide⟩
def WO:waB (gj 0 bJ.ims) bJ:=⟨by decide,λx hx=>(by
  simp only[bJ,bp,bZ,or_false]at hx;rcases hx with rfl|rfl<;>decide),by decide⟩
def Qt:yG (gj 0 bJ.ims) (lT bJ) (fZ bJ)=[false,true]:=by
 have h:=xy (f:=gj 0 bJ.ims) (bs:=lT bJ) (rt:=fZ bJ) 10 _ _ CY.start (by decide);have e:Qs (gj 0 bJ.ims) (lT bJ) 10 (List.range (gj 0 bJ.ims)) (fZ bJ)=[1]:=by decide
 rw[e]at h;have h0:¬DT (gj 0 bJ.ims) (lT bJ) (fZ bJ) 0:=λq=>by have:=(h 0).2 q;simp at this
 have h1:DT (gj 0 bJ.ims) (lT bJ) (fZ bJ) 1:=(h 1).1 (by simp);unfold yG;have l:gj 0 bJ.ims+(lT bJ).length=2:=by decide
 simp[l,show List.range 2=[0,1] from rfl,h0,h1]
def Lj:Nat->List Cd
 | 2=>[⟨1,[],nC⟩]
 | _=>[]
def Gb:Nat->List (AV×AV)
 | 2=>[(.int .i64 1,.int .i64 0)]
 | _=>[]
def ZU(id row:Nat)(t:TypeId)(l:List Ex)(v:Int):DN id 1 3 row 2 (some ⟨t,3,l.map x_,false⟩) (some [.int .i64 v])=if row<l.length then some (.put id ⟨t,3,(l.set row {ap l row with i:=v}).map x_,false⟩)else none :=
 sG id 1 3 row 2 t x_ l [.int .i64 v] (λc=>{c with i:=v}) rfl rfl (λx=>by simp[df]) (λx=>rfl)
def ML:Nat->List Ex
 | 0=>[⟨[102],0,1⟩]
 | _=>[⟨[102],0,0⟩]
def xd:Md:={bJ with fs:=[⟨1,[],nC⟩]}
def AY:Md:={bJ with fs:=[⟨1,[],nC⟩],exs:=[⟨[102],0,0⟩]}
attribute[local go_sem] bP bn cj df IE PR WP nO
def Mm:ah pg CC [da bJ] (da AY):=by
 refine au ut ?_;have c:=Kt bJ VT (by decide);have ok:=acP bJ Wy;rw[VS]at ok;have co:=ZK bJ rfl;have cr:=BP bJ Rc Wt WO;rw[Qt]at cr;obtain⟨L,hL⟩:∃L,L=[false,true]:=⟨_,rfl⟩
 rw[<-hL]at cr;have hLl:L.length=2:=by rw[hL];rfl
 have ci:=vK bJ Rc;rw[OL,show gj 0 bJ.ims=0 from rfl]at ci;simp only[da,bn]at c ok co cr ci;simp only[go_sem,ut,da];refine gz c [901,18] (by simp[go_sem]) (by simp[go_sem]) (by simp[go_sem]) ?_;simp only[go_sem];refine aa (ok) ?_;refine aa (co) ?_;refine aL cr (by simp[go_sem]) rfl ?_;simp only[go_sem];refine ak (ci) ?_;simp only[go_sem,hLl];refine ao (λj:Nat=>⟨[(36,.int .i64 j),(35,.int .i64 2),(34,.sl 1 (L.map rt)),(10,.ms 900 3 0 (Lj j).length),(9,.mp 9 1 0 0),(8,.int .i64 0),(6,.int .i64 0),(5,.bool false),(3,.mp 3 12 0 0),(2,.mp 2 12 0 0)],[(2,z58),(3,⟨33,12,[LS bJ 901 18],true⟩),(9,⟨66,1,[[.mm 33 true]],true⟩),(33,Uc (Gb j)),(900,⟨44,3,(Lj j).map pt,false⟩),(901,⟨44,3,bJ.fs.map pt,false⟩),(18,rM bJ)]⟩) (λj=>j<=2) (λj=>2-j) 0 (cR _) ((Wk.nil _ 10 900 3 44 (by simp only[go_sem]) (.inl (by decide))).trans (Wk.of ?_ ?_)) ?_
 .simp only[go_sem,St.mknil];try simp[go_sem,Lj]
 .simp only[go_sem,St.mknil];try simp[go_sem,Lj]
  repeat' (first|rfl|apply And.intro)
 intro j hj;replace hj:j<=2:=hj;have t1:Lj 1=[]:=rfl;have q1:Gb 1=[]:=rfl;have t2:Lj 2=[⟨1,[],nC⟩]:=rfl;have q2:Gb 2=[(.int .i64 1,.int .i64 0)]:=rfl;have lf:bJ.fs.length=2:=rfl;rcases(by omega:j=0\/j=1\/j=2)with rfl|rfl|rfl
 .simp only[go_sem,aw (show((0:Nat):Int)<2 by omega),hLl,show ap L 0=false by rw[hL];rfl,rt];refine⟨by omega,by omega,ay 1 (show 1<=2 by omega) (show 2-1<2-0 by omega) (Wk.of ?_ ?_)⟩
  .simp only[go_sem,t1,show IntKind.i64.wrap (((0:Nat):Int)+1)=((1:Nat):Int) from rfl];try simp
   try rfl
  .simp only[go_sem,t1,q1];try simp
   repeat' (first|rfl|apply And.intro)
 .have n1:ap bJ.fs 1 =⟨1,[],nC⟩:=rfl;simp only[go_sem,aw (show((1:Nat):Int)<2 by omega),hLl,show ap L 1=true by rw[hL];rfl,rt,t1,q1,aw (show((1:Nat):Int)>=0 by omega),show IntKind.i64.wrap (((1:Nat):Int)-0)=((1:Nat):Int) from rfl,n1,lf,iN,eL];refine⟨by omega,by omega,rfl,rfl,[(.int .i64 1,.int .i64 0)],rfl,?_⟩;simp only[go_sem,n8];refine⟨⟨by omega,by omega⟩,ay 2 (show 2<=2 by omega) (show 2-2<2-1 by omega) (Wk.of ?_ ?_)⟩
  .simp only[go_sem,t2,show IntKind.i64.wrap (((1:Nat):Int)+1)=((2:Nat):Int) from rfl];try simp
  .simp only[go_sem,t2,q2];try simp
   repeat' (first|rfl|apply And.intro)
 have ct:=HC (g:=qB) (cs:=[.fm (Gb 2)]) xd (λx hx=>by
  simp only[xd,eF]at hx;subst hx;exact⟨abC _,by decide⟩) (by decide) rfl rfl rfl
 simp only[go_sem,aC (show ¬((2:Nat):Int)<2 by omega),hLl];refine bA (eZ.frzs [33,900,901] _ _) ?_;simp only[go_sem];refine bA (eZ.unrec _ _ 9 (t:=66) (st:=1) (r:=[.fm (Gb 2)]) (by rfl) (λx hx=>by rw[eF.1 hx];exact⟨rfl,rfl⟩)) ?_;refine bA (eZ.frzs [9] _ _) ?_;simp only[go_sem];refine ey (σ2:=[(3,xc xd 18),(18,rM xd)]) (σ3:=[(3,xc xd 18),(18,rM xd)]) (r3:=.tup []) ct [(1000,3),(1001,18)] [18] rfl rfl rfl rfl (λp hp=>?_) (λp hp=>?_) (λp hp=>?_) ?_
 .simp only[bp,bZ,or_false]at hp;rcases hp with rfl|rfl
  .simp only[go_sem];rfl
  .simp only[go_sem];rfl
 .simp only[bp,bZ,or_false]at hp;rcases hp with rfl|rfl
  .exact .inl ⟨⟨show 1000<=1000 by decide,show 1000<2000 by decide⟩,rfl⟩
  .exact .inr ⟨by simp,.inl (show 18<1000 by decide),.inl rfl⟩
 .simp only[bp,bZ,or_false]at hp;rcases hp with rfl|rfl<;>rfl
 have lx:xd.exs.length=1:=rfl;simp only[go_sem,kJ,kK,lx];refine ao (λj:Nat=>⟨[(68,.int .i64 j),(67,.int .i64 1),(66,.ms 18 3 0 1),(9,.ip [.fm (Gb 2)]),(5,.bool false),(3,.mp 3 12 0 0),(2,.mp 2 12 0 0)],[(2,z58),(3,xc xd 18),(18,⟨48,3,(ML j).map x_,false⟩)]⟩) (λj=>j<=1) (λj=>1-j) 0 (cR _) (Wk.of ?_ ?_) ?_
 .simp only[go_sem];try simp
 .simp only[go_sem]
  repeat' (first|rfl|apply And.intro)
 intro j hj;replace hj:j<=1:=hj;have x1:ML 1=(ML 0).set 0 {ap (ML 0) 0 with i:=0}:=rfl;have n0:ap (ML 0) 0 =⟨[102],0,1⟩:=rfl;have l0:(ML 0).length=1:=rfl;rcases(by omega:j=0\/j=1)with rfl|rfl
 .have lk:∀K:AV->aW->Prop,GB K false (.int .i64 0) (Gb 2) (dq .i (.int .i64 1) (Gb 2))=K (.int .i64 0) .no:=λK=>rfl;simp only[go_sem,aw (show((0:Nat):Int)<1 by omega),kJ,kK,n0,l0,lk,lx,ZU,show((0:Int)==0)=true from rfl];refine⟨⟨by omega,by omega⟩,⟨by omega,by omega⟩,ay 1 (aN 1) (show 1-1<1-0 by omega) (Wk.of ?_ ?_)⟩
  .simp only[go_sem,show IntKind.i64.wrap (((0:Nat):Int)+1)=((1:Nat):Int) from rfl];try simp
  .simp only[go_sem,x1]
   repeat' (first|rfl|apply And.intro)
 have hs0:xd.hs=false:=rfl;have cm:=Mn AY rfl;simp only[go_sem]at cm;simp only[go_sem,aC (show ¬((1:Nat):Int)<1 by omega),kJ,kK,hs0];refine bA (eZ.frzs [18] _ _) ?_
 refine bA (eZ.unrec _ _ 3 (t:=33) (st:=12) (r:=mI AY) (by rfl) (λx hx=>by
  simp only[bn,bp,bZ,or_false]at hx;rcases hx with rfl|rfl|rfl|rfl|rfl|rfl|rfl|rfl|rfl|rfl|rfl|rfl<;>exact⟨rfl,rfl⟩)) ?_
 refine bA (eZ.frzs [3] _ _) ?_;simp only[go_sem];refine aa (cm) ?_;exact aE [] (by simp only[go_sem]) rfl
