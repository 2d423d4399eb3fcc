import Derived.Test.YthhglklcaodfmaaGreatDoorCQm
set_option linter.all false
set_option maxRecDepth 100000
set_option maxHeartbeats 40000000
namespace Go.Proofs.YthhglklcaodfmaaGreatDoor
section
open Go Go.Mw
def HH(p:Int×Bool):List AV:=[.int .i64 p.1,.bool p.2]
def afR(p:Int×Bool):HH p=[.int .i64 p.1,.bool p.2]:=rfl
def MN(n m:Nat)(ov:Bool):au:=⟨228,3,[[.ms 2001 1 0 n,.ms 2002 2 0 m,.bool ov]],true⟩
def P7(l:List Int):au:=⟨48,1,l.map aS,false⟩
def P6(l:List (Int×Bool)):au:=⟨260,2,l.map HH,false⟩
def zY(n m:Nat)(ov:Bool):MN n m ov =⟨228,3,[[.ms 2001 1 0 n,.ms 2002 2 0 m,.bool ov]],true⟩:=rfl
def zZ(l:List Int):P7 l =⟨48,1,l.map aS,false⟩:=rfl
def zX(l:List (Int×Bool)):P6 l =⟨260,2,l.map HH,false⟩:=rfl
def mi(S:Sk):List (Nat×au):=[(1001,MN S.all.length (cu (S.t::S.u)).length S.ov),(2001,P7 S.all),(2002,P6 (cu (S.t::S.u)))]
def zW(S:Sk):mi S=[(1001,MN S.all.length (cu (S.t::S.u)).length S.ov),(2001,P7 S.all),(2002,P6 (cu (S.t::S.u)))]:=rfl
def J6(S:Sk):AV:=.ip [.sl 1 (S.all.map aS),.sl 2 ((cu (S.t::S.u)).map HH),.bool S.ov]
def qx(S:Sk):J6 S = .ip [.sl 1 (S.all.map aS),.sl 2 ((cu (S.t::S.u)).map HH),.bool S.ov]:=rfl
def P3(id:Nat):Prop:=1000<=id/\id<2000
def MR(f:FuncId)(rest:List AV)(S:Sk)(r:AV)(S':Sk):Prop:=bA pg f (.mp 1001 3 0 0::rest) (mi S) P3 (λr' σ'=>r'=r/\σ'=mi S')
def dw:∀l:List Sg,(cu l).length=l.length
 | []=>rfl
 | g::r=>by rw[cu,dN,dw r];rfl
def jj(S:Sk):S.all=bI S.u++S.t.l:=rfl
def akT(i:Nat)(o:au)(x:AV)(hx:jc x=[]):qZ i o x=x:=by cases x<;>first|rfl|(simp[jc]at hx)
def Zu{f:AV->List Nat}{r:AV->AV}(hh:∀x,f x=[]->r x=x):∀l:List AV,l.flatMap f=[]->l.map r=l
 | [],_=>rfl
 | y::l,hl=>by
  simp only[yA,List.append_eq_nil_iff]at hl;simp only[cM,hh y hl.1,Zu hh l hl.2]
def aig(i:Nat)(o:au)(x:AV)(hx:iu x=[]):x2 i o x=x:=by
 cases x with
 | fn f caps=>simp only[x2,Zu (akT i o) caps hx]
 | _=>first|rfl|(simp[iu,jc]at hx)
def aeq(i:Nat)(o:au)(x:AV)(hx:kx x=[]):DM i o x=x:=by
 cases x with
 | agg cells=>simp only[DM,Zu (aig i o) cells hx]
 | fn f caps=>exact aig i o (.fn f caps) hx
 | _=>first|rfl|(simp[kx,iu,jc]at hx)
def akU(i:Nat)(o:au)(x:AV)(hx:aV x=[]):vN i o x=x:=by
 cases x with
 | tup vs=>simp only[vN,Zu (aeq i o) vs hx]
 | agg cells=>exact aeq i o (.agg cells) hx
 | fn f caps=>exact aeq i o (.fn f caps) hx
 | _=>first|rfl|(simp[aV,kx,iu,jc]at hx)
def acn:∀(fs:List Nat)(s:St)(x:AV),aV x=[]->sB fs s x=x
 | [],_,_,_=>rfl
 | i::r,s,x,hx=>by
  have h1:frz1 s i x=x:=by
   unfold frz1;split
   .split
    .rfl
    .exact akU _ _ x hx
   .rfl
  rw[sB,h1,acn r _ x hx]
def vG(fs:List Nat)(s:St):∀l:List AV,(∀x∈l,aV x=[])->l.map (sB fs s)=l
 | [],_=>rfl
 | x::l,h=>by rw[cM,acn fs s x (h x (by simp)),vG fs s l λy hy=>h y (by simp[hy])]
attribute[local go_sem] bY zW zY zZ zX qx afR
def JO{f:FuncId}{rest:List AV}{S:Sk}{r:AV}(h:aj pg f (J6 S::rest) r)(hf:oM r=true)(hr:∀x∈rest,aV x=[]):MR f rest S r S:=by
 have w1:=eJ.frzs [2001,2002] ⟨[],mi S⟩ (.mp 1001 3 0 0::rest);have e1:(AV.mp 1001 3 0 0::rest).map (sB [2001,2002] ⟨[],mi S⟩) = .mp 1001 3 0 0::rest:=by
  rw[cM,vG _ _ rest hr];rfl
 rw[e1]at w1
 have w2:=eJ.unrec (frzs [2001,2002] ⟨[],mi S⟩) (.mp 1001 3 0 0::rest) 1001 (t:=228) (st:=3) (r:=[.sl 1 (S.all.map aS),.sl 2 ((cu (S.t::S.u)).map HH),.bool S.ov]) (by simp only[go_sem,i0,aQ,fo,dk]) (by
  intro x hx;simp only[bM,cH,or_false]at hx;rcases hx with rfl|rfl|rfl<;>exact⟨rfl,rfl⟩)
 have w3:=(w1.trans w2).trans (eJ.frzs [1001] _ _);rw[cM,vG _ _ rest hr]at w3;refine bA.lend (args':=J6 S::rest) h hf w3 ?_ ?_ _
 .intro x hx;rcases bM.1 hx with rfl|hx
  .rfl
  .exact hr x hx
 .intro p hp i hi;simp only[mi,bM,cH,or_false]at hp;rcases hp with rfl|rfl|rfl
  .simp only[MN,fG,dR,yA,List.flatMap_nil,iu,jc,ml,gW,fS,gC,bM,cH,or_false]at hi;rcases hi with rfl|rfl<;>rfl
  .cases hi
  .cases hi
def Xl(S:Sk):aj pg m9 [J6 S] (.bool true):=by
 refine ao mR ?_;have h:decide (((cu (S.t::S.u)).length:Int)>0)=true:=by rw[dw];exact aF (by simp only[i9];omega)
 simp only[go_sem,mR,h];exact ah
def agr(S:Sk):aj pg m8 [J6 S] (.bool S.ov):=by
 refine ao mO ?_;have c:=Xl S;simp only[qx]at c;simp only[go_sem,mO];refine aa (c) ?_;exact ah
def x7(S:Sk):MR m9 [] S (.bool true) S:=JO (Xl S) rfl (λx hx=>by cases hx)
def aeO(S:Sk):MR m8 [] S (.bool S.ov) S:=JO (agr S) rfl (λx hx=>by cases hx)
def aU{f:FuncId}{rest:List AV}{S S':Sk}{r:AV}(h:MR f rest S r S'){args:List AV}{d:Option Nat}{s:St}{K:St->Prop}(ha:args = .mp 1001 3 0 0::rest)(h1:ak s.heap 1001=some (MN S.all.length (cu (S.t::S.u)).length S.ov))(h2:ak s.heap 2001=some (P7 S.all))(h3:ak s.heap 2002=some (P6 (cu (S.t::S.u))))
  (hk:K ((St.mk (jG [2001,2002] s.env) (mi S'++jm [2001,2002] s.heap)).put d r)):cO pg f args d s K:=by
 subst ha;refine gZ h [2001,2002] (λp hp=>?_) (λp hp=>?_) (λp hp=>?_) hk
 .simp only[mi,bM,cH,or_false]at hp;rcases hp with rfl|rfl|rfl
  .exact h1
  .exact h2
  .exact h3
 .simp only[mi,bM,cH,or_false]at hp;rcases hp with rfl|rfl|rfl
  .exact .inl ⟨⟨show 1000<=1001 by decide,show 1001<2000 by decide⟩,rfl⟩
  .exact .inr ⟨by simp,.inr (show 2000<=2001 by decide),.inl rfl⟩
  .exact .inr ⟨by simp,.inr (show 2000<=2002 by decide),.inl rfl⟩
 .simp only[mi,bM,cH,or_false]at hp;rcases hp with rfl|rfl|rfl<;>rfl
def ES(S:Sk):(cu (S.t::S.u)).length=S.u.length+1:=by rw[dw,i9]
def zO(S:Sk)(hb:S.u.length<1000000):IntKind.i64.wrap (((cu (S.t::S.u)).length:Int)-1)=(S.u.length:Int):=by
 rw[dw,wi (by simp only[i9];omega) (by simp only[i9];omega)];simp only[i9];omega
def Ve(S:Sk)(hb:S.u.length<1000000):MR nZ [] S (.mp 2002 2 S.u.length 0) S:=by
 refine b_ gM ?_;have hw:=zO S hb;have hl:=dw (S.t::S.u);simp only[i9]at hl;simp only[go_sem,gM,hw];refine⟨⟨by omega,by omega⟩,?_⟩;exact done [] _ (mi S) (by simp only[go_sem,cL,dk]) (by simp only[go_sem]) rfl ⟨rfl,rfl⟩
def oS(S:Sk):S.opn.all=S.all:=ml _
def afN(S:Sk):S.opn.ov=S.ov:=rfl
def aa0(S:Sk):cu (S.opn.t::S.opn.u)=cu (S.t::S.u)++[((S.all.length:Int),false)]:=rfl
def Vc(S:Sk)(hb:S.u.length<1000000)(hl:S.all.length<1000000):MR vZ [] S (.tup []) S.opn:=by
 refine lx (ic:=jp 4 jr.body) fD (cF jr) (by rfl) rfl ?_;simp only[go_sem,jr,jp];refine aU (x7 S) (by simp only[go_sem]) (by simp only[go_sem]) (by simp only[go_sem]) (by simp only[go_sem]) ?_;simp only[go_sem];refine fH _ _ (jN (id:=2002) (len:=(cu (S.t::S.u)).length) (rows:=(cu (S.t::S.u)).map HH) (ys:=[HH ((S.all.length:Int),false)]) (by rfl) (by rfl) (by rfl) (by rw[bY]) (by simp) (by rw[dw,i9];omega) (by decide)) (by simp only[go_sem]) (by rfl) (by simp only[go_sem];rfl) (by simp only[go_sem]) ?_;simp only[go_sem];exact lu [] _ (mi S.opn) (by simp only[go_sem]) (by simp only[go_sem,oS,aa0,afN,dY,dN,i9,eG,cM,eA]) rfl ⟨rfl,rfl⟩
def dW(S:Sk)(l:List Int):(S.push l).all=S.all++l:=by rw[jj,jj,Sk.push,vk]
def JA(S:Sk)(l:List Int):(S.push l).ov=(S.ov||decide (((S.all.length+l.length:Nat):Int)>256)):=rfl
def x8(S:Sk)(l:List Int)(hb:S.u.length<1000000)(hl:S.all.length<1000000)(h2:l.length<1000000):MR v8 [.sl 1 (l.map aS)] S (.tup []) (S.push l):=by
 refine b_ mQ ?_;have ha:=cC 2001 48 1 S.all.length aS S.all (l.map aS) rfl;have hp:cu ((S.push l).t::(S.push l).u)=cu (S.t::S.u):=rfl;simp only[go_sem,mQ];refine aU (x7 S) (by simp only[go_sem]) (by simp only[go_sem]) (by simp only[go_sem]) (by simp only[go_sem]) ?_;simp only[go_sem,ha];refine⟨⟨by omega,by omega⟩,λho=>?_,λho=>?_⟩
 .exact lu [] _ (mi (S.push l)) (by simp only[go_sem]) (by simp only[go_sem,dW,hp,JA,ho,nx,dY,dN]) rfl ⟨rfl,rfl⟩
 .exact lu [] _ (mi (S.push l)) (by simp only[go_sem]) (by simp only[go_sem,dW,hp,JA,ho,jW,dY,dN]) rfl ⟨rfl,rfl⟩
def agC(id row:Nat)(t:TypeId)(l:List (Int×Bool)):Ms id 1 2 row 1 (some ⟨t,2,l.map HH,false⟩) (some [.bool true])=if row<l.length then some (.put id ⟨t,2,(l.set row ((av l row).1,true)).map HH,false⟩)else none :=
 Fi id 1 2 row 1 t HH l [.bool true] (λp=>(p.1,true)) rfl rfl (λ_=>aQ 2) (λ_=>rfl)
def iX{α:Type}[Inhabited α](l:List α)(x:α){n:Nat}(h:n=l.length):av (l++[x]) n=x:=by
 subst h;rw[aY (by simp)];simp
def Xv{α:Type}(l:List α)(x y:α){n:Nat}(h:n=l.length):(l++[x]).set n y=l++[y]:=by
 subst h;rw[List.set_append_right _ _ (aQ _),Cc];rfl
def XI(S:Sk):(S.all.map aS).take (bI S.u).length=(bI S.u).map aS:=by
 rw[<-List.map_take,jj,List.take_append_of_le_length (aQ _),rN]
def aac(S:Sk)(hb:S.u.length<1000000)(hl:S.all.length<1000000):MR uN [] S (.tup []) S.loose:=by
 refine b_ lP ?_;have e1:av (cu (S.t::S.u)) S.u.length=(((bI S.u).length:Int),S.t.lo):=iX _ _ (dw _).symm;have e2:(cu (S.t::S.u)).set S.u.length (((bI S.u).length:Int),true)=cu (S.loose.t::S.loose.u):=Xv _ _ _ (dw _).symm;have e3:av (cu (S.loose.t::S.loose.u)) S.u.length=(((bI S.u).length:Int),true):=iX _ _ (dw _).symm;have e4:S.loose.all=bI S.u:=ml _;have hp:=ES S;have hp2:(cu (S.loose.t::S.loose.u)).length=S.u.length+1:=ES S.loose;have ha:S.all.length=(bI S.u).length+S.t.l.length:=by rw[jj,dN]
 simp only[go_sem,lP];refine aU (x7 S) (by simp only[go_sem]) (by simp only[go_sem]) (by simp only[go_sem]) (by simp only[go_sem]) ?_;simp only[go_sem];refine aU (Ve S hb) (by simp only[go_sem]) (by simp only[go_sem]) (by simp only[go_sem]) (by simp only[go_sem]) ?_;simp only[go_sem,agC,e1,e2,e3];refine⟨by omega,by omega,?_⟩;refine⟨⟨by omega,by omega⟩,?_⟩;exact abX (Wk.trunc _ 2001 (bI S.u).length (by rfl)) [] _ (mi S.loose) (by simp only[go_sem]) (by simp only[go_sem,XI,e4,hp,hp2,show S.loose.ov=S.ov from rfl]) rfl ⟨rfl,rfl⟩
def ry{α:Type}(l:List α):l=[]\/∃L b,l=L++[b]:=by
 rcases List.eq_nil_or_concat l with h|⟨L,b,h⟩
 .exact .inl h
 .exact .inr ⟨L,b,by rw[h,List.concat_eq_append]⟩
def PI{lo:Bool}{u:List Sg}{ov:Bool}:(⟨⟨[],lo⟩,u,ov⟩:Sk).pop=(0,(if lo then 0 else 13),⟨⟨[],lo⟩,u,ov⟩):=by cases lo<;>rfl
def L2{l:List Int}{x:Int}{lo:Bool}{u:List Sg}{ov:Bool}:(⟨⟨l++[x],lo⟩,u,ov⟩:Sk).pop=(x,0,⟨⟨l,lo⟩,u,ov⟩):=by
 unfold Sk.pop;simp
def KO(S:Sk)(hb:S.u.length<1000000)(hl:S.all.length<1000000):MR yf [] S (.tup [.int .i64 S.pop.1,.int .i64 S.pop.2.1]) S.pop.2.2:=by
 refine b_ jO ?_;have e1:av (cu (S.t::S.u)) S.u.length=(((bI S.u).length:Int),S.t.lo):=iX _ _ (dw _).symm;have hp:=ES S;have ha:S.all.length=(bI S.u).length+S.t.l.length:=by rw[jj,dN]
 have k1:=x7 S;have k2:=Ve S hb;obtain⟨⟨l,lo⟩,u,ov⟩:=S;dsimp only at e1 hp ha hb k2;rcases ry l with rfl|⟨l',x,rfl⟩
 .have h1:¬(((⟨⟨[],lo⟩,u,ov⟩:Sk).all.length:Int)>((bI u).length:Int)):=by simp only[eG]at ha;omega
  rw[PI];simp only[go_sem,jO];refine aU k1 (by simp only[go_sem]) (by simp only[go_sem]) (by simp only[go_sem]) (by simp only[go_sem]) ?_;simp only[go_sem];refine aU k2 (by simp only[go_sem]) (by simp only[go_sem]) (by simp only[go_sem]) (by simp only[go_sem]) ?_;simp only[go_sem,e1,aI h1];refine⟨by omega,by omega,λh=>?_,λh=>?_⟩
  all_goals
   subst h;exact aZ [] _ (mi ⟨⟨[],_⟩,u,ov⟩) ⟨rfl,rfl⟩
 .have hal:(⟨⟨l'++[x],lo⟩,u,ov⟩:Sk).all=(bI u++l')++[x]:=(vk _ _ _).symm;have h2:(⟨⟨l'++[x],lo⟩,u,ov⟩:Sk).all.length=(bI u++l').length+1:=by rw[hal,dN];rfl
  have hM:(bI u++l').length=(bI u).length+l'.length:=dN;have h1:((⟨⟨l'++[x],lo⟩,u,ov⟩:Sk).all.length:Int)>((bI u).length:Int):=by rw[h2,hM];omega
  have hw:IntKind.i64.wrap (((⟨⟨l'++[x],lo⟩,u,ov⟩:Sk).all.length:Int)-1)=((bI u++l').length:Int):=by
   rw[h2,wi (by omega) (by omega)];omega
  have en:av (⟨⟨l'++[x],lo⟩,u,ov⟩:Sk).all (bI u++l').length=x:=by rw[hal];exact iX _ _ rfl
  have et:((⟨⟨l'++[x],lo⟩,u,ov⟩:Sk).all.map aS).take (bI u++l').length=(bI u++l').map aS:=by
   rw[<-List.map_take,hal,List.take_append_of_le_length (aQ _),rN]
  have e4:(⟨⟨l',lo⟩,u,ov⟩:Sk).all=bI u++l':=rfl;have hp2:(cu ((⟨l',lo⟩:Sg)::u)).length=u.length+1:=ES ⟨⟨l',lo⟩,u,ov⟩;have e5:cu ((⟨l'++[x],lo⟩:Sg)::u)=cu ((⟨l',lo⟩:Sg)::u):=rfl;rw[L2];simp only[go_sem,jO];refine aU k1 (by simp only[go_sem]) (by simp only[go_sem]) (by simp only[go_sem]) (by simp only[go_sem]) ?_;simp only[go_sem];refine aU k2 (by simp only[go_sem]) (by simp only[go_sem]) (by simp only[go_sem]) (by simp only[go_sem]) ?_;simp only[go_sem,e1,aF h1,hw,en,cL,dk];refine⟨by omega,⟨by omega,by omega⟩,by omega,⟨by omega,by omega⟩,?_⟩;exact vh (Wk.trunc _ 2001 (bI u++l').length (by rfl)) [] _ (mi ⟨⟨l',lo⟩,u,ov⟩) (by simp only[go_sem]) (by simp only[go_sem,et,e4,e5,hp2]) rfl ⟨rfl,rfl⟩
def vC(lo:Bool):∀(ws ts:List Int),(∀r e,dP lo ts ws=(some r,e)->e=0/\∃p,ts=p++r)/\(∀e,dP lo ts ws=(none,e)->e≠0)
 | [],ts=>by
  refine⟨λr e h=>?_,λe h=>?_⟩
  .unfold dP at h;cases h;exact⟨rfl,[],rfl⟩
  .unfold dP at h;cases h
 | w::ws,[]=>by
  unfold dP;cases lo
  .exact⟨(λr e h=>by cases h),(λe h=>by cases h;decide)⟩
  .exact vC true ws []
 | w::ws,t::ts=>by
  unfold dP;split
  .exact⟨(λr e h=>by cases h),(λe h=>by cases h;decide)⟩
  .obtain⟨h1,h2⟩:=vC lo ws ts;exact⟨λr e h=>by obtain⟨q,p,hp⟩:=h1 r e h;exact⟨q,t::p,by rw[hp];rfl⟩,h2⟩
def AT{S:Sk}{l r:List Int}{e:Int}(h:S.left l=(some r,e)):e=0/\∃q,S.t.l=r.reverse++q:=by
 obtain⟨h1,p,hp⟩:=(vC S.t.lo l.reverse S.t.l.reverse).1 r e h;refine⟨h1,p.reverse,?_⟩;rw[<-List.reverse_reverse S.t.l,hp,List.reverse_append]
def Hw{S:Sk}{l:List Int}{e:Int}(h:S.left l=(none,e)):e≠0:=(vC S.t.lo l.reverse S.t.l.reverse).2 e h
def Is(S:Sk)(l:List Int):Int×Int:=match S.left l with
 | (some r,_)=>(((bI S.u).length+r.length:Nat),0)
 | (none,e)=>(0,e)
def J9(S:Sk)(l:List Int):Prop:=MR 262 [.sl 1 (l.map aS)] S (.tup [.int .i64 (Is S l).1,.int .i64 (Is S l).2]) S
def pu(S:Sk)(l:List Int)(hL:J9 S l):MR wb [.sl 1 (l.map aS)] S (.int .i64 (S.want l).1) (S.want l).2:=by
 refine b_ js ?_;have ha:S.all.length=(bI S.u).length+S.t.l.length:=by rw[jj,dN]
 unfold J9 Is at hL;unfold Sk.want;cases h:S.left l with
 | mk o e =>
  rw[h]at hL;cases o with
  | none =>
   have he:=Hw h;simp only[go_sem,js];refine aU (x7 S) (by simp only[go_sem]) (by simp only[go_sem]) (by simp only[go_sem]) (by simp only[go_sem]) ?_;simp only[go_sem];refine aU hL (by simp only[go_sem]) (by simp only[go_sem]) (by simp only[go_sem]) (by simp only[go_sem]) ?_;simp only[go_sem,ac he];exact aZ [] _ (mi S) ⟨rfl,rfl⟩
  | some r =>
   obtain⟨rfl,q,hq⟩:=AT h;have hr:r.reverse.length=r.length:=List.length_reverse;have h2:S.t.l.length=r.length+q.length:=by rw[hq,dN,hr]
   have e4:(⟨⟨r.reverse,S.t.lo⟩,S.u,S.ov⟩:Sk).all=bI S.u++r.reverse:=rfl;have e5:(⟨⟨r.reverse,S.t.lo⟩,S.u,S.ov⟩:Sk).all.length=(bI S.u).length+r.length:=by rw[e4,dN,hr]
   have et:(S.all.map aS).take ((bI S.u).length+r.length)=(⟨⟨r.reverse,S.t.lo⟩,S.u,S.ov⟩:Sk).all.map aS:=by
    rw[e4,<-List.map_take,jj,hq,<-vk,List.take_append_of_le_length (by rw[dN,hr];exact aQ _),iF (by rw[dN,hr];exact aQ _)]
   have hp2:cu ((⟨r.reverse,S.t.lo⟩:Sg)::S.u)=cu (S.t::S.u):=rfl;simp only[go_sem,js];refine aU (x7 S) (by simp only[go_sem]) (by simp only[go_sem]) (by simp only[go_sem]) (by simp only[go_sem]) ?_;simp only[go_sem];refine aU hL (by simp only[go_sem]) (by simp only[go_sem]) (by simp only[go_sem]) (by simp only[go_sem]) ?_;simp only[go_sem,cL,dk,Nat.sub_zero];refine⟨⟨by omega,by omega⟩,?_⟩;exact vh (Wk.trunc _ 2001 ((bI S.u).length+r.length) (by rfl)) [] _ (mi ⟨⟨r.reverse,S.t.lo⟩,S.u,S.ov⟩) (by simp only[go_sem]) (by simp only[go_sem,et,e5,hp2]) rfl ⟨rfl,rfl⟩
def abN(id row:Nat)(t:TypeId)(l:List (Int×Bool)):Ms id 2 2 row 0 (some ⟨t,2,l.map HH,false⟩) (some [.int .i64 0,.bool false])=if row<l.length then some (.put id ⟨t,2,(l.set row (0,false)).map HH,false⟩)else none :=
 Fi id 2 2 row 0 t HH l [.int .i64 0,.bool false] (λp=>(0,false)) rfl rfl (λ_=>aQ 2) (λ_=>rfl)
def Vd(S:Sk)(l:List Int)(hb:S.u.length<1000000)(hl:S.all.length<1000000)(hL:J9 S l):MR v_ [.sl 1 (l.map aS)] S (.int .i64 (S.shut l).1) (S.shut l).2:=by
 refine b_ eE ?_;have ha:S.all.length=(bI S.u).length+S.t.l.length:=by rw[jj,dN]
 have e1:av (cu (S.t::S.u)) S.u.length=(((bI S.u).length:Int),S.t.lo):=iX _ _ (dw _).symm;have hp:=ES S;have k1:=x7 S;have k2:=Ve S hb;unfold J9 Is at hL;cases h:S.left l with
 | mk o e =>
  rw[h]at hL;cases o with
  | none =>
   have he:=Hw h;rw[show S.shut l=(e,S)by unfold Sk.shut;rw[h]];simp only[go_sem,eE];refine aU k1 (by simp only[go_sem]) (by simp only[go_sem]) (by simp only[go_sem]) (by simp only[go_sem]) ?_;simp only[go_sem];refine aU hL (by simp only[go_sem]) (by simp only[go_sem]) (by simp only[go_sem]) (by simp only[go_sem]) ?_;simp only[go_sem,aE he];exact aZ [] _ (mi S) ⟨rfl,rfl⟩
  | some r =>
   obtain⟨rfl,q,hq⟩:=AT h;have hr:r.reverse.length=r.length:=List.length_reverse;have h2:S.t.l.length=r.length+q.length:=by rw[hq,dN,hr]
   cases r with
   | cons x r =>
    have h3:((((bI S.u).length+(r.length+1):Nat):Int)>((bI S.u).length:Int)):=by omega
    rw[show S.shut l=(14,S)by unfold Sk.shut;rw[h]];simp only[go_sem,eE];refine aU k1 (by simp only[go_sem]) (by simp only[go_sem]) (by simp only[go_sem]) (by simp only[go_sem]) ?_;simp only[go_sem];refine aU hL (by simp only[go_sem]) (by simp only[go_sem]) (by simp only[go_sem]) (by simp only[go_sem]) ?_;simp only[go_sem];refine aU k2 (by simp only[go_sem]) (by simp only[go_sem]) (by simp only[go_sem]) (by simp only[go_sem]) ?_;simp only[go_sem,e1,aF h3];refine⟨by omega,?_⟩;exact aZ [] _ (mi S) ⟨rfl,rfl⟩
   | nil =>
    have h3:¬((((bI S.u).length+0:Nat):Int)>((bI S.u).length:Int)):=by omega
    have et:=XI S;cases hu:S.u with
    | nil =>
     have h4:(((cu (S.t::S.u)).length:Int)==1)=true:=by rw[hp,hu];rfl
     rw[show S.shut l=(0,{S with t:=⟨[],false⟩})by unfold Sk.shut;rw[h];simp only[hu]];simp only[go_sem,eE];refine aU k1 (by simp only[go_sem]) (by simp only[go_sem]) (by simp only[go_sem]) (by simp only[go_sem]) ?_;simp only[go_sem];refine aU hL (by simp only[go_sem]) (by simp only[go_sem]) (by simp only[go_sem]) (by simp only[go_sem]) ?_;simp only[go_sem];refine aU k2 (by simp only[go_sem]) (by simp only[go_sem]) (by simp only[go_sem]) (by simp only[go_sem]) ?_;simp only[go_sem,e1,aI h3,h4,abN];refine⟨by omega,⟨by omega,by omega⟩,⟨by omega,by omega⟩,by omega,?_⟩;have q1:(cu (S.t::S.u)).set 0 (0,false)=cu ((⟨[],false⟩:Sg)::S.u):=by rw[hu];rfl
     have q2:({S with t:=⟨[],false⟩}:Sk).all=bI S.u:=ml _;have q3:(cu ((⟨[],false⟩:Sg)::S.u)).length=(cu (S.t::S.u)).length:=by rw[dw,dw];rfl
     exact vh (Wk.trunc _ 2001 ((bI S.u).length+0) (by rfl)) [] _ (mi {S with t:=⟨[],false⟩}) (by simp only[go_sem]) (by simp only[go_sem,q1,q2,q3,Nat.add_zero,et]) rfl ⟨rfl,rfl⟩
    | cons g u =>
     have h4:(((cu (S.t::S.u)).length:Int)==1)=false:=by rw[hp,hu];exact ac (by simp only[i9];omega)
     rw[show S.shut l=(0,{S with t:=g,u:=u})by unfold Sk.shut;rw[h];simp only[hu]];simp only[go_sem,eE];refine aU k1 (by simp only[go_sem]) (by simp only[go_sem]) (by simp only[go_sem]) (by simp only[go_sem]) ?_;simp only[go_sem];refine aU hL (by simp only[go_sem]) (by simp only[go_sem]) (by simp only[go_sem]) (by simp only[go_sem]) ?_;simp only[go_sem];refine aU k2 (by simp only[go_sem]) (by simp only[go_sem]) (by simp only[go_sem]) (by simp only[go_sem]) ?_;have hw:=zO S hb;simp only[go_sem,e1,aI h3,h4,hw,cL];refine⟨by omega,⟨by omega,by omega⟩,⟨by omega,by omega⟩,?_⟩;have q1:((cu (S.t::S.u)).map HH).take S.u.length=(cu S.u).map HH:=by
      rw[<-List.map_take,cu,List.take_append_of_le_length (by rw[dw];exact aQ _),iF (by rw[dw];exact aQ _)]
     have q2:({S with t:=g,u:=u}:Sk).all=bI S.u:=by rw[hu];rfl
     have q3:(cu (g::u)).length=S.u.length:=by rw[dw,hu]
     have q4:cu (g::u)=cu S.u:=by rw[hu]
     exact vh ((Wk.trunc _ 2001 ((bI S.u).length+0) (by rfl)).trans (Wk.trunc _ 2002 S.u.length (by rfl))) [] _ (mi {S with t:=g,u:=u}) (by simp only[go_sem]) (by simp only[go_sem,q1,q2,q3,Nat.add_zero,et];simp only[go_sem,q4]) rfl ⟨rfl,rfl⟩
end
section
open Go Go.Mw
def OM(k:Int):∀es:List (Int×Int),es.findIdx? (λp=>k==p.1)=none->k9 k es=es++[(k,x_ k es+1)]/\x_ k es=0
 | [],_=>⟨rfl,rfl⟩
 | e::r,h=>by
  rw[List.findIdx?_cons]at h;cases hk:(k==e.1)
  .rw[hk]at h;have he:¬e.1=k:=λq=>by rw[q,beq_self_eq_true]at hk;cases hk
   have hr:r.findIdx? (λp=>k==p.1)=none:=by
    cases hq:r.findIdx? (λp=>k==p.1)with
    | none=>rfl
    | some j=>rw[hq]at h;cases h
   obtain⟨h1,h2⟩:=OM k r hr;simp only[k9,x_,an he,h1,h2,oG];exact⟨trivial,trivial⟩
  .rw[hk]at h;cases h
def OL(k:Int):∀(es:List (Int×Int))(i:Nat),es.findIdx? (λp=>k==p.1)=some i->k9 k es=es.set i (k,x_ k es+1)/\∃v,es[i]?=some (k,v)
 | [],i,h=>by cases h
 | e::r,i,h=>by
  rw[List.findIdx?_cons]at h;cases hk:(k==e.1)
  .rw[hk]at h;have he:¬e.1=k:=λq=>by rw[q,beq_self_eq_true]at hk;cases hk
   cases hq:r.findIdx? (λp=>k==p.1)with
   | none=>rw[hq]at h;cases h
   | some j =>
    rw[hq]at h;simp only[fR,lD,ij,dt]at h;subst h;obtain⟨h1,v,h2⟩:=OL k r j hq;refine⟨?_,v,by rw[Fs];exact h2⟩;simp only[k9,x_,an he,h1,List.set_cons_succ]
  .rw[hk]at h;have he:e.1=k:=(eq_of_beq hk).symm;cases h;refine⟨?_,e.2,by rw[<-he];rfl⟩;simp only[k9,x_,az he,List.set_cons_zero]
def IB{α:Type}(x:α):∀(l:List α)(i:Nat),l.modify i (λ_=>x)=l.set i x
 | [],i=>by cases i<;>rfl
 | a::l,0=>rfl
 | a::l,i+1=>by
  have:=IB x l i;rw[List.modify_succ_cons,this,List.set_cons_succ]
def af1(k:Int)(es:List (Int×Int)):ET .i (.int .i64 k) (.int .i64 (x_ k es+1)) (es.map zq)=some ((k9 k es).map zq):=by
 unfold ET;rw[DI];cases h:es.findIdx? (λp=>k==p.1)with
 | none =>
  obtain⟨h1,h2⟩:=OM k es h;rw[h1];simp[zq]
 | some i =>
  obtain⟨h1,v,h2⟩:=OL k es i h;rw[h1];simp only[IB,List.map_set];rfl
def Wt(k:Int)(es:List Int):ET .i (.int .i64 k) (.bool true) (es.map sX)=some ((xQ es k).map sX):=by
 unfold ET xQ;rw[DH];cases h:es.findIdx? (λp=>k==p)with
 | none =>
  have hn:k∉es:=λhk=>by
   have:=List.findIdx?_eq_none_iff.1 h k hk;simp at this
  rw[an hn];simp[sX]
 | some i =>
  obtain⟨hi,h1,_⟩:=List.findIdx?_eq_some_iff_getElem.1 h;have he:es[i]=k:=(eq_of_beq h1).symm;have hm:k∈es:=by rw[<-he];exact eH hi
  rw[az hm];have hs:(es.map sX).set i (sX k)=es.map sX:=by
   rw[<-List.map_set];congr 1;rw[<-he];exact List.set_getElem_self hi
  simp only[sX]at hs⊢;simp only[IB,hs]
def oC:au:=⟨124,1,[[.mp 1001 9 0 0]],true⟩
def zG:oC =⟨124,1,[[.mp 1001 9 0 0]],true⟩:=rfl
def oR(n0 n1 n2 n3 n4 n5:Nat)(ds:Int):au:=⟨129,9,[[.ms 2000 2 0 n0,.ms 2001 1 0 n1,.ms 2002 4 0 n2,.ms 2003 3 0 n3,.ms 2004 2 0 n4,.ms 2005 1 0 n5,.int .i64 ds,.mm 2010 true,.mm 2011 true]],true⟩
def zI(n0 n1 n2 n3 n4 n5:Nat)(ds:Int):oR n0 n1 n2 n3 n4 n5 ds =⟨129,9,[[.ms 2000 2 0 n0,.ms 2001 1 0 n1,.ms 2002 4 0 n2,.ms 2003 3 0 n3,.ms 2004 2 0 n4,.ms 2005 1 0 n5,.int .i64 ds,.mm 2010 true,.mm 2011 true]],true⟩:=rfl
def oH(s:Sp):List (Nat×au):=[(1000,oC),(1001,oR s.ts.length s.fs.length s.tb.length s.ms.length s.gs.length s.el.length s.ds),(2000,⟨59,2,s.ts.map pt,false⟩),(2001,⟨3,1,s.fs.map aS,false⟩),(2002,⟨52,4,s.tb.map Dd,false⟩),(2003,⟨50,3,s.ms.map B5,false⟩),(2004,⟨54,2,s.gs.map Nq,false⟩),(2005,⟨48,1,s.el.map aS,false⟩),(2010,@au.mk 0 0 [] false (.mp (s.im.map zq))),(2011,@au.mk 0 0 [] false (.mp (s.de.map sX)))]
def zH(s:Sp):oH s=[(1000,oC),(1001,oR s.ts.length s.fs.length s.tb.length s.ms.length s.gs.length s.el.length s.ds),(2000,⟨59,2,s.ts.map pt,false⟩),(2001,⟨3,1,s.fs.map aS,false⟩),(2002,⟨52,4,s.tb.map Dd,false⟩),(2003,⟨50,3,s.ms.map B5,false⟩),(2004,⟨54,2,s.gs.map Nq,false⟩),(2005,⟨48,1,s.el.map aS,false⟩),(2010,@au.mk 0 0 [] false (.mp (s.im.map zq))),(2011,@au.mk 0 0 [] false (.mp (s.de.map sX)))]:=rfl
def Cm(s:Sp)(x:Im):Sp :=
 let s1:Sp:={s with im:=k9 x.k s.im}
 if x.k=0 then{s1 with fs:=s.fs++[x.f]}else if x.k=1 then{s1 with tb:=s.tb++[⟨x.te,x.tl⟩]}else if x.k=2 then{s1 with ms:=s.ms++[x.me]}else if x.k=3 then{s1 with gs:=s.gs++[x.g]}else s1
structure oSm(n:Nat)(s:Sp):Prop where
 ts:s.ts.length<=n
 fs:s.fs.length<=n
 tb:s.tb.length<=n
 ms:s.ms.length<=n
 gs:s.gs.length<=n
 el:s.el.length<=n
 im:∀k,0<=x_ k s.im/\x_ k s.im<=n
attribute[local go_sem] bY aW cX bT du
def aaD(s:Sp)(x:Im)(h:oSm 1000000 s):bA pg zE [.agg (KH x),.mp 1000 1 0 0] (oH s) P3 (λr' σ'=>r' = .tup []/\σ'=oH (Cm s x)):=by
 refine lx (ic:=jp 15 (jp 28 (jp 41 (jp 54 qU.body)))) fD (cF qU) (by rfl) rfl ?_;have hm:=h.im x.k;have hw:IntKind.i64.wrap (x_ x.k s.im+1)=x_ x.k s.im+1:=wi (by omega) (by omega);have hp:=af1 x.k s.im;obtain⟨T,hT⟩:∃T,Cm s x=T:=⟨_,rfl⟩
 rw[hT];unfold Cm at hT;dsimp only at hT;simp only[go_sem,qU,jp,zH,zG,zI,NG,hw];refine⟨rfl,rfl,_,hp,?_⟩;by_cases k0:x.k=0
 .rw[az k0]at hT;have hl:=h.fs;simp only[go_sem,aD k0];refine fH _ _ (jN (id:=2001) (len:=s.fs.length) (rows:=s.fs.map aS) (ys:=[[.int .i64 x.f]]) (by rfl) (by rfl) (by rfl) (by rw[bY]) (by simp) (by omega) (by decide)) (by simp only[go_sem]) (by rfl) (by simp only[go_sem];rfl) (by simp only[go_sem]) ?_;simp only[go_sem];subst hT;exact lu [] _ (oH _) (by simp only[go_sem]) (by simp only[go_sem,zH,zG,zI,dY,dN,i9,eG,cM,eA]) rfl ⟨rfl,rfl⟩
 by_cases k1:x.k=1
 .rw[an k0,az k1]at hT;have hl:=h.tb;simp only[go_sem,ac k0,aD k1];refine fH _ _ (jN (id:=2002) (len:=s.tb.length) (rows:=s.tb.map Dd) (ys:=[Dd ⟨x.te,x.tl⟩]) (by rfl) (by rfl) (by rfl) (by rw[bY]) (by simp) (by omega) (by decide)) (by simp only[go_sem]) (by rfl) (by simp only[go_sem];rfl) (by simp only[go_sem]) ?_;simp only[go_sem];subst hT;exact lu [] _ (oH _) (by simp only[go_sem]) (by simp only[go_sem,zH,zG,zI,dY,dN,i9,eG,cM,eA]) rfl ⟨rfl,rfl⟩
 by_cases k2:x.k=2
 .rw[an k0,an k1,az k2]at hT;have hl:=h.ms;simp only[go_sem,ac k0,ac k1,aD k2];refine fH _ _ (jN (id:=2003) (len:=s.ms.length) (rows:=s.ms.map B5) (ys:=[B5 x.me]) (by rfl) (by rfl) (by rfl) (by rw[bY]) (by simp) (by omega) (by decide)) (by simp only[go_sem]) (by rfl) (by simp only[go_sem];rfl) (by simp only[go_sem]) ?_;simp only[go_sem];subst hT;exact lu [] _ (oH _) (by simp only[go_sem]) (by simp only[go_sem,zH,zG,zI,dY,dN,i9,eG,cM,eA]) rfl ⟨rfl,rfl⟩
 by_cases k3:x.k=3
 .rw[an k0,an k1,an k2,az k3]at hT;have hl:=h.gs;simp only[go_sem,ac k0,ac k1,ac k2,aD k3];refine fH _ _ (jN (id:=2004) (len:=s.gs.length) (rows:=s.gs.map Nq) (ys:=[Nq x.g]) (by rfl) (by rfl) (by rfl) (by rw[bY]) (by simp) (by omega) (by decide)) (by simp only[go_sem]) (by rfl) (by simp only[go_sem];rfl) (by simp only[go_sem]) ?_;simp only[go_sem];subst hT;exact lu [] _ (oH _) (by simp only[go_sem]) (by simp only[go_sem,zH,zG,zI,dY,dN,i9,eG,cM,eA]) rfl ⟨rfl,rfl⟩
 rw[an k0,an k1,an k2,an k3]at hT;subst hT;simp only[go_sem,ac k0,ac k1,ac k2,ac k3];exact lu [] _ (oH {s with im:=k9 x.k s.im}) (by simp only[go_sem]) (by simp only[go_sem,zH,zG,zI]) rfl ⟨rfl,rfl⟩
end
section
open Go Go.Mw
def yl(l:List bj)(de:List Int):List Int:=(zQ l).foldl xQ de
def VY(x:bj)(l:List bj)(de:List Int):yl (x::l) de=yl l (if x.op=210 then xQ de x.a else de):=by
 unfold yl zQ;by_cases h:x.op=210
 .simp[h]
 .simp[h]
attribute[local go_sem] bY aW cX bT lc du cQ
def acH(s:Sp)(l:List bj)(hl:l.length<=1000000):bA pg nn [.sl 9 (l.map cQ),.mp 1000 1 0 0] (oH s) P3 (λr' σ'=>r' = .tup []/\σ'=oH {s with de:=yl l s.de}):=by
 refine b_ zb ?_;obtain⟨T,hT⟩:∃T,yl l s.de=T:=⟨_,rfl⟩
 rw[hT];simp only[go_sem,zb,zH,zG,zI];refine aA (λq:Nat×List Int=>⟨[(7,.int .i64 q.1),(6,.int .i64 l.length),(5,.sl 9 (l.map cQ)),(1,.mp 1000 1 0 0)],oH {s with de:=q.2}⟩)
  (λq=>q.1<=l.length/\yl (l.drop q.1) q.2=T) (λq=>l.length-q.1) (0,s.de) ⟨dx _,hT⟩ (Wk.of ?_ ?_) ?_
 .simp only[go_sem];try simp
 .simp only[go_sem,zH,zG,zI];try rfl
 rintro⟨j,de⟩ ⟨hj,hx⟩;dsimp only at hj hx;by_cases h1:(j:Int)<(l.length:Int);rotate_left
 .rw[a_ (by omega)]at hx;obtain rfl:de=T:=hx;simp only[go_sem,aI h1,zH,zG,zI];exact lu [] _ (oH {s with de:=de}) (by simp only[go_sem]) (by simp only[go_sem,zH,zG,zI]) rfl ⟨rfl,rfl⟩
 have hj':j<l.length:=by omega
 have e8:=cK hj' (by omega);rw[dV hj',VY]at hx;generalize hX:av l j=X at hx;have hp:=Wt X.a de;by_cases h2:X.op=210
 .rw[az h2]at hx;simp only[go_sem,aF h1,hX,zH,zG,zI,aD h2];refine⟨by omega,h1,rfl,rfl,_,hp,?_⟩;refine aH (j+1,xQ de X.a) ⟨show j+1<=l.length by omega,hx⟩ (show l.length-(j+1)<l.length-j by omega) (Wk.of ?_ ?_)
  .simp only[go_sem,e8];try simp
  .simp only[go_sem,zH,zG,zI];try rfl
 .rw[an h2]at hx;simp only[go_sem,aF h1,hX,zH,zG,zI,ac h2];refine⟨by omega,h1,?_⟩;refine aH (j+1,de) ⟨show j+1<=l.length by omega,hx⟩ (show l.length-(j+1)<l.length-j by omega) (Wk.of ?_ ?_)
  .simp only[go_sem,e8];try simp
  .simp only[go_sem,zH,zG,zI];try rfl
end
section
open Go Go.Mw
def qC:au:=⟨124,1,[[.mp 26 9 0 0]],true⟩
def alr:qC =⟨124,1,[[.mp 26 9 0 0]],true⟩:=rfl
def qR(n0 n1 n2 n3 n4 n5:Nat)(ds:Int):au:=⟨129,9,[[.ms 2000 2 0 n0,.ms 2001 1 0 n1,.ms 2002 4 0 n2,.ms 2003 3 0 n3,.ms 2004 2 0 n4,.ms 2005 1 0 n5,.int .i64 ds,.mm 23 true,.mm 24 true]],true⟩
def als(n0 n1 n2 n3 n4 n5:Nat)(ds:Int):qR n0 n1 n2 n3 n4 n5 ds =⟨129,9,[[.ms 2000 2 0 n0,.ms 2001 1 0 n1,.ms 2002 4 0 n2,.ms 2003 3 0 n3,.ms 2004 2 0 n4,.ms 2005 1 0 n5,.int .i64 ds,.mm 23 true,.mm 24 true]],true⟩:=rfl
def qH(s:Sp):List (Nat×au):=[(3,qC),(26,qR s.ts.length s.fs.length s.tb.length s.ms.length s.gs.length s.el.length s.ds),(2000,⟨59,2,s.ts.map pt,false⟩),(2001,⟨3,1,s.fs.map aS,false⟩),(2002,⟨52,4,s.tb.map Dd,false⟩),(2003,⟨50,3,s.ms.map B5,false⟩),(2004,⟨54,2,s.gs.map Nq,false⟩),(2005,⟨48,1,s.el.map aS,false⟩),(23,@au.mk 0 0 [] false (.mp (s.im.map zq))),(24,@au.mk 0 0 [] false (.mp (s.de.map sX)))]
def iE(s:Sp):qH s=[(3,qC),(26,qR s.ts.length s.fs.length s.tb.length s.ms.length s.gs.length s.el.length s.ds),(2000,⟨59,2,s.ts.map pt,false⟩),(2001,⟨3,1,s.fs.map aS,false⟩),(2002,⟨52,4,s.tb.map Dd,false⟩),(2003,⟨50,3,s.ms.map B5,false⟩),(2004,⟨54,2,s.gs.map Nq,false⟩),(2005,⟨48,1,s.el.map aS,false⟩),(23,@au.mk 0 0 [] false (.mp (s.im.map zq))),(24,@au.mk 0 0 [] false (.mp (s.de.map sX)))]:=rfl
def M1{f:FuncId}{x:AV}{s s':Sp}(h:bA pg f [x,.mp 1000 1 0 0] (oH s) P3 (λr' σ'=>r' = .tup []/\σ'=oH s')){d:Option Nat}{w:St}{K:St->Prop}(hx:jI (bw [(1000,3),(1001,26),(2010,23),(2011,24)]) x=x)(hin:SB w.heap (qH s))
  (hk:K ((St.mk (jG [2000,2001,2002,2003,2004,2005,23,24] w.env) (qH s'++jm [2000,2001,2002,2003,2004,2005,23,24] w.heap)).put d (.tup []))):cO pg f [x,.mp 3 1 0 0] d w K:=by
 refine dU (σ2:=qH s) (σ3:=qH s') (r3:=.tup []) h [(1000,3),(1001,26),(2010,23),(2011,24)] [2000,2001,2002,2003,2004,2005,23,24] ?_ rfl rfl rfl (rg hin) (λp hp=>?_) (λp hp=>?_) hk
 .rw[cM,hx];rfl
 .simp only[qH,bM,cH,or_false]at hp;rcases hp with rfl|rfl|rfl|rfl|rfl|rfl|rfl|rfl|rfl|rfl
  .exact .inl ⟨⟨show 1000<=1000 by decide,show 1000<2000 by decide⟩,rfl⟩
  .exact .inl ⟨⟨show 1000<=1001 by decide,show 1001<2000 by decide⟩,rfl⟩
  .exact .inr ⟨by simp,.inr (show 2000<=2000 by decide),.inl rfl⟩
  .exact .inr ⟨by simp,.inr (show 2000<=2001 by decide),.inl rfl⟩
  .exact .inr ⟨by simp,.inr (show 2000<=2002 by decide),.inl rfl⟩
  .exact .inr ⟨by simp,.inr (show 2000<=2003 by decide),.inl rfl⟩
  .exact .inr ⟨by simp,.inr (show 2000<=2004 by decide),.inl rfl⟩
  .exact .inr ⟨by simp,.inr (show 2000<=2005 by decide),.inl rfl⟩
  .exact .inr ⟨by simp,.inl (show 23<1000 by decide),.inl rfl⟩
  .exact .inr ⟨by simp,.inl (show 24<1000 by decide),.inl rfl⟩
 .simp only[qH,bM,cH,or_false]at hp;rcases hp with rfl|rfl|rfl|rfl|rfl|rfl|rfl|rfl|rfl|rfl<;>rfl
def sp0(m:Md):Sp:=⟨[],[],[],[],[],[],m.ds.length,[],[]⟩
structure B_(m:Md):Prop where
 ts:m.ts.length<=10000
 ims:m.ims.length<=10000
 fs:m.fs.length<=10000
 tb:m.tbs.length<=10000
 ms:m.ms.length<=10000
 gs:m.gs.length<=10000
 exs:m.exs.length<=10000
 els:m.els.length<=10000
 gi:∀g∈m.gs,g.i.length<=1000000
 ei:∀e∈m.els,e.it.length<=1000000/\∀l∈e.it,l.length<=1000000
 tb2:∀x∈m.ts,x.ps.length<=1000000/\x.rs.length<=1000000
def It(k k':Int):∀es:List (Int×Int),x_ k' (k9 k es)=x_ k' es+(if k'=k then 1 else 0)
 | []=>by
  simp only[k9,x_];by_cases h:k'=k
  .simp[h]
  .rw[an (λq=>h q.symm),an h];rfl
 | e::r=>by
  have ih:=It k k' r;simp only[k9];by_cases h:e.1=k
  .rw[az h];simp only[x_];by_cases h2:k'=k
   .rw[az h2.symm,az (by rw[h,h2]),az h2]
   .rw[an (λq=>h2 q.symm),an (λq=>h2 (by rw[<-q,h])),an h2];simp
  .rw[an h];simp only[x_];by_cases h2:e.1=k'
   .rw[az h2,az h2,an (λq=>h (by rw[h2,q]))];simp
   .rw[an h2,an h2,ih]
def adI{n:Nat}{s:Sp}(h:oSm n s)(x:Im):oSm (n+1) (Cm s x):=by
 obtain⟨h1,h2,h3,h4,h5,h6,h7⟩:=h;have h7':∀k,0<=x_ k (k9 x.k s.im)/\x_ k (k9 x.k s.im)<=(n+1:Nat):=λk=>by
  have:=h7 k;rw[It];split<;>omega
 unfold Cm;dsimp only;split
 .exact⟨by dsimp only;omega,by simp;omega,by dsimp only;omega,by dsimp only;omega,by dsimp only;omega,by dsimp only;omega,h7'⟩
 split
 .exact⟨by dsimp only;omega,by dsimp only;omega,by simp;omega,by dsimp only;omega,by dsimp only;omega,by dsimp only;omega,h7'⟩
 split
 .exact⟨by dsimp only;omega,by dsimp only;omega,by dsimp only;omega,by simp;omega,by dsimp only;omega,by dsimp only;omega,h7'⟩
 split
 .exact⟨by dsimp only;omega,by dsimp only;omega,by dsimp only;omega,by dsimp only;omega,by simp;omega,by dsimp only;omega,h7'⟩
 .exact⟨by dsimp only;omega,by dsimp only;omega,by dsimp only;omega,by dsimp only;omega,by dsimp only;omega,by dsimp only;omega,h7'⟩
def DR(s:Sp)(g:Gd):Sp:={s with gs:=s.gs++[g.g],de:=yl g.i s.de}
def Iq(l:List (List bj))(de:List Int):List Int:=l.foldl (λd x=>yl x d) de
def Na(s:Sp)(e:El):Sp:={s with el:=s.el++[e.ty],de:=Iq e.it s.de}
def If(s:Sp)(e:Ex):Sp:=if e.k=0 then{s with de:=xQ s.de e.i}else s
def mk1(m:Md):Sp:={sp0 m with ts:=m.ts}
def mk2(m:Md):Sp:=m.ims.foldl Cm (mk1 m)
def mk3(m:Md):Sp:={mk2 m with fs:=(mk2 m).fs++m.fs.map (·.t)}
def mk4(m:Md):Sp:={mk3 m with tb:=(mk3 m).tb++m.tbs}
def mk5(m:Md):Sp:={mk4 m with ms:=(mk4 m).ms++m.ms}
def mk6(m:Md):Sp:=m.gs.foldl DR (mk5 m)
def mk7(m:Md):Sp:=m.els.foldl Na (mk6 m)
def mk8(m:Md):Sp:=m.exs.foldl If (mk7 m)
def CU{α β:Type}[Inhabited α](f:β->α->β){l:List α}{j:Nat}(h:j<l.length)(b:β):(l.drop j).foldl f b=(l.drop (j+1)).foldl f (f b (av l j)):=by
 rw[dV h,List.foldl_cons]
instance:Inhabited Im:=⟨⟨[],[],0,0,0,default,default,default⟩⟩
attribute[local go_sem] bY aW cX bT lc du eY fM fZ nP aM iB als alr
def agt(m:Md)(h:B_ m):aj pg NS [ba m] (tg (mk8 m)):=by
 refine cE (ic:=jp 34 (jp 65 (jp 77 (jp 87 (jp 105 (jp 128 xO.body)))))) fD (cF xO) (by rfl) rfl ?_;simp only[go_sem,xO,jp,ba];have hgo:∀(q:Sp),qH q++[(1,⟨33,12,[nX m],true⟩)]=qH q++[(1,⟨33,12,[nX m],true⟩)]:=λ_=>rfl;refine aA (λq:Nat=>⟨[(30,.int .i64 q),(29,.int .i64 m.ts.length),(28,.sl 2 (m.ts.map pt)),(3,.mp 3 1 0 0),(1,.mp 1 12 0 0)],qH {sp0 m with ts:=m.ts.take q}++[(1,⟨33,12,[nX m],true⟩)]⟩)
  (λq=>q<=m.ts.length) (λq=>m.ts.length-q) 0 (dx _) (((((((Wk.new0 _ 2000 2 59 (by decide)).trans (Wk.new0 _ 2001 1 3 (by decide))).trans (Wk.new0 _ 2002 4 52 (by decide))).trans (Wk.new0 _ 2003 3 50 (by decide))).trans ((Wk.new0 _ 2004 2 54 (by decide)).trans (Wk.new0 _ 2005 1 48 (by decide)))).trans
   (Wk.nlm _ 26 (t:=129) (st:=9) (r:=[.nl,.nl,.nl,.nl,.nl,.nl,.int .i64 m.ds.length,.mm 23 true,.mm 24 true]) (r':=[.ms 2000 2 0 0,.ms 2001 1 0 0,.ms 2002 4 0 0,.ms 2003 3 0 0,.ms 2004 2 0 0,.ms 2005 1 0 0,.int .i64 m.ds.length,.mm 23 true,.mm 24 true]) (by simp only[go_sem]) ⟨.inr ⟨rfl,.inr ⟨2000,2,rfl⟩⟩,.inr ⟨rfl,.inr ⟨2001,1,rfl⟩⟩,.inr ⟨rfl,.inr ⟨2002,4,rfl⟩⟩,.inr ⟨rfl,.inr ⟨2003,3,rfl⟩⟩,.inr ⟨rfl,.inr ⟨2004,2,rfl⟩⟩,.inr ⟨rfl,.inr ⟨2005,1,rfl⟩⟩,.inl rfl,.inl rfl,.inl rfl,trivial⟩)).trans (Wk.of ?_ ?_)) ?_
 .simp only[go_sem];try simp
 .simp only[go_sem,iE,sp0,jK];try rfl
 .intro j hj;replace hj:j<=m.ts.length:=hj;by_cases h1:(j:Int)<(m.ts.length:Int)
  .have hj':j<m.ts.length:=by omega
   have e8:=cK hj' (by have:=h.ts;omega);have hx:=h.tb2 (av m.ts j) (by rw[aY hj'];exact eH _);have hc:=Mj (av m.ts j) hx;have htk:=JT hj';have htl:(m.ts.take j).length=j:=by rw[vm];omega
   generalize hX:av m.ts j=X at hc htk hx;simp only[aW]at hc;have hfe:(m.ts.take j).map pt++[pt X]=(m.ts.take (j+1)).map pt:=by rw[htk,dY];rfl
   have htl2:(m.ts.take (j+1)).length=j+1:=by rw[vm];omega
   simp only[aW]at hfe;simp only[go_sem,aF h1,iE,hX];refine⟨by omega,h1,?_⟩;refine ax hc (by simp[go_sem]) rfl ?_;simp only[go_sem];refine fH _ _ (jN (id:=2000) (len:=(m.ts.take j).length) (rows:=(m.ts.take j).map pt) (ys:=[pt X]) (by rfl) (by rfl) (by rfl) (by rw[bY]) (by simp) (by have:=h.ts;omega) (by decide)) (by simp only[go_sem]) (by rfl) (by simp only[go_sem];rfl) (by simp only[go_sem]) ?_;simp only[go_sem,hfe];refine aH (j+1) (show j+1<=m.ts.length by omega) (show m.ts.length-(j+1)<m.ts.length-j by omega) (Wk.of ?_ ?_)
   .simp only[go_sem,e8];try simp
   .simp only[go_sem,iE,htl,htl2,i9,eG];try rfl
  have hje:j=m.ts.length:=by omega
  subst hje;have hS1:({sp0 m with ts:=m.ts.take m.ts.length}:Sp)=mk1 m:=by rw[rN];rfl
  rw[hS1];have b1:oSm 10000 (mk1 m):=⟨h.ts,dx _,dx _,dx _,dx _,dx _,λk=>⟨by show(0:Int)<=0;omega,by show(0:Int)<=_;omega⟩⟩
  obtain⟨S2,hS2⟩:∃S,mk2 m=S:=⟨_,rfl⟩
  have hS2':m.ims.foldl Cm (mk1 m)=S2:=hS2;simp only[go_sem,aI h1,iE];refine aA (λq:Nat×Sp=>⟨[(50,.int .i64 q.1),(49,.int .i64 m.ims.length),(48,.sl 13 (m.ims.map KH)),(6,.fn zE [.mp 3 1 0 0]),(3,.mp 3 1 0 0),(1,.mp 1 12 0 0)],qH q.2++[(1,⟨33,12,[nX m],true⟩)]⟩)
   (λq=>q.1<=m.ims.length/\oSm (10000+q.1) q.2/\(m.ims.drop q.1).foldl Cm q.2=S2) (λq=>m.ims.length-q.1) (0,mk1 m) ⟨dx _,b1,hS2'⟩ (Wk.of ?_ ?_) ?_
  .simp only[go_sem];try simp
  .simp only[go_sem,iE];try rfl
  rintro⟨j,s⟩ ⟨hj,hb,hf⟩;dsimp only at hj hb hf;by_cases h2:(j:Int)<(m.ims.length:Int)
  .have hj':j<m.ims.length:=by omega
   have e8:=cK hj' (by have:=h.ims;omega);rw[CU Cm hj']at hf;generalize hX:av m.ims j=X at hf;have hbb:=adI hb X;have hm:=aaD s X ⟨by have:=hb.ts;have:=h.ims;omega,by have:=hb.fs;have:=h.ims;omega,by have:=hb.tb;have:=h.ims;omega,by have:=hb.ms;have:=h.ims;omega,by have:=hb.gs;have:=h.ims;omega,by have:=hb.el;have:=h.ims;omega,λk=>⟨(hb.im k).1,by have:=(hb.im k).2;have:=h.ims;omega⟩⟩;generalize Cm s X=s' at hm hf hbb;simp only[go_sem,aF h2,hX,iE];refine⟨by omega,h2,?_⟩;rw[az (by decide)];refine⟨by kernel_rfl,?_⟩;refine M1 hm rfl (by simp only[go_sem,iE]) ?_;simp only[go_sem,iE];refine aH (j+1,s') ⟨show j+1<=m.ims.length by omega,by rw[show 10000+(j+1)=10000+j+1 from rfl];exact hbb,hf⟩ (show m.ims.length-(j+1)<m.ims.length-j by omega) (Wk.of ?_ ?_)
   .simp only[go_sem,e8];try simp
   .simp only[go_sem,iE];try rfl
  have hje:j=m.ims.length:=by omega
  rw[hje,a_ (aQ _)]at hf;obtain rfl:s=S2:=hf;have hb2:oSm 20000 s:=⟨by have:=hb.ts;have:=h.ims;omega,by have:=hb.fs;have:=h.ims;omega,by have:=hb.tb;have:=h.ims;omega,by have:=hb.ms;have:=h.ims;omega,by have:=hb.gs;have:=h.ims;omega,by have:=hb.el;have:=h.ims;omega,λk=>⟨(hb.im k).1,by have:=(hb.im k).2;have:=h.ims;omega⟩⟩
  simp only[go_sem,aI h2,iE];clear h1 h2 hj hb hje;refine aA (λq:Nat=>⟨[(61,.int .i64 q),(60,.int .i64 m.fs.length),(59,.sl 3 (m.fs.map Sx)),(3,.mp 3 1 0 0),(1,.mp 1 12 0 0)],qH {s with fs:=s.fs++(m.fs.take q).map (·.t)}++[(1,⟨33,12,[nX m],true⟩)]⟩)
   (λq=>q<=m.fs.length) (λq=>m.fs.length-q) 0 (dx _) (Wk.of ?_ ?_) ?_
  .simp only[go_sem];try simp
  .simp only[go_sem,iE,jK,eA,ml];try rfl
  intro j hj;replace hj:j<=m.fs.length:=hj;by_cases h1:(j:Int)<(m.fs.length:Int)
  .have hj':j<m.fs.length:=by omega
   have e8:=cK hj' (by have:=h.fs;omega);have htk:=JT hj';have htl:(m.fs.take j).length=j:=by rw[vm];omega
   have htl2:(m.fs.take (j+1)).length=j+1:=by rw[vm];omega
   generalize hX:av m.fs j=X at htk;have hfe:(s.fs++(m.fs.take j).map (·.t)).map aS++[[.int .i64 X.t]]=(s.fs++(m.fs.take (j+1)).map (·.t)).map aS:=by rw[htk];simp[aS]
   have hll:(s.fs++(m.fs.take j).map (·.t)).length=s.fs.length+j:=by rw[dN,bY,htl]
   have hll2:(s.fs++(m.fs.take (j+1)).map (·.t)).length=s.fs.length+j+1:=by rw[dN,bY,htl2];rfl
   simp only[go_sem,aF h1,iE,hX];refine⟨by omega,h1,?_⟩;refine fH _ _ (jN (id:=2001) (len:=(s.fs++(m.fs.take j).map (·.t)).length) (rows:=(s.fs++(m.fs.take j).map (·.t)).map aS) (ys:=[[.int .i64 X.t]]) (by rfl) (by rfl) (by rfl) (by rw[bY]) (by simp) (by have:=h.fs;have:=hb2.fs;omega) (by decide)) (by simp only[go_sem]) (by rfl) (by simp only[go_sem];rfl) (by simp only[go_sem]) ?_;simp only[go_sem,hfe];refine aH (j+1) (show j+1<=m.fs.length by omega) (show m.fs.length-(j+1)<m.fs.length-j by omega) (Wk.of ?_ ?_)
   .simp only[go_sem,e8];try simp
   .simp only[go_sem,iE,hll,hll2,i9,eG];try rfl
  have hje:j=m.fs.length:=by omega
  subst hje;rw[rN];obtain⟨S3,hS3⟩:∃S,mk3 m=S:=⟨_,rfl⟩
  have hS3':({s with fs:=s.fs++m.fs.map (·.t)}:Sp)=S3:=by rw[<-hS3,mk3,hS2]
  rw[hS3'];have hb3:S3.tb.length<=20000/\S3.ms.length<=20000/\S3.gs.length<=20000/\S3.el.length<=20000:=by rw[<-hS3'];exact⟨hb2.tb,hb2.ms,hb2.gs,hb2.el⟩
  obtain⟨g1,g2,g3,g4⟩:=hb3;simp only[go_sem,aI h1,iE];clear h1 hj;refine fH _ _ (jN (id:=2002) (len:=S3.tb.length) (rows:=S3.tb.map Dd) (ys:=m.tbs.map Dd) (by rfl) (by rfl) (by rfl) (by rw[bY]) (by rw[bY];have:=h.tb;omega) (by omega) (by decide)) (by simp only[go_sem]) (by rfl) (by simp only[go_sem];rfl) (by simp only[go_sem]) ?_;simp only[go_sem];refine fH _ _ (jN (id:=2003) (len:=S3.ms.length) (rows:=S3.ms.map B5) (ys:=m.ms.map B5) (by rfl) (by rfl) (by rfl) (by rw[bY]) (by rw[bY];have:=h.ms;omega) (by omega) (by decide)) (by simp only[go_sem]) (by rfl) (by simp only[go_sem];rfl) (by simp only[go_sem]) ?_;simp only[go_sem];obtain⟨S5,hS5⟩:∃S,mk5 m=S:=⟨_,rfl⟩
  have hS5':({S3 with tb:=S3.tb++m.tbs,ms:=S3.ms++m.ms}:Sp)=S5:=by rw[<-hS5,mk5,mk4,hS3]
  have h5g:S5.gs.length<=20000/\S5.el.length<=20000:=by rw[<-hS5'];exact⟨g3,g4⟩
  obtain⟨h5g,h5e⟩:=h5g;obtain⟨S6,hS6⟩:∃S,mk6 m=S:=⟨_,rfl⟩
  have hS6':m.gs.foldl DR S5=S6:=by rw[<-hS6,mk6,hS5]
  refine aA (λq:Nat×Sp=>⟨[(101,.int .i64 q.1),(100,.int .i64 m.gs.length),(99,.sl 3 (m.gs.map Zx)),(11,.fn nn [.mp 3 1 0 0]),(3,.mp 3 1 0 0),(1,.mp 1 12 0 0)],qH q.2++[(1,⟨33,12,[nX m],true⟩)]⟩)
   (λq=>q.1<=m.gs.length/\(q.2.gs.length<=20000+q.1/\q.2.el.length<=20000)/\(m.gs.drop q.1).foldl DR q.2=S6) (λq=>m.gs.length-q.1) (0,S5) ⟨dx _,⟨h5g,h5e⟩,hS6'⟩ (Wk.of ?_ ?_) ?_
  .simp only[go_sem];try simp
  .rw[<-hS5'];simp only[go_sem,iE,dY,dN];try rfl
  rintro⟨j,s⟩ ⟨hj,⟨hb1,hbe⟩,hf⟩;dsimp only at hj hb1 hbe hf;by_cases h1:(j:Int)<(m.gs.length:Int)
  .have hj':j<m.gs.length:=by omega
   have e8:=cK hj' (by have:=h.gs;omega);have hxi:=h.gi (av m.gs j) (by rw[aY hj'];exact eH _);rw[CU DR hj']at hf;generalize hX:av m.gs j=X at hf hxi;have hm:=acH {s with gs:=s.gs++[X.g]} X.i hxi;have hg:({s with gs:=s.gs++[X.g],de:=yl X.i s.de}:Sp)=DR s X:=rfl;have hgl:(DR s X).gs.length<=20000+(j+1):=by rw[<-hg];simp;omega
   have hel:(DR s X).el.length<=20000:=hbe;rw[show({({s with gs:=s.gs++[X.g]}:Sp)with de:=yl X.i ({s with gs:=s.gs++[X.g]}:Sp).de}:Sp)=DR s X from rfl]at hm;generalize DR s X=s' at hm hf hgl hel;simp only[go_sem,aF h1,hX,iE];refine⟨by omega,h1,?_⟩;refine fH _ _ (jN (id:=2004) (len:=s.gs.length) (rows:=s.gs.map Nq) (ys:=[Nq X.g]) (by rfl) (by rfl) (by rfl) (by rw[bY]) (by simp) (by have:=h.gs;omega) (by decide)) (by simp only[go_sem]) (by rfl) (by simp only[go_sem];rfl) (by simp only[go_sem]) ?_;simp only[go_sem];rw[az (by decide)];refine⟨by kernel_rfl,?_⟩;refine M1 hm rfl (by simp only[go_sem,iE,dY,dN,cM,eA,i9,eG]) ?_;simp only[go_sem,iE];refine aH (j+1,s') ⟨show j+1<=m.gs.length by omega,⟨hgl,hel⟩,hf⟩ (show m.gs.length-(j+1)<m.gs.length-j by omega) (Wk.of ?_ ?_)
   .simp only[go_sem,e8];try simp
   .simp only[go_sem,iE];try rfl
  have hje:j=m.gs.length:=by omega
  rw[hje,a_ (aQ _)]at hf;obtain rfl:s=S6:=hf;simp only[go_sem,aI h1,iE];clear h1 hj hb1 hje;obtain⟨S7,hS7⟩:∃S,mk7 m=S:=⟨_,rfl⟩
  have hS7':m.els.foldl Na s=S7:=by rw[<-hS7,mk7,hS6]
  refine aA (λq:Nat×Sp=>⟨[(124,.int .i64 q.1),(123,.int .i64 m.els.length),(122,.sl 5 (m.els.map Kq)),(11,.fn nn [.mp 3 1 0 0]),(3,.mp 3 1 0 0),(1,.mp 1 12 0 0)],qH q.2++[(1,⟨33,12,[nX m],true⟩)]⟩)
   (λq=>q.1<=m.els.length/\q.2.el.length<=20000+q.1/\(m.els.drop q.1).foldl Na q.2=S7) (λq=>m.els.length-q.1) (0,s) ⟨dx _,hbe,hS7'⟩ (Wk.of ?_ ?_) ?_
  .simp only[go_sem];try simp
  .simp only[go_sem,iE];try rfl
  rintro⟨j,s2⟩ ⟨hj,hb1,hf⟩;dsimp only at hj hb1 hf;by_cases h1:(j:Int)<(m.els.length:Int)
  .have hj':j<m.els.length:=by omega
   have e8:=cK hj' (by have:=h.els;omega);obtain⟨hxi,hxl⟩:=h.ei (av m.els j) (by rw[aY hj'];exact eH _);rw[CU Na hj']at hf;generalize hX:av m.els j=X at hf hxi hxl;simp only[go_sem,aF h1,hX,iE];refine⟨by omega,h1,?_⟩;refine fH _ _ (jN (id:=2005) (len:=s2.el.length) (rows:=s2.el.map aS) (ys:=[[.int .i64 X.ty]]) (by rfl) (by rfl) (by rfl) (by rw[bY]) (by simp) (by have:=h.els;omega) (by decide)) (by simp only[go_sem]) (by rfl) (by simp only[go_sem];rfl) (by simp only[go_sem]) ?_;simp only[go_sem];refine aA (λq:Nat×List Int=>⟨[(142,.int .i64 q.1),(141,.int .i64 X.it.length),(140,.sl 1 (X.it.map DW)),(124,.int .i64 j),(123,.int .i64 m.els.length),(122,.sl 5 (m.els.map Kq)),(11,.fn nn [.mp 3 1 0 0]),(3,.mp 3 1 0 0),(1,.mp 1 12 0 0)],qH {s2 with el:=s2.el++[X.ty],de:=q.2}++[(1,⟨33,12,[nX m],true⟩)]⟩)
    (λq=>q.1<=X.it.length/\Iq (X.it.drop q.1) q.2=Iq X.it s2.de) (λq=>X.it.length-q.1) (0,s2.de) ⟨dx _,rfl⟩ (Wk.of ?_ ?_) ?_
   .simp only[go_sem];try simp
   .simp only[go_sem,iE,dY,dN,cM,eA,i9,eG];try rfl
   rintro⟨i,de⟩ ⟨hi,hd⟩;dsimp only at hi hd;by_cases h2:(i:Int)<(X.it.length:Int)
   .have hi':i<X.it.length:=by omega
    have e9:=cK hi' (by omega);have hxm:=hxl (av X.it i) (by rw[aY hi'];exact eH _);rw[dV hi']at hd;have hd:Iq (X.it.drop (i+1)) (yl (av X.it i) de)=Iq X.it s2.de:=hd;generalize hY:av X.it i=Y at hd hxm;have hm:=acH {s2 with el:=s2.el++[X.ty],de:=de} Y hxm;simp only[go_sem,aF h2,hY,iE];refine⟨by omega,h2,?_⟩;rw[az (by decide)];refine⟨by kernel_rfl,?_⟩;refine M1 hm rfl (by simp only[go_sem,iE]) ?_;simp only[go_sem,iE];refine aH (i+1,yl Y de) ⟨show i+1<=X.it.length by omega,hd⟩ (show X.it.length-(i+1)<X.it.length-i by omega) (Wk.of ?_ ?_)
    .simp only[go_sem,e9];try simp
    .simp only[go_sem,iE];try rfl
   have hie:i=X.it.length:=by omega
   rw[hie,a_ (aQ _)]at hd;have hd:de=Iq X.it s2.de:=hd;subst hd;have hel:(Na s2 X).el.length<=20000+(j+1):=by show(s2.el++[X.ty]).length<=_;simp;omega
   simp only[go_sem,aI h2,iE];refine aH (j+1,{s2 with el:=s2.el++[X.ty],de:=Iq X.it s2.de}) ⟨show j+1<=m.els.length by omega,hel,hf⟩ (show m.els.length-(j+1)<m.els.length-j by omega) (Wk.of ?_ ?_)
   .simp only[go_sem,e8];try simp
   .simp only[go_sem,iE];try rfl
  have hje:j=m.els.length:=by omega
  rw[hje,a_ (aQ _)]at hf;obtain rfl:s2=S7:=hf;simp only[go_sem,aI h1,iE];clear h1 hj hb1 hje;obtain⟨S8,hS8⟩:∃S,mk8 m=S:=⟨_,rfl⟩
  rw[hS8];have hS8':m.exs.foldl If s2=S8:=by rw[<-hS8,mk8,hS7]
  refine aA (λq:Nat×Sp=>⟨[(154,.int .i64 q.1),(153,.int .i64 m.exs.length),(152,.sl 3 (m.exs.map T5)),(3,.mp 3 1 0 0),(1,.mp 1 12 0 0)],qH q.2++[(1,⟨33,12,[nX m],true⟩)]⟩)
   (λq=>q.1<=m.exs.length/\(m.exs.drop q.1).foldl If q.2=S8) (λq=>m.exs.length-q.1) (0,s2) ⟨dx _,hS8'⟩ (Wk.of ?_ ?_) ?_
  .simp only[go_sem];try simp
  .simp only[go_sem,iE];try rfl
  rintro⟨j,s3⟩ ⟨hj,hf⟩;dsimp only at hj hf;by_cases h1:(j:Int)<(m.exs.length:Int)
  .have hj':j<m.exs.length:=by omega
   have e8:=cK hj' (by have:=h.exs;omega);rw[CU If hj']at hf;generalize hX:av m.exs j=X at hf;have hp:=Wt X.i s3.de;by_cases h2:X.k=0
   .rw[If,az h2]at hf;simp only[go_sem,aF h1,hX,iE,aD h2];refine⟨by omega,h1,rfl,rfl,_,hp,?_⟩;refine aH (j+1,{s3 with de:=xQ s3.de X.i}) ⟨show j+1<=m.exs.length by omega,hf⟩ (show m.exs.length-(j+1)<m.exs.length-j by omega) (Wk.of ?_ ?_)
    .simp only[go_sem,e8];try simp
    .simp only[go_sem,iE];try rfl
   .rw[If,an h2]at hf;simp only[go_sem,aF h1,hX,iE,ac h2];refine⟨by omega,h1,?_⟩;refine aH (j+1,s3) ⟨show j+1<=m.exs.length by omega,hf⟩ (show m.exs.length-(j+1)<m.exs.length-j by omega) (Wk.of ?_ ?_)
    .simp only[go_sem,e8];try simp
    .simp only[go_sem,iE];try rfl
  have hje:j=m.exs.length:=by omega
  rw[hje,a_ (aQ _)]at hf;obtain rfl:s3=S8:=hf;simp only[go_sem,aI h1,iE];refine dB (((Wk.frzs [2000,2001,2002,2003,2004,2005,23,24] _).trans (Wk.unrec _ 26 (t:=129) (st:=9) (r:=spC s3) (by simp only[go_sem,aQ,i0,fo,dk,aR]) ?_)).trans ((Wk.frzs [26] _).trans (Wk.unrec _ 170 (t:=134) (st:=1) (r:=[.ip (spC s3)]) ?_ ?_))) [170] ?_ (by rfl)
  .intro x hx;simp only[aR,bM,cH,or_false]at hx;rcases hx with rfl|rfl|rfl|rfl|rfl|rfl|rfl|rfl|rfl<;>exact⟨rfl,rfl⟩
  .simp only[go_sem,aR]
  .intro x hx;rw[fS.1 hx];exact⟨rfl,rfl⟩
  .simp only[go_sem,bF,aR]
end
section
open Go Go.Mw
attribute[local go_sem] lc nP eY fZ
attribute[local go_sem] bY aM aW du bT cX
def gJ(m:Md)(h:m.ims.length<=10000)(k:Int):aj pg AZ [ba m,.int .i64 k] (.int .i64 (dH k m.ims:Nat)):=by
 refine ao pQ ?_;simp only[go_sem,pQ,ba];refine aA (λj:Nat=>⟨[(6,.int .i64 j),(5,.int .i64 (dH k (m.ims.take j):Nat)),(2,.mp 2 12 0 0),(1,.int .i64 k)],[(2,⟨33,12,[nX m],true⟩)]⟩) (λj=>j<=m.ims.length) (λj=>m.ims.length-j) 0 (dx _) (Wk.of ?_ ?_) ?_
 .simp only[go_sem,jK,dH];try simp
 .simp only[go_sem]
 intro j hj;by_cases h1:(j:Int)<(m.ims.length:Int)
 .have hj':j<m.ims.length:=by omega
  have e8:=cK hj' (by omega);have t:=M5 (k:=k) hj';have hle:dH k (m.ims.take j)<=m.ims.length:=gD (iO k (m.ims.take j)) (by rw[vm];omega);by_cases q:(av m.ims j).k=k
  .rw[az q]at t;have w:IntKind.i64.wrap ((dH k (m.ims.take j):Int)+1)=((dH k (m.ims.take j)+1:Nat):Int):=by rw[wi (by omega) (by omega)];omega
   simp only[go_sem,aF h1,aD q];refine⟨by omega,h1,aH (j+1) (show j+1<=m.ims.length by omega) (show m.ims.length-(j+1)<m.ims.length-j by omega) (Wk.of ?_ ?_)⟩
   .simp only[go_sem,e8,t,w];try simp
   .simp only[go_sem]
  .rw[an q,Nat.add_zero]at t;simp only[go_sem,aF h1,ac q];refine⟨by omega,h1,aH (j+1) (show j+1<=m.ims.length by omega) (show m.ims.length-(j+1)<m.ims.length-j by omega) (Wk.of ?_ ?_)⟩
   .simp only[go_sem,e8,t];try simp
   .simp only[go_sem]
 .obtain rfl:j=m.ims.length:=by omega
  rw[rN];simp only[go_sem,aI h1];exact ah
def j7(k:Int)(l:List Im):List Im:=l.filter λx=>x.k==k
def aeI{k:Int}{x:Im}{l:List Im}(h:x.k=k):j7 k (x::l)=x::j7 k l:=by unfold j7;rw[List.filter_cons_of_pos (by simpa using h)]
def aeH{k:Int}{x:Im}{l:List Im}(h:¬x.k=k):j7 k (x::l)=j7 k l:=by unfold j7;rw[List.filter_cons_of_neg (by simpa using h)]
def Tv{α:Type}{x:α}{l:List α}:cx (x::l) 0=some x:=rfl
def YU{α:Type}{x:α}{l:List α}{i:Int}(h:0<=i)(h0:i≠0):cx (x::l) i=cx l (i-1):=by
 unfold cx;rw[az h,az (by omega),show i.toNat=(i-1).toNat+1 by omega];rfl
def JC(m:Md)(h:m.ims.length<=10000)(k i:Int)(hi:0<=i)(hi2:i<9223372036854775808):aj pg Lk [ba m,.int .i64 k,.int .i64 i] (.tup [.agg (KH ((cx (j7 k m.ims) i).getD default)),.bool (cx (j7 k m.ims) i).isSome]):=by
 refine ao BF ?_;obtain⟨R,hR⟩:∃R,cx (j7 k m.ims) i=R:=⟨_,rfl⟩
 rw[hR];simp only[go_sem,BF,ba];refine aA (λq:Nat×Int=>⟨[(8,.int .i64 q.1),(2,.int .i64 q.2),(3,.mp 3 12 0 0),(6,.mp 6 13 0 0),(7,.bool false),(1,.int .i64 k)],[(3,⟨33,12,[nX m],true⟩),(6,⟨56,13,[KH default],true⟩)]⟩) (λq=>q.1<=m.ims.length/\0<=q.2/\q.2<9223372036854775808/\R=cx (j7 k (m.ims.drop q.1)) q.2) (λq=>m.ims.length-q.1) (0,i) ⟨dx _,hi,hi2,hR.symm⟩ (Wk.of ?_ ?_) ?_
 .simp only[go_sem];try simp
 .simp only[go_sem];try rfl
 rintro⟨j,i⟩ ⟨hj,hi,hi2,hR⟩;simp only at hj hi hi2 hR;by_cases h1:(j:Int)<(m.ims.length:Int)
 .have hj':j<m.ims.length:=by omega
  have e8:=cK hj' (by omega);rw[dV hj']at hR;by_cases q:(av m.ims j).k=k
  .rw[aeI q]at hR;by_cases q0:i=0
   .subst q0;rw[Tv]at hR;subst hR;simp only[go_sem,aF h1,ay q];refine⟨by omega,h1,by omega,h1,?_⟩;exact aq [] (by simp only[go_sem,cG,Option.isSome_some];try rfl) (by rfl)
   .rw[YU hi q0]at hR;have w:IntKind.i64.wrap (i-1)=i-1:=wi (by omega) (by omega);simp only[go_sem,aF h1,ay q,ac q0];refine⟨by omega,h1,aH (j+1,i-1) ⟨show j+1<=m.ims.length by omega,show 0<=i-1 by omega,show i-1<_ by omega,hR⟩ (show m.ims.length-(j+1)<m.ims.length-j by omega) (Wk.of ?_ ?_)⟩
    .simp only[go_sem,e8,w];try simp
    .simp only[go_sem]
  .rw[aeH q]at hR;simp only[go_sem,aF h1,aE q];refine⟨by omega,h1,aH (j+1,i) ⟨show j+1<=m.ims.length by omega,hi,hi2,hR⟩ (show m.ims.length-(j+1)<m.ims.length-j by omega) (Wk.of ?_ ?_)⟩
   .simp only[go_sem,e8];try simp
   .simp only[go_sem]
 .rw[a_ (by omega)]at hR;have:R=none:=by rw[hR];exact dI (by rcases Int.lt_or_le i 0 with z|z;exact .inl z;exact .inr z)
  subst this;simp only[go_sem,aI h1];exact aq [] (by rfl) (by rfl)
def s_(c:Nat)(n i:Int):Int:=if i<0 then -1 else if i-c<0\/i-c>=n then -1 else i-c
def JD(m:Md)(h:m.ims.length<=10000)(k i n:Int)(hi2:i<9223372036854775808):aj pg Ll [ba m,.int .i64 k,.int .i64 i,.int .i64 n] (.int .i64 (s_ (dH k m.ims) n i)):=by
 refine ao t_ ?_;have c:=gJ m h k;have hl:=iO k m.ims;generalize dH k m.ims=c0 at c hl⊢;simp only[ba,aM]at c;unfold s_;by_cases h0:i<0
 .rw[az h0];simp only[go_sem,t_,ba,aF h0];exact aq [] (by rfl) (by rfl)
 rw[an h0];have w:IntKind.i64.wrap (i-(c0:Int))=i-c0:=wi (by omega) (by omega);simp only[go_sem,t_,ba,aI h0];refine ae (c) ?_;by_cases h1:i-(c0:Int)<0
 .rw[az (.inl h1)];simp only[go_sem,w,aF h1];exact aq [] (by rfl) (by rfl)
 by_cases h2:i-(c0:Int)>=n
 .rw[az (.inr h2)];simp only[go_sem,w,aI h1,aF h2];exact aq [] (by rfl) (by rfl)
 rw[an (by omega)];simp only[go_sem,w,aI h1,aI h2];exact ah
def H9{α:Type}{A B:List α}{i:Int}(h:0<=i):cx (A++B) i=if i<(A.length:Int)then cx A i else cx B (i-A.length):=by
 unfold cx;rw[az h];by_cases q:i<(A.length:Int)
 .rw[az q,az h,MH (by omega)]
 .rw[an q,az (by omega),Ay (by omega)];congr 1;omega
def xT{α β:Type}(f:α->β)(l:List α)(i:Int):cx (l.map f) i=(cx l i).map f:=by
 unfold cx;split
 .exact iG
 .rfl
def zf{α:Type}{l:List α}{i:Int}(h:0<=i)(h2:i<l.length):(cx l i).isSome=true:=by
 unfold cx;rw[az h,kS (by omega)];rfl
def C6(m:Md)(i:Int)(hm:m.ts.length<=10000):aj pg I0 [ba m,.int .i64 i] (.tup [.agg (pt ((cx m.ts i).getD default)),.bool (cx m.ts i).isSome]):=by
 refine ao nb ?_;by_cases h0:i<0
 .rw[dI (.inl h0)];simp only[go_sem,nb,ba,aF h0];exact dB (Wk.nlh _ 4 (r:=[.nl,.nl]) (r':=[.sl 1 [],.sl 1 []]) (by rfl) ⟨.inr ⟨rfl,1,rfl⟩,.inr ⟨rfl,1,rfl⟩,trivial⟩) [] (by rfl) rfl
 by_cases h1:i>=(m.ts.length:Int)
 .rw[dI (.inr h1)];simp only[go_sem,nb,ba,aI h0,aF h1];exact dB (Wk.nlh _ 4 (r:=[.nl,.nl]) (r':=[.sl 1 [],.sl 1 []]) (by rfl) ⟨.inr ⟨rfl,1,rfl⟩,.inr ⟨rfl,1,rfl⟩,trivial⟩) [] (by rfl) rfl
 obtain⟨n,rfl⟩:∃n:Nat,i=(n:Int):=⟨i.toNat,by omega⟩
 have hn:n<m.ts.length:=by omega
 rw[my hn];simp only[go_sem,nb,ba,aI h0,aI h1];refine⟨by omega,by omega,?_⟩;exact aq [] (by simp only[go_sem,cL,cG,Option.isSome_some]) (by first|rfl|simp[go_sem,bJ])
def EU(m:Md)(h:m.ims.length<=10000)(h2:m.fs.length<=10000):aj pg Gn [ba m] (.int .i64 ((bO m).fs.length:Int)):=by
 refine ao wX ?_;have c:=gJ m h 0;have hl:=iO 0 m.ims;have e:(bO m).fs.length=dH 0 m.ims+m.fs.length:=by simp only[bO,dN,bY,dH]
 rw[e];generalize dH 0 m.ims=c0 at c hl⊢;simp only[ba,aM]at c;have w:IntKind.i64.wrap ((c0:Int)+m.fs.length)=((c0+m.fs.length:Nat):Int):=by rw[wi (by omega) (by omega)];omega
 simp only[go_sem,wX,ba];refine ax c (by simp[go_sem]) rfl ?_;simp only[go_sem,w];exact ah
def RN(m:Md)(h:m.ims.length<=10000)(h2:m.tbs.length<=10000):aj pg Ev [ba m] (.int .i64 ((bO m).tb.length:Int)):=by
 refine ao t8 ?_;have c:=gJ m h 1;have hl:=iO 1 m.ims;have e:(bO m).tb.length=dH 1 m.ims+m.tbs.length:=by simp only[bO,dN,bY,dH]
 rw[e];generalize dH 1 m.ims=c0 at c hl⊢;simp only[ba,aM]at c;have w:IntKind.i64.wrap ((c0:Int)+m.tbs.length)=((c0+m.tbs.length:Nat):Int):=by rw[wi (by omega) (by omega)];omega
 simp only[go_sem,t8,ba];refine ax c (by simp[go_sem]) rfl ?_;simp only[go_sem,w];exact ah
def aa9(m:Md)(h:m.ims.length<=10000)(h2:m.ms.length<=10000):aj pg IZ [ba m] (.int .i64 ((bO m).ms.length:Int)):=by
 refine ao yP ?_;have c:=gJ m h 2;have hl:=iO 2 m.ims;have e:(bO m).ms.length=dH 2 m.ims+m.ms.length:=by simp only[bO,dN,bY,dH]
 rw[e];generalize dH 2 m.ims=c0 at c hl⊢;simp only[ba,aM]at c;have w:IntKind.i64.wrap ((c0:Int)+m.ms.length)=((c0+m.ms.length:Nat):Int):=by rw[wi (by omega) (by omega)];omega
 simp only[go_sem,yP,ba];refine ax c (by simp[go_sem]) rfl ?_;simp only[go_sem,w];exact ah
def N9(m:Md)(h:m.ims.length<=10000)(h2:m.gs.length<=10000):aj pg CC [ba m] (.int .i64 ((bO m).gs.length:Int)):=by
 refine ao si ?_;have c:=gJ m h 3;have hl:=iO 3 m.ims;have e:(bO m).gs.length=dH 3 m.ims+m.gs.length:=by simp only[bO,dN,bY,dH]
 rw[e];generalize dH 3 m.ims=c0 at c hl⊢;simp only[ba,aM]at c;have w:IntKind.i64.wrap ((c0:Int)+m.gs.length)=((c0+m.gs.length:Nat):Int):=by rw[wi (by omega) (by omega)];omega
 simp only[go_sem,si,ba];refine ax c (by simp[go_sem]) rfl ?_;simp only[go_sem,w];exact ah
def uZ(m:Md)(h:m.ims.length<=10000)(h2:m.tbs.length<=10000)(i:Int)(hi:0<=i)(hi2:i<9223372036854775808):aj pg Gp [ba m,.int .i64 i] (.tup [.agg (Dd ((cx (bO m).tb i).getD default)),.bool (cx (bO m).tb i).isSome]):=by
 refine ao wY ?_;have c1:=JC m h 1 i hi hi2;have c2:=JD m h 1 i m.tbs.length hi2;have e:(bO m).tb=(j7 1 m.ims).map (λx=>(⟨x.te,x.tl⟩:Tb))++m.tbs:=rfl;rw[e,H9 hi,bY,show(j7 1 m.ims).length=dH 1 m.ims from rfl,xT];have hs:=λz:i<(dH 1 m.ims:Int)=>zf (l:=j7 1 m.ims) hi z;have hn:¬i<(dH 1 m.ims:Int)->cx (j7 1 m.ims) i=none:=λz=>dI (.inr (by show i>=(dH 1 m.ims:Int);omega));generalize cx (j7 1 m.ims) i=O at c1 hs hn⊢;generalize dH 1 m.ims=c0 at c2 hs hn⊢;simp only[ba,aM]at c1 c2;simp only[go_sem,wY,ba];refine ae (c1) ?_;by_cases q:i<(c0:Int)
 .obtain⟨x,rfl⟩:=Bv.1 (hs q);rw[az q];simp only[go_sem,Option.isSome_some,cG,fR];exact aq [] (by simp only[go_sem,Option.isSome_some,cG,fR];try rfl) (by rfl)
 rw[hn q,an q];simp only[go_sem,Option.isSome_none];refine ae (c2) ?_;by_cases q2:i-(c0:Int)>=m.tbs.length
 .have eo:s_ c0 m.tbs.length i = -1:=by unfold s_;rw[an (by omega),az (.inr q2)]
  rw[eo,dI (.inr (by exact q2))];simp only[go_sem,show decide ((-1:Int)>=0)=false from rfl];exact aq [] (by rfl) (by rfl)
 have eo:s_ c0 m.tbs.length i=i-c0:=by unfold s_;rw[an (by omega),an (by omega)]
 obtain⟨n,hn2⟩:∃n:Nat,i-(c0:Int)=(n:Int):=⟨(i-c0).toNat,by omega⟩
 have hn3:n<m.tbs.length:=by omega
 rw[eo,hn2,my hn3];simp only[go_sem,show decide ((n:Int)>=0)=true from aF (by omega)];refine⟨by omega,by omega,?_⟩;exact aq [] (by simp only[go_sem,Option.isSome_some,cG,fR];try rfl) (by rfl)
def af3(m:Md)(h:m.ims.length<=10000)(h2:m.ms.length<=10000)(i:Int)(hi:0<=i)(hi2:i<9223372036854775808):aj pg Lj [ba m,.int .i64 i] (.tup [.agg (B5 ((cx (bO m).ms i).getD default)),.bool (cx (bO m).ms i).isSome]):=by
 refine ao BE ?_;have c1:=JC m h 2 i hi hi2;have c2:=JD m h 2 i m.ms.length hi2;have e:(bO m).ms=(j7 2 m.ims).map (·.me)++m.ms:=rfl;rw[e,H9 hi,bY,show(j7 2 m.ims).length=dH 2 m.ims from rfl,xT];have hs:=λz:i<(dH 2 m.ims:Int)=>zf (l:=j7 2 m.ims) hi z;have hn:¬i<(dH 2 m.ims:Int)->cx (j7 2 m.ims) i=none:=λz=>dI (.inr (by show i>=(dH 2 m.ims:Int);omega));generalize cx (j7 2 m.ims) i=O at c1 hs hn⊢;generalize dH 2 m.ims=c0 at c2 hs hn⊢;simp only[ba,aM]at c1 c2;simp only[go_sem,BE,ba];refine ae (c1) ?_;by_cases q:i<(c0:Int)
 .obtain⟨x,rfl⟩:=Bv.1 (hs q);rw[az q];simp only[go_sem,Option.isSome_some,cG,fR];exact aq [] (by simp only[go_sem,Option.isSome_some,cG,fR];try rfl) (by rfl)
 rw[hn q,an q];simp only[go_sem,Option.isSome_none];refine ae (c2) ?_;by_cases q2:i-(c0:Int)>=m.ms.length
 .have eo:s_ c0 m.ms.length i = -1:=by unfold s_;rw[an (by omega),az (.inr q2)]
  rw[eo,dI (.inr (by exact q2))];simp only[go_sem,show decide ((-1:Int)>=0)=false from rfl];exact aq [] (by rfl) (by rfl)
 have eo:s_ c0 m.ms.length i=i-c0:=by unfold s_;rw[an (by omega),an (by omega)]
 obtain⟨n,hn2⟩:∃n:Nat,i-(c0:Int)=(n:Int):=⟨(i-c0).toNat,by omega⟩
 have hn3:n<m.ms.length:=by omega
 rw[eo,hn2,my hn3];simp only[go_sem,show decide ((n:Int)>=0)=true from aF (by omega)];refine⟨by omega,by omega,?_⟩;exact aq [] (by simp only[go_sem,Option.isSome_some,cG,fR];try rfl) (by rfl)
def HN(m:Md)(h:m.ims.length<=10000)(h2:m.gs.length<=10000)(i:Int)(hi:0<=i)(hi2:i<9223372036854775808):aj pg Eu [ba m,.int .i64 i] (.tup [.agg (Nq ((cx (bO m).gs i).getD default)),.bool (cx (bO m).gs i).isSome]):=by
 refine ao tZ ?_;have c1:=JC m h 3 i hi hi2;have c2:=JD m h 3 i m.gs.length hi2;have e:(bO m).gs=(j7 3 m.ims).map (·.g)++m.gs.map (·.g):=rfl;rw[e,H9 hi,bY,show(j7 3 m.ims).length=dH 3 m.ims from rfl,xT];have hs:=λz:i<(dH 3 m.ims:Int)=>zf (l:=j7 3 m.ims) hi z;have hn:¬i<(dH 3 m.ims:Int)->cx (j7 3 m.ims) i=none:=λz=>dI (.inr (by show i>=(dH 3 m.ims:Int);omega));generalize cx (j7 3 m.ims) i=O at c1 hs hn⊢;generalize dH 3 m.ims=c0 at c2 hs hn⊢;simp only[ba,aM]at c1 c2;simp only[go_sem,tZ,ba];refine ae (c1) ?_;by_cases q:i<(c0:Int)
 .obtain⟨x,rfl⟩:=Bv.1 (hs q);rw[az q];simp only[go_sem,Option.isSome_some,cG,fR];exact aq [] (by simp only[go_sem,Option.isSome_some,cG,fR];try rfl) (by rfl)
 rw[hn q,an q];simp only[go_sem,Option.isSome_none];refine ae (c2) ?_;by_cases q2:i-(c0:Int)>=m.gs.length
 .have eo:s_ c0 m.gs.length i = -1:=by unfold s_;rw[an (by omega),az (.inr q2)]
  rw[eo,dI (.inr (by rw[bY];exact q2))];simp only[go_sem,show decide ((-1:Int)>=0)=false from rfl];exact aq [] (by rfl) (by rfl)
 have eo:s_ c0 m.gs.length i=i-c0:=by unfold s_;rw[an (by omega),an (by omega)]
 obtain⟨n,hn2⟩:∃n:Nat,i-(c0:Int)=(n:Int):=⟨(i-c0).toNat,by omega⟩
 have hn3:n<m.gs.length:=by omega
 rw[eo,hn2,xT,my hn3];simp only[go_sem,show decide ((n:Int)>=0)=true from aF (by omega)];refine⟨by omega,by omega,?_⟩;exact aq [] (by simp only[go_sem,Option.isSome_some,cG,fR];try rfl) (by rfl)
def PM(m:Md)(h:m.ims.length<=10000)(h2:m.fs.length<=10000)(h3:m.ts.length<=10000)(i:Int)(hi:0<=i)(hi2:i<9223372036854775808):aj pg IY [ba m,.int .i64 i] (.tup [.agg (pt (((bO m).fn i).getD default)),.bool ((bO m).fn i).isSome]):=by
 refine ao yO ?_;have c1:=JC m h 0 i hi hi2;have c2:=JD m h 0 i m.fs.length hi2;have ct:=λj=>C6 m j h3;have e:(bO m).fn i=(cx ((j7 0 m.ims).map (·.f)++m.fs.map (·.t)) i).bind λj=>cx m.ts j:=rfl;rw[e,H9 hi,bY,show(j7 0 m.ims).length=dH 0 m.ims from rfl,xT];have hs:=λz:i<(dH 0 m.ims:Int)=>zf (l:=j7 0 m.ims) hi z;have hn:¬i<(dH 0 m.ims:Int)->cx (j7 0 m.ims) i=none:=λz=>dI (.inr (by show i>=(dH 0 m.ims:Int);omega));generalize cx (j7 0 m.ims) i=O at c1 hs hn⊢;generalize dH 0 m.ims=c0 at c2 hs hn⊢;simp only[ba,aM]at c1 c2 ct;simp only[go_sem,yO,ba];refine ae (c1) ?_;by_cases q:i<(c0:Int)
 .obtain⟨x,rfl⟩:=Bv.1 (hs q);have c3:=ct x.f;rw[az q];simp only[fR,Option.bind_some];simp only[go_sem,Option.isSome_some,cG];refine aa (c3) ?_;exact ah
 rw[hn q,an q];simp only[go_sem,Option.isSome_none];refine ae (c2) ?_;by_cases q2:i-(c0:Int)>=m.fs.length
 .have eo:s_ c0 m.fs.length i = -1:=by unfold s_;rw[an (by omega),az (.inr q2)]
  rw[eo,dI (.inr (by rw[bY];exact q2))];simp only[go_sem,show decide ((-1:Int)>=0)=false from rfl];exact dB (Wk.nlh _ 4 (r:=[.nl,.nl]) (r':=[.sl 1 [],.sl 1 []]) (by rfl) ⟨.inr ⟨rfl,1,rfl⟩,.inr ⟨rfl,1,rfl⟩,trivial⟩) [] (by rfl) rfl
 have eo:s_ c0 m.fs.length i=i-c0:=by unfold s_;rw[an (by omega),an (by omega)]
 obtain⟨n,hn2⟩:∃n:Nat,i-(c0:Int)=(n:Int):=⟨(i-c0).toNat,by omega⟩
 have hn3:n<m.fs.length:=by omega
 have c3:=ct (av m.fs n).t;rw[eo,hn2,xT,my hn3];simp only[fR,Option.bind_some];simp only[go_sem,show decide ((n:Int)>=0)=true from aF (by omega)];refine⟨by omega,by omega,?_⟩;refine aa (c3) ?_;exact ah
def PL(m:Md)(i:Int)(hm:m.els.length<=10000):aj pg IW [ba m,.int .i64 i] (.tup [.int .i64 ((cx (bO m).el i).getD 0),.bool (cx (bO m).el i).isSome]):=by
 refine ao na ?_;rw[show(bO m).el=m.els.map (·.ty) from rfl,xT];by_cases h0:i<0
 .rw[dI (.inl h0)];simp only[go_sem,na,ba,aF h0];exact aw
 by_cases h1:i>=(m.els.length:Int)
 .rw[dI (.inr h1)];simp only[go_sem,na,ba,aI h0,aF h1];exact aw
 obtain⟨n,rfl⟩:∃n:Nat,i=(n:Int):=⟨i.toNat,by omega⟩
 have hn:n<m.els.length:=by omega
 rw[my hn];simp only[go_sem,na,ba,fZ,aI h0,aI h1];refine⟨by omega,by omega,?_⟩;exact aq [] (by simp only[go_sem,Option.isSome_some,cG,fR];try rfl) (by rfl)
def L4(m:Md)(hm:m.ds.length<=10000):aj pg Gm [ba m] (.int .i64 (bO m).ds):=by
 refine ao wW ?_;rw[show(bO m).ds=(m.ds.length:Int) from rfl];simp only[go_sem,wW,ba];exact ah
def Wv(m:Md)(k v x:Int)(hm:m.ts.length<=10000):aj pg Gk [ba m,.agg [.int .i64 k,.int .i64 v,.int .i64 x]] (.tup [.agg (pt (((bO m).blk k v x).getD default)),.bool ((bO m).blk k v x).isSome]):=by
 refine ao fT ?_;have ct:=C6 m x hm;unfold Sp.blk;by_cases q0:k=0
 .rw[az q0];simp only[go_sem,fT,ba,aD q0];exact dB (Wk.nlh _ 4 (r:=[.nl,.nl]) (r':=[.sl 1 [],.sl 1 []]) (by rfl) ⟨.inr ⟨rfl,1,rfl⟩,.inr ⟨rfl,1,rfl⟩,trivial⟩) [] (by rfl) rfl
 rw[an q0];by_cases q1:k=1
 .rw[az q1];by_cases q2:v>=1
  .by_cases q3:v<=4
   .have hv:rM v=true:=by
     have:v=1\/v=2\/v=3\/v=4:=by omega
     rcases this with rfl|rfl|rfl|rfl<;>rfl
    rw[az hv];simp only[go_sem,fT,ba,ac q0,aD q1,aF q2,aF q3];refine dB ((Wk.frzs [23] _).trans (Wk.nlh _ 4 (r:=[.nl,.sl 1 [[.int .i64 v]]]) (r':=[.sl 1 [],.sl 1 [[.int .i64 v]]]) (by rfl) ⟨.inr ⟨rfl,1,rfl⟩,.inl rfl,trivial⟩)) [] (by rfl) rfl
   .have hv:¬rM v=true:=by unfold rM nuB Mg;simp;omega
    rw[an hv];simp only[go_sem,fT,ba,ac q0,aD q1,aF q2,aI q3];exact dB (Wk.nlh _ 4 (r:=[.nl,.nl]) (r':=[.sl 1 [],.sl 1 []]) (by rfl) ⟨.inr ⟨rfl,1,rfl⟩,.inr ⟨rfl,1,rfl⟩,trivial⟩) [] (by rfl) rfl
  .have hv:¬rM v=true:=by unfold rM nuB Mg;simp;omega
   rw[an hv];simp only[go_sem,fT,ba,ac q0,aD q1,aI q2];exact dB (Wk.nlh _ 4 (r:=[.nl,.nl]) (r':=[.sl 1 [],.sl 1 []]) (by rfl) ⟨.inr ⟨rfl,1,rfl⟩,.inr ⟨rfl,1,rfl⟩,trivial⟩) [] (by rfl) rfl
 rw[an q1];by_cases q2:k=2
 .rw[az q2];simp only[ba,aM]at ct;rw[show(bO m).ty x=cx m.ts x from rfl];simp only[go_sem,fT,ba,ac q0,ac q1,aD q2];refine aa (ct) ?_;exact ah
 rw[an q2];simp only[go_sem,fT,ba,ac q0,ac q1,ac q2];exact dB (Wk.nlh _ 4 (r:=[.nl,.nl]) (r':=[.sl 1 [],.sl 1 []]) (by rfl) ⟨.inr ⟨rfl,1,rfl⟩,.inr ⟨rfl,1,rfl⟩,trivial⟩) [] (by rfl) rfl
