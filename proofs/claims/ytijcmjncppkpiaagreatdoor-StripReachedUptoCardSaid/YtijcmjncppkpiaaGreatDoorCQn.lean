import Derived.Test.YtijcmjncppkpiaaGreatDoorCQm
set_option linter.all false
set_option maxRecDepth 100000
set_option maxHeartbeats 40000000
namespace Go.Proofs.YtijcmjncppkpiaaGreatDoor
section
open Go Go.Mw
def DE(p:Int×Bool):List AV:=[.int .i64 p.1,.bool p.2]
def Zj(p:Int×Bool):DE p=[.int .i64 p.1,.bool p.2]:=rfl
def HV(n m:Nat)(ov:Bool):aj:=⟨375,3,[[.ms 2001 1 0 n,.ms 2002 2 0 m,.bool ov]],true⟩
def Kx(l:List Int):aj:=⟨71,1,l.map bg,false⟩
def Kw(l:List (Int×Bool)):aj:=⟨410,2,l.map DE,false⟩
def xN(n m:Nat)(ov:Bool):HV n m ov =⟨375,3,[[.ms 2001 1 0 n,.ms 2002 2 0 m,.bool ov]],true⟩:=rfl
def xO(l:List Int):Kx l =⟨71,1,l.map bg,false⟩:=rfl
def xM(l:List (Int×Bool)):Kw l =⟨410,2,l.map DE,false⟩:=rfl
def lj(S:Sk):List (Nat×aj):=[(1001,HV S.all.length (cw (S.t::S.u)).length S.ov),(2001,Kx S.all),(2002,Kw (cw (S.t::S.u)))]
def xL(S:Sk):lj S=[(1001,HV S.all.length (cw (S.t::S.u)).length S.ov),(2001,Kx S.all),(2002,Kw (cw (S.t::S.u)))]:=rfl
def FK(S:Sk):AV:=.ip [.sl 1 (S.all.map bg),.sl 2 ((cw (S.t::S.u)).map DE),.bool S.ov]
def pm(S:Sk):FK S = .ip [.sl 1 (S.all.map bg),.sl 2 ((cw (S.t::S.u)).map DE),.bool S.ov]:=rfl
def Ku(id:Nat):Prop:=1000<=id/\id<2000
def H0(f:FuncId)(rest:List AV)(S:Sk)(r:AV)(S':Sk):Prop:=aZ pg f (.mp 1001 3 0 0::rest) (lj S) Ku (λr' σ'=>r'=r/\σ'=lj S')
def dG:∀l:List Sg,(cw l).length=l.length
 | []=>rfl
 | g::r=>by rw[cw,ej,dG r];rfl
def mT(S:Sk):S.all=bW S.u++S.t.l:=rfl
def adN(i:Nat)(o:aj)(x:AV)(hx:gE x=[]):pH i o x=x:=by cases x<;>first|rfl|(simp[gE]at hx)
def SL{f:AV->List Nat}{r:AV->AV}(hh:∀x,f x=[]->r x=x):∀l:List AV,l.flatMap f=[]->l.map r=l
 | [],_=>rfl
 | y::l,hl=>by
  simp only[jd,List.append_eq_nil_iff]at hl;simp only[bY,hh y hl.1,SL hh l hl.2]
def abo(i:Nat)(o:aj)(x:AV)(hx:fM x=[]):vg i o x=x:=by
 cases x with
 | fn f caps=>simp only[vg,SL (adN i o) caps hx]
 | _=>first|rfl|(simp[fM,gE]at hx)
def XY(i:Nat)(o:aj)(x:AV)(hx:jp x=[]):AU i o x=x:=by
 cases x with
 | agg cells=>simp only[AU,SL (abo i o) cells hx]
 | fn f caps=>exact abo i o (.fn f caps) hx
 | _=>first|rfl|(simp[jp,fM,gE]at hx)
def adO(i:Nat)(o:aj)(x:AV)(hx:aI x=[]):s_ i o x=x:=by
 cases x with
 | tup vs=>simp only[s_,SL (XY i o) vs hx]
 | agg cells=>exact XY i o (.agg cells) hx
 | fn f caps=>exact XY i o (.fn f caps) hx
 | _=>first|rfl|(simp[aI,jp,fM,gE]at hx)
def V2:∀(fs:List Nat)(s:St)(x:AV),aI x=[]->rN fs s x=x
 | [],_,_,_=>rfl
 | i::r,s,x,hx=>by
  have h1:frz1 s i x=x:=by
   unfold frz1;split
   .split
    .rfl
    .exact adO _ _ x hx
   .rfl
  rw[rN,h1,V2 r _ x hx]
def sY(fs:List Nat)(s:St):∀l:List AV,(∀x∈l,aI x=[])->l.map (rN fs s)=l
 | [],_=>rfl
 | x::l,h=>by rw[bY,V2 fs s x (h x (by simp)),sY fs s l λy hy=>h y (by simp[hy])]
attribute[local go_sem] bP xL xN xO xM pm Zj
def Fq{f:FuncId}{rest:List AV}{S:Sk}{r:AV}(h:ah pg f (FK S::rest) r)(hf:m0 r=true)(hr:∀x∈rest,aI x=[]):H0 f rest S r S:=by
 have w1:=eZ.frzs [2001,2002] ⟨[],lj S⟩ (.mp 1001 3 0 0::rest);have e1:(AV.mp 1001 3 0 0::rest).map (rN [2001,2002] ⟨[],lj S⟩) = .mp 1001 3 0 0::rest:=by
  rw[bY,sY _ _ rest hr];rfl
 rw[e1]at w1
 have w2:=eZ.unrec (frzs [2001,2002] ⟨[],lj S⟩) (.mp 1001 3 0 0::rest) 1001 (t:=375) (st:=3) (r:=[.sl 1 (S.all.map bg),.sl 2 ((cw (S.t::S.u)).map DE),.bool S.ov]) (by simp only[go_sem,lD,aN,oK,ga]) (by
  intro x hx;simp only[bp,bZ,or_false]at hx;rcases hx with rfl|rfl|rfl<;>exact⟨rfl,rfl⟩)
 have w3:=(w1.trans w2).trans (eZ.frzs [1001] _ _);rw[bY,sY _ _ rest hr]at w3;refine aZ.lend (args':=FK S::rest) h hf w3 ?_ ?_ _
 .intro x hx;rcases bp.1 hx with rfl|hx
  .rfl
  .exact hr x hx
 .intro p hp i hi;simp only[lj,bp,bZ,or_false]at hp;rcases hp with rfl|rfl|rfl
  .simp only[HV,dZ,dP,jd,List.flatMap_nil,fM,gE,lm,gh,eF,iD,bp,bZ,or_false]at hi;rcases hi with rfl|rfl<;>rfl
  .cases hi
  .cases hi
def QU(S:Sk):ah pg lZ [FK S] (.bool true):=by
 refine au lO ?_;have h:decide (((cw (S.t::S.u)).length:Int)>0)=true:=by rw[dG];exact aw (by simp only[j1];omega)
 simp only[go_sem,lO,h];exact ac
def ZL(S:Sk):ah pg lY [FK S] (.bool S.ov):=by
 refine au lM ?_;have c:=QU S;simp only[pm]at c;simp only[go_sem,lM];refine aa (c) ?_;exact ac
def vk(S:Sk):H0 lZ [] S (.bool true) S:=Fq (QU S) rfl (λx hx=>by cases hx)
def Yi(S:Sk):H0 lY [] S (.bool S.ov) S:=Fq (ZL S) rfl (λx hx=>by cases hx)
def aJ{f:FuncId}{rest:List AV}{S S':Sk}{r:AV}(h:H0 f rest S r S'){args:List AV}{d:Option Nat}{s:St}{K:St->Prop}(ha:args = .mp 1001 3 0 0::rest)(h1:ae s.heap 1001=some (HV S.all.length (cw (S.t::S.u)).length S.ov))(h2:ae s.heap 2001=some (Kx S.all))(h3:ae s.heap 2002=some (Kw (cw (S.t::S.u))))
  (hk:K ((St.mk (jW [2001,2002] s.env) (lj S'++jX [2001,2002] s.heap)).put d r)):cB pg f args d s K:=by
 subst ha;refine gz h [2001,2002] (λp hp=>?_) (λp hp=>?_) (λp hp=>?_) hk
 .simp only[lj,bp,bZ,or_false]at hp;rcases hp with rfl|rfl|rfl
  .exact h1
  .exact h2
  .exact h3
 .simp only[lj,bp,bZ,or_false]at hp;rcases hp with rfl|rfl|rfl
  .exact .inl ⟨⟨show 1000<=1001 by decide,show 1001<2000 by decide⟩,rfl⟩
  .exact .inr ⟨by simp,.inr (show 2000<=2001 by decide),.inl rfl⟩
  .exact .inr ⟨by simp,.inr (show 2000<=2002 by decide),.inl rfl⟩
 .simp only[lj,bp,bZ,or_false]at hp;rcases hp with rfl|rfl|rfl<;>rfl
def Hl(S:Sk):(cw (S.t::S.u)).length=S.u.length+1:=by rw[dG,j1]
def xx(S:Sk)(hb:S.u.length<1000000):IntKind.i64.wrap (((cw (S.t::S.u)).length:Int)-1)=(S.u.length:Int):=by
 rw[dG,wi (by simp only[j1];omega) (by simp only[j1];omega)];simp only[j1];omega
def Pb(S:Sk)(hb:S.u.length<1000000):H0 m_ [] S (.mp 2002 2 S.u.length 0) S:=by
 refine dj fF ?_;have hw:=xx S hb;have hl:=dG (S.t::S.u);simp only[j1]at hl;simp only[go_sem,fF,hw];refine⟨⟨by omega,by omega⟩,?_⟩;exact done [] _ (lj S) (by simp only[go_sem,cY,ga]) (by simp only[go_sem]) rfl ⟨rfl,rfl⟩
def Fc(S:Sk):S.opn.all=S.all:=lm _
def Zf(S:Sk):S.opn.ov=S.ov:=rfl
def UD(S:Sk):cw (S.opn.t::S.opn.u)=cw (S.t::S.u)++[((S.all.length:Int),false)]:=rfl
def O_(S:Sk)(hb:S.u.length<1000000)(hl:S.all.length<1000000):H0 tB [] S (.tup []) S.opn:=by
 refine kB (ic:=ii 4 ik.body) nR (cF ik) (by rfl) rfl ?_;simp only[go_sem,ik,ii];refine aJ (vk S) (by simp only[go_sem]) (by simp only[go_sem]) (by simp only[go_sem]) (by simp only[go_sem]) ?_;simp only[go_sem];refine ek _ _ (iS (id:=2002) (len:=(cw (S.t::S.u)).length) (rows:=(cw (S.t::S.u)).map DE) (ys:=[DE ((S.all.length:Int),false)]) (by rfl) (by rfl) (by rfl) (by rw[bP]) (by simp) (by rw[dG,j1];omega) (by decide)) (by simp only[go_sem]) (by rfl) (by simp only[go_sem];rfl) (by simp only[go_sem]) ?_;simp only[go_sem];exact iY [] _ (lj S.opn) (by simp only[go_sem]) (by simp only[go_sem,Fc,UD,Zf,dW,ej,j1,iN,bY,eL]) rfl ⟨rfl,rfl⟩
def BD(S:Sk)(l:List Int):(S.push l).all=S.all++l:=by rw[mT,mT,Sk.push,mE]
def Km(S:Sk)(l:List Int):(S.push l).ov=(S.ov||decide (((S.all.length+l.length:Nat):Int)>256)):=rfl
def vl(S:Sk)(l:List Int)(hb:S.u.length<1000000)(hl:S.all.length<1000000)(h2:l.length<1000000):H0 tC [.sl 1 (l.map bg)] S (.tup []) (S.push l):=by
 refine dj lN ?_;have ha:=bR 2001 71 1 S.all.length bg S.all (l.map bg) rfl;have hp:cw ((S.push l).t::(S.push l).u)=cw (S.t::S.u):=rfl;simp only[go_sem,lN];refine aJ (vk S) (by simp only[go_sem]) (by simp only[go_sem]) (by simp only[go_sem]) (by simp only[go_sem]) ?_;simp only[go_sem,ha];refine⟨⟨by omega,by omega⟩,λho=>?_,λho=>?_⟩
 .exact iY [] _ (lj (S.push l)) (by simp only[go_sem]) (by simp only[go_sem,BD,hp,Km,ho,B5,dW,ej]) rfl ⟨rfl,rfl⟩
 .exact iY [] _ (lj (S.push l)) (by simp only[go_sem]) (by simp only[go_sem,BD,hp,Km,ho,x7,dW,ej]) rfl ⟨rfl,rfl⟩
def ZV(id row:Nat)(t:TypeId)(l:List (Int×Bool)):DN id 1 2 row 1 (some ⟨t,2,l.map DE,false⟩) (some [.bool true])=if row<l.length then some (.put id ⟨t,2,(l.set row ((ap l row).1,true)).map DE,false⟩)else none :=
 sG id 1 2 row 1 t DE l [.bool true] (λp=>(p.1,true)) rfl rfl (λ_=>aN 2) (λ_=>rfl)
def pf{α:Type}[Inhabited α](l:List α)(x:α){n:Nat}(h:n=l.length):ap (l++[x]) n=x:=by
 subst h;rw[aV (by simp)];simp
def Q8{α:Type}(l:List α)(x y:α){n:Nat}(h:n=l.length):(l++[x]).set n y=l++[y]:=by
 subst h;rw[List.set_append_right _ _ (aN _),zx];rfl
def Rl(S:Sk):(S.all.map bg).take (bW S.u).length=(bW S.u).map bg:=by
 rw[<-List.map_take,mT,List.take_append_of_le_length (aN _),jc]
def TB(S:Sk)(hb:S.u.length<1000000)(hl:S.all.length<1000000):H0 rY [] S (.tup []) S.loose:=by
 refine dj kS ?_;have e1:ap (cw (S.t::S.u)) S.u.length=(((bW S.u).length:Int),S.t.lo):=pf _ _ (dG _).symm;have e2:(cw (S.t::S.u)).set S.u.length (((bW S.u).length:Int),true)=cw (S.loose.t::S.loose.u):=Q8 _ _ _ (dG _).symm;have e3:ap (cw (S.loose.t::S.loose.u)) S.u.length=(((bW S.u).length:Int),true):=pf _ _ (dG _).symm;have e4:S.loose.all=bW S.u:=lm _;have hp:=Hl S;have hp2:(cw (S.loose.t::S.loose.u)).length=S.u.length+1:=Hl S.loose;have ha:S.all.length=(bW S.u).length+S.t.l.length:=by rw[mT,ej]
 simp only[go_sem,kS];refine aJ (vk S) (by simp only[go_sem]) (by simp only[go_sem]) (by simp only[go_sem]) (by simp only[go_sem]) ?_;simp only[go_sem];refine aJ (Pb S hb) (by simp only[go_sem]) (by simp only[go_sem]) (by simp only[go_sem]) (by simp only[go_sem]) ?_;simp only[go_sem,ZV,e1,e2,e3];refine⟨by omega,by omega,?_⟩;refine⟨⟨by omega,by omega⟩,?_⟩;exact VF (Wk.trunc _ 2001 (bW S.u).length (by rfl)) [] _ (lj S.loose) (by simp only[go_sem]) (by simp only[go_sem,Rl,e4,hp,hp2,show S.loose.ov=S.ov from rfl]) rfl ⟨rfl,rfl⟩
def P0{α:Type}(l:List α):l=[]\/∃L b,l=L++[b]:=by
 rcases List.eq_nil_or_concat l with h|⟨L,b,h⟩
 .exact .inl h
 .exact .inr ⟨L,b,by rw[h,List.concat_eq_append]⟩
def Kk{lo:Bool}{u:List Sg}{ov:Bool}:(⟨⟨[],lo⟩,u,ov⟩:Sk).pop=(0,(if lo then 0 else 13),⟨⟨[],lo⟩,u,ov⟩):=by cases lo<;>rfl
def Hj{l:List Int}{x:Int}{lo:Bool}{u:List Sg}{ov:Bool}:(⟨⟨l++[x],lo⟩,u,ov⟩:Sk).pop=(x,0,⟨⟨l,lo⟩,u,ov⟩):=by
 unfold Sk.pop;simp
def Gv(S:Sk)(hb:S.u.length<1000000)(hl:S.all.length<1000000):H0 vu [] S (.tup [.int .i64 S.pop.1,.int .i64 S.pop.2.1]) S.pop.2.2:=by
 refine dj iU ?_;have e1:ap (cw (S.t::S.u)) S.u.length=(((bW S.u).length:Int),S.t.lo):=pf _ _ (dG _).symm;have hp:=Hl S;have ha:S.all.length=(bW S.u).length+S.t.l.length:=by rw[mT,ej]
 have k1:=vk S;have k2:=Pb S hb;obtain⟨⟨l,lo⟩,u,ov⟩:=S;dsimp only at e1 hp ha hb k2;rcases P0 l with rfl|⟨l',x,rfl⟩
 .have h1:¬(((⟨⟨[],lo⟩,u,ov⟩:Sk).all.length:Int)>((bW u).length:Int)):=by simp only[iN]at ha;omega
  rw[Kk];simp only[go_sem,iU];refine aJ k1 (by simp only[go_sem]) (by simp only[go_sem]) (by simp only[go_sem]) (by simp only[go_sem]) ?_;simp only[go_sem];refine aJ k2 (by simp only[go_sem]) (by simp only[go_sem]) (by simp only[go_sem]) (by simp only[go_sem]) ?_;simp only[go_sem,e1,aC h1];refine⟨by omega,by omega,λh=>?_,λh=>?_⟩
  all_goals
   subst h;exact aM [] _ (lj ⟨⟨[],_⟩,u,ov⟩) ⟨rfl,rfl⟩
 .have hal:(⟨⟨l'++[x],lo⟩,u,ov⟩:Sk).all=(bW u++l')++[x]:=(mE _ _ _).symm;have h2:(⟨⟨l'++[x],lo⟩,u,ov⟩:Sk).all.length=(bW u++l').length+1:=by rw[hal,ej];rfl
  have hM:(bW u++l').length=(bW u).length+l'.length:=ej;have h1:((⟨⟨l'++[x],lo⟩,u,ov⟩:Sk).all.length:Int)>((bW u).length:Int):=by rw[h2,hM];omega
  have hw:IntKind.i64.wrap (((⟨⟨l'++[x],lo⟩,u,ov⟩:Sk).all.length:Int)-1)=((bW u++l').length:Int):=by
   rw[h2,wi (by omega) (by omega)];omega
  have en:ap (⟨⟨l'++[x],lo⟩,u,ov⟩:Sk).all (bW u++l').length=x:=by rw[hal];exact pf _ _ rfl
  have et:((⟨⟨l'++[x],lo⟩,u,ov⟩:Sk).all.map bg).take (bW u++l').length=(bW u++l').map bg:=by
   rw[<-List.map_take,hal,List.take_append_of_le_length (aN _),jc]
  have e4:(⟨⟨l',lo⟩,u,ov⟩:Sk).all=bW u++l':=rfl;have hp2:(cw ((⟨l',lo⟩:Sg)::u)).length=u.length+1:=Hl ⟨⟨l',lo⟩,u,ov⟩;have e5:cw ((⟨l'++[x],lo⟩:Sg)::u)=cw ((⟨l',lo⟩:Sg)::u):=rfl;rw[Hj];simp only[go_sem,iU];refine aJ k1 (by simp only[go_sem]) (by simp only[go_sem]) (by simp only[go_sem]) (by simp only[go_sem]) ?_;simp only[go_sem];refine aJ k2 (by simp only[go_sem]) (by simp only[go_sem]) (by simp only[go_sem]) (by simp only[go_sem]) ?_;simp only[go_sem,e1,aw h1,hw,en,cY,ga];refine⟨by omega,⟨by omega,by omega⟩,by omega,⟨by omega,by omega⟩,?_⟩;exact sH (Wk.trunc _ 2001 (bW u++l').length (by rfl)) [] _ (lj ⟨⟨l',lo⟩,u,ov⟩) (by simp only[go_sem]) (by simp only[go_sem,et,e4,e5,hp2]) rfl ⟨rfl,rfl⟩
def sW(lo:Bool):∀(ws ts:List Int),(∀r e,nj lo ts ws=(some r,e)->e=0/\∃p,ts=p++r)/\(∀e,nj lo ts ws=(none,e)->e≠0)
 | [],ts=>by
  refine⟨λr e h=>?_,λe h=>?_⟩
  .unfold nj at h;cases h;exact⟨rfl,[],rfl⟩
  .unfold nj at h;cases h
 | w::ws,[]=>by
  unfold nj;cases lo
  .exact⟨(λr e h=>by cases h),(λe h=>by cases h;decide)⟩
  .exact sW true ws []
 | w::ws,t::ts=>by
  unfold nj;split
  .exact⟨(λr e h=>by cases h),(λe h=>by cases h;decide)⟩
  .obtain⟨h1,h2⟩:=sW lo ws ts;exact⟨λr e h=>by obtain⟨q,p,hp⟩:=h1 r e h;exact⟨q,t::p,by rw[hp];rfl⟩,h2⟩
def yt{S:Sk}{l r:List Int}{e:Int}(h:S.left l=(some r,e)):e=0/\∃q,S.t.l=r.reverse++q:=by
 obtain⟨h1,p,hp⟩:=(sW S.t.lo l.reverse S.t.l.reverse).1 r e h;refine⟨h1,p.reverse,?_⟩;rw[<-List.reverse_reverse S.t.l,hp,List.reverse_append]
def Ds{S:Sk}{l:List Int}{e:Int}(h:S.left l=(none,e)):e≠0:=(sW S.t.lo l.reverse S.t.l.reverse).2 e h
def Eu(S:Sk)(l:List Int):Int×Int:=match S.left l with
 | (some r,_)=>(((bW S.u).length+r.length:Nat),0)
 | (none,e)=>(0,e)
def FN(S:Sk)(l:List Int):Prop:=H0 418 [.sl 1 (l.map bg)] S (.tup [.int .i64 (Eu S l).1,.int .i64 (Eu S l).2]) S
def oa(S:Sk)(l:List Int)(hL:FN S l):H0 tE [.sl 1 (l.map bg)] S (.int .i64 (S.want l).1) (S.want l).2:=by
 refine dj iq ?_;have ha:S.all.length=(bW S.u).length+S.t.l.length:=by rw[mT,ej]
 unfold FN Eu at hL;unfold Sk.want;cases h:S.left l with
 | mk o e =>
  rw[h]at hL;cases o with
  | none =>
   have he:=Ds h;simp only[go_sem,iq];refine aJ (vk S) (by simp only[go_sem]) (by simp only[go_sem]) (by simp only[go_sem]) (by simp only[go_sem]) ?_;simp only[go_sem];refine aJ hL (by simp only[go_sem]) (by simp only[go_sem]) (by simp only[go_sem]) (by simp only[go_sem]) ?_;simp only[go_sem,ab he];exact aM [] _ (lj S) ⟨rfl,rfl⟩
  | some r =>
   obtain⟨rfl,q,hq⟩:=yt h;have hr:r.reverse.length=r.length:=List.length_reverse;have h2:S.t.l.length=r.length+q.length:=by rw[hq,ej,hr]
   have e4:(⟨⟨r.reverse,S.t.lo⟩,S.u,S.ov⟩:Sk).all=bW S.u++r.reverse:=rfl;have e5:(⟨⟨r.reverse,S.t.lo⟩,S.u,S.ov⟩:Sk).all.length=(bW S.u).length+r.length:=by rw[e4,ej,hr]
   have et:(S.all.map bg).take ((bW S.u).length+r.length)=(⟨⟨r.reverse,S.t.lo⟩,S.u,S.ov⟩:Sk).all.map bg:=by
    rw[e4,<-List.map_take,mT,hq,<-mE,List.take_append_of_le_length (by rw[ej,hr];exact aN _),gN (by rw[ej,hr];exact aN _)]
   have hp2:cw ((⟨r.reverse,S.t.lo⟩:Sg)::S.u)=cw (S.t::S.u):=rfl;simp only[go_sem,iq];refine aJ (vk S) (by simp only[go_sem]) (by simp only[go_sem]) (by simp only[go_sem]) (by simp only[go_sem]) ?_;simp only[go_sem];refine aJ hL (by simp only[go_sem]) (by simp only[go_sem]) (by simp only[go_sem]) (by simp only[go_sem]) ?_;simp only[go_sem,cY,ga,Nat.sub_zero];refine⟨⟨by omega,by omega⟩,?_⟩;exact sH (Wk.trunc _ 2001 ((bW S.u).length+r.length) (by rfl)) [] _ (lj ⟨⟨r.reverse,S.t.lo⟩,S.u,S.ov⟩) (by simp only[go_sem]) (by simp only[go_sem,et,e5,hp2]) rfl ⟨rfl,rfl⟩
def Vs(id row:Nat)(t:TypeId)(l:List (Int×Bool)):DN id 2 2 row 0 (some ⟨t,2,l.map DE,false⟩) (some [.int .i64 0,.bool false])=if row<l.length then some (.put id ⟨t,2,(l.set row (0,false)).map DE,false⟩)else none :=
 sG id 2 2 row 0 t DE l [.int .i64 0,.bool false] (λp=>(0,false)) rfl rfl (λ_=>aN 2) (λ_=>rfl)
def Pa(S:Sk)(l:List Int)(hb:S.u.length<1000000)(hl:S.all.length<1000000)(hL:FN S l):H0 tD [.sl 1 (l.map bg)] S (.int .i64 (S.shut l).1) (S.shut l).2:=by
 refine dj dz ?_;have ha:S.all.length=(bW S.u).length+S.t.l.length:=by rw[mT,ej]
 have e1:ap (cw (S.t::S.u)) S.u.length=(((bW S.u).length:Int),S.t.lo):=pf _ _ (dG _).symm;have hp:=Hl S;have k1:=vk S;have k2:=Pb S hb;unfold FN Eu at hL;cases h:S.left l with
 | mk o e =>
  rw[h]at hL;cases o with
  | none =>
   have he:=Ds h;rw[show S.shut l=(e,S)by unfold Sk.shut;rw[h]];simp only[go_sem,dz];refine aJ k1 (by simp only[go_sem]) (by simp only[go_sem]) (by simp only[go_sem]) (by simp only[go_sem]) ?_;simp only[go_sem];refine aJ hL (by simp only[go_sem]) (by simp only[go_sem]) (by simp only[go_sem]) (by simp only[go_sem]) ?_;simp only[go_sem,aG he];exact aM [] _ (lj S) ⟨rfl,rfl⟩
  | some r =>
   obtain⟨rfl,q,hq⟩:=yt h;have hr:r.reverse.length=r.length:=List.length_reverse;have h2:S.t.l.length=r.length+q.length:=by rw[hq,ej,hr]
   cases r with
   | cons x r =>
    have h3:((((bW S.u).length+(r.length+1):Nat):Int)>((bW S.u).length:Int)):=by omega
    rw[show S.shut l=(14,S)by unfold Sk.shut;rw[h]];simp only[go_sem,dz];refine aJ k1 (by simp only[go_sem]) (by simp only[go_sem]) (by simp only[go_sem]) (by simp only[go_sem]) ?_;simp only[go_sem];refine aJ hL (by simp only[go_sem]) (by simp only[go_sem]) (by simp only[go_sem]) (by simp only[go_sem]) ?_;simp only[go_sem];refine aJ k2 (by simp only[go_sem]) (by simp only[go_sem]) (by simp only[go_sem]) (by simp only[go_sem]) ?_;simp only[go_sem,e1,aw h3];refine⟨by omega,?_⟩;exact aM [] _ (lj S) ⟨rfl,rfl⟩
   | nil =>
    have h3:¬((((bW S.u).length+0:Nat):Int)>((bW S.u).length:Int)):=by omega
    have et:=Rl S;cases hu:S.u with
    | nil =>
     have h4:(((cw (S.t::S.u)).length:Int)==1)=true:=by rw[hp,hu];rfl
     rw[show S.shut l=(0,{S with t:=⟨[],false⟩})by unfold Sk.shut;rw[h];simp only[hu]];simp only[go_sem,dz];refine aJ k1 (by simp only[go_sem]) (by simp only[go_sem]) (by simp only[go_sem]) (by simp only[go_sem]) ?_;simp only[go_sem];refine aJ hL (by simp only[go_sem]) (by simp only[go_sem]) (by simp only[go_sem]) (by simp only[go_sem]) ?_;simp only[go_sem];refine aJ k2 (by simp only[go_sem]) (by simp only[go_sem]) (by simp only[go_sem]) (by simp only[go_sem]) ?_;simp only[go_sem,e1,aC h3,h4,Vs];refine⟨by omega,⟨by omega,by omega⟩,⟨by omega,by omega⟩,by omega,?_⟩;have q1:(cw (S.t::S.u)).set 0 (0,false)=cw ((⟨[],false⟩:Sg)::S.u):=by rw[hu];rfl
     have q2:({S with t:=⟨[],false⟩}:Sk).all=bW S.u:=lm _;have q3:(cw ((⟨[],false⟩:Sg)::S.u)).length=(cw (S.t::S.u)).length:=by rw[dG,dG];rfl
     exact sH (Wk.trunc _ 2001 ((bW S.u).length+0) (by rfl)) [] _ (lj {S with t:=⟨[],false⟩}) (by simp only[go_sem]) (by simp only[go_sem,q1,q2,q3,Nat.add_zero,et]) rfl ⟨rfl,rfl⟩
    | cons g u =>
     have h4:(((cw (S.t::S.u)).length:Int)==1)=false:=by rw[hp,hu];exact ab (by simp only[j1];omega)
     rw[show S.shut l=(0,{S with t:=g,u:=u})by unfold Sk.shut;rw[h];simp only[hu]];simp only[go_sem,dz];refine aJ k1 (by simp only[go_sem]) (by simp only[go_sem]) (by simp only[go_sem]) (by simp only[go_sem]) ?_;simp only[go_sem];refine aJ hL (by simp only[go_sem]) (by simp only[go_sem]) (by simp only[go_sem]) (by simp only[go_sem]) ?_;simp only[go_sem];refine aJ k2 (by simp only[go_sem]) (by simp only[go_sem]) (by simp only[go_sem]) (by simp only[go_sem]) ?_;have hw:=xx S hb;simp only[go_sem,e1,aC h3,h4,hw,cY];refine⟨by omega,⟨by omega,by omega⟩,⟨by omega,by omega⟩,?_⟩;have q1:((cw (S.t::S.u)).map DE).take S.u.length=(cw S.u).map DE:=by
      rw[<-List.map_take,cw,List.take_append_of_le_length (by rw[dG];exact aN _),gN (by rw[dG];exact aN _)]
     have q2:({S with t:=g,u:=u}:Sk).all=bW S.u:=by rw[hu];rfl
     have q3:(cw (g::u)).length=S.u.length:=by rw[dG,hu]
     have q4:cw (g::u)=cw S.u:=by rw[hu]
     exact sH ((Wk.trunc _ 2001 ((bW S.u).length+0) (by rfl)).trans (Wk.trunc _ 2002 S.u.length (by rfl))) [] _ (lj {S with t:=g,u:=u}) (by simp only[go_sem]) (by simp only[go_sem,q1,q2,q3,Nat.add_zero,et];simp only[go_sem,q4]) rfl ⟨rfl,rfl⟩
end
section
open Go Go.Mw
def Jq(k:Int):∀es:List (Int×Int),es.findIdx? (λp=>k==p.1)=none->g_ k es=es++[(k,oY k es+1)]/\oY k es=0
 | [],_=>⟨rfl,rfl⟩
 | e::r,h=>by
  rw[List.findIdx?_cons]at h;cases hk:(k==e.1)
  .rw[hk]at h;have he:¬e.1=k:=λq=>by rw[q,beq_self_eq_true]at hk;cases hk
   have hr:r.findIdx? (λp=>k==p.1)=none:=by
    cases hq:r.findIdx? (λp=>k==p.1)with
    | none=>rfl
    | some j=>rw[hq]at h;cases h
   obtain⟨h1,h2⟩:=Jq k r hr;simp only[g_,oY,ax he,h1,h2,tU];exact⟨trivial,trivial⟩
  .rw[hk]at h;cases h
def Jp(k:Int):∀(es:List (Int×Int))(i:Nat),es.findIdx? (λp=>k==p.1)=some i->g_ k es=es.set i (k,oY k es+1)/\∃v,es[i]?=some (k,v)
 | [],i,h=>by cases h
 | e::r,i,h=>by
  rw[List.findIdx?_cons]at h;cases hk:(k==e.1)
  .rw[hk]at h;have he:¬e.1=k:=λq=>by rw[q,beq_self_eq_true]at hk;cases hk
   cases hq:r.findIdx? (λp=>k==p.1)with
   | none=>rw[hq]at h;cases h
   | some j =>
    rw[hq]at h;simp only[fo,jr,fS,cI]at h;subst h;obtain⟨h1,v,h2⟩:=Jp k r j hq;refine⟨?_,v,by rw[zW];exact h2⟩;simp only[g_,oY,ax he,h1,List.set_cons_succ]
  .rw[hk]at h;have he:e.1=k:=(eq_of_beq hk).symm;cases h;refine⟨?_,e.2,by rw[<-he];rfl⟩;simp only[g_,oY,aF he,List.set_cons_zero]
def EA{α:Type}(x:α):∀(l:List α)(i:Nat),l.modify i (λ_=>x)=l.set i x
 | [],i=>by cases i<;>rfl
 | a::l,0=>rfl
 | a::l,i+1=>by
  have:=EA x l i;rw[List.modify_succ_cons,this,List.set_cons_succ]
def Zt(k:Int)(es:List (Int×Int)):yF .i (.int .i64 k) (.int .i64 (oY k es+1)) (es.map wX)=some ((g_ k es).map wX):=by
 unfold yF;rw[AQ];cases h:es.findIdx? (λp=>k==p.1)with
 | none =>
  obtain⟨h1,h2⟩:=Jq k es h;rw[h1];simp[wX]
 | some i =>
  obtain⟨h1,v,h2⟩:=Jp k es i h;rw[h1];simp only[EA,List.map_set];rfl
def Qq(k:Int)(es:List Int):yF .i (.int .i64 k) (.bool true) (es.map qP)=some ((zE es k).map qP):=by
 unfold yF zE;rw[AP];cases h:es.findIdx? (λp=>k==p)with
 | none =>
  have hn:k∉es:=λhk=>by
   have:=List.findIdx?_eq_none_iff.1 h k hk;simp at this
  rw[ax hn];simp[qP]
 | some i =>
  obtain⟨hi,h1,_⟩:=List.findIdx?_eq_some_iff_getElem.1 h;have he:es[i]=k:=(eq_of_beq h1).symm;have hm:k∈es:=by rw[<-he];exact gO hi
  rw[aF hm];have hs:(es.map qP).set i (qP k)=es.map qP:=by
   rw[<-List.map_set];congr 1;rw[<-he];exact List.set_getElem_self hi
  simp only[qP]at hs⊢;simp only[EA,hs]
def oC:aj:=⟨154,1,[[.mp 1001 9 0 0]],true⟩
def xq:oC =⟨154,1,[[.mp 1001 9 0 0]],true⟩:=rfl
def oR(n0 n1 n2 n3 n4 n5:Nat)(ds:Int):aj:=⟨158,9,[[.ms 2000 2 0 n0,.ms 2001 1 0 n1,.ms 2002 4 0 n2,.ms 2003 3 0 n3,.ms 2004 2 0 n4,.ms 2005 1 0 n5,.int .i64 ds,.mm 2010 true,.mm 2011 true]],true⟩
def xt(n0 n1 n2 n3 n4 n5:Nat)(ds:Int):oR n0 n1 n2 n3 n4 n5 ds =⟨158,9,[[.ms 2000 2 0 n0,.ms 2001 1 0 n1,.ms 2002 4 0 n2,.ms 2003 3 0 n3,.ms 2004 2 0 n4,.ms 2005 1 0 n5,.int .i64 ds,.mm 2010 true,.mm 2011 true]],true⟩:=rfl
def oH(s:Sp):List (Nat×aj):=[(1000,oC),(1001,oR s.ts.length s.fs.length s.tb.length s.ms.length s.gs.length s.el.length s.ds),(2000,⟨68,2,s.ts.map kz,false⟩),(2001,⟨3,1,s.fs.map bg,false⟩),(2002,⟨75,4,s.tb.map ya,false⟩),(2003,⟨73,3,s.ms.map w_,false⟩),(2004,⟨77,2,s.gs.map JO,false⟩),(2005,⟨71,1,s.el.map bg,false⟩),(2010,@aj.mk 0 0 [] false (.mp (s.im.map wX))),(2011,@aj.mk 0 0 [] false (.mp (s.de.map qP)))]
def xr(s:Sp):oH s=[(1000,oC),(1001,oR s.ts.length s.fs.length s.tb.length s.ms.length s.gs.length s.el.length s.ds),(2000,⟨68,2,s.ts.map kz,false⟩),(2001,⟨3,1,s.fs.map bg,false⟩),(2002,⟨75,4,s.tb.map ya,false⟩),(2003,⟨73,3,s.ms.map w_,false⟩),(2004,⟨77,2,s.gs.map JO,false⟩),(2005,⟨71,1,s.el.map bg,false⟩),(2010,@aj.mk 0 0 [] false (.mp (s.im.map wX))),(2011,@aj.mk 0 0 [] false (.mp (s.de.map qP)))]:=rfl
def zF(s:Sp)(x:Im):Sp :=
 let s1:Sp:={s with im:=g_ x.k s.im}
 if x.k=0 then{s1 with fs:=s.fs++[x.f]}else if x.k=1 then{s1 with tb:=s.tb++[⟨x.te,x.tl⟩]}else if x.k=2 then{s1 with ms:=s.ms++[x.me]}else if x.k=3 then{s1 with gs:=s.gs++[x.g]}else s1
structure oSm(n:Nat)(s:Sp):Prop where
 ts:s.ts.length<=n
 fs:s.fs.length<=n
 tb:s.tb.length<=n
 ms:s.ms.length<=n
 gs:s.gs.length<=n
 el:s.el.length<=n
 im:∀k,0<=oY k s.im/\oY k s.im<=n
attribute[local go_sem] bP aU cC bT cQ
def T9(s:Sp)(x:Im)(h:oSm 1000000 s):aZ pg xp [.agg (Ae x),.mp 1000 1 0 0] (oH s) Ku (λr' σ'=>r' = .tup []/\σ'=oH (zF s x)):=by
 refine kB (ic:=ii 15 (ii 28 (ii 41 (ii 54 pC.body)))) nR (cF pC) (by rfl) rfl ?_;have hm:=h.im x.k;have hw:IntKind.i64.wrap (oY x.k s.im+1)=oY x.k s.im+1:=wi (by omega) (by omega);have hp:=Zt x.k s.im;obtain⟨T,hT⟩:∃T,zF s x=T:=⟨_,rfl⟩
 rw[hT];unfold zF at hT;dsimp only at hT;simp only[go_sem,pC,ii,xr,xq,xt,IA,hw];refine⟨rfl,rfl,_,hp,?_⟩;by_cases k0:x.k=0
 .rw[aF k0]at hT;have hl:=h.fs;simp only[go_sem,aK k0];refine ek _ _ (iS (id:=2001) (len:=s.fs.length) (rows:=s.fs.map bg) (ys:=[[.int .i64 x.f]]) (by rfl) (by rfl) (by rfl) (by rw[bP]) (by simp) (by omega) (by decide)) (by simp only[go_sem]) (by rfl) (by simp only[go_sem];rfl) (by simp only[go_sem]) ?_;simp only[go_sem];subst hT;exact iY [] _ (oH _) (by simp only[go_sem]) (by simp only[go_sem,xr,xq,xt,dW,ej,j1,iN,bY,eL]) rfl ⟨rfl,rfl⟩
 by_cases k1:x.k=1
 .rw[ax k0,aF k1]at hT;have hl:=h.tb;simp only[go_sem,ab k0,aK k1];refine ek _ _ (iS (id:=2002) (len:=s.tb.length) (rows:=s.tb.map ya) (ys:=[ya ⟨x.te,x.tl⟩]) (by rfl) (by rfl) (by rfl) (by rw[bP]) (by simp) (by omega) (by decide)) (by simp only[go_sem]) (by rfl) (by simp only[go_sem];rfl) (by simp only[go_sem]) ?_;simp only[go_sem];subst hT;exact iY [] _ (oH _) (by simp only[go_sem]) (by simp only[go_sem,xr,xq,xt,dW,ej,j1,iN,bY,eL]) rfl ⟨rfl,rfl⟩
 by_cases k2:x.k=2
 .rw[ax k0,ax k1,aF k2]at hT;have hl:=h.ms;simp only[go_sem,ab k0,ab k1,aK k2];refine ek _ _ (iS (id:=2003) (len:=s.ms.length) (rows:=s.ms.map w_) (ys:=[w_ x.me]) (by rfl) (by rfl) (by rfl) (by rw[bP]) (by simp) (by omega) (by decide)) (by simp only[go_sem]) (by rfl) (by simp only[go_sem];rfl) (by simp only[go_sem]) ?_;simp only[go_sem];subst hT;exact iY [] _ (oH _) (by simp only[go_sem]) (by simp only[go_sem,xr,xq,xt,dW,ej,j1,iN,bY,eL]) rfl ⟨rfl,rfl⟩
 by_cases k3:x.k=3
 .rw[ax k0,ax k1,ax k2,aF k3]at hT;have hl:=h.gs;simp only[go_sem,ab k0,ab k1,ab k2,aK k3];refine ek _ _ (iS (id:=2004) (len:=s.gs.length) (rows:=s.gs.map JO) (ys:=[JO x.g]) (by rfl) (by rfl) (by rfl) (by rw[bP]) (by simp) (by omega) (by decide)) (by simp only[go_sem]) (by rfl) (by simp only[go_sem];rfl) (by simp only[go_sem]) ?_;simp only[go_sem];subst hT;exact iY [] _ (oH _) (by simp only[go_sem]) (by simp only[go_sem,xr,xq,xt,dW,ej,j1,iN,bY,eL]) rfl ⟨rfl,rfl⟩
 rw[ax k0,ax k1,ax k2,ax k3]at hT;subst hT;simp only[go_sem,ab k0,ab k1,ab k2,ab k3];exact iY [] _ (oH {s with im:=g_ x.k s.im}) (by simp only[go_sem]) (by simp only[go_sem,xr,xq,xt]) rfl ⟨rfl,rfl⟩
end
section
open Go Go.Mw
def vA(l:List a_)(de:List Int):List Int:=(aP l).foldl zE de
def PS(x:a_)(l:List a_)(de:List Int):vA (x::l) de=vA l (if x.op=210 then zE de x.a else de):=by
 unfold vA aP;by_cases h:x.op=210
 .simp[h]
 .simp[h]
attribute[local go_sem] bP aU cC bT rO cQ bH
def We(s:Sp)(l:List a_)(hl:l.length<=2000000):aZ pg ml [.sl 9 (l.map bH),.mp 1000 1 0 0] (oH s) Ku (λr' σ'=>r' = .tup []/\σ'=oH {s with de:=vA l s.de}):=by
 refine dj wH ?_;obtain⟨T,hT⟩:∃T,vA l s.de=T:=⟨_,rfl⟩
 rw[hT];simp only[go_sem,wH,xr,xq,xt];refine ao (λq:Nat×List Int=>⟨[(7,.int .i64 q.1),(6,.int .i64 l.length),(5,.sl 9 (l.map bH)),(1,.mp 1000 1 0 0)],oH {s with de:=q.2}⟩)
  (λq=>q.1<=l.length/\vA (l.drop q.1) q.2=T) (λq=>l.length-q.1) (0,s.de) ⟨cR _,hT⟩ (Wk.of ?_ ?_) ?_
 .simp only[go_sem];try simp
 .simp only[go_sem,xr,xq,xt];try rfl
 rintro⟨j,de⟩ ⟨hj,hx⟩;dsimp only at hj hx;by_cases h1:(j:Int)<(l.length:Int);rotate_left
 .rw[cu (by omega)]at hx;obtain rfl:de=T:=hx;simp only[go_sem,aC h1,xr,xq,xt];exact iY [] _ (oH {s with de:=de}) (by simp only[go_sem]) (by simp only[go_sem,xr,xq,xt]) rfl ⟨rfl,rfl⟩
 have hj':j<l.length:=by omega
 have e8:=cA hj' (by omega);rw[cH hj',PS]at hx;generalize hX:ap l j=X at hx;have hp:=Qq X.a de;by_cases h2:X.op=210
 .rw[aF h2]at hx;simp only[go_sem,aw h1,hX,xr,xq,xt,aK h2];refine⟨by omega,h1,rfl,rfl,_,hp,?_⟩;refine ay (j+1,zE de X.a) ⟨show j+1<=l.length by omega,hx⟩ (show l.length-(j+1)<l.length-j by omega) (Wk.of ?_ ?_)
  .simp only[go_sem,e8];try simp
  .simp only[go_sem,xr,xq,xt];try rfl
 .rw[ax h2]at hx;simp only[go_sem,aw h1,hX,xr,xq,xt,ab h2];refine⟨by omega,h1,?_⟩;refine ay (j+1,de) ⟨show j+1<=l.length by omega,hx⟩ (show l.length-(j+1)<l.length-j by omega) (Wk.of ?_ ?_)
  .simp only[go_sem,e8];try simp
  .simp only[go_sem,xr,xq,xt];try rfl
end
section
open Go Go.Mw
def qC:aj:=⟨154,1,[[.mp 26 9 0 0]],true⟩
def ael:qC =⟨154,1,[[.mp 26 9 0 0]],true⟩:=rfl
def qR(n0 n1 n2 n3 n4 n5:Nat)(ds:Int):aj:=⟨158,9,[[.ms 2000 2 0 n0,.ms 2001 1 0 n1,.ms 2002 4 0 n2,.ms 2003 3 0 n3,.ms 2004 2 0 n4,.ms 2005 1 0 n5,.int .i64 ds,.mm 23 true,.mm 24 true]],true⟩
def aem(n0 n1 n2 n3 n4 n5:Nat)(ds:Int):qR n0 n1 n2 n3 n4 n5 ds =⟨158,9,[[.ms 2000 2 0 n0,.ms 2001 1 0 n1,.ms 2002 4 0 n2,.ms 2003 3 0 n3,.ms 2004 2 0 n4,.ms 2005 1 0 n5,.int .i64 ds,.mm 23 true,.mm 24 true]],true⟩:=rfl
def qH(s:Sp):List (Nat×aj):=[(3,qC),(26,qR s.ts.length s.fs.length s.tb.length s.ms.length s.gs.length s.el.length s.ds),(2000,⟨68,2,s.ts.map kz,false⟩),(2001,⟨3,1,s.fs.map bg,false⟩),(2002,⟨75,4,s.tb.map ya,false⟩),(2003,⟨73,3,s.ms.map w_,false⟩),(2004,⟨77,2,s.gs.map JO,false⟩),(2005,⟨71,1,s.el.map bg,false⟩),(23,@aj.mk 0 0 [] false (.mp (s.im.map wX))),(24,@aj.mk 0 0 [] false (.mp (s.de.map qP)))]
def gn(s:Sp):qH s=[(3,qC),(26,qR s.ts.length s.fs.length s.tb.length s.ms.length s.gs.length s.el.length s.ds),(2000,⟨68,2,s.ts.map kz,false⟩),(2001,⟨3,1,s.fs.map bg,false⟩),(2002,⟨75,4,s.tb.map ya,false⟩),(2003,⟨73,3,s.ms.map w_,false⟩),(2004,⟨77,2,s.gs.map JO,false⟩),(2005,⟨71,1,s.el.map bg,false⟩),(23,@aj.mk 0 0 [] false (.mp (s.im.map wX))),(24,@aj.mk 0 0 [] false (.mp (s.de.map qP)))]:=rfl
def H_{f:FuncId}{x:AV}{s s':Sp}(h:aZ pg f [x,.mp 1000 1 0 0] (oH s) Ku (λr' σ'=>r' = .tup []/\σ'=oH s')){d:Option Nat}{w:St}{K:St->Prop}(hx:lB (bw [(1000,3),(1001,26),(2010,23),(2011,24)]) x=x)(hin:MQ w.heap (qH s))
  (hk:K ((St.mk (jW [2000,2001,2002,2003,2004,2005,23,24] w.env) (qH s'++jX [2000,2001,2002,2003,2004,2005,23,24] w.heap)).put d (.tup []))):cB pg f [x,.mp 3 1 0 0] d w K:=by
 refine ey (σ2:=qH s) (σ3:=qH s') (r3:=.tup []) h [(1000,3),(1001,26),(2010,23),(2011,24)] [2000,2001,2002,2003,2004,2005,23,24] ?_ rfl rfl rfl (pM hin) (λp hp=>?_) (λp hp=>?_) hk
 .rw[bY,hx];rfl
 .simp only[qH,bp,bZ,or_false]at hp;rcases hp with rfl|rfl|rfl|rfl|rfl|rfl|rfl|rfl|rfl|rfl
  .exact .inl ⟨⟨show 1000<=1000 by decide,show 1000<2000 by decide⟩,rfl⟩
  .exact .inl ⟨⟨show 1000<=1001 by decide,show 1001<2000 by decide⟩,rfl⟩
  .exact .inr ⟨by simp,.inr (show 2000<=2000 by decide),.inl rfl⟩
  .exact .inr ⟨by simp,.inr (show 2000<=2001 by decide),.inl rfl⟩
  .exact .inr ⟨by simp,.inr (show 2000<=2002 by decide),.inl rfl⟩
  .exact .inr ⟨by simp,.inr (show 2000<=2003 by decide),.inl rfl⟩
  .exact .inr ⟨by simp,.inr (show 2000<=2004 by decide),.inl rfl⟩
  .exact .inr ⟨by simp,.inr (show 2000<=2005 by decide),.inl rfl⟩
  .exact .inr ⟨by simp,.inl (show 23<1000 by decide),.inl rfl⟩
  .exact .inr ⟨by simp,.inl (show 24<1000 by decide),.inl rfl⟩
 .simp only[qH,bp,bZ,or_false]at hp;rcases hp with rfl|rfl|rfl|rfl|rfl|rfl|rfl|rfl|rfl|rfl<;>rfl
def sp0(m:Md):Sp:=⟨[],[],[],[],[],[],m.ds.length,[],[]⟩
structure Ry(m:Md):Prop where
 ts:m.ts.length<=10000
 ims:m.ims.length<=10000
 fs:m.fs.length<=10000
 tb:m.tbs.length<=10000
 ms:m.ms.length<=10000
 gs:m.gs.length<=10000
 exs:m.exs.length<=10000
 els:m.els.length<=10000
 gi:∀g∈m.gs,g.i.length<=2000000
 ei:∀e∈m.els,e.it.length<=2000000/\∀l∈e.it,l.length<=2000000
 tb2:∀x∈m.ts,x.ps.length<=2000000/\x.rs.length<=2000000
def J4(k k':Int):∀es:List (Int×Int),oY k' (g_ k es)=oY k' es+(if k'=k then 1 else 0)
 | []=>by
  simp only[g_,oY];by_cases h:k'=k
  .simp[h]
  .rw[ax (λq=>h q.symm),ax h];rfl
 | e::r=>by
  have ih:=J4 k k' r;simp only[g_];by_cases h:e.1=k
  .rw[aF h];simp only[oY];by_cases h2:k'=k
   .rw[aF h2.symm,aF (by rw[h,h2]),aF h2]
   .rw[ax (λq=>h2 q.symm),ax (λq=>h2 (by rw[<-q,h])),ax h2];simp
  .rw[ax h];simp only[oY];by_cases h2:e.1=k'
   .rw[aF h2,aF h2,ax (λq=>h (by rw[h2,q]))];simp
   .rw[ax h2,ax h2,ih]
def Xf{n:Nat}{s:Sp}(h:oSm n s)(x:Im):oSm (n+1) (zF s x):=by
 obtain⟨h1,h2,h3,h4,h5,h6,h7⟩:=h;have h7':∀k,0<=oY k (g_ x.k s.im)/\oY k (g_ x.k s.im)<=(n+1:Nat):=λk=>by
  have:=h7 k;rw[J4];split<;>omega
 unfold zF;dsimp only;split
 .exact⟨by dsimp only;omega,by simp;omega,by dsimp only;omega,by dsimp only;omega,by dsimp only;omega,by dsimp only;omega,h7'⟩
 split
 .exact⟨by dsimp only;omega,by dsimp only;omega,by simp;omega,by dsimp only;omega,by dsimp only;omega,by dsimp only;omega,h7'⟩
 split
 .exact⟨by dsimp only;omega,by dsimp only;omega,by dsimp only;omega,by simp;omega,by dsimp only;omega,by dsimp only;omega,h7'⟩
 split
 .exact⟨by dsimp only;omega,by dsimp only;omega,by dsimp only;omega,by dsimp only;omega,by simp;omega,by dsimp only;omega,h7'⟩
 .exact⟨by dsimp only;omega,by dsimp only;omega,by dsimp only;omega,by dsimp only;omega,by dsimp only;omega,by dsimp only;omega,h7'⟩
def A3(s:Sp)(g:Gd):Sp:={s with gs:=s.gs++[g.g],de:=vA g.i s.de}
def Eq(l:List (List a_))(de:List Int):List Int:=l.foldl (λd x=>vA x d) de
def Ib(s:Sp)(e:El):Sp:={s with el:=s.el++[e.ty],de:=Eq e.it s.de}
def Ed(s:Sp)(e:Ex):Sp:=if e.k=0 then{s with de:=zE s.de e.i}else s
def mk1(m:Md):Sp:={sp0 m with ts:=m.ts}
def mk2(m:Md):Sp:=m.ims.foldl zF (mk1 m)
def mk3(m:Md):Sp:={mk2 m with fs:=(mk2 m).fs++m.fs.map (·.t)}
def mk4(m:Md):Sp:={mk3 m with tb:=(mk3 m).tb++m.tbs}
def mk5(m:Md):Sp:={mk4 m with ms:=(mk4 m).ms++m.ms}
def mk6(m:Md):Sp:=m.gs.foldl A3 (mk5 m)
def mk7(m:Md):Sp:=m.els.foldl Ib (mk6 m)
def mk8(m:Md):Sp:=m.exs.foldl Ed (mk7 m)
def Ac{α β:Type}[Inhabited α](f:β->α->β){l:List α}{j:Nat}(h:j<l.length)(b:β):(l.drop j).foldl f b=(l.drop (j+1)).foldl f (f b (ap l j)):=by
 rw[cH h,List.foldl_cons]
instance:Inhabited Im:=⟨⟨[],[],0,0,0,default,default,default⟩⟩
attribute[local go_sem] bP aU cC bT rO cQ cj df dn gC bn ez aem ael
def Q4(m:Md)(h:Ry m):ah pg IK [da m] (qZ (mk8 m)):=by
 refine vD (ic:=ii 34 (ii 65 (ii 77 (ii 87 (ii 105 (ii 128 uV.body)))))) nR (cF uV) (by rfl) rfl ?_;simp only[go_sem,uV,ii,da];have hgo:∀(q:Sp),qH q++[(1,⟨33,12,[mI m],true⟩)]=qH q++[(1,⟨33,12,[mI m],true⟩)]:=λ_=>rfl;refine ao (λq:Nat=>⟨[(30,.int .i64 q),(29,.int .i64 m.ts.length),(28,.sl 2 (m.ts.map kz)),(3,.mp 3 1 0 0),(1,.mp 1 12 0 0)],qH {sp0 m with ts:=m.ts.take q}++[(1,⟨33,12,[mI m],true⟩)]⟩)
  (λq=>q<=m.ts.length) (λq=>m.ts.length-q) 0 (cR _) (((((((Wk.new0 _ 2000 2 68 (by decide)).trans (Wk.new0 _ 2001 1 3 (by decide))).trans (Wk.new0 _ 2002 4 75 (by decide))).trans (Wk.new0 _ 2003 3 73 (by decide))).trans ((Wk.new0 _ 2004 2 77 (by decide)).trans (Wk.new0 _ 2005 1 71 (by decide)))).trans
   (Wk.nlm _ 26 (t:=158) (st:=9) (r:=[.nl,.nl,.nl,.nl,.nl,.nl,.int .i64 m.ds.length,.mm 23 true,.mm 24 true]) (r':=[.ms 2000 2 0 0,.ms 2001 1 0 0,.ms 2002 4 0 0,.ms 2003 3 0 0,.ms 2004 2 0 0,.ms 2005 1 0 0,.int .i64 m.ds.length,.mm 23 true,.mm 24 true]) (by simp only[go_sem]) ⟨.inr ⟨rfl,.inr ⟨2000,2,rfl⟩⟩,.inr ⟨rfl,.inr ⟨2001,1,rfl⟩⟩,.inr ⟨rfl,.inr ⟨2002,4,rfl⟩⟩,.inr ⟨rfl,.inr ⟨2003,3,rfl⟩⟩,.inr ⟨rfl,.inr ⟨2004,2,rfl⟩⟩,.inr ⟨rfl,.inr ⟨2005,1,rfl⟩⟩,.inl rfl,.inl rfl,.inl rfl,trivial⟩)).trans (Wk.of ?_ ?_)) ?_
 .simp only[go_sem];try simp
 .simp only[go_sem,gn,sp0,iO];try rfl
 .intro j hj;replace hj:j<=m.ts.length:=hj;by_cases h1:(j:Int)<(m.ts.length:Int)
  .have hj':j<m.ts.length:=by omega
   have e8:=cA hj' (by have:=h.ts;omega);have hx:=h.tb2 (ap m.ts j) (by rw[aV hj'];exact gO _);have hc:=Hx (ap m.ts j) hx;have htk:=lE hj';have htl:(m.ts.take j).length=j:=by rw[q_];omega
   generalize hX:ap m.ts j=X at hc htk hx;simp only[aU]at hc;have hfe:(m.ts.take j).map kz++[kz X]=(m.ts.take (j+1)).map kz:=by rw[htk,dW];rfl
   have htl2:(m.ts.take (j+1)).length=j+1:=by rw[q_];omega
   simp only[aU]at hfe;simp only[go_sem,aw h1,gn,hX];refine⟨by omega,h1,?_⟩;refine aL hc (by simp[go_sem]) rfl ?_;simp only[go_sem];refine ek _ _ (iS (id:=2000) (len:=(m.ts.take j).length) (rows:=(m.ts.take j).map kz) (ys:=[kz X]) (by rfl) (by rfl) (by rfl) (by rw[bP]) (by simp) (by have:=h.ts;omega) (by decide)) (by simp only[go_sem]) (by rfl) (by simp only[go_sem];rfl) (by simp only[go_sem]) ?_;simp only[go_sem,hfe];refine ay (j+1) (show j+1<=m.ts.length by omega) (show m.ts.length-(j+1)<m.ts.length-j by omega) (Wk.of ?_ ?_)
   .simp only[go_sem,e8];try simp
   .simp only[go_sem,gn,htl,htl2,j1,iN];try rfl
  have hje:j=m.ts.length:=by omega
  subst hje;have hS1:({sp0 m with ts:=m.ts.take m.ts.length}:Sp)=mk1 m:=by rw[jc];rfl
  rw[hS1];have b1:oSm 10000 (mk1 m):=⟨h.ts,cR _,cR _,cR _,cR _,cR _,λk=>⟨by show(0:Int)<=0;omega,by show(0:Int)<=_;omega⟩⟩
  obtain⟨S2,hS2⟩:∃S,mk2 m=S:=⟨_,rfl⟩
  have hS2':m.ims.foldl zF (mk1 m)=S2:=hS2;simp only[go_sem,aC h1,gn];refine ao (λq:Nat×Sp=>⟨[(50,.int .i64 q.1),(49,.int .i64 m.ims.length),(48,.sl 13 (m.ims.map Ae)),(6,.fn xp [.mp 3 1 0 0]),(3,.mp 3 1 0 0),(1,.mp 1 12 0 0)],qH q.2++[(1,⟨33,12,[mI m],true⟩)]⟩)
   (λq=>q.1<=m.ims.length/\oSm (10000+q.1) q.2/\(m.ims.drop q.1).foldl zF q.2=S2) (λq=>m.ims.length-q.1) (0,mk1 m) ⟨cR _,b1,hS2'⟩ (Wk.of ?_ ?_) ?_
  .simp only[go_sem];try simp
  .simp only[go_sem,gn];try rfl
  rintro⟨j,s⟩ ⟨hj,hb,hf⟩;dsimp only at hj hb hf;by_cases h2:(j:Int)<(m.ims.length:Int)
  .have hj':j<m.ims.length:=by omega
   have e8:=cA hj' (by have:=h.ims;omega);rw[Ac zF hj']at hf;generalize hX:ap m.ims j=X at hf;have hbb:=Xf hb X;have hm:=T9 s X ⟨by have:=hb.ts;have:=h.ims;omega,by have:=hb.fs;have:=h.ims;omega,by have:=hb.tb;have:=h.ims;omega,by have:=hb.ms;have:=h.ims;omega,by have:=hb.gs;have:=h.ims;omega,by have:=hb.el;have:=h.ims;omega,λk=>⟨(hb.im k).1,by have:=(hb.im k).2;have:=h.ims;omega⟩⟩;generalize zF s X=s' at hm hf hbb;simp only[go_sem,aw h2,hX,gn];refine⟨by omega,h2,?_⟩;rw[aF (by decide)];refine⟨by kernel_rfl,?_⟩;refine H_ hm rfl (by simp only[go_sem,gn]) ?_;simp only[go_sem,gn];refine ay (j+1,s') ⟨show j+1<=m.ims.length by omega,by rw[show 10000+(j+1)=10000+j+1 from rfl];exact hbb,hf⟩ (show m.ims.length-(j+1)<m.ims.length-j by omega) (Wk.of ?_ ?_)
   .simp only[go_sem,e8];try simp
   .simp only[go_sem,gn];try rfl
  have hje:j=m.ims.length:=by omega
  rw[hje,cu (aN _)]at hf;obtain rfl:s=S2:=hf;have hb2:oSm 20000 s:=⟨by have:=hb.ts;have:=h.ims;omega,by have:=hb.fs;have:=h.ims;omega,by have:=hb.tb;have:=h.ims;omega,by have:=hb.ms;have:=h.ims;omega,by have:=hb.gs;have:=h.ims;omega,by have:=hb.el;have:=h.ims;omega,λk=>⟨(hb.im k).1,by have:=(hb.im k).2;have:=h.ims;omega⟩⟩
  simp only[go_sem,aC h2,gn];clear h1 h2 hj hb hje;refine ao (λq:Nat=>⟨[(61,.int .i64 q),(60,.int .i64 m.fs.length),(59,.sl 3 (m.fs.map pt)),(3,.mp 3 1 0 0),(1,.mp 1 12 0 0)],qH {s with fs:=s.fs++(m.fs.take q).map (·.t)}++[(1,⟨33,12,[mI m],true⟩)]⟩)
   (λq=>q<=m.fs.length) (λq=>m.fs.length-q) 0 (cR _) (Wk.of ?_ ?_) ?_
  .simp only[go_sem];try simp
  .simp only[go_sem,gn,iO,eL,lm];try rfl
  intro j hj;replace hj:j<=m.fs.length:=hj;by_cases h1:(j:Int)<(m.fs.length:Int)
  .have hj':j<m.fs.length:=by omega
   have e8:=cA hj' (by have:=h.fs;omega);have htk:=lE hj';have htl:(m.fs.take j).length=j:=by rw[q_];omega
   have htl2:(m.fs.take (j+1)).length=j+1:=by rw[q_];omega
   generalize hX:ap m.fs j=X at htk;have hfe:(s.fs++(m.fs.take j).map (·.t)).map bg++[[.int .i64 X.t]]=(s.fs++(m.fs.take (j+1)).map (·.t)).map bg:=by rw[htk];simp[bg]
   have hll:(s.fs++(m.fs.take j).map (·.t)).length=s.fs.length+j:=by rw[ej,bP,htl]
   have hll2:(s.fs++(m.fs.take (j+1)).map (·.t)).length=s.fs.length+j+1:=by rw[ej,bP,htl2];rfl
   simp only[go_sem,aw h1,gn,hX];refine⟨by omega,h1,?_⟩;refine ek _ _ (iS (id:=2001) (len:=(s.fs++(m.fs.take j).map (·.t)).length) (rows:=(s.fs++(m.fs.take j).map (·.t)).map bg) (ys:=[[.int .i64 X.t]]) (by rfl) (by rfl) (by rfl) (by rw[bP]) (by simp) (by have:=h.fs;have:=hb2.fs;omega) (by decide)) (by simp only[go_sem]) (by rfl) (by simp only[go_sem];rfl) (by simp only[go_sem]) ?_;simp only[go_sem,hfe];refine ay (j+1) (show j+1<=m.fs.length by omega) (show m.fs.length-(j+1)<m.fs.length-j by omega) (Wk.of ?_ ?_)
   .simp only[go_sem,e8];try simp
   .simp only[go_sem,gn,hll,hll2,j1,iN];try rfl
  have hje:j=m.fs.length:=by omega
  subst hje;rw[jc];obtain⟨S3,hS3⟩:∃S,mk3 m=S:=⟨_,rfl⟩
  have hS3':({s with fs:=s.fs++m.fs.map (·.t)}:Sp)=S3:=by rw[<-hS3,mk3,hS2]
  rw[hS3'];have hb3:S3.tb.length<=20000/\S3.ms.length<=20000/\S3.gs.length<=20000/\S3.el.length<=20000:=by rw[<-hS3'];exact⟨hb2.tb,hb2.ms,hb2.gs,hb2.el⟩
  obtain⟨g1,g2,g3,g4⟩:=hb3;simp only[go_sem,aC h1,gn];clear h1 hj;refine ek _ _ (iS (id:=2002) (len:=S3.tb.length) (rows:=S3.tb.map ya) (ys:=m.tbs.map ya) (by rfl) (by rfl) (by rfl) (by rw[bP]) (by rw[bP];have:=h.tb;omega) (by omega) (by decide)) (by simp only[go_sem]) (by rfl) (by simp only[go_sem];rfl) (by simp only[go_sem]) ?_;simp only[go_sem];refine ek _ _ (iS (id:=2003) (len:=S3.ms.length) (rows:=S3.ms.map w_) (ys:=m.ms.map w_) (by rfl) (by rfl) (by rfl) (by rw[bP]) (by rw[bP];have:=h.ms;omega) (by omega) (by decide)) (by simp only[go_sem]) (by rfl) (by simp only[go_sem];rfl) (by simp only[go_sem]) ?_;simp only[go_sem];obtain⟨S5,hS5⟩:∃S,mk5 m=S:=⟨_,rfl⟩
  have hS5':({S3 with tb:=S3.tb++m.tbs,ms:=S3.ms++m.ms}:Sp)=S5:=by rw[<-hS5,mk5,mk4,hS3]
  have h5g:S5.gs.length<=20000/\S5.el.length<=20000:=by rw[<-hS5'];exact⟨g3,g4⟩
  obtain⟨h5g,h5e⟩:=h5g;obtain⟨S6,hS6⟩:∃S,mk6 m=S:=⟨_,rfl⟩
  have hS6':m.gs.foldl A3 S5=S6:=by rw[<-hS6,mk6,hS5]
  refine ao (λq:Nat×Sp=>⟨[(101,.int .i64 q.1),(100,.int .i64 m.gs.length),(99,.sl 3 (m.gs.map zk)),(11,.fn ml [.mp 3 1 0 0]),(3,.mp 3 1 0 0),(1,.mp 1 12 0 0)],qH q.2++[(1,⟨33,12,[mI m],true⟩)]⟩)
   (λq=>q.1<=m.gs.length/\(q.2.gs.length<=20000+q.1/\q.2.el.length<=20000)/\(m.gs.drop q.1).foldl A3 q.2=S6) (λq=>m.gs.length-q.1) (0,S5) ⟨cR _,⟨h5g,h5e⟩,hS6'⟩ (Wk.of ?_ ?_) ?_
  .simp only[go_sem];try simp
  .rw[<-hS5'];simp only[go_sem,gn,dW,ej];try rfl
  rintro⟨j,s⟩ ⟨hj,⟨hb1,hbe⟩,hf⟩;dsimp only at hj hb1 hbe hf;by_cases h1:(j:Int)<(m.gs.length:Int)
  .have hj':j<m.gs.length:=by omega
   have e8:=cA hj' (by have:=h.gs;omega);have hxi:=h.gi (ap m.gs j) (by rw[aV hj'];exact gO _);rw[Ac A3 hj']at hf;generalize hX:ap m.gs j=X at hf hxi;have hm:=We {s with gs:=s.gs++[X.g]} X.i hxi;have hg:({s with gs:=s.gs++[X.g],de:=vA X.i s.de}:Sp)=A3 s X:=rfl;have hgl:(A3 s X).gs.length<=20000+(j+1):=by rw[<-hg];simp;omega
   have hel:(A3 s X).el.length<=20000:=hbe;rw[show({({s with gs:=s.gs++[X.g]}:Sp)with de:=vA X.i ({s with gs:=s.gs++[X.g]}:Sp).de}:Sp)=A3 s X from rfl]at hm;generalize A3 s X=s' at hm hf hgl hel;simp only[go_sem,aw h1,hX,gn];refine⟨by omega,h1,?_⟩;refine ek _ _ (iS (id:=2004) (len:=s.gs.length) (rows:=s.gs.map JO) (ys:=[JO X.g]) (by rfl) (by rfl) (by rfl) (by rw[bP]) (by simp) (by have:=h.gs;omega) (by decide)) (by simp only[go_sem]) (by rfl) (by simp only[go_sem];rfl) (by simp only[go_sem]) ?_;simp only[go_sem];rw[aF (by decide)];refine⟨by kernel_rfl,?_⟩;refine H_ hm rfl (by simp only[go_sem,gn,dW,ej,bY,eL,j1,iN]) ?_;simp only[go_sem,gn];refine ay (j+1,s') ⟨show j+1<=m.gs.length by omega,⟨hgl,hel⟩,hf⟩ (show m.gs.length-(j+1)<m.gs.length-j by omega) (Wk.of ?_ ?_)
   .simp only[go_sem,e8];try simp
   .simp only[go_sem,gn];try rfl
  have hje:j=m.gs.length:=by omega
  rw[hje,cu (aN _)]at hf;obtain rfl:s=S6:=hf;simp only[go_sem,aC h1,gn];clear h1 hj hb1 hje;obtain⟨S7,hS7⟩:∃S,mk7 m=S:=⟨_,rfl⟩
  have hS7':m.els.foldl Ib s=S7:=by rw[<-hS7,mk7,hS6]
  refine ao (λq:Nat×Sp=>⟨[(124,.int .i64 q.1),(123,.int .i64 m.els.length),(122,.sl 5 (m.els.map rK)),(11,.fn ml [.mp 3 1 0 0]),(3,.mp 3 1 0 0),(1,.mp 1 12 0 0)],qH q.2++[(1,⟨33,12,[mI m],true⟩)]⟩)
   (λq=>q.1<=m.els.length/\q.2.el.length<=20000+q.1/\(m.els.drop q.1).foldl Ib q.2=S7) (λq=>m.els.length-q.1) (0,s) ⟨cR _,hbe,hS7'⟩ (Wk.of ?_ ?_) ?_
  .simp only[go_sem];try simp
  .simp only[go_sem,gn];try rfl
  rintro⟨j,s2⟩ ⟨hj,hb1,hf⟩;dsimp only at hj hb1 hf;by_cases h1:(j:Int)<(m.els.length:Int)
  .have hj':j<m.els.length:=by omega
   have e8:=cA hj' (by have:=h.els;omega);obtain⟨hxi,hxl⟩:=h.ei (ap m.els j) (by rw[aV hj'];exact gO _);rw[Ac Ib hj']at hf;generalize hX:ap m.els j=X at hf hxi hxl;simp only[go_sem,aw h1,hX,gn];refine⟨by omega,h1,?_⟩;refine ek _ _ (iS (id:=2005) (len:=s2.el.length) (rows:=s2.el.map bg) (ys:=[[.int .i64 X.ty]]) (by rfl) (by rfl) (by rfl) (by rw[bP]) (by simp) (by have:=h.els;omega) (by decide)) (by simp only[go_sem]) (by rfl) (by simp only[go_sem];rfl) (by simp only[go_sem]) ?_;simp only[go_sem];refine ao (λq:Nat×List Int=>⟨[(142,.int .i64 q.1),(141,.int .i64 X.it.length),(140,.sl 1 (X.it.map oX)),(124,.int .i64 j),(123,.int .i64 m.els.length),(122,.sl 5 (m.els.map rK)),(11,.fn ml [.mp 3 1 0 0]),(3,.mp 3 1 0 0),(1,.mp 1 12 0 0)],qH {s2 with el:=s2.el++[X.ty],de:=q.2}++[(1,⟨33,12,[mI m],true⟩)]⟩)
    (λq=>q.1<=X.it.length/\Eq (X.it.drop q.1) q.2=Eq X.it s2.de) (λq=>X.it.length-q.1) (0,s2.de) ⟨cR _,rfl⟩ (Wk.of ?_ ?_) ?_
   .simp only[go_sem];try simp
   .simp only[go_sem,gn,dW,ej,bY,eL,j1,iN];try rfl
   rintro⟨i,de⟩ ⟨hi,hd⟩;dsimp only at hi hd;by_cases h2:(i:Int)<(X.it.length:Int)
   .have hi':i<X.it.length:=by omega
    have e9:=cA hi' (by omega);have hxm:=hxl (ap X.it i) (by rw[aV hi'];exact gO _);rw[cH hi']at hd;have hd:Eq (X.it.drop (i+1)) (vA (ap X.it i) de)=Eq X.it s2.de:=hd;generalize hY:ap X.it i=Y at hd hxm;have hm:=We {s2 with el:=s2.el++[X.ty],de:=de} Y hxm;simp only[go_sem,aw h2,hY,gn];refine⟨by omega,h2,?_⟩;rw[aF (by decide)];refine⟨by kernel_rfl,?_⟩;refine H_ hm rfl (by simp only[go_sem,gn]) ?_;simp only[go_sem,gn];refine ay (i+1,vA Y de) ⟨show i+1<=X.it.length by omega,hd⟩ (show X.it.length-(i+1)<X.it.length-i by omega) (Wk.of ?_ ?_)
    .simp only[go_sem,e9];try simp
    .simp only[go_sem,gn];try rfl
   have hie:i=X.it.length:=by omega
   rw[hie,cu (aN _)]at hd;have hd:de=Eq X.it s2.de:=hd;subst hd;have hel:(Ib s2 X).el.length<=20000+(j+1):=by show(s2.el++[X.ty]).length<=_;simp;omega
   simp only[go_sem,aC h2,gn];refine ay (j+1,{s2 with el:=s2.el++[X.ty],de:=Eq X.it s2.de}) ⟨show j+1<=m.els.length by omega,hel,hf⟩ (show m.els.length-(j+1)<m.els.length-j by omega) (Wk.of ?_ ?_)
   .simp only[go_sem,e8];try simp
   .simp only[go_sem,gn];try rfl
  have hje:j=m.els.length:=by omega
  rw[hje,cu (aN _)]at hf;obtain rfl:s2=S7:=hf;simp only[go_sem,aC h1,gn];clear h1 hj hb1 hje;obtain⟨S8,hS8⟩:∃S,mk8 m=S:=⟨_,rfl⟩
  rw[hS8];have hS8':m.exs.foldl Ed s2=S8:=by rw[<-hS8,mk8,hS7]
  refine ao (λq:Nat×Sp=>⟨[(154,.int .i64 q.1),(153,.int .i64 m.exs.length),(152,.sl 3 (m.exs.map x_)),(3,.mp 3 1 0 0),(1,.mp 1 12 0 0)],qH q.2++[(1,⟨33,12,[mI m],true⟩)]⟩)
   (λq=>q.1<=m.exs.length/\(m.exs.drop q.1).foldl Ed q.2=S8) (λq=>m.exs.length-q.1) (0,s2) ⟨cR _,hS8'⟩ (Wk.of ?_ ?_) ?_
  .simp only[go_sem];try simp
  .simp only[go_sem,gn];try rfl
  rintro⟨j,s3⟩ ⟨hj,hf⟩;dsimp only at hj hf;by_cases h1:(j:Int)<(m.exs.length:Int)
  .have hj':j<m.exs.length:=by omega
   have e8:=cA hj' (by have:=h.exs;omega);rw[Ac Ed hj']at hf;generalize hX:ap m.exs j=X at hf;have hp:=Qq X.i s3.de;by_cases h2:X.k=0
   .rw[Ed,aF h2]at hf;simp only[go_sem,aw h1,hX,gn,aK h2];refine⟨by omega,h1,rfl,rfl,_,hp,?_⟩;refine ay (j+1,{s3 with de:=zE s3.de X.i}) ⟨show j+1<=m.exs.length by omega,hf⟩ (show m.exs.length-(j+1)<m.exs.length-j by omega) (Wk.of ?_ ?_)
    .simp only[go_sem,e8];try simp
    .simp only[go_sem,gn];try rfl
   .rw[Ed,ax h2]at hf;simp only[go_sem,aw h1,hX,gn,ab h2];refine⟨by omega,h1,?_⟩;refine ay (j+1,s3) ⟨show j+1<=m.exs.length by omega,hf⟩ (show m.exs.length-(j+1)<m.exs.length-j by omega) (Wk.of ?_ ?_)
    .simp only[go_sem,e8];try simp
    .simp only[go_sem,gn];try rfl
  have hje:j=m.exs.length:=by omega
  rw[hje,cu (aN _)]at hf;obtain rfl:s3=S8:=hf;simp only[go_sem,aC h1,gn];refine gM (((Wk.frzs [2000,2001,2002,2003,2004,2005,23,24] _).trans (Wk.unrec _ 26 (t:=158) (st:=9) (r:=spC s3) (by simp only[go_sem,aN,lD,oK,ga,aD]) ?_)).trans ((Wk.frzs [26] _).trans (Wk.unrec _ 170 (t:=161) (st:=1) (r:=[.ip (spC s3)]) ?_ ?_))) [170] ?_ (by rfl)
  .intro x hx;simp only[aD,bp,bZ,or_false]at hx;rcases hx with rfl|rfl|rfl|rfl|rfl|rfl|rfl|rfl|rfl<;>exact⟨rfl,rfl⟩
  .simp only[go_sem,aD]
  .intro x hx;rw[eF.1 hx];exact⟨rfl,rfl⟩
  .simp only[go_sem,bc,aD]
end
open Go Go.Mw
def VR:∀(l:List Im)(s:Sp),l.foldl zF s =⟨s.ts,s.fs++(l.filter λx=>x.k==0).map (·.f),s.tb++(l.filter λx=>x.k==1).map (λx=>⟨x.te,x.tl⟩),s.ms++(l.filter λx=>x.k==2).map (·.me),s.gs++(l.filter λx=>x.k==3).map (·.g),s.el,s.ds,l.foldl (λl x=>g_ x.k l) s.im,s.de⟩
 | [],s=>by simp
 | x::l,s=>by
  rw[List.foldl_cons,VR l];unfold zF;dsimp only;by_cases h0:x.k=0
  .simp[h0,List.filter_cons]
  by_cases h1:x.k=1
  .simp[h1,List.filter_cons]
  by_cases h2:x.k=2
  .simp[h2,List.filter_cons]
  by_cases h3:x.k=3
  .simp[h3,List.filter_cons]
  .simp[h0,h1,h2,h3,List.filter_cons]
def V4:∀(l:List Gd)(s:Sp),l.foldl A3 s={s with gs:=s.gs++l.map (·.g),de:=(l.flatMap λg=>aP g.i).foldl zE s.de}
 | [],s=>by simp
 | g::l,s=>by
  rw[List.foldl_cons,V4 l];simp[A3,vA,jd,List.foldl_append]
def V7:∀(l:List (List a_))(de:List Int),Eq l de=(l.flatMap aP).foldl zE de
 | [],de=>rfl
 | x::l,de=>by
  show Eq l (vA x de)=_;rw[V7 l];simp[vA,jd,List.foldl_append]
def VX:∀(l:List El)(s:Sp),l.foldl Ib s={s with el:=s.el++l.map (·.ty),de:=(l.flatMap λe=>e.it.flatMap aP).foldl zE s.de}
 | [],s=>by simp
 | e::l,s=>by
  rw[List.foldl_cons,VX l];simp[Ib,V7,jd,List.foldl_append]
def VZ:∀(l:List Ex)(s:Sp),l.foldl Ed s={s with de:=((l.filter λe=>e.k==0).map (·.i)).foldl zE s.de}
 | [],s=>by simp
 | e::l,s=>by
  rw[List.foldl_cons,VZ l];by_cases h:e.k=0
  .simp[Ed,h,List.filter_cons]
  .simp[Ed,h,List.filter_cons]
def Wf(m:Md):mk8 m=I6 m:=by
 unfold mk8 mk7 mk6;rw[VZ,VX,V4];unfold mk5 mk4 mk3 mk2;rw[VR];simp[mk1,sp0,I6,VV,List.foldl_append]
section
attribute[local go_sem] rO gC cj dn
attribute[local go_sem] bP bn aU cQ bT cC
def sx(m:Md)(h:m.ims.length<=10000)(k:Int):ah pg yx [da m,.int .i64 k] (.int .i64 (gj k m.ims:Nat)):=by
 refine au oN ?_;simp only[go_sem,oN,da];refine ao (λj:Nat=>⟨[(6,.int .i64 j),(5,.int .i64 (gj k (m.ims.take j):Nat)),(2,.mp 2 12 0 0),(1,.int .i64 k)],[(2,⟨33,12,[mI m],true⟩)]⟩) (λj=>j<=m.ims.length) (λj=>m.ims.length-j) 0 (cR _) (Wk.of ?_ ?_) ?_
 .simp only[go_sem,iO,gj];try simp
 .simp only[go_sem]
 intro j hj;by_cases h1:(j:Int)<(m.ims.length:Int)
 .have hj':j<m.ims.length:=by omega
  have e8:=cA hj' (by omega);have t:=NX (k:=k) hj';have hle:gj k (m.ims.take j)<=m.ims.length:=cZ (ly k (m.ims.take j)) (by rw[q_];omega);by_cases q:(ap m.ims j).k=k
  .rw[aF q]at t;have w:IntKind.i64.wrap ((gj k (m.ims.take j):Int)+1)=((gj k (m.ims.take j)+1:Nat):Int):=by rw[wi (by omega) (by omega)];omega
   simp only[go_sem,aw h1,aK q];refine⟨by omega,h1,ay (j+1) (show j+1<=m.ims.length by omega) (show m.ims.length-(j+1)<m.ims.length-j by omega) (Wk.of ?_ ?_)⟩
   .simp only[go_sem,e8,t,w];try simp
   .simp only[go_sem]
  .rw[ax q,Nat.add_zero]at t;simp only[go_sem,aw h1,ab q];refine⟨by omega,h1,ay (j+1) (show j+1<=m.ims.length by omega) (show m.ims.length-(j+1)<m.ims.length-j by omega) (Wk.of ?_ ?_)⟩
   .simp only[go_sem,e8,t];try simp
   .simp only[go_sem]
 .obtain rfl:j=m.ims.length:=by omega
  rw[jc];simp only[go_sem,aC h1];exact ac
