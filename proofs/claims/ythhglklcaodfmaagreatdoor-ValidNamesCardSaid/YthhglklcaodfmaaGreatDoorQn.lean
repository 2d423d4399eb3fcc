import Derived.Test.YthhglklcaodfmaaGreatDoorQm
set_option linter.all false
set_option maxRecDepth 100000
set_option maxHeartbeats 40000000
namespace Go.Proofs.YthhglklcaodfmaaGreatDoor
section
open Go Go.Mw
def xy (p:Int×Bool):List AV:=[.int .i64 p.1,.bool p.2]
theorem Vd (p:Int×Bool):xy p=[.int .i64 p.1,.bool p.2]:=rfl
def A9 (n m:Nat) (ov:Bool):ah:=⟨228,3,[[.ms 2001 1 0 n,.ms 2002 2 0 m,.bool ov]],true⟩
def DP (l:List Int):ah:=⟨48,1,l.map bp,false⟩
def DO (l:List (Int×Bool)):ah:=⟨260,2,l.map xy,false⟩
theorem n7 (n m:Nat) (ov:Bool):A9 n m ov =⟨228,3,[[.ms 2001 1 0 n,.ms 2002 2 0 m,.bool ov]],true⟩:=rfl
theorem n8 (l:List Int):DP l =⟨48,1,l.map bp,false⟩:=rfl
theorem n6 (l:List (Int×Bool)):DO l =⟨260,2,l.map xy,false⟩:=rfl
def gK (S:Sk):List (Nat×ah):=[(1001,A9 S.all.length (bR (S.t :: S.u)).length S.ov),(2001,DP S.all),(2002,DO (bR (S.t :: S.u)))]
theorem nZ (S:Sk):gK S=[(1001,A9 S.all.length (bR (S.t :: S.u)).length S.ov),(2001,DP S.all),(2002,DO (bR (S.t :: S.u)))]:=rfl
def za (S:Sk):AV:=.ip [.sl 1 (S.all.map bp),.sl 2 ((bR (S.t :: S.u)).map xy),.bool S.ov]
theorem jF (S:Sk):za S = .ip [.sl 1 (S.all.map bp),.sl 2 ((bR (S.t :: S.u)).map xy),.bool S.ov]:=rfl
def DM (id:Nat):Prop:=1000≤id∧id<2000
def Bd (f:FuncId) (rest:List AV) (S:Sk) (r:AV) (S':Sk):Prop:=bu Tryz.prog f (.mp 1001 3 0 0 :: rest) (gK S) DM (fun r' σ'=>r'=r∧σ'=gK S')
theorem cN:∀l:List Sg,(bR l).length=l.length
 | []=>rfl
 | g :: r=>by rw [bR,ee,cN r];rfl
theorem iA (S:Sk):S.all=bK S.u++S.t.l:=rfl
theorem ad6 (i:Nat) (o:ah) (x:AV) (hx:er x=[]):jN i o x=x:=by cases x<;>first | rfl | (simp [er] at hx)
theorem Of {f:AV→List Nat} {r:AV→AV} (hh:∀x,f x=[]→r x=x):∀l:List AV,l.flatMap f=[]→l.map r=l
 | [],_=>rfl
 | y :: l,hl=>by
  simp only [m8,List.append_eq_nil_iff] at hl
  simp only [cF,hh y hl.1,Of hh l hl.2]
theorem YA (i:Nat) (o:ah) (x:AV) (hx:dO x=[]):kI i o x=x:=by
 cases x with
 | fn f caps=>simp only [kI,Of (ad6 i o) caps hx]
 | _=>first | rfl | (simp [dO,er] at hx)
theorem TQ (i:Nat) (o:ah) (x:AV) (hx:fG x=[]):tF i o x=x:=by
 cases x with
 | agg cells=>simp only [tF,Of (YA i o) cells hx]
 | fn f caps=>exact YA i o (.fn f caps) hx
 | _=>first | rfl | (simp [fG,dO,er] at hx)
theorem ad7 (i:Nat) (o:ah) (x:AV) (hx:aI x=[]):lE i o x=x:=by
 cases x with
 | tup vs=>simp only [lE,Of (TQ i o) vs hx]
 | agg cells=>exact TQ i o (.agg cells) hx
 | fn f caps=>exact TQ i o (.fn f caps) hx
 | _=>first | rfl | (simp [aI,fG,dO,er] at hx)
theorem QW:∀(fs:List Nat) (s:St) (x:AV),aI x=[]→kJ fs s x=x
 | [],_,_,_=>rfl
 | i :: r,s,x,hx=>by
  have h1:frz1 s i x=x:=by
   unfold frz1
   split
   ·split
    ·rfl
    ·exact ad7 _ _ x hx
   ·rfl
  rw [kJ,h1,QW r _ x hx]
theorem lr (fs:List Nat) (s:St):∀l:List AV,(∀x∈l,aI x=[])→l.map (kJ fs s)=l
 | [],_=>rfl
 | x :: l,h=>by rw [cF,QW fs s x (h x (by simp)),lr fs s l fun y hy=>h y (by simp [hy])]
attribute [local go_sem] bT nZ n7 n8 n6 jF Vd
theorem yQ {f:FuncId} {rest:List AV} {S:Sk} {r:AV} (h:aj Tryz.prog f (za S :: rest) r) (hf:iX r=true) (hr:∀x∈rest,aI x=[]):Bd f rest S r S:=by
 have w1:=dC.frzs [2001,2002] ⟨[],gK S⟩ (.mp 1001 3 0 0 :: rest)
 have e1:(AV.mp 1001 3 0 0 :: rest).map (kJ [2001,2002] ⟨[],gK S⟩) = .mp 1001 3 0 0 :: rest:=by
  rw [cF,lr _ _ rest hr]
  rfl
 rw [e1] at w1
 have w2:=dC.unrec (frzs [2001,2002] ⟨[],gK S⟩) (.mp 1001 3 0 0 :: rest) 1001 (t:=228) (st:=3) (r:=[.sl 1 (S.all.map bp),.sl 2 ((bR (S.t :: S.u)).map xy),.bool S.ov]) (by simp only [go_sem,gR,aO,List.drop_zero,Nat.zero_add]) (by
  intro x hx
  simp only [bc,List.not_mem_nil,or_false] at hx
  rcases hx with rfl | rfl | rfl<;>exact ⟨rfl,rfl⟩)
 have w3:=(w1.trans w2).trans (dC.frzs [1001] _ _)
 rw [cF,lr _ _ rest hr] at w3
 refine bu.lend (args':=za S :: rest) h hf w3 ?_ ?_ _
 ·intro x hx
  rcases bc.1 hx with rfl | hx
  ·rfl
  ·exact hr x hx
 ·intro p hp i hi
  simp only [gK,bc,List.not_mem_nil,or_false] at hp
  rcases hp with rfl | rfl | rfl
  ·simp only [A9,dt,dl,m8,List.flatMap_nil,dO,er,jJ,dL,du,e_,bc,List.not_mem_nil,or_false] at hi
   rcases hi with rfl | rfl<;>rfl
  ·cases hi
  ·cases hi
theorem Mc (S:Sk):aj Tryz.prog aaz [za S] (.bool true):=by
 refine ac (ic:=Sa.body) ap adb rfl rfl ?_
 have h:decide (((bR (S.t :: S.u)).length:Int)>0)=true:=by rw [cN];exact bH (by simp only [iw];omega)
 simp only [go_sem,Sa,h]
 exact ak
theorem VB (S:Sk):aj Tryz.prog aay [za S] (.bool S.ov):=by
 refine ac (ic:=R9.body) ap ac8 rfl rfl ?_
 have c:=Mc S
 simp only [jF] at c
 simp only [go_sem,R9]
 refine aa (c) ?_
 simp only [go_sem]
 exact ak
theorem mD (S:Sk):Bd aaz [] S (.bool true) S:=yQ (Mc S) rfl (fun x hx=>by cases hx)
theorem T7 (S:Sk):Bd aay [] S (.bool S.ov) S:=yQ (VB S) rfl (fun x hx=>by cases hx)
theorem aD {f:FuncId} {rest:List AV} {S S':Sk} {r:AV} (h:Bd f rest S r S') {args:List AV} {d:Option Nat} {s:St} {K:St→Prop} (ha:args = .mp 1001 3 0 0 :: rest) (h1:ae s.heap 1001=some (A9 S.all.length (bR (S.t :: S.u)).length S.ov)) (h2:ae s.heap 2001=some (DP S.all)) (h3:ae s.heap 2002=some (DO (bR (S.t :: S.u))))
  (hk:K ((St.mk (fP [2001,2002] s.env) (gK S'++fQ [2001,2002] s.heap)).put d r)):ci Tryz.prog f args d s K:=by
 subst ha
 refine fD h [2001,2002] (fun p hp=>?_) (fun p hp=>?_) (fun p hp=>?_) hk
 ·simp only [gK,bc,List.not_mem_nil,or_false] at hp
  rcases hp with rfl | rfl | rfl
  ·exact h1
  ·exact h2
  ·exact h3
 ·simp only [gK,bc,List.not_mem_nil,or_false] at hp
  rcases hp with rfl | rfl | rfl
  ·exact .inl ⟨⟨show 1000≤1001 by decide,show 1001<2000 by decide⟩,rfl⟩
  ·exact .inr ⟨by simp,.inr (show 2000≤2001 by decide),.inl rfl⟩
  ·exact .inr ⟨by simp,.inr (show 2000≤2002 by decide),.inl rfl⟩
 ·simp only [gK,bc,List.not_mem_nil,or_false] at hp
  rcases hp with rfl | rfl | rfl<;>rfl
theorem AE (S:Sk):(bR (S.t :: S.u)).length=S.u.length+1:=by rw [cN,iw]
theorem nS (S:Sk) (hb:S.u.length<1000000):IntKind.i64.wrap (((bR (S.t :: S.u)).length:Int) - 1)=(S.u.length:Int):=by
 rw [cN,wi (by simp only [iw];omega) (by simp only [iw];omega)]
 simp only [iw];omega
theorem Ki (S:Sk) (hb:S.u.length<1000000):Bd aaC [] S (.mp 2002 2 S.u.length 0) S:=by
 refine aB (ic:=Hi.body) ap Yc rfl rfl ?_
 have hw:=nS S hb
 have hl:=cN (S.t :: S.u)
 simp only [iw] at hl
 simp only [go_sem,Hi,hw]
 refine ⟨⟨by omega,by omega⟩,?_⟩
 exact done [] _ (gK S) (by simp only [go_sem,cZ,Nat.zero_add]) (by simp only [go_sem]) rfl ⟨rfl,rfl⟩
theorem yE (S:Sk):S.opn.all=S.all:=jJ _
theorem U_ (S:Sk):S.opn.ov=S.ov:=rfl
theorem PU (S:Sk):bR (S.opn.t :: S.opn.u)=bR (S.t :: S.u)++[((S.all.length:Int),false)]:=rfl
theorem Kg (S:Sk) (hb:S.u.length<1000000) (hl:S.all.length<1000000):Bd ae5 [] S (.tup []) S.opn:=by
 refine aB (ic:=cA 4 R8.body) ap ac7 (by rfl) rfl ?_
 simp only [go_sem,R8,cA]
 refine aD (mD S) (by simp only [go_sem]) (by simp only [go_sem]) (by simp only [go_sem]) (by simp only [go_sem]) ?_
 simp only [go_sem]
 refine dc _ _ (fb (id:=2002) (len:=(bR (S.t :: S.u)).length) (rows:=(bR (S.t :: S.u)).map xy) (ys:=[xy ((S.all.length:Int),false)]) (by rfl) (by rfl) (by rfl) (by rw [bT]) (by simp) (by rw [cN,iw];omega) (by decide)) (by simp only [go_sem]) (by rfl) (by simp only [go_sem];rfl) (by simp only [go_sem]) ?_
 simp only [go_sem]
 exact gc [] _ (gK S.opn) (by simp only [go_sem]) (by simp only [go_sem,yE,PU,U_,List.map_append,ee,iw,fZ,cF,List.map_nil]) rfl ⟨rfl,rfl⟩
theorem uq (S:Sk) (l:List Int):(S.push l).all=S.all++l:=by rw [iA,iA,Sk.push,oe]
theorem DG (S:Sk) (l:List Int):(S.push l).ov=(S.ov||decide (((S.all.length+l.length:Nat):Int)>256)):=rfl
theorem mE (S:Sk) (l:List Int) (hb:S.u.length<1000000) (hl:S.all.length<1000000) (h2:l.length<1000000):Bd ae6 [.sl 1 (l.map bp)] S (.tup []) (S.push l):=by
 refine aB (ic:=R_.body) ap ac9 rfl rfl ?_
 have ha:=eQ 2001 48 1 S.all.length bp S.all (l.map bp) rfl
 have hp:bR ((S.push l).t :: (S.push l).u)=bR (S.t :: S.u):=rfl
 simp only [go_sem,R_]
 refine aD (mD S) (by simp only [go_sem]) (by simp only [go_sem]) (by simp only [go_sem]) (by simp only [go_sem]) ?_
 simp only [go_sem,ha]
 refine ⟨⟨by omega,by omega⟩,fun ho=>?_,fun ho=>?_⟩
 ·exact gc [] _ (gK (S.push l)) (by simp only [go_sem]) (by simp only [go_sem,uq,hp,DG,ho,vM,List.map_append,ee]) rfl ⟨rfl,rfl⟩
 ·exact gc [] _ (gK (S.push l)) (by simp only [go_sem]) (by simp only [go_sem,uq,hp,DG,ho,oh,List.map_append,ee]) rfl ⟨rfl,rfl⟩
theorem VN (id row:Nat) (t:TypeId) (l:List (Int×Bool)):sO id 1 2 row 1 (some ⟨t,2,l.map xy,false⟩) (some [.bool true])=if row<l.length then some (.put id ⟨t,2,(l.set row ((au l row).1,true)).map xy,false⟩) else none :=
 uM id 1 2 row 1 t xy l [.bool true] (fun p=>(p.1,true)) rfl rfl (fun _=>aO 2) (fun _=>rfl)
theorem jy {α:Type} [Inhabited α] (l:List α) (x:α) {n:Nat} (h:n=l.length):au (l++[x]) n=x:=by
 subst h
 rw [aX (by simp)]
 simp
theorem Mn {α:Type} (l:List α) (x y:α) {n:Nat} (h:n=l.length):(l++[x]).set n y=l++[y]:=by
 subst h
 rw [List.set_append_right _ _ (aO _),Nat.sub_self]
 rfl
theorem MC (S:Sk):(S.all.map bp).take (bK S.u).length=(bK S.u).map bp:=by
 rw [← List.map_take,iA,List.take_append_of_le_length (aO _),og]
theorem O7 (S:Sk) (hb:S.u.length<1000000) (hl:S.all.length<1000000):Bd aeT [] S (.tup []) S.loose:=by
 refine aB (ic:=RZ.body) ap acQ rfl rfl ?_
 have e1:au (bR (S.t :: S.u)) S.u.length=(((bK S.u).length:Int),S.t.lo):=jy _ _ (cN _).symm
 have e2:(bR (S.t :: S.u)).set S.u.length (((bK S.u).length:Int),true)=bR (S.loose.t :: S.loose.u):=Mn _ _ _ (cN _).symm
 have e3:au (bR (S.loose.t :: S.loose.u)) S.u.length=(((bK S.u).length:Int),true):=jy _ _ (cN _).symm
 have e4:S.loose.all=bK S.u:=jJ _
 have hp:=AE S
 have hp2:(bR (S.loose.t :: S.loose.u)).length=S.u.length+1:=AE S.loose
 have ha:S.all.length=(bK S.u).length+S.t.l.length:=by rw [iA,ee]
 simp only [go_sem,RZ]
 refine aD (mD S) (by simp only [go_sem]) (by simp only [go_sem]) (by simp only [go_sem]) (by simp only [go_sem]) ?_
 simp only [go_sem]
 refine aD (Ki S hb) (by simp only [go_sem]) (by simp only [go_sem]) (by simp only [go_sem]) (by simp only [go_sem]) ?_
 simp only [go_sem,VN,e1,e2,e3]
 refine ⟨by omega,by omega,?_⟩
 refine ⟨⟨by omega,by omega⟩,?_⟩
 exact QB (Wk.trunc _ 2001 (bK S.u).length (by rfl)) [] _ (gK S.loose) (by simp only [go_sem]) (by simp only [go_sem,MC,e4,hp,hp2,show S.loose.ov=S.ov from rfl]) rfl ⟨rfl,rfl⟩
theorem K8 {α:Type} (l:List α):l=[]∨∃L b,l=L++[b]:=by
 rcases List.eq_nil_or_concat l with h | ⟨L,b,h⟩
 ·exact .inl h
 ·exact .inr ⟨L,b,by rw [h,List.concat_eq_append]⟩
theorem DE {lo:Bool} {u:List Sg} {ov:Bool}:(⟨⟨[],lo⟩,u,ov⟩:Sk).pop=(0,(if lo then 0 else 13),⟨⟨[],lo⟩,u,ov⟩):=by cases lo<;>rfl
theorem AC {l:List Int} {x:Int} {lo:Bool} {u:List Sg} {ov:Bool}:(⟨⟨l++[x],lo⟩,u,ov⟩:Sk).pop=(x,0,⟨⟨l,lo⟩,u,ov⟩):=by
 unfold Sk.pop
 simp
theorem Ac (S:Sk) (hb:S.u.length<1000000) (hl:S.all.length<1000000):Bd afh [] S (.tup [.int .i64 S.pop.1,.int .i64 S.pop.2.1]) S.pop.2.2:=by
 refine aB (ic:=M6.body) ap ado rfl rfl ?_
 have e1:au (bR (S.t :: S.u)) S.u.length=(((bK S.u).length:Int),S.t.lo):=jy _ _ (cN _).symm
 have hp:=AE S
 have ha:S.all.length=(bK S.u).length+S.t.l.length:=by rw [iA,ee]
 have k1:=mD S
 have k2:=Ki S hb
 obtain ⟨⟨l,lo⟩,u,ov⟩:=S
 dsimp only at e1 hp ha hb k2
 rcases K8 l with rfl | ⟨l',x,rfl⟩
 ·have h1:¬(((⟨⟨[],lo⟩,u,ov⟩:Sk).all.length:Int)>((bK u).length:Int)):=by simp only [fZ] at ha;omega
  rw [DE]
  simp only [go_sem,M6]
  refine aD k1 (by simp only [go_sem]) (by simp only [go_sem]) (by simp only [go_sem]) (by simp only [go_sem]) ?_
  simp only [go_sem]
  refine aD k2 (by simp only [go_sem]) (by simp only [go_sem]) (by simp only [go_sem]) (by simp only [go_sem]) ?_
  simp only [go_sem,e1,bF h1]
  refine ⟨by omega,by omega,fun h=>?_,fun h=>?_⟩
  all_goals
   subst h
   exact aG [] _ (gK ⟨⟨[],_⟩,u,ov⟩) ⟨rfl,rfl⟩
 ·have hal:(⟨⟨l'++[x],lo⟩,u,ov⟩:Sk).all=(bK u++l')++[x]:=(oe _ _ _).symm
  have h2:(⟨⟨l'++[x],lo⟩,u,ov⟩:Sk).all.length=(bK u++l').length+1:=by rw [hal,ee];rfl
  have hM:(bK u++l').length=(bK u).length+l'.length:=ee
  have h1:((⟨⟨l'++[x],lo⟩,u,ov⟩:Sk).all.length:Int)>((bK u).length:Int):=by rw [h2,hM];omega
  have hw:IntKind.i64.wrap (((⟨⟨l'++[x],lo⟩,u,ov⟩:Sk).all.length:Int) - 1)=((bK u++l').length:Int):=by
   rw [h2,wi (by omega) (by omega)];omega
  have en:au (⟨⟨l'++[x],lo⟩,u,ov⟩:Sk).all (bK u++l').length=x:=by rw [hal];exact jy _ _ rfl
  have et:((⟨⟨l'++[x],lo⟩,u,ov⟩:Sk).all.map bp).take (bK u++l').length=(bK u++l').map bp:=by
   rw [← List.map_take,hal,List.take_append_of_le_length (aO _),og]
  have e4:(⟨⟨l',lo⟩,u,ov⟩:Sk).all=bK u++l':=rfl
  have hp2:(bR ((⟨l',lo⟩:Sg) :: u)).length=u.length+1:=AE ⟨⟨l',lo⟩,u,ov⟩
  have e5:bR ((⟨l'++[x],lo⟩:Sg) :: u)=bR ((⟨l',lo⟩:Sg) :: u):=rfl
  rw [AC]
  simp only [go_sem,M6]
  refine aD k1 (by simp only [go_sem]) (by simp only [go_sem]) (by simp only [go_sem]) (by simp only [go_sem]) ?_
  simp only [go_sem]
  refine aD k2 (by simp only [go_sem]) (by simp only [go_sem]) (by simp only [go_sem]) (by simp only [go_sem]) ?_
  simp only [go_sem,e1,bH h1,hw,en,cZ,Nat.zero_add]
  refine ⟨by omega,⟨by omega,by omega⟩,by omega,⟨by omega,by omega⟩,?_⟩
  exact k_ (Wk.trunc _ 2001 (bK u++l').length (by rfl)) [] _ (gK ⟨⟨l',lo⟩,u,ov⟩) (by simp only [go_sem]) (by simp only [go_sem,et,e4,e5,hp2]) rfl ⟨rfl,rfl⟩
theorem lq (lo:Bool):∀(ws ts:List Int),(∀r e,gJ lo ts ws=(some r,e)→e=0∧∃p,ts=p++r)∧(∀e,gJ lo ts ws=(none,e)→e≠0)
 | [],ts=>by
  refine ⟨fun r e h=>?_,fun e h=>?_⟩
  ·unfold gJ at h;cases h;exact ⟨rfl,[],rfl⟩
  ·unfold gJ at h;cases h
 | w :: ws,[]=>by
  unfold gJ
  cases lo
  ·exact ⟨(fun r e h=>by cases h),(fun e h=>by cases h;decide)⟩
  ·exact lq true ws []
 | w :: ws,t :: ts=>by
  unfold gJ
  split
  ·exact ⟨(fun r e h=>by cases h),(fun e h=>by cases h;decide)⟩
  ·obtain ⟨h1,h2⟩:=lq lo ws ts
   exact ⟨fun r e h=>by obtain ⟨q,p,hp⟩:=h1 r e h;exact ⟨q,t :: p,by rw [hp];rfl⟩,h2⟩
theorem oQ {S:Sk} {l r:List Int} {e:Int} (h:S.left l=(some r,e)):e=0∧∃q,S.t.l=r.reverse++q:=by
 obtain ⟨h1,p,hp⟩:=(lq S.t.lo l.reverse S.t.l.reverse).1 r e h
 refine ⟨h1,p.reverse,?_⟩
 rw [← List.reverse_reverse S.t.l,hp,List.reverse_append]
theorem xk {S:Sk} {l:List Int} {e:Int} (h:S.left l=(none,e)):e≠0:=(lq S.t.lo l.reverse S.t.l.reverse).2 e h
def yi (S:Sk) (l:List Int):Int×Int:=match S.left l with
 | (some r,_)=>(((bK S.u).length+r.length:Nat),0)
 | (none,e)=>(0,e)
def zi (S:Sk) (l:List Int):Prop:=Bd 262 [.sl 1 (l.map bp)] S (.tup [.int .i64 (yi S l).1,.int .i64 (yi S l).2]) S
theorem jf (S:Sk) (l:List Int) (hL:zi S l):Bd ae8 [.sl 1 (l.map bp)] S (.int .i64 (S.want l).1) (S.want l).2:=by
 refine aB (ic:=M3.body) ap ada rfl rfl ?_
 have ha:S.all.length=(bK S.u).length+S.t.l.length:=by rw [iA,ee]
 unfold zi yi at hL
 unfold Sk.want
 cases h:S.left l with
 | mk o e =>
  rw [h] at hL
  cases o with
  | none =>
   have he:=xk h
   simp only [go_sem,M3]
   refine aD (mD S) (by simp only [go_sem]) (by simp only [go_sem]) (by simp only [go_sem]) (by simp only [go_sem]) ?_
   simp only [go_sem]
   refine aD hL (by simp only [go_sem]) (by simp only [go_sem]) (by simp only [go_sem]) (by simp only [go_sem]) ?_
   simp only [go_sem,ab he]
   exact aG [] _ (gK S) ⟨rfl,rfl⟩
  | some r =>
   obtain ⟨rfl,q,hq⟩:=oQ h
   have hr:r.reverse.length=r.length:=List.length_reverse
   have h2:S.t.l.length=r.length+q.length:=by rw [hq,ee,hr]
   have e4:(⟨⟨r.reverse,S.t.lo⟩,S.u,S.ov⟩:Sk).all=bK S.u++r.reverse:=rfl
   have e5:(⟨⟨r.reverse,S.t.lo⟩,S.u,S.ov⟩:Sk).all.length=(bK S.u).length+r.length:=by rw [e4,ee,hr]
   have et:(S.all.map bp).take ((bK S.u).length+r.length)=(⟨⟨r.reverse,S.t.lo⟩,S.u,S.ov⟩:Sk).all.map bp:=by
    rw [e4,← List.map_take,iA,hq,← oe,List.take_append_of_le_length (by rw [ee,hr];exact aO _),iq (by rw [ee,hr];exact aO _)]
   have hp2:bR ((⟨r.reverse,S.t.lo⟩:Sg) :: S.u)=bR (S.t :: S.u):=rfl
   simp only [go_sem,M3]
   refine aD (mD S) (by simp only [go_sem]) (by simp only [go_sem]) (by simp only [go_sem]) (by simp only [go_sem]) ?_
   simp only [go_sem]
   refine aD hL (by simp only [go_sem]) (by simp only [go_sem]) (by simp only [go_sem]) (by simp only [go_sem]) ?_
   simp only [go_sem,cZ,Nat.zero_add,Nat.sub_zero]
   refine ⟨⟨by omega,by omega⟩,?_⟩
   exact k_ (Wk.trunc _ 2001 ((bK S.u).length+r.length) (by rfl)) [] _ (gK ⟨⟨r.reverse,S.t.lo⟩,S.u,S.ov⟩) (by simp only [go_sem]) (by simp only [go_sem,et,e5,hp2]) rfl ⟨rfl,rfl⟩
theorem Qq (id row:Nat) (t:TypeId) (l:List (Int×Bool)):sO id 2 2 row 0 (some ⟨t,2,l.map xy,false⟩) (some [.int .i64 0,.bool false])=if row<l.length then some (.put id ⟨t,2,(l.set row (0,false)).map xy,false⟩) else none :=
 uM id 2 2 row 0 t xy l [.int .i64 0,.bool false] (fun p=>(0,false)) rfl rfl (fun _=>aO 2) (fun _=>rfl)
theorem Kh (S:Sk) (l:List Int) (hb:S.u.length<1000000) (hl:S.all.length<1000000) (hL:zi S l):Bd ae7 [.sl 1 (l.map bp)] S (.int .i64 (S.shut l).1) (S.shut l).2:=by
 refine aB (ic:=D8.body) ap ac_ rfl rfl ?_
 have ha:S.all.length=(bK S.u).length+S.t.l.length:=by rw [iA,ee]
 have e1:au (bR (S.t :: S.u)) S.u.length=(((bK S.u).length:Int),S.t.lo):=jy _ _ (cN _).symm
 have hp:=AE S
 have k1:=mD S
 have k2:=Ki S hb
 unfold zi yi at hL
 cases h:S.left l with
 | mk o e =>
  rw [h] at hL
  cases o with
  | none =>
   have he:=xk h
   rw [show S.shut l=(e,S) by unfold Sk.shut;rw [h]]
   simp only [go_sem,D8]
   refine aD k1 (by simp only [go_sem]) (by simp only [go_sem]) (by simp only [go_sem]) (by simp only [go_sem]) ?_
   simp only [go_sem]
   refine aD hL (by simp only [go_sem]) (by simp only [go_sem]) (by simp only [go_sem]) (by simp only [go_sem]) ?_
   simp only [go_sem,aK he]
   exact aG [] _ (gK S) ⟨rfl,rfl⟩
  | some r =>
   obtain ⟨rfl,q,hq⟩:=oQ h
   have hr:r.reverse.length=r.length:=List.length_reverse
   have h2:S.t.l.length=r.length+q.length:=by rw [hq,ee,hr]
   cases r with
   | cons x r =>
    have h3:((((bK S.u).length+(r.length+1):Nat):Int)>((bK S.u).length:Int)):=by omega
    rw [show S.shut l=(14,S) by unfold Sk.shut;rw [h]]
    simp only [go_sem,D8]
    refine aD k1 (by simp only [go_sem]) (by simp only [go_sem]) (by simp only [go_sem]) (by simp only [go_sem]) ?_
    simp only [go_sem]
    refine aD hL (by simp only [go_sem]) (by simp only [go_sem]) (by simp only [go_sem]) (by simp only [go_sem]) ?_
    simp only [go_sem]
    refine aD k2 (by simp only [go_sem]) (by simp only [go_sem]) (by simp only [go_sem]) (by simp only [go_sem]) ?_
    simp only [go_sem,e1,bH h3]
    refine ⟨by omega,?_⟩
    exact aG [] _ (gK S) ⟨rfl,rfl⟩
   | nil =>
    have h3:¬((((bK S.u).length+0:Nat):Int)>((bK S.u).length:Int)):=by omega
    have et:=MC S
    cases hu:S.u with
    | nil =>
     have h4:(((bR (S.t :: S.u)).length:Int)==1)=true:=by rw [hp,hu];rfl
     rw [show S.shut l=(0,{ S with t:=⟨[],false⟩ }) by unfold Sk.shut;rw [h];simp only [hu]]
     simp only [go_sem,D8]
     refine aD k1 (by simp only [go_sem]) (by simp only [go_sem]) (by simp only [go_sem]) (by simp only [go_sem]) ?_
     simp only [go_sem]
     refine aD hL (by simp only [go_sem]) (by simp only [go_sem]) (by simp only [go_sem]) (by simp only [go_sem]) ?_
     simp only [go_sem]
     refine aD k2 (by simp only [go_sem]) (by simp only [go_sem]) (by simp only [go_sem]) (by simp only [go_sem]) ?_
     simp only [go_sem,e1,bF h3,h4,Qq]
     refine ⟨by omega,⟨by omega,by omega⟩,⟨by omega,by omega⟩,by omega,?_⟩
     have q1:(bR (S.t :: S.u)).set 0 (0,false)=bR ((⟨[],false⟩:Sg) :: S.u):=by rw [hu];rfl
     have q2:({ S with t:=⟨[],false⟩ }:Sk).all=bK S.u:=jJ _
     have q3:(bR ((⟨[],false⟩:Sg) :: S.u)).length=(bR (S.t :: S.u)).length:=by rw [cN,cN];rfl
     exact k_ (Wk.trunc _ 2001 ((bK S.u).length+0) (by rfl)) [] _ (gK { S with t:=⟨[],false⟩ }) (by simp only [go_sem]) (by simp only [go_sem,q1,q2,q3,Nat.add_zero,et]) rfl ⟨rfl,rfl⟩
    | cons g u =>
     have h4:(((bR (S.t :: S.u)).length:Int)==1)=false:=by rw [hp,hu];exact ab (by simp only [iw];omega)
     rw [show S.shut l=(0,{ S with t:=g,u:=u }) by unfold Sk.shut;rw [h];simp only [hu]]
     simp only [go_sem,D8]
     refine aD k1 (by simp only [go_sem]) (by simp only [go_sem]) (by simp only [go_sem]) (by simp only [go_sem]) ?_
     simp only [go_sem]
     refine aD hL (by simp only [go_sem]) (by simp only [go_sem]) (by simp only [go_sem]) (by simp only [go_sem]) ?_
     simp only [go_sem]
     refine aD k2 (by simp only [go_sem]) (by simp only [go_sem]) (by simp only [go_sem]) (by simp only [go_sem]) ?_
     have hw:=nS S hb
     simp only [go_sem,e1,bF h3,h4,hw,cZ]
     refine ⟨by omega,⟨by omega,by omega⟩,⟨by omega,by omega⟩,?_⟩
     have q1:((bR (S.t :: S.u)).map xy).take S.u.length=(bR S.u).map xy:=by
      rw [← List.map_take,bR,List.take_append_of_le_length (by rw [cN];exact aO _),iq (by rw [cN];exact aO _)]
     have q2:({ S with t:=g,u:=u }:Sk).all=bK S.u:=by rw [hu];rfl
     have q3:(bR (g :: u)).length=S.u.length:=by rw [cN,hu]
     have q4:bR (g :: u)=bR S.u:=by rw [hu]
     exact k_ ((Wk.trunc _ 2001 ((bK S.u).length+0) (by rfl)).trans (Wk.trunc _ 2002 S.u.length (by rfl))) [] _ (gK { S with t:=g,u:=u }) (by simp only [go_sem]) (by simp only [go_sem,q1,q2,q3,Nat.add_zero,et];simp only [go_sem,q4]) rfl ⟨rfl,rfl⟩
end
section
open Go Go.Mw
theorem CR (k:Int):∀es:List (Int×Int),es.findIdx? (fun p=>k==p.1)=none→gU k es=es++[(k,oi k es+1)]∧oi k es=0
 | [],_=>⟨rfl,rfl⟩
 | e :: r,h=>by
  rw [List.findIdx?_cons] at h
  cases hk:(k==e.1)
  ·rw [hk] at h
   have he:¬e.1=k:=fun q=>by rw [q,beq_self_eq_true] at hk;cases hk
   have hr:r.findIdx? (fun p=>k==p.1)=none:=by
    cases hq:r.findIdx? (fun p=>k==p.1) with
    | none=>rfl
    | some j=>rw [hq] at h;cases h
   obtain ⟨h1,h2⟩:=CR k r hr
   simp only [gU,oi,ar he,h1,h2,lc]
   exact ⟨trivial,trivial⟩
  ·rw [hk] at h;cases h
theorem CQ (k:Int):∀(es:List (Int×Int)) (i:Nat),es.findIdx? (fun p=>k==p.1)=some i→gU k es=es.set i (k,oi k es+1)∧∃v,es[i]? = some (k,v)
 | [],i,h=>by cases h
 | e :: r,i,h=>by
  rw [List.findIdx?_cons] at h
  cases hk:(k==e.1)
  ·rw [hk] at h
   have he:¬e.1=k:=fun q=>by rw [q,beq_self_eq_true] at hk;cases hk
   cases hq:r.findIdx? (fun p=>k==p.1) with
   | none=>rw [hq] at h;cases h
   | some j =>
    rw [hq] at h
    simp only [eH,iR,fA,bV] at h
    subst h
    obtain ⟨h1,v,h2⟩:=CQ k r j hq
    refine ⟨?_,v,by rw [List.getElem?_cons_succ];exact h2⟩
    simp only [gU,oi,ar he,h1,List.set_cons_succ]
  ·rw [hk] at h
   have he:e.1=k:=(eq_of_beq hk).symm
   cases h
   refine ⟨?_,e.2,by rw [← he];rfl⟩
   simp only [gU,oi,av he,List.set_cons_zero]
theorem yo {α:Type} (x:α):∀(l:List α) (i:Nat),l.modify i (fun _=>x)=l.set i x
 | [],i=>by cases i<;>rfl
 | a :: l,0=>rfl
 | a :: l,i+1=>by
  have:=yo x l i
  rw [List.modify_succ_cons,this,List.set_cons_succ]
theorem Vn (k:Int) (es:List (Int×Int)):ur .i (.int .i64 k) (.int .i64 (oi k es+1)) (es.map nA)=some ((gU k es).map nA):=by
 unfold ur
 rw [tB]
 cases h:es.findIdx? (fun p=>k==p.1) with
 | none =>
  obtain ⟨h1,h2⟩:=CR k es h
  rw [h1]
  simp [nA]
 | some i =>
  obtain ⟨h1,v,h2⟩:=CQ k es i h
  rw [h1]
  simp only [yo,List.map_set];rfl
theorem LG (k:Int) (es:List Int):ur .i (.int .i64 k) (.bool true) (es.map ki)=some ((qw es k).map ki):=by
 unfold ur qw
 rw [tA]
 cases h:es.findIdx? (fun p=>k==p) with
 | none =>
  have hn:k∉es:=fun hk=>by
   have:=List.findIdx?_eq_none_iff.1 h k hk
   simp at this
  rw [ar hn]
  simp [ki]
 | some i =>
  obtain ⟨hi,h1,_⟩:=List.findIdx?_eq_some_iff_getElem.1 h
  have he:es[i]=k:=(eq_of_beq h1).symm
  have hm:k∈es:=by rw [← he];exact List.getElem_mem hi
  rw [av hm]
  have hs:(es.map ki).set i (ki k)=es.map ki:=by
   rw [← List.map_set]
   congr 1
   rw [← he]
   exact List.set_getElem_self hi
  simp only [ki] at hs ⊢
  simp only [yo,hs]
def oC:ah:=⟨124,1,[[.mp 1001 9 0 0]],true⟩
theorem nN:oC =⟨124,1,[[.mp 1001 9 0 0]],true⟩:=rfl
def oR (n0 n1 n2 n3 n4 n5:Nat) (ds:Int):ah:=⟨129,9,[[.ms 2000 2 0 n0,.ms 2001 1 0 n1,.ms 2002 4 0 n2,.ms 2003 3 0 n3,.ms 2004 2 0 n4,.ms 2005 1 0 n5,.int .i64 ds,.mm 2010 true,.mm 2011 true]],true⟩
theorem nP (n0 n1 n2 n3 n4 n5:Nat) (ds:Int):oR n0 n1 n2 n3 n4 n5 ds =⟨129,9,[[.ms 2000 2 0 n0,.ms 2001 1 0 n1,.ms 2002 4 0 n2,.ms 2003 3 0 n3,.ms 2004 2 0 n4,.ms 2005 1 0 n5,.int .i64 ds,.mm 2010 true,.mm 2011 true]],true⟩:=rfl
def oH (s:Sp):List (Nat×ah):=[(1000,oC),(1001,oR s.ts.length s.fs.length s.tb.length s.ms.length s.gs.length s.el.length s.ds),(2000,⟨59,2,s.ts.map jp,false⟩),(2001,⟨3,1,s.fs.map bp,false⟩),(2002,⟨52,4,s.tb.map ow,false⟩),(2003,⟨50,3,s.ms.map nJ,false⟩),(2004,⟨54,2,s.gs.map Dc,false⟩),(2005,⟨48,1,s.el.map bp,false⟩),(2010,@ah.mk 0 0 [] false (.mp (s.im.map nA))),(2011,@ah.mk 0 0 [] false (.mp (s.de.map ki)))]
theorem nO (s:Sp):oH s=[(1000,oC),(1001,oR s.ts.length s.fs.length s.tb.length s.ms.length s.gs.length s.el.length s.ds),(2000,⟨59,2,s.ts.map jp,false⟩),(2001,⟨3,1,s.fs.map bp,false⟩),(2002,⟨52,4,s.tb.map ow,false⟩),(2003,⟨50,3,s.ms.map nJ,false⟩),(2004,⟨54,2,s.gs.map Dc,false⟩),(2005,⟨48,1,s.el.map bp,false⟩),(2010,@ah.mk 0 0 [] false (.mp (s.im.map nA))),(2011,@ah.mk 0 0 [] false (.mp (s.de.map ki)))]:=rfl
def qx (s:Sp) (x:Im):Sp :=
 let s1:Sp:={ s with im:=gU x.k s.im }
 if x.k=0 then { s1 with fs:=s.fs++[x.f] } else if x.k=1 then { s1 with tb:=s.tb++[⟨x.te,x.tl⟩] } else if x.k=2 then { s1 with ms:=s.ms++[x.me] } else if x.k=3 then { s1 with gs:=s.gs++[x.g] } else s1
structure Wj (n:Nat) (s:Sp):Prop where
 ts:s.ts.length≤n
 fs:s.fs.length≤n
 tb:s.tb.length≤n
 ms:s.ms.length≤n
 gs:s.gs.length≤n
 el:s.el.length≤n
 im:∀k,0≤oi k s.im∧oi k s.im≤n
attribute [local go_sem] bT aY b_ bO cw
theorem Pu (s:Sp) (x:Im) (h:Wj 1000000 s):bu Tryz.prog Rc [.agg (tR x),.mp 1000 1 0 0] (oH s) DM (fun r' σ'=>r' = .tup []∧σ'=oH (qx s x)):=by
 refine aB (ic:=cA 15 (cA 28 (cA 41 (cA 54 GU.body)))) ap XJ (by rfl) rfl ?_
 have hm:=h.im x.k
 have hw:IntKind.i64.wrap (oi x.k s.im+1)=oi x.k s.im+1:=wi (by omega) (by omega)
 have hp:=Vn x.k s.im
 obtain ⟨T,hT⟩:∃T,qx s x=T:=⟨_,rfl⟩
 rw [hT]
 unfold qx at hT
 dsimp only at hT
 simp only [go_sem,GU,cA,nO,nN,nP,BO,hw]
 refine ⟨rfl,rfl,_,hp,?_⟩
 by_cases k0:x.k=0
 ·rw [av k0] at hT
  have hl:=h.fs
  simp only [go_sem,aF k0]
  refine dc _ _ (fb (id:=2001) (len:=s.fs.length) (rows:=s.fs.map bp) (ys:=[[.int .i64 x.f]]) (by rfl) (by rfl) (by rfl) (by rw [bT]) (by simp) (by omega) (by decide)) (by simp only [go_sem]) (by rfl) (by simp only [go_sem];rfl) (by simp only [go_sem]) ?_
  simp only [go_sem]
  subst hT
  exact gc [] _ (oH _) (by simp only [go_sem]) (by simp only [go_sem,nO,nN,nP,List.map_append,ee,iw,fZ,cF,List.map_nil]) rfl ⟨rfl,rfl⟩
 by_cases k1:x.k=1
 ·rw [ar k0,av k1] at hT
  have hl:=h.tb
  simp only [go_sem,ab k0,aF k1]
  refine dc _ _ (fb (id:=2002) (len:=s.tb.length) (rows:=s.tb.map ow) (ys:=[ow ⟨x.te,x.tl⟩]) (by rfl) (by rfl) (by rfl) (by rw [bT]) (by simp) (by omega) (by decide)) (by simp only [go_sem]) (by rfl) (by simp only [go_sem];rfl) (by simp only [go_sem]) ?_
  simp only [go_sem]
  subst hT
  exact gc [] _ (oH _) (by simp only [go_sem]) (by simp only [go_sem,nO,nN,nP,List.map_append,ee,iw,fZ,cF,List.map_nil]) rfl ⟨rfl,rfl⟩
 by_cases k2:x.k=2
 ·rw [ar k0,ar k1,av k2] at hT
  have hl:=h.ms
  simp only [go_sem,ab k0,ab k1,aF k2]
  refine dc _ _ (fb (id:=2003) (len:=s.ms.length) (rows:=s.ms.map nJ) (ys:=[nJ x.me]) (by rfl) (by rfl) (by rfl) (by rw [bT]) (by simp) (by omega) (by decide)) (by simp only [go_sem]) (by rfl) (by simp only [go_sem];rfl) (by simp only [go_sem]) ?_
  simp only [go_sem]
  subst hT
  exact gc [] _ (oH _) (by simp only [go_sem]) (by simp only [go_sem,nO,nN,nP,List.map_append,ee,iw,fZ,cF,List.map_nil]) rfl ⟨rfl,rfl⟩
 by_cases k3:x.k=3
 ·rw [ar k0,ar k1,ar k2,av k3] at hT
  have hl:=h.gs
  simp only [go_sem,ab k0,ab k1,ab k2,aF k3]
  refine dc _ _ (fb (id:=2004) (len:=s.gs.length) (rows:=s.gs.map Dc) (ys:=[Dc x.g]) (by rfl) (by rfl) (by rfl) (by rw [bT]) (by simp) (by omega) (by decide)) (by simp only [go_sem]) (by rfl) (by simp only [go_sem];rfl) (by simp only [go_sem]) ?_
  simp only [go_sem]
  subst hT
  exact gc [] _ (oH _) (by simp only [go_sem]) (by simp only [go_sem,nO,nN,nP,List.map_append,ee,iw,fZ,cF,List.map_nil]) rfl ⟨rfl,rfl⟩
 rw [ar k0,ar k1,ar k2,ar k3] at hT
 subst hT
 simp only [go_sem,ab k0,ab k1,ab k2,ab k3]
 exact gc [] _ (oH { s with im:=gU x.k s.im }) (by simp only [go_sem]) (by simp only [go_sem,nO,nN,nP]) rfl ⟨rfl,rfl⟩
end
section
open Go Go.Mw
def mN (l:List bv) (de:List Int):List Int:=(uu l).foldl qw de
theorem K0 (x:bv) (l:List bv) (de:List Int):mN (x :: l) de=mN l (if x.op=210 then qw de x.a else de):=by
 unfold mN uu
 by_cases h:x.op=210
 ·simp [h]
 ·simp [h]
attribute [local go_sem] bT aY b_ bO lN cw cD
theorem Q9 (s:Sp) (l:List bv) (hl:l.length≤1000000):bu Tryz.prog Dx [.sl 9 (l.map cD),.mp 1000 1 0 0] (oH s) DM (fun r' σ'=>r' = .tup []∧σ'=oH { s with de:=mN l s.de }):=by
 refine aB (ic:=GV.body) ap XK rfl rfl ?_
 obtain ⟨T,hT⟩:∃T,mN l s.de=T:=⟨_,rfl⟩
 rw [hT]
 simp only [go_sem,GV,nO,nN,nP]
 refine aJ (fun q:Nat×List Int=>⟨[(7,.int .i64 q.1),(6,.int .i64 l.length),(5,.sl 9 (l.map cD)),(1,.mp 1000 1 0 0)],oH { s with de:=q.2 }⟩)
  (fun q=>q.1≤l.length∧mN (l.drop q.1) q.2=T) (fun q=>l.length - q.1) (0,s.de) ⟨ef _,hT⟩ (Wk.of ?_ ?_) ?_
 ·simp only [go_sem];try simp
 ·simp only [go_sem,nO,nN,nP];try rfl
 rintro ⟨j,de⟩ ⟨hj,hx⟩
 dsimp only at hj hx
 by_cases h1:(j:Int)<(l.length:Int)
 rotate_left
 ·rw [bY (by omega)] at hx
  obtain rfl:de=T:=hx
  simp only [go_sem,bF h1,nO,nN,nP]
  exact gc [] _ (oH { s with de:=de }) (by simp only [go_sem]) (by simp only [go_sem,nO,nN,nP]) rfl ⟨rfl,rfl⟩
 have hj':j<l.length:=by omega
 have e8:=ep hj' (by omega)
 rw [fc hj',K0] at hx
 generalize hX:au l j=X at hx
 have hp:=LG X.a de
 by_cases h2:X.op=210
 ·rw [av h2] at hx
  simp only [go_sem,bH h1,hX,nO,nN,nP,aF h2]
  refine ⟨by omega,h1,rfl,rfl,_,hp,?_⟩
  refine bA (j+1,qw de X.a) ⟨show j+1≤l.length by omega,hx⟩ (show l.length - (j+1)<l.length - j by omega) (Wk.of ?_ ?_)
  ·simp only [go_sem,e8];try simp
  ·simp only [go_sem,nO,nN,nP];try rfl
 ·rw [ar h2] at hx
  simp only [go_sem,bH h1,hX,nO,nN,nP,ab h2]
  refine ⟨by omega,h1,?_⟩
  refine bA (j+1,de) ⟨show j+1≤l.length by omega,hx⟩ (show l.length - (j+1)<l.length - j by omega) (Wk.of ?_ ?_)
  ·simp only [go_sem,e8];try simp
  ·simp only [go_sem,nO,nN,nP];try rfl
end
section
open Go Go.Mw
def qC:ah:=⟨124,1,[[.mp 26 9 0 0]],true⟩
theorem afI:qC =⟨124,1,[[.mp 26 9 0 0]],true⟩:=rfl
def qR (n0 n1 n2 n3 n4 n5:Nat) (ds:Int):ah:=⟨129,9,[[.ms 2000 2 0 n0,.ms 2001 1 0 n1,.ms 2002 4 0 n2,.ms 2003 3 0 n3,.ms 2004 2 0 n4,.ms 2005 1 0 n5,.int .i64 ds,.mm 23 true,.mm 24 true]],true⟩
theorem afJ (n0 n1 n2 n3 n4 n5:Nat) (ds:Int):qR n0 n1 n2 n3 n4 n5 ds =⟨129,9,[[.ms 2000 2 0 n0,.ms 2001 1 0 n1,.ms 2002 4 0 n2,.ms 2003 3 0 n3,.ms 2004 2 0 n4,.ms 2005 1 0 n5,.int .i64 ds,.mm 23 true,.mm 24 true]],true⟩:=rfl
def qH (s:Sp):List (Nat×ah):=[(3,qC),(26,qR s.ts.length s.fs.length s.tb.length s.ms.length s.gs.length s.el.length s.ds),(2000,⟨59,2,s.ts.map jp,false⟩),(2001,⟨3,1,s.fs.map bp,false⟩),(2002,⟨52,4,s.tb.map ow,false⟩),(2003,⟨50,3,s.ms.map nJ,false⟩),(2004,⟨54,2,s.gs.map Dc,false⟩),(2005,⟨48,1,s.el.map bp,false⟩),(23,@ah.mk 0 0 [] false (.mp (s.im.map nA))),(24,@ah.mk 0 0 [] false (.mp (s.de.map ki)))]
theorem dU (s:Sp):qH s=[(3,qC),(26,qR s.ts.length s.fs.length s.tb.length s.ms.length s.gs.length s.el.length s.ds),(2000,⟨59,2,s.ts.map jp,false⟩),(2001,⟨3,1,s.fs.map bp,false⟩),(2002,⟨52,4,s.tb.map ow,false⟩),(2003,⟨50,3,s.ms.map nJ,false⟩),(2004,⟨54,2,s.gs.map Dc,false⟩),(2005,⟨48,1,s.el.map bp,false⟩),(23,@ah.mk 0 0 [] false (.mp (s.im.map nA))),(24,@ah.mk 0 0 [] false (.mp (s.de.map ki)))]:=rfl
theorem Bo {f:FuncId} {x:AV} {s s':Sp} (h:bu Tryz.prog f [x,.mp 1000 1 0 0] (oH s) DM (fun r' σ'=>r' = .tup []∧σ'=oH s')) {d:Option Nat} {w:St} {K:St→Prop} (hx:iL (bw [(1000,3),(1001,26),(2010,23),(2011,24)]) x=x) (hin:Gn w.heap (qH s))
  (hk:K ((St.mk (fP [2000,2001,2002,2003,2004,2005,23,24] w.env) (qH s'++fQ [2000,2001,2002,2003,2004,2005,23,24] w.heap)).put d (.tup []))):ci Tryz.prog f [x,.mp 3 1 0 0] d w K:=by
 refine eR (σ2:=qH s) (σ3:=qH s') (r3:=.tup []) h [(1000,3),(1001,26),(2010,23),(2011,24)] [2000,2001,2002,2003,2004,2005,23,24] ?_ rfl rfl rfl (jS hin) (fun p hp=>?_) (fun p hp=>?_) hk
 ·rw [cF,hx];rfl
 ·simp only [qH,bc,List.not_mem_nil,or_false] at hp
  rcases hp with rfl | rfl | rfl | rfl | rfl | rfl | rfl | rfl | rfl | rfl
  ·exact .inl ⟨⟨show 1000≤1000 by decide,show 1000<2000 by decide⟩,rfl⟩
  ·exact .inl ⟨⟨show 1000≤1001 by decide,show 1001<2000 by decide⟩,rfl⟩
  ·exact .inr ⟨by simp,.inr (show 2000≤2000 by decide),.inl rfl⟩
  ·exact .inr ⟨by simp,.inr (show 2000≤2001 by decide),.inl rfl⟩
  ·exact .inr ⟨by simp,.inr (show 2000≤2002 by decide),.inl rfl⟩
  ·exact .inr ⟨by simp,.inr (show 2000≤2003 by decide),.inl rfl⟩
  ·exact .inr ⟨by simp,.inr (show 2000≤2004 by decide),.inl rfl⟩
  ·exact .inr ⟨by simp,.inr (show 2000≤2005 by decide),.inl rfl⟩
  ·exact .inr ⟨by simp,.inl (show 23<1000 by decide),.inl rfl⟩
  ·exact .inr ⟨by simp,.inl (show 24<1000 by decide),.inl rfl⟩
 ·simp only [qH,bc,List.not_mem_nil,or_false] at hp
  rcases hp with rfl | rfl | rfl | rfl | rfl | rfl | rfl | rfl | rfl | rfl<;>rfl
def sp0 (m:Md):Sp:=⟨[],[],[],[],[],[],m.ds.length,[],[]⟩
structure spB (m:Md):Prop where
 ts:m.ts.length≤10000
 ims:m.ims.length≤10000
 fs:m.fs.length≤10000
 tb:m.tbs.length≤10000
 ms:m.ms.length≤10000
 gs:m.gs.length≤10000
 exs:m.exs.length≤10000
 els:m.els.length≤10000
 gi:∀g∈m.gs,g.i.length≤1000000
 ei:∀e∈m.els,e.it.length≤1000000∧∀l∈e.it,l.length≤1000000
 tb2:∀x∈m.ts,x.ps.length≤1000000∧x.rs.length≤1000000
theorem Ds (k k':Int):∀es:List (Int×Int),oi k' (gU k es)=oi k' es+(if k'=k then 1 else 0)
 | []=>by
  simp only [gU,oi]
  by_cases h:k'=k
  ·simp [h]
  ·rw [ar (fun q=>h q.symm),ar h];rfl
 | e :: r=>by
  have ih:=Ds k k' r
  simp only [gU]
  by_cases h:e.1=k
  ·rw [av h]
   simp only [oi]
   by_cases h2:k'=k
   ·rw [av h2.symm,av (by rw [h,h2]),av h2]
   ·rw [ar (fun q=>h2 q.symm),ar (fun q=>h2 (by rw [← q,h])),ar h2];simp
  ·rw [ar h]
   simp only [oi]
   by_cases h2:e.1=k'
   ·rw [av h2,av h2,ar (fun q=>h (by rw [h2,q]))];simp
   ·rw [ar h2,ar h2,ih]
theorem Te {n:Nat} {s:Sp} (h:Wj n s) (x:Im):Wj (n+1) (qx s x):=by
 obtain ⟨h1,h2,h3,h4,h5,h6,h7⟩:=h
 have h7':∀k,0≤oi k (gU x.k s.im)∧oi k (gU x.k s.im)≤(n+1:Nat):=fun k=>by
  have:=h7 k
  rw [Ds]
  split<;>omega
 unfold qx
 dsimp only
 split
 ·exact ⟨by dsimp only;omega,by simp;omega,by dsimp only;omega,by dsimp only;omega,by dsimp only;omega,by dsimp only;omega,h7'⟩
 split
 ·exact ⟨by dsimp only;omega,by dsimp only;omega,by simp;omega,by dsimp only;omega,by dsimp only;omega,by dsimp only;omega,h7'⟩
 split
 ·exact ⟨by dsimp only;omega,by dsimp only;omega,by dsimp only;omega,by simp;omega,by dsimp only;omega,by dsimp only;omega,h7'⟩
 split
 ·exact ⟨by dsimp only;omega,by dsimp only;omega,by dsimp only;omega,by dsimp only;omega,by simp;omega,by dsimp only;omega,h7'⟩
 ·exact ⟨by dsimp only;omega,by dsimp only;omega,by dsimp only;omega,by dsimp only;omega,by dsimp only;omega,by dsimp only;omega,h7'⟩
def tL (s:Sp) (g:Gd):Sp:={ s with gs:=s.gs++[g.g],de:=mN g.i s.de }
def yg (l:List (List bv)) (de:List Int):List Int:=l.foldl (fun d x=>mN x d) de
def Bq (s:Sp) (e:El):Sp:={ s with el:=s.el++[e.ty],de:=yg e.it s.de }
def x8 (s:Sp) (e:Ex):Sp:=if e.k=0 then { s with de:=qw s.de e.i } else s
def Wh (m:Md):Sp:={ sp0 m with ts:=m.ts }
def mk2 (m:Md):Sp:=m.ims.foldl qx (Wh m)
def Ze (m:Md):Sp:={ mk2 m with fs:=(mk2 m).fs++m.fs.map (·.t) }
def mk4 (m:Md):Sp:={ Ze m with tb:=(Ze m).tb++m.tbs }
def mk5 (m:Md):Sp:={ mk4 m with ms:=(mk4 m).ms++m.ms }
def mk6 (m:Md):Sp:=m.gs.foldl tL (mk5 m)
def mk7 (m:Md):Sp:=m.els.foldl Bq (mk6 m)
def Zf (m:Md):Sp:=m.exs.foldl x8 (mk7 m)
theorem sC {α β:Type} [Inhabited α] (f:β→α→β) {l:List α} {j:Nat} (h:j<l.length) (b:β):(l.drop j).foldl f b=(l.drop (j+1)).foldl f (f b (au l j)):=by
 rw [fc h,List.foldl_cons]
instance:Inhabited Im:=⟨⟨[],[],0,0,0,default,default,default⟩⟩
attribute [local go_sem] bT aY b_ bO lN cw df dy eS kK bM eV afJ afI
theorem VD (m:Md) (h:spB m):aj Tryz.prog aan [gY m] (kj (Zf m)):=by
 refine ac (ic:=cA 34 (cA 65 (cA 77 (cA 87 (cA 105 (cA 128 G9.body)))))) ap X9 (by rfl) rfl ?_
 simp only [go_sem,G9,cA,gY]
 have hgo:∀(q:Sp),qH q++[(1,⟨33,12,[qF m],true⟩)]=qH q++[(1,⟨33,12,[qF m],true⟩)]:=fun _=>rfl
 refine aJ (fun q:Nat=>⟨[(30,.int .i64 q),(29,.int .i64 m.ts.length),(28,.sl 2 (m.ts.map jp)),(3,.mp 3 1 0 0),(1,.mp 1 12 0 0)],qH { sp0 m with ts:=m.ts.take q }++[(1,⟨33,12,[qF m],true⟩)]⟩)
  (fun q=>q≤m.ts.length) (fun q=>m.ts.length - q) 0 (ef _) (((((((Wk.new0 _ 2000 2 59 (by decide)).trans (Wk.new0 _ 2001 1 3 (by decide))).trans (Wk.new0 _ 2002 4 52 (by decide))).trans (Wk.new0 _ 2003 3 50 (by decide))).trans ((Wk.new0 _ 2004 2 54 (by decide)).trans (Wk.new0 _ 2005 1 48 (by decide)))).trans
   (Wk.nlm _ 26 (t:=129) (st:=9) (r:=[.nl,.nl,.nl,.nl,.nl,.nl,.int .i64 m.ds.length,.mm 23 true,.mm 24 true]) (r':=[.ms 2000 2 0 0,.ms 2001 1 0 0,.ms 2002 4 0 0,.ms 2003 3 0 0,.ms 2004 2 0 0,.ms 2005 1 0 0,.int .i64 m.ds.length,.mm 23 true,.mm 24 true]) (by simp only [go_sem]) ⟨.inr ⟨rfl,.inr ⟨2000,2,rfl⟩⟩,.inr ⟨rfl,.inr ⟨2001,1,rfl⟩⟩,.inr ⟨rfl,.inr ⟨2002,4,rfl⟩⟩,.inr ⟨rfl,.inr ⟨2003,3,rfl⟩⟩,.inr ⟨rfl,.inr ⟨2004,2,rfl⟩⟩,.inr ⟨rfl,.inr ⟨2005,1,rfl⟩⟩,.inl rfl,.inl rfl,.inl rfl,trivial⟩)).trans (Wk.of ?_ ?_)) ?_
 ·simp only [go_sem];try simp
 ·simp only [go_sem,dU,sp0,gN];try rfl
 ·intro j hj
  replace hj:j≤m.ts.length:=hj
  by_cases h1:(j:Int)<(m.ts.length:Int)
  ·have hj':j<m.ts.length:=by omega
   have e8:=ep hj' (by have:=h.ts;omega)
   have hx:=h.tb2 (au m.ts j) (by rw [aX hj'];exact List.getElem_mem _)
   have hc:=AK (au m.ts j) hx
   have htk:=Cl hj'
   have htl:(m.ts.take j).length=j:=by rw [sw];omega
   generalize hX:au m.ts j=X at hc htk hx
   simp only [aY] at hc
   have hfe:(m.ts.take j).map jp++[jp X]=(m.ts.take (j+1)).map jp:=by rw [htk,List.map_append];rfl
   have htl2:(m.ts.take (j+1)).length=j+1:=by rw [sw];omega
   simp only [aY] at hfe
   simp only [go_sem,bH h1,dU,hX]
   refine ⟨by omega,h1,?_⟩
   refine bP hc (by simp [go_sem]) rfl ?_
   simp only [go_sem]
   refine dc _ _ (fb (id:=2000) (len:=(m.ts.take j).length) (rows:=(m.ts.take j).map jp) (ys:=[jp X]) (by rfl) (by rfl) (by rfl) (by rw [bT]) (by simp) (by have:=h.ts;omega) (by decide)) (by simp only [go_sem]) (by rfl) (by simp only [go_sem];rfl) (by simp only [go_sem]) ?_
   simp only [go_sem,hfe]
   refine bA (j+1) (show j+1≤m.ts.length by omega) (show m.ts.length - (j+1)<m.ts.length - j by omega) (Wk.of ?_ ?_)
   ·simp only [go_sem,e8];try simp
   ·simp only [go_sem,dU,htl,htl2,iw,fZ];try rfl
  have hje:j=m.ts.length:=by omega
  subst hje
  have hS1:({ sp0 m with ts:=m.ts.take m.ts.length }:Sp)=Wh m:=by rw [og];rfl
  rw [hS1]
  have b1:Wj 10000 (Wh m):=⟨h.ts,ef _,ef _,ef _,ef _,ef _,fun k=>⟨by show (0:Int)≤0;omega,by show (0:Int)≤_;omega⟩⟩
  obtain ⟨S2,hS2⟩:∃S,mk2 m=S:=⟨_,rfl⟩
  have hS2':m.ims.foldl qx (Wh m)=S2:=hS2
  simp only [go_sem,bF h1,dU]
  refine aJ (fun q:Nat×Sp=>⟨[(50,.int .i64 q.1),(49,.int .i64 m.ims.length),(48,.sl 13 (m.ims.map tR)),(6,.fn Rc [.mp 3 1 0 0]),(3,.mp 3 1 0 0),(1,.mp 1 12 0 0)],qH q.2++[(1,⟨33,12,[qF m],true⟩)]⟩)
   (fun q=>q.1≤m.ims.length∧Wj (10000+q.1) q.2∧(m.ims.drop q.1).foldl qx q.2=S2) (fun q=>m.ims.length - q.1) (0,Wh m) ⟨ef _,b1,hS2'⟩ (Wk.of ?_ ?_) ?_
  ·simp only [go_sem];try simp
  ·simp only [go_sem,dU];try rfl
  rintro ⟨j,s⟩ ⟨hj,hb,hf⟩
  dsimp only at hj hb hf
  by_cases h2:(j:Int)<(m.ims.length:Int)
  ·have hj':j<m.ims.length:=by omega
   have e8:=ep hj' (by have:=h.ims;omega)
   rw [sC qx hj'] at hf
   generalize hX:au m.ims j=X at hf
   have hbb:=Te hb X
   have hm:=Pu s X ⟨by have:=hb.ts;have:=h.ims;omega,by have:=hb.fs;have:=h.ims;omega,by have:=hb.tb;have:=h.ims;omega,by have:=hb.ms;have:=h.ims;omega,by have:=hb.gs;have:=h.ims;omega,by have:=hb.el;have:=h.ims;omega,fun k=>⟨(hb.im k).1,by have:=(hb.im k).2;have:=h.ims;omega⟩⟩
   generalize qx s X=s' at hm hf hbb
   simp only [go_sem,bH h2,hX,dU]
   refine ⟨by omega,h2,?_⟩
   rw [av (by decide)]
   refine ⟨by kernel_rfl,?_⟩
   refine Bo hm rfl (by simp only [go_sem,dU]) ?_
   simp only [go_sem,dU]
   refine bA (j+1,s') ⟨show j+1≤m.ims.length by omega,by rw [show 10000+(j+1)=10000+j+1 from rfl];exact hbb,hf⟩ (show m.ims.length - (j+1)<m.ims.length - j by omega) (Wk.of ?_ ?_)
   ·simp only [go_sem,e8];try simp
   ·simp only [go_sem,dU];try rfl
  have hje:j=m.ims.length:=by omega
  rw [hje,bY (aO _)] at hf
  obtain rfl:s=S2:=hf
  have hb2:Wj 20000 s:=⟨by have:=hb.ts;have:=h.ims;omega,by have:=hb.fs;have:=h.ims;omega,by have:=hb.tb;have:=h.ims;omega,by have:=hb.ms;have:=h.ims;omega,by have:=hb.gs;have:=h.ims;omega,by have:=hb.el;have:=h.ims;omega,fun k=>⟨(hb.im k).1,by have:=(hb.im k).2;have:=h.ims;omega⟩⟩
  simp only [go_sem,bF h2,dU]
  clear h1 h2 hj hb hje
  refine aJ (fun q:Nat=>⟨[(61,.int .i64 q),(60,.int .i64 m.fs.length),(59,.sl 3 (m.fs.map lB)),(3,.mp 3 1 0 0),(1,.mp 1 12 0 0)],qH { s with fs:=s.fs++(m.fs.take q).map (·.t) }++[(1,⟨33,12,[qF m],true⟩)]⟩)
   (fun q=>q≤m.fs.length) (fun q=>m.fs.length - q) 0 (ef _) (Wk.of ?_ ?_) ?_
  ·simp only [go_sem];try simp
  ·simp only [go_sem,dU,gN,List.map_nil,jJ];try rfl
  intro j hj
  replace hj:j≤m.fs.length:=hj
  by_cases h1:(j:Int)<(m.fs.length:Int)
  ·have hj':j<m.fs.length:=by omega
   have e8:=ep hj' (by have:=h.fs;omega)
   have htk:=Cl hj'
   have htl:(m.fs.take j).length=j:=by rw [sw];omega
   have htl2:(m.fs.take (j+1)).length=j+1:=by rw [sw];omega
   generalize hX:au m.fs j=X at htk
   have hfe:(s.fs++(m.fs.take j).map (·.t)).map bp++[[.int .i64 X.t]]=(s.fs++(m.fs.take (j+1)).map (·.t)).map bp:=by rw [htk];simp [bp]
   have hll:(s.fs++(m.fs.take j).map (·.t)).length=s.fs.length+j:=by rw [ee,bT,htl]
   have hll2:(s.fs++(m.fs.take (j+1)).map (·.t)).length=s.fs.length+j+1:=by rw [ee,bT,htl2];rfl
   simp only [go_sem,bH h1,dU,hX]
   refine ⟨by omega,h1,?_⟩
   refine dc _ _ (fb (id:=2001) (len:=(s.fs++(m.fs.take j).map (·.t)).length) (rows:=(s.fs++(m.fs.take j).map (·.t)).map bp) (ys:=[[.int .i64 X.t]]) (by rfl) (by rfl) (by rfl) (by rw [bT]) (by simp) (by have:=h.fs;have:=hb2.fs;omega) (by decide)) (by simp only [go_sem]) (by rfl) (by simp only [go_sem];rfl) (by simp only [go_sem]) ?_
   simp only [go_sem,hfe]
   refine bA (j+1) (show j+1≤m.fs.length by omega) (show m.fs.length - (j+1)<m.fs.length - j by omega) (Wk.of ?_ ?_)
   ·simp only [go_sem,e8];try simp
   ·simp only [go_sem,dU,hll,hll2,iw,fZ];try rfl
  have hje:j=m.fs.length:=by omega
  subst hje
  rw [og]
  obtain ⟨S3,hS3⟩:∃S,Ze m=S:=⟨_,rfl⟩
  have hS3':({ s with fs:=s.fs++m.fs.map (·.t) }:Sp)=S3:=by rw [← hS3,Ze,hS2]
  rw [hS3']
  have hb3:S3.tb.length≤20000∧S3.ms.length≤20000∧S3.gs.length≤20000∧S3.el.length≤20000:=by rw [← hS3'];exact ⟨hb2.tb,hb2.ms,hb2.gs,hb2.el⟩
  obtain ⟨g1,g2,g3,g4⟩:=hb3
  simp only [go_sem,bF h1,dU]
  clear h1 hj
  refine dc _ _ (fb (id:=2002) (len:=S3.tb.length) (rows:=S3.tb.map ow) (ys:=m.tbs.map ow) (by rfl) (by rfl) (by rfl) (by rw [bT]) (by rw [bT];have:=h.tb;omega) (by omega) (by decide)) (by simp only [go_sem]) (by rfl) (by simp only [go_sem];rfl) (by simp only [go_sem]) ?_
  simp only [go_sem]
  refine dc _ _ (fb (id:=2003) (len:=S3.ms.length) (rows:=S3.ms.map nJ) (ys:=m.ms.map nJ) (by rfl) (by rfl) (by rfl) (by rw [bT]) (by rw [bT];have:=h.ms;omega) (by omega) (by decide)) (by simp only [go_sem]) (by rfl) (by simp only [go_sem];rfl) (by simp only [go_sem]) ?_
  simp only [go_sem]
  obtain ⟨S5,hS5⟩:∃S,mk5 m=S:=⟨_,rfl⟩
  have hS5':({ S3 with tb:=S3.tb++m.tbs,ms:=S3.ms++m.ms }:Sp)=S5:=by rw [← hS5,mk5,mk4,hS3]
  have h5g:S5.gs.length≤20000∧S5.el.length≤20000:=by rw [← hS5'];exact ⟨g3,g4⟩
  obtain ⟨h5g,h5e⟩:=h5g
  obtain ⟨S6,hS6⟩:∃S,mk6 m=S:=⟨_,rfl⟩
  have hS6':m.gs.foldl tL S5=S6:=by rw [← hS6,mk6,hS5]
  refine aJ (fun q:Nat×Sp=>⟨[(101,.int .i64 q.1),(100,.int .i64 m.gs.length),(99,.sl 3 (m.gs.map BD)),(11,.fn Dx [.mp 3 1 0 0]),(3,.mp 3 1 0 0),(1,.mp 1 12 0 0)],qH q.2++[(1,⟨33,12,[qF m],true⟩)]⟩)
   (fun q=>q.1≤m.gs.length∧(q.2.gs.length≤20000+q.1∧q.2.el.length≤20000)∧(m.gs.drop q.1).foldl tL q.2=S6) (fun q=>m.gs.length - q.1) (0,S5) ⟨ef _,⟨h5g,h5e⟩,hS6'⟩ (Wk.of ?_ ?_) ?_
  ·simp only [go_sem];try simp
  ·rw [← hS5']
   simp only [go_sem,dU,List.map_append,ee];try rfl
  rintro ⟨j,s⟩ ⟨hj,⟨hb1,hbe⟩,hf⟩
  dsimp only at hj hb1 hbe hf
  by_cases h1:(j:Int)<(m.gs.length:Int)
  ·have hj':j<m.gs.length:=by omega
   have e8:=ep hj' (by have:=h.gs;omega)
   have hxi:=h.gi (au m.gs j) (by rw [aX hj'];exact List.getElem_mem _)
   rw [sC tL hj'] at hf
   generalize hX:au m.gs j=X at hf hxi
   have hm:=Q9 { s with gs:=s.gs++[X.g] } X.i hxi
   have hg:({ s with gs:=s.gs++[X.g],de:=mN X.i s.de }:Sp)=tL s X:=rfl
   have hgl:(tL s X).gs.length≤20000+(j+1):=by rw [← hg];simp;omega
   have hel:(tL s X).el.length≤20000:=hbe
   rw [show ({ ({ s with gs:=s.gs++[X.g] }:Sp) with de:=mN X.i ({ s with gs:=s.gs++[X.g] }:Sp).de }:Sp)=tL s X from rfl] at hm
   generalize tL s X=s' at hm hf hgl hel
   simp only [go_sem,bH h1,hX,dU]
   refine ⟨by omega,h1,?_⟩
   refine dc _ _ (fb (id:=2004) (len:=s.gs.length) (rows:=s.gs.map Dc) (ys:=[Dc X.g]) (by rfl) (by rfl) (by rfl) (by rw [bT]) (by simp) (by have:=h.gs;omega) (by decide)) (by simp only [go_sem]) (by rfl) (by simp only [go_sem];rfl) (by simp only [go_sem]) ?_
   simp only [go_sem]
   rw [av (by decide)]
   refine ⟨by kernel_rfl,?_⟩
   refine Bo hm rfl (by simp only [go_sem,dU,List.map_append,ee,cF,List.map_nil,iw,fZ]) ?_
   simp only [go_sem,dU]
   refine bA (j+1,s') ⟨show j+1≤m.gs.length by omega,⟨hgl,hel⟩,hf⟩ (show m.gs.length - (j+1)<m.gs.length - j by omega) (Wk.of ?_ ?_)
   ·simp only [go_sem,e8];try simp
   ·simp only [go_sem,dU];try rfl
  have hje:j=m.gs.length:=by omega
  rw [hje,bY (aO _)] at hf
  obtain rfl:s=S6:=hf
  simp only [go_sem,bF h1,dU]
  clear h1 hj hb1 hje
  obtain ⟨S7,hS7⟩:∃S,mk7 m=S:=⟨_,rfl⟩
  have hS7':m.els.foldl Bq s=S7:=by rw [← hS7,mk7,hS6]
  refine aJ (fun q:Nat×Sp=>⟨[(124,.int .i64 q.1),(123,.int .i64 m.els.length),(122,.sl 5 (m.els.map wU)),(11,.fn Dx [.mp 3 1 0 0]),(3,.mp 3 1 0 0),(1,.mp 1 12 0 0)],qH q.2++[(1,⟨33,12,[qF m],true⟩)]⟩)
   (fun q=>q.1≤m.els.length∧q.2.el.length≤20000+q.1∧(m.els.drop q.1).foldl Bq q.2=S7) (fun q=>m.els.length - q.1) (0,s) ⟨ef _,hbe,hS7'⟩ (Wk.of ?_ ?_) ?_
  ·simp only [go_sem];try simp
  ·simp only [go_sem,dU];try rfl
  rintro ⟨j,s2⟩ ⟨hj,hb1,hf⟩
  dsimp only at hj hb1 hf
  by_cases h1:(j:Int)<(m.els.length:Int)
  ·have hj':j<m.els.length:=by omega
   have e8:=ep hj' (by have:=h.els;omega)
   obtain ⟨hxi,hxl⟩:=h.ei (au m.els j) (by rw [aX hj'];exact List.getElem_mem _)
   rw [sC Bq hj'] at hf
   generalize hX:au m.els j=X at hf hxi hxl
   simp only [go_sem,bH h1,hX,dU]
   refine ⟨by omega,h1,?_⟩
   refine dc _ _ (fb (id:=2005) (len:=s2.el.length) (rows:=s2.el.map bp) (ys:=[[.int .i64 X.ty]]) (by rfl) (by rfl) (by rfl) (by rw [bT]) (by simp) (by have:=h.els;omega) (by decide)) (by simp only [go_sem]) (by rfl) (by simp only [go_sem];rfl) (by simp only [go_sem]) ?_
   simp only [go_sem]
   refine aJ (fun q:Nat×List Int=>⟨[(142,.int .i64 q.1),(141,.int .i64 X.it.length),(140,.sl 1 (X.it.map tS)),(124,.int .i64 j),(123,.int .i64 m.els.length),(122,.sl 5 (m.els.map wU)),(11,.fn Dx [.mp 3 1 0 0]),(3,.mp 3 1 0 0),(1,.mp 1 12 0 0)],qH { s2 with el:=s2.el++[X.ty],de:=q.2 }++[(1,⟨33,12,[qF m],true⟩)]⟩)
    (fun q=>q.1≤X.it.length∧yg (X.it.drop q.1) q.2=yg X.it s2.de) (fun q=>X.it.length - q.1) (0,s2.de) ⟨ef _,rfl⟩ (Wk.of ?_ ?_) ?_
   ·simp only [go_sem];try simp
   ·simp only [go_sem,dU,List.map_append,ee,cF,List.map_nil,iw,fZ];try rfl
   rintro ⟨i,de⟩ ⟨hi,hd⟩
   dsimp only at hi hd
   by_cases h2:(i:Int)<(X.it.length:Int)
   ·have hi':i<X.it.length:=by omega
    have e9:=ep hi' (by omega)
    have hxm:=hxl (au X.it i) (by rw [aX hi'];exact List.getElem_mem _)
    rw [fc hi'] at hd
    have hd:yg (X.it.drop (i+1)) (mN (au X.it i) de)=yg X.it s2.de:=hd
    generalize hY:au X.it i=Y at hd hxm
    have hm:=Q9 { s2 with el:=s2.el++[X.ty],de:=de } Y hxm
    simp only [go_sem,bH h2,hY,dU]
    refine ⟨by omega,h2,?_⟩
    rw [av (by decide)]
    refine ⟨by kernel_rfl,?_⟩
    refine Bo hm rfl (by simp only [go_sem,dU]) ?_
    simp only [go_sem,dU]
    refine bA (i+1,mN Y de) ⟨show i+1≤X.it.length by omega,hd⟩ (show X.it.length - (i+1)<X.it.length - i by omega) (Wk.of ?_ ?_)
    ·simp only [go_sem,e9];try simp
    ·simp only [go_sem,dU];try rfl
   have hie:i=X.it.length:=by omega
   rw [hie,bY (aO _)] at hd
   have hd:de=yg X.it s2.de:=hd
   subst hd
   have hel:(Bq s2 X).el.length≤20000+(j+1):=by show (s2.el++[X.ty]).length≤_;simp;omega
   simp only [go_sem,bF h2,dU]
   refine bA (j+1,{ s2 with el:=s2.el++[X.ty],de:=yg X.it s2.de }) ⟨show j+1≤m.els.length by omega,hel,hf⟩ (show m.els.length - (j+1)<m.els.length - j by omega) (Wk.of ?_ ?_)
   ·simp only [go_sem,e8];try simp
   ·simp only [go_sem,dU];try rfl
  have hje:j=m.els.length:=by omega
  rw [hje,bY (aO _)] at hf
  obtain rfl:s2=S7:=hf
  simp only [go_sem,bF h1,dU]
  clear h1 hj hb1 hje
  obtain ⟨S8,hS8⟩:∃S,Zf m=S:=⟨_,rfl⟩
  rw [hS8]
  have hS8':m.exs.foldl x8 s2=S8:=by rw [← hS8,Zf,hS7]
  refine aJ (fun q:Nat×Sp=>⟨[(154,.int .i64 q.1),(153,.int .i64 m.exs.length),(152,.sl 3 (m.exs.map A7)),(3,.mp 3 1 0 0),(1,.mp 1 12 0 0)],qH q.2++[(1,⟨33,12,[qF m],true⟩)]⟩)
   (fun q=>q.1≤m.exs.length∧(m.exs.drop q.1).foldl x8 q.2=S8) (fun q=>m.exs.length - q.1) (0,s2) ⟨ef _,hS8'⟩ (Wk.of ?_ ?_) ?_
  ·simp only [go_sem];try simp
  ·simp only [go_sem,dU];try rfl
  rintro ⟨j,s3⟩ ⟨hj,hf⟩
  dsimp only at hj hf
  by_cases h1:(j:Int)<(m.exs.length:Int)
  ·have hj':j<m.exs.length:=by omega
   have e8:=ep hj' (by have:=h.exs;omega)
   rw [sC x8 hj'] at hf
   generalize hX:au m.exs j=X at hf
   have hp:=LG X.i s3.de
   by_cases h2:X.k=0
   ·rw [x8,av h2] at hf
    simp only [go_sem,bH h1,hX,dU,aF h2]
    refine ⟨by omega,h1,rfl,rfl,_,hp,?_⟩
    refine bA (j+1,{ s3 with de:=qw s3.de X.i }) ⟨show j+1≤m.exs.length by omega,hf⟩ (show m.exs.length - (j+1)<m.exs.length - j by omega) (Wk.of ?_ ?_)
    ·simp only [go_sem,e8];try simp
    ·simp only [go_sem,dU];try rfl
   ·rw [x8,ar h2] at hf
    simp only [go_sem,bH h1,hX,dU,ab h2]
    refine ⟨by omega,h1,?_⟩
    refine bA (j+1,s3) ⟨show j+1≤m.exs.length by omega,hf⟩ (show m.exs.length - (j+1)<m.exs.length - j by omega) (Wk.of ?_ ?_)
    ·simp only [go_sem,e8];try simp
    ·simp only [go_sem,dU];try rfl
  have hje:j=m.exs.length:=by omega
  rw [hje,bY (aO _)] at hf
  obtain rfl:s3=S8:=hf
  simp only [go_sem,bF h1,dU]
  refine iQ (((Wk.frzs [2000,2001,2002,2003,2004,2005,23,24] _).trans (Wk.unrec _ 26 (t:=129) (st:=9) (r:=Wm s3) (by simp only [go_sem,aO,gR,List.drop_zero,Nat.zero_add,aA]) ?_)).trans ((Wk.frzs [26] _).trans (Wk.unrec _ 170 (t:=134) (st:=1) (r:=[.ip (Wm s3)]) ?_ ?_))) [170] ?_ (by rfl)
  ·intro x hx
   simp only [aA,bc,List.not_mem_nil,or_false] at hx
   rcases hx with rfl | rfl | rfl | rfl | rfl | rfl | rfl | rfl | rfl<;>exact ⟨rfl,rfl⟩
  ·simp only [go_sem,aA]
  ·intro x hx
   rw [du.1 hx]
   exact ⟨rfl,rfl⟩
  ·simp only [go_sem,aU,aA]
end
open Go Go.Mw
theorem QM:∀(l:List Im) (s:Sp),l.foldl qx s =⟨s.ts,s.fs++(l.filter fun x=>x.k==0).map (·.f),s.tb++(l.filter fun x=>x.k==1).map (fun x=>⟨x.te,x.tl⟩),s.ms++(l.filter fun x=>x.k==2).map (·.me),s.gs++(l.filter fun x=>x.k==3).map (·.g),s.el,s.ds,l.foldl (fun l x=>gU x.k l) s.im,s.de⟩
 | [],s=>by simp
 | x :: l,s=>by
  rw [List.foldl_cons,QM l]
  unfold qx
  dsimp only
  by_cases h0:x.k=0
  ·simp [h0,List.filter_cons]
  by_cases h1:x.k=1
  ·simp [h1,List.filter_cons]
  by_cases h2:x.k=2
  ·simp [h2,List.filter_cons]
  by_cases h3:x.k=3
  ·simp [h3,List.filter_cons]
  ·simp [h0,h1,h2,h3,List.filter_cons]
theorem QX:∀(l:List Gd) (s:Sp),l.foldl tL s={ s with gs:=s.gs++l.map (·.g),de:=(l.flatMap fun g=>uu g.i).foldl qw s.de }
 | [],s=>by simp
 | g :: l,s=>by
  rw [List.foldl_cons,QX l]
  simp [tL,mN,m8,List.foldl_append]
theorem QZ:∀(l:List (List bv)) (de:List Int),yg l de=(l.flatMap uu).foldl qw de
 | [],de=>rfl
 | x :: l,de=>by
  show yg l (mN x de)=_
  rw [QZ l]
  simp [mN,m8,List.foldl_append]
theorem QR:∀(l:List El) (s:Sp),l.foldl Bq s={ s with el:=s.el++l.map (·.ty),de:=(l.flatMap fun e=>e.it.flatMap uu).foldl qw s.de }
 | [],s=>by simp
 | e :: l,s=>by
  rw [List.foldl_cons,QR l]
  simp [Bq,QZ,m8,List.foldl_append]
theorem QS:∀(l:List Ex) (s:Sp),l.foldl x8 s={ s with de:=((l.filter fun e=>e.k==0).map (·.i)).foldl qw s.de }
 | [],s=>by simp
 | e :: l,s=>by
  rw [List.foldl_cons,QS l]
  by_cases h:e.k=0
  ·simp [x8,h,List.filter_cons]
  ·simp [x8,h,List.filter_cons]
theorem Zg (m:Md):Zf m=lV m:=by
 unfold Zf mk7 mk6
 rw [QS,QR,QX]
 unfold mk5 mk4 Ze mk2
 rw [QM]
 simp [Wh,sp0,lV,zL,List.foldl_append]
section
def dF (m:Md) (s:Sp) (F:Fa):ah:=⟨77,17,[qF m++[kj s,.int .i64 F.p,.int .i64 F.i,.int .i64 F.l,.int .i64 F.c]],true⟩
theorem ql (m:Md) (s:Sp) (F:Fa):dF m s F =⟨77,17,[qF m++[kj s,.int .i64 F.p,.int .i64 F.i,.int .i64 F.l,.int .i64 F.c]],true⟩:=rfl
def we:List (Int×Int)→Nat
 | []=>0
 | r :: l=>if r.2≠0 then 1 else we l+1
def sS (g:FuncId) (ag:Nat→List AV) (m:Md) (s:Sp) (E:Nat→List (Nat×ah)) (res:List (Int×Int)):Prop :=
 ∀i,i<res.length→(∀j,j<i→(au res j).2=0)→∀F:Fa,F.c=0→bu Tryz.prog g (ag i) ((1000,dF m s F) :: E i) DM (fun r' σ'=>r' = .tup [.int .i64 (au res i).1,.int .i64 (au res i).2]∧σ'=(1000,dF m s F) :: E (i+1))
structure Wl (E:Nat→List (Nat×ah)):Prop where
 g:∀i,∀p∈E i,ae (E i) p.1=some p.2
 n:∀i,∀p∈E i,p.1≠1000∧(DM p.1∨p.1=2000)
 k:∀i j,∀p∈E i,(ae (E j) p.1).isSome=true
theorem iD {k:Nat} {o:ah}:∀{l X:List (Nat×ah)},ae l k=some o→ae (l++X) k=some o
 | [],X,h=>by cases h
 | (j,p) :: l,X,h=>by
  simp only [ae,lc] at h ⊢
  split
  ·rename_i hj;rw [av hj] at h;exact h
  ·rename_i hj;rw [ar hj] at h;exact iD h
theorem oN {k j:Nat} (hk:¬k=j):∀l:List (Nat×ah),ae (iS l k) j=ae l j
 | []=>rfl
 | (a,o) :: l=>by
  simp only [iS,ae]
  by_cases h:a=k
  ·rw [av h,ar (fun q=>hk (by rw [← h,q])),oN hk l]
  ·rw [ar h]
   simp only [ae,oN hk l]
theorem YH {n:Int} {l:List (Int×Int)} {i:Nat} (h:i<l.length) (F:Fa) (hF:F.c=0):eL n i (l.drop i) F=eL n (i+1) (l.drop (i+1)) (dh F n i (au l i).1 (au l i).2):=I7 h F hF
theorem TR {n:Int} {l:List (Int×Int)} {i:Nat} (F:Fa) (hF:F.c≠0):eL n i l F=F:=by
 cases l with
 | nil=>rfl
 | cons r l=>rw [eL,av hF]
attribute [-go_sem] nt in
attribute [local go_sem] bT ql bM aU aA
theorem tX {f g:FuncId} {caps:List AV} {ag:Nat→List AV} {m:Md} {s:Sp} {E:Nat→List (Nat×ah)} {res:List (Int×Int)} (hf:sS g ag m s E res) (hE:Wl E) (hfc:∀(i:Nat) (d:Option Nat) (w:St) (K:St→Prop),ci Tryz.prog g (ag i) d w K→C4 Tryz.prog (.fn f caps) [.int .i64 i] d w K) (hcl:∀i F,MR (.tup []) ((1000,dF m s F) :: E i)=true) (hcp:caps.any (mP 2000)=false) (hr:res.length≤1000000) (part:Int) (F:Fa) :
  bu Tryz.prog Fu [.mp 1000 17 0 0,.int .i64 part,.int .i64 res.length,.fn f caps] ((1000,dF m s F) :: E 0) DM (fun r' σ'=>r' = .tup []∧σ'=(1000,dF m s (eL part 0 res F)) :: E (if F.c≠0 then 0 else we res)):=by
 refine aB (ic:=Sh.body) ap adp rfl rfl ?_
 obtain ⟨T,hT⟩:∃T,eL part 0 res F=T:=⟨_,rfl⟩
 obtain ⟨J,hJ⟩:∃J,(if F.c≠0 then 0 else we res)=J:=⟨_,rfl⟩
 rw [hT,hJ]
 simp only [go_sem,Sh]
 refine aJ (fun q:Nat×Fa=>⟨[(8,.int .i64 q.1),(3,.fn f caps),(2,.int .i64 res.length),(1,.int .i64 part),(0,.mp 1000 17 0 0)],(1000,dF m s q.2) :: E q.1⟩)
  (fun q=>q.1≤res.length∧eL part q.1 (res.drop q.1) q.2=T∧(if q.2.c≠0 then q.1 else q.1+we (res.drop q.1))=J∧(q.2.c=0→∀j,j<q.1→(au res j).2=0)) (fun q=>res.length - q.1+(if q.2.c≠0 then 0 else 1)) (0,F) ⟨ef _,hT,by rw [← hJ];simp,fun _ j hj=>absurd hj (Nat.not_lt_zero j)⟩ (Wk.le ?_ ?_) ?_
 ·intro p hp
  simp only [bc,List.not_mem_nil,or_false] at hp
  rcases hp with rfl | rfl | rfl | rfl | rfl<;>rfl
 ·intro p hp
  rcases bc.1 hp with rfl | hp
  ·rfl
  ·show (if 1000=p.1 then _ else ae (E 0) p.1)=_
   rw [ar (fun q=>(hE.n 0 p hp).1 q.symm)]
   exact hE.g 0 p hp
 rintro ⟨i,G⟩ ⟨hi,hx,hy,hz⟩
 dsimp only at hi hx hy hz
 by_cases h1:(i:Int)<(res.length:Int)
 rotate_left
 ·simp only [go_sem,bF h1]
  have hie:i=res.length:=by omega
  have e1:G=T:=by rw [hie,bY (aO _)] at hx;exact hx
  have e2:i=J:=by
   rw [hie,bY (aO _)] at hy
   rw [← hy,hie]
   split<;>rfl
  subst e1 e2
  exact ⟨(fun _ h=>by cases h),_,Wk.refl _,[],.tup [],_,rfl,(fun i o hi=>by simp only [go_sem,ql] at hi ⊢;exact hi),gb (by have:=hcl i G;simp only [go_sem] at this ⊢;exact this),⟨rfl,rfl⟩⟩
 have hi':i<res.length:=by omega
 by_cases h2:G.c=0
 rotate_left
 ·simp only [go_sem,bH h1,ab h2]
  have e1:G=T:=by rw [TR G h2] at hx;exact hx
  have e2:i=J:=by rw [av h2] at hy;exact hy
  subst e1 e2
  exact ⟨(fun _ h=>by cases h),_,Wk.refl _,[],.tup [],_,rfl,(fun i o hi=>by simp only [go_sem,ql] at hi ⊢;exact hi),gb (by have:=hcl i G;simp only [go_sem] at this ⊢;exact this),⟨rfl,rfl⟩⟩
 have e8:=ep hi' (by omega)
 rw [YH hi' G h2] at hx
 have hfi:=hf i hi' (hz h2) G h2
 have hE1:=hE
 simp only [go_sem,bH h1,aF h2]
 refine hfc i _ _ _ ?_
 have hn1000:∀k,∀p∈E k,¬(1000=p.1):=fun k p hp q=>(hE.n k p hp).1 q.symm
 have hgE:∀k,∀p∈E k,∀o:ah,ae ((1000,o) :: E k) p.1=some p.2:=fun k p hp o=>by
  show (if 1000=p.1 then _ else ae (E k) p.1)=_
  rw [ar (hn1000 k p hp)]
  exact hE.g k p hp
 have hkE:∀k j,∀p∈E k,∀o:ah,(ae ((1000,o) :: E j) p.1).isSome=true:=fun k j p hp o=>by
  show (if 1000=p.1 then _ else ae (E j) p.1).isSome=true
  rw [ar (hn1000 k p hp)]
  exact hE.k k j p hp
 refine fD hfi [2000] (fun p hp=>?_) (fun p hp=>?_) (fun p hp=>?_) ?_
 ·rcases bc.1 hp with rfl | hp
  ·rfl
  ·exact hgE i p hp _
 ·rcases bc.1 hp with rfl | hp
  ·exact .inl ⟨⟨show 1000≤1000 by decide,show 1000<2000 by decide⟩,rfl⟩
  ·rcases (hE.n (i+1) p hp).2 with q | q
   ·exact .inl ⟨q,hkE (i+1) i p hp _⟩
   ·exact .inr ⟨by rw [q];simp,by rw [q];exact .inr (by decide),.inl (hkE (i+1) i p hp _)⟩
 ·rcases bc.1 hp with rfl | hp
  ·rfl
  ·exact hkE i (i+1) p hp _
 have hcp':mP 2000 (.fn f caps)=false:=rfl
 generalize fQ [2000] _=X
 generalize hR:au res i=R at hx hy
 have hst:we (res.drop i)=if R.2≠0 then 1 else we (res.drop (i+1))+1:=by rw [fc hi',we,hR]
 rw [ar (fun q=>q h2),hst] at hy
 by_cases h3:R.2=0
 ·rw [ar (fun q=>q h3)] at hy
  have hfa:dh G part i R.1 R.2=G:=by unfold dh;rw [ar (fun q=>q.2 h3)]
  rw [hfa] at hx
  simp only [go_sem,hcp,ay h3,hR]
  refine bA (i+1,G) ⟨show i+1≤res.length by omega,hx,by rw [ar (fun q=>q h2)];rw [← hy];show i+1+we (res.drop (i+1))=_;omega,fun _ j hj=>by
   by_cases hji:j=i
   ·rw [hji,hR];exact h3
   ·exact hz h2 j (by have hj:j<i+1:=hj;omega)⟩ (by show res.length - (i+1)+_<res.length - i+_;rw [ar (fun q=>q h2)];omega) (Wk.le ?_ ?_)
  ·intro p hp
   simp only [bc,List.not_mem_nil,or_false] at hp
   rcases hp with rfl | rfl | rfl | rfl | rfl
   all_goals
    simp only [go_sem,e8]
    try simp
  ·intro p hp
   rcases bc.1 hp with rfl | hp
   ·simp only [go_sem]
   ·show (if 1000=p.1 then _ else ae (E (i+1)++X) p.1)=_
    rw [ar (hn1000 (i+1) p hp)]
    exact iD (hE.g (i+1) p hp)
 rw [av h3] at hy
 have hfa:dh G part i R.1 R.2 =⟨part,i,R.1,R.2⟩:=by unfold dh;rw [av ⟨h2,h3⟩]
 rw [hfa] at hx
 simp only [go_sem,hcp,aK h3,hR]
 refine bA (i+1,⟨part,i,R.1,R.2⟩) ⟨show i+1≤res.length by omega,hx,by rw [av h3];rw [← hy],fun q=>absurd q h3⟩ (by show res.length - (i+1)+_<res.length - i+_;rw [av h3,ar (fun q=>q h2)];omega) (Wk.le ?_ ?_)
 ·intro p hp
  simp only [bc,List.not_mem_nil,or_false] at hp
  rcases hp with rfl | rfl | rfl | rfl | rfl
  all_goals
   simp only [go_sem,e8]
   try simp
 ·intro p hp
  rcases bc.1 hp with rfl | hp
  ·simp only [go_sem]
  ·show (if 1000=p.1 then _ else ae (iS (E (i+1)++X) 1000) p.1)=_
   rw [ar (hn1000 (i+1) p hp),oN (hn1000 (i+1) p hp)]
   exact iD (hE.g (i+1) p hp)
end
section
attribute [local go_sem] bT aY b_ bO lN dB cD
theorem Mg (op:Int):aj Tryz.prog afr [.int .i64 op] (.int .i64 (kO op)):=by
 refine ac (ic:=xQ.body) ap adC rfl rfl ?_
 unfold kO
 by_cases h1:op=106
 ·subst h1;simp only [go_sem,xQ];exact an
 by_cases h2:op=107
 ·subst h2;simp only [go_sem,xQ];exact an
 by_cases h3:op=108
 ·subst h3;simp only [go_sem,xQ];exact an
 rw [ar (by omega)]
 by_cases h4:op=124
 ·subst h4;simp only [go_sem,xQ];exact an
 by_cases h5:op=125
 ·subst h5;simp only [go_sem,xQ];exact an
 by_cases h6:op=126
 ·subst h6;simp only [go_sem,xQ];exact an
 rw [ar (by omega)]
 simp only [go_sem,xQ,ab h1,ab h2,ab h3,ab h4,ab h5,ab h6]
 exact an
theorem Vz (s:Sp) (x:bv) (gl:Int):aj Tryz.prog ZB [kj s,iE x,.int .i64 gl] (.tup [.int .i64 (jw s x gl).1,.int .i64 (jw s x gl).2]):=by
 refine ac (ic:=jZ.body) ap Xh rfl rfl ?_
 have cf:=uG s
 have cd:=uF s x.a
 have cg:=xH s x.a
 simp only [aU,aA,lN] at cf cd cg
 obtain ⟨T,hT⟩:∃T,jw s x gl=T:=⟨_,rfl⟩
 rw [hT]
 unfold jw at hT
 by_cases h1:x.op=65
 ·rw [av h1] at hT;subst hT;simp only [go_sem,jZ,aU,aA,aF h1];exact an
 rw [ar h1] at hT
 by_cases h2:x.op=66
 ·rw [av h2] at hT;subst hT;simp only [go_sem,jZ,aU,aA,ab h1,aF h2];exact an
 rw [ar h2] at hT
 by_cases h3:x.op=208
 ·rw [av h3] at hT;subst hT;simp only [go_sem,jZ,aU,aA,ab h1,ab h2,aF h3];exact an
 rw [ar h3] at hT
 by_cases h4:x.op=210
 ·rw [av h4] at hT
  by_cases g1:x.a<0
  ·rw [av (.inl g1)] at hT
   subst hT
   simp only [go_sem,jZ,aU,aA,ab h1,ab h2,ab h3,aF h4,bH g1]
   exact an
  simp only [go_sem,jZ,aU,aA,ab h1,ab h2,ab h3,aF h4,bF g1]
  refine bP cf (by simp [go_sem]) rfl ?_
  by_cases g2:x.a≥s.fs.length
  ·rw [av (.inr g2)] at hT
   subst hT
   simp only [go_sem,bH g2]
   exact an
  rw [ar (by rintro (q | q);exact g1 q;exact g2 q)] at hT
  simp only [go_sem,bF g2]
  refine aa (cd) ?_
  cases hd:s.dec x.a
  ·rw [av hd] at hT
   subst hT
   simp only [go_sem]
   exact an
  ·rw [ar (by rw [hd];decide)] at hT
   subst hT
   simp only [go_sem]
   exact an
 rw [ar h4] at hT
 by_cases h5:x.op=35
 ·rw [av h5] at hT
  generalize cO s.gs x.a=q at cg hT
  cases q with
  | none =>
   dsimp only at hT
   subst hT
   simp only [go_sem,jZ,aU,aA,ab h1,ab h2,ab h3,ab h4,aF h5]
   refine aa (cg) ?_
   simp only [go_sem,Option.isSome_none]
   exact an
  | some g =>
   dsimp only at hT
   by_cases g2:x.a≥gl
   ·rw [av (.inl g2)] at hT
    subst hT
    simp only [go_sem,jZ,aU,aA,ab h1,ab h2,ab h3,ab h4,aF h5]
    refine aa (cg) ?_
    simp only [go_sem,Option.isSome_some,Option.getD_some,bH g2]
    exact an
   cases g3:g.mu
   ·rw [ar (by rintro (q | q);exact g2 q;rw [g3] at q;cases q)] at hT
    subst hT
    simp only [go_sem,jZ,aU,aA,ab h1,ab h2,ab h3,ab h4,aF h5]
    refine aa (cg) ?_
    simp only [go_sem,Option.isSome_some,Option.getD_some,bF g2,g3]
    exact an
   ·rw [av (.inr g3)] at hT
    subst hT
    simp only [go_sem,jZ,aU,aA,ab h1,ab h2,ab h3,ab h4,aF h5]
    refine aa (cg) ?_
    simp only [go_sem,Option.isSome_some,Option.getD_some,bF g2,g3]
    exact an
 rw [ar h5] at hT
 subst hT
 simp only [go_sem,jZ,aU,aA,ab h1,ab h2,ab h3,ab h4,ab h5]
 exact an
def EJ (l:List bv) (i:Nat) (k:List Int) (want:Int):Int×Int:=if i+1<l.length then (((i+1:Nat):Int),16) else match k with
   | []=>((i:Int),13)
   | a :: k'=>if a≠want then ((i:Int),12) else if k'≠[] then ((i:Int),14) else (0,0)
theorem DB {k:List Int} {p:Nat} (h:p<k.length):au k.reverse (k.length - 1 - p)=au k p:=by
 rw [aX (by simp;omega),aX h,List.getElem_reverse]
 congr 1
 omega
theorem DF {n:Nat} (h0:0<n) (h:n<1000000000):IntKind.i64.wrap ((n:Int) - 1)=((n - 1:Nat):Int):=by rw [wi (by omega) (by omega)];omega
theorem Vy (l:List bv) (i:Nat) (k:List Int) (want:Int) (hl:l.length≤1000000) (hi:i<l.length) (hk:k.length≤1000000):aj Tryz.prog ZQ [.sl 9 (l.map cD),.int .i64 i,.sl 1 (k.reverse.map bp),.int .i64 want] (.tup [.int .i64 (EJ l i k want).1,.int .i64 (EJ l i k want).2]):=by
 refine ac (ic:=sW.body) ap Xy rfl rfl ?_
 have w1:IntKind.i64.wrap ((i:Int)+1)=((i+1:Nat):Int):=by rw [wi (by omega) (by omega)];omega
 obtain ⟨T,hT⟩:∃T,EJ l i k want=T:=⟨_,rfl⟩
 rw [hT]
 unfold EJ at hT
 by_cases h1:((i+1:Nat):Int)<(l.length:Int)
 ·rw [av (by omega)] at hT
  subst hT
  simp only [go_sem,sW,w1,bH h1]
  exact an
 rw [ar (by omega)] at hT
 cases k with
 | nil =>
  dsimp only at hT
  subst hT
  simp only [go_sem,sW,w1,bF h1,List.reverse_nil,show (((0:Nat):Int)==0)=true from rfl]
  exact an
 | cons a k' =>
  dsimp only at hT
  have hr0:=DB (k:=a :: k') (p:=0) (by simp)
  have hl2:(a :: k').reverse.length=k'.length+1:=by simp
  have hr:au (a :: k').reverse (k'.length+1 - 1)=a:=hr0
  generalize (a :: k').reverse=kr at hr hl2
  obtain ⟨n,hn⟩:∃n,k'.length+1=n:=⟨_,rfl⟩
  rw [hn] at hl2 hr
  have hz:((n:Int)==0)=false:=ab (by omega)
  have hw:=DF (n:=n) (by omega) (by simp only [iw] at hk;omega)
  by_cases h2:a=want
  rotate_left
  ·rw [av h2] at hT
   subst hT
   simp only [go_sem,sW,w1,bF h1,hl2,hz,hw,cZ,hr]
   refine ⟨by omega,by omega,?_⟩
   simp only [go_sem,aK h2]
   exact an
  rw [ar (fun q=>q h2)] at hT
  by_cases h3:(n:Int)>1
  ·rw [av (by intro q;rw [q] at hn;simp at hn;omega)] at hT
   subst hT
   simp only [go_sem,sW,w1,bF h1,hl2,hz,hw,cZ,hr,ay h2,bH h3]
   refine ⟨by omega,by omega,?_⟩
   exact an
  ·rw [ar (by intro q;apply q;exact QE (by omega))] at hT
   subst hT
   simp only [go_sem,sW,w1,bF h1,hl2,hz,hw,cZ,hr,ay h2,bF h3]
   refine ⟨by omega,by omega,?_⟩
   exact an
theorem Ti (s:Sp) (want gl:Int) {l:List bv} {j:Nat} (h:j<l.length) (k:List Int):kG s want gl j (l.drop j) k =
  if kO (au l j).op≠0 then (match k with
   | a :: b :: k'=>if a≠kO (au l j).op∨b≠kO (au l j).op then ((j:Int),12) else kG s want gl (j+1) (l.drop (j+1)) (b :: k')
   | [a]=>if a≠kO (au l j).op then ((j:Int),12) else ((j:Int),13)
   | []=>((j:Int),13)) else
  if (au l j).op=11 then EJ l j k want else
  if (jw s (au l j) gl).2≠0 then ((j:Int),(jw s (au l j) gl).2) else kG s want gl (j+1) (l.drop (j+1)) ((jw s (au l j) gl).1 :: k):=by
 have he:(l.drop (j+1)≠[])↔j+1<l.length:=by
  rw [Ne,List.drop_eq_nil_iff];omega
 rw [fc h,kG.eq_def]
 dsimp only
 unfold EJ
 by_cases h1:j+1<l.length
 ·simp only [he.2 h1,h1,dl,ne_eq,not_false_eq_true]
  rcases k with _ | ⟨a,_ | ⟨b,k'⟩⟩<;>rfl
 ·have:l.drop (j+1)=[]:=List.drop_eq_nil_of_le (by omega)
  rw [this]
  simp only [h1,ne_eq,not_true_eq_false,fA]
  rcases k with _ | ⟨a,_ | ⟨b,k'⟩⟩<;>rfl
theorem Ma (s:Sp) (l:List bv) (want gl:Int) (hl:l.length≤1000000):aj Tryz.prog Zq [kj s,.sl 9 (l.map cD),.int .i64 want,.int .i64 gl] (.tup [.int .i64 (kG s want gl 0 l []).1,.int .i64 (kG s want gl 0 l []).2]):=by
 refine ac (ic:=Gv.body) ap W5 rfl rfl ?_
 obtain ⟨T,hT⟩:∃T,kG s want gl 0 l []=T:=⟨_,rfl⟩
 rw [hT]
 simp only [go_sem,Gv,aU,aA]
 refine aJ (fun q:Nat×List Int=>⟨[(22,.int .i64 q.1),(21,.int .i64 l.length),(20,.sl 9 (l.map cD)),(10,.ms 900 1 0 q.2.length),(3,.int .i64 gl),(2,.int .i64 want),(1,.sl 9 (l.map cD)),(0,kj s)],[(900,⟨48,1,q.2.reverse.map bp,false⟩)]⟩)
  (fun q=>q.1≤l.length∧q.2.length≤q.1∧kG s want gl q.1 (l.drop q.1) q.2=T) (fun q=>l.length - q.1) (0,[]) ⟨ef _,aO _,hT⟩ ((Wk.nil _ 10 900 1 48 (by simp only [go_sem]) (by decide)).trans (Wk.of ?_ ?_)) ?_
 ·simp only [go_sem,St.mknil,aU,aA];try simp
 ·simp only [go_sem,St.mknil];try rfl
 rintro ⟨j,k⟩ ⟨hj,hk,hx⟩
 dsimp only at hj hk hx
 by_cases h1:(j:Int)<(l.length:Int)
 rotate_left
 ·have hje:j=l.length:=by omega
  rw [hje,bY (aO _)] at hx
  simp only [kG] at hx
  subst hx
  simp only [go_sem,bF h1,aU,aA]
  exact an
 have hj':j<l.length:=by omega
 have e8:=ep hj' (by omega)
 have cn:=Mg (au l j).op
 have cl:=Vz s (au l j) gl
 have ce:=Vy l j k want hl hj' (by omega)
 rw [Ti s want gl hj'] at hx
 simp only [aU,aA,dB] at cl
 generalize hX:au l j=X at cn cl hx
 generalize kO X.op=t at cn hx
 by_cases h2:t=0
 rotate_left
 ·rw [av h2] at hx
  simp only [go_sem,bH h1,aU,aA,hX]
  refine ⟨by omega,h1,?_⟩
  refine aa (cn) ?_
  simp only [go_sem,aK h2]
  refine aJ (fun p:Nat=>⟨[(32,.int .i64 p),(13,.int .i64 t),(11,.int .i64 j),(22,.int .i64 j),(21,.int .i64 l.length),(20,.sl 9 (l.map cD)),(10,.ms 900 1 0 k.length),(3,.int .i64 gl),(2,.int .i64 want),(1,.sl 9 (l.map cD)),(0,kj s)],[(900,⟨48,1,k.reverse.map bp,false⟩)]⟩)
   (fun p=>p≤2∧(1≤p→∃r,k=t :: r)∧(2≤p→∃r,k=t :: t :: r)) (fun p=>2 - p) 0 ⟨by omega,(fun h=>by omega),(fun h=>by omega)⟩ (Wk.of ?_ ?_) ?_
  ·simp only [go_sem,aU,aA];try simp
  ·simp only [go_sem];try rfl
  intro p hh
  obtain ⟨hp,hp1,hp2⟩:p≤2∧(1≤p→∃r,k=t :: r)∧(2≤p→∃r,k=t :: t :: r):=hh
  by_cases h3:(p:Int)<2
  ·have w1:IntKind.i64.wrap ((k.length:Int) - 1)=(k.length:Int) - 1:=wi (by omega) (by omega)
   have w2:IntKind.i64.wrap ((k.length:Int) - 1 - p)=(k.length:Int) - 1 - p:=wi (by omega) (by omega)
   have e9:IntKind.i64.wrap ((p:Int)+1)=((p+1:Nat):Int):=by rw [wi (by omega) (by omega)];omega
   by_cases h4:(k.length:Int) - 1 - p<0
   ·have hT2:T=((j:Int),13):=by
     rw [← hx]
     cases k with
     | nil=>rfl
     | cons a r =>
      cases r with
      | nil =>
       have hp':1≤p:=by simp at h4;omega
       obtain ⟨r',hr'⟩:=hp1 hp'
       cases hr'
       simp
      | cons b r=>simp at h4;omega
    subst hT2
    simp only [go_sem,bH h3,w1,w2,bH h4]
    exact an
   have hpk:p<k.length:=by omega
   have w3:(k.length:Int) - 1 - p=((k.length - 1 - p:Nat):Int):=by omega
   have hn:=DB hpk
   have hkr:k.reverse.length=k.length:=List.length_reverse
   simp only [go_sem,bH h3,w1,w2,bF h4]
   rw [w3]
   simp only [go_sem,cZ,Nat.zero_add,hn]
   by_cases h5:au k p=t
   rotate_left
   ·have hT2:T=((j:Int),12):=by
     rw [← hx]
     cases k with
     | nil=>simp at hpk
     | cons a r =>
      cases r with
      | nil =>
       have:p=0:=by simp at hpk;omega
       subst this
       have h5:¬a=t:=h5
       simp [h5]
      | cons b r =>
       rcases (show p=0∨p=1 by omega) with rfl | rfl
       ·have h5:¬a=t:=h5
        simp [h5]
       ·have h5:¬b=t:=h5
        simp [h5]
    subst hT2
    simp only [go_sem,aK h5]
    refine ⟨by omega,by omega,?_⟩
    exact an
   simp only [go_sem,ay h5,e9]
   refine ⟨by omega,by omega,?_⟩
   refine bA (p+1) ⟨show p+1≤2 by omega,fun _=>?_,fun h6=>?_⟩ (show 2 - (p+1)<2 - p by omega) (Wk.of ?_ ?_)
   ·by_cases hp0:p=0
    ·subst hp0
     cases k with
     | nil=>simp at hpk
     | cons a r=>exact ⟨r,by rw [show a=t from h5]⟩
    ·exact hp1 (by omega)
   ·have hp0:p=1:=by omega
    subst hp0
    obtain ⟨r,hr⟩:=hp1 (by omega)
    subst hr
    cases r with
    | nil=>simp at hpk
    | cons b r=>exact ⟨r,by rw [show b=t from h5]⟩
   ·simp only [go_sem,aU,aA];try simp
   ·simp only [go_sem];try rfl
  have hpe:p=2:=by omega
  obtain ⟨r,hr⟩:=hp2 (by omega)
  subst hr
  have hx:kG s want gl (j+1) (l.drop (j+1)) (t :: r)=T:=by
   rw [← hx];simp
  have htk:List.take (r.length+1) ((t :: t :: r).reverse.map bp)=(t :: r).reverse.map bp:=by
   rw [List.reverse_cons,List.map_append,List.take_append_of_le_length (by simp),iq (by simp)]
  have hw:=DF (n:=r.length+1+1) (by omega) (by simp only [iw] at hk;omega)
  simp only [go_sem,bF h3,hw,cZ,Nat.zero_add]
  refine ⟨⟨by omega,by omega⟩,?_⟩
  refine bA (j+1,t :: r) ⟨show j+1≤l.length by omega,show r.length+1≤j+1 by simp only [iw] at hk;omega,hx⟩ (show l.length - (j+1)<l.length - j by omega) ((Wk.trunc _ 900 (r.length+1) (by rfl)).trans (Wk.of ?_ ?_))
  ·simp only [go_sem,e8,aU,aA];try simp
  ·simp only [go_sem,htk];try rfl
 rw [ar (fun q=>q h2)] at hx
 simp only [go_sem,bH h1,aU,aA,hX]
 refine ⟨by omega,h1,?_⟩
 refine aa (cn) ?_
 by_cases h3:X.op=11
 ·rw [av h3] at hx
  subst hx
  simp only [go_sem,ay h2,aF h3]
  refine bD (dC.frzs [900] _ _) ?_
  simp only [go_sem,show k.length=(k.reverse).length from List.length_reverse.symm,aO,gR,List.drop_zero,Nat.zero_add]
  refine aa (ce) ?_
  simp only [go_sem]
  exact ak
 rw [ar h3] at hx
 generalize jw s X gl=R at cl hx
 obtain ⟨v,e⟩:=R
 dsimp only at cl hx
 by_cases h4:e=0
 rotate_left
 ·rw [av h4] at hx
  subst hx
  simp only [go_sem,ay h2,ab h3]
  refine aa (cl) ?_
  simp only [go_sem,aK h4]
  exact an
 rw [ar (fun q=>q h4)] at hx
 have ha:=eQ 900 48 1 k.length bp k.reverse [[.int .i64 v]] List.length_reverse
 simp only [go_sem,ay h2,ab h3]
 refine aa (cl) ?_
 simp only [go_sem,ay h4,ha,kT]
 refine ⟨by omega,?_⟩
 refine bA (j+1,v :: k) ⟨show j+1≤l.length by omega,show k.length+1≤j+1 by omega,hx⟩ (show l.length - (j+1)<l.length - j by omega) (Wk.of ?_ ?_)
 ·simp only [go_sem,e8,aU,aA];try simp
 ·simp only [go_sem];try simp [bp]
end
end Go.Proofs.YthhglklcaodfmaaGreatDoor