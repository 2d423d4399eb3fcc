import Derived.Test.YthhglklcaodfmaaGreatDoorQn
set_option linter.all false
set_option maxRecDepth 100000
set_option maxHeartbeats 40000000
namespace Go.Proofs.YthhglklcaodfmaaGreatDoor
section
open Go Go.Mw
theorem zS:(default:Ft).ps=[]:=rfl
theorem zT:(default:Ft).rs=[]:=rfl
theorem zB:∀l:List AV,aH nla l l
 | []=>trivial
 | _ :: l=>⟨.inl rfl,zB l⟩
theorem dC.nil1 (s:St) (l:List AV):dC s (.nl :: l) s (.sl 1 [] :: l):=dC.nla ⟨.inr (.inl ⟨rfl,1,rfl⟩),zB l⟩
theorem dC.nil2 (s:St) (x:AV):dC s [x,.nl] s [x,.sl 1 []]:=dC.nla ⟨.inl rfl,.inr (.inl ⟨rfl,1,rfl⟩),trivial⟩
attribute [local go_sem] bT aY b_ bO lN dB zS zT
theorem DK (b:Bool) (x y:Int):aj Tryz.prog ZX [.bool b,.int .i64 x,.int .i64 y] (.int .i64 (oy b x y)):=by
 refine ac (ic:=zc.body) ap XE rfl rfl ?_
 unfold oy
 cases b
 ·simp only [go_sem,zc]
  exact an
 by_cases h:x=y
 ·rw [ar (by decide),ar (fun q=>q h)]
  simp only [go_sem,zc,ay h]
  exact an
 ·rw [ar (by decide),av h]
  simp only [go_sem,zc,aK h]
  exact an
theorem yO (t:Int):aj Tryz.prog aam [.int .i64 t] (.bool (AH t)):=by
 refine ac (ic:=CJ.body) ap X8 rfl rfl ?_
 unfold AH
 by_cases h:t=3
 ·subst h
  simp only [go_sem,CJ]
  exact an
 ·rw [ab h,oh]
  simp only [go_sem,CJ,ab h]
  exact ak
theorem aaR (e:Int) (bl:Nat→Option Nat) (M:Nat→Prop) (w:World) (v:Value) (h:aR bl M w v (.tup [.agg [.nl,.nl],.int .i64 e])):aR bl M w v (.tup [.agg [.sl 1 [],.sl 1 []],.int .i64 e]):=by
 obtain ⟨cs,rfl,h⟩:=h
 refine ⟨cs,rfl,?_⟩
 match cs,h with
 | [c,d],⟨h1,h2,_⟩=>exact ⟨yt (bl:=bl) (M:=M) (w:=w) (v:=c) (x:=.agg [.nl,.nl]) (y:=.agg [.sl 1 [],.sl 1 []]) (.inr (.inr ⟨_,_,rfl,rfl,.inr ⟨rfl,1,rfl⟩,.inr ⟨rfl,1,rfl⟩,trivial⟩)) h1,h2,trivial⟩
theorem fR (e:Int):aj Tryz.prog Z1 [.int .i64 e] (.tup [.agg [.sl 1 [],.sl 1 []],.int .i64 e]):=by
 refine iz (r:=.tup [.agg [.nl,.nl],.int .i64 e]) ?_ (aaR e) rfl
 refine ac (ic:=GT.body) ap XI rfl rfl ?_
 simp only [go_sem,GT]
 exact ak
theorem i8 (p r:List (List AV)):aj Tryz.prog aao [.sl 1 p,.sl 1 r] (.tup [.agg [.sl 1 p,.sl 1 r],.int .i64 0]):=by
 refine ac (ic:=Ha.body) ap Ya rfl rfl ?_
 simp only [go_sem,Ha]
 exact ak
def uS (s:Sp):Prop:=∀x∈s.ts,x.ps.length≤1000000∧x.rs.length≤1000000
def wa (r:Ft×Int):AV:=.tup [.agg (jp r.1),.int .i64 r.2]
def Yy (s:Sp) (x:bv):Ft×Int:=match s.fn x.a with
  | none=>(default,11)
  | some f=>if x.op=16 then (f,0) else if s.dec x.a=false then (default,22) else (⟨[],[3]⟩,0)
theorem AM (s:Sp) (x:bv) (h:uS s):aj Tryz.prog Zo [kj s,iE x] (wa (Yy s x)):=by
 refine ac (ic:=wz.body) ap WX rfl rfl ?_
 have c1:=L4 s x.a h
 have c2:=uF s x.a
 have w1:=fR 11
 have w2:=fR 22
 have w3:=i8 [] [bp 3]
 unfold Yy wa
 generalize s.fn x.a=q at c1 ⊢
 cases q with
 | none =>
  simp only [aU,aA,aY] at c1
  simp only [go_sem,wz,aU,aA]
  refine aa (c1) ?_
  simp only [go_sem,Option.isSome_none]
  refine aa (w1) ?_
  simp only [go_sem]
  exact ak
 | some f =>
  simp only [aU,aA,aY,Option.getD_some] at c1
  by_cases h1:x.op=16
  ·simp only [go_sem,wz,aU,aA]
   refine aa (c1) ?_
   simp only [go_sem,Option.isSome_some,aF h1,av h1]
   exact ak
  cases h2:s.dec x.a
  ·rw [h2] at c2
   simp only [aU,aA,aY] at c2
   simp only [go_sem,wz,aU,aA]
   refine aa (c1) ?_
   simp only [go_sem,Option.isSome_some,ab h1,ar h1]
   refine aa (c2) ?_
   simp only [go_sem]
   refine aa (w2) ?_
   simp only [go_sem]
   exact ak
  ·rw [h2] at c2
   simp only [aU,aA,aY] at c2
   simp only [go_sem,wz,aU,aA]
   refine aa (c1) ?_
   simp only [go_sem,Option.isSome_some,ab h1,ar h1]
   refine aa (c2) ?_
   simp only [go_sem]
   refine bD ((dC.nil1 _ _).trans (dC.frzs [35] _ _)) ?_
   simp only [go_sem]
   refine aa (w3) ?_
   simp only [go_sem]
   exact ak
def YW (lo:List Int) (x:bv):Ft×Int:=if x.a≥lo.length then (default,11) else
  if x.op=32 then (⟨[],[au lo x.a.toNat]⟩,0) else if x.op=33 then (⟨[au lo x.a.toNat],[]⟩,0) else (⟨[au lo x.a.toNat],[au lo x.a.toNat]⟩,0)
theorem Mj (lo:List Int) (x:bv) (h0:0≤x.a) (h:lo.length≤9000000):aj Tryz.prog ZY [.sl 1 (lo.map bp),iE x] (wa (YW lo x)):=by
 refine ac (ic:=CC.body) ap XF rfl rfl ?_
 have w1:=fR 11
 unfold YW wa
 by_cases h1:x.a≥lo.length
 ·rw [av h1]
  simp only [go_sem,CC,bH h1]
  refine aa (w1) ?_
  simp only [go_sem]
  exact ak
 obtain ⟨n,hn⟩:∃n:Nat,x.a=(n:Int):=⟨x.a.toNat,by omega⟩
 have hn':n<lo.length:=by omega
 rw [ar h1,hn,cZ]
 have h1':¬((n:Int)≥lo.length):=by omega
 have w2:=i8 [] [bp (au lo n)]
 have w3:=i8 [bp (au lo n)] []
 have w4:=i8 [bp (au lo n)] [bp (au lo n)]
 simp only [go_sem,CC,hn,bF h1',cZ,Nat.zero_add]
 refine ⟨by omega,?_⟩
 by_cases h2:x.op=32
 ·rw [av h2]
  simp only [go_sem,aF h2]
  refine ⟨by omega,?_⟩
  refine bD ((dC.nil1 _ _).trans (dC.frzs [25] _ _)) ?_
  simp only [go_sem]
  refine aa (w2) ?_
  simp only [go_sem]
  exact ak
 by_cases h3:x.op=33
 ·rw [ar h2,av h3]
  simp only [go_sem,ab h2,aF h3]
  refine ⟨by omega,?_⟩
  refine bD ((dC.nil2 _ _).trans (dC.frzs [32] _ _)) ?_
  simp only [go_sem]
  refine aa (w3) ?_
  simp only [go_sem]
  exact ak
 ·rw [ar h2,ar h3]
  simp only [go_sem,ab h2,ab h3]
  refine ⟨by omega,?_⟩
  refine bD (dC.frzs [37,39] _ _) ?_
  simp only [go_sem]
  refine aa (w4) ?_
  simp only [go_sem]
  exact ak
def YF (s:Sp) (x:bv):Ft×Int:=match cO s.gs x.a with
  | none=>(default,11)
  | some g=>if x.op=35 then (⟨[],[g.v]⟩,0) else if g.mu=false then (default,18) else (⟨[g.v],[]⟩,0)
theorem FV (s:Sp) (x:bv):aj Tryz.prog ZM [kj s,iE x] (wa (YF s x)):=by
 refine ac (ic:=wC.body) ap Xt rfl rfl ?_
 have c1:=xH s x.a
 have w1:=fR 11
 have w2:=fR 18
 unfold YF wa
 generalize cO s.gs x.a=q at c1 ⊢
 cases q with
 | none =>
  simp only [aU,aA,lN] at c1
  simp only [go_sem,wC,aU,aA]
  refine aa (c1) ?_
  simp only [go_sem,Option.isSome_none]
  refine aa (w1) ?_
  simp only [go_sem]
  exact ak
 | some g =>
  simp only [aU,aA,lN,Option.getD_some] at c1
  have w3:=i8 [] [bp g.v]
  have w4:=i8 [bp g.v] []
  by_cases h1:x.op=35
  ·simp only [go_sem,wC,aU,aA]
   refine aa (c1) ?_
   simp only [go_sem,Option.isSome_some,aF h1,av h1]
   refine bD ((dC.nil1 _ _).trans (dC.frzs [27] _ _)) ?_
   simp only [go_sem]
   refine aa (w3) ?_
   simp only [go_sem]
   exact ak
  cases h2:g.mu
  ·simp only [go_sem,wC,aU,aA]
   refine aa (c1) ?_
   simp only [go_sem,Option.isSome_some,ab h1,ar h1,h2]
   refine aa (w2) ?_
   simp only [go_sem]
   exact ak
  ·simp only [go_sem,wC,aU,aA]
   refine aa (c1) ?_
   simp only [go_sem,Option.isSome_some,ab h1,ar h1,h2]
   refine bD ((dC.nil2 _ _).trans (dC.frzs [40] _ _)) ?_
   simp only [go_sem]
   refine aa (w4) ?_
   simp only [go_sem]
   exact ak
def tbA (s:Sp) (x:bv):Ft×Int:=match cO s.tb x.a with
  | none=>(default,11)
  | some t=>if x.op=37 then (⟨[1],[t.e]⟩,0) else if x.op=38 then (⟨[1,t.e],[]⟩,0) else if x.op=64527 then (⟨[t.e,1],[1]⟩,0) else if x.op=64529 then (⟨[1,t.e,1],[]⟩,0) else (⟨[],[1]⟩,0)
theorem FW (s:Sp) (x:bv):aj Tryz.prog ZN [kj s,iE x] (wa (tbA s x)):=by
 refine ac (ic:=Cz.body) ap Xu rfl rfl ?_
 have c1:=kX s x.a
 have w1:=fR 11
 unfold tbA wa
 generalize cO s.tb x.a=q at c1 ⊢
 cases q with
 | none =>
  simp only [aU,aA,bO] at c1
  simp only [go_sem,Cz,aU,aA]
  refine aa (c1) ?_
  simp only [go_sem,Option.isSome_none]
  refine aa (w1) ?_
  simp only [go_sem]
  exact ak
 | some t =>
  simp only [aU,aA,bO,Option.getD_some] at c1
  simp only [go_sem,Cz,aU,aA]
  refine aa (c1) ?_
  simp only [go_sem,Option.isSome_some]
  by_cases h0:x.op=37
  ·have w3:=i8 [bp 1] [bp t.e]
   rw [av h0]
   simp only [go_sem,aF h0]
   refine bD (dC.frzs [24,27] _ _) ?_
   simp only [go_sem]
   refine aa (w3) ?_
   simp only [go_sem]
   exact ak
  by_cases h1:x.op=38
  ·have w3:=i8 [bp 1,bp t.e] []
   rw [ar h0,av h1]
   simp only [go_sem,ab h0,aF h1]
   refine bD ((dC.nil2 _ _).trans (dC.frzs [35] _ _)) ?_
   simp only [go_sem]
   refine aa (w3) ?_
   simp only [go_sem]
   exact ak
  by_cases h2:x.op=64527
  ·have w3:=i8 [bp t.e,bp 1] [bp 1]
   rw [ar h0,ar h1,av h2]
   simp only [go_sem,ab h0,ab h1,aF h2]
   refine bD (dC.frzs [43,44] _ _) ?_
   simp only [go_sem]
   refine aa (w3) ?_
   simp only [go_sem]
   exact ak
  by_cases h3:x.op=64529
  ·have w3:=i8 [bp 1,bp t.e,bp 1] []
   rw [ar h0,ar h1,ar h2,av h3]
   simp only [go_sem,ab h0,ab h1,ab h2,aF h3]
   refine bD ((dC.nil2 _ _).trans (dC.frzs [52] _ _)) ?_
   simp only [go_sem]
   refine aa (w3) ?_
   simp only [go_sem]
   exact ak
  have w3:=i8 [] [bp 1]
  rw [ar h0,ar h1,ar h2,ar h3]
  simp only [go_sem,ab h0,ab h1,ab h2,ab h3]
  refine bD ((dC.nil1 _ _).trans (dC.frzs [56] _ _)) ?_
  simp only [go_sem]
  refine aa (w3) ?_
  simp only [go_sem]
  exact ak
theorem FX (s:Sp) (x:bv):aj Tryz.prog ZO [kj s,iE x] (.int .i64 (fS s x)):=by
 refine ac (ic:=kx.body) ap Xv rfl rfl ?_
 have co:=Mh x.op
 have ca:=L6 x.op
 have ta:=kX s x.a
 have tb:=kX s x.b
 have ea:=Qg s x.a
 have ma:=Ml s x.a
 have mb:=Ml s x.b
 have cd:=Me s
 have c1:=DK ((cO s.tb x.a).isSome&&(cO s.tb x.b).isSome) ((cO s.tb x.a).getD default).e ((cO s.tb x.b).getD default).e
 have c2:=DK ((cO s.el x.a).isSome&&(cO s.tb x.b).isSome) ((cO s.el x.a).getD 0) ((cO s.tb x.b).getD default).e
 unfold fS
 generalize jr (ik x.op)=wi at ca ⊢
 generalize cX x.op=im at co ⊢
 generalize oy ((cO s.tb x.a).isSome&&(cO s.tb x.b).isSome) ((cO s.tb x.a).getD default).e ((cO s.tb x.b).getD default).e=k1 at c1 ⊢
 generalize oy ((cO s.el x.a).isSome&&(cO s.tb x.b).isSome) ((cO s.el x.a).getD 0) ((cO s.tb x.b).getD default).e=k2 at c2 ⊢
 generalize hbta:(cO s.tb x.a).isSome=bta at *
 generalize hbtb:(cO s.tb x.b).isSome=btb at *
 generalize hbea:(cO s.el x.a).isSome=bea at *
 generalize hbma:(cO s.ms x.a).isSome=bma at *
 generalize hbmb:(cO s.ms x.b).isSome=bmb at *
 generalize ((cO s.tb x.a).getD default)=vta at *
 generalize ((cO s.tb x.b).getD default)=vtb at *
 generalize ((cO s.el x.a).getD 0)=vea at *
 generalize ((cO s.ms x.a).getD default)=vma at *
 generalize ((cO s.ms x.b).getD default)=vmb at *
 simp only [aU,aA,bO,b_] at ta tb ea ma mb cd
 by_cases q0:im=10
 ·rw [av q0]
  simp only [go_sem,kx,aU,aA]
  refine aa (co) ?_
  simp only [go_sem,aF q0]
  refine aa (ta) ?_
  simp only [go_sem]
  refine aa (tb) ?_
  cases bta
  ·simp only [go_sem]
   refine aa (c1) ?_
   simp only [go_sem]
   exact ak
  ·simp only [go_sem]
   refine aa (c1) ?_
   simp only [go_sem]
   exact ak
 by_cases q1:im=11
 ·rw [ar q0,av q1]
  simp only [go_sem,kx,aU,aA]
  refine aa (co) ?_
  simp only [go_sem,ab q0,aF q1]
  refine aa (ea) ?_
  simp only [go_sem]
  refine aa (tb) ?_
  cases bea
  ·simp only [go_sem]
   refine aa (c2) ?_
   simp only [go_sem]
   exact ak
  ·simp only [go_sem]
   refine aa (c2) ?_
   simp only [go_sem]
   exact ak
 by_cases q2:im=12
 ·rw [ar q0,ar q1,av q2]
  simp only [go_sem,kx,aU,aA]
  refine aa (co) ?_
  simp only [go_sem,ab q0,ab q1,aF q2]
  refine aa (ea) ?_
  cases bea
  ·simp only [go_sem]
   exact aN [] (by simp only [go_sem,iU]) (by first | rfl | simp [go_sem,bE])
  ·simp only [go_sem]
   exact aN [] (by simp only [go_sem,iU]) (by first | rfl | simp [go_sem,bE])
 by_cases q3:im=16
 ·rw [ar q0,ar q1,ar q2,av q3]
  simp only [go_sem,kx,aU,aA]
  refine aa (co) ?_
  simp only [go_sem,ab q0,ab q1,ab q2,aF q3]
  refine bP cd (by simp [go_sem]) rfl ?_
  cases hq:decide (x.a<s.ds)
  ·simp only [go_sem,hq]
   exact aN [] (by simp only [go_sem,iU]) (by first | rfl | simp [go_sem,bE])
  ·simp only [go_sem,hq]
   exact aN [] (by simp only [go_sem,iU]) (by first | rfl | simp [go_sem,bE])
 by_cases q4:im=15
 ·rw [ar q0,ar q1,ar q2,ar q3,av q4]
  simp only [go_sem,kx,aU,aA]
  refine aa (co) ?_
  simp only [go_sem,ab q0,ab q1,ab q2,ab q3,aF q4]
  refine aa (mb) ?_
  cases bmb
  ·simp only [go_sem]
   exact aN [] (by simp only [go_sem,iU,gp]) (by first | rfl | simp [go_sem,bE])
  ·simp only [go_sem]
   refine bP cd (by simp [go_sem]) rfl ?_
   cases hq:decide (x.a<s.ds)
   ·simp only [go_sem,hq]
    exact aN [] (by simp only [go_sem,iU,fV,iR,fA]) (by first | rfl | simp [go_sem,bE])
   ·simp only [go_sem,hq]
    exact aN [] (by simp only [go_sem,iU,fV,dl]) (by first | rfl | simp [go_sem,bE])
 by_cases q5:im=14
 ·rw [ar q0,ar q1,ar q2,ar q3,ar q4,av q5]
  simp only [go_sem,kx,aU,aA]
  refine aa (co) ?_
  simp only [go_sem,ab q0,ab q1,ab q2,ab q3,ab q4,aF q5]
  refine aa (ma) ?_
  cases bma
  ·simp only [go_sem]
   exact ak
  ·simp only [go_sem]
   refine aa (mb) ?_
   cases bmb
   ·simp only [go_sem]
    exact aN [] (by simp only [go_sem,iU]) (by first | rfl | simp [go_sem,bE])
   ·simp only [go_sem]
    exact aN [] (by simp only [go_sem,iU]) (by first | rfl | simp [go_sem,bE])
 by_cases q6:im=13
 ·rw [ar q0,ar q1,ar q2,ar q3,ar q4,ar q5,av q6]
  simp only [go_sem,kx,aU,aA]
  refine aa (co) ?_
  simp only [go_sem,ab q0,ab q1,ab q2,ab q3,ab q4,ab q5,aF q6]
  refine aa (mb) ?_
  cases bmb
  ·simp only [go_sem]
   exact aN [] (by simp only [go_sem,iU]) (by first | rfl | simp [go_sem,bE])
  ·simp only [go_sem]
   exact aN [] (by simp only [go_sem,iU]) (by first | rfl | simp [go_sem,bE])
 by_cases q7:im=17
 ·rw [ar q0,ar q1,ar q2,ar q3,ar q4,ar q5,ar q6,av q7]
  simp only [go_sem,kx,aU,aA]
  refine aa (co) ?_
  simp only [go_sem,ab q0,ab q1,ab q2,ab q3,ab q4,ab q5,ab q6,aF q7]
  refine aa (mb) ?_
  cases bmb
  ·simp only [go_sem]
   refine aa (mb) ?_
   simp only [go_sem]
   exact aN [] (by simp only [go_sem,iU,false_and,fA]) (by first | rfl | simp [go_sem,bE])
  ·simp only [go_sem]
   refine bP ca (by simp [go_sem]) rfl ?_
   cases hq:decide (x.a>wi)
   ·have hq':¬x.a>wi:=of_decide_eq_false hq
    simp only [go_sem,hq]
    refine aa (mb) ?_
    simp only [go_sem]
    exact aN [] (by simp only [go_sem,iU,true_and,ar hq']) (by first | rfl | simp [go_sem,bE])
   ·have hq':x.a>wi:=of_decide_eq_true hq
    simp only [go_sem,hq]
    exact aN [] (by simp only [go_sem,iU,true_and,av hq']) (by first | rfl | simp [go_sem,bE])
 rw [ar q0,ar q1,ar q2,ar q3,ar q4,ar q5,ar q6,ar q7]
 simp only [go_sem,kx,aU,aA]
 refine aa (co) ?_
 simp only [go_sem,ab q0,ab q1,ab q2,ab q3,ab q4,ab q5,ab q6,ab q7]
 exact ak
end
section
open Go Go.Mw
def YN (s:Sp) (x:bv):Ft×Int:=match s.ty x.a,cO s.tb x.b with
  | some f,some t=>if t.e≠3 then (default,12) else (⟨f.ps++[1],f.rs⟩,0)
  | _,_=>(default,11)
attribute [local go_sem] bT aY b_ bO lN dB zS zT
theorem AN (s:Sp) (x:bv) (h:uS s):aj Tryz.prog Zp [kj s,iE x] (wa (YN s x)):=by
 refine ac (ic:=dQ 41 Gs.body) ap WY rfl rfl ?_
 have c1:=P8 s x.a h
 have c2:=kX s x.b
 have w1:=fR 11
 have w2:=fR 12
 have hb:=Qu h x.a
 unfold YN wa
 generalize s.ty x.a=q at c1 hb ⊢
 generalize cO s.tb x.b=r at c2 ⊢
 simp only [aU,aA,bO] at c1 c2
 simp only [go_sem,Gs,aU,aA]
 refine fD c1 [905] (fun p hp=>by cases hp) ?_ (fun p hp=>by cases hp) ?_
 ·intro p hp
  simp only [du] at hp
  subst hp
  exact .inr ⟨by simp,.inl (show 905<1000 by decide),.inr (by rfl)⟩
 simp only [go_sem]
 refine aa (c2) ?_
 cases q with
 | none =>
  simp only [go_sem,Option.isSome_none]
  refine aa (w1) ?_
  simp only [go_sem]
  exact ak
 | some f =>
  simp only [Option.getD_some] at hb
  cases r with
  | none =>
   simp only [go_sem,Option.isSome_none,Option.isSome_some]
   refine aa (w1) ?_
   simp only [go_sem]
   exact ak
  | some t =>
   simp only [Option.getD_some]
   by_cases q1:t.e=3
   ·rw [ar (fun z=>z q1)]
    have w3:=i8 ((f.ps++[1]).map bp) (f.rs.map bp)
    simp only [go_sem,Option.isSome_some,Option.getD_some,ay q1]
    have ha:=eQ 905 48 1 f.ps.length bp f.ps [[.int .i64 1]] rfl
    simp only [go_sem,ha,kT]
    repeat' (first | refine ⟨by omega,?_⟩ | refine And.intro ?_ ?_)
    all_goals
     refine bD (dC.frzs [905] _ _) ?_
     have et:(f.ps.map bp++[[AV.int .i64 1]]).take (f.ps.length+1)=(f.ps++[1]).map bp:=by
      rw [iq (by simp)];simp [bp]
     simp only [go_sem,aO,List.drop_zero,Nat.zero_add,ee,iw,fZ,et]
     refine aa (w3) ?_
     simp only [go_sem]
     exact ak
   ·rw [av q1]
    simp only [go_sem,Option.isSome_some,Option.getD_some,aK q1]
    refine aa (w2) ?_
    simp only [go_sem]
    exact ak
end
section
open Go Go.Mw
theorem AW (s:Sp) (lo:List Int) (x:bv):fj s lo x=if cX x.op=4 then Yy s x else if cX x.op=5 then YN s x else
 if cX x.op=6 then (⟨[au x.ty 0,au x.ty 0,1],[au x.ty 0]⟩,0) else if cX x.op=7 then YW lo x else if cX x.op=8 then YF s x else if cX x.op=9 then tbA s x else
 if cX x.op=20 then (⟨[],[x.a]⟩,0) else if fS s x≠0 then (default,fS s x) else (⟨(mY x.op).1,(mY x.op).2.1⟩,0):=rfl
theorem afV (p q:List Int):xI p q = .agg [.sl 1 (p.map bp),.sl 1 (q.map bp)]:=rfl
attribute [local go_sem] bT aY b_ bO lN dB zS zT
theorem Mk (s:Sp) (lo:List Int) (x:bv) (h:uS s) (hx:DQ x) (ha:0≤x.a) (hl:lo.length≤9000000) (ht:cX x.op=6→0<x.ty.length):aj Tryz.prog Z0 [kj s,.sl 1 (lo.map bp),iE x] (wa (fj s lo x)):=by
 refine ac (ic:=lI.body) ap XH rfl rfl ?_
 have co:=Mh x.op
 have c4:=AM s x h
 have c5:=AN s x h
 have c7:=Mj lo x ha hl
 have c8:=FV s x
 have c9:=FW s x
 have cT:=FX s x
 have w6:=i8 [bp (au x.ty 0),bp (au x.ty 0),bp 1] [bp (au x.ty 0)]
 have w20:=i8 [] [bp x.a]
 have cs:=VC x.op
 rw [AW]
 generalize cX x.op=im at co ht ⊢
 generalize Yy s x=y4 at c4 ⊢
 generalize YN s x=y5 at c5 ⊢
 generalize YW lo x=y7 at c7 ⊢
 generalize YF s x=y8 at c8 ⊢
 generalize tbA s x=y9 at c9 ⊢
 generalize fS s x=yT at cT ⊢
 have wT:=fR yT
 simp only [wa,aU,aA,dB,aY,afV] at c4 c5 c7 c8 c9 cT cs
 by_cases q4:im=4
 ·rw [av q4]
  simp only [go_sem,lI,wa,aU,aA]
  refine aa (co) ?_
  simp only [go_sem,aF q4]
  refine aa (c4) ?_
  simp only [go_sem]
  exact ak
 by_cases q5:im=5
 ·rw [ar q4,av q5]
  simp only [go_sem,lI,wa,aU,aA]
  refine aa (co) ?_
  simp only [go_sem,ab q4,aF q5]
  refine aa (c5) ?_
  simp only [go_sem]
  exact ak
 by_cases q6:im=6
 ·rw [ar q4,ar q5,av q6]
  have ht':=ht q6
  simp only [go_sem,lI,wa,aU,aA]
  refine aa (co) ?_
  simp only [go_sem,ab q4,ab q5,aF q6]
  refine ⟨by omega,by omega,by omega,by omega,by omega,by omega,?_⟩
  refine bD (dC.frzs [38,43] _ _) ?_
  simp only [go_sem]
  refine aa (w6) ?_
  simp only [go_sem]
  exact ak
 by_cases q7:im=7
 ·rw [ar q4,ar q5,ar q6,av q7]
  simp only [go_sem,lI,wa,aU,aA]
  refine aa (co) ?_
  simp only [go_sem,ab q4,ab q5,ab q6,aF q7]
  refine aa (c7) ?_
  simp only [go_sem]
  exact ak
 by_cases q8:im=8
 ·rw [ar q4,ar q5,ar q6,ar q7,av q8]
  simp only [go_sem,lI,wa,aU,aA]
  refine aa (co) ?_
  simp only [go_sem,ab q4,ab q5,ab q6,ab q7,aF q8]
  refine aa (c8) ?_
  simp only [go_sem]
  exact ak
 by_cases q9:im=9
 ·rw [ar q4,ar q5,ar q6,ar q7,ar q8,av q9]
  simp only [go_sem,lI,wa,aU,aA]
  refine aa (co) ?_
  simp only [go_sem,ab q4,ab q5,ab q6,ab q7,ab q8,aF q9]
  refine aa (c9) ?_
  simp only [go_sem]
  exact ak
 by_cases q20:im=20
 ·rw [ar q4,ar q5,ar q6,ar q7,ar q8,ar q9,av q20]
  simp only [go_sem,lI,wa,aU,aA]
  refine aa (co) ?_
  simp only [go_sem,ab q4,ab q5,ab q6,ab q7,ab q8,ab q9,aF q20]
  refine bD ((dC.nil1 _ _).trans (dC.frzs [72] _ _)) ?_
  simp only [go_sem]
  refine aa (w20) ?_
  simp only [go_sem]
  exact ak
 rw [ar q4,ar q5,ar q6,ar q7,ar q8,ar q9,ar q20]
 simp only [go_sem,lI,wa,aU,aA]
 refine aa (co) ?_
 simp only [go_sem,ab q4,ab q5,ab q6,ab q7,ab q8,ab q9,ab q20]
 refine aa (cT) ?_
 by_cases e:yT=0
 ·rw [ar (fun z=>z e)]
  simp only [go_sem,ay e]
  refine aa (cs) ?_
  simp only [go_sem]
  exact ak
 ·rw [av e]
  simp only [go_sem,aK e]
  refine aa (wT) ?_
  simp only [go_sem]
  exact ak
end
section
open Go Go.Mw
def Wq (f:FuncId) (rest:List AV) (m:Md) (s:Sp) (F:Fa) (r:AV):Prop:=bu Tryz.prog f (.mp 1000 17 0 0 :: rest) [(1000,dF m s F)] DM (fun r' σ'=>r'=r∧σ'=[(1000,dF m s F)])
def lj:ah:=⟨73,1,[[.mp 1000 17 0 0]],true⟩
theorem Ad:lj =⟨73,1,[[.mp 1000 17 0 0]],true⟩:=rfl
theorem gr {f:FuncId} {rest:List AV} {m:Md} {s:Sp} {F:Fa} {r:AV} (h:Wq f rest m s F r) {args:List AV} {d:Option Nat} {w:St} {K:St→Prop} (ha:args = .mp 1000 17 0 0 :: rest) (h1:ae w.heap 1000=some (dF m s F))
  (hk:K ((St.mk w.env ((1000,dF m s F) :: w.heap)).put d r)):ci Tryz.prog f args d w K:=by
 subst ha
 refine fD h [] (fun p hp=>?_) (fun p hp=>?_) (fun p hp=>?_) hk
 ·rw [du.1 hp];exact h1
 ·rw [du.1 hp];exact .inl ⟨⟨show 1000≤1000 by decide,show 1000<2000 by decide⟩,rfl⟩
 ·rw [du.1 hp];rfl
attribute [local go_sem] bT ql bM aU aA aY bO Ad lc e_
theorem Dk (m:Md) (s:Sp) (F:Fa) (k i:Int):Wq ae9 [.int .i64 k,.int .i64 i] m s F (.bool (m0 s k i)):=by
 refine aB (ic:=ze.body) ap adc rfl rfl ?_
 have c0:=uG s
 have c1:=FT s
 have c2:=Qd s
 have c3:=B8 s
 simp only [aU,aA] at c0 c1 c2 c3
 have hd:∀n:Int,(decide (0≤i)&&decide (i<n))=(decide (i≥0)&&decide (i<n)):=fun _=>rfl
 unfold m0
 by_cases h0:k=0
 ·rw [av h0,hd]
  simp only [go_sem,ze,aF h0]
  refine aa (c0) ?_
  cases h:decide (i≥0)
  ·simp only [go_sem,h]
   exact done [] _ [(1000,dF m s F)] (by simp only [go_sem,h,gp]) (by simp only [go_sem]) rfl ⟨rfl,rfl⟩
  ·simp only [go_sem,h]
   exact done [] _ [(1000,dF m s F)] (by simp only [go_sem,h,fV]) (by simp only [go_sem]) rfl ⟨rfl,rfl⟩
 by_cases h1:k=1
 ·rw [ar h0,av h1,hd]
  simp only [go_sem,ze,ab h0,aF h1]
  refine aa (c1) ?_
  cases h:decide (i≥0)
  ·simp only [go_sem,h]
   exact done [] _ [(1000,dF m s F)] (by simp only [go_sem,h,gp]) (by simp only [go_sem]) rfl ⟨rfl,rfl⟩
  ·simp only [go_sem,h]
   exact done [] _ [(1000,dF m s F)] (by simp only [go_sem,h,fV]) (by simp only [go_sem]) rfl ⟨rfl,rfl⟩
 by_cases h2:k=2
 ·rw [ar h0,ar h1,av h2,hd]
  simp only [go_sem,ze,ab h0,ab h1,aF h2]
  refine aa (c2) ?_
  cases h:decide (i≥0)
  ·simp only [go_sem,h]
   exact done [] _ [(1000,dF m s F)] (by simp only [go_sem,h,gp]) (by simp only [go_sem]) rfl ⟨rfl,rfl⟩
  ·simp only [go_sem,h]
   exact done [] _ [(1000,dF m s F)] (by simp only [go_sem,h,fV]) (by simp only [go_sem]) rfl ⟨rfl,rfl⟩
 by_cases h3:k=3
 ·rw [ar h0,ar h1,ar h2,av h3,hd]
  simp only [go_sem,ze,ab h0,ab h1,ab h2,aF h3]
  refine aa (c3) ?_
  cases h:decide (i≥0)
  ·simp only [go_sem,h]
   exact done [] _ [(1000,dF m s F)] (by simp only [go_sem,h,gp]) (by simp only [go_sem]) rfl ⟨rfl,rfl⟩
  ·simp only [go_sem,h]
   exact done [] _ [(1000,dF m s F)] (by simp only [go_sem,h,fV]) (by simp only [go_sem]) rfl ⟨rfl,rfl⟩
 rw [ar h0,ar h1,ar h2,ar h3,hd]
 by_cases g:i≥0
 ·simp only [go_sem,ze,ab h0,ab h1,ab h2,ab h3,bH g]
  exact done [] _ [(1000,dF m s F)] (by simp only [go_sem,bH g,fV]) (by simp only [go_sem]) rfl ⟨rfl,rfl⟩
 ·simp only [go_sem,ze,ab h0,ab h1,ab h2,ab h3,bF g]
  exact done [] _ [(1000,dF m s F)] (by simp only [go_sem,bF g,gp]) (by simp only [go_sem]) rfl ⟨rfl,rfl⟩
theorem Dl (m:Md) (s:Sp) (F:Fa) (i:Int) (h:uS s):Wq ae_ [.int .i64 i] m s F (.tup [.int .i64 (qT s i).1,.int .i64 (qT s i).2]):=by
 refine aB (ic:=M4.body) ap ade rfl rfl ?_
 have c0:=yM s i h
 simp only [aU,aA,aY] at c0
 unfold qT
 cases hq:(s.ty i).isSome
 ·rw [hq] at c0
  rw [ar (by decide)]
  simp only [go_sem,M4]
  refine aa (c0) ?_
  simp only [go_sem]
  exact aG [] _ [(1000,dF m s F)] ⟨rfl,rfl⟩
 ·rw [hq] at c0
  rw [av rfl]
  simp only [go_sem,M4]
  refine aa (c0) ?_
  simp only [go_sem]
  exact aG [] _ [(1000,dF m s F)] ⟨rfl,rfl⟩
theorem nD (m:Md) (s:Sp) (F:Fa) (l:List bv) (want:Int) (hl:l.length≤1000000):Wq aeD [.sl 9 (l.map cD),.int .i64 want] m s F (.tup [.int .i64 (dX s l want).1,.int .i64 (dX s l want).2]):=by
 refine aB (ic:=RO.body) ap acu rfl rfl ?_
 have c0:=B7 s 3
 have c1:=Ma s l want (oi 3 s.im) hl
 simp only [aU,aA] at c0 c1
 unfold dX
 generalize kG s want (oi 3 s.im) 0 l []=R at c1 ⊢
 simp only [go_sem,RO]
 refine bP c0 (by simp [go_sem]) rfl ?_
 simp only [go_sem]
 refine aa (c1) ?_
 simp only [go_sem]
 exact aG [] _ [(1000,dF m s F)] ⟨rfl,rfl⟩
def eC (i:Nat):List (Nat×ah):=[(1001,lj)]
def Gk (i:Nat):List AV:=[.int .i64 i,.mp 1001 1 0 0]
theorem Yt:Wl eC:=⟨(fun i p hp=>by rw [du.1 hp];rfl),(fun i p hp=>by rw [du.1 hp];exact ⟨by decide,.inl ⟨show 1000≤1001 by decide,show 1001<2000 by decide⟩⟩),(fun i j p hp=>by rw [du.1 hp];rfl)⟩
theorem jz {α β:Type} [Inhabited α] [Inhabited β] (f:α→β) {l:List α} {i:Nat} (h:i<l.length):au (l.map f) i=f (au l i):=by
 rw [aX (by simpa using h),aX h,List.getElem_map]
theorem IP (m:Md) (s:Sp) (h:uS s) (hb:m.ims.length≤1000000):sS aeJ Gk m s eC (m.ims.map (AZ s)):=by
 intro i hi _ F hF
 rw [bT] at hi
 rw [jz _ hi]
 refine aB (ic:=MZ.body) ap acF rfl rfl ?_
 generalize hX:au m.ims i=X
 have kt:=Dl m s F X.f h
 have hi2:(i:Int)<(m.ims.length:Int):=by omega
 unfold AZ
 by_cases h0:X.k=0
 ·rw [ar (fun q=>q h0)]
  generalize qT s X.f=R at kt ⊢
  simp only [go_sem,MZ,Gk,eC,cZ,hX,cw,ay h0]
  refine ⟨by omega,hi2,by omega,hi2,?_⟩
  refine gr kt (by simp only [go_sem]) (by simp only [go_sem]) ?_
  simp only [go_sem]
  exact aG [] _ [(1000,dF m s F),(1001,lj)] ⟨rfl,rfl⟩
 ·rw [av h0]
  simp only [go_sem,MZ,Gk,eC,cZ,hX,cw,aK h0]
  refine ⟨by omega,hi2,?_⟩
  exact aG [] _ [(1000,dF m s F),(1001,lj)] ⟨rfl,rfl⟩
theorem IQ (m:Md) (s:Sp) (h:uS s) (hb:m.fs.length≤1000000):sS aeK Gk m s eC (m.fs.map fun f=>qT s f.t):=by
 intro i hi _ F hF
 rw [bT] at hi
 rw [jz _ hi]
 refine aB (ic:=RU.body) ap acG rfl rfl ?_
 generalize hX:au m.fs i=X
 have kt:=Dl m s F X.t h
 have hi2:(i:Int)<(m.fs.length:Int):=by omega
 generalize qT s X.t=R at kt ⊢
 simp only [go_sem,RU,Gk,eC,cZ,hX,df]
 refine ⟨by omega,hi2,?_⟩
 refine gr kt (by simp only [go_sem]) (by simp only [go_sem]) ?_
 simp only [go_sem]
 exact aG [] _ [(1000,dF m s F),(1001,lj)] ⟨rfl,rfl⟩
end
section
open Go Go.Mw
def dd:Prop:=∀S l,S.u.length<1000000→S.all.length<1000000→l.length<1000000→zi S l
def CP (b:Bk):List AV:=[.int .i64 b.k,.sl 1 (b.t.ps.map bp),.sl 1 (b.t.rs.map bp),.bool b.ot,.bool b.lv]
theorem js (b:Bk):CP b=[.int .i64 b.k,.sl 1 (b.t.ps.map bp),.sl 1 (b.t.rs.map bp),.bool b.ot,.bool b.lv]:=rfl
def Wd (n:Nat) (rs:List Int) (lv:Bool) (br:Int):ah:=⟨214,5,[[.mp 1001 3 0 0,.ms 2000 5 0 n,.sl 1 (rs.map bp),.bool lv,.int .i64 br]],true⟩
theorem th (n:Nat) (rs:List Int) (lv:Bool) (br:Int):Wd n rs lv br =⟨214,5,[[.mp 1001 3 0 0,.ms 2000 5 0 n,.sl 1 (rs.map bp),.bool lv,.int .i64 br]],true⟩:=rfl
def QQ (l:List Bk):ah:=⟨216,5,l.map CP,false⟩
theorem qg (l:List Bk):QQ l =⟨216,5,l.map CP,false⟩:=rfl
def dv (C:Ct):List (Nat×ah):=[(1000,Wd C.bs.length C.rs C.lv C.br),(2000,QQ C.bs),(1001,A9 C.s.all.length (bR (C.s.t :: C.s.u)).length C.s.ov),(2001,DP C.s.all),(2002,DO (bR (C.s.t :: C.s.u)))]
theorem tg (C:Ct):dv C=[(1000,Wd C.bs.length C.rs C.lv C.br),(2000,QQ C.bs),(1001,A9 C.s.all.length (bR (C.s.t :: C.s.u)).length C.s.ov),(2001,DP C.s.all),(2002,DO (bR (C.s.t :: C.s.u)))]:=rfl
def Yj (C:Ct):AV:=.ip [za C.s,.sl 5 (C.bs.map CP),.sl 1 (C.rs.map bp),.bool C.lv,.int .i64 C.br]
theorem qh (C:Ct):Yj C = .ip [za C.s,.sl 5 (C.bs.map CP),.sl 1 (C.rs.map bp),.bool C.lv,.int .i64 C.br]:=rfl
def xN (f:FuncId) (rest:List AV) (C:Ct) (r:AV) (C':Ct):Prop:=bu Tryz.prog f (.mp 1000 5 0 0 :: rest) (dv C) DM (fun r' σ'=>r'=r∧σ'=dv C')
attribute [local go_sem] bT nZ n7 n8 n6 jF tg th qg qh js
theorem CW {f:FuncId} {rest:List AV} {C:Ct} {r:AV} (h:aj Tryz.prog f (Yj C :: rest) r) (hf:iX r=true) (hr:∀x∈rest,aI x=[]):xN f rest C r C:=by
 have w1:=dC.frzs [2000,2001,2002] ⟨[],dv C⟩ (.mp 1000 5 0 0 :: rest)
 rw [cF,lr _ _ rest hr,show kJ [2000,2001,2002] ⟨[],dv C⟩ (.mp 1000 5 0 0) = .mp 1000 5 0 0 from rfl] at w1
 have w2:=dC.unrec (frzs [2000,2001,2002] ⟨[],dv C⟩) (.mp 1000 5 0 0 :: rest) 1001 (t:=228) (st:=3) (r:=[.sl 1 (C.s.all.map bp),.sl 2 ((bR (C.s.t :: C.s.u)).map xy),.bool C.s.ov]) (by simp only [go_sem,gR,aO,List.drop_zero,Nat.zero_add]) (by
  intro x hx
  simp only [bc,List.not_mem_nil,or_false] at hx
  rcases hx with rfl | rfl | rfl<;>exact ⟨rfl,rfl⟩)
 have w3:=dC.frzs [1001] ⟨(frzs [2000,2001,2002] ⟨[],dv C⟩).env,(1001,⟨228,3,[[.sl 1 (C.s.all.map bp),.sl 2 ((bR (C.s.t :: C.s.u)).map xy),.bool C.s.ov]],false⟩) :: (frzs [2000,2001,2002] ⟨[],dv C⟩).heap⟩ (.mp 1000 5 0 0 :: rest)
 rw [cF,lr _ _ rest hr] at w3
 have w4:=dC.unrec (frzs [1001] ⟨(frzs [2000,2001,2002] ⟨[],dv C⟩).env,(1001,⟨228,3,[[.sl 1 (C.s.all.map bp),.sl 2 ((bR (C.s.t :: C.s.u)).map xy),.bool C.s.ov]],false⟩) :: (frzs [2000,2001,2002] ⟨[],dv C⟩).heap⟩) (.mp 1000 5 0 0 :: rest) 1000 (t:=214) (st:=5) (r:=[za C.s,.sl 5 (C.bs.map CP),.sl 1 (C.rs.map bp),.bool C.lv,.int .i64 C.br]) (by simp only [go_sem,gR,aO,List.drop_zero,Nat.zero_add]) (by
  intro x hx
  simp only [bc,List.not_mem_nil,or_false] at hx
  rcases hx with rfl | rfl | rfl | rfl | rfl<;>exact ⟨rfl,rfl⟩)
 have w5:=(((w1.trans w2).trans w3).trans w4).trans (dC.frzs [1000] _ _)
 rw [cF,lr _ _ rest hr] at w5
 refine bu.lend (args':=Yj C :: rest) h hf w5 ?_ ?_ _
 ·intro x hx
  rcases bc.1 hx with rfl | hx
  ·rfl
  ·exact hr x hx
 ·intro p hp i hi
  simp only [dv,bc,List.not_mem_nil,or_false] at hp
  rcases hp with rfl | rfl | rfl | rfl | rfl
  ·simp only [Wd,dt,dl,m8,List.flatMap_nil,dO,er,jJ,dL,du,e_,bc,List.not_mem_nil,or_false] at hi
   rcases hi with rfl | rfl<;>rfl
  ·cases hi
  ·simp only [A9,dt,dl,m8,List.flatMap_nil,dO,er,jJ,dL,du,e_,bc,List.not_mem_nil,or_false] at hi
   rcases hi with rfl | rfl<;>rfl
  ·cases hi
  ·cases hi
theorem aw {f:FuncId} {rest:List AV} {C C':Ct} {r:AV} (h:xN f rest C r C') {args:List AV} {d:Option Nat} {s:St} {K:St→Prop} (ha:args = .mp 1000 5 0 0 :: rest) (h1:ae s.heap 1000=some (Wd C.bs.length C.rs C.lv C.br)) (h2:ae s.heap 2000=some (QQ C.bs)) (h3:ae s.heap 1001=some (A9 C.s.all.length (bR (C.s.t :: C.s.u)).length C.s.ov)) (h4:ae s.heap 2001=some (DP C.s.all)) (h5:ae s.heap 2002=some (DO (bR (C.s.t :: C.s.u))))
  (hk:K ((St.mk (fP [2000,2001,2002] s.env) (dv C'++fQ [2000,2001,2002] s.heap)).put d r)):ci Tryz.prog f args d s K:=by
 subst ha
 refine fD h [2000,2001,2002] (fun p hp=>?_) (fun p hp=>?_) (fun p hp=>?_) hk
 ·simp only [dv,bc,List.not_mem_nil,or_false] at hp
  rcases hp with rfl | rfl | rfl | rfl | rfl
  ·exact h1
  ·exact h2
  ·exact h3
  ·exact h4
  ·exact h5
 ·simp only [dv,bc,List.not_mem_nil,or_false] at hp
  rcases hp with rfl | rfl | rfl | rfl | rfl
  ·exact .inl ⟨⟨show 1000≤1000 by decide,show 1000<2000 by decide⟩,rfl⟩
  ·exact .inr ⟨by simp,.inr (show 2000≤2000 by decide),.inl rfl⟩
  ·exact .inl ⟨⟨show 1000≤1001 by decide,show 1001<2000 by decide⟩,rfl⟩
  ·exact .inr ⟨by simp,.inr (show 2000≤2001 by decide),.inl rfl⟩
  ·exact .inr ⟨by simp,.inr (show 2000≤2002 by decide),.inl rfl⟩
 ·simp only [dv,bc,List.not_mem_nil,or_false] at hp
  rcases hp with rfl | rfl | rfl | rfl | rfl<;>rfl
theorem DL (C:Ct):aj Tryz.prog aaB [Yj C] (.bool true):=by
 refine ac (ic:=Se.body) ap adl rfl rfl ?_
 simp only [go_sem,Se]
 exact ak
theorem Qh (C:Ct):aj Tryz.prog aaw [Yj C] (.int .i64 C.br):=by
 refine ac (ic:=R4.body) ap ac3 rfl rfl ?_
 have c:=DL C
 simp only [qh,jF] at c
 simp only [go_sem,R4]
 refine aa (c) ?_
 simp only [go_sem]
 exact ak
theorem O3 (C:Ct):xN aaB [] C (.bool true) C:=CW (DL C) rfl (fun x hx=>by cases hx)
theorem bZ (C:Ct):xN aaw [] C (.int .i64 C.br) C:=CW (Qh C) rfl (fun x hx=>by cases hx)
theorem cL (C:Ct):xN aeZ [] C (.mp 1001 3 0 0) C:=by
 refine aB (ic:=R0.body) ap ac0 rfl rfl ?_
 simp only [go_sem,R0]
 refine aw (O3 C) (by simp only [go_sem]) (by simp only [go_sem]) (by simp only [go_sem]) (by simp only [go_sem]) (by simp only [go_sem]) (by simp only [go_sem]) ?_
 simp only [go_sem]
 exact aG [] _ (dv C) ⟨rfl,rfl⟩
theorem jR (C:Ct) (e:Int):xN ae1 [.int .i64 e] C (.int .i64 e) (C.broke e).2:=by
 refine aB (ic:=R3.body) ap ac2 rfl rfl ?_
 simp only [go_sem,R3]
 exact done [] _ (dv (C.broke e).2) (by simp only [go_sem]) (by simp only [go_sem,Ct.broke]) rfl ⟨rfl,rfl⟩
theorem acj {a b id:Nat} (h1:id≠a) (h2:id≠b):bw [(a,b)] id=id:=by simp [bw,ou,h1,h2]
theorem NR (C:Ct) (b:Bk):C.begin b =⟨C.s.opn.push b.t.ps,C.bs++[b],C.rs,b.lv,C.br⟩:=rfl
theorem sE (C:Ct) (b:Bk) (hu:C.s.u.length<900000) (hl:C.s.all.length<900000) (hb:C.bs.length<900000) (hp:b.t.ps.length<900000):xN ae0 [.agg (CP b)] C (.tup []) (C.begin b):=by
 refine aB (ic:=cA 17 R1.body) ap ac1 (by rfl) rfl ?_
 have k1:=Kg C.s (by omega) (by omega)
 have k2:=mE C.s.opn b.t.ps (show C.s.opn.u.length<1000000 by show C.s.u.length+1<1000000;omega) (by rw [yE];omega) (by omega)
 simp only [go_sem,R1,cA]
 refine aD (k1) (by simp only [go_sem]) (by simp only [go_sem]) (by simp only [go_sem]) (by simp only [go_sem]) ?_
 simp only [go_sem]
 refine aD (k2) (by simp only [go_sem]) (by simp only [go_sem]) (by simp only [go_sem]) (by simp only [go_sem]) ?_
 simp only [go_sem]
 refine dc _ _ (fb (id:=2000) (len:=C.bs.length) (rows:=C.bs.map CP) (ys:=[CP b]) (by rfl) (by rfl) (by rfl) (by rw [bT]) (by simp) (by omega) (by decide)) (by simp only [go_sem]) (by rfl) (by simp only [go_sem];rfl) (by simp only [go_sem]) ?_
 simp only [go_sem]
 exact gc [] _ (dv (C.begin b)) (by simp only [go_sem]) (by simp only [go_sem,NR,List.map_append,ee,iw,fZ,cF,List.map_nil]) rfl ⟨rfl,rfl⟩
theorem Ke (C:Ct) (h0:C.bs≠[]) (hb:C.bs.length<900000):xN afl [] C (.agg (CP C.top)) { C with bs:=C.bs.dropLast }:=by
 refine aB (ic:=Sm.body) ap adu rfl rfl ?_
 have hpos:0<C.bs.length:=List.length_pos_iff.2 h0
 have hw:IntKind.i64.wrap ((C.bs.length:Int) - 1)=((C.bs.length - 1:Nat):Int):=by rw [wi (by omega) (by omega)];omega
 have hc:=ID 20 5 (C.bs.length - 1) 216 (List.replicate (C.bs.length - 1) [.int .i64 0,.nl,.nl,.bool false,.bool false]) (C.bs.map CP) (List.length_replicate) (by rw [bT];omega)
 have hl:C.bs.dropLast.length=C.bs.length - 1:=List.length_dropLast
 have ht:(C.bs.map CP).take (C.bs.length - 1)=C.bs.dropLast.map CP:=by rw [← List.map_take,List.dropLast_eq_take]
 rw [ht] at hc
 have en:au C.bs (C.bs.length - 1)=C.top:=rfl
 have hr:=LX 5 C.bs.length 216 CP C.bs rfl
 simp only [go_sem,Sm,hw,cZ,Nat.zero_add,hl,en,hr,hc]
 refine ⟨⟨by omega,by omega⟩,by omega,⟨by omega,by omega,by omega⟩,?_⟩
 exact k_ (Wk.ren _ [(20,2000)] (fun id h1 h2=>acj (by omega) (by omega))) [] _ [(1000,Wd (C.bs.length - 1) C.rs C.lv C.br),(2000,QQ C.bs.dropLast),(1001,A9 C.s.all.length (bR (C.s.t :: C.s.u)).length C.s.ov),(2001,DP C.s.all),(2002,DO (bR (C.s.t :: C.s.u)))] (by rfl) (by exact ⟨rfl,rfl,rfl,rfl,rfl,trivial⟩) rfl ⟨rfl,rfl⟩
end
open Go Go.Mw
def QI (a b:Md):Prop:=a.hs=b.hs∧(a.hs=true→a.st=b.st)∧a.ts=b.ts∧a.ims=b.ims∧a.fs=b.fs∧(a.tbs=b.tbs∧a.ms=b.ms)∧a.gs=b.gs∧a.exs=b.exs∧a.els=b.els∧a.ds=b.ds∧a.cs=b.cs
instance (a b:Md):Decidable (QI a b):=by unfold QI;exact inferInstance
end Go.Proofs.YthhglklcaodfmaaGreatDoor