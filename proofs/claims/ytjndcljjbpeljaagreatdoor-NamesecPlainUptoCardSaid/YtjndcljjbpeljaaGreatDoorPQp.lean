import Derived.Test.YtjndcljjbpeljaaGreatDoorPQo
set_option linter.all false
set_option maxRecDepth 100000
set_option maxHeartbeats 40000000
namespace Go.Proofs.YtjndcljjbpeljaaGreatDoor
section
open Go Go.Mw
def aav {α:Type} (b:List UInt8) (res:Rd α) (p:α→Prop) (q:α×Nat×Int):Prop :=
 q.2.1≤b.length∧((∃x k,res = .ok (x,k)∧q=(x,k,0))∨∃e,res = .error (e,q.2.1)∧e≠0∧p q.1∧q.2.2=e)
theorem r4 {op:Int} (h:tG op=true):(0≤op∧op<256∧op≠252)∨(64512≤op∧op<64768):=by
 have:=FG (p:=fun op=>(decide (0≤op)&&(decide (op<256) && !(op==252)))||(decide (64512≤op)&&decide (op<64768))) (by decide +kernel) (op:=op) (fun q=>by simp [tG,q] at h)
 simpa using this
variable {b:List UInt8} {a:Nat} (ha:a≤b.length) (hb:b.length<1000000000)
include ha hb
end
section
open Go Go.Mw
variable {b:List UInt8} {a:Nat} (ha:a≤b.length) (hb:b.length<1000000000)
include ha hb
end
section
open Go Go.Mw
variable {b:List UInt8} {a:Nat} (ha:a≤b.length) (hb:b.length<1000000000)
include ha hb
end
section
open Go Go.Mw
def GR (l:List Int):Rd (List Int)→Rd (List Int)
 | .ok (l2,k)=>.ok (l++l2,k)
 | .error e=>.error e
variable {b:List UInt8} {a:Nat} (ha:a≤b.length) (hb:b.length<1000000000)
include ha hb
end
section
open Go Go.Mw
variable {b:List UInt8} {a:Nat} (ha:a≤b.length) (hb:b.length<1000000000)
include ha hb
end
section
open Go Go.Mw
variable {b:List UInt8} {a:Nat} (ha:a≤b.length) (hb:b.length<1000000000)
include ha hb
end
section
open Go Go.Mw
variable {b:List UInt8} {a:Nat} (ha:a≤b.length) (hb:b.length<1000000000)
include ha hb
end
open Go Go.Mw
theorem VV (ok:Bool) (l x y:List UInt8):wB ok (wB ok l x) y=wB ok l (x++y):=by cases ok<;>simp [wB]
theorem VW {ok:Bool} {l:List UInt8} {e:Int} {n:Nat} (h:n<4294967296):wU ok l e (n:Int)=(wB ok l (aA n),e):=by
 unfold wU wB
 cases ok
 ·rfl
 ·simp only [bF,ib]
  rw [aD (by omega)]
theorem be {n:Nat} (h:n<4294967296):(aA n).length≤5:=gV (k:=4) (by omega)
theorem ma:∀{ns:List Int},ns.all ij=true→(j0 ns).length≤5 * ns.length
 | [],_=>bj _
 | n :: ns,h=>by
  simp only [List.all_cons,bY] at h
  obtain ⟨k,rfl,hk⟩:=jG h.1
  have:=ma h.2
  have:=be hk
  rw [show j0 ((k:Int) :: ns)=aA k++j0 ns from rfl,aJ,aQ]
  omega
theorem zU {ns:List Int} {i:Nat} (h:i<ns.length):j0 (ns.take (i+1))=j0 (ns.take i)++aA (ah ns i).toNat:=by
 unfold j0
 rw [List.take_succ_eq_append_getElem h,List.flatMap_append,bD h]
 simp
theorem Df {f:Int→Bool} {l:List Int} {k:Nat} (h:l.all f=true) (hk:k<l.length):f (ah l k)=true:=by
 rw [bD hk]
 exact ee.1 h _ (List.getElem_mem hk)
theorem qD {ns:List Int} (h:ns.all ij=true) (i:Nat):(j0 (ns.take i)).length≤5 * ns.length:=by
 have h1:(ns.take i).all ij=true:=ee.2 fun x hx=>ee.1 h x (List.mem_of_mem_take hx)
 have:=ma h1
 rw [lh] at this
 omega
section
variable {l:List UInt8} {e:Int} (hl:l.length<45000000000)
include hl
theorem JQ (n:Nat) (hn:n<4294967296):ae Tryz.prog tp [wx l e,.int .i64 (n:Int)] (wx (wB (e==0) l (aA n)) e):=by
 have h:=yL l e (by omega) (n:Int)
 rw [VW hn] at h
 exact h
end
section
variable {l:List UInt8} {e:Int} (hl:l.length<40000000000)
include hl
end
theorem uJ (op:Int) (h:tG op=true):(j4 op).length≤6:=by
 rcases r4 h with h | h
 ·unfold j4;rw [aD (by omega)];simp
 ·unfold j4;rw [aK (by omega),aQ]
  have:=be (n:=(op - 64512).toNat) (by omega)
  omega
theorem Ly {x:bz} (h:PL x=true):tG x.op=true:=by
 unfold PL Bf at h
 simp only [bY] at h
 exact h.1
theorem JP {x:bz} {l:List UInt8} {e:Int} (h:PL x=true) (hs:¬(mX x.op=3∧4294967296≤x.lb.length)):ky x l e=(wB (e==0) (wB (e==0) l (j4 x.op)) (i7 (mX x.op) x),e):=by
 unfold ky
 rw [aK h,aD hs,VV]
 rfl
theorem Ff {x:bz} {l:List UInt8} {e:Int} (h:PL x=true) (hs:mX x.op=3∧4294967296≤x.lb.length):ky x l e=(wB (e==0) l (j4 x.op),if (true&&e==0)=true then 1 else e):=by
 unfold ky
 rw [aK h,aK hs,bR]
 by_cases he:e=0
 ·subst he;rfl
 ·rw [aD he,mT.2 he];rfl
theorem JO {x:bz} {l:List UInt8} {e:Int} (h:PL x=false):ky x l e=(l,if (true&&e==0)=true then 10 else e):=by
 unfold ky
 rw [aD (by rw [h];decide),bR]
 by_cases he:e=0
 ·subst he;rfl
 ·rw [aD he,mT.2 he];rfl
section
variable {l:List UInt8} {e:Int} (hl:l.length<1000000000)
include hl
end
section
attribute [local go_sem] ro wo wa wx rx dE jr bG
theorem qb (op:Int):ae Tryz.prog Zm [.int .i64 op] (.bool (decide (op≥64512))):=by
 refine ab (ic:=MC.body) aq Xy rfl rfl ?_
 simp only [go_sem,MC]
 exact aI
theorem AI {l:List UInt8} (hl:l.length<45000000000) (n:Nat) (hn:n<4294967296):ae Tryz.prog tp [wx l 0,.int .i64 (n:Int)] (wx (l++aA n) 0):=JQ (l:=l) (e:=0) hl n hn
section
variable {l:List UInt8} (hl:l.length<2000000000)
include hl
theorem U7 (y:UInt8):ae Tryz.prog O0 [wx l 0,.int .u8 y.toNat] (wx (l++[y]) 0):=pZ (l:=l) (e:=0) (hl:=by omega) y
theorem w_ (n:Nat) (hn:n<4294967296):ae Tryz.prog tp [wx l 0,.int .i64 (n:Int)] (wx (l++aA n) 0):=JQ (l:=l) (e:=0) (by omega) n hn
theorem dX (n:Int) (hn:ij n=true):ae Tryz.prog tp [wx l 0,.int .i64 n] (wx (l++aA n.toNat) 0):=by
 obtain ⟨k,rfl,hk⟩:=jG hn
 exact w_ hl k hk
theorem p_ (x:bz) (h:x.lb.all ij=true) (ha:ij x.a=true) (hb:x.lb.length<4294967296):ae Tryz.prog Lq [wx l 0,jF x] (wx (l++(aA x.lb.length++j0 x.lb++aA x.a.toNat)) 0):=by
 refine ab (ic:=ug.body) aq KW rfl rfl ?_
 have c1:=be (n:=x.lb.length) (by omega)
 have c2:=ma h
 simp only [go_sem,ug]
 refine aa (w_ hl x.lb.length (by omega)) ?_
 simp only [go_sem]
 refine an (fun i:Nat=>⟨[(5,.int .i64 i),(4,.mp 4 2 0 0),(3,.mp 3 9 0 0),(2,.mp 2 2 0 0)],[(2,⟨81,2,[[.sl 1 ((l++aA x.lb.length++j0 (x.lb.take i)).map dJ),.int .i64 0]],true⟩),(3,⟨192,9,[bG x],true⟩),(4,⟨81,2,[[.nl,.int .i64 0]],true⟩)]⟩) (fun i=>i≤x.lb.length) (fun i=>x.lb.length - i) 0 (cE _) (Wk.of ?_ ?_) ?_
 ·simp only [go_sem];try simp
 ·simp only [go_sem,f8,j0,List.flatMap_nil,gx];try simp [go_sem]
 intro i hi
 have ht:=qD h i
 have hlen:(l++aA x.lb.length++j0 (x.lb.take i)).length<40000000000:=by simp only [aJ];omega
 by_cases h1:(i:Int)<(x.lb.length:Int)
 ·have hi':i<x.lb.length:=by omega
  have hs:=zU hi'
  have e8:=wi (n:=(i:Int)+1) (by omega) (by omega)
  have cc:=AI (l:=l++aA x.lb.length++j0 (x.lb.take i)) (by omega)
  have hat:=Df h hi'
  obtain ⟨m,hm1,hm2⟩:=jG hat
  rw [hm1,ib] at hs
  simp only [go_sem,aF h1,hm1]
  refine ⟨by omega,h1,?_⟩
  refine aa (cc m hm2) ?_
  simp only [go_sem]
  have hw:l++aA x.lb.length++j0 (x.lb.take i)++aA m=l++aA x.lb.length++j0 (x.lb.take (i+1)):=by
   rw [hs]
   simp only [dB]
  rw [hw]
  refine aC (i+1) (show i+1≤x.lb.length by omega) (show x.lb.length - (i+1)<x.lb.length - i by omega) (Wk.of ?_ ?_)
  ·simp only [go_sem,e8];try simp
  ·simp only [go_sem];try simp [go_sem]
 ·obtain rfl:i=x.lb.length:=by omega
  rw [dj] at hlen
  have cc:=AI (l:=l++aA x.lb.length++j0 x.lb) (by omega)
  obtain ⟨m,hm1,hm2⟩:=jG ha
  rw [dj,hm1,ib]
  simp only [go_sem,aG h1,hm1]
  refine aa (cc m hm2) ?_
  have hw:l++aA x.lb.length++j0 x.lb++aA m=l++(aA x.lb.length++j0 x.lb++aA m):=by
   simp only [dB]
  simp only [go_sem,hw]
  exact aj
theorem mE (x:bz) (h:x.lb.all ij=true) (ha:ij x.a=true) (hb:4294967296≤x.lb.length) (hb2:x.lb.length≤9223372036854775807):ae Tryz.prog Lq [wx l 0,jF x] (wx l 1):=by
 refine ab (ic:=ug.body) aq KW rfl rfl ?_
 have c0:=yL l 0 (by omega) (x.lb.length:Int)
 rw [show wU ((0:Int)==0) l 0 (x.lb.length:Int)=(l,1) by unfold wU;simp;omega] at c0
 simp only [go_sem,ug]
 refine aa (c0) ?_
 simp only [go_sem]
 refine an (fun i:Nat=>⟨[(5,.int .i64 i),(4,.mp 4 2 0 0),(3,.mp 3 9 0 0),(2,.mp 2 2 0 0)],[(2,⟨81,2,[[.sl 1 (l.map dJ),.int .i64 1]],true⟩),(3,⟨192,9,[bG x],true⟩),(4,⟨81,2,[[.nl,.int .i64 0]],true⟩)]⟩) (fun i=>i≤x.lb.length) (fun i=>x.lb.length - i) 0 (cE _) (Wk.of ?_ ?_) ?_
 ·simp only [go_sem];try simp
 ·simp only [go_sem];try simp [go_sem]
 intro i hi
 by_cases h1:(i:Int)<(x.lb.length:Int)
 ·have hi':i<x.lb.length:=by omega
  have e8:=wi (n:=(i:Int)+1) (by omega) (by omega)
  obtain ⟨m,hm1,hm2⟩:=jG (Df h hi')
  have cc:ae Tryz.prog tp [wx l 1,.int .i64 (m:Int)] (wx l 1):=JQ (l:=l) (e:=1) (by omega) m hm2
  simp only [go_sem,aF h1,hm1]
  refine ⟨by omega,h1,?_⟩
  refine aa (cc) ?_
  simp only [go_sem]
  refine aC (i+1) (show i+1≤x.lb.length by omega) (show x.lb.length - (i+1)<x.lb.length - i by omega) (Wk.of ?_ ?_)
  ·simp only [go_sem,e8];try simp
  ·simp only [go_sem];try simp [go_sem]
 ·obtain ⟨m,hm1,hm2⟩:=jG ha
  have cc:ae Tryz.prog tp [wx l 1,.int .i64 (m:Int)] (wx l 1):=JQ (l:=l) (e:=1) (by omega) m hm2
  simp only [go_sem,aG h1,hm1]
  refine aa (cc) ?_
  simp only [go_sem]
  exact aj
theorem p8 (x:bz) (h1:0≤x.a) (h2:x.a≤63) (hb:ij x.b=true) (h3:0≤x.n) (h4:x.n<4294967296):ae Tryz.prog TI [wx l 0,jF x] (wx (l++((if x.b=0 then aA x.a.toNat else aA (x.a+64).toNat++aA x.b.toNat)++aA x.n.toNat)) 0):=by
 refine ab (ic:=xI.body) aq Rq rfl rfl ?_
 obtain ⟨m3,e3⟩:=xG h3
 obtain ⟨m1,e1⟩:=xG h1
 have w3:IntKind.i64.wrap (m3:Int)=(m3:Int):=wi (by omega) (by omega)
 rw [e3,ib]
 by_cases h0:x.b=0
 ·rw [aK h0,e1,ib]
  have c1:=be (n:=m1) (by omega)
  simp only [go_sem,xI,e1,e3,h0]
  refine aa (w_ hl m1 (by omega)) ?_
  simp only [go_sem,w3]
  refine aa (AI (l:=l++aA m1) (by simp only [aJ];omega) m3 (by omega)) ?_
  simp only [go_sem,dB]
  exact aj
 ·rw [aD h0]
  obtain ⟨m2,e2,hm2⟩:=jG hb
  have w1:IntKind.i64.wrap (x.a+64)=((m1+64:Nat):Int):=by rw [wi (by omega) (by omega)];omega
  have e4:(x.a+64).toNat=m1+64:=by omega
  have c1:=be (n:=m1+64) (by omega)
  have c2:=be (n:=m2) (by omega)
  rw [e2,e4,ib]
  have q0:=aN h0
  rw [e2] at q0
  simp only [go_sem,xI,e2,e3,q0,w1]
  refine aB (w_ hl (m1+64) (by omega)) (by simp [go_sem]) rfl ?_
  simp only [go_sem]
  refine aa (AI (l:=l++aA (m1+64)) (by simp only [aJ];omega) m2 hm2) ?_
  simp only [go_sem,w3]
  refine aa (AI (l:=l++aA (m1+64)++aA m2) (by simp only [aJ];omega) m3 (by omega)) ?_
  simp only [go_sem,dB]
  exact aj
end
end
end Go.Proofs.YtjndcljjbpeljaaGreatDoor