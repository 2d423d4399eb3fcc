import Derived.Test.YtdfofedlbljnhaaGreatDoorXQv
set_option linter.all false
set_option maxRecDepth 100000
set_option maxHeartbeats 40000000
namespace Go.Proofs.YtdfofedlbljnhaaGreatDoor
section
open Go Go.Mw
attribute[local go_sem] bZ b_
end
section
open Go Go.Mw
attribute[local go_sem] bZ b_
def PY(b:Af)(hb:b.length<=9223372036854775807):aj pg 9 [.sl 1 (b.map de)] (.bool true):=by
 refine aC iP ?_;have al:=PM;by_cases hl:(b.length:Int)>3000
 .simp only[go_sem,iP,aK hl];refine aa (al) ?_;exact an
 have c1:=Jc b hb;have c2:=Uo b (by omega);have hd:=λh=>Rr (b:=b) h;have hz:=Rs b;obtain⟨m,hm⟩:∃m,(oY b).1=m:=⟨_,rfl⟩
 obtain⟨e,he⟩:∃e,(oY b).2=e:=⟨_,rfl⟩
 rw[hm,he]at c1 hd;rw[hm,he]at c2;have hs:U4 m:=by
  by_cases h0:e=0
  .exact(aaY (hd h0)).sm
  .rcases hz with⟨h,_⟩|⟨h,_,_⟩
   .exact absurd (he.symm.trans h) h0
   .rw[<-hm,h];exact agy
 have c3:=YG m m hs;rw[aK (KF m)]at c3;simp only[gy,b_]at c1 c2 c3;simp only[go_sem,iP,aL hl];refine aa (c1) ?_;refine aa (c2) ?_;refine ab (c3) ?_;simp only[go_sem,beq_self_eq_true];refine aa (al) ?_;exact an
