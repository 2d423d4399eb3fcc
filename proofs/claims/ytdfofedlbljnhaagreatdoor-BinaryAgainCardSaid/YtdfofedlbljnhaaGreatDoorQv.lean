import Derived.Test.YtdfofedlbljnhaaGreatDoorQu
set_option linter.all false
set_option maxRecDepth 100000
set_option maxHeartbeats 40000000
namespace Go.Proofs.YtdfofedlbljnhaaGreatDoor
section
open Go Go.Mw
attribute [local go_sem] di bC
theorem Qj (b:List UInt8) (hb:b.length≤9223372036854775807):ao pg vV [.sl 1 (b.map i5)] (.bool true):=by
 refine aL iP ?_
 have al:=qX
 by_cases hl:(b.length:Int)>3000
 ·simp only [go_sem,iP,aO hl]
  refine aa (al) ?_
  exact aj
 have c1:=ud b hb
 have hd:=fun h=>JM (b:=b) h
 obtain ⟨m,hm⟩:∃m,(rI b).1=m:=⟨_,rfl⟩
 obtain ⟨e,he⟩:∃e,(rI b).2=e:=⟨_,rfl⟩
 rw [hm,he] at c1 hd
 simp only [dH,bC] at c1
 simp only [go_sem,iP,aQ hl]
 refine ax (c1) ?_
 by_cases h0:e=0
 rotate_left
 ·simp only [go_sem,bv h0]
  refine aa (al) ?_
  exact aj
 have hr:=abq (hd h0)
 have hs:=hr.sm
 have hn:=hr.num
 have hi:=hr.ins (by omega)
 have c2:=NU hs hn hi
 simp only [dH,bC] at c2
 simp only [go_sem,aD h0]
 refine ax (c2) ?_
 by_cases h1:(cW m).1=0
 rotate_left
 ·simp only [go_sem,ay h1]
  refine aa (al) ?_
  exact aj
 have c3:=lV hs hn hi
 have c4:=ud (cW m).2 (by have:=HT hs hn;omega)
 rw [JN hs hn h1] at c4
 have c5:=DC m (pt m) hs
 rw [aO (U9 m)] at c5
 simp only [dH,bC] at c3 c4 c5
 generalize pt m=M at *
 simp only [go_sem,dV h1]
 refine aa (c3) ?_
 refine ax (c4) ?_
 simp only [go_sem,dV h1]
 refine aa (c5) ?_
 refine aa (al) ?_
 exact aj
end
section
open Go Go.Mw
attribute [local go_sem] di bC
end
end Go.Proofs.YtdfofedlbljnhaaGreatDoor