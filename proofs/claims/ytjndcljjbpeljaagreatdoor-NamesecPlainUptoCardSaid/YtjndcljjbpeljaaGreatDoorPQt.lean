import Derived.Test.YtjndcljjbpeljaaGreatDoorPQs
set_option linter.all false
set_option maxRecDepth 100000
set_option maxHeartbeats 40000000
namespace Go.Proofs.YtjndcljjbpeljaaGreatDoor
open Go Go.Mw
theorem tA (m:Md):∀p∈jI m,1≤p∧p≤12:=fun p hp=>by
 rw [lR] at hp
 simp only [ef] at hp
 rcases hp with (((((((((((h | h) | h) | h) | h) | h) | h) | h) | h) | h) | h) | h)
 all_goals
  have:=w7 h
  omega
theorem yJ {c:Prop} [Decidable c] {p x:Int}:x∈oH c p↔c∧x=p:=by
 unfold oH
 by_cases h:c
 ·rw [aK h];simp [h]
 ·rw [aD h];simp [h]
theorem vq {m:Md} {p:Int} (h:p∈jI m):(p=1→m.ts.length>0)∧(p=2→m.ims.length>0)∧(p=3→m.fs.length>0)∧(p=4→m.tbs.length>0)∧(p=5→m.ms.length>0)∧(p=6→m.gs.length>0)∧(p=7→m.exs.length>0)∧(p=8→m.hs=true)∧(p=9→m.els.length>0)∧(p=10→m.ds.length>0)∧(p=11→m.fs.length>0)∧(p=12→m.ds.length>0):=by
 rw [lR] at h
 simp only [ef,yJ] at h
 rcases h with (((((((((((h | h) | h) | h) | h) | h) | h) | h) | h) | h) | h) | h)
 all_goals
  obtain ⟨h1,rfl⟩:=h
  refine ⟨fun q=>?_,fun q=>?_,fun q=>?_,fun q=>?_,fun q=>?_,fun q=>?_,fun q=>?_,fun q=>?_,fun q=>?_,fun q=>?_,fun q=>?_,fun q=>?_⟩
  all_goals first | exact h1 | (exfalso;omega)
theorem qn {α:Type} {g:α→Nat} {c:Nat}:∀l:List α,(∀x∈l,g x≤c)→kI g l≤c * l.length
 | [],_=>by simp [kI]
 | x :: l,h=>by
  have:=qn l fun y hy=>h y (by simp [hy])
  have:=h x (by simp)
  rw [qm,aQ,Nat.mul_add]
  omega
theorem zd {m:Md} (h:yI mD m) (p:Int):tot (qx m p)≤4200 * (oh m.cs p).length:=by
 have hc:∀c∈oh m.cs p,c.b.length≤4096∧c.n.length≤64:=fun c hc=>by
  have hx:=(List.mem_filter.1 hc).1
  have q:=h.cs.2 c hx
  unfold uD at q
  by_cases q1:fk c.n≠0
  ·rw [aK q1] at q;exact absurd q q1
  rw [aD q1] at q
  by_cases q2:c.b.length>4096
  ·rw [aK q2] at q;cases q
  ·exact ⟨by omega,tu (Classical.not_not.1 q1)⟩
 unfold qx
 generalize oh m.cs p=l at *
 induction l with
 | nil=>exact bj _
 | cons c l ih =>
  have h1:=ih fun x hx=>hc x (by simp [hx])
  obtain ⟨h2,h3⟩:=hc c (by simp)
  rw [eW,tot,aQ,oA,Nat.mul_add]
  simp only
  omega
section
theorem yF (x:bz):pE none (bG x)=some (.int .i64 x.op):=rfl
theorem vb (x:bz):pE (some 9) (bG x)=some (.agg (bG x)):=rfl
theorem vc (x:bz):(bG x).length=9:=rfl
theorem u_ (d:Nat) (x:bz):(bG x).any (mC d)=false:=rfl
theorem ve (d:Nat) (x:bz):((bG x).all fun y=>!(mC d y))=true:=rfl
theorem u9 (x:bz):(bG x).all py=true:=rfl
theorem vf (d:Nat) (x:bz):(bG x).map (ou d)=bG x:=rfl
theorem va (x:bz):(bG x).flatMap gg=[]:=rfl
attribute [local go_sem high] yF vb vc u_ ve u9 vf va
theorem Av (B:List bz) (h:Int) (i:Nat):pQ B h (i+1)=(pQ B h i||(decide (h<i)&&(ah B i).op==5&&decide (0<(bM B i).length)&&Ax B i==h)):=by
 simp only [pQ,List.range_succ,List.any_append,List.any_cons,List.any_nil,Bool.or_false]
def nrk (p:Int×Bool):List AV:=[.int .i64 p.1,.bool p.2]
theorem U1 (p:Int×Bool):nrk p=[.int .i64 p.1,.bool p.2]:=rfl
attribute [local go_sem] U1
end
def sO (l:List bz):Bool:=(nchk l).2==0
theorem nM {α:Type} [Inhabited α] {f:α→Bool} {l:List α} {i:Nat} (h:i<l.length):(l.take (i+1)).all f=((l.take i).all f&&f (ah l i)):=by
 rw [fv h,List.all_append]
 simp
def GJ (x:El):Bool:=(x.mo != 0||sO x.o)&&x.it.all sO
def KZ (x:Da):Bool:=x.mo != 0||sO x.o
theorem O4 (m:Md):ol m=(m.fs.all (fun x=>sO x.b)&&m.gs.all (fun x=>sO x.i)&&m.els.all GJ&&m.ds.all KZ):=rfl
theorem Lb:∀l:List Fa,(k6 l).c=0→k6 l=dq
 | [],_=>rfl
 | F :: r,h=>by
  rw [k6] at h ⊢
  by_cases q:F.c≠0
  ·rw [aK q] at h;exact absurd h q
  ·rw [aD q] at h ⊢;exact Lb r h
theorem EH {m:Md} (hm:oN m):(pG mD m).c=0↔yI mD m:=by
 rw [← OT hm]
 constructor
 ·intro h
  rw [wQ mD m hm] at h ⊢
  exact Lb _ h
 ·intro h
  rw [h];rfl
def AB (m:Md):Prop:=(∀x∈m.fs,vj x.b)∧(∀x∈m.gs,vj x.i)∧(∀x∈m.els,vj x.o∧∀l∈x.it,vj l)∧∀x∈m.ds,vj x.o
end Go.Proofs.YtjndcljjbpeljaaGreatDoor