import Derived.Test.YtdfofedlbljnhaaGreatDoorXQq
set_option linter.all false
set_option maxRecDepth 100000
set_option maxHeartbeats 4000000
namespace Go.Proofs.YtdfofedlbljnhaaGreatDoor
open Go Go.Mw
def Qc(l:List be):Prop:=∀x∈l,PL x=true/\x.lb.length<=64/\0<=x.n/\x.n<18446744073709551616
def IK(x:be):1<=(BA x).length:=by
 unfold BA pA;split
 .simp only[cP,i0];omega
 .simp only[cP,i0];omega
def KY(x:be)(l:List be):j5 (x::l)=BA x++j5 l:=by simp[j5]
def yJ{l:List be}(h:Qd F4 l)(hn:∀x∈l,0<=x.n/\x.n<18446744073709551616):Qc l/\l.length<=2048:=⟨λx hx=>⟨(h.2 x hx).1,(h.2 x hx).2,hn x hx⟩,h.1⟩
def ZC{x:Ex}(h:MN x=0):Aj x.n=0/\(0<=x.k/\x.k<=3)/\tC x.i=true:=by
 unfold MN at h;by_cases h1:Aj x.n≠0
 .rw[au h1]at h;exact absurd h h1
 rw[ak h1]at h;by_cases h2:x.k<0\/x.k>3
 .rw[au h2]at h;cases h
 rw[ak h2]at h;by_cases h3:tC x.i=false
 .rw[au h3]at h;cases h
 exact⟨Decidable.not_not.1 h1,by omega,by simpa using h3⟩
def Zz{x:Da}(h:Lv F4 x):(x.mo=0\/x.mo=1/\x.me=0/\x.o=[])/\tC x.me=true/\x.b.length<=4096/\Qd F4 x.o:=by
 refine⟨?_,h.2⟩;by_cases h0:x.mo=0
 .exact .inl h0
 have h1:=h.1;have h2:¬(x.mo≠1\/x.me≠0\/x.o.length>0):=λq=>h1 ⟨h0,q⟩;exact .inr ⟨by omega,by omega,B0 (by omega)⟩
def acy{x:be}(h:PL x=true)(ho:x.op=210):x =⟨210,x.a,0,0,0,0,0,[],[]⟩/\0<=x.a/\x.a<4294967296:=by
 obtain⟨op,a,b,n,k,v,z,ty,lb⟩:=x;simp only at ho;subst ho;have hi:qx 210=4:=by decide +kernel
 have hk:vQ 210=true:=by decide +kernel
 unfold PL vp mj at h;simp only[hi,hk,Int.reduceEq,Int.reduceBEq,false_or,or_false,or_true,true_or,or_self,aN,bB,eC,eH,bY,cW,beq_iff_eq,tK,decide_eq_false_iff_not,gj,sC]at h;obtain⟨⟨rfl,rfl,rfl⟩,hlb,hty,ha,rfl,rfl⟩:=h;obtain⟨m,rfl,hm⟩:=kS ha;rw[Hv hlb,Hv hty];exact⟨rfl,by simp only;omega,by simp only;omega⟩
def afR{x:be}(h:PL x=true)(ho:x.op=11):x =⟨11,0,0,0,0,0,0,[],[]⟩:=by
 obtain⟨op,a,b,n,k,v,z,ty,lb⟩:=x;simp only at ho;subst ho;have hi:qx 11=0:=by decide +kernel
 have hk:vQ 11=true:=by decide +kernel
 unfold PL vp mj at h;simp only[hi,hk,Int.reduceEq,Int.reduceBEq,false_or,or_false,or_true,true_or,or_self,aN,bB,eC,eH,bY,cW,beq_iff_eq,tK,decide_eq_false_iff_not,gj,sC]at h;obtain⟨⟨rfl,rfl,rfl⟩,hlb,hty,rfl,rfl,rfl⟩:=h;rw[Hv hlb,Hv hty]
def M3{l:List be}(h:C7 l=true)(ho:Qc l):l=E7 (ac l 0).a/\0<=(ac l 0).a/\(ac l 0).a<4294967296:=by
 unfold C7 at h;simp only[cW,beq_iff_eq]at h;obtain⟨⟨h1,h2⟩,h3⟩:=h;obtain⟨x,y,rfl⟩:∃x y,l=[x,y]:=by
  rcases l with _|⟨x,_|⟨y,_|⟨z,l⟩⟩⟩
  .simp at h1
  .simp at h1
  .exact⟨x,y,rfl⟩
  .simp at h1
 have hx:=(ho x (by simp)).1;have hy:=(ho y (by simp)).1;obtain⟨e1,e2,e3⟩:=acy hx h2;have e4:=afR hy h3;refine⟨?_,e2,e3⟩;show[x,y]=[⟨210,x.a,0,0,0,0,0,[],[]⟩,⟨11,0,0,0,0,0,0,[],[]⟩];rw[<-e1,<-e4]
def GH{x:El}(h:elB x=0):(0<=x.mo/\x.mo<=2)/\(x.mo≠0->x.tb=0/\x.o=[])/\tC x.tb=true/\Ep x.ty=true/\x.it.length<=256:=by
 unfold elB at h;by_cases h1:x.mo<0\/x.mo>2\/(x.mo≠0/\(x.tb≠0\/x.o.length>0))
 .rw[au h1]at h;cases h
 rw[ak h1]at h;by_cases h2:tC x.tb=false
 .rw[au h2]at h;cases h
 rw[ak h2]at h;by_cases h3:Ep x.ty=false
 .rw[au h3]at h;cases h
 rw[ak h3]at h;by_cases h4:x.it.length>256
 .rw[au h4]at h;cases h
 refine⟨by omega,λq=>⟨by omega,B0 (by omega)⟩,by simpa using h2,by simpa using h3,by omega⟩
def RT{x:El}(hm:0<=x.mo/\x.mo<=2):gJ x<=7/\(gJ x%4=2↔x.mo=0/\(x.tb≠0\/x.ty≠3))/\(gJ x%2=0↔x.mo=0)/\(gJ x%4=0↔x.mo=0/\¬(x.tb≠0\/x.ty≠3))/\(gJ x<4↔jz x=false)/\cg (gJ x)=x.mo:=by
 unfold gJ cg;cases jz x
 .simp only[gR,bB];by_cases h1:x.mo=1
  .simp only[h1,aN];simp
  rw[ak h1];by_cases h2:x.mo=2
  .simp only[h2,aN];simp
  rw[ak h2];have h0:x.mo=0:=by omega
  by_cases h3:x.tb≠0\/x.ty≠3
  .rw[au h3];simp[h0,h3]
  .rw[ak h3];simp only[h0];simp only[h3];simp
 .simp only[aN];by_cases h1:x.mo=1
  .simp only[h1,aN];simp
  rw[ak h1];by_cases h2:x.mo=2
  .simp only[h2,aN];simp
  rw[ak h2];have h0:x.mo=0:=by omega
  by_cases h3:x.tb≠0\/x.ty≠3
  .rw[au h3];simp[h0,h3]
  .rw[ak h3];simp only[h0];simp only[h3];simp
def JP(l:List be):Prop:=∀y∈l,0<=y.n/\y.n<18446744073709551616
def OJ(r:List (Nat×Int)):List Int:=r.flatMap λp=>List.replicate p.1 p.2
def NO(t:Int):∀l:List Int,l.take (same t l)=List.replicate (same t l) t
 | []=>rfl
 | x::l=>by
  rw[same];by_cases h:x=t
  .rw[au h,List.take_succ_cons,NO t l,Ec,h]
  .rw[ak h];rfl
def zR:∀(f:Nat)(l:List Int),l.length<=f->OJ (BY f l)=l
 | 0,l,h=>by
  have:l=[]:=B0 (by omega);subst this;rfl
 | f+1,[],h=>rfl
 | f+1,x::l,h=>by
  rw[i0]at h;have h1:=zR f (l.drop (same x l)) (by rw[jK];omega);rw[BY];unfold OJ at h1⊢;rw[B1,h1,Ec,<-NO,mr,Ku]
def HY:∀(f:Nat)(l:List Int),∀p∈BY f l,1<=p.1/\p.2∈l
 | 0,l,p,h=>by cases h
 | f+1,[],p,h=>by cases h
 | f+1,x::l,p,h=>by
  rw[BY]at h;rcases dQ.1 h with rfl|h
  .exact⟨by simp,by simp⟩
  .obtain⟨h1,h2⟩:=HY f _ p h;exact⟨h1,List.mem_cons_of_mem _ (List.mem_of_mem_drop h2)⟩
def yT:∀(f:Nat)(l:List Int),(BY f l).length<=l.length
 | 0,l=>cm _
 | f+1,[]=>a_ _
 | f+1,x::l=>by
  have:=yT f (l.drop (same x l));rw[jK]at this;rw[BY,i0,i0];omega
def aez{x:Cd}(h:P9 x=0):tC x.t=true/\x.lo.length<=64/\∀t∈x.lo,qh t=true:=by
 unfold P9 at h;by_cases h1:tC x.t=false
 .rw[au h1]at h;cases h
 rw[ak h1]at h;by_cases h2:x.lo.length>64
 .rw[au h2]at h;cases h
 rw[ak h2]at h;by_cases h3:pH x.lo=false
 .rw[au h3]at h;cases h
 have:pH x.lo=true:=by simpa using h3
 unfold pH at this;exact⟨by simpa using h1,by omega,fk.1 this⟩
structure fW where
 id:Int
 name:Af
 bs:Option (Af)
instance:Inhabited fW:=⟨⟨0,[],none⟩⟩
deriving instance DecidableEq for fW
def gb(o:Option (Af)):Af:=o.getD []
def db(l:Af):gb (some l)=l:=rfl
def pG(s:fW):List AV:=[.int .i64 s.id,.str s.name,Kf s.bs]
def agv(s:fW):pG s=[.int .i64 s.id,.str s.name,Kf s.bs]:=rfl
def abL(i:Nat)(o:Option (Af)):mC i (Kf o)=false:=by cases o<;>rfl
def Ua(i:Nat)(o:Option (Af)):jb i (Kf o)=Kf o:=by cases o<;>rfl
def Sq(o:Option (Af)):qm (Kf o)=true:=by cases o<;>rfl
section
variable{β:Type}(o:Option (Af))
end
attribute[go_sem ↓] bU abL Ua Sq
attribute[go_sem] agv dL
def gd(id:Int):Int:=if id<1\/id>12 then 0 else if id=10 then 11 else if id=11 then 12 else if id=12 then 10 else id
def Ra(p:Int):Int:=if p<1\/p>12 then 0 else if p=10 then 12 else if p=11 then 10 else if p=12 then 11 else p
def F5{id:Int}(h:id<1\/id>12):gd id=0:=by unfold gd;rw[au h]
def Zu{p:Int}(h:p<1\/p>12):Ra p=0:=by unfold Ra;rw[au h]
def DH(id:Int):0<=gd id/\gd id<=12:=by unfold gd;repeat' split<;>omega
def Wh{id:Int}(h:1<=id/\id<=12):Ra (gd id)=id/\1<=gd id:=by
 have h1:¬(id<1\/id>12):=by omega
 unfold gd;rw[ak h1];unfold Ra
 repeat' split
 all_goals omega
def Ea{id:Int}(h:1<=id/\id<=12):id=1\/id=2\/id=3\/id=4\/id=5\/id=6\/id=7\/id=8\/id=9\/id=10\/id=11\/id=12:=by omega
def Il:Af:=[0,97,115,109,1,0,0,0]
def gc(id:Int)(body:Af):Int×fW :=
 if id=0 then(if(ci true body 0 0).2.2≠0 then((ci true body 0 0).2.2,default)else(0,⟨0,(ci true body 0 0).1,some (body.drop (ci true body 0 0).2.1)⟩))
 else(0,⟨id,[],some body⟩)
def lm(d:Af):Option (Af)×Nat×Int:=aO ((rU true 32 d 1 0).2.2==0) d (rU true 32 d 1 0).2.1 (rU true 32 d 1 0).2.2 (rU true 32 d 1 0).1
def bP(d:Af)(last:Int):Int×fW×Af :=
 if(ac d 0).toNat>12 then(4,default,[])else if(lm d).2.2≠0 then((lm d).2.2,default,[])else
 if(ac d 0).toNat≠0/\gd (ac d 0).toNat<=last then(7,default,[])else
 if(gc (ac d 0).toNat (gb (lm d).1)).1≠0 then((gc (ac d 0).toNat (gb (lm d).1)).1,default,[])else
 (0,(gc (ac d 0).toNat (gb (lm d).1)).2,d.drop (lm d).2.1)
def pp:Nat->Af->Int->List fW->Int×List fW
 | 0,_,_,acc=>(0,acc)
 | f+1,d,last,acc=>if d.length=0 then(0,acc)else
  if(bP d last).1≠0 then((bP d last).1,[])else pp f (bP d last).2.2 (max last (gd (bP d last).2.1.id)) (acc++[(bP d last).2.1])
def Cn(d:Af)(last:Int)(acc:List fW):Int×List fW:=pp d.length d last acc
def oy(b:Af):Int×List fW :=
 if b.length>262144 then(6,[])else if b.length<8\/b.take 8≠Il then(4,[])else Cn (b.drop 8) 0 []
def C4(s:fW):Af:=if s.id=0 then aD s.name.length++s.name++gb s.bs else gb s.bs
def r_(s:fW):Af:=UInt8.ofNat s.id.toNat::(aD (C4 s).length++C4 s)
def Lg(s:fW)(last:Int):Int :=
 if s.id<0\/s.id>12\/(s.id≠0/\s.name≠[])then 4 else if s.id≠0/\gd s.id<=last then 7 else
 if s.id=0 then(if uv s.name=false then 9 else if s.name.length>64 then 6 else 0)else 0
def Xf:List fW->Int->Af->Int×Af
 | [],_,w=>(0,w)
 | s::r,last,w=>if Lg s last≠0 then(Lg s last,[])else Xf r (max last (gd s.id)) (w++r_ s)
def joi(l:List fW):Int×Af:=Xf l 0 Il
def Ze{α:Type}[Inhabited α]{l:List α}{i:Nat}(h:i<l.length):l.take (i+1)=l.take i++[ac l i]:=by rw[Ei,pf h,Eh]
def ML{α:Type}[Inhabited α]{l:List α}{i:Nat}(h:i<l.length):l.drop i=ac l i::l.drop (i+1):=by
 rw[Kt h,<-bv h]
def tot:List fW->Nat
 | []=>0
 | s::r=>(gb s.bs).length+s.name.length+tot r
def ac5(s:Af)(n:Int):aj pg 290 [.str s,.int .u8 n] (.int .i64 (L9 s n.toNat.toUInt8)):=by
 refine aC FX0 ?_;simp only[go_sem,FX0];exact an
def agq(s:Af)(n:Int):aj pg 233 [.str s,.int .u8 n] (.int .i64 (L9 s n.toNat.toUInt8)):=by
 refine aC nz ?_;simp only[go_sem,nz];refine aa (ac5 s n) ?_;exact an
def Cm(id:Int):aj pg 153 [.int .i64 id] (.int .i64 (gd id)):=by
 refine aC jh ?_;by_cases h1:id<1
 .rw[F5 (.inl h1)];simp only[go_sem,jh,aK h1];exact an
 by_cases h2:id>12
 .rw[F5 (.inr h2)];simp only[go_sem,jh,aL h1,aK h2];exact an
 have w1:IntKind.u8.wrap id=id:=by rw[rH];omega
 have w2:IntKind.i64.wrap (L9 [1,2,3,4,5,6,7,8,9,12,10,11] id.toNat.toUInt8+1)=gd id:=by
  rcases Ea (id:=id) (by omega)with rfl|rfl|rfl|rfl|rfl|rfl|rfl|rfl|rfl|rfl|rfl|rfl<;>decide +kernel
 simp only[go_sem,jh,aL h1,aL h2,w1];refine ab (agq [1,2,3,4,5,6,7,8,9,12,10,11] id) ?_;simp only[go_sem,w2];exact an
def agm(p:Int):aj pg 29 [.int .i64 p] (.int .i64 (Ra p)):=by
 refine aC nR ?_;by_cases h1:p<1
 .rw[Zu (.inl h1)];simp only[go_sem,nR,aK h1];exact an
 by_cases h2:p>12
 .rw[Zu (.inr h2)];simp only[go_sem,nR,aL h1,aK h2];exact an
 have h3:1<=p/\p<=12:=by omega
 have w1:IntKind.i64.wrap (p-1)=p-1:=wi (by omega) (by omega);have w2:IntKind.i64.wrap ((ac ([1,2,3,4,5,6,7,8,9,12,10,11]:Af) (p-1).toNat).toNat:Int)=Ra p:=by
  clear h1 h2 w1;rcases Ea h3 with rfl|rfl|rfl|rfl|rfl|rfl|rfl|rfl|rfl|rfl|rfl|rfl<;>decide +kernel
 simp only[go_sem,nR,aL h1,aL h2,w1,w2];exact⟨by omega,by simp;omega,by exact an⟩
def HW(id:Int):aj pg 140 [.int .i64 id] (.int .i64 (gd id)):=by
 refine aC k9 ?_;by_cases h1:id<1
 .rw[F5 (.inl h1)];simp only[go_sem,k9,aK h1];exact an
 by_cases h2:id>12
 .rw[F5 (.inr h2)];simp only[go_sem,k9,aL h1,aK h2];exact an
 have h3:1<=id/\id<=12:=by omega
 have e1:O_ none 1 id.toNat 0 (some ⟨3,1,[[.int .i64 0],[.int .i64 1],[.int .i64 2],[.int .i64 3],[.int .i64 4],[.int .i64 5],[.int .i64 6],[.int .i64 7],[.int .i64 8],[.int .i64 9],[.int .i64 11],[.int .i64 12],[.int .i64 10]],false⟩)=some (.int .i64 (gd id)):=by
  clear h1 h2;rcases Ea h3 with rfl|rfl|rfl|rfl|rfl|rfl|rfl|rfl|rfl|rfl|rfl|rfl<;>rfl
 simp only[go_sem,k9,aL h1,aL h2,e1];exact⟨⟨by omega,by simp;omega⟩,by exact an⟩
def H1(id last:Int):aj pg 114 [.int .i64 id,.int .i64 last] (.tup [.int .i64 (if id=0 then last else gd id),.bool (decide (id=0\/gd id>last))]):=by
 refine aC mI ?_;by_cases h:id=0
 .subst h;simp only[go_sem,mI,true_or,decide_true];exact an
 .simp only[go_sem,mI,aA h,ak h,false_or];refine aa (Cm id) ?_;exact aB [] (by simp only[go_sem,h,false_or]) (by first|rfl|simp[go_sem,bU])
def HV:aj pg 142 [] (.sl 1 (Il.map de)):=by
 refine aC x9 ?_;simp only[go_sem,x9];exact aB [1] (by rfl) rfl
def Co(l m:List fW):tot (l++m)=tot l+tot m:=by
 induction l with
 | nil=>simp[tot]
 | cons s l ih=>simp only[mr,tot,ih];omega
def Vh{l:List fW}{i:Nat}(h:i<l.length):tot (l.take (i+1))=tot (l.take i)+(gb (ac l i).bs).length+(ac l i).name.length:=by
 rw[Ze h,Co];simp[tot];omega
def Vg(l:List fW)(i:Nat):tot (l.take i)<=tot l:=by
 have:=Co (l.take i) (l.drop i);rw[Ku]at this;omega
def Gb{b:Af}{a:Nat}{n:Int}{ok:Bool}{e:Int}(h0:ok=true->e=0)(h:(aO ok b a e n).2.2=0)(ho:ok=false->e≠0)(ha:a<=b.length) :
  0<=n/\((n.toNat:Nat):Int)=n/\a+n.toNat<=b.length/\aO ok b a e n=(some ((b.drop a).take n.toNat),a+n.toNat,0):=by
 cases ok with
 | false=>exact absurd (by simpa[aO]using h) (ho rfl)
 | true =>
  obtain rfl:=h0 rfl;unfold aO at h⊢;simp only[aN]at h⊢;by_cases h1:n<0
  .rw[au h1]at h;exact absurd h (show ¬((1:Int)=0)by decide)
  rw[ak h1]at h⊢;by_cases h2:n>(b.length:Int)-a
  .rw[au h2]at h;exact absurd h (show ¬((3:Int)=0)by decide)
  rw[ak h2];exact⟨by omega,by omega,by omega,rfl⟩
def af5{bits:Nat}{b:Af}{a:Nat}{e:Int}{ok:Bool}:a<=(rU ok bits b a e).2.1:=by
 unfold rU
 repeat' split
 all_goals first|exact a_ _|exact Nat.le_add_right _ _
def Ul{bits:Nat}{b:Af}{a:Nat}:rU true bits b (a+1) 0=((rU true bits (b.drop a) 1 0).1,a+(rU true bits (b.drop a) 1 0).2.1,(rU true bits (b.drop a) 1 0).2.2):=by
 unfold rU;rw[AH];simp only[aN];split
 .rfl
 .simp only[P6]
def J1{ok:Bool}{b:Af}{a x:Nat}{e n:Int}(ha:a<=b.length):aO ok b (a+x) e n=((aO ok (b.drop a) x e n).1,a+(aO ok (b.drop a) x e n).2.1,(aO ok (b.drop a) x e n).2.2):=by
 unfold aO;cases ok with
 | false=>rfl
 | true =>
  simp only[aN,jK,AH];split
  .rfl
  have e1:((b.length-a:Nat):Int)-(x:Int)=(b.length:Int)-((a+x:Nat):Int):=by omega
  rw[e1];split
  .rfl
  .simp only[P6]
def Vf{b:Af}{a:Nat}(ha:a<=b.length) :
  aO ((rU true 32 b (a+1) 0).2.2==0) b (rU true 32 b (a+1) 0).2.1 (rU true 32 b (a+1) 0).2.2 (rU true 32 b (a+1) 0).1=((lm (b.drop a)).1,a+(lm (b.drop a)).2.1,(lm (b.drop a)).2.2):=by
 rw[Ul];exact J1 ha
def J0{b:Af}{a:Nat}(ha:a<b.length):eD true b a 0=(ac (b.drop a) 0,a+1,0):=by
 unfold eD;rw[au rfl,ak (by omega),TI];rfl
def Mh{d:Af}(hd:0<d.length)(h:(lm d).2.2=0):∃x,(lm d).1=some x/\1<=(lm d).2.1/\(lm d).2.1<=d.length/\x.length<=d.length:=by
 have h1:=af5 (bits:=32) (b:=d) (a:=1) (e:=0) (ok:=true);have h2:=PC (ok:=true) (bits:=32) (b:=d) (a:=1) (e:=0) (by omega);have h3:=Gb (ok:=((rU true 32 d 1 0).2.2==0)) (e:=(rU true 32 d 1 0).2.2) (n:=(rU true 32 d 1 0).1) (λh=>by simpa using h) h (λh=>by simpa using h) h2;obtain⟨g1,g2,g3,g4⟩:=h3;unfold lm;rw[g4];exact⟨_,rfl,by simp only;omega,by simp only;omega,by simp;omega⟩
def HL{d:Af}{last:Int}(hd:0<d.length)(h:(bP d last).1=0):(bP d last).2.2.length<d.length:=by
 unfold bP at h⊢;by_cases h1:(ac d 0).toNat>12
 .rw[au h1];exact hd
 rw[ak h1]at h⊢;by_cases h2:(lm d).2.2≠0
 .rw[au h2];exact hd
 rw[ak h2]at h⊢;obtain⟨x,g1,g2,g3,g4⟩:=Mh hd (ve.1 h2);split
 .exact hd
 split
 .exact hd
 .simp only[jK];omega
def Br:∀(f g:Nat)(d:Af)(last:Int)(acc:List fW),d.length<=f->d.length<=g->pp f d last acc=pp g d last acc
 | 0,0,_,_,_,_,_=>rfl
 | 0,g+1,d,last,acc,h,_=>by rw[pp,pp,au (by omega)]
 | f+1,0,d,last,acc,_,h=>by rw[pp,pp,au (by omega)]
 | f+1,g+1,d,last,acc,h1,h2=>by
  rw[pp,pp];by_cases h3:d.length=0
  .rw[au h3,au h3]
  rw[ak h3,ak h3];by_cases h4:(bP d last).1≠0
  .rw[au h4,au h4]
  rw[ak h4,ak h4];have:=HL (by omega) (ve.1 h4);exact Br f g _ _ _ (by omega) (by omega)
def y8{d:Af}{last:Int}{acc:List fW}(hd:0<d.length)(h:(bP d last).1≠0):Cn d last acc=((bP d last).1,[]):=by
 obtain⟨n,hn⟩:∃n,d.length=n+1:=⟨d.length-1,by omega⟩
 rw[Cn,hn,pp,ak (by omega),au h]
def Kg{d:Af}{last:Int}{acc:List fW}(hd:0<d.length)(h:(bP d last).1=0):Cn d last acc=Cn (bP d last).2.2 (max last (gd (bP d last).2.1.id)) (acc++[(bP d last).2.1]):=by
 obtain⟨n,hn⟩:∃n,d.length=n+1:=⟨d.length-1,by omega⟩
 have:=HL hd h;rw[Cn,hn,pp,ak (by omega),ak (by rw[h];simp),Cn];exact Br _ _ _ _ _ (by omega) (a_ _)
def Nu{d:Af}{last:Int}(h:(bP d last).1=0):(ac d 0).toNat<=12/\(lm d).2.2=0/\¬((ac d 0).toNat≠0/\gd (ac d 0).toNat<=last)/\(gc (ac d 0).toNat (gb (lm d).1)).1=0/\(bP d last).2=((gc (ac d 0).toNat (gb (lm d).1)).2,d.drop (lm d).2.1)/\(bP d last).2.1.id=(ac d 0).toNat:=by
 unfold bP at h⊢;by_cases h1:(ac d 0).toNat>12
 .rw[au h1]at h;exact absurd h (by decide)
 rw[ak h1]at h⊢;by_cases h2:(lm d).2.2≠0
 .rw[au h2]at h;exact absurd h h2
 rw[ak h2]at h⊢;by_cases h3:(ac d 0).toNat≠0/\gd (ac d 0).toNat<=last
 .rw[au h3]at h;exact absurd h (by decide)
 rw[ak h3]at h⊢;by_cases h4:(gc (ac d 0).toNat (gb (lm d).1)).1≠0
 .rw[au h4]at h;exact absurd h h4
 rw[ak h4];refine⟨by omega,ve.1 h2,h3,ve.1 h4,rfl,?_⟩;have h5:=ve.1 h4;unfold gc at h5⊢;by_cases h6:((ac d 0).toNat:Int)=0
 .rw[au h6]at h5⊢;split at h5
  .rename_i h7;exact absurd h5 h7
  .rename_i h7;rw[ak h7];exact h6.symm
 .rw[ak h6]
section
def qS(l:Af)(a:Nat)(h:a<=l.length):qR 1 (.sl 1 (l.map de)) (some (.int .i64 (a:Int))) none none=some (.sl 1 ((l.drop a).map de)):=by
 have h2:bQ 0 (some (.int .i64 (a:Int)))=some a:=by simp only[bQ];rw[au (by omega),eB]
 have h3:bQ (l.map de).length none=some l.length:=by simp[bQ]
 simp only[qR,h2,h3];rw[au ⟨trivial,h,a_ _,by simp⟩,List.map_drop,cI (by simp)]
attribute[local go_sem] rx ro
def ac4(id:Int)(body:Af)(hb:body.length<100000000):aj pg 152 [.int .i64 id,.sl 1 (body.map de)] (.tup [.agg (pG (gc id body).2),.int .i64 (gc id body).1]):=by
 refine aC oU ?_;have cp:=λx:Af=>Ou 30 1 x.length 5 (List.replicate x.length [.int .u8 0]) (x.map de) (by simp) (by simp);by_cases h:id=0
 .subst h;have hn:=HU (ok:=true) (b:=body) (a:=0) (e:=0) (cm _);simp only[go_sem,oU];refine qW (D0 body (by omega)) rfl (by simp[go_sem]) 901 (by decide) (by simp only[go_sem]) ?_;simp only[go_sem];have c1:=UQ true body 0 0 (cm _) (by omega);rw[show(true&&(0:Int)==0)=true from rfl]at c1;refine aE (c1) ?_;refine ae (aS true body ((ci true body 0 0).2.1:Nat) (ci true body 0 0).2.2) ?_;by_cases he:(ci true body 0 0).2.2=0
  .have r:gc 0 body=(0,⟨0,(ci true body 0 0).1,some (body.drop (ci true body 0 0).2.1)⟩):=by simp[gc,he]
   have hl:(body.drop (ci true body 0 0).2.1).length<=body.length:=by simp
   rw[r];simp only[go_sem,aI he];refine ae (aiM true body ((ci true body 0 0).2.1:Nat) (ci true body 0 0).2.2) ?_;simp only[go_sem,qS body (ci true body 0 0).2.1 hn,cp (body.drop (ci true body 0 0).2.1)];refine⟨⟨by omega,by omega,by omega⟩,aB [30] ?_ rfl⟩;simp only[go_sem,a_,bZ];rw[cI (by simp)]
  .have r:gc 0 body=((ci true body 0 0).2.2,default):=by simp[gc,he]
   rw[r];simp only[go_sem,bj he];exact aB [] (by first|rfl|simp only[go_sem]) rfl
 .have r:gc id body=(0,⟨id,[],some body⟩):=by simp[gc,h]
  rw[r];simp only[go_sem,oU,aA h,cp body,bZ];refine⟨⟨by omega,by omega,by omega⟩,aB [30] ?_ rfl⟩;simp only[go_sem,a_,bZ];rw[cI (by simp)]
end
section
def MG(l:Af)(a:Nat)(h:a<=l.length):qR 1 (.sl 1 (l.map de)) none (some (.int .i64 (a:Int))) none=some (.sl 1 ((l.take a).map de)):=by
 have h2:bQ (l.map de).length (some (.int .i64 (a:Int)))=some a:=by simp only[bQ];rw[au (by omega),eB]
 have h3:bQ (l.map de).length none=some l.length:=by simp[bQ]
 have h4:bQ 0 none=some 0:=rfl;simp only[qR,h2,h3,h4];rw[au ⟨trivial,cm _,by simpa using h,by simp⟩,vX,Nat.sub_zero,List.map_take]
attribute[local go_sem] rx ro
def Y1(b:Af)(hb:b.length<100000000):aj pg 39 [.sl 1 (b.map de)] (.tup [.sl 3 ((oy b).2.map pG),.int .i64 (oy b).1]):=by
 refine aC fN ?_;by_cases h1:(b.length:Int)>262144
 .have r:oy b=(6,[]):=by rw[oy,au (by omega)]
  rw[r];simp only[go_sem,fN,aK h1];exact bN (Wk.nls _ 2 3 (by simp only[go_sem])) [] (by first|rfl|simp only[go_sem]) rfl
 by_cases h2:(b.length:Int)<8
 .have r:oy b=(4,[]):=by rw[oy,ak (by omega),au (.inl (by omega))]
  rw[r];simp only[go_sem,fN,aL h1,aK h2];exact bN (Wk.nls _ 2 3 (by simp only[go_sem])) [] (by first|rfl|simp only[go_sem]) rfl
 have a1:=MG b 8 (by omega);have a2:=qS b 8 (by omega);rw[show(((8:Nat):Int))=8 from rfl]at a1 a2;by_cases h3:b.take 8=Il
 .have r:oy b=Cn (b.drop 8) 0 []:=by rw[oy,ak (by omega),ak (by simp[h3];omega)]
  have d3:(b.take 8==[0,97,115,109,1,0,0,0])=true:=by rw[h3];rfl
  rw[r];generalize hd:b.drop 8=d at*;have hdl:d.length<100000000:=by rw[<-hd];simp;omega
  simp only[go_sem,fN,aL h1,aL h2,a1,a2,dL,d3,dk];refine qW (D0 d (by omega)) rfl (by simp[go_sem]) 901 (by decide) (by simp only[go_sem]) ?_;simp only[go_sem];refine aq (λq:Nat×Int×List fW=>⟨[(4,.ms 900 3 0 q.2.2.length),(5,.int .i64 q.2.1),(6,.mp 901 4 0 0)],[(900,⟨69,3,q.2.2.map pG,false⟩),(901,ro true d (q.1:Nat) 0)]⟩) (λq=>q.1<=d.length/\0<=q.2.1/\q.2.2.length<=q.1/\Cn (d.drop q.1) q.2.1 q.2.2=Cn d 0 []) (λq=>d.length-q.1) (0,0,[]) ⟨cm _,Int.le_refl _,a_ _,rfl⟩ ((Wk.nil _ 4 900 3 69 (by simp only[go_sem]) (.inl (by decide))).trans (Wk.of ?_ ?_)) ?_
  .simp only[go_sem,St.mknil];try simp[go_sem]
  .simp only[go_sem,St.mknil];try simp[go_sem,ro]
  rintro⟨a,last,acc⟩ ⟨ha,hla,hac,hs⟩;replace ha:a<=d.length:=ha;replace hla:0<=last:=hla;replace hac:acc.length<=a:=hac;replace hs:Cn (d.drop a) last acc=Cn d 0 []:=hs;simp only[go_sem];have cl:=ac2 true d a 0 ha (by omega);have rl:wV (true&&(0:Int)==0) d a=(d.length:Int)-a:=rfl;rw[rl]at cl;refine ae (cl) ?_;by_cases hlt:a<d.length
  .have hdp:0<(d.drop a).length:=by simp;omega
   have cb:=po true d a 0 ha (by omega);rw[show(true&&(0:Int)==0)=true from rfl,J0 hlt]at cb;simp only[go_sem,aK (show(d.length:Int)-a>0 by omega)];refine ae (cb) ?_;have hx:=(ac (d.drop a) 0).toNat_lt;have w1:IntKind.i64.wrap ((ac (d.drop a) 0).toNat:Int)=((ac (d.drop a) 0).toNat:Int):=wi (by omega) (by omega);by_cases h12:(ac (d.drop a) 0).toNat>12
   .have r2:bP (d.drop a) last=(4,default,[]):=by rw[bP,au h12]
    rw[<-hs,y8 hdp (by rw[r2];simp),r2];simp only[go_sem,w1,aK (show((ac (d.drop a) 0).toNat:Int)>12 by omega)];exact bN (Wk.nls _ 2 3 (by simp only[go_sem])) [] (by first|rfl|simp only[go_sem]) rfl
   have cu:=fj true d (a+1) 0 (by omega) (by omega);have hua:=PC (ok:=true) (bits:=32) (b:=d) (a:=a+1) (e:=0) (by omega);have hul:=wW true d (a+1) 0;have ct:=u9 true d (rU true 32 d (a+1) 0).2.1 (rU true 32 d (a+1) 0).2.2 (rU true 32 d (a+1) 0).1 hua (by omega) ⟨by omega,by omega⟩;rw[show(true&&(0:Int)==0)=true from rfl]at cu;rw[bY,Vf ha]at ct;simp only[go_sem,w1,aL (show ¬((ac (d.drop a) 0).toNat:Int)>12 by omega)];refine aE (cu) ?_;refine aE (ct) ?_;refine ae (aS true d ((a+(lm (d.drop a)).2.1:Nat):Int) (lm (d.drop a)).2.2) ?_;by_cases he:(lm (d.drop a)).2.2=0
   .obtain⟨x,g1,g2,g3,g4⟩:=Mh hdp he;simp only[go_sem,aI he,g1];refine ab (H1 ((ac (d.drop a) 0).toNat:Int) last) ?_;have hd3:(d.drop a).length=d.length-a:=by simp
    by_cases hr:(ac (d.drop a) 0).toNat≠0/\gd (ac (d.drop a) 0).toNat<=last
    .have r2:bP (d.drop a) last=(7,default,[]):=by rw[bP,ak h12,ak (by rw[he];simp),au hr]
     have d5:decide (((ac (d.drop a) 0).toNat:Int)=0\/gd ((ac (d.drop a) 0).toNat:Int)>last)=false:=aL (by omega);rw[<-hs,y8 hdp (by rw[r2];simp),r2];simp only[go_sem,d5,cG];exact bN (Wk.nls _ 2 3 (by simp only[go_sem])) [] (by first|rfl|simp only[go_sem]) rfl
    have d5:decide (((ac (d.drop a) 0).toNat:Int)=0\/gd ((ac (d.drop a) 0).toNat:Int)>last)=true:=aK (by omega);simp only[go_sem,d5,dk];refine ab (ac4 ((ac (d.drop a) 0).toNat:Int) x (by omega)) ?_;by_cases hp:(gc ((ac (d.drop a) 0).toNat:Int) x).1=0
    .have r2:bP (d.drop a) last=(0,(gc ((ac (d.drop a) 0).toNat:Int) x).2,(d.drop a).drop (lm (d.drop a)).2.1):=by
      rw[bP,ak h12,ak (by rw[he];simp),ak hr,g1,db,ak (by rw[hp];simp)]
     have hid:=(Nu (d:=d.drop a) (last:=last) (by rw[r2])).2.2.2.2.2;have hst:=Kg (last:=last) (acc:=acc) hdp (by rw[r2]);rw[r2]at hid hst;replace hid:(gc ((ac (d.drop a) 0).toNat:Int) x).2.id=((ac (d.drop a) 0).toNat:Int):=hid;have hmx:max last (gd (gc ((ac (d.drop a) 0).toNat:Int) x).2.id)=if((ac (d.drop a) 0).toNat:Int)=0 then last else gd ((ac (d.drop a) 0).toNat:Int):=by
      rw[hid];split
      .rename_i h0;rw[h0,F5 (by omega)];omega
      .omega
     have happ:=λys=>bq 900 69 3 acc.length pG acc ys rfl;simp only[go_sem,aI hp,happ];refine⟨by omega,aF (a+(lm (d.drop a)).2.1,(if((ac (d.drop a) 0).toNat:Int)=0 then last else gd ((ac (d.drop a) 0).toNat:Int)),acc++[(gc ((ac (d.drop a) 0).toNat:Int) x).2]) ⟨?_,?_,?_,?_⟩ (show d.length-(a+(lm (d.drop a)).2.1)<d.length-a by omega) (Wk.of ?_ ?_)⟩
     .show a+(lm (d.drop a)).2.1<=d.length;omega
     .show(0:Int)<=(if((ac (d.drop a) 0).toNat:Int)=0 then last else gd ((ac (d.drop a) 0).toNat:Int));have:=(DH ((ac (d.drop a) 0).toNat:Int)).1;split<;>omega
     .show(acc++[(gc ((ac (d.drop a) 0).toNat:Int) x).2]).length<=a+(lm (d.drop a)).2.1;rw[cP,dK];omega
     .show Cn (d.drop (a+(lm (d.drop a)).2.1)) (if((ac (d.drop a) 0).toNat:Int)=0 then last else gd ((ac (d.drop a) 0).toNat:Int)) (acc++[(gc ((ac (d.drop a) 0).toNat:Int) x).2])=_;rw[<-hmx,<-AH,<-hst,hs]
     .simp only[go_sem,cP,dK]
      try simp
     .simp only[go_sem,oz,eG,qF,he]
    .have r2:bP (d.drop a) last=((gc ((ac (d.drop a) 0).toNat:Int) x).1,default,[]):=by
      rw[bP,ak h12,ak (by rw[he];simp),ak hr,g1,db,au hp]
     rw[<-hs,y8 hdp (by rw[r2];exact hp),r2];simp only[go_sem,bj hp];exact bN (Wk.nls _ 2 3 (by simp only[go_sem])) [] (by first|rfl|simp only[go_sem]) rfl
   .have r2:bP (d.drop a) last=((lm (d.drop a)).2.2,default,[]):=by rw[bP,ak h12,au he]
    rw[<-hs,y8 hdp (by rw[r2];exact he),r2];simp only[go_sem,bj he];exact bN (Wk.nls _ 2 3 (by simp only[go_sem])) [] (by first|rfl|simp only[go_sem]) rfl
  .obtain rfl:a=d.length:=by omega
   have r2:Cn (d.drop d.length) last acc=(0,acc):=by rw[List.drop_length];rfl
   rw[<-hs,r2];simp only[go_sem,aL (show ¬(d.length:Int)-(d.length:Int)>0 by omega)];refine aB [900] ?_ rfl;simp only[go_sem,a_,bZ];rw[cI (by simp)]
 .have r:oy b=(4,[]):=by rw[oy,ak (by omega),au (.inr h3)]
  have d3:(b.take 8==[0,97,115,109,1,0,0,0])=false:=by simpa[Il]using h3
  rw[r];simp only[go_sem,fN,aL h1,aL h2,a1,dL,d3,cG];exact bN (Wk.nls _ 2 3 (by simp only[go_sem])) [] (by first|rfl|simp only[go_sem]) rfl
end
section
attribute[local go_sem] rx
def af7(d:Af)(last:Int)(hd:0<d.length)(hb:d.length<100000000):aj pg 177 [.sl 1 (d.map de),.int .i64 last] (.tup [.agg (pG (bP d last).2.1),.sl 1 ((bP d last).2.2.map de),.int .i64 (bP d last).1]):=by
 refine aC AX ?_;have cb:=qu d 0 0 (cm _) (by omega);have rb:eD ((0:Int)==0) d 0 0=(ac d 0,1,0):=J0 (a:=0) hd;rw[rb]at cb;have cu:=bR d 1 0 (by omega) (by omega);rw[show((0:Int)==0)=true from rfl]at cu;have hua:=PC (ok:=true) (bits:=32) (b:=d) (a:=1) (e:=0) (by omega);have hul:=wW true d 1 0;have ct:=uV d (rU true 32 d 1 0).2.1 (rU true 32 d 1 0).2.2 (rU true 32 d 1 0).1 hua (by omega) ⟨by omega,by omega⟩;rw[show aO ((rU true 32 d 1 0).2.2==0) d (rU true 32 d 1 0).2.1 (rU true 32 d 1 0).2.2 (rU true 32 d 1 0).1=lm d from rfl]at ct;have hx:=(ac d 0).toNat_lt;have w1:IntKind.i64.wrap ((ac d 0).toNat:Int)=((ac d 0).toNat:Int):=wi (by omega) (by omega);simp only[go_sem,AX];refine aa (LN d) ?_;refine ab (cb) ?_;by_cases h12:(ac d 0).toNat>12
 .have r2:bP d last=(4,default,[]):=by rw[bP,au h12]
  rw[r2];simp only[go_sem,aK (show((ac d 0).toNat:Int)>12 by omega)];exact bN (Wk.nls _ 5 1 (by simp only[go_sem])) [] (by first|rfl|simp only[go_sem]) rfl
 simp only[go_sem,aL (show ¬((ac d 0).toNat:Int)>12 by omega)];refine aa (cu) ?_;refine ab (ct) ?_;by_cases he:(lm d).2.2=0
 .obtain⟨x,g1,g2,g3,g4⟩:=Mh hd he;have e2:=qS d (lm d).2.1 g3;by_cases h0:(ac d 0).toNat=0
  .have z:((ac d 0).toNat:Int)=0:=by omega
   have cn:=Ug x 0 0 (cm _) (by omega);rw[show((0:Int)==0)=true from rfl]at cn;have hn:=HU (ok:=true) (b:=x) (a:=0) (e:=0) (cm _);simp only[go_sem,aI he,g1,w1,aI z,dt z];refine aa (LN x) ?_;refine ab (cn) ?_;by_cases hp:(ci true x 0 0).2.2=0
   .have r2:bP d last=(0,⟨0,(ci true x 0 0).1,some (x.drop (ci true x 0 0).2.1)⟩,d.drop (lm d).2.1):=by
     rw[bP,ak h12,ak (by rw[he];simp),ak (by omega),g1,db,gc,au z,ak (ve.2 hp),ak (by simp)]
    rw[r2];simp only[go_sem,aI hp,qS x (ci true x 0 0).2.1 hn,e2,z];exact an
   .have r2:bP d last=((ci true x 0 0).2.2,default,[]):=by
     rw[bP,ak h12,ak (by rw[he];simp),ak (by omega),g1,db,gc,au z,au hp,au hp]
    rw[r2];simp only[go_sem,bj hp];exact bN (Wk.nls _ 5 1 (by simp only[go_sem])) [] (by first|rfl|simp only[go_sem]) rfl
  .have z:¬((ac d 0).toNat:Int)=0:=by omega
   simp only[go_sem,aI he,g1,w1,bj z,aA z];refine ab (HW ((ac d 0).toNat:Int)) ?_;by_cases hr:gd ((ac d 0).toNat:Int)<=last
   .have r2:bP d last=(7,default,[]):=by rw[bP,ak h12,ak (by rw[he];simp),au ⟨h0,hr⟩]
    rw[r2];simp only[go_sem,aK hr];exact bN (Wk.nls _ 5 1 (by simp only[go_sem])) [] (by first|rfl|simp only[go_sem]) rfl
   .have r2:bP d last=(0,⟨(ac d 0).toNat,[],some x⟩,d.drop (lm d).2.1):=by
     rw[bP,ak h12,ak (by rw[he];simp),ak (λh=>hr h.2),g1,db,gc,ak z,ak (by simp)]
    rw[r2];simp only[go_sem,aL hr,bj z,aA z,e2];exact an
 .have r2:bP d last=((lm d).2.2,default,[]):=by rw[bP,ak h12,au he]
  rw[r2];simp only[go_sem,bj he];exact bN (Wk.nls _ 5 1 (by simp only[go_sem])) [] (by first|rfl|simp only[go_sem]) rfl
def YK(b:Af)(hb:b.length<100000000):aj pg 51 [.sl 1 (b.map de)] (.tup [.sl 3 ((oy b).2.map pG),.int .i64 (oy b).1]):=by
 refine aC i7 ?_;by_cases h1:(b.length:Int)>262144
 .have r:oy b=(6,[]):=by rw[oy,au (by omega)]
  rw[r];simp only[go_sem,i7,aK h1];exact bN (Wk.nls _ 2 3 (by simp only[go_sem])) [] (by first|rfl|simp only[go_sem]) rfl
 by_cases h2:(b.length:Int)<8
 .have r:oy b=(4,[]):=by rw[oy,ak (by omega),au (.inl (by omega))]
  rw[r];simp only[go_sem,i7,aL h1,aK h2];exact bN (Wk.nls _ 2 3 (by simp only[go_sem])) [] (by first|rfl|simp only[go_sem]) rfl
 have a1:=MG b 8 (by omega);have a2:=qS b 8 (by omega);rw[show(((8:Nat):Int))=8 from rfl]at a1 a2;by_cases h3:b.take 8=Il
 .have r:oy b=Cn (b.drop 8) 0 []:=by rw[oy,ak (by omega),ak (by simp[h3];omega)]
  have d3:(b.take 8==Il)=true:=by rw[h3];rfl
  rw[r];generalize hd:b.drop 8=d at*;have hdl:d.length<100000000:=by rw[<-hd];simp;omega
  simp only[go_sem,i7,aL h1,aL h2,a1,a2,dL]
  first|refine dd HV (by simp[go_sem]) ?_|refine cJ HV (by simp[go_sem]) rfl ?_
  simp only[go_sem,dL,d3,dk,a2];refine aq (λq:Af×Int×List fW=>⟨[(4,.ms 900 3 0 q.2.2.length),(5,.int .i64 q.2.1),(0,.sl 1 (q.1.map de))],[(900,⟨83,3,q.2.2.map pG,false⟩)]⟩) (λq=>q.1.length<=d.length/\0<=q.2.1/\q.2.2.length+q.1.length<=d.length/\Cn q.1 q.2.1 q.2.2=Cn d 0 []) (λq=>q.1.length) (d,0,[]) ⟨a_ _,Int.le_refl _,by simp,rfl⟩ ((Wk.nil _ 4 900 3 83 (by simp only[go_sem]) (.inl (by decide))).trans (Wk.of ?_ ?_)) ?_
  .simp only[go_sem,St.mknil];try simp[go_sem]
  .simp only[go_sem,St.mknil];try simp[go_sem]
  rintro⟨x,last,acc⟩ ⟨ha,hla,hac,hs⟩;replace ha:x.length<=d.length:=ha;replace hla:0<=last:=hla;replace hac:acc.length+x.length<=d.length:=hac;replace hs:Cn x last acc=Cn d 0 []:=hs;by_cases hx:0<x.length
  .simp only[go_sem,aK (show(x.length:Int)>0 by omega)];refine ab (af7 x last hx (by omega)) ?_;by_cases he:(bP x last).1=0
   .have hid:=(Nu he).2.2.2.2.2;have hst:=Kg (acc:=acc) hx he;have hlt:=HL hx he;have hpc:=DH (bP x last).2.1.id;have hmx:(if(last:Int)<gd (bP x last).2.1.id then gd (bP x last).2.1.id else last)=max last (gd (bP x last).2.1.id):=by split<;>omega
    have happ:=λys=>bq 900 83 3 acc.length pG acc ys rfl;simp only[go_sem,aI he];refine ab (HW (bP x last).2.1.id) ?_;simp only[go_sem,happ];refine⟨by omega,aF ((bP x last).2.2,max last (gd (bP x last).2.1.id),acc++[(bP x last).2.1]) ⟨?_,?_,?_,?_⟩ hlt (Wk.of ?_ ?_)⟩
    .show(bP x last).2.2.length<=d.length;omega
    .show(0:Int)<=max last (gd (bP x last).2.1.id);omega
    .show(acc++[(bP x last).2.1]).length+(bP x last).2.2.length<=d.length;rw[cP,dK];omega
    .show Cn (bP x last).2.2 (max last (gd (bP x last).2.1.id)) (acc++[(bP x last).2.1])=_;rw[<-hst,hs]
    .simp only[go_sem,cP,dK,hmx]
     try simp
    .simp only[go_sem,oz,eG,qF]
   .rw[<-hs,y8 hx he];simp only[go_sem,bj he];exact bN (Wk.nls _ 2 3 (by simp only[go_sem])) [] (by first|rfl|simp only[go_sem]) rfl
  .have r0:Cn x last acc=(0,acc):=by
    rw[show x=[] from B0 (by omega)];rfl
   rw[<-hs,r0];simp only[go_sem,aL (show ¬(x.length:Int)>0 by omega)];refine aB [900] ?_ rfl;simp only[go_sem,a_,bZ];rw[cI (by simp)]
 .have r:oy b=(4,[]):=by rw[oy,ak (by omega),au (.inr h3)]
  have d3:(b.take 8==Il)=false:=by simpa using h3
  rw[r];simp only[go_sem,i7,aL h1,aL h2,a1,dL]
  first|refine dd HV (by simp[go_sem]) ?_|refine cJ HV (by simp[go_sem]) rfl ?_
  simp only[go_sem,dL,d3,cG];exact bN (Wk.nls _ 2 3 (by simp only[go_sem])) [] (by first|rfl|simp only[go_sem]) rfl
end
section
def Hw(o:Option (Af)):nla (Kf o) (.sl 1 ((gb o).map de)):=by
 cases o
 .exact .inr (.inl ⟨rfl,1,rfl⟩)
 .exact .inl rfl
def SP{s:fW}{last:Int}(h:s.id<0\/s.id>12\/(s.id≠0/\s.name≠[])):Lg s last=4:=by rw[Lg,au h]
def ae9{s:fW}{last:Int}(h:1<=s.id/\s.id<=12)(hn:s.name=[])(hp:gd s.id<=last):Lg s last=7:=by
 rw[Lg,ak (by rw[hn];simp;omega),au ⟨by omega,hp⟩]
def abv{s:fW}{last:Int}(h:1<=s.id/\s.id<=12)(hn:s.name=[])(hp:¬gd s.id<=last):Lg s last=0:=by
 rw[Lg,ak (by rw[hn];simp;omega),ak (λh=>hp h.2),ak (by omega)]
def ae8{s:fW}{last:Int}(h:s.id=0):Lg s last=(wN true [] 0 s.name).2/\((wN true [] 0 s.name).2=0->(wN true [] 0 s.name).1=aD s.name.length++s.name):=by
 rw[Lg,ak (by rw[h];simp),ak (λh2=>h2.1 h),au h];unfold wN;simp only[aN];split
 .exact⟨rfl,λh=>absurd h (by decide)⟩
 split
 .exact⟨rfl,λh=>absurd h (by decide)⟩
 .exact⟨rfl,λ_=>by simp⟩
def Xg{l:List fW}{i:Nat}{last:Int}{w:Af}(hi:i<l.length)(h:Lg (ac l i) last≠0):Xf (l.drop i) last w=(Lg (ac l i) last,[]):=by
 rw[ML hi,Xf,au h]
def I8{l:List fW}{i:Nat}{last:Int}{w:Af}(hi:i<l.length)(h:Lg (ac l i) last=0):Xf (l.drop i) last w=Xf (l.drop (i+1)) (max last (gd (ac l i).id)) (w++r_ (ac l i)):=by
 rw[ML hi,Xf,ak (by rw[h];simp)]
def WL(s:fW):(C4 s).length<=(gb s.bs).length+s.name.length+(aD s.name.length).length:=by
 unfold C4;split
 .simp only[cP];omega
 .omega
attribute[local go_sem] wx
end
section
attribute[local go_sem] wo wa
