import Derived.Test.YtjndcljjbpeljaaGreatDoorPQf
import Derived.Lib.DecodeN
set_option linter.all false
set_option maxRecDepth 100000
set_option maxHeartbeats 40000000
namespace Go.Proofs.YtjndcljjbpeljaaGreatDoor
section
open Go Go.Mw
def wx (l:List UInt8) (e:Int):AV:=.agg [.sl 1 (l.map dJ),.int .i64 e]
theorem Dg (id:Nat) (ys:List (List AV)) (hy:ys.length<100000000000) (hid:id<1000):l8 id 5 1 0 0 ys (some ⟨5,1,[],false⟩)=some (.ms id 1 0 ys.length,.reb id ⟨5,1,ys,false⟩):=by
 have h:=bu id 5 1 0 dJ [] ys rfl
 rw [aK ⟨by omega,by decide,.inl hid⟩] at h
 simpa using h
theorem HO (id:Nat) (l x:List UInt8) (hl:l.length<100000000000) (hx:x.length<100000000000) (hid:id<1000):l8 id 5 1 0 l.length (x.map dJ) (some ⟨5,1,l.map dJ,false⟩)=some (.ms id 1 0 (l.length+x.length),.reb id ⟨5,1,(l++x).map dJ,false⟩):=by
 have h:=bu id 5 1 l.length dJ l (x.map dJ) rfl
 rw [aK ⟨by simp;omega,by omega,.inl hid⟩] at h
 rw [h,List.map_append,cY]
attribute [local go_sem] wx
theorem kz (l:List UInt8) (e x:Int):ae Tryz.prog Zp [wx l e,.int .i64 x] (wx l (if e=0 then x else e)):=by
 refine ab (ic:=G_.body) aq XC rfl rfl ?_
 by_cases h:e=0
 ·subst h
  simp only [go_sem,G_]
  exact aj
 ·simp only [go_sem,G_,aN h,aD h]
  exact aj
theorem fl (l:List UInt8) (e:Int) (hl:l.length<50000000000) (x:List UInt8) (hx:x.length<50000000000):ae Tryz.prog UW [wx l e,.sl 1 (x.map dJ)] (wx (wB (e==0) l x) e):=by
 refine ab (ic:=G8.body) aq Xs rfl rfl ?_
 by_cases h:e=0
 ·subst h
  have r:wB ((0:Int)==0) l x=l++x:=rfl
  have a1:=Dg 9 (l.map dJ) (by simp;omega) (by decide)
  have a2:=HO 9 l x (by omega) (by omega) (by decide)
  rw [cY] at a1
  rw [r]
  simp only [go_sem,G8,a1,a2,cY]
  refine au [9] ?_ ?_
  ·simp only [go_sem,bj,cY,aJ]
   rw [dS (by simp)]
  ·rfl
 ·have r:wB (e==0) l x=l:=by simp [wB,h]
  rw [r]
  simp only [go_sem,G8,aZ h]
  exact aj
section
variable (l:List UInt8) (e:Int) (hl:l.length<45000000000)
include hl
theorem pZ (x:UInt8):ae Tryz.prog O0 [wx l e,.int .u8 x.toNat] (wx (wB (e==0) l [x]) e):=by
 refine ab (ic:=MG.body) aq XB rfl rfl ?_
 simp only [go_sem,MG]
 refine i5 [7] ?_ (fl l e (by omega) [x] (by simp)) (by simp [go_sem]) ?_
 ·simp only [go_sem,bj,aQ,ay]
 simp only [go_sem]
 exact aj
theorem yL (n:Int):ae Tryz.prog tp [wx l e,.int .i64 n] (wx (wU (e==0) l e n).1 (wU (e==0) l e n).2):=by
 refine ab (ic:=Cr.body) aq XW rfl rfl ?_
 have bad:n<0∨n>4294967295→wU (e==0) l e n=(l,if e=0 then 1 else e):=fun h=>by
  unfold wU
  by_cases h2:e=0<;>simp [h,h2]
 by_cases h1:n<0
 ·rw [bad (.inl h1)]
  simp only [go_sem,Cr,aF h1]
  refine aa (kz l e 1) ?_
  simp only [go_sem]
  exact aj
 ·by_cases h2:n≥4294967296
  ·rw [bad (.inr (by omega))]
   simp only [go_sem,Cr,aG h1,aF h2]
   refine aa (kz l e 1) ?_
   simp only [go_sem]
   exact aj
  ·obtain ⟨k,rfl⟩:=xG (show 0≤n by omega)
   have h3:¬((k:Int)<0∨(k:Int)>4294967295):=by omega
   have r:wU (e==0) l e k=(wB (e==0) l (aA k),e):=by
    unfold wU wB
    cases (e==0)<;>simp only [bF,aD h3,gK,dc,ib]
   have w1:IntKind.u64.wrap (k:Int)=(k:Int):=by rw [sn];omega
   have hp:=iI (n:=k) (by omega)
   rw [r]
   simp only [go_sem,Cr,aG h1,aG h2,w1]
   first | refine aa (yY k (by omega)) ?_ | refine aB (yY k (by omega)) (by simp [go_sem]) rfl ?_
   simp only [go_sem]
   refine aa (fl l e (by omega) (aA k) (by omega)) ?_
   simp only [go_sem]
   exact aj
theorem Lw (x:Int):ae Tryz.prog O1 [wx l e,.int .u64 x] (wx (wS (e==0) l (Bh x)) e):=by
 refine ab (ic:=MV.body) aq XT rfl rfl ?_
 have h1:=FM x
 have h2:=oJ (n:=Bh x) ⟨by omega,by omega⟩
 simp only [go_sem,MV]
 first | refine aa (kV (Bh x) (by omega)) ?_ | refine aB (kV (Bh x) (by omega)) (by simp [go_sem]) rfl ?_
 simp only [go_sem]
 refine aa (fl l e (by omega) (fq (Bh x)) (by omega)) ?_
 simp only [go_sem]
 exact au [] (by simp only [go_sem];rfl) rfl
theorem Lx (x:Int):ae Tryz.prog O2 [wx l e,.int .u64 x] (wx (wS (e==0) l (IntKind.i64.wrap x)) e):=by
 refine ab (ic:=MW.body) aq XV rfl rfl ?_
 have h2:=oJ (i64_in x)
 simp only [go_sem,MW]
 first | refine aa (kV (IntKind.i64.wrap x) (i64_in x)) ?_ | refine aB (kV (IntKind.i64.wrap x) (i64_in x)) (by simp [go_sem]) rfl ?_
 simp only [go_sem]
 refine aa (fl l e (by omega) (fq (IntKind.i64.wrap x)) (by omega)) ?_
 simp only [go_sem]
 exact au [] (by simp only [go_sem];rfl) rfl
theorem U6 (x:Int) (hx:Ov x):ae Tryz.prog ZD [wx l e,.int .i64 x] (wx (vO (e==0) l e x).1 (vO (e==0) l e x).2):=by
 refine ab (ic:=Cq.body) aq XU rfl rfl ?_
 have bad:x < -4294967296∨x>4294967295→vO (e==0) l e x=(l,if e=0 then 1 else e):=fun h=>by
  unfold vO
  by_cases h2:e=0<;>simp [h,h2]
 by_cases h1:x < -4294967296
 ·rw [bad (.inl h1)]
  simp only [go_sem,Cq,aF h1]
  refine aa (kz l e 1) ?_
  simp only [go_sem]
  exact aj
 ·by_cases h2:x≥4294967296
  ·rw [bad (.inr (by omega))]
   simp only [go_sem,Cq,aG h1,aF h2]
   refine aa (kz l e 1) ?_
   simp only [go_sem]
   exact aj
  ·have h3:¬(x < -4294967296∨x>4294967295):=by omega
   have r:vO (e==0) l e x=(wS (e==0) l x,e):=by rw [vO,aD h3]
   have h4:=oJ hx
   rw [r]
   simp only [go_sem,Cq,aG h1,aG h2]
   first | refine aa (kV x hx) ?_ | refine aB (kV x hx) (by simp [go_sem]) rfl ?_
   simp only [go_sem]
   refine aa (fl l e (by omega) (fq x) (by omega)) ?_
   simp only [go_sem]
   exact au [] (by simp only [go_sem];rfl) rfl
theorem Fh (x:List UInt8) (hx:x.length<1000000000):ae Tryz.prog UX [wx l e,.str x] (wx (wN (e==0) l e x).1 (wN (e==0) l e x).2):=by
 refine ab (ic:=MH.body) aq XD rfl rfl ?_
 simp only [go_sem,MH]
 refine aa (FT x (by omega)) ?_
 cases hv:uv x
 ·have r:wN (e==0) l e x=(l,if e=0 then 9 else e):=by
   unfold wN;by_cases h2:e=0<;>simp [hv,h2]
  rw [r]
  simp only [go_sem]
  refine aa (kz l e 9) ?_
  simp only [go_sem]
  exact aj
 ·by_cases h64:x.length>64
  ·have d1:decide ((x.length:Int)>64)=true:=aF (by omega)
   have r:wN (e==0) l e x=(l,if e=0 then 6 else e):=by
    unfold wN;by_cases h2:e=0<;>simp [hv,h64,h2]
   rw [r]
   simp only [go_sem,d1]
   refine aa (kz l e 6) ?_
   simp only [go_sem]
   exact aj
  ·have d1:decide ((x.length:Int)>64)=false:=aG (by omega)
   have r1:wU (e==0) l e x.length=(wB (e==0) l (aA x.length),e):=by
    unfold wU wB
    have h1:¬((x.length:Int)<0∨(x.length:Int)>4294967295):=by omega
    cases (e==0)<;>simp only [bF,aD h1,gK,dc,ib]
   have r:wN (e==0) l e x=(wB (e==0) (wB (e==0) l (aA x.length)) x,e):=by
    unfold wN wB;cases (e==0)<;>simp [hv,h64]
   have hp:=iI (n:=x.length) (by omega)
   have hl2:=qs (ok:=(e==0)) (l:=l) (x:=aA x.length)
   have c1:=yL l e hl x.length
   rw [r1] at c1
   rw [r]
   simp only [go_sem,d1]
   refine aa (c1) ?_
   simp only [go_sem]
   refine ⟨by omega,?_⟩
   refine i5 [20] ?_ (fl (wB (e==0) l (aA x.length)) e (by omega) x (by omega)) (by simp [go_sem]) ?_
   ·simp only [go_sem,bj,cY]
    rw [dS (by simp)]
    rfl
   simp only [go_sem]
   exact aj
theorem Fi (x:List UInt8) (ex:Int) (hx:x.length<1000000000):ae Tryz.prog UY [wx l e,wx x ex] (wx (wP (e==0) l e true x ex).1 (wP (e==0) l e true x ex).2):=by
 refine ab (ic:=Ha.body) aq XE rfl rfl ?_
 by_cases h:ex=0
 ·subst h
  have r1:wU (e==0) l e x.length=(wB (e==0) l (aA x.length),e):=by
   unfold wU wB
   have h1:¬((x.length:Int)<0∨(x.length:Int)>4294967295):=by omega
   cases (e==0)<;>simp only [bF,aD h1,gK,dc,ib]
  have r:wP (e==0) l e true x 0=(wB (e==0) (wB (e==0) l (aA x.length)) x,e):=by simp [wP]
  have hp:=iI (n:=x.length) (by omega)
  have hl2:=qs (ok:=(e==0)) (l:=l) (x:=aA x.length)
  have c1:=yL l e hl x.length
  rw [r1] at c1
  rw [r]
  simp only [go_sem,Ha,cY]
  first | refine ck c1 (by simp [go_sem]) ?_ | refine aB c1 (by simp [go_sem]) rfl ?_
  simp only [go_sem]
  refine aa (fl (wB (e==0) l (aA x.length)) e (by omega) x (by omega)) ?_
  simp only [go_sem]
  exact aj
 ·have r:wP (e==0) l e true x ex=(l,if e=0 then ex else e):=by simp [wP,h]
  rw [r]
  simp only [go_sem,Ha,aZ h]
  refine aa (kz l e ex) ?_
  simp only [go_sem]
  exact aj
end
theorem Fg (l:List UInt8) (e:Int):ae Tryz.prog Uf [wx l e] (.tup [FW (wD true l e).1,.int .i64 (wD true l e).2]):=by
 refine ab (ic:=xN.body) aq Sc rfl rfl ?_
 by_cases h:e=0
 ·subst h
  have r:wD true l 0=(some l,0):=rfl
  rw [r]
  simp only [go_sem,xN]
  exact aj
 ·have r:wD true l e=(none,e):=by simp [wD,h]
  rw [r]
  simp only [go_sem,xN,aZ h]
  exact aj
end
open Go Go.Mw
structure Nm where
 i:Int
 s:List UInt8
instance:Inhabited Nm:=⟨⟨0,[]⟩⟩
deriving instance DecidableEq for Nm
structure Lc where
 f:Int
 l:List Nm
instance:Inhabited Lc:=⟨⟨0,[]⟩⟩
deriving instance DecidableEq for Lc
structure Ns where
 m:List UInt8
 fs:List Nm
 ls:List Lc
instance:Inhabited Ns:=⟨⟨[],[],[]⟩⟩
deriving instance DecidableEq for Ns
def nw (n:Nm):List AV:=[.int .i64 n.i,.str n.s]
def qK (x:Lc):List AV:=[.int .i64 x.f,.sl 2 (x.l.map nw)]
def iU (x:Ns):List AV:=[.str x.m,.sl 2 (x.fs.map nw),.sl 2 (x.ls.map qK)]
def qN (x:Ns):AV:=.agg (iU x)
theorem Jx (n:Nm):nw n=[.int .i64 n.i,.str n.s]:=rfl
theorem Jj (x:Lc):qK x=[.int .i64 x.f,.sl 2 (x.l.map nw)]:=rfl
theorem Az (x:Ns):qN x = .agg [.str x.m,.sl 2 (x.fs.map nw),.sl 2 (x.ls.map qK)]:=rfl
attribute [go_sem] Jx Jj Az
def A6 (s:List UInt8):Int:=if uv s=false then 9 else if s.length>64 then 6 else 0
def KH:List Nm→Int
 | []=>0
 | n :: r=>if A6 n.s≠0 then A6 n.s else KH r
def ud (l:List Nm) (most:Int):Int:=if (l.length:Int)>most then 6 else KH l
def EC:List Lc→Int
 | []=>0
 | x :: r=>if ud x.l 72≠0 then ud x.l 72 else EC r
def sG (n:Ns):Int:=if A6 n.m≠0 then A6 n.m else if ud n.fs 64≠0 then ud n.fs 64 else if (n.ls.length:Int)>64 then 6 else EC n.ls
def iz (i:Int):Bool:=decide (0≤i)&&decide (i<4294967296)
def A8 (l:List Int):Bool:=l.all iz
def Bg:List Int→Bool
 | a :: b :: r=>decide (a<b)&&Bg (b :: r)
 | _=>true
def oC (l:List Nm):List Int:=l.map Nm.i
def uP (l:List Lc):List Int:=l.map Lc.f
def f7 (n:Ns):List (List Int):=oC n.fs :: uP n.ls :: n.ls.map fun x=>oC x.l
def tZ (n:Ns):Int:=if sG n≠0 then sG n else if (f7 n).all A8=false then 1 else if (f7 n).all Bg=false then 7 else 0
def bN (s:List UInt8):List UInt8:=aA s.length++s
def rI (n:Nm):List UInt8:=aA n.i.toNat++bN n.s
def eC:List Nm→List UInt8
 | []=>[]
 | n :: r=>rI n++eC r
def bh (l:List Nm):List UInt8:=aA l.length++eC l
def iu:List Lc→List UInt8
 | []=>[]
 | x :: r=>(aA x.f.toNat++bh x.l)++iu r
def bQ (l:List Lc):List UInt8:=aA l.length++iu l
def bV (b:UInt8) (x:List UInt8):List UInt8:=b :: (aA x.length++x)
def df (n:Ns):List UInt8:=((if n.m=[] then [] else bV 0 (bN n.m))++(if n.fs=[] then [] else bV 1 (bh n.fs)))++(if n.ls=[] then [] else bV 2 (bQ n.ls))
def eL (n:Ns):List UInt8×Int:=if tZ n≠0 then ([],tZ n) else (df n,0)
def nY (l:List Nm):Int:=match l.getLast? with
 | some n=>n.i
 | none=>0
def Lf (out:List Nm) (i e:Int):Int:=if e=0∧out≠[]∧i≤nY out then 7 else e
def gt:Nat→List UInt8→Nat→Int→List Nm→List Nm×Nat×Int
 | 0,_,a,e,out=>(out,a,e)
 | k+1,b,a,e,out=>if e≠0 then (out,a,e) else
  gt k b (fu ((rU true 32 b a 0).2.2==0) b (rU true 32 b a 0).2.1 (rU true 32 b a 0).2.2).2.1
   (Lf out (rU true 32 b a 0).1 (fu ((rU true 32 b a 0).2.2==0) b (rU true 32 b a 0).2.1 (rU true 32 b a 0).2.2).2.2)
   (out++[⟨(rU true 32 b a 0).1,(fu ((rU true 32 b a 0).2.2==0) b (rU true 32 b a 0).2.1 (rU true 32 b a 0).2.2).1⟩])
def wE (b:List UInt8) (a:Nat) (e most:Int):List Nm×Nat×Int:=gt (bH (e==0) b a e most).1 b (bH (e==0) b a e most).2.1 (bH (e==0) b a e most).2.2 []
def EA (l:List Lc):Int:=match l.getLast? with
 | some n=>n.f
 | none=>0
def z7 (out:List Lc) (i e:Int):Int:=if e=0∧out≠[]∧i≤EA out then 7 else e
def gc:Nat→List UInt8→Nat→Int→List Lc→List Lc×Nat×Int
 | 0,_,a,e,out=>(out,a,e)
 | k+1,b,a,e,out=>if e≠0 then (out,a,e) else
  gc k b (wE b (rU true 32 b a 0).2.1 (z7 out (rU true 32 b a 0).1 (rU true 32 b a 0).2.2) 72).2.1 (wE b (rU true 32 b a 0).2.1 (z7 out (rU true 32 b a 0).1 (rU true 32 b a 0).2.2) 72).2.2
   (out++[⟨(rU true 32 b a 0).1,(wE b (rU true 32 b a 0).2.1 (z7 out (rU true 32 b a 0).1 (rU true 32 b a 0).2.2) 72).1⟩])
def Iy (b:List UInt8) (a:Nat) (e:Int):List Lc×Nat×Int:=gc (bH (e==0) b a e 64).1 b (bH (e==0) b a e 64).2.1 (bH (e==0) b a e 64).2.2 []
def oq (n:Ns) (id:Nat) (x:List UInt8) (e:Int):Ns×Int :=
 if id=0 then (⟨(fu (e==0) x 0 e).1,n.fs,n.ls⟩,iB true x (fu (e==0) x 0 e).2.1 (fu (e==0) x 0 e).2.2)
 else if id=1 then (⟨n.m,(wE x 0 e 64).1,n.ls⟩,iB true x (wE x 0 e 64).2.1 (wE x 0 e 64).2.2)
 else (⟨n.m,n.fs,(Iy x 0 e).1⟩,iB true x (Iy x 0 e).2.1 (Iy x 0 e).2.2)
def GT (b:List UInt8) (a:Nat):Option (List UInt8)×Nat×Int:=b_ ((rU true 32 b (a+1) 0).2.2==0) b (rU true 32 b (a+1) 0).2.1 (rU true 32 b (a+1) 0).2.2 (rU true 32 b (a+1) 0).1
def Bb:Nat→List UInt8→Nat→Int→Ns→Ns×Int
 | 0,_,_,_,n=>(n,0)
 | f+1,b,a,last,n=>if b.length≤a then (n,0) else
  if (ah b a).toNat>2 then (default,4) else if ((ah b a).toNat:Int)≤last then (default,7) else
  if (oq n (ah b a).toNat ((GT b a).1.getD []) (GT b a).2.2).2≠0 then (default,(oq n (ah b a).toNat ((GT b a).1.getD []) (GT b a).2.2).2) else
  Bb f b (GT b a).2.1 ((ah b a).toNat:Int) (oq n (ah b a).toNat ((GT b a).1.getD []) (GT b a).2.2).1
def H4 (b:List UInt8):Ns×Int:=Bb 4 b 0 (-1) default
def Iu:List Nm→Int→List UInt8
 | [],_=>[]
 | n :: r,i=>if n.i=i then n.s else Iu r i
theorem eb {α:Type} [Inhabited α] {l:List α} {i:Nat} (h:i<l.length):l.drop i=ah l i :: l.drop (i+1):=by
 rw [bD h,List.drop_eq_getElem_cons h]
theorem lU {α:Type} [Inhabited α] {l:List α} {i:Nat} (h:i<l.length):l.take (i+1)=l.take i++[ah l i]:=by rw [List.take_add_one,jg h,Option.toList_some]
theorem Ql {l:List Nm} {i:Nat} (h:i<l.length):KH (l.drop i)=if A6 (ah l i).s≠0 then A6 (ah l i).s else KH (l.drop (i+1)):=by
 rw [eb h];rfl
theorem OQ {l:List Lc} {i:Nat} (h:i<l.length):EC (l.drop i)=if ud (ah l i).l 72≠0 then ud (ah l i).l 72 else EC (l.drop (i+1)):=by
 rw [eb h];rfl
theorem Qt {l:List Int} {i:Nat} (h:i<l.length):A8 (l.drop i)=(iz (ah l i)&&A8 (l.drop (i+1))):=by
 unfold A8
 rw [eb h,List.all_cons]
theorem xX {α:Type} [Inhabited α] {p:α→Bool} {l:List α} {i:Nat} (h:i<l.length):(l.drop i).all p=(p (ah l i)&&(l.drop (i+1)).all p):=by
 rw [eb h,List.all_cons]
theorem PY {l:List Int} {k:Nat} (h1:1≤k) (h:k<l.length):Bg (l.drop (k - 1))=(decide (ah l (k - 1)<ah l k)&&Bg (l.drop k)):=by
 have e1:l.drop (k - 1)=ah l (k - 1) :: l.drop k:=by
  rw [eb (by omega),show k - 1+1=k by omega]
 rw [e1,eb h]
 rfl
theorem Kl {l:List Int} {k:Nat} (h:l.length≤k):Bg (l.drop (k - 1))=true:=by
 cases hl:l.drop (k - 1) with
 | nil=>rfl
 | cons a r =>
  cases r with
  | nil=>rfl
  | cons b r =>
   have:=congrArg List.length hl
   simp only [lW,aQ] at this
   omega
theorem N9 {l:List Nm} {j:Nat} (h:j<l.length) (i:Int):Iu (l.drop j) i=if (ah l j).i=i then (ah l j).s else Iu (l.drop (j+1)) i:=by
 rw [eb h];rfl
theorem Oz {l:List Nm} {i:Nat} (h:i<l.length):oC (l.take (i+1))=oC (l.take i)++[(ah l i).i]:=by
 unfold oC
 rw [lU h,List.map_append];rfl
theorem Ob {l:List Lc} {i:Nat} (h:i<l.length):uP (l.take (i+1))=uP (l.take i)++[(ah l i).f]:=by
 unfold uP
 rw [lU h,List.map_append];rfl
theorem bB {α:Type} {l:List α} {i:Nat} (h:l.length≤i):l.drop i=[]:=List.drop_eq_nil_of_le h
open Go.ChangeShapes Go.WideShapes Go.ChangeAt Go.RowKit
def Qm:Ty:=.cons (.int .i64) (.cons .str .nil)
def Wy (B:Nat) (n:Nm):Prop:=n.s.length≤B
theorem K3:qy Qm nw Wy:=fun r h=>by
 obtain ⟨_,_,rfl,⟨i,rfl,w_i⟩,_,_,rfl,⟨s,rfl,w_s⟩,rfl⟩:=h
 exact ⟨⟨i,s⟩,⟨.rfl _,.rfl _,trivial⟩,w_s,fun B hB=>hB.2.1 _ rfl⟩
def VO:Ty:=.cons (.int .i64) (.cons (.sl Qm) .nil)
def bLc (B:Nat) (x:Lc):Prop:=bL Wy B x.l
theorem S_:qy VO qK bLc:=fun r h=>by
 obtain ⟨_,_,rfl,⟨i,rfl,w_i⟩,_,_,rfl,h_l,rfl⟩:=h
 obtain ⟨x,l,rfl,d,m,b⟩:=oa K3 h_l
 exact ⟨⟨i,l⟩,⟨.rfl _,d,trivial⟩,m,fun B hB=>b B hB.2.1⟩
def Gi:Ty:=.cons .str (.cons (.sl Qm) (.cons (.sl VO) .nil))
def Wz (B:Nat) (n:Ns):Prop:=n.m.length≤B∧bL Wy B n.fs∧bL bLc B n.ls
theorem Ta:qy Gi iU Wz:=fun r h=>by
 obtain ⟨_,_,rfl,⟨s,rfl,w_s⟩,_,_,rfl,h_f,_,_,rfl,h_l,rfl⟩:=h
 obtain ⟨x,l,rfl,d,m,b⟩:=oa K3 h_f
 obtain ⟨x2,l2,rfl,d2,m2,b2⟩:=oa S_ h_l
 exact ⟨⟨s,l,l2⟩,⟨.rfl _,d,d2,trivial⟩,⟨w_s,m,m2⟩,fun B hB=>⟨hB.1 _ rfl,b B hB.2.1,b2 B hB.2.2.1⟩⟩
theorem VQ:kJ Tryz.prog 9 37=some Gi:=by kernel_rfl
theorem o7 {H:Type} {d:DataW H} {l:List (DataW H)} (h:d∈l):Rows.uptoBulk d≤Rows.uptoBulkAll l:=by
 induction l with
 | nil=>cases h
 | cons x r ih =>
  simp only [Rows.uptoBulkAll]
  cases eH.1 h with
  | inl e=>subst e;omega
  | inr e=>have:=ih e;omega
theorem HT {H:Type} (d:DataW H):1≤Rows.uptoBulk d:=by
 cases d with
 | lit l=>cases l<;>simp [Rows.uptoBulk]
 | nil=>simp [Rows.uptoBulk]
 | ptr d=>simp [Rows.uptoBulk]
 | slice elems spare=>simp [Rows.uptoBulk]
 | agg parts=>simp [Rows.uptoBulk]
 | iface t d=>simp [Rows.uptoBulk]
 | map entries=>simp [Rows.uptoBulk]
 | held h=>simp [Rows.uptoBulk]
theorem HS {H:Type} (l:List (DataW H)):l.length≤Rows.uptoBulkAll l:=by
 induction l with
 | nil=>simp [Rows.uptoBulkAll]
 | cons x r ih=>have:=HT x;simp only [Rows.uptoBulkAll,aQ];omega
def Rl (H:Type):Bk H where
 f:=Rows.uptoBulk
 str l:=by simp [Rows.uptoBulk]
 sl es sp:=by have:=HS es;simp only [Rows.uptoBulk];omega
 sle es sp d hd:=by have:=o7 hd;simp only [Rows.uptoBulk];omega
 ag ps d hd:=by have:=o7 hd;simp only [Rows.uptoBulk];omega
theorem Dl {H:Type} {ds:List (DataW H)} (h:Rows.uptoSmall H ds=true):∀d∈ds,(Rl H).f d≤1048576:=fun d hd=>dn (o7 hd) (of_decide_eq_true h)
def bn (l:List UInt8) (i:Nat):Nat:=(ah l i).toNat
theorem nN (l:List UInt8) (i:Nat):bn l i<256:=(ah l i).toNat_lt
def j7 (l:List UInt8):Nat×Nat:=Lib.decodeN l.length (bn l 0) (bn l 1) (bn l 2) (bn l 3)
theorem sS {l:List UInt8} (h:bn l 0<128):j7 l=(bn l 0,1):=by
 unfold j7 Lib.decodeN
 rw [aK h]
theorem K2 (l:List UInt8):1≤(j7 l).2∧(j7 l).2≤4:=by
 unfold j7 Lib.decodeN
 repeat' split
 all_goals simp only;omega
def QE (l:List UInt8):Prop:=3≤l.length∧bn l 0=239∧bn l 1=191∧bn l 2=189
theorem sU {l:List UInt8} (h0:¬bn l 0<128):(j7 l).2=1↔((j7 l).1=65533∧¬QE l):=by
 have a1:=nN l 1
 have a2:=nN l 2
 have a3:=nN l 3
 have a0:=nN l 0
 unfold j7 QE Lib.decodeN
 generalize bn l 0=b0 at *
 generalize bn l 1=b1 at *
 generalize bn l 2=b2 at *
 generalize bn l 3=b3 at *
 generalize l.length=n
 rw [aD h0]
 constructor
 ·repeat' split
  all_goals
   intro hh
   first
   | (simp at hh;done)
   | (refine ⟨rfl,?_⟩;omega)
 ·repeat' split
  all_goals
   rintro ⟨hh,hb⟩
   first
   | rfl
   | (exfalso;simp only at hh;omega)
def wM (x:Nat):Bool:=decide (x<55296)||(decide (x>57343)&&decide (x≤1114111))
def km (b:Nat):Prop:=¬(b<128∨b≥192)
instance (b:Nat):Decidable (km b):=by unfold km;exact inferInstance
def sd (l:List UInt8):Nat×Nat :=
 if bn l 0<128 then (bn l 0,1) else
 if 192≤bn l 0∧bn l 0<224 then (if 2≤l.length∧km (bn l 1)∧128≤(bn l 0 - 192) * 64+bn l 1 - 128∧wM ((bn l 0 - 192) * 64+bn l 1 - 128)=true then ((bn l 0 - 192) * 64+bn l 1 - 128,2) else (0,0)) else
 if 224≤bn l 0∧bn l 0<240 then (if 3≤l.length∧km (bn l 1)∧km (bn l 2)∧2048≤((bn l 0 - 224) * 64+bn l 1 - 128) * 64+bn l 2 - 128∧wM (((bn l 0 - 224) * 64+bn l 1 - 128) * 64+bn l 2 - 128)=true then (((bn l 0 - 224) * 64+bn l 1 - 128) * 64+bn l 2 - 128,3) else (0,0)) else
 if 240≤bn l 0∧bn l 0<248 then (if 4≤l.length∧km (bn l 1)∧km (bn l 2)∧km (bn l 3)∧65536≤(((bn l 0 - 240) * 64+bn l 1 - 128) * 64+bn l 2 - 128) * 64+bn l 3 - 128∧wM ((((bn l 0 - 240) * 64+bn l 1 - 128) * 64+bn l 2 - 128) * 64+bn l 3 - 128)=true then ((((bn l 0 - 240) * 64+bn l 1 - 128) * 64+bn l 2 - 128) * 64+bn l 3 - 128,4) else (0,0)) else (0,0)
theorem yU {l:List UInt8} (h0:¬bn l 0<128):sd l=if (j7 l).2=1 then (0,0) else j7 l:=by
 have a1:=nN l 1
 have a2:=nN l 2
 have a3:=nN l 3
 have a0:=nN l 0
 unfold j7 sd Lib.decodeN wM km
 generalize bn l 0=b0 at *
 generalize bn l 1=b1 at *
 generalize bn l 2=b2 at *
 generalize bn l 3=b3 at *
 generalize l.length=n
 simp only [jR,bY,cP]
 rw [aD h0,aD h0]
 repeat' split
 all_goals first | rfl | (exfalso;omega) | (exfalso;simp_all;omega) | (apply Prod.ext<;>simp only<;>omega)
theorem Of (l:List UInt8) (i:Nat):((⟨l.toArray⟩:ByteArray).get! i).toNat=bn l i:=by
 unfold bn ah
 show (l.toArray[i]!).toNat=_
 simp
theorem lH (l:List UInt8) (i:Nat):Utf8.decode ⟨l.toArray⟩ i=j7 (l.drop i):=by
 rw [Lib.decode_at]
 unfold j7
 simp only [Of,lW]
 have h:∀k,bn (l.drop i) k=bn l (i+k):=fun k=>by unfold bn;rw [vh]
 rw [h,h,h,h,Nat.add_zero]
 rfl
theorem K1 (l:List UInt8):Lib.decodeL l=j7 l:=lH l 0
theorem xD {l:List UInt8} (h:0<l.length) (hg:bn l 0<128∨(j7 l).2≠1):uv l=uv (l.drop (j7 l).2)∧(j7 l).2≤l.length:=by
 have hl:=List.length_pos_iff.1 h
 have h2:=Lib.validD_step l hl
 have h3:=Lib.decodeL_le l hl
 rw [K1] at h2 h3
 refine ⟨h2.trans (aD fun q=>?_),h3⟩
 rcases hg with h | h
 ·rw [sS h] at q
  exact absurd q.1 (by simp only;omega)
 ·exact h q.2
theorem Gj {l:List UInt8} (h:0<l.length) (h0:¬bn l 0<128) (h1:(j7 l).2=1):uv l=false:=by
 have h2:=Lib.validD_step l (List.length_pos_iff.1 h)
 rw [K1,aK ⟨((sU h0).1 h1).1,h1⟩] at h2
 exact h2
theorem Kn {l:List UInt8} (h:0<l.length):((j7 l).1=65533∧¬QE l)↔(¬bn l 0<128∧(j7 l).2=1):=by
 constructor
 ·rintro ⟨h1,h2⟩
  have h0:¬bn l 0<128:=fun h0=>by
   rw [sS h0] at h1
   simp only at h1
   omega
  exact ⟨h0,(sU h0).2 ⟨h1,h2⟩⟩
 ·rintro ⟨h0,h1⟩
  exact (sU h0).1 h1
theorem HW (l:List UInt8):QE l↔(3≤l.length∧l.take 3=[239,191,189]):=by
 unfold QE
 constructor
 ·rintro ⟨h,h0,h1,h2⟩
  refine ⟨h,?_⟩
  match l,h with
  | a :: b :: c :: r,_ =>
   have e0:a.toNat=239:=h0
   have e1:b.toNat=191:=h1
   have e2:c.toNat=189:=h2
   rw [show a=239 from UInt8.toNat.inj e0,show b=191 from UInt8.toNat.inj e1,show c=189 from UInt8.toNat.inj e2]
   rfl
 ·rintro ⟨h,h3⟩
  match l,h,h3 with
  | a :: b :: c :: r,h,h3 =>
   simp only [List.take_succ_cons,f8,List.cons.injEq,and_true] at h3
   obtain ⟨rfl,rfl,rfl⟩:=h3
   exact ⟨h,rfl,rfl,rfl⟩
section
def wG (s p:List UInt8):Bool:=decide (p.length≤s.length)&&(s.take p.length==p)
attribute [local go_sem] cY
theorem P4 (s p:List UInt8) (hs:s.length<100000000∧p.length<1000000):ae Tryz.prog nX8 [.str s,.str p] (.bool (wG s p)):=by
 refine ab (ic:=V_.body) aq cX8 rfl rfl ?_
 by_cases h:(s.length:Int)≥p.length
 ·rw [show wG s p=(s.take p.length==p) by unfold wG;rw [aF (show p.length≤s.length by omega)];rfl]
  simp only [go_sem,V_,aF h]
  exact ⟨by omega,by exact aj⟩
 ·rw [show wG s p=false by unfold wG;rw [aG (show ¬p.length≤s.length by omega)];rfl]
  simp only [go_sem,V_,aG h]
  exact aj
theorem VA (s p:List UInt8) (hs:s.length<100000000∧p.length<1000000):ae Tryz.prog Y6 [.str s,.str p] (.bool (wG s p)):=by
 refine ab (ic:=Mr.body) aq Xf rfl rfl ?_
 simp only [go_sem,Mr]
 refine aa (P4 s p hs) ?_
 simp only [go_sem]
 exact aj
theorem IF (l:List UInt8):wG l [239,191,189]=true↔QE l:=by
 rw [HW]
 unfold wG
 simp
def r3 (n:Int):List AV:=[.int .i32 n]
theorem J0 (n:Int):r3 n=[.int .i32 n]:=rfl
attribute [go_sem] J0
def U0 (v:AV):Prop:=aP v=[]
theorem Ks (s:List UInt8) (hs:s.length≤1048576):br Tryz.prog UL [.str s] [] sb (fun r' σ'=>∃v:AV,U0 v∧r' = .tup [v,.bool (uv s)]∧σ'=[]):=by
 refine aT (ic:=Cc.body) aq SL rfl rfl ?_
 simp only [go_sem,Cc]
 refine an (fun q:List Int×Nat=>⟨[(8,.mm 8 false),(4,.ms 900 1 0 q.1.length),(0,.str s)],[(900,⟨21,1,q.1.map r3,false⟩),(8,@ao.mk 0 0 [] false (.it s q.2))]⟩) (fun q=>q.2≤s.length∧q.1.length≤q.2∧uv s=uv (s.drop q.2)) (fun q=>s.length - q.2) ([],0) ⟨cE _,cE _,rfl⟩ ((Wk.nil _ 4 900 1 21 (by simp only [go_sem]) (.inl (by decide))).trans (Wk.of ?_ ?_)) ?_
 ·simp only [go_sem,St.mknil];try simp [go_sem]
 ·simp only [go_sem,St.mknil];try simp [go_sem]
 rintro ⟨l,p⟩ ⟨h1,h2,h3⟩
 simp only at h1 h2 h3
 have happ:=fun ys=>bu 900 21 1 l.length r3 l ys rfl
 by_cases hp:p<s.length
 ·have hd:0<(s.drop p).length:=by simp;omega
  have hb:=Kn hd
  have hw:=K2 (s.drop p)
  have hl3:(s.drop p).length=s.length - p:=by simp
  have go:(bn (s.drop p) 0<128∨(j7 (s.drop p)).2≠1)→p+(j7 (s.drop p)).2≤s.length∧uv s=uv (s.drop (p+(j7 (s.drop p)).2)):=fun hg=>by
   obtain ⟨q1,q2⟩:=xD hd hg
   rw [List.drop_drop] at q1
   exact ⟨by omega,h3.trans q1⟩
  by_cases hc:(j7 (s.drop p)).1=65533
  ·have ct:=VA (s.drop p) [239,191,189] ⟨by omega,by decide⟩
   have hbk:=IF (s.drop p)
   simp only [go_sem,hp,lH,hc,show (((65533:Nat):Int)==65533)=true from rfl]
   refine ⟨by omega,?_⟩
   refine aa (ct) ?_
   by_cases hx:wG (s.drop p) [239,191,189]=true
   ·have hg:bn (s.drop p) 0<128∨(j7 (s.drop p)).2≠1:=by
     by_cases g0:bn (s.drop p) 0<128
     ·exact .inl g0
     ·exact .inr fun g1=>(hb.2 ⟨g0,g1⟩).2 (hbk.1 hx)
    obtain ⟨q1,q2⟩:=go hg
    simp only [go_sem,hx,happ]
    refine ⟨by omega,aC (l++[65533],p+(j7 (s.drop p)).2) ⟨q1,show (l++[65533]).length≤p+(j7 (s.drop p)).2 by simp;omega,q2⟩ (show s.length - (p+(j7 (s.drop p)).2)<s.length - p by omega) (Wk.of ?_ ?_)⟩
    ·simp only [go_sem];try simp
    ·simp only [go_sem,lH];try simp [J0,lH]
   ·have hx':wG (s.drop p) [239,191,189]=false:=by simpa using hx
    obtain ⟨g0,g1⟩:=hb.1 ⟨hc,fun hk=>hx (hbk.2 hk)⟩
    rw [h3,Gj hd g0 g1]
    simp only [go_sem,hx']
    exact done [] _ [] (by simp only [go_sem]) trivial rfl ⟨.nl,rfl,rfl,rfl⟩
  ·have hg:bn (s.drop p) 0<128∨(j7 (s.drop p)).2≠1:=by
    by_cases g0:bn (s.drop p) 0<128
    ·exact .inl g0
    ·exact .inr fun g1=>hc (hb.2 ⟨g0,g1⟩).1
   obtain ⟨q1,q2⟩:=go hg
   simp only [go_sem,hp,lH,show ((((j7 (s.drop p)).1:Nat):Int)==65533)=false from aN (by omega),happ]
   refine ⟨by omega,aC (l++[((j7 (s.drop p)).1:Int)],p+(j7 (s.drop p)).2) ⟨q1,show (l++[((j7 (s.drop p)).1:Int)]).length≤p+(j7 (s.drop p)).2 by simp;omega,q2⟩ (show s.length - (p+(j7 (s.drop p)).2)<s.length - p by omega) (Wk.of ?_ ?_)⟩
   ·simp only [go_sem];try simp
   ·simp only [go_sem,lH];try simp [J0,lH]
 ·obtain rfl:p=s.length:=by omega
  rw [h3,List.drop_length,Gk]
  simp only [go_sem,hp]
  refine done [900] (.tup [.sl 1 (l.map r3),.bool true]) [] ?_ trivial rfl ⟨.sl 1 (l.map r3),rfl,rfl,rfl⟩
  simp only [go_sem,bj]
  rw [dS (by simp)]
end
section
def Qd (s:List UInt8):Prop:=s.length≤1048576
def We (l:List Nm):Prop:=∀n∈l,Qd n.s
def QZ (n:Ns):Prop:=Qd n.m∧We n.fs∧∀x∈n.ls,We x.l
theorem Qc {l:List Nm} (h:We l) {i:Nat} (hi:i<l.length):Qd (ah l i).s:=by
 rw [bD hi];exact h _ (List.getElem_mem hi)
attribute [local go_sem] cY
theorem P9 (s:List UInt8) (hs:Qd s):ae Tryz.prog UM [.str s] (.bool (uv s)):=by
 refine ab (ic:=Ce.body) aq SM rfl rfl ?_
 simp only [go_sem,Ce]
 refine xY (Ks s hs) ?_
 intro v hv
 simp only [go_sem]
 exact aj
theorem FS (s:List UInt8) (hs:Qd s):ae Tryz.prog Ub [.str s] (.int .i64 (A6 s)):=by
 refine ab (ic:=BM.body) aq R8 rfl rfl ?_
 unfold A6
 simp only [go_sem,BM]
 refine aa (P9 s hs) ?_
 cases uv s
 ·simp only [go_sem]
  exact aj
 ·by_cases h:s.length>64
  ·simp only [go_sem,aF (show (s.length:Int)>64 by omega)]
   rw [aK h]
   exact aj
  ·simp only [go_sem,aG (show ¬(s.length:Int)>64 by omega)]
   rw [aD h]
   exact aj
theorem yZ (l:List Nm) (hl:We l) (most:Int) (hmo:most≤1000):ae Tryz.prog TM [.sl 2 (l.map nw),.int .i64 most] (.int .i64 (ud l most)):=by
 refine ab (ic:=xJ.body) aq RC rfl rfl ?_
 unfold ud
 by_cases hm:(l.length:Int)>most
 ·simp only [go_sem,xJ,aF hm]
  rw [aK hm]
  exact aj
 ·simp only [go_sem,xJ,aG hm]
  rw [aD hm]
  refine an (fun i:Nat=>⟨[(14,.int .i64 i),(13,.int .i64 l.length),(12,.sl 2 (l.map nw))],[]⟩) (fun i=>i≤l.length∧KH l=KH (l.drop i)) (fun i=>l.length - i) 0 ⟨cE _,rfl⟩ (Wk.of ?_ ?_) ?_
  ·simp only [go_sem];try simp
  ·simp only [go_sem]
  rintro i ⟨hi,hx⟩
  by_cases h1:(i:Int)<(l.length:Int)
  ·have hi':i<l.length:=by omega
   rw [Ql hi'] at hx
   have e8:=wi (n:=(i:Int)+1) (by omega) (by omega)
   have ct:=FS _ (Qc hl hi')
   simp only [go_sem,aF h1]
   refine ⟨by omega,h1,?_⟩
   refine aa (ct) ?_
   by_cases hz:A6 (ah l i).s=0
   ·rw [aD (by simp [hz])] at hx
    simp only [go_sem,aL hz]
    refine aC (i+1) ⟨show i+1≤l.length by omega,hx⟩ (show l.length - (i+1)<l.length - i by omega) (Wk.of ?_ ?_)
    ·simp only [go_sem,e8];try simp
    ·simp only [go_sem]
   ·rw [aK hz] at hx
    rw [hx]
    simp only [go_sem,aZ hz]
    exact aj
  ·rw [bB (by omega)] at hx
   rw [hx]
   simp only [go_sem,aG h1]
   exact au [] (by simp only [go_sem,KH]) (by first | rfl | simp [go_sem,ac])
theorem sj (l:List Nm) (hl:l.length≤100000000):ae Tryz.prog Zo [.sl 2 (l.map nw)] (.sl 1 ((oC l).map gD)):=by
 refine ab (ic:=ME.body) aq XA rfl rfl ?_
 simp only [go_sem,ME]
 refine an (fun i:Nat=>⟨[(8,.int .i64 i),(7,.int .i64 l.length),(6,.sl 2 (l.map nw)),(3,.ms 900 1 0 i)],[(900,⟨3,1,(oC (l.take i)).map gD,false⟩)]⟩) (fun i=>i≤l.length) (fun i=>l.length - i) 0 (cE _) ((Wk.nil _ 3 900 1 3 (by simp only [go_sem]) (.inl (by decide))).trans (Wk.of ?_ ?_)) ?_
 ·simp only [go_sem,St.mknil];try simp [go_sem]
 ·simp only [go_sem,St.mknil,f8,oC];try simp [go_sem]
 intro i hi
 have hil:(oC (l.take i)).length=i:=by simp [oC];omega
 have happ:=fun ys=>bu 900 3 1 i gD (oC (l.take i)) ys hil
 by_cases h1:(i:Int)<(l.length:Int)
 ·have hi':i<l.length:=by omega
  have e8:=wi (n:=(i:Int)+1) (by omega) (by omega)
  simp only [go_sem,aF h1,happ]
  refine ⟨by omega,h1,by omega,aC (i+1) (show i+1≤l.length by omega) (show l.length - (i+1)<l.length - i by omega) (Wk.of ?_ ?_)⟩
  ·simp only [go_sem,e8];try simp
  ·simp only [go_sem,Oz hi',List.map_append];try simp [jr]
 ·obtain rfl:i=l.length:=by omega
  simp only [go_sem,aG h1]
  have hxl:(oC l).length=l.length:=by simp [oC]
  refine au [900] ?_ rfl
  simp only [go_sem,dj,hxl,bj]
  rw [dS (by simp [oC])]
  try rfl
end
section
def FL (r:List Int):List AV:=[.sl 1 (r.map gD)]
theorem Vw (r:List Int):FL r=[.sl 1 (r.map gD)]:=rfl
attribute [go_sem] Vw
def Lk (l:List Lc):List (List Int):=l.map fun x=>oC x.l
theorem Oy {l:List Lc} {i:Nat} (h:i<l.length):Lk (l.take (i+1))=Lk (l.take i)++[oC (ah l i).l]:=by
 unfold Lk
 rw [lU h,List.map_append];rfl
theorem yV (n:Ns):f7 n=[oC n.fs,uP n.ls]++Lk n.ls:=rfl
def GN (n:Ns) (l:List Lc):List (List Int):=[oC n.fs,uP n.ls]++Lk l
theorem Ox {n:Ns} {l:List Lc} {i:Nat} (h:i<l.length):GN n (l.take (i+1))=GN n (l.take i)++[oC (ah l i).l]:=by
 unfold GN
 rw [Oy h,dB]
theorem I8 (n:Ns) (l:List Lc):(GN n l).length=2+l.length:=by simp [GN,Lk];omega
theorem Tt (n:Ns):(GN n []).map FL=[[.sl 1 ((oC n.fs).map gD)],[.sl 1 ((uP n.ls).map gD)]]:=rfl
def shN (n:Ns):Prop:=n.fs.length≤64∧n.ls.length≤64∧∀x∈n.ls,x.l.length≤72
theorem yr:∀{l:List Lc},EC l=0→∀x∈l,x.l.length≤72
 | [],_,x,hx=>by cases hx
 | y :: r,h,x,hx=>by
  unfold EC at h
  split at h
  ·rename_i hne;exact absurd h hne
  ·rename_i hz
   simp only [ne_eq,Decidable.not_not] at hz
   rcases eH.1 hx with rfl | hx
   ·unfold ud at hz
    split at hz
    ·cases hz
    ·omega
   ·exact yr h x hx
theorem KI {l:List Nm} {m:Int} (h:ud l m=0):(l.length:Int)≤m:=by
 unfold ud at h
 split at h
 ·cases h
 ·omega
attribute [local go_sem] cY
theorem Vy (n:Ns) (hn:shN n):ae Tryz.prog UB [qN n] (.sl 1 ((f7 n).map FL)):=by
 refine ab (ic:=B7.body) aq SA rfl rfl ?_
 obtain ⟨hf,hl,hx⟩:=hn
 simp only [go_sem,B7]
 refine an (fun i:Nat=>⟨[(12,.int .i64 i),(11,.int .i64 n.ls.length),(10,.sl 2 (n.ls.map qK)),(3,.ms 900 1 0 i),(1,.mp 1 3 0 0)],[(900,⟨3,1,(uP (n.ls.take i)).map gD,false⟩),(1,⟨37,3,[iU n],true⟩)]⟩) (fun i=>i≤n.ls.length) (fun i=>n.ls.length - i) 0 (cE _) ((Wk.nil _ 3 900 1 3 (by simp only [go_sem]) (.inl (by decide))).trans (Wk.of ?_ ?_)) ?_
 ·simp only [go_sem,St.mknil];try simp [go_sem]
 ·simp only [go_sem,St.mknil,f8,uP,iU];try simp [go_sem]
 intro i hi
 have hil:(uP (n.ls.take i)).length=i:=by simp [uP];omega
 have happ:=fun ys=>bu 900 3 1 i gD (uP (n.ls.take i)) ys hil
 by_cases h1:(i:Int)<(n.ls.length:Int)
 ·have hi':i<n.ls.length:=by omega
  have e8:=wi (n:=(i:Int)+1) (by omega) (by omega)
  simp only [go_sem,aF h1,happ,iU]
  refine ⟨by omega,h1,by omega,aC (i+1) (show i+1≤n.ls.length by omega) (show n.ls.length - (i+1)<n.ls.length - i by omega) (Wk.of ?_ ?_)⟩
  ·simp only [go_sem,e8];try simp
  ·simp only [go_sem,Ob hi',List.map_append,iU];try simp [jr]
 ·obtain rfl:i=n.ls.length:=by omega
  simp only [go_sem,aG h1,iU]
  refine aa (sj n.fs (by omega)) ?_
  simp only [go_sem]
  refine ⟨_,Wk.frzs [900] _,?_⟩
  simp only [AF]
  have hxl:(uP (n.ls.take n.ls.length)).length=n.ls.length:=by simp [uP]
  simp only [go_sem,hxl,bj]
  refine an (fun i:Nat=>⟨[(30,.int .i64 i),(29,.int .i64 n.ls.length),(28,.sl 2 (n.ls.map qK)),(6,.ms 26 1 0 (2+i))],[(26,⟨77,1,(GN n (n.ls.take i)).map FL,false⟩)]⟩) (fun i=>i≤n.ls.length) (fun i=>n.ls.length - i) 0 (cE _) (Wk.of ?_ ?_) ?_
  ·simp only [go_sem];try simp
  ·simp only [go_sem,f8,Tt,iU,dj]
   try rw [dS (by simp [uP])]
   try trivial
  intro i hi
  have hil:(GN n (n.ls.take i)).length=2+i:=by rw [I8,lh];omega
  have happ:=fun ys=>bu 26 77 1 (2+i) FL (GN n (n.ls.take i)) ys hil
  by_cases h1:(i:Int)<(n.ls.length:Int)
  ·have hi':i<n.ls.length:=by omega
   have e8:=wi (n:=(i:Int)+1) (by omega) (by omega)
   have hxi:(ah n.ls i).l.length≤72:=hx _ (by rw [bD hi'];exact List.getElem_mem hi')
   have ci:=sj (ah n.ls i).l (by omega)
   simp only [go_sem,aF h1]
   refine ⟨by omega,h1,?_⟩
   refine aa (ci) ?_
   simp only [go_sem,happ]
   refine ⟨by omega,aC (i+1) (show i+1≤n.ls.length by omega) (show n.ls.length - (i+1)<n.ls.length - i by omega) (Wk.of ?_ ?_)⟩
   ·simp only [go_sem,e8];try simp
    try omega
   ·simp only [go_sem,Ox hi',List.map_append];try simp [Vw]
  ·obtain rfl:i=n.ls.length:=by omega
   simp only [go_sem,aG h1]
   rw [show f7 n=GN n n.ls from rfl]
   refine au [26] ?_ rfl
   rw [dj] at hil
   simp only [go_sem,dj,hil,bj]
   rw [dS (by rw [cY,hil];omega)]
   try rfl
theorem Kp (n:Ns) (hn:QZ n):ae Tryz.prog mr [qN n] (.int .i64 (tZ n)):=by
 refine ab (ic:=Bu.body) aq RB rfl rfl ?_
 obtain ⟨s1,s2,s3⟩:=hn
 simp only [go_sem,Bu]
 refine aa (FS n.m s1) ?_
 by_cases h0:A6 n.m=0
 rotate_left
 ·rw [show tZ n=A6 n.m by unfold tZ sG;simp [h0]]
  simp only [go_sem,aZ h0]
  exact aj
 simp only [go_sem,aL h0]
 refine aa (yZ n.fs s2 64 (by decide)) ?_
 by_cases h1:ud n.fs 64=0
 rotate_left
 ·rw [show tZ n=ud n.fs 64 by unfold tZ sG;simp [h0,h1]]
  simp only [go_sem,aZ h1]
  exact aj
 by_cases h2:(n.ls.length:Int)>64
 ·rw [show tZ n=6 by unfold tZ sG;simp [h0,h1,h2]]
  simp only [go_sem,aL h1,aF h2]
  exact aj
 have hfl:=KI h1
 simp only [go_sem,aL h1,aG h2]
 refine an (fun i:Nat=>⟨[(35,.int .i64 i),(34,.int .i64 n.ls.length),(33,.sl 2 (n.ls.map qK)),(1,.mp 1 3 0 0)],[(1,⟨37,3,[iU n],true⟩)]⟩) (fun i=>i≤n.ls.length∧EC n.ls=EC (n.ls.drop i)) (fun i=>n.ls.length - i) 0 ⟨cE _,rfl⟩ (Wk.of ?_ ?_) ?_
 ·simp only [go_sem];try simp
 ·simp only [go_sem,iU]
 rintro i ⟨hi,hx⟩
 by_cases h3:(i:Int)<(n.ls.length:Int)
 ·have hi':i<n.ls.length:=by omega
  rw [OQ hi'] at hx
  have e8:=wi (n:=(i:Int)+1) (by omega) (by omega)
  have ct:=yZ (ah n.ls i).l (s3 _ (by rw [bD hi'];exact List.getElem_mem hi')) 72 (by decide)
  simp only [go_sem,aF h3,iU]
  refine ⟨by omega,h3,?_⟩
  refine aa (ct) ?_
  by_cases hz:ud (ah n.ls i).l 72=0
  ·rw [aD (by simp [hz])] at hx
   simp only [go_sem,aL hz]
   refine aC (i+1) ⟨show i+1≤n.ls.length by omega,hx⟩ (show n.ls.length - (i+1)<n.ls.length - i by omega) (Wk.of ?_ ?_)
   ·simp only [go_sem,e8];try simp
   ·simp only [go_sem,iU]
  ·rw [aK hz] at hx
   rw [show tZ n=ud (ah n.ls i).l 72 by unfold tZ sG;simp [h0,h1,h2,hx,hz]]
   simp only [go_sem,aZ hz]
   exact aj
 rw [bB (by omega)] at hx
 have hA:sG n=0:=by unfold sG;simp [h0,h1,h2,hx,EC]
 have hsh:shN n:=⟨by omega,by omega,yr hx⟩
 have hck:tZ n=if (f7 n).all A8=false then 1 else if (f7 n).all Bg=false then 7 else 0:=by unfold tZ;simp [hA]
 have hRl:(f7 n).length≤66:=by rw [yV];have:=hsh.2.1;simp [Lk];omega
 have hRr:∀r∈f7 n,r.length≤72:=by
  intro r hr
  rw [yV] at hr
  simp only [kM,kK,eH,Lk,List.mem_map] at hr
  rcases hr with rfl | rfl | ⟨x,hx,rfl⟩
  ·simp [oC];have:=hsh.1;omega
  ·simp [uP];have:=hsh.2.1;omega
  ·simp [oC];exact hsh.2.2 x hx
 clear hx hA
 simp only [go_sem,aG h3,iU]
 have ca:=Vy n hsh
 refine aa (ca) ?_
 generalize f7 n=R at *
 simp only [go_sem]
 refine an (fun j:Nat=>⟨[(50,.int .i64 j),(49,.int .i64 R.length),(48,.sl 1 (R.map FL)),(8,.sl 1 (R.map FL))],[]⟩) (fun j=>j≤R.length∧R.all A8=(R.drop j).all A8) (fun j=>R.length - j) 0 ⟨cE _,rfl⟩ (Wk.of ?_ ?_) ?_
 ·simp only [go_sem];try simp
 ·simp only [go_sem]
 rintro j ⟨hj,hx⟩
 by_cases h4:(j:Int)<(R.length:Int)
 ·have hj':j<R.length:=by omega
  rw [xX hj'] at hx
  have e8:=wi (n:=(j:Int)+1) (by omega) (by omega)
  have hr:=hRr (ah R j) (by rw [bD hj'];exact List.getElem_mem hj')
  simp only [go_sem,aF h4]
  refine ⟨by omega,h4,?_⟩
  refine an (fun k:Nat=>⟨[(56,.int .i64 k),(55,.int .i64 (ah R j).length),(54,.sl 1 ((ah R j).map gD)),(50,.int .i64 j),(49,.int .i64 R.length),(48,.sl 1 (R.map FL)),(8,.sl 1 (R.map FL))],[]⟩) (fun k=>k≤(ah R j).length∧A8 (ah R j)=A8 ((ah R j).drop k)) (fun k=>(ah R j).length - k) 0 ⟨cE _,rfl⟩ (Wk.of ?_ ?_) ?_
  ·simp only [go_sem];try simp
  ·simp only [go_sem]
  generalize ah R j=r at *
  rintro k ⟨hk,hy⟩
  by_cases h5:(k:Int)<(r.length:Int)
  ·have hk':k<r.length:=by omega
   rw [Qt hk'] at hy
   have e9:=wi (n:=(k:Int)+1) (by omega) (by omega)
   by_cases h6:ah r k<0
   ·rw [hck,aK (by rw [hx,hy];simp [iz];intro h;omega)]
    simp only [go_sem,aF h5,aF h6]
    refine ⟨by omega,h5,?_⟩
    exact aj
   ·by_cases h7:ah r k≥4294967296
    ·rw [hck,aK (by rw [hx,hy];simp [iz];intro h;omega)]
     simp only [go_sem,aF h5,aG h6,aF h7]
     refine ⟨by omega,h5,?_⟩
     exact aj
    ·rw [show iz (ah r k)=true by simp [iz];omega,bR] at hy
     simp only [go_sem,aF h5,aG h6,aG h7]
     refine ⟨by omega,h5,aC (k+1) ⟨show k+1≤r.length by omega,hy⟩ (show r.length - (k+1)<r.length - k by omega) (Wk.of ?_ ?_)⟩
     ·simp only [go_sem,e9];try simp
     ·simp only [go_sem]
  ·rw [bB (by omega),show A8 []=true from rfl] at hy
   rw [hy,bR] at hx
   simp only [go_sem,aG h5]
   refine aC (j+1) ⟨show j+1≤R.length by omega,hx⟩ (show R.length - (j+1)<R.length - j by omega) (Wk.of ?_ ?_)
   ·simp only [go_sem,e8];try simp
   ·simp only [go_sem]
 rw [bB (by omega),List.all_nil] at hx
 rw [hx] at hck
 simp only [Bool.true_eq_false,dc] at hck
 simp only [go_sem,aG h4]
 refine an (fun j:Nat=>⟨[(70,.int .i64 j),(69,.int .i64 R.length),(68,.sl 1 (R.map FL))],[]⟩) (fun j=>j≤R.length∧R.all Bg=(R.drop j).all Bg) (fun j=>R.length - j) 0 ⟨cE _,rfl⟩ (Wk.of ?_ ?_) ?_
 ·simp only [go_sem];try simp
 ·simp only [go_sem]
 clear hx h4 hj
 rintro j ⟨hj,hx⟩
 by_cases h4:(j:Int)<(R.length:Int)
 ·have hj':j<R.length:=by omega
  rw [xX hj'] at hx
  have e8:=wi (n:=(j:Int)+1) (by omega) (by omega)
  have hr:=hRr (ah R j) (by rw [bD hj'];exact List.getElem_mem hj')
  simp only [go_sem,aF h4]
  refine ⟨by omega,h4,?_⟩
  refine an (fun k:Nat=>⟨[(15,.int .i64 k),(14,.sl 1 ((ah R j).map gD)),(70,.int .i64 j),(69,.int .i64 R.length),(68,.sl 1 (R.map FL))],[]⟩) (fun k=>1≤k∧k≤(ah R j).length+1∧Bg (ah R j)=Bg ((ah R j).drop (k - 1))) (fun k=>(ah R j).length+1 - k) 1 ⟨bj _,by omega,rfl⟩ (Wk.of ?_ ?_) ?_
  ·simp only [go_sem];try simp
  ·simp only [go_sem]
  generalize ah R j=r at *
  rintro k ⟨hk1,hk,hy⟩
  by_cases h5:(k:Int)<(r.length:Int)
  ·have hk':k<r.length:=by omega
   rw [PY hk1 hk'] at hy
   have e9:=wi (n:=(k:Int)+1) (by omega) (by omega)
   have e7:IntKind.i64.wrap ((k:Int) - 1)=((k - 1:Nat):Int):=by rw [wi (by omega) (by omega)];omega
   by_cases h6:ah r k≤ah r (k - 1)
   ·rw [hck,aK (by rw [hx,hy,aG (by omega)];rfl)]
    simp only [go_sem,aF h5,e7,aF h6]
    refine ⟨by omega,h5,by omega,by omega,?_⟩
    exact aj
   ·rw [aF (by omega),bR] at hy
    simp only [go_sem,aF h5,e7,aG h6]
    refine ⟨by omega,h5,by omega,by omega,aC (k+1) ⟨by omega,show k+1≤r.length+1 by omega,hy⟩ (show r.length+1 - (k+1)<r.length+1 - k by omega) (Wk.of ?_ ?_)⟩
    ·simp only [go_sem,e9];try simp
    ·simp only [go_sem]
  ·rw [Kl (by omega)] at hy
   rw [hy,bR] at hx
   simp only [go_sem,aG h5]
   refine aC (j+1) ⟨show j+1≤R.length by omega,hx⟩ (show R.length - (j+1)<R.length - j by omega) (Wk.of ?_ ?_)
   ·simp only [go_sem,e8];try simp
   ·simp only [go_sem]
 rw [bB (by omega),List.all_nil] at hx
 rw [hck,hx]
 simp only [go_sem,aG h4]
 exact aj
end
def xk (l:List UInt8) (x:Nat):Nat→Nat
 | 0=>x
 | 1=>x
 | k+2=>xk l x (k+1) * 64+bn l (k+1) - 128
theorem Qu {l:List UInt8} {x k:Nat} (h:1≤k):xk l x (k+1)=xk l x k * 64+bn l k - 128:=by
 obtain ⟨k,rfl⟩:∃j,k=j+1:=⟨k - 1,by omega⟩
 rfl
theorem zf {l:List UInt8} {x:Nat} (hx:x<32):∀k,(∀j,1≤j→j<k+1→km (bn l j))→xk l x (k+1)<32 * 64 ^ k
 | 0,_=>by simpa [xk] using hx
 | k+1,h=>by
  have h1:=zf hx k (fun j hj hk=>h j hj (by omega))
  have h2:=h (k+1) (by omega) (by omega)
  unfold km at h2
  show xk l x (k+1) * 64+bn l (k+1) - 128<_
  rw [Nat.pow_succ]
  omega
noncomputable def GS (l:List UInt8) (n je x:Nat):Nat×Nat :=
 open Classical in if n≤l.length∧(∀j,1≤j→j<n→km (bn l j))∧je≤xk l x n∧wM (xk l x n)=true then (xk l x n,n) else (0,0)
theorem FD {l:List UInt8} (h:bn l 0<128):sd l=(bn l 0,1):=by unfold sd;rw [aK h]
theorem Vr {l:List UInt8} (h1:192≤bn l 0) (h2:bn l 0<224):sd l=GS l 2 128 (bn l 0 - 192):=by
 unfold sd GS
 rw [aD (by omega),aK ⟨h1,h2⟩]
 have e:xk l (bn l 0 - 192) 2=(bn l 0 - 192) * 64+bn l 1 - 128:=rfl
 rw [e]
 by_cases hc:km (bn l 1)
 ·have hj:∀j,1≤j→j<2→km (bn l j):=fun j a b=>by rw [show j=1 by omega];exact hc
  by_cases hh:2≤l.length∧128≤(bn l 0 - 192) * 64+bn l 1 - 128∧wM ((bn l 0 - 192) * 64+bn l 1 - 128)=true
  ·rw [aK ⟨hh.1,hc,hh.2.1,hh.2.2⟩,aK ⟨hh.1,hj,hh.2.1,hh.2.2⟩]
  ·rw [aD (fun q=>hh ⟨q.1,q.2.2.1,q.2.2.2⟩),aD (fun q=>hh ⟨q.1,q.2.2.1,q.2.2.2⟩)]
 ·rw [aD (fun q=>hc q.2.1),aD (fun q=>hc (q.2.1 1 (by decide) (by decide)))]
theorem Vs {l:List UInt8} (h1:224≤bn l 0) (h2:bn l 0<240):sd l=GS l 3 2048 (bn l 0 - 224):=by
 unfold sd GS
 rw [aD (by omega),aD (by omega),aK ⟨h1,h2⟩]
 have e:xk l (bn l 0 - 224) 3=((bn l 0 - 224) * 64+bn l 1 - 128) * 64+bn l 2 - 128:=rfl
 rw [e]
 by_cases hc:km (bn l 1)∧km (bn l 2)
 ·have hj:∀j,1≤j→j<3→km (bn l j):=fun j a b=>by
   rcases (show j=1∨j=2 by omega) with rfl | rfl
   ·exact hc.1
   ·exact hc.2
  by_cases hh:3≤l.length∧2048≤((bn l 0 - 224) * 64+bn l 1 - 128) * 64+bn l 2 - 128∧wM (((bn l 0 - 224) * 64+bn l 1 - 128) * 64+bn l 2 - 128)=true
  ·rw [aK ⟨hh.1,hc.1,hc.2,hh.2.1,hh.2.2⟩,aK ⟨hh.1,hj,hh.2.1,hh.2.2⟩]
  ·rw [aD (fun q=>hh ⟨q.1,q.2.2.2.1,q.2.2.2.2⟩),aD (fun q=>hh ⟨q.1,q.2.2.1,q.2.2.2⟩)]
 ·rw [aD (fun q=>hc ⟨q.2.1,q.2.2.1⟩),aD (fun q=>hc ⟨q.2.1 1 (by decide) (by decide),q.2.1 2 (by decide) (by decide)⟩)]
theorem Vt {l:List UInt8} (h1:240≤bn l 0) (h2:bn l 0<248):sd l=GS l 4 65536 (bn l 0 - 240):=by
 unfold sd GS
 rw [aD (by omega),aD (by omega),aD (by omega),aK ⟨h1,h2⟩]
 have e:xk l (bn l 0 - 240) 4=(((bn l 0 - 240) * 64+bn l 1 - 128) * 64+bn l 2 - 128) * 64+bn l 3 - 128:=rfl
 rw [e]
 by_cases hc:km (bn l 1)∧km (bn l 2)∧km (bn l 3)
 ·have hj:∀j,1≤j→j<4→km (bn l j):=fun j a b=>by
   rcases (show j=1∨j=2∨j=3 by omega) with rfl | rfl | rfl
   ·exact hc.1
   ·exact hc.2.1
   ·exact hc.2.2
  by_cases hh:4≤l.length∧65536≤(((bn l 0 - 240) * 64+bn l 1 - 128) * 64+bn l 2 - 128) * 64+bn l 3 - 128∧wM ((((bn l 0 - 240) * 64+bn l 1 - 128) * 64+bn l 2 - 128) * 64+bn l 3 - 128)=true
  ·rw [aK ⟨hh.1,hc.1,hc.2.1,hc.2.2,hh.2.1,hh.2.2⟩,aK ⟨hh.1,hj,hh.2.1,hh.2.2⟩]
  ·rw [aD (fun q=>hh ⟨q.1,q.2.2.2.2.1,q.2.2.2.2.2⟩),aD (fun q=>hh ⟨q.1,q.2.2.1,q.2.2.2⟩)]
 ·rw [aD (fun q=>hc ⟨q.2.1,q.2.2.1,q.2.2.2.1⟩),aD (fun q=>hc ⟨q.2.1 1 (by decide) (by decide),q.2.1 2 (by decide) (by decide),q.2.1 3 (by decide) (by decide)⟩)]
theorem LC {l:List UInt8} (h1:128≤bn l 0) (h2:bn l 0<192∨248≤bn l 0):sd l=(0,0):=by
 unfold sd
 rw [aD (by omega),aD (by omega),aD (by omega),aD (by omega)]
theorem gn {l:List UInt8} {n je x:Nat} (h:¬(n≤l.length∧(∀j,1≤j→j<n→km (bn l j))∧je≤xk l x n∧wM (xk l x n)=true)):GS l n je x=(0,0):=by
 unfold GS;rw [aD h]
theorem tF {l:List UInt8} {n je x:Nat} (h:n≤l.length∧(∀j,1≤j→j<n→km (bn l j))∧je≤xk l x n∧wM (xk l x n)=true):GS l n je x=(xk l x n,n):=by
 unfold GS;rw [aK h]
theorem Qq {l:List UInt8} (h:0<l.length) (hz:(sd l).2≠0):uv l=uv (l.drop (sd l).2)∧(sd l).2≤l.length:=by
 by_cases h0:bn l 0<128
 ·have e:sd l=j7 l:=(FD h0).trans (sS h0).symm
  rw [e]
  exact xD h (.inl h0)
 ·rw [yU h0] at hz ⊢
  split at hz
  ·exact absurd rfl hz
  ·rename_i h1
   rw [aD h1]
   exact xD h (.inr h1)
theorem Qr {l:List UInt8} (h:0<l.length) (hz:(sd l).2=0):uv l=false:=by
 by_cases h0:bn l 0<128
 ·rw [FD h0] at hz;cases hz
 ·rw [yU h0] at hz
  have hw:=K2 l
  split at hz
  ·exact Gj h h0 ‹_›
  ·omega
section
attribute [local go_sem] cY
theorem Qo (n:Nat):ae Tryz.prog UP [.int .i64 n] (.bool (wM n)):=by
 refine ab (ic:=qZ.body) aq SP rfl rfl ?_
 unfold wM
 by_cases h1:n<55296
 ·rw [aF h1,lZ]
  simp only [go_sem,qZ,aF (show (n:Int)≥0 by omega),aF (show (n:Int)<55296 by omega)]
  exact au [] (by first | (simp only [go_sem];done) | (simp only [go_sem];rfl)) (by rfl)
 ·rw [aG h1,qw]
  by_cases h2:n>57343
  ·rw [aF h2,bR]
   by_cases h3:n≤1114111
   ·rw [aF h3]
    simp only [go_sem,qZ,aF (show (n:Int)≥0 by omega),aG (show ¬(n:Int)<55296 by omega),aF (show (n:Int)>57343 by omega),aF (show (n:Int)≤1114111 by omega)]
    exact au [] (by first | (simp only [go_sem];done) | (simp only [go_sem];rfl)) (by rfl)
   ·rw [aG h3]
    simp only [go_sem,qZ,aF (show (n:Int)≥0 by omega),aG (show ¬(n:Int)<55296 by omega),aF (show (n:Int)>57343 by omega),aG (show ¬(n:Int)≤1114111 by omega)]
    exact au [] (by first | (simp only [go_sem];done) | (simp only [go_sem];rfl)) (by rfl)
  ·rw [aG h2,cF]
   simp only [go_sem,qZ,aF (show (n:Int)≥0 by omega),aG (show ¬(n:Int)<55296 by omega),aG (show ¬(n:Int)>57343 by omega)]
   exact au [] (by first | (simp only [go_sem];done) | (simp only [go_sem];rfl)) (by rfl)
theorem HU (s:List UInt8) (i k:Nat):bn (s.drop i) k=(ah s (i+k)).toNat:=by unfold bn;rw [vh]
theorem KJ (s:List UInt8) (hs:s.length≤1048576) (i:Nat) (hi:i<s.length):ae Tryz.prog TP [.str s,.int .i64 i] (.tup [.int .i64 (sd (s.drop i)).1,.int .i64 (sd (s.drop i)).2]):=by
 refine ab (ic:=j_.body) aq RG rfl rfl ?_
 have hlen:(s.drop i).length=s.length - i:=by simp
 have hb:=HU s i
 have h0:(ah s i).toNat=bn (s.drop i) 0:=by rw [hb];rfl
 have hlt:=(ah s i).toNat_lt
 have wc:IntKind.i64.wrap ((ah s i).toNat:Int)=((ah s i).toNat:Int):=wi (by omega) (by omega)
 generalize hl:s.drop i=l at *
 by_cases g0:bn l 0<128
 ·rw [FD g0]
  simp only [go_sem,j_,wc,aF (show ((ah s i).toNat:Int)<128 by omega)]
  refine ⟨by omega,by omega,?_⟩
  rw [← h0]
  exact au [] (by first | (simp only [go_sem];done) | (simp only [go_sem];rfl)) (by rfl)
 by_cases g1:bn l 0<192
 ·rw [LC (by omega) (.inl g1)]
  simp only [go_sem,j_,wc,aG (show ¬((ah s i).toNat:Int)<128 by omega),aG (show ¬((ah s i).toNat:Int)≥192 by omega),aG (show ¬((ah s i).toNat:Int)≥224 by omega),aG (show ¬((ah s i).toNat:Int)≥240 by omega)]
  refine ⟨by omega,by omega,?_⟩
  exact au [] (by first | (simp only [go_sem];done) | (simp only [go_sem];rfl)) (by rfl)
 by_cases g2:bn l 0<224
 ·have hx:bn l 0 - 192<32:=by omega
  have wx:IntKind.i64.wrap ((ah s i).toNat - 192:Int)=((bn l 0 - 192:Nat):Int):=by rw [wi (by omega) (by omega)];omega
  rw [Vr (by omega) g2]
  have wn:IntKind.i64.wrap ((i:Int)+2)=((i+2:Nat):Int):=by rw [wi (by omega) (by omega)];omega
  by_cases gl:((i+2:Nat):Int)>(s.length:Int)
  ·rw [gn (fun q=>by have:=q.1;omega)]
   simp only [go_sem,j_,wc,aG (show ¬((ah s i).toNat:Int)<128 by omega),aF (show ((ah s i).toNat:Int)≥192 by omega),aF (show ((ah s i).toNat:Int)<224 by omega),wx,wn,aF gl]
   refine ⟨by omega,by omega,?_⟩
   exact au [] (by first | (simp only [go_sem];done) | (simp only [go_sem];rfl)) (by rfl)
  simp only [go_sem,j_,wc,aG (show ¬((ah s i).toNat:Int)<128 by omega),aF (show ((ah s i).toNat:Int)≥192 by omega),aF (show ((ah s i).toNat:Int)<224 by omega),wx,wn,aG gl]
  refine ⟨by omega,by omega,?_⟩
  refine an (fun k:Nat=>⟨[(10,.int .i64 k),(9,.int .i64 (xk l (bn l 0 - 192) k:Nat)),(8,.int .i64 128),(7,.int .i64 2),(0,.str s),(1,.int .i64 i)],[]⟩) (fun k=>1≤k∧k≤2∧∀j,1≤j→j<k→km (bn l j)) (fun k=>2 - k) 1 ⟨bj _,by decide,fun j a b=>by omega⟩ (Wk.of ?_ ?_) ?_
  ·simp only [go_sem,wx,xk];try simp
  ·simp only [go_sem]
  rintro k ⟨hk1,hk,hc⟩
  by_cases hkn:(k:Int)<2
  ·have w1:IntKind.i64.wrap ((i:Int)+(k:Int))=((i+k:Nat):Int):=by rw [wi (by omega) (by omega)];omega
   have e8:IntKind.i64.wrap ((k:Int)+1)=(k:Int)+1:=wi (by omega) (by omega)
   have hd:=hb k
   have hdl:=(ah s (i+k)).toNat_lt
   have wd:IntKind.i64.wrap ((ah s (i+k)).toNat:Int)=((ah s (i+k)).toNat:Int):=wi (by omega) (by omega)
   have hik:i+k<s.length:=by omega
   by_cases hct:km (bn l k)
   ·have hct':=hct
    unfold km at hct'
    have hxk:=zf hx (k - 1) (fun j a b=>hc j a (by omega))
    rw [show k - 1+1=k by omega] at hxk
    have hp:(64:Nat) ^ (k - 1)≤64 ^ 2:=Nat.pow_le_pow_right (by decide) (by omega)
    have hxs:=Qu (l:=l) (x:=bn l 0 - 192) hk1
    generalize (64:Nat) ^ (k - 1)=p at *
    have wm:IntKind.i64.wrap ((xk l (bn l 0 - 192) k:Nat) * 64:Int)=((xk l (bn l 0 - 192) k * 64:Nat):Int):=by rw [wi (by omega) (by omega)];omega
    have wa:IntKind.i64.wrap (((xk l (bn l 0 - 192) k * 64:Nat):Int)+((ah s (i+k)).toNat:Int))=((xk l (bn l 0 - 192) k * 64+bn l k:Nat):Int):=by rw [wi (by omega) (by omega)];omega
    have ws:IntKind.i64.wrap (((xk l (bn l 0 - 192) k * 64+bn l k:Nat):Int) - 128)=((xk l (bn l 0 - 192) (k+1):Nat):Int):=by rw [wi (by omega) (by omega)];omega
    simp only [go_sem,aF hkn,w1,wd,aG (show ¬((ah s (i+k)).toNat:Int)<128 by omega),aG (show ¬((ah s (i+k)).toNat:Int)≥192 by omega),wm,wa,ws]
    refine ⟨by omega,by omega,aC (k+1) ⟨by omega,show k+1≤2 by omega,fun j a b=>?_⟩ (show 2 - (k+1)<2 - k by omega) (Wk.of ?_ ?_)⟩
    ·rcases dT j k with q | q
     ·exact hc j a q
     ·rw [show j=k by omega];exact hct
    ·simp only [go_sem,e8];try simp
    ·simp only [go_sem]
   ·rw [gn (fun q=>hct (q.2.1 k hk1 (by omega)))]
    unfold km at hct
    by_cases h1:(ah s (i+k)).toNat<128
    ·simp only [go_sem,aF hkn,w1,wd,aF (show ((ah s (i+k)).toNat:Int)<128 by omega)]
     refine ⟨by omega,by omega,?_⟩
     exact au [] (by first | (simp only [go_sem];done) | (simp only [go_sem];rfl)) (by rfl)
    ·simp only [go_sem,aF hkn,w1,wd,aG (show ¬((ah s (i+k)).toNat:Int)<128 by omega),aF (show ((ah s (i+k)).toNat:Int)≥192 by omega)]
     refine ⟨by omega,by omega,?_⟩
     exact au [] (by first | (simp only [go_sem];done) | (simp only [go_sem];rfl)) (by rfl)
  ·obtain rfl:k=2:=by omega
   generalize hX:xk l (bn l 0 - 192) 2=X at *
   by_cases h1:X<128
   ·rw [gn (fun q=>by have:=q.2.2.1;rw [hX] at this;omega)]
    simp only [go_sem,aG hkn,aF (show (X:Int)<128 by omega)]
    exact au [] (by first | (simp only [go_sem];done) | (simp only [go_sem];rfl)) (by rfl)
   ·simp only [go_sem,aG hkn,aG (show ¬(X:Int)<128 by omega)]
    refine aa (Qo X) ?_
    cases h2:wM X
    ·rw [gn (fun q=>by have:=q.2.2.2;rw [hX,h2] at this;cases this)]
     simp only [go_sem]
     exact au [] (by first | (simp only [go_sem];done) | (simp only [go_sem];rfl)) (by rfl)
    ·rw [tF ⟨by omega,hc,by rw [hX];omega,by rw [hX];exact h2⟩,hX]
     simp only [go_sem]
     exact au [] (by first | (simp only [go_sem];done) | (simp only [go_sem];rfl)) (by rfl)
 by_cases g3:bn l 0<240
 ·have hx:bn l 0 - 224<32:=by omega
  have wx:IntKind.i64.wrap ((ah s i).toNat - 224:Int)=((bn l 0 - 224:Nat):Int):=by rw [wi (by omega) (by omega)];omega
  rw [Vs (by omega) g3]
  have wn:IntKind.i64.wrap ((i:Int)+3)=((i+3:Nat):Int):=by rw [wi (by omega) (by omega)];omega
  by_cases gl:((i+3:Nat):Int)>(s.length:Int)
  ·rw [gn (fun q=>by have:=q.1;omega)]
   simp only [go_sem,j_,wc,aG (show ¬((ah s i).toNat:Int)<128 by omega),aF (show ((ah s i).toNat:Int)≥192 by omega),aG (show ¬((ah s i).toNat:Int)<224 by omega),aF (show ((ah s i).toNat:Int)≥224 by omega),aF (show ((ah s i).toNat:Int)<240 by omega),wx,wn,aF gl]
   refine ⟨by omega,by omega,?_⟩
   exact au [] (by first | (simp only [go_sem];done) | (simp only [go_sem];rfl)) (by rfl)
  simp only [go_sem,j_,wc,aG (show ¬((ah s i).toNat:Int)<128 by omega),aF (show ((ah s i).toNat:Int)≥192 by omega),aG (show ¬((ah s i).toNat:Int)<224 by omega),aF (show ((ah s i).toNat:Int)≥224 by omega),aF (show ((ah s i).toNat:Int)<240 by omega),wx,wn,aG gl]
  refine ⟨by omega,by omega,?_⟩
  refine an (fun k:Nat=>⟨[(10,.int .i64 k),(9,.int .i64 (xk l (bn l 0 - 224) k:Nat)),(8,.int .i64 2048),(7,.int .i64 3),(0,.str s),(1,.int .i64 i)],[]⟩) (fun k=>1≤k∧k≤3∧∀j,1≤j→j<k→km (bn l j)) (fun k=>3 - k) 1 ⟨bj _,by decide,fun j a b=>by omega⟩ (Wk.of ?_ ?_) ?_
  ·simp only [go_sem,wx,xk];try simp
  ·simp only [go_sem]
  rintro k ⟨hk1,hk,hc⟩
  by_cases hkn:(k:Int)<3
  ·have w1:IntKind.i64.wrap ((i:Int)+(k:Int))=((i+k:Nat):Int):=by rw [wi (by omega) (by omega)];omega
   have e8:IntKind.i64.wrap ((k:Int)+1)=(k:Int)+1:=wi (by omega) (by omega)
   have hd:=hb k
   have hdl:=(ah s (i+k)).toNat_lt
   have wd:IntKind.i64.wrap ((ah s (i+k)).toNat:Int)=((ah s (i+k)).toNat:Int):=wi (by omega) (by omega)
   have hik:i+k<s.length:=by omega
   by_cases hct:km (bn l k)
   ·have hct':=hct
    unfold km at hct'
    have hxk:=zf hx (k - 1) (fun j a b=>hc j a (by omega))
    rw [show k - 1+1=k by omega] at hxk
    have hp:(64:Nat) ^ (k - 1)≤64 ^ 2:=Nat.pow_le_pow_right (by decide) (by omega)
    have hxs:=Qu (l:=l) (x:=bn l 0 - 224) hk1
    generalize (64:Nat) ^ (k - 1)=p at *
    have wm:IntKind.i64.wrap ((xk l (bn l 0 - 224) k:Nat) * 64:Int)=((xk l (bn l 0 - 224) k * 64:Nat):Int):=by rw [wi (by omega) (by omega)];omega
    have wa:IntKind.i64.wrap (((xk l (bn l 0 - 224) k * 64:Nat):Int)+((ah s (i+k)).toNat:Int))=((xk l (bn l 0 - 224) k * 64+bn l k:Nat):Int):=by rw [wi (by omega) (by omega)];omega
    have ws:IntKind.i64.wrap (((xk l (bn l 0 - 224) k * 64+bn l k:Nat):Int) - 128)=((xk l (bn l 0 - 224) (k+1):Nat):Int):=by rw [wi (by omega) (by omega)];omega
    simp only [go_sem,aF hkn,w1,wd,aG (show ¬((ah s (i+k)).toNat:Int)<128 by omega),aG (show ¬((ah s (i+k)).toNat:Int)≥192 by omega),wm,wa,ws]
    refine ⟨by omega,by omega,aC (k+1) ⟨by omega,show k+1≤3 by omega,fun j a b=>?_⟩ (show 3 - (k+1)<3 - k by omega) (Wk.of ?_ ?_)⟩
    ·rcases dT j k with q | q
     ·exact hc j a q
     ·rw [show j=k by omega];exact hct
    ·simp only [go_sem,e8];try simp
    ·simp only [go_sem]
   ·rw [gn (fun q=>hct (q.2.1 k hk1 (by omega)))]
    unfold km at hct
    by_cases h1:(ah s (i+k)).toNat<128
    ·simp only [go_sem,aF hkn,w1,wd,aF (show ((ah s (i+k)).toNat:Int)<128 by omega)]
     refine ⟨by omega,by omega,?_⟩
     exact au [] (by first | (simp only [go_sem];done) | (simp only [go_sem];rfl)) (by rfl)
    ·simp only [go_sem,aF hkn,w1,wd,aG (show ¬((ah s (i+k)).toNat:Int)<128 by omega),aF (show ((ah s (i+k)).toNat:Int)≥192 by omega)]
     refine ⟨by omega,by omega,?_⟩
     exact au [] (by first | (simp only [go_sem];done) | (simp only [go_sem];rfl)) (by rfl)
  ·obtain rfl:k=3:=by omega
   generalize hX:xk l (bn l 0 - 224) 3=X at *
   by_cases h1:X<2048
   ·rw [gn (fun q=>by have:=q.2.2.1;rw [hX] at this;omega)]
    simp only [go_sem,aG hkn,aF (show (X:Int)<2048 by omega)]
    exact au [] (by first | (simp only [go_sem];done) | (simp only [go_sem];rfl)) (by rfl)
   ·simp only [go_sem,aG hkn,aG (show ¬(X:Int)<2048 by omega)]
    refine aa (Qo X) ?_
    cases h2:wM X
    ·rw [gn (fun q=>by have:=q.2.2.2;rw [hX,h2] at this;cases this)]
     simp only [go_sem]
     exact au [] (by first | (simp only [go_sem];done) | (simp only [go_sem];rfl)) (by rfl)
    ·rw [tF ⟨by omega,hc,by rw [hX];omega,by rw [hX];exact h2⟩,hX]
     simp only [go_sem]
     exact au [] (by first | (simp only [go_sem];done) | (simp only [go_sem];rfl)) (by rfl)
 by_cases g4:bn l 0<248
 ·have hx:bn l 0 - 240<32:=by omega
  have wx:IntKind.i64.wrap ((ah s i).toNat - 240:Int)=((bn l 0 - 240:Nat):Int):=by rw [wi (by omega) (by omega)];omega
  rw [Vt (by omega) g4]
  have wn:IntKind.i64.wrap ((i:Int)+4)=((i+4:Nat):Int):=by rw [wi (by omega) (by omega)];omega
  by_cases gl:((i+4:Nat):Int)>(s.length:Int)
  ·rw [gn (fun q=>by have:=q.1;omega)]
   simp only [go_sem,j_,wc,aG (show ¬((ah s i).toNat:Int)<128 by omega),aF (show ((ah s i).toNat:Int)≥192 by omega),aG (show ¬((ah s i).toNat:Int)<224 by omega),aF (show ((ah s i).toNat:Int)≥224 by omega),aG (show ¬((ah s i).toNat:Int)<240 by omega),aF (show ((ah s i).toNat:Int)≥240 by omega),aF (show ((ah s i).toNat:Int)<248 by omega),wx,wn,aF gl]
   refine ⟨by omega,by omega,?_⟩
   exact au [] (by first | (simp only [go_sem];done) | (simp only [go_sem];rfl)) (by rfl)
  simp only [go_sem,j_,wc,aG (show ¬((ah s i).toNat:Int)<128 by omega),aF (show ((ah s i).toNat:Int)≥192 by omega),aG (show ¬((ah s i).toNat:Int)<224 by omega),aF (show ((ah s i).toNat:Int)≥224 by omega),aG (show ¬((ah s i).toNat:Int)<240 by omega),aF (show ((ah s i).toNat:Int)≥240 by omega),aF (show ((ah s i).toNat:Int)<248 by omega),wx,wn,aG gl]
  refine ⟨by omega,by omega,?_⟩
  refine an (fun k:Nat=>⟨[(10,.int .i64 k),(9,.int .i64 (xk l (bn l 0 - 240) k:Nat)),(8,.int .i64 65536),(7,.int .i64 4),(0,.str s),(1,.int .i64 i)],[]⟩) (fun k=>1≤k∧k≤4∧∀j,1≤j→j<k→km (bn l j)) (fun k=>4 - k) 1 ⟨bj _,by decide,fun j a b=>by omega⟩ (Wk.of ?_ ?_) ?_
  ·simp only [go_sem,wx,xk];try simp
  ·simp only [go_sem]
  rintro k ⟨hk1,hk,hc⟩
  by_cases hkn:(k:Int)<4
  ·have w1:IntKind.i64.wrap ((i:Int)+(k:Int))=((i+k:Nat):Int):=by rw [wi (by omega) (by omega)];omega
   have e8:IntKind.i64.wrap ((k:Int)+1)=(k:Int)+1:=wi (by omega) (by omega)
   have hd:=hb k
   have hdl:=(ah s (i+k)).toNat_lt
   have wd:IntKind.i64.wrap ((ah s (i+k)).toNat:Int)=((ah s (i+k)).toNat:Int):=wi (by omega) (by omega)
   have hik:i+k<s.length:=by omega
   by_cases hct:km (bn l k)
   ·have hct':=hct
    unfold km at hct'
    have hxk:=zf hx (k - 1) (fun j a b=>hc j a (by omega))
    rw [show k - 1+1=k by omega] at hxk
    have hp:(64:Nat) ^ (k - 1)≤64 ^ 2:=Nat.pow_le_pow_right (by decide) (by omega)
    have hxs:=Qu (l:=l) (x:=bn l 0 - 240) hk1
    generalize (64:Nat) ^ (k - 1)=p at *
    have wm:IntKind.i64.wrap ((xk l (bn l 0 - 240) k:Nat) * 64:Int)=((xk l (bn l 0 - 240) k * 64:Nat):Int):=by rw [wi (by omega) (by omega)];omega
    have wa:IntKind.i64.wrap (((xk l (bn l 0 - 240) k * 64:Nat):Int)+((ah s (i+k)).toNat:Int))=((xk l (bn l 0 - 240) k * 64+bn l k:Nat):Int):=by rw [wi (by omega) (by omega)];omega
    have ws:IntKind.i64.wrap (((xk l (bn l 0 - 240) k * 64+bn l k:Nat):Int) - 128)=((xk l (bn l 0 - 240) (k+1):Nat):Int):=by rw [wi (by omega) (by omega)];omega
    simp only [go_sem,aF hkn,w1,wd,aG (show ¬((ah s (i+k)).toNat:Int)<128 by omega),aG (show ¬((ah s (i+k)).toNat:Int)≥192 by omega),wm,wa,ws]
    refine ⟨by omega,by omega,aC (k+1) ⟨by omega,show k+1≤4 by omega,fun j a b=>?_⟩ (show 4 - (k+1)<4 - k by omega) (Wk.of ?_ ?_)⟩
    ·rcases dT j k with q | q
     ·exact hc j a q
     ·rw [show j=k by omega];exact hct
    ·simp only [go_sem,e8];try simp
    ·simp only [go_sem]
   ·rw [gn (fun q=>hct (q.2.1 k hk1 (by omega)))]
    unfold km at hct
    by_cases h1:(ah s (i+k)).toNat<128
    ·simp only [go_sem,aF hkn,w1,wd,aF (show ((ah s (i+k)).toNat:Int)<128 by omega)]
     refine ⟨by omega,by omega,?_⟩
     exact au [] (by first | (simp only [go_sem];done) | (simp only [go_sem];rfl)) (by rfl)
    ·simp only [go_sem,aF hkn,w1,wd,aG (show ¬((ah s (i+k)).toNat:Int)<128 by omega),aF (show ((ah s (i+k)).toNat:Int)≥192 by omega)]
     refine ⟨by omega,by omega,?_⟩
     exact au [] (by first | (simp only [go_sem];done) | (simp only [go_sem];rfl)) (by rfl)
  ·obtain rfl:k=4:=by omega
   generalize hX:xk l (bn l 0 - 240) 4=X at *
   by_cases h1:X<65536
   ·rw [gn (fun q=>by have:=q.2.2.1;rw [hX] at this;omega)]
    simp only [go_sem,aG hkn,aF (show (X:Int)<65536 by omega)]
    exact au [] (by first | (simp only [go_sem];done) | (simp only [go_sem];rfl)) (by rfl)
   ·simp only [go_sem,aG hkn,aG (show ¬(X:Int)<65536 by omega)]
    refine aa (Qo X) ?_
    cases h2:wM X
    ·rw [gn (fun q=>by have:=q.2.2.2;rw [hX,h2] at this;cases this)]
     simp only [go_sem]
     exact au [] (by first | (simp only [go_sem];done) | (simp only [go_sem];rfl)) (by rfl)
    ·rw [tF ⟨by omega,hc,by rw [hX];omega,by rw [hX];exact h2⟩,hX]
     simp only [go_sem]
     exact au [] (by first | (simp only [go_sem];done) | (simp only [go_sem];rfl)) (by rfl)
 ·rw [LC (by omega) (.inr (by omega))]
  simp only [go_sem,j_,wc,aG (show ¬((ah s i).toNat:Int)<128 by omega),aF (show ((ah s i).toNat:Int)≥192 by omega),aG (show ¬((ah s i).toNat:Int)<224 by omega),aF (show ((ah s i).toNat:Int)≥224 by omega),aG (show ¬((ah s i).toNat:Int)<240 by omega),aF (show ((ah s i).toNat:Int)≥240 by omega),aG (show ¬((ah s i).toNat:Int)<248 by omega)]
  refine ⟨by omega,by omega,?_⟩
  exact au [] (by first | (simp only [go_sem];done) | (simp only [go_sem];rfl)) (by rfl)
end
section
attribute [local go_sem] cY
theorem KL (s:List UInt8) (hs:s.length≤1048576):br Tryz.prog TN [.str s] [] sb (fun r' σ'=>∃v:AV,U0 v∧r' = .tup [v,.bool (uv s)]∧σ'=[]):=by
 refine aT (ic:=Bv.body) aq RE rfl rfl ?_
 simp only [go_sem,Bv]
 refine an (fun q:List Int×Nat=>⟨[(5,.int .i64 q.2),(4,.ms 900 1 0 q.1.length),(0,.str s)],[(900,⟨21,1,q.1.map r3,false⟩)]⟩) (fun q=>q.2≤s.length∧q.1.length≤q.2∧uv s=uv (s.drop q.2)) (fun q=>s.length - q.2) ([],0) ⟨cE _,cE _,rfl⟩ ((Wk.nil _ 4 900 1 21 (by simp only [go_sem]) (.inl (by decide))).trans (Wk.of ?_ ?_)) ?_
 ·simp only [go_sem,St.mknil];try simp [go_sem]
 ·simp only [go_sem,St.mknil];try simp [go_sem]
 rintro ⟨l,p⟩ ⟨h1,h2,h3⟩
 simp only at h1 h2 h3
 have happ:=fun ys=>bu 900 21 1 l.length r3 l ys rfl
 by_cases hp:(p:Int)<(s.length:Int)
 ·have hp':p<s.length:=by omega
  have hd:0<(s.drop p).length:=by simp;omega
  have ct:=KJ s hs p hp'
  have hl3:(s.drop p).length=s.length - p:=by simp
  have hgo:=fun h=>Qq (l:=s.drop p) hd h
  have hno:=fun h=>Qr (l:=s.drop p) hd h
  generalize sd (s.drop p)=R at *
  obtain ⟨x,k⟩:=R
  simp only at ct hgo hno
  by_cases hk:k=0
  ·subst hk
   rw [h3,hno rfl]
   simp only [go_sem,aF hp]
   refine aa (ct) ?_
   simp only [go_sem,show (((0:Nat):Int)==0)=true from rfl]
   exact done [] _ [] (by simp only [go_sem]) trivial rfl ⟨.nl,rfl,rfl,rfl⟩
  ·obtain ⟨q1,q2⟩:=hgo hk
   rw [List.drop_drop] at q1
   have e8:IntKind.i64.wrap ((p:Int)+(k:Int))=((p+k:Nat):Int):=by rw [wi (by omega) (by omega)];omega
   simp only [go_sem,aF hp]
   refine aa (ct) ?_
   simp only [go_sem,aN (show (k:Int)≠0 by omega),happ]
   refine ⟨by omega,aC (l++[IntKind.i32.wrap (x:Int)],p+k) ⟨show p+k≤s.length by omega,show (l++[IntKind.i32.wrap (x:Int)]).length≤p+k by simp;omega,h3.trans q1⟩ (show s.length - (p+k)<s.length - p by omega) (Wk.of ?_ ?_)⟩
   ·simp only [go_sem,e8];try simp
   ·simp only [go_sem];try simp [J0]
 ·obtain rfl:p=s.length:=by omega
  rw [h3,List.drop_length,Gk]
  simp only [go_sem,aG hp]
  refine done [900] (.tup [.sl 1 (l.map r3),.bool true]) [] ?_ trivial rfl ⟨.sl 1 (l.map r3),rfl,rfl,rfl⟩
  simp only [go_sem,bj]
  rw [dS (by simp)]
theorem Qp (s:List UInt8) (hs:Qd s):ae Tryz.prog TO [.str s] (.bool (uv s)):=by
 refine ab (ic:=Bw.body) aq RF rfl rfl ?_
 simp only [go_sem,Bw]
 refine xY (KL s hs) ?_
 intro v hv
 simp only [go_sem]
 exact aj
end
end Go.Proofs.YtjndcljjbpeljaaGreatDoor