import Derived.Test.YtijcmjncppkpiaaGreatDoorCQf
set_option linter.all false
set_option maxRecDepth 100000
set_option maxHeartbeats 40000000
namespace Go.Proofs.YtijcmjncppkpiaaGreatDoor
section
open Go Go.Mw
def wx(l:List UInt8)(e:Int):AV:=.agg [.sl 1 (l.map FZ),.int .i64 e]
attribute[local go_sem] wx
section
variable(l:List UInt8)(e:Int)(hl:l.length<45000000000)
include hl
end
end
open Go Go.Mw
structure Nm where
 i:Int
 s:List UInt8
instance:Inhabited Nm:=⟨⟨0,[]⟩⟩
deriving instance DecidableEq for Nm
structure Lc where
 f:Int
 l:List Nm
instance:Inhabited Lc:=⟨⟨0,[]⟩⟩
deriving instance DecidableEq for Lc
structure Ns where
 m:List UInt8
 fs:List Nm
 ls:List Lc
instance:Inhabited Ns:=⟨⟨[],[],[]⟩⟩
deriving instance DecidableEq for Ns
def nm_(n:Nm):List AV:=[.int .i64 n.i,.str n.s]
def lc_(x:Lc):List AV:=[.int .i64 x.f,.sl 2 (x.l.map nm_)]
def nsC(x:Ns):List AV:=[.str x.m,.sl 2 (x.fs.map nm_),.sl 2 (x.ls.map lc_)]
def ns_(x:Ns):AV:=.agg (nsC x)
def aeb(n:Nm):nm_ n=[.int .i64 n.i,.str n.s]:=rfl
def ad4(x:Lc):lc_ x=[.int .i64 x.f,.sl 2 (x.l.map nm_)]:=rfl
def aec(x:Ns):ns_ x = .agg [.str x.m,.sl 2 (x.fs.map nm_),.sl 2 (x.ls.map lc_)]:=rfl
attribute[go_sem] aeb ad4 aec
def En(i:Int):Bool:=decide (0<=i)&&decide (i<4294967296)
def Bc(l:List Nm):Int:=match l.getLast? with
 | some n=>n.i
 | none=>0
def fnd:List Nm->Int->List UInt8
 | [],_=>[]
 | n::r,i=>if n.i=i then n.s else fnd r i
def cH{α:Type}[Inhabited α]{l:List α}{i:Nat}(h:i<l.length):l.drop i=ap l i::l.drop (i+1):=by
 rw[aV h,Z8 h]
def ZZ{α:Type}[Inhabited α]{l:List α}{i:Nat}(h:i<l.length):l.take (i+1)=l.take i++[ap l i]:=by rw[uS,dV h,uR]
def cu{α:Type}{l:List α}{i:Nat}(h:l.length<=i):l.drop i=[]:=MN h
open Go.ChangeShapes Go.WideShapes Go.ChangeAt Go.RowKit
def Az{H:Type}{d:DataW H}{l:List (DataW H)}(h:d∈l):Rows.uptoBulk d<=Rows.uptoBulkAll l:=by
 induction l with
 | nil=>cases h
 | cons x r ih =>
  simp only[Rows.uptoBulkAll];cases bp.1 h with
  | inl e=>subst e;omega
  | inr e=>have:=ih e;omega
def Sj{H:Type}(d:DataW H):1<=Rows.uptoBulk d:=by
 cases d with
 | lit l=>cases l<;>simp[Rows.uptoBulk]
 | nil=>simp[Rows.uptoBulk]
 | ptr d=>simp[Rows.uptoBulk]
 | slice elems spare=>simp[Rows.uptoBulk]
 | agg parts=>simp[Rows.uptoBulk]
 | iface t d=>simp[Rows.uptoBulk]
 | map entries=>simp[Rows.uptoBulk]
 | held h=>simp[Rows.uptoBulk]
def Si{H:Type}(l:List (DataW H)):l.length<=Rows.uptoBulkAll l:=by
 induction l with
 | nil=>simp[Rows.uptoBulkAll]
 | cons x r ih=>have:=Sj x;simp only[Rows.uptoBulkAll,j1];omega
def aaU(H:Type):Bk H where
 f:=Rows.uptoBulk
 str l:=by simp[Rows.uptoBulk]
 sl es sp:=by have:=Si es;simp only[Rows.uptoBulk];omega
 sle es sp d hd:=by have:=Az hd;simp only[Rows.uptoBulk];omega
 ag ps d hd:=by have:=Az hd;simp only[Rows.uptoBulk];omega
def NK{H:Type}{ds:List (DataW H)}(h:Rows.uptoSmall H ds=true):∀d∈ds,(aaU H).f d<=1048576:=λd hd=>cZ (Az hd) (of_decide_eq_true h)
section
def n8(id:Nat)(t:TypeId)(st:Nat)(ys:List (List AV)):D0 id t st 0 0 ys (some ⟨t,st,[],false⟩) =
  if ys.length<137438953472/\(0:Nat)<137438953472/\(id<1000\/2000<=id)then some (.ms id st 0 (0+ys.length),.reb id ⟨t,st,ys,false⟩)else none:=by
 have h:=bR id t st 0 (λ_:Unit=>([]:List AV)) [] ys rfl;simpa using h
def cpI(x:a_):Prop:=x.ty.length<=1048576/\x.lb.length<=1048576/\0<=x.n
def F7(l:List a_):Prop:=l.length<=1048576/\∀x∈l,cpI x
def cpF(x:Ft):Prop:=x.ps.length<=1048576/\x.rs.length<=1048576
def Sv(x:Cd):Prop:=x.lo.length<=1048576/\F7 x.b
def Xv(x:Gd):Prop:=F7 x.i
def Xu(x:El):Prop:=F7 x.o/\x.it.length<=1048576/\∀l∈x.it,F7 l
def Xt(x:Da):Prop:=F7 x.o/\x.b.length<=1048576
def Xs(x:Cu):Prop:=x.b.length<=1048576
structure cpM(m:Md):Prop where
 ts:m.ts.length<=1048576/\∀x∈m.ts,cpF x
 ims:m.ims.length<=1048576
 fs:m.fs.length<=1048576/\∀x∈m.fs,Sv x
 tbs:m.tbs.length<=1048576
 ms:m.ms.length<=1048576
 gs:m.gs.length<=1048576/\∀x∈m.gs,Xv x
 exs:m.exs.length<=1048576
 els:m.els.length<=1048576/\∀x∈m.els,Xu x
 ds:m.ds.length<=1048576/\∀x∈m.ds,Xt x
 cs:m.cs.length<=1048576/\∀x∈m.cs,Xs x
def I4(x:a_):Prop:=x.ty.length<=9223372036854775807/\x.lb.length<=9223372036854775807/\0<=x.n
def I5(l:List a_):Prop:=l.length<=9223372036854775807/\∀x∈l,I4 x
def smF(x:Ft):Prop:=x.ps.length<=9223372036854775807/\x.rs.length<=9223372036854775807
def Rb(x:Cd):Prop:=x.lo.length<=9223372036854775807/\I5 x.b
def ZO(x:Gd):Prop:=I5 x.i
def Vm(x:El):Prop:=I5 x.o/\x.it.length<=140737488355328/\∀l∈x.it,I5 l
def Vl(x:Da):Prop:=I5 x.o/\x.b.length<=9223372036854775807
def aeE(x:Cu):Prop:=x.b.length<=9223372036854775807
structure Rx(m:Md):Prop where
 ts:m.ts.length<=140737488355328/\∀x∈m.ts,smF x
 ims:m.ims.length<=140737488355328
 fs:m.fs.length<=140737488355328/\∀x∈m.fs,Rb x
 tbs:m.tbs.length<=140737488355328
 ms:m.ms.length<=140737488355328
 gs:m.gs.length<=140737488355328/\∀x∈m.gs,ZO x
 exs:m.exs.length<=140737488355328
 els:m.els.length<=140737488355328/\∀x∈m.els,Vm x
 ds:m.ds.length<=140737488355328/\∀x∈m.ds,Vl x
 cs:m.cs.length<=140737488355328/\∀x∈m.cs,aeE x
def jj{α:Type}[Inhabited α]{p:α->Prop}{l:List α}(h:∀x∈l,p x){i:Nat}(hi:i<l.length):p (ap l i):=by
 rw[aV hi];exact h _ (gO hi)
def lE{α:Type}[Inhabited α]{l:List α}{i:Nat}(h:i<l.length):l.take (i+1)=l.take i++[ap l i]:=by rw[uS,dV h,uR]
attribute[local go_sem] bP
def jH(rows:List (List AV))(h:rows.length<=1048576):ah pg j3 [.sl 1 rows] (.sl 1 rows):=by
 refine au eO ?_;have ha:=n8 5 71 1 rows;simp only[go_sem,eO];refine pV _ _ _ _ ⟨?_,λh0=>?_⟩
 .simp only[go_sem,ha];refine⟨by omega,aE [5] ?_ rfl⟩;simp only[go_sem,aN];rw[jc]
 .subst h0;simp only[go_sem];exact gM (Wk.nls _ 2 1 (by simp only[go_sem])) [] (by first|rfl|simp only[go_sem]) rfl
def NU(rows:List (List AV))(h:rows.length<=1048576):ah pg gT [.sl 13 rows] (.sl 13 rows):=by
 refine au dl ?_;have ha:=n8 5 79 13 rows;simp only[go_sem,dl];refine pV _ _ _ _ ⟨?_,λh0=>?_⟩
 .simp only[go_sem,ha];refine⟨by omega,aE [5] ?_ rfl⟩;simp only[go_sem,aN];rw[jc]
 .subst h0;simp only[go_sem];exact gM (Wk.nls _ 2 13 (by simp only[go_sem])) [] (by first|rfl|simp only[go_sem]) rfl
def NW(rows:List (List AV))(h:rows.length<=1048576):ah pg iL [.sl 4 rows] (.sl 4 rows):=by
 refine au dI ?_;have ha:=n8 5 75 4 rows;simp only[go_sem,dI];refine pV _ _ _ _ ⟨?_,λh0=>?_⟩
 .simp only[go_sem,ha];refine⟨by omega,aE [5] ?_ rfl⟩;simp only[go_sem,aN];rw[jc]
 .subst h0;simp only[go_sem];exact gM (Wk.nls _ 2 4 (by simp only[go_sem])) [] (by first|rfl|simp only[go_sem]) rfl
def NV(rows:List (List AV))(h:rows.length<=1048576):ah pg gU [.sl 3 rows] (.sl 3 rows):=by
 refine au dm ?_;have ha:=n8 5 73 3 rows;simp only[go_sem,dm];refine pV _ _ _ _ ⟨?_,λh0=>?_⟩
 .simp only[go_sem,ha];refine⟨by omega,aE [5] ?_ rfl⟩;simp only[go_sem,aN];rw[jc]
 .subst h0;simp only[go_sem];exact gM (Wk.nls _ 2 3 (by simp only[go_sem])) [] (by first|rfl|simp only[go_sem]) rfl
def Xn(rows:List (List AV))(h:rows.length<=1048576):ah pg cy [.sl 3 rows] (.sl 3 rows):=by
 refine au bO ?_;have ha:=n8 5 48 3 rows;simp only[go_sem,bO];refine pV _ _ _ _ ⟨?_,λh0=>?_⟩
 .simp only[go_sem,ha];refine⟨by omega,aE [5] ?_ rfl⟩;simp only[go_sem,aN];rw[jc]
 .subst h0;simp only[go_sem];exact gM (Wk.nls _ 2 3 (by simp only[go_sem])) [] (by first|rfl|simp only[go_sem]) rfl
def NT(rows:List (List AV))(h:rows.length<=1048576):ah pg oz [.sl 1 rows] (.sl 1 rows):=by
 refine au iG ?_;have ha:=n8 5 5 1 rows;simp only[go_sem,iG];refine pV _ _ _ _ ⟨?_,λh0=>?_⟩
 .simp only[go_sem,ha];refine⟨by omega,aE [5] ?_ rfl⟩;simp only[go_sem,aN];rw[jc]
 .subst h0;simp only[go_sem];exact gM (Wk.nls _ 2 1 (by simp only[go_sem])) [] (by first|rfl|simp only[go_sem]) rfl
def Xo(rows:List (List AV))(h:rows.length<=1048576):ah pg pS [.sl 1 rows] (.sl 1 rows):=by
 refine au jB ?_;have ha:=n8 5 3 1 rows;simp only[go_sem,jB];refine pV _ _ _ _ ⟨?_,λh0=>?_⟩
 .simp only[go_sem,ha];refine⟨by omega,aE [5] ?_ rfl⟩;simp only[go_sem,aN];rw[jc]
 .subst h0;simp only[go_sem];exact gM (Wk.nls _ 2 1 (by simp only[go_sem])) [] (by first|rfl|simp only[go_sem]) rfl
def ady(x:Ft)(h:cpF x):ah pg oi [.agg (kz x)] (.agg (kz x)):=by
 refine au tZ ?_;simp only[go_sem,tZ,aU];refine aL (jH (x.ps.map bg) (by rw[bP];exact h.1)) (by simp[go_sem]) rfl ?_;simp only[go_sem];refine aa (jH (x.rs.map bg) (by rw[bP];exact h.2)) ?_;exact aE [] (by simp only[go_sem,aU]) (by first|rfl|simp[go_sem,bv])
def adD(x:a_)(h:cpI x):ah pg oy [.agg (bH x)] (.agg (bH x)):=by
 refine au uh ?_;simp only[go_sem,uh,bH];refine aL (jH (x.ty.map bg) (by rw[bP];exact h.1)) (by simp[go_sem]) rfl ?_;simp only[go_sem];refine aL (Xo (x.lb.map bg) (by rw[bP];exact h.2.1)) (by simp[go_sem]) rfl ?_;simp only[go_sem];exact aE [] (by simp only[go_sem,bH]) (by first|rfl|simp[go_sem,bv])
def XF(l:List (a_))(hl:l.length<=1048576)(hx:∀x∈l,cpI x):ah pg qW [.sl 9 (l.map bH),.fn oy []] (.sl 9 (l.map bH)):=by
 refine au j_ ?_;simp only[go_sem,j_];refine ao (λi:Nat=>⟨[(10,.int .i64 i),(9,.int .i64 l.length),(8,.sl 9 (l.map bH)),(5,.ms 900 9 0 i),(1,.fn oy [])],[(900,⟨89,9,(l.take i).map bH,false⟩)]⟩) (λi=>i<=l.length) (λi=>l.length-i) 0 (cR _) ((Wk.nil _ 5 900 9 89 (by simp only[go_sem]) (.inl (by decide))).trans (Wk.of ?_ ?_)) ?_
 .simp only[go_sem,St.mknil];try simp[go_sem]
 .simp only[go_sem,St.mknil,iO];try simp[go_sem]
 intro i hi;have hil:(l.take i).length=i:=by simp;omega
 have happ:=λys=>bR 900 89 9 i bH (l.take i) ys hil;by_cases h1:(i:Int)<(l.length:Int)
 .have hi':i<l.length:=by omega
  have e8:=wi (n:=(i:Int)+1) (by omega) (by omega);have cc:=adD (ap l i) (jj hx hi')
  try simp only[bH]at cc
  simp only[go_sem,aw h1,bH];refine⟨by omega,h1,by kernel_rfl,?_⟩;refine ak (cc) ?_;simp only[go_sem,happ];refine⟨by omega,ay (i+1) (show i+1<=l.length by omega) (show l.length-(i+1)<l.length-i by omega) (Wk.of ?_ ?_)⟩
  .simp only[go_sem,e8];try simp
  .simp only[go_sem,lE hi',dW];try simp[bH]
 .obtain rfl:i=l.length:=by omega
  simp only[go_sem,aC h1];refine aE [900] ?_ rfl;simp only[go_sem,jc,aN];rw[gN (by simp)]
def xG(l:List a_)(h:F7 l):ah pg sa [.sl 9 (l.map bH)] (.sl 9 (l.map bH)):=by
 refine au yW ?_;simp only[go_sem,yW];refine aa (XF l h.1 h.2) ?_;exact ac
def Sy(l:List (List a_))(hl:l.length<=1048576)(hx:∀x∈l,F7 x):ah pg pQ [.sl 1 (l.map oX),.fn sa []] (.sl 1 (l.map oX)):=by
 refine au jv ?_;simp only[go_sem,jv];refine ao (λi:Nat=>⟨[(10,.int .i64 i),(9,.int .i64 l.length),(8,.sl 1 (l.map oX)),(5,.ms 900 1 0 i),(1,.fn sa [])],[(900,⟨42,1,(l.take i).map oX,false⟩)]⟩) (λi=>i<=l.length) (λi=>l.length-i) 0 (cR _) ((Wk.nil _ 5 900 1 42 (by simp only[go_sem]) (.inl (by decide))).trans (Wk.of ?_ ?_)) ?_
 .simp only[go_sem,St.mknil];try simp[go_sem]
 .simp only[go_sem,St.mknil,iO];try simp[go_sem]
 intro i hi;have hil:(l.take i).length=i:=by simp;omega
 have happ:=λys=>bR 900 42 1 i oX (l.take i) ys hil;by_cases h1:(i:Int)<(l.length:Int)
 .have hi':i<l.length:=by omega
  have e8:=wi (n:=(i:Int)+1) (by omega) (by omega);have cc:=xG (ap l i) (jj hx hi')
  try simp only[ez]at cc
  simp only[go_sem,aw h1,ez];refine⟨by omega,h1,by kernel_rfl,?_⟩;refine ak (cc) ?_;simp only[go_sem,happ];refine⟨by omega,ay (i+1) (show i+1<=l.length by omega) (show l.length-(i+1)<l.length-i by omega) (Wk.of ?_ ?_)⟩
  .simp only[go_sem,e8];try simp
  .simp only[go_sem,lE hi',dW];try simp[ez]
 .obtain rfl:i=l.length:=by omega
  simp only[go_sem,aC h1];refine aE [900] ?_ rfl;simp only[go_sem,jc,aN];rw[gN (by simp)]
def JA(l:List (Ft))(hl:l.length<=1048576)(hx:∀x∈l,cpF x):ah pg sf [.sl 2 (l.map kz),.fn oi []] (.sl 2 (l.map kz)):=by
 refine au kV ?_;simp only[go_sem,kV];refine ao (λi:Nat=>⟨[(10,.int .i64 i),(9,.int .i64 l.length),(8,.sl 2 (l.map kz)),(5,.ms 900 2 0 i),(1,.fn oi [])],[(900,⟨68,2,(l.take i).map kz,false⟩)]⟩) (λi=>i<=l.length) (λi=>l.length-i) 0 (cR _) ((Wk.nil _ 5 900 2 68 (by simp only[go_sem]) (.inl (by decide))).trans (Wk.of ?_ ?_)) ?_
 .simp only[go_sem,St.mknil];try simp[go_sem]
 .simp only[go_sem,St.mknil,iO];try simp[go_sem]
 intro i hi;have hil:(l.take i).length=i:=by simp;omega
 have happ:=λys=>bR 900 68 2 i kz (l.take i) ys hil;by_cases h1:(i:Int)<(l.length:Int)
 .have hi':i<l.length:=by omega
  have e8:=wi (n:=(i:Int)+1) (by omega) (by omega);have cc:=ady (ap l i) (jj hx hi')
  try simp only[aU]at cc
  simp only[go_sem,aw h1,aU];refine⟨by omega,h1,by kernel_rfl,?_⟩;refine ak (cc) ?_;simp only[go_sem,happ];refine⟨by omega,ay (i+1) (show i+1<=l.length by omega) (show l.length-(i+1)<l.length-i by omega) (Wk.of ?_ ?_)⟩
  .simp only[go_sem,e8];try simp
  .simp only[go_sem,lE hi',dW];try simp[aU]
 .obtain rfl:i=l.length:=by omega
  simp only[go_sem,aC h1];refine aE [900] ?_ rfl;simp only[go_sem,jc,aN];rw[gN (by simp)]
def aa6(x:Cd)(h:Sv x):ah pg iJ [.agg (pt x)] (.agg (pt x)):=by
 refine au t8 ?_;simp only[go_sem,t8,cj];refine aL (jH (x.lo.map bg) (by rw[bP];exact h.1)) (by simp[go_sem]) rfl ?_;simp only[go_sem];refine aL (xG x.b h.2) (by simp[go_sem]) rfl ?_;simp only[go_sem];exact aE [] (by simp only[go_sem,cj]) (by first|rfl|simp[go_sem,bv])
def Sx(l:List (Cd))(hl:l.length<=1048576)(hx:∀x∈l,Sv x):ah pg k9 [.sl 3 (l.map pt),.fn iJ []] (.sl 3 (l.map pt)):=by
 refine au eu ?_;simp only[go_sem,eu];refine ao (λi:Nat=>⟨[(10,.int .i64 i),(9,.int .i64 l.length),(8,.sl 3 (l.map pt)),(5,.ms 900 3 0 i),(1,.fn iJ [])],[(900,⟨44,3,(l.take i).map pt,false⟩)]⟩) (λi=>i<=l.length) (λi=>l.length-i) 0 (cR _) ((Wk.nil _ 5 900 3 44 (by simp only[go_sem]) (.inl (by decide))).trans (Wk.of ?_ ?_)) ?_
 .simp only[go_sem,St.mknil];try simp[go_sem]
 .simp only[go_sem,St.mknil,iO];try simp[go_sem]
 intro i hi;have hil:(l.take i).length=i:=by simp;omega
 have happ:=λys=>bR 900 44 3 i pt (l.take i) ys hil;by_cases h1:(i:Int)<(l.length:Int)
 .have hi':i<l.length:=by omega
  have e8:=wi (n:=(i:Int)+1) (by omega) (by omega);have cc:=aa6 (ap l i) (jj hx hi')
  try simp only[cj]at cc
  simp only[go_sem,aw h1,cj];refine⟨by omega,h1,by kernel_rfl,?_⟩;refine ak (cc) ?_;simp only[go_sem,happ];refine⟨by omega,ay (i+1) (show i+1<=l.length by omega) (show l.length-(i+1)<l.length-i by omega) (Wk.of ?_ ?_)⟩
  .simp only[go_sem,e8];try simp
  .simp only[go_sem,lE hi',dW];try simp[cj]
 .obtain rfl:i=l.length:=by omega
  simp only[go_sem,aC h1];refine aE [900] ?_ rfl;simp only[go_sem,jc,aN];rw[gN (by simp)]
def adz(x:Gd)(h:Xv x):ah pg ol [.agg (zk x)] (.agg (zk x)):=by
 refine au t_ ?_;simp only[go_sem,t_,gC];refine aL (xG x.i h) (by simp[go_sem]) rfl ?_;simp only[go_sem];exact aE [] (by simp only[go_sem,gC]) (by first|rfl|simp[go_sem,bv])
def JB(l:List (Gd))(hl:l.length<=1048576)(hx:∀x∈l,Xv x):ah pg nz [.sl 3 (l.map zk),.fn ol []] (.sl 3 (l.map zk)):=by
 refine au gY ?_;simp only[go_sem,gY];refine ao (λi:Nat=>⟨[(10,.int .i64 i),(9,.int .i64 l.length),(8,.sl 3 (l.map zk)),(5,.ms 900 3 0 i),(1,.fn ol [])],[(900,⟨116,3,(l.take i).map zk,false⟩)]⟩) (λi=>i<=l.length) (λi=>l.length-i) 0 (cR _) ((Wk.nil _ 5 900 3 116 (by simp only[go_sem]) (.inl (by decide))).trans (Wk.of ?_ ?_)) ?_
 .simp only[go_sem,St.mknil];try simp[go_sem]
 .simp only[go_sem,St.mknil,iO];try simp[go_sem]
 intro i hi;have hil:(l.take i).length=i:=by simp;omega
 have happ:=λys=>bR 900 116 3 i zk (l.take i) ys hil;by_cases h1:(i:Int)<(l.length:Int)
 .have hi':i<l.length:=by omega
  have e8:=wi (n:=(i:Int)+1) (by omega) (by omega);have cc:=adz (ap l i) (jj hx hi')
  try simp only[gC]at cc
  simp only[go_sem,aw h1,gC];refine⟨by omega,h1,by kernel_rfl,?_⟩;refine ak (cc) ?_;simp only[go_sem,happ];refine⟨by omega,ay (i+1) (show i+1<=l.length by omega) (show l.length-(i+1)<l.length-i by omega) (Wk.of ?_ ?_)⟩
  .simp only[go_sem,e8];try simp
  .simp only[go_sem,lE hi',dW];try simp[gC]
 .obtain rfl:i=l.length:=by omega
  simp only[go_sem,aC h1];refine aE [900] ?_ rfl;simp only[go_sem,jc,aN];rw[gN (by simp)]
def adA(x:El)(h:Xu x):ah pg ou [.agg (rK x)] (.agg (rK x)):=by
 refine au uc ?_;simp only[go_sem,uc,dn];refine aL (xG x.o h.1) (by simp[go_sem]) rfl ?_;simp only[go_sem];refine aL (Sy x.it h.2.1 h.2.2) (by simp[go_sem]) rfl ?_;simp only[go_sem];exact aE [] (by simp only[go_sem,dn]) (by first|rfl|simp[go_sem,bv])
def Jz(l:List (El))(hl:l.length<=1048576)(hx:∀x∈l,Xu x):ah pg se [.sl 5 (l.map rK),.fn ou []] (.sl 5 (l.map rK)):=by
 refine au kU ?_;simp only[go_sem,kU];refine ao (λi:Nat=>⟨[(10,.int .i64 i),(9,.int .i64 l.length),(8,.sl 5 (l.map rK)),(5,.ms 900 5 0 i),(1,.fn ou [])],[(900,⟨109,5,(l.take i).map rK,false⟩)]⟩) (λi=>i<=l.length) (λi=>l.length-i) 0 (cR _) ((Wk.nil _ 5 900 5 109 (by simp only[go_sem]) (.inl (by decide))).trans (Wk.of ?_ ?_)) ?_
 .simp only[go_sem,St.mknil];try simp[go_sem]
 .simp only[go_sem,St.mknil,iO];try simp[go_sem]
 intro i hi;have hil:(l.take i).length=i:=by simp;omega
 have happ:=λys=>bR 900 109 5 i rK (l.take i) ys hil;by_cases h1:(i:Int)<(l.length:Int)
 .have hi':i<l.length:=by omega
  have e8:=wi (n:=(i:Int)+1) (by omega) (by omega);have cc:=adA (ap l i) (jj hx hi')
  try simp only[dn]at cc
  simp only[go_sem,aw h1,dn];refine⟨by omega,h1,by kernel_rfl,?_⟩;refine ak (cc) ?_;simp only[go_sem,happ];refine⟨by omega,ay (i+1) (show i+1<=l.length by omega) (show l.length-(i+1)<l.length-i by omega) (Wk.of ?_ ?_)⟩
  .simp only[go_sem,e8];try simp
  .simp only[go_sem,lE hi',dW];try simp[dn]
 .obtain rfl:i=l.length:=by omega
  simp only[go_sem,aC h1];refine aE [900] ?_ rfl;simp only[go_sem,jc,aN];rw[gN (by simp)]
def adB(x:Da)(h:Xt x):ah pg ow [.agg (z_ x)] (.agg (z_ x)):=by
 refine au ud ?_;simp only[go_sem,ud,fa];refine aL (xG x.o h.1) (by simp[go_sem]) rfl ?_;simp only[go_sem];refine aL (NT (x.b.map FZ) (by rw[bP];exact h.2)) (by simp[go_sem]) rfl ?_;simp only[go_sem];exact aE [] (by simp only[go_sem,fa]) (by first|rfl|simp[go_sem,bv])
def Jy(l:List (Da))(hl:l.length<=1048576)(hx:∀x∈l,Xt x):ah pg sd [.sl 4 (l.map z_),.fn ow []] (.sl 4 (l.map z_)):=by
 refine au kT ?_;simp only[go_sem,kT];refine ao (λi:Nat=>⟨[(10,.int .i64 i),(9,.int .i64 l.length),(8,.sl 4 (l.map z_)),(5,.ms 900 4 0 i),(1,.fn ow [])],[(900,⟨120,4,(l.take i).map z_,false⟩)]⟩) (λi=>i<=l.length) (λi=>l.length-i) 0 (cR _) ((Wk.nil _ 5 900 4 120 (by simp only[go_sem]) (.inl (by decide))).trans (Wk.of ?_ ?_)) ?_
 .simp only[go_sem,St.mknil];try simp[go_sem]
 .simp only[go_sem,St.mknil,iO];try simp[go_sem]
 intro i hi;have hil:(l.take i).length=i:=by simp;omega
 have happ:=λys=>bR 900 120 4 i z_ (l.take i) ys hil;by_cases h1:(i:Int)<(l.length:Int)
 .have hi':i<l.length:=by omega
  have e8:=wi (n:=(i:Int)+1) (by omega) (by omega);have cc:=adB (ap l i) (jj hx hi')
  try simp only[fa]at cc
  simp only[go_sem,aw h1,fa];refine⟨by omega,h1,by kernel_rfl,?_⟩;refine ak (cc) ?_;simp only[go_sem,happ];refine⟨by omega,ay (i+1) (show i+1<=l.length by omega) (show l.length-(i+1)<l.length-i by omega) (Wk.of ?_ ?_)⟩
  .simp only[go_sem,e8];try simp
  .simp only[go_sem,lE hi',dW];try simp[fa]
 .obtain rfl:i=l.length:=by omega
  simp only[go_sem,aC h1];refine aE [900] ?_ rfl;simp only[go_sem,jc,aN];rw[gN (by simp)]
def adC(x:Cu)(h:Xs x):ah pg ox [.agg (wO x)] (.agg (wO x)):=by
 refine au ue ?_;simp only[go_sem,ue,dA];refine aa (NT (x.b.map FZ) (by rw[bP];exact h)) ?_;exact aE [] (by simp only[go_sem,dA]) (by first|rfl|simp[go_sem,bv])
def Jw(l:List (Cu))(hl:l.length<=1048576)(hx:∀x∈l,Xs x):ah pg pR [.sl 3 (l.map wO),.fn ox []] (.sl 3 (l.map wO)):=by
 refine au jw ?_;simp only[go_sem,jw];refine ao (λi:Nat=>⟨[(10,.int .i64 i),(9,.int .i64 l.length),(8,.sl 3 (l.map wO)),(5,.ms 900 3 0 i),(1,.fn ox [])],[(900,⟨65,3,(l.take i).map wO,false⟩)]⟩) (λi=>i<=l.length) (λi=>l.length-i) 0 (cR _) ((Wk.nil _ 5 900 3 65 (by simp only[go_sem]) (.inl (by decide))).trans (Wk.of ?_ ?_)) ?_
 .simp only[go_sem,St.mknil];try simp[go_sem]
 .simp only[go_sem,St.mknil,iO];try simp[go_sem]
 intro i hi;have hil:(l.take i).length=i:=by simp;omega
 have happ:=λys=>bR 900 65 3 i wO (l.take i) ys hil;by_cases h1:(i:Int)<(l.length:Int)
 .have hi':i<l.length:=by omega
  have e8:=wi (n:=(i:Int)+1) (by omega) (by omega);have cc:=adC (ap l i) (jj hx hi')
  try simp only[dA]at cc
  simp only[go_sem,aw h1,dA];refine⟨by omega,h1,by kernel_rfl,?_⟩;refine ak (cc) ?_;simp only[go_sem,happ];refine⟨by omega,ay (i+1) (show i+1<=l.length by omega) (show l.length-(i+1)<l.length-i by omega) (Wk.of ?_ ?_)⟩
  .simp only[go_sem,e8];try simp
  .simp only[go_sem,lE hi',dW];try simp[dA]
 .obtain rfl:i=l.length:=by omega
  simp only[go_sem,aC h1];refine aE [900] ?_ rfl;simp only[go_sem,jc,aN];rw[gN (by simp)]
def Vb(m:Md)(h:cpM m):ah pg r_ [da m] (da m):=by
 refine au nI ?_;have c1:=JA m.ts h.ts.1 h.ts.2;have c2:=Sx m.fs h.fs.1 h.fs.2;have c3:=JB m.gs h.gs.1 h.gs.2;have c4:=Jz m.els h.els.1 h.els.2;have c5:=Jy m.ds h.ds.1 h.ds.2;have c6:=Jw m.cs h.cs.1 h.cs.2;simp only[go_sem,nI,da,bn];refine aa (c1) ?_;refine aL (NU (m.ims.map Ae) (by rw[bP];exact h.ims)) (by simp[go_sem]) rfl ?_;simp only[go_sem];refine aL (NW (m.tbs.map ya) (by rw[bP];exact h.tbs)) (by simp[go_sem]) rfl ?_;simp only[go_sem];refine aL (NV (m.ms.map w_) (by rw[bP];exact h.ms)) (by simp[go_sem]) rfl ?_;simp only[go_sem];refine aL (Xn (m.exs.map x_) (by rw[bP];exact h.exs)) (by simp[go_sem]) rfl ?_;simp only[go_sem];refine aa (c2) ?_;refine aa (c3) ?_;refine aa (c4) ?_;refine aa (c5) ?_;refine aa (c6) ?_;exact aE [] (by simp only[go_sem,da,bn]) (by first|rfl|simp[go_sem,bv])
end
section
deriving instance DecidableEq for a_,Ft,Lm,Gl,Im,Cd,Tb,Gd,Ex,El,Da,Cu,Md
def Kf{a b:List Int}(hl:a.length=b.length)(h:∀k,k<a.length->ap a k=ap b k):a=b:=by
 apply List.ext_getElem hl;intro i h1 h2;have:=h i h1;rwa[aV h1,aV h2]at this
def sI(x y:a_):Bool:=(x.op==y.op)&&((x.a==y.a)&&((x.b==y.b)&&((x.n==y.n)&&(((x.k==y.k)&&((x.v==y.v)&&(x.x==y.x)))&&((x.ty==y.ty)&&(x.lb==y.lb))))))
attribute[local go_sem] dt eE bP
def UU(x y:a_)(h1:x.ty.length<=9223372036854775807)(h2:x.lb.length<=9223372036854775807):ah pg xg [kD x,kD y] (.bool (sI x y)):=by
 refine au wC ?_;have ft:∀b:Bool,(true&&b)=b:=λ_=>rfl;have ff:∀b:Bool,(false&&b)=false:=λ_=>rfl;have nt:∀{a b:Int},(a != b)=true->(a==b)=false:=λh=>by simpa using h
 have nf:∀{a b:Int},(a != b)=false->(a==b)=true:=λh=>by simpa using h
 have lt:∀{a b:List Int},((a.length:Int) != (b.length:Int))=true->(a==b)=false:=λ{a b} h=>by
  rw[CV];intro e;rw[e]at h;simp at h
 have lf:∀{a b:List Int},((a.length:Int) != (b.length:Int))=false->a.length=b.length:=λ{a b} h=>by
  have h2:¬((a.length:Int)≠(b.length:Int)):=by simpa using h
  omega
 have nb:∀{b:Bool},(!b)=true->b=false:=λ{b} h=>by cases b<;>first|rfl|cases h
 have nc:∀{b:Bool},(!b)=false->b=true:=λ{b} h=>by cases b<;>first|rfl|cases h
 unfold sI;simp only[go_sem,wC];refine⟨λc1=>?_,λc1=>⟨λc2=>?_,λc2=>⟨λc3=>?_,λc3=>⟨λc4=>?_,λc4=>⟨λc5=>?_,λc5=>⟨λc6=>?_,λc6=>⟨λc7=>?_,λc7=>?_⟩⟩⟩⟩⟩⟩⟩
 .rw[nt c1];exact an
 .rw[nf c1,nt c2];exact an
 .rw[nf c1,nf c2,nt c3];exact an
 .rw[nf c1,nf c2,nf c3,nt c4];exact an
 .rw[nf c1,nf c2,nf c3,nf c4,nb c5];exact an
 .rw[nf c1,nf c2,nf c3,nf c4,nc c5,lt c6];exact an
 .rw[nf c1,nf c2,nf c3,nf c4,nc c5,lt c7,Bool.and_false];exact an
 rw[nf c1,nf c2,nf c3,nf c4,nc c5,ft,ft,ft,ft,ft];replace c6:=lf c6;replace c7:=lf c7;refine ao (λi:Nat=>⟨[(2,.mp 2 9 0 0),(3,.mp 3 9 0 0),(5,.int .i64 i)],[(3,⟨89,9,[[.int .i64 y.op,.int .i64 y.a,.int .i64 y.b,.int .u64 y.n,.int .i64 y.k,.int .i64 y.v,.int .i64 y.x,.sl 1 (y.ty.map bg),.sl 1 (y.lb.map bg)]],true⟩),(2,⟨89,9,[[.int .i64 x.op,.int .i64 x.a,.int .i64 x.b,.int .u64 x.n,.int .i64 x.k,.int .i64 x.v,.int .i64 x.x,.sl 1 (x.ty.map bg),.sl 1 (x.lb.map bg)]],true⟩)]⟩) (λi=>i<=x.ty.length/\∀k,k<i->ap x.ty k=ap y.ty k) (λi=>x.ty.length-i) 0 ⟨cR _,λk hk=>absurd hk (Nat.not_lt_zero k)⟩ (Wk.of ?_ ?_) ?_
 .simp only[go_sem];try simp
 .simp only[go_sem]
 rintro i ⟨hi,hk⟩;by_cases q1:(i:Int)<(x.ty.length:Int)
 .have e8:=wi (n:=(i:Int)+1) (by omega) (by omega);simp only[go_sem,aw q1];refine⟨by omega,q1,by omega,by omega,λg2=>?_,λg2=>ay (i+1) ⟨by omega,λk hk9=>?_⟩ (show x.ty.length-(i+1)<x.ty.length-i by omega) (Wk.of ?_ ?_)⟩
  .have r:(x.ty==y.ty)=false:=by
    rw[CV];intro e;rw[e]at g2;simp at g2
   rw[r,ff];exact an
  .rcases eJ k i with h4|h4
   .exact hk k h4
   .obtain rfl:k=i:=by omega
    simpa using g2
  .simp only[go_sem,e8]
   try simp
  .simp only[go_sem]
 .have r:(x.ty==y.ty)=true:=by rw[Kf c6 (λk hk2=>hk k (by omega))];exact beq_self_eq_true _
  rw[r,ft];simp only[go_sem,aC q1];refine ao (λi:Nat=>⟨[(2,.mp 2 9 0 0),(3,.mp 3 9 0 0),(6,.int .i64 i)],[(3,⟨89,9,[[.int .i64 y.op,.int .i64 y.a,.int .i64 y.b,.int .u64 y.n,.int .i64 y.k,.int .i64 y.v,.int .i64 y.x,.sl 1 (y.ty.map bg),.sl 1 (y.lb.map bg)]],true⟩),(2,⟨89,9,[[.int .i64 x.op,.int .i64 x.a,.int .i64 x.b,.int .u64 x.n,.int .i64 x.k,.int .i64 x.v,.int .i64 x.x,.sl 1 (x.ty.map bg),.sl 1 (x.lb.map bg)]],true⟩)]⟩) (λi=>i<=x.lb.length/\∀k,k<i->ap x.lb k=ap y.lb k) (λi=>x.lb.length-i) 0 ⟨cR _,λk hk=>absurd hk (Nat.not_lt_zero k)⟩ (Wk.of ?_ ?_) ?_
  .simp only[go_sem];try simp
  .simp only[go_sem]
  rintro j ⟨hj,hk2⟩;by_cases q2:(j:Int)<(x.lb.length:Int)
  .have e9:=wi (n:=(j:Int)+1) (by omega) (by omega);simp only[go_sem,aw q2];refine⟨by omega,q2,by omega,by omega,λg2=>?_,λg2=>ay (j+1) ⟨by omega,λk hk9=>?_⟩ (show x.lb.length-(j+1)<x.lb.length-j by omega) (Wk.of ?_ ?_)⟩
   .have r:(x.lb==y.lb)=false:=by
     rw[CV];intro e;rw[e]at g2;simp at g2
    rw[r];exact an
   .rcases eJ k j with h4|h4
    .exact hk2 k h4
    .obtain rfl:k=j:=by omega
     simpa using g2
   .simp only[go_sem,e9]
    try simp
   .simp only[go_sem]
  .have r:(x.lb==y.lb)=true:=by rw[Kf c7 (λk hk3=>hk2 k (by omega))];exact beq_self_eq_true _
   rw[r];simp only[go_sem,aC q2];exact an
def acr(x y:a_):sI x y=decide (x=y):=by
 obtain⟨a1,a2,a3,a4,a5,a6,a7,a8,a9⟩:=x;obtain⟨b1,b2,b3,b4,b5,b6,b7,b8,b9⟩:=y;unfold sI;by_cases h1:a1=b1<;>by_cases h2:a2=b2<;>by_cases h3:a3=b3<;>by_cases h4:a4=b4<;>by_cases h5:a5=b5<;>by_cases h6:a6=b6<;>by_cases h7:a7=b7<;>by_cases h8:a8=b8<;>by_cases h9:a9=b9<;>simp[h1,h2,h3,h4,h5,h6,h7,h8,h9]
def UT(x y:a_)(h:I4 x):ah pg xg [kD x,kD y] (.bool (decide (x=y))):=by
 rw[<-acr];exact UU x y (by have:=h.1;omega) (by have:=h.2;omega)
def cA{j n:Nat}(h:j<n)(hn:n<=9223372036854775807):IntKind.i64.wrap ((j:Int)+1)=(j:Int)+1:=wi (by omega) (by omega)
def jI{α:Type}[Inhabited α]{a b:List α}(hl:a.length=b.length)(h:∀k,k<a.length->ap a k=ap b k):a=b:=by
 apply List.ext_getElem hl;intro i h1 h2;have:=h i h1;rwa[aV h1,aV h2]at this
end
section
def A7{x y:Im}:((x.m==y.m)&&((x.n==y.n)&&((x.k==y.k)&&((x.f==y.f)&&((x.te==y.te)&&((x.tl.mn==y.tl.mn)&&((x.tl.mx==y.tl.mx)&&((x.tl.hs==y.tl.hs)&&((x.me.mn==y.me.mn)&&((x.me.mx==y.me.mx)&&((x.me.hs==y.me.hs)&&((x.g.v==y.g.v)&&(x.g.mu==y.g.mu)))))))))))))=decide (x=y):=by
 obtain⟨a1,a2,a3,a4,a5,⟨a6,a7,a8⟩,⟨a9,a10,a11⟩,⟨a12,a13⟩⟩:=x;obtain⟨b1,b2,b3,b4,b5,⟨b6,b7,b8⟩,⟨b9,b10,b11⟩,⟨b12,b13⟩⟩:=y;rw[DR];simp only[fQ,beq_iff_eq,tT,Im.mk.injEq,Lm.mk.injEq,Gl.mk.injEq,and_assoc]
def Wc{x y:Lm}:((x.mn==y.mn)&&((x.mx==y.mx)&&(x.hs==y.hs)))=decide (x=y):=by
 obtain⟨a1,a2,a3⟩:=x;obtain⟨b1,b2,b3⟩:=y;rw[DR];simp only[fQ,beq_iff_eq,tT,Lm.mk.injEq,and_assoc]
def Wz{x y:Tb}:((x.e==y.e)&&((x.l.mn==y.l.mn)&&((x.l.mx==y.l.mx)&&(x.l.hs==y.l.hs))))=decide (x=y):=by
 obtain⟨a1,⟨a2,a3,a4⟩⟩:=x;obtain⟨b1,⟨b2,b3,b4⟩⟩:=y;rw[DR];simp only[fQ,beq_iff_eq,tT,Tb.mk.injEq,Lm.mk.injEq,and_assoc]
def VY{x y:Ex}:((x.n==y.n)&&((x.k==y.k)&&(x.i==y.i)))=decide (x=y):=by
 obtain⟨a1,a2,a3⟩:=x;obtain⟨b1,b2,b3⟩:=y;rw[DR];simp only[fQ,beq_iff_eq,tT,Ex.mk.injEq,and_assoc]
def Gp{x y:Gl}:((x.v==y.v)&&(x.mu==y.mu))=decide (x=y):=by
 obtain⟨a1,a2⟩:=x;obtain⟨b1,b2⟩:=y;rw[DR];simp only[fQ,beq_iff_eq,tT,Gl.mk.injEq]
attribute[local go_sem] bP aU cQ cj bT cC gC df fa dA dt bH
def fj(a b:List a_)(ha:a.length<=9223372036854775807/\∀x∈a,I4 x):ah pg zN [.sl 9 (a.map bH),.sl 9 (b.map bH)] (.bool (decide (a=b))):=by
 refine au lq ?_;by_cases hl:(a.length:Int)=(b.length:Int);rotate_left
 .rw[aC (λh=>hl (by rw[h]))];simp only[go_sem,lq,aG hl];exact ac
 simp only[go_sem,lq,ar hl];refine ao (λj:Nat=>⟨[(5,.int .i64 j),(0,.sl 9 (a.map bH)),(1,.sl 9 (b.map bH))],[]⟩) (λj=>j<=a.length/\∀k,k<j->ap a k=ap b k) (λj=>a.length-j) 0 ⟨cR _,λk hk=>by omega⟩ (Wk.of ?_ ?_) ?_
 .simp only[go_sem];try simp
 .simp only[go_sem]
 rintro j ⟨hj,hx⟩;by_cases h1:(j:Int)<(a.length:Int);rotate_left
 .rw[aw (jI (by omega) λk hk=>hx k (by omega))];simp only[go_sem,aC h1];exact ac
 have hj':j<a.length:=by omega
 have hjb:(j:Int)<(b.length:Int):=by omega
 have e8:=cA hj' (by omega);obtain⟨ha,hs⟩:=ha;have hX:=jj hs hj';clear hs;have neq:ap a j≠ap b j->decide (a=b)=false:=λh=>aC (λe=>h (by rw[e]));have cc:=UT (ap a j) (ap b j) hX
 try simp only[dt,aU]at cc
 by_cases h2:ap a j=ap b j
 .rw[aw h2]at cc;simp only[go_sem,aw h1];refine⟨by omega,h1,by omega,hjb,?_⟩;refine aa (cc) ?_;refine ay (j+1) ⟨show j+1<=a.length by omega,λk hk=>?_⟩ (show a.length-(j+1)<a.length-j by omega) (Wk.of ?_ ?_)
  .rcases eJ k j with h|h
   .exact hx k h
   .rw[show k=j by omega];exact h2
  .simp only[go_sem,e8];try simp
  .simp only[go_sem]
 .rw[aC h2]at cc;rw[neq h2];simp only[go_sem,aw h1];refine⟨by omega,h1,by omega,hjb,?_⟩;refine aa (cc) ?_;exact ac
def BE(a b:List Int)(ha:a.length<=9223372036854775807):ah pg yw [.sl 1 (a.map bg),.sl 1 (b.map bg)] (.bool (decide (a=b))):=by
 refine au ki ?_;by_cases hl:(a.length:Int)=(b.length:Int);rotate_left
 .rw[aC (λh=>hl (by rw[h]))];simp only[go_sem,ki,aG hl];exact ac
 simp only[go_sem,ki,ar hl];refine ao (λj:Nat=>⟨[(5,.int .i64 j),(0,.sl 1 (a.map bg)),(1,.sl 1 (b.map bg))],[]⟩) (λj=>j<=a.length/\∀k,k<j->ap a k=ap b k) (λj=>a.length-j) 0 ⟨cR _,λk hk=>by omega⟩ (Wk.of ?_ ?_) ?_
 .simp only[go_sem];try simp
 .simp only[go_sem]
 rintro j ⟨hj,hx⟩;by_cases h1:(j:Int)<(a.length:Int);rotate_left
 .rw[aw (jI (by omega) λk hk=>hx k (by omega))];simp only[go_sem,aC h1];exact ac
 have hj':j<a.length:=by omega
 have hjb:(j:Int)<(b.length:Int):=by omega
 have e8:=cA hj' (by omega);have neq:ap a j≠ap b j->decide (a=b)=false:=λh=>aC (λe=>h (by rw[e]));by_cases h2:ap a j=ap b j
 .simp only[go_sem,aw h1,ar h2];refine⟨by omega,h1,by omega,hjb,ay (j+1) ⟨show j+1<=a.length by omega,λk hk=>?_⟩ (show a.length-(j+1)<a.length-j by omega) (Wk.of ?_ ?_)⟩
  .rcases eJ k j with h|h
   .exact hx k h
   .rw[show k=j by omega];exact h2
  .simp only[go_sem,e8];try simp
  .simp only[go_sem]
 .rw[neq h2];simp only[go_sem,aw h1,aG h2];refine⟨by omega,h1,by omega,hjb,?_⟩;exact ac
def aeo(x y:Ft)(h:smF x):ah pg EI [.agg (kz x),.agg (kz y)] (.bool (decide (x=y))):=by
 refine au mc ?_;have d1:=BE x.ps y.ps h.1;have d2:=BE x.rs y.rs h.2;by_cases c1:x.ps=y.ps;rotate_left
 .rw[aC c1]at d1;rw[aC (λe=>c1 (by rw[e]))];simp only[go_sem,mc];refine aa (d1) ?_;exact ac
 rw[aw c1]at d1;by_cases c2:x.rs=y.rs;rotate_left
 .rw[aC c2]at d2;rw[aC (λe=>c2 (by rw[e]))];simp only[go_sem,mc];refine aa (d1) ?_;refine aa (d2) ?_;exact ac
 rw[aw c2]at d2;rw[aw (show x=y by obtain⟨a1,a2⟩:=x;obtain⟨b1,b2⟩:=y;simp only at c1 c2;rw[c1,c2])];simp only[go_sem,mc];refine aa (d1) ?_;refine aa (d2) ?_;exact ac
def UW(a b:List Ft)(ha:a.length<=9223372036854775807/\∀x∈a,smF x):ah pg xl [.sl 2 (a.map kz),.sl 2 (b.map kz)] (.bool (decide (a=b))):=by
 refine au jA ?_;by_cases hl:(a.length:Int)=(b.length:Int);rotate_left
 .rw[aC (λh=>hl (by rw[h]))];simp only[go_sem,jA,aG hl];exact ac
 simp only[go_sem,jA,ar hl];refine ao (λj:Nat=>⟨[(5,.int .i64 j),(0,.sl 2 (a.map kz)),(1,.sl 2 (b.map kz))],[]⟩) (λj=>j<=a.length/\∀k,k<j->ap a k=ap b k) (λj=>a.length-j) 0 ⟨cR _,λk hk=>by omega⟩ (Wk.of ?_ ?_) ?_
 .simp only[go_sem];try simp
 .simp only[go_sem]
 rintro j ⟨hj,hx⟩;by_cases h1:(j:Int)<(a.length:Int);rotate_left
 .rw[aw (jI (by omega) λk hk=>hx k (by omega))];simp only[go_sem,aC h1];exact ac
 have hj':j<a.length:=by omega
 have hjb:(j:Int)<(b.length:Int):=by omega
 have e8:=cA hj' (by omega);obtain⟨ha,hs⟩:=ha;have hX:=jj hs hj';clear hs;have neq:ap a j≠ap b j->decide (a=b)=false:=λh=>aC (λe=>h (by rw[e]));have cc:=aeo (ap a j) (ap b j) hX
 try simp only[dt,aU]at cc
 by_cases h2:ap a j=ap b j
 .rw[aw h2]at cc;simp only[go_sem,aw h1];refine⟨by omega,h1,by omega,hjb,?_⟩;refine aa (cc) ?_;refine ay (j+1) ⟨show j+1<=a.length by omega,λk hk=>?_⟩ (show a.length-(j+1)<a.length-j by omega) (Wk.of ?_ ?_)
  .rcases eJ k j with h|h
   .exact hx k h
   .rw[show k=j by omega];exact h2
  .simp only[go_sem,e8];try simp
  .simp only[go_sem]
 .rw[aC h2]at cc;rw[neq h2];simp only[go_sem,aw h1];refine⟨by omega,h1,by omega,hjb,?_⟩;refine aa (cc) ?_;exact ac
def Zx(a b:List Im)(ha:a.length<=9223372036854775807):ah pg tN [.sl 13 (a.map Ae),.sl 13 (b.map Ae)] (.bool (decide (a=b))):=by
 refine au iB ?_;by_cases hl:(a.length:Int)=(b.length:Int);rotate_left
 .rw[aC (λh=>hl (by rw[h]))];simp only[go_sem,iB,aG hl];exact ac
 simp only[go_sem,iB,ar hl];refine ao (λj:Nat=>⟨[(5,.int .i64 j),(0,.sl 13 (a.map Ae)),(1,.sl 13 (b.map Ae))],[]⟩) (λj=>j<=a.length/\∀k,k<j->ap a k=ap b k) (λj=>a.length-j) 0 ⟨cR _,λk hk=>by omega⟩ (Wk.of ?_ ?_) ?_
 .simp only[go_sem];try simp
 .simp only[go_sem]
 rintro j ⟨hj,hx⟩;by_cases h1:(j:Int)<(a.length:Int);rotate_left
 .rw[aw (jI (by omega) λk hk=>hx k (by omega))];simp only[go_sem,aC h1];exact ac
 have hj':j<a.length:=by omega
 have hjb:(j:Int)<(b.length:Int):=by omega
 have e8:=cA hj' (by omega);have neq:ap a j≠ap b j->decide (a=b)=false:=λh=>aC (λe=>h (by rw[e]));by_cases h2:ap a j=ap b j
 .simp only[go_sem,aw h1,A7,aw h2,di];refine⟨by omega,h1,by omega,hjb,ay (j+1) ⟨show j+1<=a.length by omega,λk hk=>?_⟩ (show a.length-(j+1)<a.length-j by omega) (Wk.of ?_ ?_)⟩
  .rcases eJ k j with h|h
   .exact hx k h
   .rw[show k=j by omega];exact h2
  .simp only[go_sem,e8];try simp
  .simp only[go_sem]
 .rw[neq h2];simp only[go_sem,aw h1,A7,aC h2,dH];refine⟨by omega,h1,by omega,hjb,?_⟩;exact ac
def Zw(a b:List Ex)(ha:a.length<=9223372036854775807):ah pg tK [.sl 3 (a.map x_),.sl 3 (b.map x_)] (.bool (decide (a=b))):=by
 refine au iz ?_;by_cases hl:(a.length:Int)=(b.length:Int);rotate_left
 .rw[aC (λh=>hl (by rw[h]))];simp only[go_sem,iz,aG hl];exact ac
 simp only[go_sem,iz,ar hl];refine ao (λj:Nat=>⟨[(5,.int .i64 j),(0,.sl 3 (a.map x_)),(1,.sl 3 (b.map x_))],[]⟩) (λj=>j<=a.length/\∀k,k<j->ap a k=ap b k) (λj=>a.length-j) 0 ⟨cR _,λk hk=>by omega⟩ (Wk.of ?_ ?_) ?_
 .simp only[go_sem];try simp
 .simp only[go_sem]
 rintro j ⟨hj,hx⟩;by_cases h1:(j:Int)<(a.length:Int);rotate_left
 .rw[aw (jI (by omega) λk hk=>hx k (by omega))];simp only[go_sem,aC h1];exact ac
 have hj':j<a.length:=by omega
 have hjb:(j:Int)<(b.length:Int):=by omega
 have e8:=cA hj' (by omega);have neq:ap a j≠ap b j->decide (a=b)=false:=λh=>aC (λe=>h (by rw[e]));by_cases h2:ap a j=ap b j
 .simp only[go_sem,aw h1,VY,aw h2,di];refine⟨by omega,h1,by omega,hjb,ay (j+1) ⟨show j+1<=a.length by omega,λk hk=>?_⟩ (show a.length-(j+1)<a.length-j by omega) (Wk.of ?_ ?_)⟩
  .rcases eJ k j with h|h
   .exact hx k h
   .rw[show k=j by omega];exact h2
  .simp only[go_sem,e8];try simp
  .simp only[go_sem]
 .rw[neq h2];simp only[go_sem,aw h1,VY,aC h2,dH];refine⟨by omega,h1,by omega,hjb,?_⟩;exact ac
end
section
def bsf{x y:List UInt8}(h:x=y):(x==y)=true:=by simpa using h
def bst{x y:List UInt8}(h:¬x=y):(x==y)=false:=by simpa using h
attribute[local go_sem] bP aU cQ cj bT cC gC df fa dA bH
def UN(a b:List Cd)(ha:a.length<=9223372036854775807/\∀x∈a,Rb x):ah pg xj [.sl 3 (a.map pt),.sl 3 (b.map pt)] (.bool (decide (a=b))):=by
 refine au jz ?_;by_cases hl:(a.length:Int)=(b.length:Int);rotate_left
 .rw[aC (λh=>hl (by rw[h]))];simp only[go_sem,jz,aG hl];exact ac
 simp only[go_sem,jz,ar hl];refine ao (λj:Nat=>⟨[(5,.int .i64 j),(0,.sl 3 (a.map pt)),(1,.sl 3 (b.map pt))],[]⟩) (λj=>j<=a.length/\∀k,k<j->ap a k=ap b k) (λj=>a.length-j) 0 ⟨cR _,λk hk=>by omega⟩ (Wk.of ?_ ?_) ?_
 .simp only[go_sem];try simp
 .simp only[go_sem]
 rintro j ⟨hj,hx⟩;by_cases h1:(j:Int)<(a.length:Int);rotate_left
 .rw[aw (jI (by omega) λk hk=>hx k (by omega))];simp only[go_sem,aC h1];exact ac
 have hj':j<a.length:=by omega
 have hjb:(j:Int)<(b.length:Int):=by omega
 have e8:=cA hj' (by omega);obtain⟨ha,hs⟩:=ha;have hX:=jj hs hj';clear hs;have neq:ap a j≠ap b j->decide (a=b)=false:=λh=>aC (λe=>h (by rw[e]));by_cases c1:(ap a j).t=(ap b j).t;rotate_left
 .rw[neq (λe=>c1 (by rw[e]))];simp only[go_sem,aw h1,aG c1];refine⟨by omega,h1,by omega,hjb,?_⟩;exact ac
 by_cases c2:(ap a j).lo=(ap b j).lo;rotate_left
 .rw[neq (λe=>c2 (by rw[e]))];simp only[go_sem,aw h1,ar c1];refine⟨by omega,h1,by omega,hjb,?_⟩;refine⟨by omega,h1,by omega,hjb,?_⟩;have cc1:=BE (ap a j).lo (ap b j).lo hX.1;rw[aC c2]at cc1;refine ak (cc1) ?_;simp only[go_sem,aw h1,ar c1];exact ac
 by_cases c3:(ap a j).b=(ap b j).b;rotate_left
 .rw[neq (λe=>c3 (by rw[e]))];simp only[go_sem,aw h1,ar c1];refine⟨by omega,h1,by omega,hjb,?_⟩;refine⟨by omega,h1,by omega,hjb,?_⟩;have cc1:=BE (ap a j).lo (ap b j).lo hX.1;rw[aw c2]at cc1;refine ak (cc1) ?_;simp only[go_sem,aw h1,ar c1];refine⟨by omega,h1,by omega,hjb,?_⟩;have cc2:=fj (ap a j).b (ap b j).b hX.2;rw[aC c3]at cc2;refine ak (cc2) ?_;simp only[go_sem,aw h1,ar c1];exact ac
 have h2:ap a j=ap b j:=by
  generalize ap a j=X at*;generalize ap b j=Y at*;obtain⟨x0,x1,x2⟩:=X;obtain⟨y0,y1,y2⟩:=Y;simp only at c1 c2 c3;simp only[c1,c2,c3]
 simp only[go_sem,aw h1,ar c1];refine⟨by omega,h1,by omega,hjb,?_⟩;refine⟨by omega,h1,by omega,hjb,?_⟩;have cc1:=BE (ap a j).lo (ap b j).lo hX.1;rw[aw c2]at cc1;refine ak (cc1) ?_;simp only[go_sem,aw h1,ar c1];refine⟨by omega,h1,by omega,hjb,?_⟩;have cc2:=fj (ap a j).b (ap b j).b hX.2;rw[aw c3]at cc2;refine ak (cc2) ?_;simp only[go_sem,aw h1,ar c1];refine ay (j+1) ⟨show j+1<=a.length by omega,λk hk=>?_⟩ (show a.length-(j+1)<a.length-j by omega) (Wk.of ?_ ?_)
 .rcases eJ k j with h|h
  .exact hx k h
  .rw[show k=j by omega];exact h2
 .simp only[go_sem,e8];try simp
 .simp only[go_sem]
def UR(a b:List Gd)(ha:a.length<=9223372036854775807/\∀x∈a,ZO x):ah pg tL [.sl 3 (a.map zk),.sl 3 (b.map zk)] (.bool (decide (a=b))):=by
 refine au iA ?_;by_cases hl:(a.length:Int)=(b.length:Int);rotate_left
 .rw[aC (λh=>hl (by rw[h]))];simp only[go_sem,iA,aG hl];exact ac
 simp only[go_sem,iA,ar hl];refine ao (λj:Nat=>⟨[(5,.int .i64 j),(0,.sl 3 (a.map zk)),(1,.sl 3 (b.map zk))],[]⟩) (λj=>j<=a.length/\∀k,k<j->ap a k=ap b k) (λj=>a.length-j) 0 ⟨cR _,λk hk=>by omega⟩ (Wk.of ?_ ?_) ?_
 .simp only[go_sem];try simp
 .simp only[go_sem]
 rintro j ⟨hj,hx⟩;by_cases h1:(j:Int)<(a.length:Int);rotate_left
 .rw[aw (jI (by omega) λk hk=>hx k (by omega))];simp only[go_sem,aC h1];exact ac
 have hj':j<a.length:=by omega
 have hjb:(j:Int)<(b.length:Int):=by omega
 have e8:=cA hj' (by omega);obtain⟨ha,hs⟩:=ha;have hX:=jj hs hj';clear hs;have neq:ap a j≠ap b j->decide (a=b)=false:=λh=>aC (λe=>h (by rw[e]));by_cases c1:(ap a j).g=(ap b j).g;rotate_left
 .rw[neq (λe=>c1 (by rw[e]))];simp only[go_sem,aw h1,Gp,aC c1,di,dH];refine⟨by omega,h1,by omega,hjb,?_⟩;exact ac
 by_cases c2:(ap a j).i=(ap b j).i;rotate_left
 .rw[neq (λe=>c2 (by rw[e]))];simp only[go_sem,aw h1,Gp,aw c1,di,dH];refine⟨by omega,h1,by omega,hjb,?_⟩;refine⟨by omega,h1,by omega,hjb,?_⟩;have cc1:=fj (ap a j).i (ap b j).i hX;rw[aC c2]at cc1;refine ak (cc1) ?_;simp only[go_sem,aw h1,Gp,aw c1,di,dH];exact ac
 have h2:ap a j=ap b j:=by
  generalize ap a j=X at*;generalize ap b j=Y at*;obtain⟨x0,x1⟩:=X;obtain⟨y0,y1⟩:=Y;simp only at c1 c2;simp only[c1,c2]
 simp only[go_sem,aw h1,Gp,aw c1,di,dH];refine⟨by omega,h1,by omega,hjb,?_⟩;refine⟨by omega,h1,by omega,hjb,?_⟩;have cc1:=fj (ap a j).i (ap b j).i hX;rw[aw c2]at cc1;refine ak (cc1) ?_;simp only[go_sem,aw h1,Gp,aw c1,di,dH];refine ay (j+1) ⟨show j+1<=a.length by omega,λk hk=>?_⟩ (show a.length-(j+1)<a.length-j by omega) (Wk.of ?_ ?_)
 .rcases eJ k j with h|h
  .exact hx k h
  .rw[show k=j by omega];exact h2
 .simp only[go_sem,e8];try simp
 .simp only[go_sem]
def UO(a b:List Cu)(ha:a.length<=9223372036854775807):ah pg tJ [.sl 3 (a.map wO),.sl 3 (b.map wO)] (.bool (decide (a=b))):=by
 refine au iw ?_;by_cases hl:(a.length:Int)=(b.length:Int);rotate_left
 .rw[aC (λh=>hl (by rw[h]))];simp only[go_sem,iw,aG hl];exact ac
 simp only[go_sem,iw,ar hl];refine ao (λj:Nat=>⟨[(5,.int .i64 j),(0,.sl 3 (a.map wO)),(1,.sl 3 (b.map wO))],[]⟩) (λj=>j<=a.length/\∀k,k<j->ap a k=ap b k) (λj=>a.length-j) 0 ⟨cR _,λk hk=>by omega⟩ (Wk.of ?_ ?_) ?_
 .simp only[go_sem];try simp
 .simp only[go_sem]
 rintro j ⟨hj,hx⟩;by_cases h1:(j:Int)<(a.length:Int);rotate_left
 .rw[aw (jI (by omega) λk hk=>hx k (by omega))];simp only[go_sem,aC h1];exact ac
 have hj':j<a.length:=by omega
 have hjb:(j:Int)<(b.length:Int):=by omega
 have e8:=cA hj' (by omega);have neq:ap a j≠ap b j->decide (a=b)=false:=λh=>aC (λe=>h (by rw[e]));by_cases c1:(ap a j).af=(ap b j).af;rotate_left
 .rw[neq (λe=>c1 (by rw[e]))];simp only[go_sem,aw h1,aG c1];refine⟨by omega,h1,by omega,hjb,?_⟩;exact ac
 by_cases c2:(ap a j).n=(ap b j).n;rotate_left
 .rw[neq (λe=>c2 (by rw[e]))];simp only[go_sem,aw h1,ar c1,bst c2,di,dH];refine⟨by omega,h1,by omega,hjb,?_⟩;refine⟨by omega,h1,by omega,hjb,?_⟩;exact ac
 by_cases c3:(ap a j).b=(ap b j).b;rotate_left
 .rw[neq (λe=>c3 (by rw[e]))];simp only[go_sem,aw h1,ar c1,bsf c2,di,dH,mW,fo,bst c3,di,dH];refine⟨by omega,h1,by omega,hjb,?_⟩;refine⟨by omega,h1,by omega,hjb,?_⟩;refine⟨by omega,h1,by omega,hjb,?_⟩;exact ac
 have h2:ap a j=ap b j:=by
  generalize ap a j=X at*;generalize ap b j=Y at*;obtain⟨x0,x1,x2⟩:=X;obtain⟨y0,y1,y2⟩:=Y;simp only at c1 c2 c3;simp only[c1,c2,c3]
 simp only[go_sem,aw h1,ar c1,bsf c2,di,dH,mW,fo,bsf c3,di,dH];refine⟨by omega,h1,by omega,hjb,?_⟩;refine⟨by omega,h1,by omega,hjb,?_⟩;refine⟨by omega,h1,by omega,hjb,?_⟩;refine ay (j+1) ⟨show j+1<=a.length by omega,λk hk=>?_⟩ (show a.length-(j+1)<a.length-j by omega) (Wk.of ?_ ?_)
 .rcases eJ k j with h|h
  .exact hx k h
  .rw[show k=j by omega];exact h2
 .simp only[go_sem,e8];try simp
 .simp only[go_sem]
end
section
attribute[local go_sem] bP aU cQ cj bT cC gC df fa dA dn ez bH
def Zv(a b:List Da)(ha:a.length<=9223372036854775807/\∀x∈a,Vl x):ah pg xh [.sl 4 (a.map z_),.sl 4 (b.map z_)] (.bool (decide (a=b))):=by
 refine au jx ?_;by_cases hl:(a.length:Int)=(b.length:Int);rotate_left
 .rw[aC (λh=>hl (by rw[h]))];simp only[go_sem,jx,aG hl];exact ac
 simp only[go_sem,jx,ar hl];refine ao (λj:Nat=>⟨[(5,.int .i64 j),(0,.sl 4 (a.map z_)),(1,.sl 4 (b.map z_))],[]⟩) (λj=>j<=a.length/\∀k,k<j->ap a k=ap b k) (λj=>a.length-j) 0 ⟨cR _,λk hk=>by omega⟩ (Wk.of ?_ ?_) ?_
 .simp only[go_sem];try simp
 .simp only[go_sem]
 rintro j ⟨hj,hx⟩;by_cases h1:(j:Int)<(a.length:Int);rotate_left
 .rw[aw (jI (by omega) λk hk=>hx k (by omega))];simp only[go_sem,aC h1];exact ac
 have hj':j<a.length:=by omega
 have hjb:(j:Int)<(b.length:Int):=by omega
 have e8:=cA hj' (by omega);obtain⟨ha,hs⟩:=ha;have hX:=jj hs hj';clear hs;have neq:ap a j≠ap b j->decide (a=b)=false:=λh=>aC (λe=>h (by rw[e]));by_cases c1:(ap a j).mo=(ap b j).mo;rotate_left
 .rw[neq (λe=>c1 (by rw[e]))];simp only[go_sem,aw h1,aG c1];refine⟨by omega,h1,by omega,hjb,?_⟩;exact ac
 by_cases c2:(ap a j).me=(ap b j).me;rotate_left
 .rw[neq (λe=>c2 (by rw[e]))];simp only[go_sem,aw h1,ar c1,aG c2];refine⟨by omega,h1,by omega,hjb,?_⟩;exact ac
 by_cases c3:(ap a j).o=(ap b j).o;rotate_left
 .rw[neq (λe=>c3 (by rw[e]))];simp only[go_sem,aw h1,ar c1,ar c2];refine⟨by omega,h1,by omega,hjb,?_⟩;have cc2:=fj (ap a j).o (ap b j).o hX.1;rw[aC c3]at cc2;refine ak (cc2) ?_;simp only[go_sem,aw h1,ar c1,ar c2];exact ac
 by_cases c4:(ap a j).b=(ap b j).b;rotate_left
 .rw[neq (λe=>c4 (by rw[e]))];simp only[go_sem,aw h1,ar c1,ar c2,mW,fo,bst c4,di,dH];refine⟨by omega,h1,by omega,hjb,?_⟩;have cc2:=fj (ap a j).o (ap b j).o hX.1;rw[aw c3]at cc2;refine ak (cc2) ?_;simp only[go_sem,aw h1,ar c1,ar c2,mW,fo,bst c4,di,dH];exact ac
 have h2:ap a j=ap b j:=by
  generalize ap a j=X at*;generalize ap b j=Y at*;obtain⟨x0,x1,x2,x3⟩:=X;obtain⟨y0,y1,y2,y3⟩:=Y;simp only at c1 c2 c3 c4;simp only[c1,c2,c3,c4]
 simp only[go_sem,aw h1,ar c1,ar c2,mW,fo,bsf c4,di,dH];refine⟨by omega,h1,by omega,hjb,?_⟩;have cc2:=fj (ap a j).o (ap b j).o hX.1;rw[aw c3]at cc2;refine ak (cc2) ?_;simp only[go_sem,aw h1,ar c1,ar c2,mW,fo,bsf c4,di,dH];refine ay (j+1) ⟨show j+1<=a.length by omega,λk hk=>?_⟩ (show a.length-(j+1)<a.length-j by omega) (Wk.of ?_ ?_)
 .rcases eJ k j with h|h
  .exact hx k h
  .rw[show k=j by omega];exact h2
 .simp only[go_sem,e8];try simp
 .simp only[go_sem]
def UP(a b:List El)(ha:a.length<=9223372036854775807/\∀x∈a,Vm x):ah pg xi [.sl 5 (a.map rK),.sl 5 (b.map rK)] (.bool (decide (a=b))):=by
 refine au jy ?_;by_cases hl:(a.length:Int)=(b.length:Int);rotate_left
 .rw[aC (λh=>hl (by rw[h]))];simp only[go_sem,jy,aG hl];exact ac
 simp only[go_sem,jy,ar hl];refine ao (λj:Nat=>⟨[(5,.int .i64 j),(0,.sl 5 (a.map rK)),(1,.sl 5 (b.map rK))],[]⟩) (λj=>j<=a.length/\∀k,k<j->ap a k=ap b k) (λj=>a.length-j) 0 ⟨cR _,λk hk=>by omega⟩ (Wk.of ?_ ?_) ?_
 .simp only[go_sem];try simp
 .simp only[go_sem]
 rintro j ⟨hj,hx⟩;by_cases h1:(j:Int)<(a.length:Int);rotate_left
 .rw[aw (jI (by omega) λk hk=>hx k (by omega))];simp only[go_sem,aC h1];exact ac
 have hj':j<a.length:=by omega
 have hjb:(j:Int)<(b.length:Int):=by omega
 have e8:=cA hj' (by omega);obtain⟨ha,hs⟩:=ha;have hX:=jj hs hj';clear hs;have neq:ap a j≠ap b j->decide (a=b)=false:=λh=>aC (λe=>h (by rw[e]));by_cases c1:(ap a j).mo=(ap b j).mo;rotate_left
 .rw[neq (λe=>c1 (by rw[e]))];simp only[go_sem,aw h1,aG c1];refine⟨by omega,h1,by omega,hjb,?_⟩;exact ac
 by_cases c2:(ap a j).tb=(ap b j).tb;rotate_left
 .rw[neq (λe=>c2 (by rw[e]))];simp only[go_sem,aw h1,ar c1,aG c2];refine⟨by omega,h1,by omega,hjb,?_⟩;exact ac
 by_cases c3:(ap a j).ty=(ap b j).ty;rotate_left
 .rw[neq (λe=>c3 (by rw[e]))];simp only[go_sem,aw h1,ar c1,ar c2,aG c3];refine⟨by omega,h1,by omega,hjb,?_⟩;exact ac
 by_cases c4:(ap a j).o=(ap b j).o;rotate_left
 .rw[neq (λe=>c4 (by rw[e]))];simp only[go_sem,aw h1,ar c1,ar c2,ar c3];refine⟨by omega,h1,by omega,hjb,?_⟩;have cc3:=fj (ap a j).o (ap b j).o hX.1;rw[aC c4]at cc3;refine ak (cc3) ?_;simp only[go_sem,aw h1,ar c1,ar c2,ar c3];exact ac
 by_cases c5:((ap a j).it.length:Int)=((ap b j).it.length:Int);rotate_left
 .rw[neq (λe=>c5 (by rw[e]))];simp only[go_sem,aw h1,ar c1,ar c2,ar c3,aG c5];refine⟨by omega,h1,by omega,hjb,?_⟩;have cc3:=fj (ap a j).o (ap b j).o hX.1;rw[aw c4]at cc3;refine ak (cc3) ?_;simp only[go_sem,aw h1,ar c1,ar c2,ar c3,aG c5];exact ac
 simp only[go_sem,aw h1,ar c1,ar c2,ar c3,ar c5];refine⟨by omega,h1,by omega,hjb,?_⟩;have cc3:=fj (ap a j).o (ap b j).o hX.1;rw[aw c4]at cc3;refine ak (cc3) ?_;simp only[go_sem,aw h1,ar c1,ar c2,ar c3,ar c5];have hi3:=hX.2.2;have hi2:=hX.2.1;refine ao (λq:Nat=>⟨[(8,.int .i64 q),(6,.mp 6 5 0 0),(7,.mp 7 5 0 0),(5,.int .i64 j),(0,.sl 5 (a.map rK)),(1,.sl 5 (b.map rK))],[(6,⟨109,5,[[.int .i64 (ap a j).mo,.int .i64 (ap a j).tb,.sl 9 ((ap a j).o.map bH),.int .i64 (ap a j).ty,.sl 1 ((ap a j).it.map oX)]],true⟩),(7,⟨109,5,[[.int .i64 (ap b j).mo,.int .i64 (ap b j).tb,.sl 9 ((ap b j).o.map bH),.int .i64 (ap b j).ty,.sl 1 ((ap b j).it.map oX)]],true⟩)]⟩) (λq=>q<=(ap a j).it.length/\∀k,k<q->ap (ap a j).it k=ap (ap b j).it k) (λq=>(ap a j).it.length-q) 0 ⟨cR _,λk hk=>by omega⟩ (Wk.of ?_ ?_) ?_
 .simp only[go_sem];try simp
 .simp only[go_sem]
 rintro q ⟨hq,hy⟩;by_cases q1:(q:Int)<((ap a j).it.length:Int)
 .have hq':q<(ap a j).it.length:=by omega
  have hqb:(q:Int)<((ap b j).it.length:Int):=by omega
  have e9:=cA hq' (by omega);have hL:=jj hi3 hq';have cd:=fj (ap (ap a j).it q) (ap (ap b j).it q) hL;by_cases q2:ap (ap a j).it q=ap (ap b j).it q
  .rw[aw q2]at cd;simp only[go_sem,aw q1];refine⟨by omega,q1,by omega,hqb,?_⟩;refine aa (cd) ?_;refine ay (q+1) ⟨show q+1<=(ap a j).it.length by omega,λk hk=>?_⟩ (show(ap a j).it.length-(q+1)<(ap a j).it.length-q by omega) (Wk.of ?_ ?_)
   .rcases eJ k q with h|h
    .exact hy k h
    .rw[show k=q by omega];exact q2
   .simp only[go_sem,e9];try simp
   .simp only[go_sem]
  .rw[aC q2]at cd;rw[neq (λe=>q2 (by rw[e]))];simp only[go_sem,aw q1];refine⟨by omega,q1,by omega,hqb,?_⟩;refine aa (cd) ?_;exact ac
 have c6:(ap a j).it=(ap b j).it:=jI (by omega) λk hk=>hy k (by omega);have h2:ap a j=ap b j:=by
  generalize ap a j=X at*;generalize ap b j=Y at*;obtain⟨x1,x2,x3,x4,x5⟩:=X;obtain⟨y1,y2,y3,y4,y5⟩:=Y;simp only at c1 c2 c3 c4 c6;simp only[c1,c2,c3,c4,c6]
 simp only[go_sem,aC q1];refine ay (j+1) ⟨show j+1<=a.length by omega,λk hk=>?_⟩ (show a.length-(j+1)<a.length-j by omega) (Wk.of ?_ ?_)
 .rcases eJ k j with h|h
  .exact hx k h
  .rw[show k=j by omega];exact h2
 .simp only[go_sem,e8];try simp
 .simp only[go_sem]
