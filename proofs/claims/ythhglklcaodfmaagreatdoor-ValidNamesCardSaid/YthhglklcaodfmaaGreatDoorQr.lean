import Derived.Test.YthhglklcaodfmaaGreatDoorQq
import Derived.Shelf.RegionOpen
set_option linter.all false
set_option maxRecDepth 100000
set_option maxHeartbeats 40000000
namespace Go.Proofs.YthhglklcaodfmaaGreatDoor
open Go Go.Mw
theorem BE {n:Int}:∀{l:List (Int×Int)} {i:Nat} {F:Fa},(∀r∈l,r.2=0)→eL n i l F=F
 | [],i,F,h=>rfl
 | r :: l,i,F,h=>by
  by_cases h1:F.c≠0
  ·exact oM F h1
  ·rw [eL,ar h1]
   have e:dh F n i r.1 r.2=F:=by
    unfold dh
    rw [ar (fun q=>q.2 (h r List.mem_cons_self))]
   rw [e]
   exact BE (fun r' hr'=>h r' (List.mem_cons_of_mem _ hr'))
theorem Ly {n most imp:Int} {res:List (Int×Int)} {F:Fa} (h:IntKind.i64.wrap ((res.length:Int)+imp)≤most) (hr:∀r∈res,r.2=0):cE n most imp res F=F:=by
 unfold cE
 rw [ar (by omega)]
 exact BE hr
theorem ny {n:Int} {l:List (Int×Int)} {F:Fa}:(eL n 0 l F).c=0↔F.c=0∧∀r∈l,r.2=0 :=
 ⟨nw,fun h=>by rw [BE h.2];exact h.1⟩
theorem fN {n most imp:Int} {res:List (Int×Int)} {F:Fa}:(cE n most imp res F).c=0↔F.c=0∧IntKind.i64.wrap ((res.length:Int)+imp)≤most∧∀r∈res,r.2=0 :=
 ⟨eu,fun h=>by rw [Ly h.2.1 h.2.2];exact h.1⟩
theorem xZ {α:Type} {f:α→Int×Int} {l:List α}:(∀r∈l.map f,r.2=0)↔∀x∈l,(f x).2=0:=by
 simp only [List.mem_map,forall_exists_index,and_imp,forall_apply_eq_imp_iff₂]
structure Q5 (P:bv→Bool) (m:Md):Prop where
 ts:IntKind.i64.wrap ((m.ts.length:Int)+0)≤64∧∀x∈m.ts,MT x=0
 ims:IntKind.i64.wrap ((m.ims.length:Int)+0)≤32∧∀x∈m.ims,MV x=0
 fs:IntKind.i64.wrap ((m.fs.length:Int)+(li 0 m.ims:Nat))≤64∧∀x∈m.fs,MP x=0
 tbs:IntKind.i64.wrap ((m.tbs.length:Int)+(li 1 m.ims:Nat))≤4∧∀x∈m.tbs,Rr x=0
 ms:IntKind.i64.wrap ((m.ms.length:Int)+(li 2 m.ims:Nat))≤2∧∀x∈m.ms,Q_ x=0
 gs:IntKind.i64.wrap ((m.gs.length:Int)+(li 3 m.ims:Nat))≤32∧∀x∈m.gs,(Oj P x).2=0
 exs:IntKind.i64.wrap ((m.exs.length:Int)+0)≤64∧∀x∈m.exs,TM x=0
 st:¬(m.hs=true∧vN m.st=false)
 els:IntKind.i64.wrap ((m.els.length:Int)+0)≤16∧∀x∈m.els,(IR P x).2=0
 ds:IntKind.i64.wrap ((m.ds.length:Int)+0)≤16∧∀x∈m.ds,(CX P x).2=0
 cs:IntKind.i64.wrap ((m.cs.length:Int)+0)≤8∧∀x∈m.cs,Gm x=0
 bs:IntKind.i64.wrap ((m.fs.length:Int)+0)≤(m.fs.length:Int)∧∀x∈m.fs,(fz P x.b).2=0
theorem Y9 {P:bv→Bool} {m:Md}:(BQ P m).c=0↔(Gp P m).c=0∧¬(m.hs=true∧vN m.st=false):=by
 unfold BQ
 by_cases h:m.hs=true∧vN m.st=false
 ·rw [av h]
  exact ⟨fun q=>absurd (sB q).2 (by decide),fun q=>absurd h q.2⟩
 ·rw [ar h];exact ⟨fun q=>⟨q,h⟩,fun q=>q.1⟩
theorem Kw {P:bv→Bool} {m:Md}:(iF P m).c=0↔Q5 P m:=by
 have e:(iF P m).c=0↔(cE 12 (m.fs.length:Int) 0 (m.fs.map (fun x=>fz P x.b)) (jx P m)).c=0:=by
  unfold iF
  by_cases h:(jx P m).c=0
  ·rw [av h]
  ·rw [ar h];exact ⟨fun q=>absurd q h,fun q=>absurd (eu q).1 h⟩
 rw [e,fN,jx,fN,Ai,fN,Uq,fN,Y9,Gp,fN,Y8,fN,Y7,fN,Y6,fN,Y4,fN,Y3,fN,Y2,fN]
 simp only [xZ,bT]
 exact ⟨fun ⟨⟨⟨⟨⟨⟨⟨⟨⟨⟨⟨⟨_,a1⟩,a2⟩,a3⟩,a4⟩,a5⟩,a6⟩,a7⟩,a8⟩,a9⟩,a10⟩,a11⟩,a12⟩=>⟨a1,a2,a3,a4,a5,a6,a7,a8,a9,a10,a11,a12⟩,
  fun h=>⟨⟨⟨⟨⟨⟨⟨⟨⟨⟨⟨⟨rfl,h.ts⟩,h.ims⟩,h.fs⟩,h.tbs⟩,h.ms⟩,h.gs⟩,h.exs⟩,h.st⟩,h.els⟩,h.ds⟩,h.cs⟩,h.bs⟩⟩
structure RK (m:Md) (s:Sp):Prop where
 ims:∀x∈m.ims,(AZ s x).2=0
 fs:∀x∈m.fs,(s.ty x.t).isSome=true
 gs:∀x∈m.gs,(dX s x.i x.g.v).2=0
 exs:∀r∈fT s [] m.exs,r.2=0
 st:m.hs=true→(wh s m.st).2=0
 els:∀x∈m.els,(ph s x).2=0
 ds:∀x∈m.ds,(wg s x).2=0
 cs:∀r∈ey (mS m) 0 m.cs,r.2=0
 bs:∀x∈m.fs,(gD m s x).2=0
theorem ML {s:Sp} {i:Int}:(qT s i).2=0↔(s.ty i).isSome=true:=by
 unfold qT
 by_cases h:(s.ty i).isSome=true
 ·rw [av h];exact ⟨fun _=>h,fun _=>rfl⟩
 ·rw [ar h];exact ⟨fun q=>absurd q (by decide),fun q=>absurd q h⟩
theorem QO {m:Md} {s:Sp}:(NY m s).c=0↔(Tj m s).c=0∧(m.hs=true→(wh s m.st).2=0):=by
 unfold NY
 by_cases h:m.hs=true
 ·rw [av h,ny]
  simp only [du,forall_eq]
  exact ⟨fun q=>⟨q.1,fun _=>q.2⟩,fun q=>⟨q.1,q.2 h⟩⟩
 ·rw [ar h];exact ⟨fun q=>⟨q,fun z=>absurd z h⟩,fun q=>q.1⟩
theorem Yg {m:Md} {s:Sp}:(QP m s).c=0↔RK m s:=by
 rw [QP,ny,MQ,ny,Wb,ny,Ye,ny,QO,Tj,ny,ck3,ny,Wa,ny,ck1,ny]
 simp only [xZ,ML]
 exact ⟨fun ⟨⟨⟨⟨⟨⟨⟨⟨⟨_,a1⟩,a2⟩,a3⟩,a4⟩,a5⟩,a6⟩,a7⟩,a8⟩,a9⟩=>⟨a1,a2,a3,a4,a5,a6,a7,a8,a9⟩,
  fun h=>⟨⟨⟨⟨⟨⟨⟨⟨⟨rfl,h.ims⟩,h.fs⟩,h.gs⟩,h.exs⟩,h.st⟩,h.els⟩,h.ds⟩,h.cs⟩,h.bs⟩⟩
theorem wP {m:Md}:(dD m).c=0↔Q5 jA m∧RK m (lV m):=by
 unfold dD
 by_cases h:(iF jA m).c=0
 ·rw [ar (fun q=>q h),Yg];exact ⟨fun q=>⟨Kw.1 h,q⟩,fun q=>q.2⟩
 ·rw [av h];exact ⟨fun q=>absurd q h,fun q=>absurd (Kw.2 q.1) h⟩
def tj (b:List UInt8) (x:Da):Da:={ x with b:=b }
def qz (b:List UInt8) (x:Cu):Cu:={ x with b:=b }
def ja (m:Md) (b:List UInt8):Md:={ m with ds:=m.ds.map (tj b),cs:=m.cs.map (qz b) }
theorem DX {p:List Int} {f:Cu→Cu} (hf:∀x,(f x).af=x.af):∀(a:Int) (l:List Cu),ey p a (l.map f)=ey p a l
 | _,[]=>rfl
 | a,x :: l=>by rw [cF,ey,ey,hf,DX hf]
theorem B1 {m n:Md} (h1:n.ts.length=m.ts.length) (h2:n.ims.length=m.ims.length) (h3:n.fs.length=m.fs.length) (h4:n.tbs=m.tbs) (h5:n.ms=m.ms) (h6:n.gs=m.gs) (h7:n.exs=m.exs) (h8:n.hs=m.hs) (h9:n.els=m.els) (h10:n.ds.length=m.ds.length):mS n=mS m:=by
 unfold mS
 rw [h1,h2,h3,h4,h5,h6,h7,h8,h9,h10]
theorem EB {m:Md} {b:List UInt8} (hb:b.length≤100) (hd:∀x∈m.ds,x.b.length≤4096) (hc:∀x∈m.cs,x.b.length≤4096):iF jA (ja m b)=iF jA m:=by
 have e9:Uq jA (ja m b)=Uq jA m:=rfl
 have e10:Ai jA (ja m b)=Ai jA m:=by
  unfold Ai
  rw [e9]
  simp only [ja,List.map_map]
  congr 1
  refine List.map_congr_left fun x hx=>?_
  have h1:=hd x hx
  show CX jA (tj b x)=CX jA x
  unfold CX
  simp only [show ¬(tj b x).b.length>4096 from (by show ¬b.length>4096;omega),show ¬x.b.length>4096 by omega,fA]
  rfl
 have e11:jx jA (ja m b)=jx jA m:=by
  unfold jx
  rw [e10]
  simp only [ja,List.map_map]
  congr 1
  refine List.map_congr_left fun x hx=>?_
  have h1:=hc x hx
  have e:Gm (qz b x)=Gm x:=by
   unfold Gm
   simp only [show ¬(qz b x).b.length>4096 from (by show ¬b.length>4096;omega),show ¬x.b.length>4096 by omega,fA]
   rfl
  show (0,Gm (qz b x))=(0,Gm x)
  rw [e]
 unfold iF
 rw [e11]
 rfl
theorem Is (m:Md) (b:List UInt8):lV (ja m b)=lV m:=by
 simp only [lV,ja,bT,zL]
theorem Ir {m:Md} {b:List UInt8} (hb:b.length≤100) (hd:∀x∈m.ds,x.b.length≤4096) (hc:∀x∈m.cs,x.b.length≤4096):dD (ja m b)=dD m:=by
 unfold dD
 rw [EB hb hd hc,Is]
 have e:QP (ja m b) (lV m)=QP m (lV m):=by
  have e6:Ye (ja m b) (lV m)=Ye m (lV m):=rfl
  have e7:Wb (ja m b) (lV m)=Wb m (lV m):=by
   unfold Wb
   rw [e6]
   simp only [ja,List.map_map]
   rfl
  have e8:MQ (ja m b) (lV m)=MQ m (lV m):=by
   unfold MQ
   rw [e7,B1 (n:=ja m b) (m:=m) rfl rfl rfl rfl rfl rfl rfl rfl rfl (by simp [ja])]
   show eL 11 0 (ey (mS m) 0 (m.cs.map (qz b))) _=_
   rw [DX (f:=qz b) (fun _=>rfl)]
  unfold QP
  rw [e8]
  rfl
 rw [e]
def iT (x:Im):Im:={ x with m:=[109],n:=[] }
def nL (m:Md):Md:={ m with ims:=m.ims.map iT }
theorem uj (k:Int) (l:List Im):(l.map iT).filter (fun x=>x.k==k)=(l.filter fun x=>x.k==k).map iT:=by
 rw [List.filter_map];rfl
theorem yz (k:Int) (l:List Im):li k (l.map iT)=li k l:=by
 unfold li;rw [uj,bT]
theorem UJ (m:Md):lV (nL m)=lV m:=by
 simp only [lV,nL,zL,uj,List.map_map,List.foldl_map]
 rfl
theorem Ih (x:Im) (h:kC x=x):kC (iT x)=iT x:=by
 have e:kC (iT x)=iT (kC x):=by
  unfold kC iT
  simp only
  split
  ·rfl
  split
  ·rfl
  split
  ·rfl
  split<;>rfl
 rw [e,h]
theorem UI (x:Im) (hv:vO [109]=0) (he:vO []=0) (h:MV x=0):MV (iT x)=0:=by
 unfold MV at h ⊢
 rw [ar (show ¬vO (iT x).m≠0 from fun q=>q hv),ar (show ¬vO (iT x).n≠0 from fun q=>q he)]
 split at h
 ·rename_i q;exact absurd h q
 split at h
 ·rename_i q;exact absurd h q
 by_cases q:x.k<0∨x.k>3∨kC x≠x
 ·rw [av q] at h;exact absurd h (by decide)
 ·rw [ar q] at h
  rw [ar (show ¬((iT x).k<0∨(iT x).k>3∨kC (iT x)≠iT x) from fun z=>q (by
   rcases z with z | z | z
   ·exact .inl z
   ·exact .inr (.inl z)
   ·exact .inr (.inr fun w=>z (Ih x w))))]
  exact h
theorem K1 {m:Md} (hv:vO [109]=0) (he:vO []=0) (h:(dD m).c=0):(dD (nL m)).c=0:=by
 obtain ⟨a,b⟩:=wP.1 h
 refine wP.2 ⟨⟨a.ts,?_,?_,?_,?_,?_,a.exs,a.st,a.els,a.ds,a.cs,a.bs⟩,?_⟩
 ·refine ⟨by have:=a.ims.1;simpa [nL] using this,fun x hx=>?_⟩
  obtain ⟨y,hy,rfl⟩:=List.mem_map.1 hx
  exact UI y hv he (a.ims.2 y hy)
 ·exact ⟨by simp only [nL,yz];exact a.fs.1,a.fs.2⟩
 ·exact ⟨by simp only [nL,yz];exact a.tbs.1,a.tbs.2⟩
 ·exact ⟨by simp only [nL,yz];exact a.ms.1,a.ms.2⟩
 ·exact ⟨by simp only [nL,yz];exact a.gs.1,a.gs.2⟩
 ·rw [UJ]
  refine ⟨fun x hx=>?_,b.fs,b.gs,b.exs,b.st,b.els,b.ds,?_,b.bs⟩
  ·obtain ⟨y,hy,rfl⟩:=List.mem_map.1 hx
   exact b.ims y hy
  ·rw [B1 (n:=nL m) (m:=m) rfl (by simp [nL]) rfl rfl rfl rfl rfl rfl rfl rfl]
   exact b.cs
def Ah (m:Md):Md:={ m with cs:=m.cs.dropLast }
theorem DZ {p:List Int}:∀(a:Int) (l t:List Cu),(∀r∈ey p a (l++t),r.2=0)→∀r∈ey p a l,r.2=0
 | _,[],_,_=>fun r hr=>by cases hr
 | a,x :: l,t,h=>by
  rw [lc,ey] at h
  rw [ey]
  intro r hr
  rcases bc.1 hr with q | q
  ·rw [q];exact h _ List.mem_cons_self
  ·exact DZ x.af l t (fun r' hr'=>h r' (List.mem_cons_of_mem _ hr')) r q
theorem IM {α:Type} (l:List α):∃t,l=l.dropLast++t:=by
 obtain ⟨t,ht⟩:=List.dropLast_prefix l
 exact ⟨t,ht.symm⟩
theorem Pp {m:Md} (hl:m.cs.length≤1000) (h:(dD m).c=0):(dD (Ah m)).c=0:=by
 obtain ⟨a,b⟩:=wP.1 h
 obtain ⟨t,ht⟩:=IM m.cs
 refine wP.2 ⟨⟨a.ts,a.ims,a.fs,a.tbs,a.ms,a.gs,a.exs,a.st,a.els,a.ds,?_,a.bs⟩,⟨b.ims,b.fs,b.gs,b.exs,b.st,b.els,b.ds,?_,b.bs⟩⟩
 ·refine ⟨?_,fun x hx=>a.cs.2 x (List.dropLast_subset _ hx)⟩
  have:=a.cs.1
  rw [wi (by omega) (by omega)] at this
  simp only [Ah,List.length_dropLast]
  rw [wi (by omega) (by omega)]
  omega
 ·rw [B1 (n:=Ah m) (m:=m) rfl rfl rfl rfl rfl rfl rfl rfl rfl rfl]
  refine DZ 0 _ t ?_
  simp only [Ah]
  rw [← ht]
  exact b.cs
def mK (m:Md):Md:={ m with ts:=m.ts++[⟨[],[]⟩],ds:=m.ds++[⟨1,0,[],[]⟩] }
theorem Td {α:Type} {l t:List α} {i:Int} {x:α} (h:cO l i=some x):cO (l++t) i=some x:=by
 unfold cO at h ⊢
 split at h
 ·rename_i q
  rw [av q]
  obtain ⟨hk,e⟩:=dW.1 h
  rw [List.getElem?_append_left hk];exact h
 ·cases h
def jT (s:Sp):Sp:={ s with ts:=s.ts++[⟨[],[]⟩],ds:=s.ds+1 }
theorem Py (m:Md):lV (mK m)=jT (lV m):=by
 simp only [lV,mK,jT,zL,ee,vK]
 rfl
theorem pg {s:Sp} {i:Int} {f:Ft} (h:s.ty i=some f):(jT s).ty i=some f:=Td h
theorem I3 {s:Sp} {i:Int} {f:Ft} (h:s.fn i=some f):(jT s).fn i=some f:=by
 unfold Sp.fn at h ⊢
 show (cO s.fs i).bind (jT s).ty=some f
 cases e:cO s.fs i with
 | none=>rw [e] at h;cases h
 | some j=>rw [e] at h;exact pg h
theorem Kt (s:Sp) (x:bv) (gl:Int):jw (jT s) x gl=jw s x gl:=rfl
theorem CV (s:Sp) (w g:Int):∀(l:List bv) (i:Nat) (k:List Int),kG (jT s) w g i l k=kG s w g i l k
 | [],i,k=>rfl
 | x :: r,i,k=>by
  unfold kG
  simp only [CV s w g r,Kt]
theorem ni (s:Sp) (l:List bv) (w:Int):dX (jT s) l w=dX s l w:=CV s _ _ l 0 []
theorem J6 (s:Sp) (ty:Int):∀l,lH (jT s) ty l=lH s ty l
 | []=>rfl
 | l :: r=>by rw [lH,lH,ni,J6 s ty r]
theorem TJ (s:Sp) (x:El):ph (jT s) x=ph s x:=by
 unfold ph
 simp only [ni,J6]
 rfl
theorem IU (s:Sp):∀(l:List Ex) (se:List (List UInt8)),fT (jT s) se l=fT s se l
 | [],_=>rfl
 | x :: l,se=>by rw [fT,fT,IU s l];rfl
theorem Tl (s:Sp) (x:Da):wg (jT s) x=wg s x:=by
 unfold wg
 rw [ni]
 rfl
theorem NS {s:Sp} {k v x:Int} {f:Ft} (h:s.blk k v x=some f):(jT s).blk k v x=some f:=by
 unfold Sp.blk at h ⊢
 by_cases h0:k=0
 ·rw [av h0] at h ⊢;exact h
 rw [ar h0] at h ⊢
 by_cases h1:k=1
 ·rw [av h1] at h ⊢;exact h
 rw [ar h1] at h ⊢
 by_cases h2:k=2
 ·rw [av h2] at h ⊢;exact pg h
 ·rw [ar h2] at h;cases h
theorem RH {b:Bool}:iU b=0↔b=true:=by cases b<;>simp [iU]
theorem Ck {s:Sp} {x:bv} (h:fS s x=0):fS (jT s) x=0:=by
 unfold fS at h ⊢
 by_cases q:cX x.op=10
 ·rw [av q] at h ⊢;exact h
 rw [ar q] at h ⊢
 by_cases q:cX x.op=11
 ·rw [av q] at h ⊢;exact h
 rw [ar q] at h ⊢
 by_cases q:cX x.op=12
 ·rw [av q] at h ⊢;exact h
 rw [ar q] at h ⊢
 by_cases q:cX x.op=16
 ·rw [av q] at h ⊢
  rw [RH] at h ⊢
  have:=of_decide_eq_true h
  exact bH (show x.a<s.ds+1 by omega)
 rw [ar q] at h ⊢
 by_cases q:cX x.op=15
 ·rw [av q] at h ⊢
  rw [RH,dV] at h ⊢
  refine ⟨h.1,?_⟩
  have:=of_decide_eq_true h.2
  exact bH (show x.a<s.ds+1 by omega)
 rw [ar q] at h ⊢
 exact h
theorem F_ {s:Sp} {lo:List Int} {x:bv} (h:(fj s lo x).2=0):fj (jT s) lo x=fj s lo x:=by
 unfold fj at h ⊢
 by_cases q:cX x.op=4
 ·rw [av q] at h ⊢
  rw [av q]
  cases e:s.fn x.a with
  | none=>rw [e] at h;exact absurd h (show ¬(11:Int)=0 by decide)
  | some f=>rw [I3 e];rfl
 rw [ar q] at h ⊢
 rw [ar q]
 by_cases q:cX x.op=5
 ·rw [av q] at h ⊢
  rw [av q]
  cases e:s.ty x.a with
  | none=>rw [e] at h;exact absurd h (show ¬(11:Int)=0 by decide)
  | some f=>rw [pg e];rfl
 rw [ar q] at h ⊢
 rw [ar q]
 by_cases q:cX x.op=6
 ·rw [av q,av q]
 rw [ar q] at h ⊢
 rw [ar q]
 by_cases q:cX x.op=7
 ·rw [av q,av q]
 rw [ar q] at h ⊢
 rw [ar q]
 by_cases q:cX x.op=8
 ·rw [av q,av q];rfl
 rw [ar q] at h ⊢
 rw [ar q]
 by_cases q:cX x.op=9
 ·rw [av q,av q];rfl
 rw [ar q] at h ⊢
 rw [ar q]
 by_cases q:cX x.op=20
 ·rw [av q,av q]
 rw [ar q] at h ⊢
 rw [ar q]
 by_cases q:fS s x=0
 ·rw [ar (fun z=>z (Ck q)),ar (fun z=>z q)]
 ·rw [av q] at h;exact absurd h q
theorem Ev {c:Ct} {s:Sp} {lo:List Int} {x:bv} (h:(cK c s lo x).1=0):cK c (jT s) lo x=cK c s lo x:=by
 unfold cK at h ⊢
 by_cases q:jA x=false
 ·rw [av q,av q]
 rw [ar q] at h ⊢
 rw [ar q]
 by_cases q:x.op=2∨x.op=3∨x.op=4
 ·rw [av q] at h ⊢
  rw [av q]
  cases e:s.blk x.k x.v x.x with
  | none=>rw [e] at h;exact absurd h (show ¬(11:Int)=0 by decide)
  | some f=>rw [NS e]
 rw [ar q] at h ⊢
 rw [ar q]
 by_cases q:x.op=5
 ·rw [av q,av q]
 rw [ar q] at h ⊢
 rw [ar q]
 by_cases q:x.op=11
 ·rw [av q,av q]
 rw [ar q] at h ⊢
 rw [ar q]
 by_cases q:x.op=0
 ·rw [av q,av q]
 rw [ar q] at h ⊢
 rw [ar q]
 by_cases q:x.op=12∨x.op=13∨x.op=14∨x.op=15
 ·rw [av q,av q]
 rw [ar q] at h ⊢
 rw [ar q]
 by_cases q:x.op=26∨x.op=27∨x.op=209
 ·rw [av q,av q]
 rw [ar q] at h ⊢
 rw [ar q]
 by_cases q:(fj s lo x).2=0
 ·rw [F_ q]
 ·rw [av q] at h;exact absurd h q
theorem A3 {s:Sp} {lo:List Int}:∀{l:List bv} {i:Nat} {c:Ct},(kf s lo i l c).2=0→(kf (jT s) lo i l c).2=0
 | [],i,c,h=>rfl
 | x :: r,i,c,h=>by
  rw [kf] at h ⊢
  by_cases q:(cK c s lo x).1=0
  ·rw [Ev q]
   rw [ar (fun z=>z q)] at h ⊢
   by_cases q2:(cK c s lo x).2.s.ov=true
   ·rw [av q2] at h;exact absurd h (show ¬(6:Int)=0 by decide)
   ·rw [ar q2] at h ⊢
    exact A3 h
  ·rw [av q] at h;exact absurd h q
theorem Il {m n:Md} {s:Sp} {f:Cd} (h:(gD m s f).2=0):(gD n (jT s) f).2=0:=by
 unfold gD at h ⊢
 cases e:s.ty f.t with
 | none=>rw [e] at h;exact absurd h (show ¬(11:Int)=0 by decide)
 | some t =>
  rw [e] at h
  rw [pg e]
  simp only at h ⊢
  by_cases q:(nchk f.b).2=0
  ·rw [ar (fun z=>z q)] at h ⊢
   exact A3 h
  ·rw [av q] at h;exact absurd h q
theorem AY {p p':List Int} (hp:∀x∈p,x∈p'):∀(l:List Cu) (a:Int),(∀r∈ey p a l,r.2=0)→∀r∈ey p' a l,r.2=0
 | [],_,_=>fun r hr=>by cases hr
 | x :: l,a,h=>by
  rw [ey] at h ⊢
  intro r hr
  rcases bc.1 hr with q | q
  ·rw [q]
   have:=h _ List.mem_cons_self
   by_cases z:x.af<a∨(x.af≠0∧x.af∉p)
   ·rw [av z] at this;exact absurd this (show ¬(7:Int)=0 by decide)
   ·rw [ar (fun w=>z (by
     rcases w with w | ⟨w,w2⟩
     ·exact .inl w
     ·exact .inr ⟨w,fun t=>w2 (hp _ t)⟩))]
  ·exact AY hp l x.af (fun r' hr'=>h r' (List.mem_cons_of_mem _ hr')) r q
theorem BM {x y:Int} {c d:Prop} [Decidable c] [Decidable d] (h:c→d) (hx:x∈(if c then [y] else [])):x∈(if d then [y] else []):=by
 by_cases q:c
 ·rw [av q] at hx;rw [av (h q)];exact hx
 ·rw [ar q] at hx;cases hx
theorem LA (m:Md):∀x∈mS m,x∈mS (mK m):=by
 intro x hx
 unfold mS at hx ⊢
 simp only [dL] at hx ⊢
 have e1:m.ts.length>0→(mK m).ts.length>0:=fun _=>by simp [mK]
 have e2:m.ds.length>0→(mK m).ds.length>0:=fun _=>by simp [mK]
 rcases hx with ((((((((((hx | hx) | hx) | hx) | hx) | hx) | hx) | hx) | hx) | hx) | hx) | hx
 ·exact .inl (.inl (.inl (.inl (.inl (.inl (.inl (.inl (.inl (.inl (.inl (BM e1 hx)))))))))))
 ·exact .inl (.inl (.inl (.inl (.inl (.inl (.inl (.inl (.inl (.inl (.inr hx))))))))))
 ·exact .inl (.inl (.inl (.inl (.inl (.inl (.inl (.inl (.inl (.inr hx)))))))))
 ·exact .inl (.inl (.inl (.inl (.inl (.inl (.inl (.inl (.inr hx))))))))
 ·exact .inl (.inl (.inl (.inl (.inl (.inl (.inl (.inr hx)))))))
 ·exact .inl (.inl (.inl (.inl (.inl (.inl (.inr hx))))))
 ·exact .inl (.inl (.inl (.inl (.inl (.inr hx)))))
 ·exact .inl (.inl (.inl (.inl (.inr hx))))
 ·exact .inl (.inl (.inl (.inr hx)))
 ·exact .inl (.inl (.inr (BM e2 hx)))
 ·exact .inl (.inr hx)
 ·exact .inr (BM e2 hx)
theorem Px {m:Md} (ht:m.ts.length<64) (hd:m.ds.length<16) (h:(dD m).c=0):(dD (mK m)).c=0:=by
 obtain ⟨a,b⟩:=wP.1 h
 refine wP.2 ⟨⟨?_,a.ims,a.fs,a.tbs,a.ms,a.gs,a.exs,a.st,a.els,?_,a.cs,a.bs⟩,?_⟩
 ·refine ⟨?_,fun x hx=>?_⟩
  ·simp only [mK,ee,vK]
   rw [wi (by omega) (by omega)];omega
  ·rcases dL.1 hx with q | q
   ·exact a.ts.2 x q
   ·rw [du.1 q];rfl
 ·refine ⟨?_,fun x hx=>?_⟩
  ·simp only [mK,ee,vK]
   rw [wi (by omega) (by omega)];omega
  ·rcases dL.1 hx with q | q
   ·exact a.ds.2 x q
   ·rw [du.1 q];rfl
 ·rw [Py]
  refine ⟨fun x hx=>?_,fun x hx=>?_,fun x hx=>?_,?_,fun hq=>?_,fun x hx=>?_,fun x hx=>?_,?_,fun x hx=>Il (b.bs x hx)⟩
  ·have:=b.ims x hx
   unfold AZ at this ⊢
   by_cases q:x.k≠0
   ·rw [av q]
   ·rw [ar q,ML] at this ⊢
    obtain ⟨f,hf⟩:=Option.isSome_iff_exists.1 this
    rw [pg hf];rfl
  ·obtain ⟨f,hf⟩:=Option.isSome_iff_exists.1 (b.fs x hx)
   rw [pg hf];rfl
  ·rw [ni];exact b.gs x hx
  ·rw [IU];exact b.exs
  ·have:=b.st hq
   unfold wh at this ⊢
   show (match (jT (lV m)).fn m.st with
    | none=>(11:Int)
    | some f=>if f.ps.length+f.rs.length>0 then 23 else 0)=0
   cases e:(lV m).fn m.st with
   | none=>rw [e] at this;exact absurd this (by decide)
   | some f=>rw [e] at this;rw [I3 e];exact this
  ·rw [TJ];exact b.els x hx
  ·rw [Tl]
   rcases dL.1 hx with q | q
   ·exact b.ds x q
   ·rw [du.1 q];rfl
  ·exact AY (LA m) _ _ b.cs
def RG:List bv:=[⟨0,0,0,0,0,0,0,[],[]⟩,⟨11,0,0,0,0,0,0,[],[]⟩]
def aa2 (f:Cd):Cd:={ f with b:=RG }
def yD (a:Nat) (l:List Cd):List Cd:=l.mapIdx fun i f=>if i=a then f else aa2 f
def BZ (m:Md) (a:Nat):Md:={ m with fs:=yD a m.fs }
theorem tN {n:Int}:∀{l:List (Int×Int)} {i:Nat} {F:Fa},F.c=0→(eL n i l F).c≠0→∃j r,l[j]? = some r∧r.2≠0∧(eL n i l F).i=((i+j:Nat):Int)
 | [],i,F,h,h2=>absurd h h2
 | r :: l,i,F,h,h2=>by
  rw [eL,ar (fun q=>q h)] at h2 ⊢
  by_cases q:r.2=0
  ·have e:dh F n i r.1 r.2=F:=by unfold dh;rw [ar (fun z=>z.2 q)]
   rw [e] at h2 ⊢
   obtain ⟨j,r',h3,h4,h5⟩:=tN h h2
   exact ⟨j+1,r',h3,h4,by rw [h5];congr 1;omega⟩
  ·have e:dh F n i r.1 r.2 =⟨n,i,r.1,r.2⟩:=by unfold dh;rw [av ⟨h,q⟩]
   rw [e]
   refine ⟨0,r,rfl,q,?_⟩
   rw [oM _ q]
   rfl
theorem nx {n:Int} {l:List (Int×Int)} {F:Fa} {p:Int} (hp:n≠p) (hF:F.c≠0→F.p≠p) (h:(eL n 0 l F).c≠0):(eL n 0 l F).p≠p:=by
 by_cases q:F.c=0
 ·have:∀(l:List (Int×Int)) (i:Nat) (F:Fa),F.c=0→(eL n i l F).c≠0→(eL n i l F).p=n:=by
   intro l
   induction l with
   | nil=>intro i F h1 h2;exact absurd h1 h2
   | cons r l ih =>
    intro i F h1 h2
    rw [eL,ar (fun z=>z h1)] at h2 ⊢
    by_cases z:r.2=0
    ·have e:dh F n i r.1 r.2=F:=by unfold dh;rw [ar (fun z'=>z'.2 z)]
     rw [e] at h2 ⊢
     exact ih _ _ h1 h2
    ·have e:dh F n i r.1 r.2 =⟨n,i,r.1,r.2⟩:=by unfold dh;rw [av ⟨h1,z⟩]
     rw [e,oM _ z]
  rw [this l 0 F q h];exact hp
 ·rw [oM F q] at h ⊢;exact hF q
theorem C0 {F:Fa} {n i l e p:Int} (hp:n≠p) (hF:F.c≠0→F.p≠p) (h:(dh F n i l e).c≠0):(dh F n i l e).p≠p:=by
 unfold dh at h ⊢
 split
 ·exact hp
 ·rename_i q;rw [ar q] at h;exact hF h
theorem gy {n most imp:Int} {res:List (Int×Int)} {F:Fa} {p:Int} (hp:n≠p) (hF:F.c≠0→F.p≠p) (h:(cE n most imp res F).c≠0):(cE n most imp res F).p≠p:=by
 unfold cE at h ⊢
 refine nx hp (fun z=>?_) h
 split at z
 ·rename_i q;rw [av q];exact C0 hp hF z
 ·rename_i q;rw [ar q];exact hF z
theorem Up {P:bv→Bool} {m:Md} (h:(jx P m).c≠0):(jx P m).p≠12:=by
 have h7:(Gp P m).c≠0→(Gp P m).p≠12:=gy (by decide) (gy (by decide) (gy (by decide) (gy (by decide) (gy (by decide) (gy (by decide) (gy (by decide) fun q=>absurd rfl q))))))
 have h8:(BQ P m).c≠0→(BQ P m).p≠12:=fun q=>by
  unfold BQ at q ⊢
  split at q
  ·rename_i z;rw [av z];exact C0 (by decide) h7 q
  ·rename_i z;rw [ar z];exact h7 q
 exact gy (by decide) (gy (by decide) (gy (by decide) h8)) h
theorem Yf {m:Md} {s:Sp} (h:(MQ m s).c≠0):(MQ m s).p≠12:=by
 have h4:(Tj m s).c≠0→(Tj m s).p≠12:=nx (by decide) (nx (by decide) (nx (by decide) (nx (by decide) fun q=>absurd rfl q)))
 have h5:(NY m s).c≠0→(NY m s).p≠12:=fun q=>by
  unfold NY at q ⊢
  split at q
  ·rename_i z;rw [av z];exact nx (by decide) h4 q
  ·rename_i z;rw [ar z];exact h4 q
 exact nx (by decide) (nx (by decide) (nx (by decide) h5)) h
theorem U8 {a:Nat} {l:List Cd} {i:Nat} {f:Cd} (h:(yD a l)[i]? = some f) (hi:i≠a):f.b=RG:=by
 unfold yD at h
 rw [List.getElem?_mapIdx] at h
 cases e:l[i]? with
 | none=>rw [e] at h;cases h
 | some g=>rw [e] at h;simp only [eH,ar hi] at h;cases h;rfl
theorem xw:∀ws:List Int,gJ true [] ws=(some [],0)
 | []=>rfl
 | w :: ws=>by rw [gJ,av rfl];exact xw ws
theorem Qw:(fz jA RG).2=0:=by decide +kernel
theorem MI:(nchk RG).2=0:=by decide +kernel
theorem V2:jA ⟨0,0,0,0,0,0,0,[],[]⟩=true:=by decide +kernel
theorem V3:jA ⟨11,0,0,0,0,0,0,[],[]⟩=true:=by decide +kernel
theorem V0 (s:Sp) (lo rs:List Int):cK (ju rs) s lo ⟨0,0,0,0,0,0,0,[],[]⟩=(0,(ju rs).dead):=by
 unfold cK
 rw [ar (by rw [V2];decide),ar (by decide),ar (by decide),ar (by decide),av rfl]
theorem MJ (rs:List Int):(ju rs).dead.s.shut rs=(0,⟨⟨[],false⟩,[],false⟩):=by
 have e:(ju rs).dead.s =⟨⟨[],true⟩,[⟨[],false⟩],false⟩:=rfl
 rw [e]
 unfold Sk.shut Sk.left
 have e2:gJ true [] rs.reverse=(some [],0):=xw _
 simp only [List.reverse_nil,e2]
theorem V1 (s:Sp) (lo rs:List Int) (h:rs.length≤8):∃c,cK (ju rs).dead s lo ⟨11,0,0,0,0,0,0,[],[]⟩=(0,c)∧c.s.ov=false:=by
 unfold cK
 rw [ar (by rw [V3];decide),ar (by decide),ar (by decide),av rfl]
 unfold Ct.leave
 have et:(ju rs).dead.top =⟨0,⟨[],rs⟩,false,true⟩:=rfl
 have es:=MJ rs
 rw [ar (show ¬(ju rs).dead.br≠0 from fun q=>q rfl),ar (show ¬(ju rs).dead.bs.length=0 from fun q=>by cases q),et]
 simp only [es]
 rw [ar (fun q=>q rfl),ar (fun q=>absurd q.1 (by decide))]
 refine ⟨_,rfl,?_⟩
 show (false||decide (((0+rs.length:Nat):Int)>256))=false
 rw [bF (by omega)];rfl
theorem MH {m:Md} {s:Sp} {f:Cd} {t:Ft} (hb:f.b=RG) (ht:s.ty f.t=some t) (h:t.rs.length≤8):(gD m s f).2=0:=by
 unfold gD
 rw [ht,hb]
 simp only
 rw [ar (fun q=>q MI)]
 unfold RG
 obtain ⟨c,hc,hv⟩:=V1 s (t.ps++f.lo) t.rs h
 rw [kf,V0,ar (fun q=>q rfl),ar (show ¬(ju t.rs).dead.s.ov=true from fun q=>by cases q),kf,hc,ar (fun q=>q rfl),ar (by rw [hv];decide)]
 rfl
theorem U9 {m:Md} {a:Nat} (hm:m.fs.length≤64) (h:∀i f,i≠a→m.fs[i]? = some f→f.b=RG) (hc:(dD m).c≠0) (hp:(dD m).p=12):(dD m).i=a:=by
 unfold dD at hc hp ⊢
 by_cases h1:(iF jA m).c=0
 ·rw [ar (fun q=>q h1)] at hc hp ⊢
  unfold QP at hc hp ⊢
  by_cases h8:(MQ m (lV m)).c=0
  ·obtain ⟨j,r,h3,h4,h5⟩:=tN h8 hc
   rw [h5]
   by_cases q:j=a
   ·rw [q,Nat.zero_add]
   refine absurd ?_ h4
   rw [db] at h3
   cases e:m.fs[j]? with
   | none=>rw [e] at h3;cases h3
   | some f =>
    rw [e] at h3
    cases h3
    have h2:(Wa m (lV m)).c=0:=by
     have h5:=(nw (nw (nw h8).1).1).1
     exact (nw (nw (QO.1 h5).1).1).1
    have hty:=ML.1 (xZ.1 (nw h2).2 f (gM e))
    obtain ⟨t,ht⟩:=Option.isSome_iff_exists.1 hty
    refine MH (h j f q e) ht ?_
    have hin:t∈m.ts:=by
     unfold Sp.ty cO at ht
     split at ht
     ·exact gM ht
     ·cases ht
    have:=QT ((Kw.1 h1).ts.2 t hin)
    omega
  ·rw [oM _ h8] at hp hc
   exact absurd hp (Yf h8)
 ·rw [av h1] at hc hp ⊢
  unfold iF at hc hp ⊢
  by_cases h11:(jx jA m).c=0
  ·rw [av h11] at hc hp ⊢
   unfold cE at hc hp ⊢
   rw [bT,ar (by rw [wi (by omega) (by omega)];omega)] at hc hp ⊢
   obtain ⟨j,r,h3,h4,h5⟩:=tN h11 hc
   rw [h5]
   by_cases q:j=a
   ·rw [q,Nat.zero_add]
   refine absurd ?_ h4
   rw [db] at h3
   cases e:m.fs[j]? with
   | none=>rw [e] at h3;cases h3
   | some f =>
    rw [e] at h3
    cases h3
    show (fz jA f.b).2=0
    rw [h j f q e];exact Qw
  ·rw [ar h11] at hc hp
   exact absurd hp (Up h11)
section
open Go.RowKit Go.Shelf
attribute [local go_sem] Oper.semAt_some
def TK (x:Int×Int):Array Value:=#[.int .i64 x.1,.int .i64 x.2]
def Ij (l:List Int):List (Int×Int):=((List.range l.length).reverse).map fun (i:Nat)=>((i:Int),au l i)
theorem x2 (l:List Int):(Ij l).length=l.length:=by simp [Ij]
theorem Ik (l:List Int) {k:Nat} (h:k<l.length):(Ij l)[k]? = some (((l.length - 1 - k:Nat):Int),au l (l.length - 1 - k)):=by
 unfold Ij
 rw [db,List.getElem?_reverse (by simpa using h),List.length_range,List.getElem?_range (by omega)]
 rfl
theorem zF (l:List Int) {k:Nat} (h:k<l.length):(Ij l).take (k+1)=(Ij l).take k++[(((l.length - 1 - k:Nat):Int),au l (l.length - 1 - k))]:=by
 rw [List.take_add_one,Ik l h,Option.toList_some]
def slF (v:Value) (l:List Int) (B:Nat→Prop) (w:World):Prop:=∃pa cap,v = .slice pa l.length cap∧(0<l.length→∃b off c t fr,pa=some ⟨b,off,none⟩∧B b∧w.heap[b]? = some (.cells c t fr)∧∀i,i<l.length→c[off+i]? = some (.int .i64 (au l i)))
theorem abo {M:Nat→Prop} {w:World} {v:Value} {l:List Int} (h:IRel M w v (.sl 1 (l.map bp))):slF v l (fun b=>¬M b) w:=by
 generalize hr:l.map bp=rows at h
 have hlen:rows.length=l.length:=by rw [← hr,bT]
 cases h with
 | nls=>exact ⟨none,0,by rw [← hlen];rfl,fun h=>by rw [← hlen] at h;exact absurd h (Nat.lt_irrefl 0)⟩
 | sl0 _ a cap=>exact ⟨some a,cap,by rw [← hlen];rfl,fun h=>by rw [← hlen] at h;exact absurd h (Nat.lt_irrefl 0)⟩
 | sl b off cap st c t fr rows vs hb hM hl hr1 hv hx =>
  refine ⟨some ⟨b,off,none⟩,cap,by rw [hlen],fun _=>⟨b,off,c,t,fr,rfl,hM,hb,fun i hi=>?_⟩⟩
  have hrow:rows[i]? = some (bp (au l i)):=by rw [← hr,db,di hi];rfl
  have e:=hx i 0 _ (.int .i64 (au l i)) hrow rfl
  have e2:=hv i 0 (by omega) (by omega)
  rw [Nat.mul_one,Nat.add_zero] at e2
  rw [e2]
  generalize vs i 0=u at e
  cases e
  rfl
theorem WR (n:Nat) (l:List Int) (hl:l.length<1000000) (w:World) (B:Nat→Prop) (v:Value) (pb po:Nat) (hBp:B pb) (hBs:∀b,B b→b<w.heap.size) {cc:Array Value} {t0:TypeId} {fr0:Nat×Nat} (hb:w.heap[pb]? = some (.cells cc t0 fr0)) (hcc:cc[po]? = some v) (hv:slF v l B w) :
  Ws B n Tryz.prog 315 #[.pointer (some ⟨pb,po,none⟩)] TK (Ij l) w:=by
 obtain ⟨pa,cap,rfl,hs⟩:=hv
 intro l' J Jx W hH hW hJ hJx hY h0
 refine callsIn_of_wp Tryz.func315 rfl trivial ?_ rfl
 have hb1:W.heap[pb]? = some (.cells cc t0 fr0):=by rw [hW.keep _ (hBs pb hBp) (fun h=>h)];exact hb
 simp only [Tryz.ntmps315,List.size_toArray,iw,fZ,Nat.reduceAdd,Nat.reduceSub,Array.replicate_succ,Array.replicate_zero,List.push_toArray,List.append_toArray,e_,lc]
 have c0:W.cell? ⟨pb,po,none⟩=some (.slice pa l.length cap):=(bg hb1 _).trans hcc
 have hw0:wrap64 ((l.length:Int) - 1)=(l.length:Int) - 1:=IntWalk.wrap64_in _ (by omega)
 gi_wp2
 gi_loopw [3] (fun i wr=>∃k:Nat,k≤l.length∧i = .int .i64 ((l.length:Int) - 1 - k)∧J ((Ij l).take k) wr∧W.heap.size≤wr.heap.size∧∀b,B b→wr.heap[b]? = W.heap[b]?) (fun i _=>(intOf i+1).toNat)
 case atStart=>exact ⟨0,ef _,by simp,h0,aO _,fun _ _=>rfl⟩
 case round =>
  obtain ⟨k,hk,rfl,hJk,hsz,hst⟩:=hrel
  have hb2:=(hst pb hBp).trans hb1
  have c1:wr.cell? ⟨pb,po,none⟩=some (.slice pa l.length cap):=(bg hb2 _).trans hcc
  by_cases hlt:k<l.length
  ·obtain ⟨b,off,c,t,fr,hpa,hBb,hbb,hc⟩:=hs (by omega)
   have hbW:W.heap[b]? = some (.cells c t fr):=by rw [hW.keep _ (hBs b hBb) (fun h=>h)];exact hbb
   have hi:((l.length:Int) - 1 - k)=((l.length - 1 - k:Nat):Int):=by omega
   have c2:wr.cell? ⟨b,off+(l.length - 1 - k),none⟩=some (.int .i64 (au l (l.length - 1 - k))):=(bg ((hst b hBb).trans hbW) _).trans (hc _ (by omega))
   have hpre:(Ij l).take k++[(((l.length - 1 - k:Nat):Int),au l (l.length - 1 - k))] <+: Ij l:=by
    rw [← zF l hlt];exact List.take_prefix _ _
   obtain ⟨fn,tmps,assign,body,hy,hR⟩:=hY _ _ wr hJk hpre
   have hy2:(Instr.yield l' #[.int .i64 ((l.length - 1 - k:Nat):Int),.int .i64 (au l (l.length - 1 - k))]).run Tryz.prog wr = .ok (.round l' fn tmps assign body) wr:=hy
   have hw1:wrap64 (((l.length - 1 - k:Nat):Int) - 1)=(l.length:Int) - 1 - ((k+1:Nat):Int):=by rw [IntWalk.wrap64_in _ (by omega)];omega
   rw [hi]
   subst hpa
   gi_wp2
   refine ⟨fun h=>(by cases h),hR.mono ?_⟩
   rintro e W3 (⟨rfl,hJ3,hk3⟩ | ⟨rfl,hJx3⟩)
   ·gi_wp2
    go_roundw
    case rel =>
     refine ⟨k+1,by omega,by congr 1;omega,?_,eJ hsz hk3.1,fun b' hb'=>(hk3.2.2 b' hb').trans (hst b' hb')⟩
     rw [zF l hlt];exact hJ3
    case measure=>simp [intOf]<;>omega
   ·gi_wp2
    refine bodyPost_ret (results_none rfl _ _ _) rfl ?_
    exact ⟨⟨_,rfl⟩,.inr ⟨_,hpre,hJx3⟩⟩
  ·have hk2:k=l.length:=by omega
   subst hk2
   have hi:((l.length:Int) - 1 - l.length) = -1:=by omega
   rw [hi]
   gi_wp2
   refine bodyPost_end (results_none rfl _ _ _) rfl ?_
   refine ⟨⟨_,rfl⟩,.inl ?_⟩
   rw [iq (by rw [x2];exact aO _)] at hJk
   exact hJk
end
section
open Go.RowKit Go.Shelf
attribute [local go_sem] bT jF Vd
theorem abj (S:Sk) (hb:S.u.length<1000000):aj Tryz.prog aaC [za S] (.ip [.int .i64 ((bK S.u).length:Int),.bool S.t.lo]):=by
 refine ac (ic:=Hi.body) ap Yc rfl rfl ?_
 have hw:=nS S hb
 have hl:=cN (S.t :: S.u)
 have e1:au (bR (S.t :: S.u)) S.u.length=(((bK S.u).length:Int),S.t.lo):=jy _ _ (cN _).symm
 simp only [iw] at hl
 simp only [go_sem,Hi,hw,cZ,e1]
 refine ⟨by omega,by omega,?_⟩
 exact ak
theorem Vx (l:List (List AV)):aj Tryz.prog 292 [.sl 1 l] (.fn 315 [.ip [.sl 1 l]]):=by
 refine ac (ic:=FX2.body) ap cX2 rfl rfl ?_
 simp only [go_sem,FX2]
 refine iQ (Wk.unrec _ 1 (r:=[.sl 1 l]) (by rfl) (fun x hx=>by rw [du.1 hx];exact ⟨rfl,rfl⟩)) [1] (by rfl) (by rfl)
noncomputable def lc0:Code:=match Tryz.f262.body with
 | some (.seq x _)=>x
 | _=>.skip
noncomputable def lc1:Code:=match Tryz.f262.body with
 | some (.seq _ (.seq x _))=>x
 | _=>.skip
def Fn (d:Nat) (op:gS):aM:={ dst:=some d,op:=op,g:=none }
def Kp:be:=.reg [Fn 2 (.box 176 1 (.s 0)),Fn 4 (.new 3 [.int .i64 0]),Fn 5 (.new 36 [.int .i64 0])] []
def Fm:be :=
 (be.draw [⟨Fn 11 (.load none (.s 2)),[]⟩,⟨Fn 12 (.nchk (.s 11)),[0]⟩,⟨Fn 13 (.fadr 0 (.s 12)),[1,0]⟩,⟨Fn 14 (.load none (.s 13)),[2,1,0]⟩,
  ⟨Fn 15 (.len (.s 14)),[3,2,1,0]⟩,⟨Fn 16 (.load none (.s 2)),[]⟩,⟨Fn 17 (.call 263 [.s 16]),[5]⟩,⟨Fn 6 (.new 3 [.int .i64 0]),[]⟩,
  ⟨Fn 7 (.new 306 [.np]),[]⟩] [(6,7),(7,8)] []).seq
 ((be.reg [{ dst:=none,op:=.store 1 (.s 6) (.s 15),g:=none }] []).seq
 (be.reg [{ dst:=none,op:=.store 1 (.s 7) (.s 17),g:=none }] [11,12,13,14,15,16,17]))
theorem YX:comp Tryz.prog 54 [[2,4,5,6,7],[2,4,5,6,7]] lc0=some Kp:=by rfl
theorem YY:comp Tryz.prog 54 [[2,4,5,6,7],[2,4,5,6,7]] lc1=some Fm:=by rfl
abbrev FO (t:TypeId) (x:AV):ah:=⟨t,1,[[x]],true⟩
def Q4 (S:Sk) (l:List Int) (e:IX) (s:St):Prop:=e = .nrm∧get s.env 1 = .sl 1 (l.map bp) ∧
 (get s.env 2 = .mp 2 1 0 0∧ae s.heap 2=some (FO 176 (za S)))∧(get s.env 4 = .mp 4 1 0 0∧ae s.heap 4=some (FO 3 (.int .i64 0))) ∧
 (get s.env 5 = .mp 5 1 0 0∧ae s.heap 5=some (FO 36 (.int .i64 0)))∧(get s.env 6 = .mp 6 1 0 0∧ae s.heap 6=some (FO 3 (.int .i64 S.all.length))) ∧
 (get s.env 7 = .mp 7 1 0 0∧ae s.heap 7=some (FO 306 (.ip [.int .i64 ((bK S.u).length:Int),.bool S.t.lo])))
theorem Kv (S:Sk) (l:List Int) (hb:S.u.length<1000000):ir Tryz.prog Kp ⟨eF 0 [za S,.sl 1 (l.map bp)],[]⟩ (fun e s=>e = .nrm∧ir Tryz.prog Fm s (Q4 S l)):=by
 have hw:=nS S hb
 have hl:=cN (S.t :: S.u)
 have k1:=abj S hb
 rw [jF] at k1
 simp only [go_sem,Kp,Fm,Fn,za,true_and]
 refine bP k1 (by simp [go_sem]) rfl ?_
 simp only [go_sem]
 exact ⟨rfl,rfl,⟨rfl,rfl⟩,⟨rfl,rfl⟩,⟨rfl,rfl⟩,⟨rfl,rfl⟩,rfl,rfl⟩
def wN (bl:Nat→Option Nat) (M:Nat→Prop) (a:Act) (w:World) (k:Nat) (t:TypeId) (x:AV) (b:Nat):Prop :=
 tv a k = .pointer (some ⟨b,0,none⟩)∧M b∧∃cc fr v,w.heap[b]? = some (.cells cc t fr)∧dk cc fr∧cc[0]? = some v∧bN bl M w v x
theorem tc {c:jY} {bl:Nat→Option Nat} {g:Nat→AV} {h:Nat→Option ah} {a:Act} {w:World} (hs:aC c bl g h a w) {k:Nat} {t:TypeId} {x:AV} (hk:g k = .mp k 1 0 0) (ho:h k=some (FO t x)) :
  ∃b,bl k=some b∧wN bl (aZ bl c.MF h) a w k t x b:=by
 have he:=hs.env k
 rw [hk] at he
 obtain ⟨b,hb,hv⟩:=(he:∃b,bl k=some b∧tv a k = .pointer (some ⟨b,0 * 1+0,none⟩))
 refine ⟨b,hb,hv,.inr ⟨k,_,ho,hb⟩,?_⟩
 rcases hs.heap.1 k _ ho with ⟨h1,_⟩ | ⟨b',hb',hO⟩
 ·cases h1
 ·rw [hb] at hb'
  cases hb'
  rcases hO with ⟨_,cc,fr,h1,h2,_,_,_,h3⟩ | hO
  ·obtain ⟨v,h4,h5⟩:=h3 0 0 [x] x rfl rfl
   exact ⟨cc,fr,v,h1,h2,h4,h5⟩
  ·exact absurd hO.rows (by simp)
end
open Go.RowKit Go.Shelf
def ab9 (S:Sk) (l:List Int) (w:World) (a:Act) (W:World):Prop :=
 a.defers=[]∧a.tmps.size=54∧ek No w W∧(aV.T Tryz.prog).H W∧∃(bl:Nat→Option Nat) (M:Nat→Prop) (b2 b4 b5 b6 b7:Nat),
  (∀b,M b→w.heap.size≤b)∧(∀b,M b→b<W.heap.size)∧IRel M W (a.tmps.getD 1 undef) (.sl 1 (l.map bp)) ∧
  wN bl M a W 2 176 (za S) b2∧wN bl M a W 4 3 (.int .i64 0) b4∧wN bl M a W 5 36 (.int .i64 0) b5∧wN bl M a W 6 3 (.int .i64 S.all.length) b6 ∧
  wN bl M a W 7 306 (.ip [.int .i64 ((bK S.u).length:Int),.bool S.t.lo]) b7∧b6≠b2∧b6≠b4∧b6≠b5∧b6≠b7∧b4≠b5∧b4≠b2∧b4≠b7∧b5≠b2∧b5≠b7
theorem Ku (S:Sk) (l:List Int) (hb:S.u.length<1000000) (w:World) (bl:Nat→Option Nat) (M:Nat→Prop) (cargs:List Value) (hH:(aV.T Tryz.prog).H w) (ha:aH (aR bl M w) cargs [za S,.sl 1 (l.map bp)]) :
  lc0.wp Tryz.prog (fun e a W=>e = .normal∧lc1.wp Tryz.prog (fun e a W=>e = .normal∧ab9 S l w a W) a W) ⟨cargs.toArray++Array.replicate (54 - cargs.toArray.size) undef,[]⟩ w:=by
 have hal:cargs.length=2:=ha.length
 have no:∀b,¬aZ (fun _=>none) No (ae ([]:List (Nat×ah))) b:=fun b h=>h.elim (fun h=>h) fun ⟨id,o,h1,h2⟩=>by cases h2
 let c:jY:=⟨w,fun _=>none,No,No,54,aV.T Tryz.prog,hH,fun b hb h=>h,fun b hb h=>h,by decide⟩
 haveI:CT c Tryz.prog:=⟨rfl⟩
 have hs:aC c (fun _=>none) (get (eF 0 [za S,.sl 1 (l.map bp)])) (ae ([]:List (Nat×ah))) ⟨cargs.toArray++Array.replicate (54 - cargs.toArray.size) undef,[]⟩ w:=by
  refine ⟨rfl,by simp [c];omega,fun k=>?_,⟨fun id o h=>(by cases h),fun id id' o o' b h=>(by cases h)⟩,ek.refl _ _,fun id o q h1 h2=>(by cases h1),fun _ _ _=>rfl,fun _ h=>h.elim⟩
  rw [tJ]
  simp only [ef,dl,Nat.sub_zero]
  cases hk:([za S,.sl 1 (l.map bp)]:List AV)[k]? with
  | none=>trivial
  | some x =>
   obtain ⟨v,hv,hr⟩:=ha.get hk
   have hlt:=(dW.1 hv).1
   have e:(cargs.toArray++Array.replicate (54 - cargs.toArray.size) undef).getD k undef=v:=by
    rw [jm,Array.getElem?_append_left (by simpa using hlt)]
    simp [hv]
   rw [qs (by omega),e]
   have hx:∀id,mV id x=false:=by
    intro id
    match k,hk with
    | 0,hk=>cases hk;rfl
    | 1,hk=>cases hk;rfl
   exact hr.tr ⟨fun b _ _=>⟨no b,rfl⟩,fun b c t fr h=>⟨c,fr,h,rfl⟩⟩ (fun id hi=>by rw [hx] at hi;cases hi)
 refine Code.wp_mono (fun e a w1 hq=>?_) (mi (c:=c) ap rfl _ Kp YX Kp rfl ⟨eF 0 [za S,.sl 1 (l.map bp)],[]⟩ _ _ w (Kv S l hb) ⟨_,hs⟩)
 have hq:e = .normal∧∃s,ir Tryz.prog Fm s (Q4 S l)∧bW c s a w1:=by
  cases e with
  | normal=>obtain ⟨s,⟨_,h⟩,h2⟩:=hq;exact ⟨rfl,s,h,h2⟩
  | ret=>obtain ⟨s,h,_⟩:=hq;cases h.1
  | exit id=>obtain ⟨s,h,_⟩:=hq;cases h.1
  | _=>exact hq.elim
 obtain ⟨rfl,s,hi,hs1⟩:=hq
 refine ⟨rfl,?_⟩
 refine Code.wp_mono (fun e a' w' hq=>?_) (mi (c:=c) ap rfl _ Fm YY Fm rfl s _ _ w1 hi hs1)
 cases e with
 | normal =>
  obtain ⟨s,⟨_,h1,⟨h2,o2⟩,⟨h4,o4⟩,⟨h5,o5⟩,⟨h6,o6⟩,h7,o7⟩,bl',hs'⟩:=hq
  refine ⟨rfl,hs'.defers,hs'.size,hs'.step,(aV.T Tryz.prog).stay _ _ hH fun q hq=>hs'.step.keep q ((aV.T Tryz.prog).low _ hH q hq) (fun h=>h),?_⟩
  obtain ⟨b2,e2,f2⟩:=tc hs' h2 o2
  obtain ⟨b4,e4,f4⟩:=tc hs' h4 o4
  obtain ⟨b5,e5,f5⟩:=tc hs' h5 o5
  obtain ⟨b6,e6,f6⟩:=tc hs' h6 o6
  obtain ⟨b7,e7,f7⟩:=tc hs' h7 o7
  have ne:∀{i j:Nat} {o o':ah} {p q:Nat},i≠j→ae s.heap i=some o→ae s.heap j=some o'→bl' i=some p→bl' j=some q→p≠q:=fun hij ho ho' hp hq e=>hij (hs'.heap.2 _ _ _ _ _ ho ho' hp (e▸hq))
  have hr1:=hs'.env 1
  rw [h1,qs (by omega)] at hr1
  refine ⟨bl',aZ bl' No (ae s.heap),b2,b4,b5,b6,b7,?_,?_,hr1,f2,f4,f5,f6,f7,ne (by decide) o6 o2 e6 e2,ne (by decide) o6 o4 e6 e4,ne (by decide) o6 o5 e6 e5,ne (by decide) o6 o7 e6 e7,ne (by decide) o4 o5 e4 e5,ne (by decide) o4 o2 e4 e2,ne (by decide) o4 o7 e4 e7,ne (by decide) o5 o2 e5 e2,ne (by decide) o5 o7 e5 e7⟩
  rintro b (hb | ⟨id,o,h1,h2⟩)
  ·exact hb.elim
  ·exact (hs'.own _ _ _ h1 h2).elim (fun h=>h) (fun h=>h.elim)
  rintro b (hb | ⟨id,o,h1,h2⟩)
  ·exact hb.elim
  ·rcases hs'.heap.1 id o h1 with ⟨_,_,h3⟩ | ⟨b',hb',hO⟩
   ·rw [h2] at h3;cases h3
   ·rw [h2] at hb';cases hb';exact hO.lt
 | ret=>obtain ⟨s,h,_⟩:=hq;cases h.1
 | exit id=>obtain ⟨s,h,_⟩:=hq;cases h.1
 | _=>exact hq.elim
theorem NP (x:Nat→Value):((List.range 54).map x).toArray = #[x 0,x 1,x 2,x 3,x 4,x 5,x 6,x 7,x 8,x 9,x 10,x 11,x 12,x 13,x 14,x 15,x 16,x 17,x 18,x 19,x 20,x 21,x 22,x 23,x 24,x 25,x 26,x 27,x 28,x 29,x 30,x 31,x 32,x 33,x 34,x 35,x 36,x 37,x 38,x 39,x 40,x 41,x 42,x 43,x 44,x 45,x 46,x 47,x 48,x 49,x 50,x 51,x 52,x 53]:=by rfl
theorem NQ (a:Array Value) (n:Nat) (h:a.size=n):a=((List.range n).map fun k=>a.getD k undef).toArray:=by
 subst h
 apply Array.ext
 ·simp
 ·intro i h1 h2
  have e:a.getD i undef=a[i]:=by rw [jm,m3 h1];rfl
  have e2:(List.map (fun k=>a.getD k undef) (List.range a.size)).toArray[i]=(List.map (fun k=>a.getD k undef) (List.range a.size))[i]'(by simpa using h1):=rfl
  rw [e2,List.getElem_map,List.getElem_range,e]
theorem WB (a:Array Value) (h:a.size=54):∃x:Nat→Value,(∀k,x k=a.getD k undef)∧a = #[x 0,x 1,x 2,x 3,x 4,x 5,x 6,x 7,x 8,x 9,x 10,x 11,x 12,x 13,x 14,x 15,x 16,x 17,x 18,x 19,x 20,x 21,x 22,x 23,x 24,x 25,x 26,x 27,x 28,x 29,x 30,x 31,x 32,x 33,x 34,x 35,x 36,x 37,x 38,x 39,x 40,x 41,x 42,x 43,x 44,x 45,x 46,x 47,x 48,x 49,x 50,x 51,x 52,x 53] :=
 ⟨fun k=>a.getD k undef,fun _=>rfl,(NQ a 54 h).trans (NP _)⟩
section
attribute [local go_sem] Oper.semAt_some
theorem aba {M:Nat→Prop} {f:FuncId} {args:List AV} {r:AV} (h:aj Tryz.prog f args r) (w:World) (hH:(aV.T Tryz.prog).H w) (hB:∀b,(aV.T Tryz.prog).B b→¬M b) (hM:∀b,M b→b<w.heap.size) {cargs:List Value} (ha:aH (aR (fun _=>none) M w) cargs args) :
  Calls Tryz.prog f cargs.toArray w fun e w'=>∃v,e = .returned v∧aR (fun _=>none) M w' v r∧ek No w w':=by
 have hm:∀(bl:Nat→Option Nat) b,aZ bl M (ae []) b↔M b:=fun bl b=>ej _ b
 refine (h (fun _=>none) M w cargs hH (fun b hb hm'=>hB b hb ((hm _ b).1 hm')) ⟨fun id o hi=>by simp [ae] at hi,fun id id' o o' b hi=>by simp [ae] at hi⟩ hM
  (ha.mono fun _ _ _ hr=>hr.tr (Tr.of_iff (fun b=>hm _ b)) (fun _ _=>rfl))).mono fun e w' hh=>?_
 obtain ⟨v,r',σ',bl',rfl,⟨rfl,rfl⟩,hcl,_,hv,hst,_,_⟩:=hh
 refine ⟨v,rfl,hv.tr (Tr.of_iff (fun b=>(hm _ b).symm)) (fun id hid=>?_),⟨hst.size,fun b hb _=>hst.keep b hb (fun hx=>by obtain ⟨id,o,hi,_⟩:=hx;simp [ae] at hi),hst.shape,hst.os,hst.out⟩⟩
 have:=hcl.1 id (ji hid)
 simp [ae] at this
theorem yV (A:World):ek No A A.drew:=⟨aO _,fun _ _ _=>rfl,fun b c t fr h=>⟨c,fr,h,rfl⟩,rfl,rfl⟩
def EqH (a b:Nat):Prop:=a=b
theorem tI {w:World} {b:Nat} {c:Array Value} {t:TypeId} {fr:Nat×Nat} {i:Nat} {v:Value} (h:w.heap[b]? = some (.cells c t fr)) (u:dk c fr) (hi:c[i]? = some v):w.frozen? ⟨b,i,none⟩=false:=by
 have:=u.spec i (f9.1 hi).1
 obtain ⟨lo,hi'⟩:=fr
 simp only [World.frozen?,h]
 simp only at this
 simpa using this
theorem Mo {cc:Array Value} {i:Nat} {v:Value} (h:cc[i]? = some v):cc.setIfInBounds i v=cc:=by
 apply Array.ext
 ·simp
 ·intro j h1 h2
  rw [Array.getElem_setIfInBounds]
  split
  ·rename_i e;subst e
   obtain ⟨h3,h4⟩:=f9.1 h
   exact h4.symm
  ·rfl
theorem Ag {w A:World} {M0:Nat→Prop} {tmps:Array Value} {D b4 b5:Nat} {r e:Int} {c4 c5:Array Value} {fr4 fr5:Nat×Nat} {p:Int×Int} (hp:p=(r,e)) (h4:tmps.getD 4 undef = .pointer (some ⟨b4,0,none⟩)) (h5:tmps.getD 5 undef = .pointer (some ⟨b5,0,none⟩))
  (hS:ek No w A) (hD:w.heap.size≤D) (hK:A.heap[D]? = some (.deferred (some []))) (g4:A.heap[b4]? = some (.cells c4 3 fr4)) (i4:c4[0]? = some (.int .i64 r)) (g5:A.heap[b5]? = some (.cells c5 36 fr5)) (i5:c5[0]? = some (.int .i64 e)) :
  bodyPostM Fence.wide 3 Tryz.prog Tryz.f262 (fun e w'=>∃v,e = .returned v∧ek No w w'∧aR (fun _=>none) M0 w' v (.tup [.int .i64 p.1,.int .i64 p.2])) .ret { tmps:=tmps,defers:=[{ target:=.collected D,args:=#[] }] } A:=by
 subst hp
 have hS2:=fh hS hD hK rfl (o':=.deferred none)
 refine ⟨by simp,.inl ⟨_,_,rfl,run_takeDeferred hK,?_⟩⟩
 have n4:b4≠D:=fun h=>by rw [h,hK] at g4;cases g4
 have n5:b5≠D:=fun h=>by rw [h,hK] at g5;cases g5
 have k4:(A.putObj D (.deferred none)).heap[b4]? = some (.cells c4 3 fr4):=by rw [World.putObj_heap_other n4];exact g4
 have k5:(A.putObj D (.deferred none)).heap[b5]? = some (.cells c5 36 fr5):=by rw [World.putObj_heap_other n5];exact g5
 exact ⟨_,v_ rfl _ _ _ h4 (Tryz.isAgg3 _) ((bg k4 _).trans i4) h5 (Tryz.isAgg36 _) ((bg k5 _).trans i5),_,rfl,hS2,[_,_],rfl,IRel.int _ _,IRel.int _ _,trivial⟩
theorem VA (S:Sk) (l:List Int) (hb:S.u.length<1000000) (hall:S.all.length<1000000) (hl:l.length<1000000) :
  aj Tryz.prog 262 [za S,.sl 1 (l.map bp)] (.tup [.int .i64 (yi S l).1,.int .i64 (yi S l).2]):=by
 refine aj.of (fun w bl0 M0 cargs hH hM ha=>?_) rfl
 refine (callsIn_wide (n:=3)).1 ?_
 refine callsIn_of_wp_marks Tryz.func262 rfl trivial ?_ rfl
 refine wpIn_seq (wpIn_mono (wpIn_wide.2 (Ku S l hb w bl0 M0 cargs hH ha)) ?_)
 rintro e a0 W0 ⟨rfl,h1⟩
 refine wpIn_seq (wpIn_mono (wpIn_wide.2 h1) ?_)
 rintro e a W ⟨rfl,hd,hsz,hS,hW,bl,M,b2,b4,b5,b6,b7,hMw,hMl,hr1,⟨t2,m2,c2⟩,⟨t4,m4,c4⟩,⟨t5,m5,c5⟩,⟨t6,m6,c6⟩,⟨t7,m7,c7⟩,n62,n64,n65,n67,n45,n42,n47,n52,n57⟩
 clear h1
 obtain ⟨x,hx,hta⟩:=WB a.tmps hsz
 obtain rfl:a =⟨#[x 0,x 1,x 2,x 3,x 4,x 5,x 6,x 7,x 8,x 9,x 10,x 11,x 12,x 13,x 14,x 15,x 16,x 17,x 18,x 19,x 20,x 21,x 22,x 23,x 24,x 25,x 26,x 27,x 28,x 29,x 30,x 31,x 32,x 33,x 34,x 35,x 36,x 37,x 38,x 39,x 40,x 41,x 42,x 43,x 44,x 45,x 46,x 47,x 48,x 49,x 50,x 51,x 52,x 53],[]⟩:=by cases a;cases hd;cases hta;rfl
 rw [qs (by omega),← hx] at t2 t4 t5 t6 t7
 rw [← hx] at hr1
 have hTM:∀b,(aV.T Tryz.prog).B b→¬M b:=fun b hb hm=>absurd ((aV.T Tryz.prog).low _ hH b hb) (by have:=hMw b hm;omega)
 have cb:=aba (Vx (l.map bp)) W hW hTM hMl (cargs:=[x 1]) ⟨hr1.toC.toV,trivial⟩
 clear hx hsz hd
 gi_wp2
 refine ⟨trivial,(callsIn_wide.2 cb).mono ?_⟩
 rintro e W1 ⟨v,rfl,hv,hst⟩
 have st:∀{A B:World},(aV.T Tryz.prog).H A→ek No A B→(aV.T Tryz.prog).H B:=fun h hs=>(aV.T Tryz.prog).stay _ _ h fun q hq=>hs.keep q ((aV.T Tryz.prog).low _ h q hq) (fun h=>h)
 have hW1:=st hW hst
 obtain ⟨cs,hvf,hcs⟩:=hv
 match cs,hcs with
 | [p],⟨hp,_⟩ =>
 obtain rfl:v = .func (.func 315) #[] #[p]:=hvf
 cases (hp:IRel M W1 p (.ip [.sl 1 (l.map bp)])) with
 | ip pb po cp tp fp cells vs hpb hpM hpv MU =>
 have hs0:=MU 0 _ rfl
 have hsc:=hpv 0 (Nat.zero_lt_succ _)
 obtain ⟨B,hBe⟩:∃B:Nat→Prop,B=fun b=>¬M b∧b<W1.heap.size:=⟨_,rfl⟩
 have hBs:∀b,B b→b<W1.heap.size:=fun b hb=>by rw [hBe] at hb;exact hb.2
 have hsF:slF (vs 0) l B W1:=by
  obtain ⟨pa,cap,e,h⟩:=abo hs0
  refine ⟨pa,cap,e,fun h0=>?_⟩
  obtain ⟨b,off,c,t,fr,h1,h2,h3,h4⟩:=h h0
  exact ⟨b,off,c,t,fr,h1,by rw [hBe];exact ⟨h2,aP h3⟩,h3,h4⟩
 have hsq:=fun n=>WR n l hl W1 B (vs 0) pb po (by rw [hBe];exact ⟨hpM,aP hpb⟩) hBs hpb hsc hsF
 gi_wp2
 obtain ⟨cc4,fr4,v4,g4,u4,i4,r4⟩:=c4
 obtain ⟨cc5,fr5,v5,g5,u5,i5,r5⟩:=c5
 obtain ⟨cc6,fr6,v6,g6,u6,i6,r6⟩:=c6
 obtain ⟨cc7,fr7,v7,g7,u7,i7,r7⟩:=c7
 obtain ⟨cc2,fr2,v2,g2,u2,i2,r2⟩:=c2
 have kp:∀{b:Nat} {o:Obj},W.heap[b]? = some o→W1.heap[b]? = some o:=fun h=>(hst.keep _ (aP h) (fun h=>h)).trans h
 have hS1:=hS.one hst
 have hz:w.heap.size≤W.heap.size:=hS.size
 have hz1:W.heap.size≤W1.heap.size:=hst.size
 have m4w:=hMw _ m4
 have m5w:=hMw _ m5
 have m6w:=hMw _ m6
 have l4:=hMl _ m4
 have l5:=hMl _ m5
 have l6:=hMl _ m6
 have nB:∀{b:Nat},M b→∀b',B b'→b'≠b:=fun hm b' hb' e=>by rw [hBe] at hb';exact hb'.1 (e▸hm)
 refine Gg (α:=Int×Int) (encs:=TK) (E:=Ij l) (B:=B) (by decide) hW1 hBs (gf:=315) (lb:=#[.pointer (some ⟨pb,po,none⟩)]) rfl (enters_of Tryz.func315 (by kernel_rfl) rfl) (hsq _) (ek.refl _ _) (fun _=>rfl)
  (fun dK A=>ek No w A∧W1.heap.size≤A.heap.size∧∃ts q,S.t.l.reverse=q++ts∧gJ S.t.lo S.t.l.reverse l.reverse=gJ S.t.lo ts (l.reverse.drop dK.length) ∧
   A.heap[b6]? = some (.cells (cc6.setIfInBounds 0 (.int .i64 (((bK S.u).length+ts.length:Nat):Int))) 3 fr6)∧∀b,b<W1.heap.size→b≠b6→A.heap[b]? = W1.heap[b]?)
  (fun c dK A=>c = .ret∧ek No w A∧W1.heap.size≤A.heap.size∧(gJ S.t.lo S.t.l.reverse l.reverse).1=none∧A.heap[b4]? = some (.cells (cc4.setIfInBounds 0 (.int .i64 0)) 3 fr4) ∧
   A.heap[b5]? = some (.cells (cc5.setIfInBounds 0 (.int .i64 (gJ S.t.lo S.t.l.reverse l.reverse).2)) 36 fr5))
  ?hI ?hIx ?hIp ?hIxp ?h0
  (fun y=>{ tmps:=#[x 0,x 1,.pointer (some ⟨b2,0,none⟩),x 3,.pointer (some ⟨b4,0,none⟩),.pointer (some ⟨b5,0,none⟩),.pointer (some ⟨b6,0,none⟩),.pointer (some ⟨b7,0,none⟩),x 8,.int .i64 y.2,x 10,x 11,x 12,x 13,x 14,x 15,x 16,x 17,x 1,.func (.func 315) #[] #[.pointer (some ⟨pb,po,none⟩)],.int .i64 y.1,.int .i64 y.2,x 22,x 23,x 24,x 25,x 26,x 27,x 28,x 29,x 30,x 31,x 32,x 33,x 34,x 35,x 36,x 37,x 38,x 39,x 40,x 41,x 42,x 43,x 44,x 45,x 46,x 47,x 48,x 49,x 50,x 51,x 52,x 53],defers:=[] }) ?assign ?body ?done ?stop
 case hI =>
  rintro s A B' ⟨h1,h2,ts,q,h3,h4,h5,h6⟩ hs
  exact ⟨h1.one hs,eJ h2 hs.size,ts,q,h3,h4,(hs.keep _ (aP h5) (fun h=>h)).trans h5,fun b hb hn=>(hs.keep _ (by omega) (fun h=>h)).trans (h6 b hb hn)⟩
 case hIx =>
  rintro c s A B' ⟨h1,h2,h3,h4,h5,h6⟩ hs
  exact ⟨h1,h2.one hs,eJ h3 hs.size,h4,(hs.keep _ (aP h5) (fun h=>h)).trans h5,(hs.keep _ (aP h6) (fun h=>h)).trans h6⟩
 case hIp =>
  rintro s A k o o' ⟨h1,h2,ts,q,h3,h4,h5,h6⟩ hk hko ho
  exact ⟨fh h1 (by omega) hko ho,eJ h2 (grownBy_putObj' A k o').size,ts,q,h3,h4,by rw [World.putObj_heap_other (by have:=hMl _ m6;omega)];exact h5,fun b hb hn=>by rw [World.putObj_heap_other (by omega)];exact h6 b hb hn⟩
 case hIxp =>
  rintro c s A k o o' ⟨h1,h2,h3,h4,h5,h6⟩ hk hko ho
  exact ⟨h1,fh h2 (by omega) hko ho,eJ h3 (grownBy_putObj' A k o').size,h4,by rw [World.putObj_heap_other (by have:=hMl _ m4;omega)];exact h5,by rw [World.putObj_heap_other (by have:=hMl _ m5;omega)];exact h6⟩
 case h0 =>
  refine ⟨hS1,aO _,S.t.l.reverse,[],rfl,by rw [fZ,List.drop_zero],?_,fun _ _ _=>rfl⟩
  have e:v6 = .int .i64 (((bK S.u).length+S.t.l.reverse.length:Nat):Int):=by
   have:=(r6:IRel M W v6 (.int .i64 S.all.length))
   cases this
   rw [List.length_reverse,iA,ee]
  rw [← e,Mo i6]
  exact kp g6
 case assign =>
  intro l' y A K hK
  simp only [TK]
  gi_wp2
  exact hK
 case body =>
  rintro l' dK y A ⟨h1,h2,ts,q,h3,h4,h5,h6⟩ hpre
  have hk:dK.length<l.length:=by have:=hpre.length_le;rw [x2,ee,vK] at this;omega
  have hy:y.2=au l (l.length - 1 - dK.length):=by
   have e:=Ik l hk
   obtain ⟨r,hr⟩:=hpre
   rw [← hr,oe,List.getElem?_append_right (aO _),Nat.sub_self] at e
   cases e;rfl
  have hdr:l.reverse.drop dK.length=y.2 :: l.reverse.drop (dK.length+1):=by
   rw [List.drop_eq_getElem_cons (by simpa using hk),List.getElem_reverse,hy,aX (by omega)]
  rw [hdr] at h4
  clear hy hdr
  have g4':=(h6 b4 (by omega) (Ne.symm n64)).trans (kp g4)
  have g5':=(h6 b5 (by omega) (Ne.symm n65)).trans (kp g5)
  have j6:(cc6.setIfInBounds 0 (.int .i64 (((bK S.u).length+ts.length:Nat):Int)))[0]? = some (.int .i64 (((bK S.u).length+ts.length:Nat):Int)):=by rw [Array.getElem?_setIfInBounds_self_of_lt];exact (f9.1 i6).1
  have d6:A.cell? ⟨b6,0,none⟩=some (.int .i64 (((bK S.u).length+ts.length:Nat):Int)):=(bg h5 _).trans j6
  have hA:∀{b:Nat} {o:Obj},¬M b→W.heap[b]? = some o→A.heap[b]? = some o:=fun hm h=>(h6 _ (by have:=aP h;omega) (fun e=>hm (by rw [e];exact m6))).trans (kp h)
  have hA2:∀{b:Nat} {o:Obj},b6≠b→W.heap[b]? = some o→A.heap[b]? = some o:=fun hm h=>(h6 _ (by have:=aP h;omega) (Ne.symm hm)).trans (kp h)
  cases (r7:IRel M W v7 (.ip [.int .i64 ((bK S.u).length:Int),.bool S.t.lo])) with
  | ip bq oq cq tq fq cells7 vq hqb hqM hqv hqx =>
  cases (r2:IRel M W v2 (.ip [.sl 1 (S.all.map bp),.sl 2 ((bR (S.t :: S.u)).map xy),.bool S.ov])) with
  | ip bs os cs2 ts2 fs2 cells2 vs2 hsb hsM hsv hsx =>
  have q0:=hqv 0 (by simp)
  have q1:=hqv 1 (by simp)
  have s0:=hsv 0 (by simp)
  have e0:vq 0 = .int .i64 ((bK S.u).length:Int):=by have:=hqx 0 _ rfl;generalize vq 0=u at this;cases this;rfl
  have e1:vq 1 = .bool S.t.lo:=by have:=hqx 1 _ rfl;generalize vq 1=u at this;cases this;rfl
  obtain ⟨ps,cps,es,hsl⟩:=abo (hsx 0 _ rfl)
  rw [e0] at q0
  rw [e1] at q1
  rw [es] at s0
  have d7:A.cell? ⟨b7,0,none⟩=some (.pointer (some ⟨bq,oq,none⟩)):=(bg (hA2 n67 g7) _).trans i7
  have dq0:A.cell? ⟨bq,oq,none⟩=some (.int .i64 ((bK S.u).length:Int)):=(bg (hA hqM hqb) _).trans q0
  have dq1:A.cell? ⟨bq,oq+1,none⟩=some (.bool S.t.lo):=(bg (hA hqM hqb) _).trans q1
  have d2:A.cell? ⟨b2,0,none⟩=some (.pointer (some ⟨bs,os,none⟩)):=(bg (hA2 n62 g2) _).trans i2
  have ds:A.cell? ⟨bs,os,none⟩=some (.slice ps S.all.length cps):=(bg (hA hsM hsb) _).trans s0
  have hmx:Tryz.prog.follows .mixedOrders=true:=by kernel_rfl
  have D6:A.drew.cell? ⟨b6,0,none⟩=some (.int .i64 (((bK S.u).length+ts.length:Nat):Int)):=d6
  have D7:A.drew.cell? ⟨b7,0,none⟩=some (.pointer (some ⟨bq,oq,none⟩)):=d7
  have Q0:A.drew.cell? ⟨bq,oq,none⟩=some (.int .i64 ((bK S.u).length:Int)):=dq0
  have Q1:A.drew.cell? ⟨bq,oq+1,none⟩=some (.bool S.t.lo):=dq1
  cases ts with
  | nil =>
   have D6:A.drew.cell? ⟨b6,0,none⟩=some (.int .i64 ((bK S.u).length:Int)):=D6
   clear hst MU hpv hpb nB hsq hBs hBe hsF cb hqv hqx hsv hsx d6 d7 dq0 dq1 d2 ds q0 q1 s0 e0 e1
   cases hlo:S.t.lo with
   | true =>
    rw [hlo] at Q1 h4
    gi_wp2
    gi_region_with_o (skip)
    all_goals
     gi_wp2
     refine ⟨⟨aO _,fun _ _ h _=>h⟩,sx.refl _ _,by first | exact h1 | exact h1.one (yV A),h2,[],q,h3,?_,h5,h6⟩
     rw [h4,ee]
     rfl
   | false =>
    rw [hlo] at Q1 h4
    have hP:gJ false S.t.l.reverse l.reverse=(none,13):=h4
    have d4:A.cell? ⟨b4,0,none⟩=some v4:=(bg g4' _).trans i4
    have f4:=tI g4' u4 i4
    have g5'':(A.setCell ⟨b4,0,none⟩ (.int .i64 0)).heap[b5]? = some (.cells cc5 36 fr5):=by rw [cQ n45];exact g5'
    have d5:(A.setCell ⟨b4,0,none⟩ (.int .i64 0)).cell? ⟨b5,0,none⟩=some v5:=(bg g5'' _).trans i5
    have f5:=tI g5'' u5 i5
    have D4:A.drew.cell? ⟨b4,0,none⟩=some v4:=d4
    have F4:A.drew.frozen? ⟨b4,0,none⟩=false:=f4
    have D5:(A.drew.setCell ⟨b4,0,none⟩ (.int .i64 0)).cell? ⟨b5,0,none⟩=some v5:=d5
    have F5:(A.drew.setCell ⟨b4,0,none⟩ (.int .i64 0)).frozen? ⟨b5,0,none⟩=false:=f5
    have hX:ek No w ((A.setCell ⟨b4,0,none⟩ (.int .i64 0)).setCell ⟨b5,0,none⟩ (.int .i64 13)):=dj (dj h1 (by exact m4w)) (by exact m5w)
    have hY:KeepsOthers A ((A.setCell ⟨b4,0,none⟩ (.int .i64 0)).setCell ⟨b5,0,none⟩ (.int .i64 13)):=(KeepsOthers.setCell _ _ _).trans (KeepsOthers.setCell _ _ _)
    have hZ:W1.heap.size≤((A.setCell ⟨b4,0,none⟩ (.int .i64 0)).setCell ⟨b5,0,none⟩ (.int .i64 13)).heap.size:=by simpa [World.setCell] using h2
    gi_wp2
    gi_region_with_o (skip)
    all_goals
     gi_wp2
     refine ⟨⟨hY.size,hY.same⟩,rfl,by first | exact hX | exact hX.one (yV _),hZ,by rw [hP],(cQ (Ne.symm n45)).trans (eT g4'),?_⟩
     rw [hP]
     exact eT g5''
  | cons t ts =>
   have hlen:(bK S.u).length+ts.length<S.all.length:=by
    have e:=congrArg List.length h3
    rw [List.length_reverse,ee,iw] at e
    rw [iA,ee];omega
   have hat:au S.all ((bK S.u).length+ts.length)=t:=by
    have e:S.t.l=ts.reverse++t :: q.reverse:=by rw [← List.reverse_reverse S.t.l,h3];simp
    have e2:S.all[(bK S.u).length+ts.length]? = some t:=by
     rw [iA,List.getElem?_append_right (by omega),e,List.getElem?_append_right (by simp)]
     simp
    rw [di hlen] at e2
    exact Option.some.inj e2
   obtain ⟨bt,ot,ct,tt,ft,rfl,htM,htb,htc⟩:=hsl (by omega)
   have c1:=htc _ hlen
   rw [hat] at c1
   have hne:¬((((bK S.u).length+(t :: ts).length:Nat):Int)=((bK S.u).length:Int)):=by rw [iw];omega
   have hw:wrap64 ((((bK S.u).length+(t :: ts).length:Nat):Int) - 1)=(((bK S.u).length+ts.length:Nat):Int):=by rw [IntWalk.wrap64_in _ (by rw [iw];omega),iw];omega
   have f6:=tI h5 (by simpa [dk] using u6) j6
   clear hst MU hpv hpb hsq hsF cb hqv hqx hsv hsx d6 d7 dq0 dq1 q0 q1 s0 e0 e1
   generalize hN:(((bK S.u).length+(t :: ts).length:Nat):Int)=N at *
   have F6:A.drew.frozen? ⟨b6,0,none⟩=false:=f6
   obtain ⟨K,hK⟩:∃K:Nat,EqH K ((bK S.u).length+ts.length):=⟨_,rfl⟩
   rw [← (hK:K=_)] at hw hat hlen c1
   have k6:(A.setCell ⟨b6,0,none⟩ (.int .i64 (K:Int))).heap[b6]? = some (.cells (cc6.setIfInBounds 0 (.int .i64 (K:Int))) 3 fr6):=by rw [eT h5];simp
   have kA:∀{b:Nat} {o:Obj},b6≠b→A.heap[b]? = some o→(A.setCell ⟨b6,0,none⟩ (.int .i64 (K:Int))).heap[b]? = some o:=fun hn h=>by rw [cQ hn];exact h
   have E6:(A.setCell ⟨b6,0,none⟩ (.int .i64 (K:Int))).drew.drew.cell? ⟨b6,0,none⟩=some (.int .i64 (K:Int)):=(bg k6 _).trans (by rw [Array.getElem?_setIfInBounds_self_of_lt];exact (f9.1 i6).1)
   have E2:(A.setCell ⟨b6,0,none⟩ (.int .i64 (K:Int))).drew.drew.cell? ⟨b2,0,none⟩=some (.pointer (some ⟨bs,os,none⟩)):=(bg (kA n62 (hA2 n62 g2)) _).trans i2
   have nM:∀{b:Nat},¬M b→b6≠b:=fun h e=>h (by rw [← e];exact m6)
   have Es:(A.setCell ⟨b6,0,none⟩ (.int .i64 (K:Int))).drew.drew.cell? ⟨bs,os,none⟩=some (.slice (some ⟨bt,ot,none⟩) S.all.length cps) :=
    (bg (kA (nM hsM) (hA hsM hsb)) os).trans ((bg (hA hsM hsb) os).symm.trans ds)
   have Et:(A.setCell ⟨b6,0,none⟩ (.int .i64 (K:Int))).drew.drew.cell? ⟨bt,ot+K,none⟩=some (.int .i64 t):=(bg (kA (nM htM) (hA htM htb)) _).trans c1
   have G4:=kA n64 g4'
   have G5:=kA n65 g5'
   refine wpIn_block (wpIn_seq (wpIn_mono (Q:=fun e a B=>e = .normal∧B=A.drew∧∃z22 z23 z24 z25 z26 z27:Value,a =⟨#[x 0,x 1,.pointer (some ⟨b2,0,none⟩),x 3,.pointer (some ⟨b4,0,none⟩),.pointer (some ⟨b5,0,none⟩),.pointer (some ⟨b6,0,none⟩),.pointer (some ⟨b7,0,none⟩),x 8,.int .i64 y.2,x 10,x 11,x 12,x 13,x 14,x 15,x 16,x 17,x 1,.func (.func 315) #[] #[.pointer (some ⟨pb,po,none⟩)],.int .i64 y.1,.int .i64 y.2,z22,z23,z24,z25,z26,z27,x 28,x 29,x 30,x 31,x 32,x 33,x 34,x 35,x 36,x 37,x 38,x 39,x 40,x 41,x 42,x 43,x 44,x 45,x 46,x 47,x 48,x 49,x 50,x 51,x 52,x 53],[]⟩) ?r4 ?k4))
   case r4 =>
    gi_wp2
    gi_region_with_o (skip)
    all_goals
     gi_wp2
   rintro e a B ⟨rfl,rfl,z22,z23,z24,z25,z26,z27,rfl⟩
   refine wpIn_seq (wpIn_mono (Q:=fun e a B=>e = .normal∧B=(A.drew.setCell ⟨b6,0,none⟩ (.int .i64 (K:Int)))∧∃z22 z23 z24 z25 z26 z27 z33 z34:Value,a =⟨#[x 0,x 1,.pointer (some ⟨b2,0,none⟩),x 3,.pointer (some ⟨b4,0,none⟩),.pointer (some ⟨b5,0,none⟩),.pointer (some ⟨b6,0,none⟩),.pointer (some ⟨b7,0,none⟩),x 8,.int .i64 y.2,x 10,x 11,x 12,x 13,x 14,x 15,x 16,x 17,x 1,.func (.func 315) #[] #[.pointer (some ⟨pb,po,none⟩)],.int .i64 y.1,.int .i64 y.2,z22,z23,z24,z25,z26,z27,x 28,x 29,x 30,x 31,x 32,z33,z34,x 35,x 36,x 37,x 38,x 39,x 40,x 41,x 42,x 43,x 44,x 45,x 46,x 47,x 48,x 49,x 50,x 51,x 52,x 53],[]⟩) ?r7 ?k7)
   case r7 =>
    gi_wp2
   rintro e a B ⟨rfl,rfl,z22,z23,z24,z25,z26,z27,z33,z34,rfl⟩
   refine wpIn_seq (wpIn_mono (Q:=fun e a B=>e = .normal∧B=(A.drew.setCell ⟨b6,0,none⟩ (.int .i64 (K:Int))).drew∧∃z22 z23 z24 z25 z26 z27 z33 z34 z35 z36 z37 z38 z39 z40 z41:Value,a =⟨#[x 0,x 1,.pointer (some ⟨b2,0,none⟩),x 3,.pointer (some ⟨b4,0,none⟩),.pointer (some ⟨b5,0,none⟩),.pointer (some ⟨b6,0,none⟩),.pointer (some ⟨b7,0,none⟩),x 8,.int .i64 y.2,.int .i64 t,x 11,x 12,x 13,x 14,x 15,x 16,x 17,x 1,.func (.func 315) #[] #[.pointer (some ⟨pb,po,none⟩)],.int .i64 y.1,.int .i64 y.2,z22,z23,z24,z25,z26,z27,x 28,x 29,x 30,x 31,x 32,z33,z34,z35,z36,z37,z38,z39,z40,z41,x 42,x 43,x 44,x 45,x 46,x 47,x 48,x 49,x 50,x 51,x 52,x 53],[]⟩) ?r8 ?k8)
   case r8 =>
    gi_wp2
    gi_region_with_o (skip)
    all_goals
     gi_wp2
   rintro e a B ⟨rfl,rfl,z22,z23,z24,z25,z26,z27,z33,z34,z35,z36,z37,z38,z39,z40,z41,rfl⟩
   obtain ⟨X,hX⟩:∃X:World,X=(A.drew.setCell ⟨b6,0,none⟩ (.int .i64 (K:Int))).drew:=⟨_,rfl⟩
   rw [← hX]
   have x6:X.heap[b6]? = some (.cells (cc6.setIfInBounds 0 (.int .i64 (K:Int))) 3 fr6):=by rw [hX];exact k6
   have xA:∀{b:Nat},b6≠b→X.heap[b]? = A.heap[b]?:=fun hn=>by rw [hX];exact cQ hn
   have xz:A.heap.size=X.heap.size:=by rw [hX];exact (show (A.drew.setCell ⟨b6,0,none⟩ (.int .i64 (K:Int))).heap.size=A.drew.heap.size by simp only [World.setCell,Array.size_modify]).symm
   have xS:ek No w X:=by rw [hX];exact (dj (h1.one (yV A)) (by exact m6w)).one (yV _)
   have xK:KeepsOthers A X:=⟨by omega,fun k o h1 h2=>by rw [hX];exact (KeepsOthers.setCell A.drew ⟨b6,0,none⟩ (.int .i64 (K:Int))).same k o h1 h2⟩
   have X4:=(xA n64).trans g4'
   have X5:=(xA n65).trans g5'
   have hP:gJ S.t.lo S.t.l.reverse l.reverse=if t≠y.2∧t≠0∧y.2≠0 then (none,12) else gJ S.t.lo ts (l.reverse.drop (dK.length+1)):=h4
   by_cases hq:t≠y.2∧t≠0∧y.2≠0
   ·rw [av hq] at hP
    obtain ⟨q1,q2,q3⟩:=hq
    have D4:X.cell? ⟨b4,0,none⟩=some v4:=(bg X4 _).trans i4
    have F4:=tI X4 u4 i4
    have Y5:(X.setCell ⟨b4,0,none⟩ (.int .i64 0)).heap[b5]? = some (.cells cc5 36 fr5):=by rw [cQ n45];exact X5
    have D5:(X.setCell ⟨b4,0,none⟩ (.int .i64 0)).cell? ⟨b5,0,none⟩=some v5:=(bg Y5 _).trans i5
    have F5:=tI Y5 u5 i5
    have hX2:ek No w ((X.setCell ⟨b4,0,none⟩ (.int .i64 0)).setCell ⟨b5,0,none⟩ (.int .i64 12)):=dj (dj xS (by exact m4w)) (by exact m5w)
    have hY:KeepsOthers A ((X.setCell ⟨b4,0,none⟩ (.int .i64 0)).setCell ⟨b5,0,none⟩ (.int .i64 12)):=(xK.trans (KeepsOthers.setCell _ _ _)).trans (KeepsOthers.setCell _ _ _)
    have hZ:W1.heap.size≤((X.setCell ⟨b4,0,none⟩ (.int .i64 0)).setCell ⟨b5,0,none⟩ (.int .i64 12)).heap.size:=eJ (by omega) ((KeepsOthers.setCell X ⟨b4,0,none⟩ (.int .i64 0)).trans (KeepsOthers.setCell _ _ _)).size
    clear hX h3 hBe h4 hBs x6 xS xK xz xA h6 k6 kA E6 E2 Es Et D6 D7 Q0 Q1 hne hw hat hlen c1 htc hsl hN hK h5 G4 G5
    gi_wp2
    ·refine ⟨⟨hY.size,hY.same⟩,rfl,hX2,hZ,by rw [hP],(cQ (Ne.symm n45)).trans (eT X4),?_⟩
     rw [hP]
     exact eT Y5
    ·rename_i hh
     exact absurd hh (by simp [q1,q2,q3])
   ·rw [ar hq] at hP
    have hI:ownPostK (sx B W1.heap.size) (fun dK A=>ek No w A∧W1.heap.size≤A.heap.size∧∃ts q,S.t.l.reverse=q++ts∧gJ S.t.lo S.t.l.reverse l.reverse=gJ S.t.lo ts (l.reverse.drop dK.length) ∧
      A.heap[b6]? = some (.cells (cc6.setIfInBounds 0 (.int .i64 (((bK S.u).length+ts.length:Nat):Int))) 3 fr6)∧∀b,b<W1.heap.size→b≠b6→A.heap[b]? = W1.heap[b]?)
      (fun c dK A=>c = .ret∧ek No w A∧W1.heap.size≤A.heap.size∧(gJ S.t.lo S.t.l.reverse l.reverse).1=none∧A.heap[b4]? = some (.cells (cc4.setIfInBounds 0 (.int .i64 0)) 3 fr4) ∧
       A.heap[b5]? = some (.cells (cc5.setIfInBounds 0 (.int .i64 (gJ S.t.lo S.t.l.reverse l.reverse).2)) 36 fr5)) (dK++[y]) A .normal ⟨#[],[]⟩ X:=by
     refine ⟨⟨xK.size,xK.same⟩,⟨by omega,fun b c t fr hb hc=>?_,fun b hb=>xA (Ne.symm (nB m6 b hb))⟩,xS,by omega,ts,q++[t],by rw [h3];simp,by rw [hP,ee];rfl,?_,fun b hb hn=>?_⟩
     ·exact (xA (by omega)).trans hc
     ·rw [← (hK:K=_)];exact x6
     ·exact (xA (Ne.symm hn)).trans (h6 b hb hn)
    clear hX h3 hBe h4 hBs x6 xS xK xz xA h6 k6 kA E6 E2 Es Et D6 D7 Q0 Q1 hne hw hat hlen c1 htc hsl hN hK h5 G4 G5 hP
    by_cases q1:t=y.2
    ·gi_wp2
     exact hI
    by_cases q2:t=0
    ·gi_wp2
     exact hI
    by_cases q3:y.2=0
    ·gi_wp2
     exact hI
    exact absurd ⟨q1,q2,q3⟩ hq
 case done =>
  rintro D A hD ⟨h1,h2,ts,q,h3,h4,h5,h6⟩ hK
  have e:gJ S.t.lo S.t.l.reverse l.reverse=(some ts,0):=by
   rw [h4,x2,← List.length_reverse,List.drop_length]
   cases ts<;>rfl
  have eN:yi S l=((((bK S.u).length+ts.length:Nat):Int),0):=by unfold yi Sk.left;rw [e]
  have g4':=(h6 b4 (by have:=hMl _ m4;omega) (Ne.symm n64)).trans (kp g4)
  have g5':=(h6 b5 (by have:=hMl _ m5;omega) (Ne.symm n65)).trans (kp g5)
  have d6:A.cell? ⟨b6,0,none⟩=some (.int .i64 (((bK S.u).length+ts.length:Nat):Int)):=(bg h5 _).trans (by rw [Array.getElem?_setIfInBounds_self_of_lt];exact (f9.1 i6).1)
  generalize hN:((((bK S.u).length+ts.length:Nat):Int))=N at *
  have d4:A.cell? ⟨b4,0,none⟩=some v4:=(bg g4' _).trans i4
  have f4:=tI g4' u4 i4
  have g5'':(A.setCell ⟨b4,0,none⟩ (.int .i64 N)).heap[b5]? = some (.cells cc5 36 fr5):=by rw [cQ n45];exact g5'
  have d5:(A.setCell ⟨b4,0,none⟩ (.int .i64 N)).cell? ⟨b5,0,none⟩=some v5:=(bg g5'' _).trans i5
  have f5:=tI g5'' u5 i5
  clear h6 kp hst MU hpv hpb hTM nB hsq hBs hBe hsF cb g2 g4 g5 g6 g7 hMw hMl
  gi_wp2
  refine Ag eN rfl rfl (dj (dj h1 (by exact m4w)) (by exact m5w)) (by omega) ?_ ((cQ (Ne.symm n45)).trans (eT g4')) ?_ (eT g5'') ?_
  ·rw [cQ (by omega),cQ (by omega)];exact hK
  ·rw [Array.getElem?_setIfInBounds_self_of_lt];exact (f9.1 i4).1
  ·rw [Array.getElem?_setIfInBounds_self_of_lt];exact (f9.1 i5).1
 case stop =>
  rintro D c dK A hD hp ⟨rfl,h1,h2,h3,h4,h5⟩ hK
  gi_wp2
  refine Ag (r:=0) (e:=(gJ S.t.lo S.t.l.reverse l.reverse).2) ?_ rfl rfl h1 (by omega) hK h4 ?_ h5 ?_
  ·unfold yi Sk.left
   obtain ⟨o,e⟩:∃o,gJ S.t.lo S.t.l.reverse l.reverse=o:=⟨_,rfl⟩
   rw [e] at h3 ⊢
   obtain ⟨o1,o2⟩:=o
   cases h3
   rfl
  ·rw [Array.getElem?_setIfInBounds_self_of_lt];exact (f9.1 i4).1
  ·rw [Array.getElem?_setIfInBounds_self_of_lt];exact (f9.1 i5).1
end
theorem Af:dd:=fun S l h1 h2 h3=>yQ (VA S l h1 h2 h3) rfl (fun x hx=>by
 rw [du.1 hx]
 rfl)
theorem ly (m:Md) (hm:ol m):aj Tryz.prog KY [gY m] (.agg [.int .i64 (dD m).p,.int .i64 (dD m).i,.int .i64 (dD m).l,.int .i64 (dD m).c]):=P_ Af m hm
theorem Co (m:Md) (hm:ol m):aj Tryz.prog KZ [gY m] (.bool ((dD m).c==0)):=afU Af m hm
section
def yR (n:Int) (l:List Nat):Int:=l.foldl (fun (n:Int) (k:Nat)=>IntKind.i64.wrap (n+(k:Int))) n
theorem yU {α:Type} [Inhabited α] (g:α→Nat) {l:List α} {i:Nat} (h:i<l.length) (n:Int):yR n ((l.take (i+1)).map g)=IntKind.i64.wrap (yR n ((l.take i).map g)+(g (au l i):Int)):=by
 rw [Cj h];simp [yR]
def N7 (n:Int) (l:List El):Int:=l.foldl (fun n x=>yR (IntKind.i64.wrap (n+(x.o.length:Int))) (x.it.map List.length)) n
theorem Tx {l:List El} {i:Nat} (h:i<l.length) (n:Int):N7 n (l.take (i+1))=yR (IntKind.i64.wrap (N7 n (l.take i)+((au l i).o.length:Int))) ((au l i).it.map List.length):=by
 rw [Cj h];simp [N7]
def JN (m:Md):Int:=yR 0 (m.fs.map fun x=>x.b.length)
def BL (m:Md):Int:=yR (JN m) (m.gs.map fun x=>x.i.length)
def JO (m:Md):Int:=N7 (BL m) m.els
def Ou (m:Md):Int:=yR (JO m) (m.ds.map fun x=>x.o.length)
attribute [local go_sem] bT bM df kK eS eB eV
theorem LI (m:Md) (h:ol m):aj Tryz.prog Zx [gY m] (.int .i64 (Ou m)):=by
 refine ac (ic:=GD.body) ap Xd rfl rfl ?_
 simp only [go_sem,GD,gY]
 refine aJ (fun i:Nat=>⟨[(4,.int .i64 (i:Nat)),(3,.int .i64 (yR 0 ((m.fs.take i).map fun x=>x.b.length))),(1,.mp 1 12 0 0)],[(1,⟨33,12,[qF m],true⟩)]⟩) (fun i=>i≤m.fs.length) (fun i=>m.fs.length - i) 0 (ef _) (Wk.of ?_ ?_) ?_
 ·simp only [go_sem,gN,List.map_nil,yR,List.foldl_nil];try simp
 ·simp only [go_sem]
 intro i hi
 by_cases h1:(i:Int)<(m.fs.length:Int)
 ·have hi':i<m.fs.length:=by omega
  have e8:=ep hi' (by have:=h.fs.1;omega)
  have ht:=yU (fun x:Cd=>x.b.length) hi' 0
  simp only [go_sem,bH h1]
  refine ⟨by omega,h1,bA (i+1) (show i+1≤m.fs.length by omega) (show m.fs.length - (i+1)<m.fs.length - i by omega) (Wk.of ?_ ?_)⟩
  ·simp only [go_sem,e8,ht];try simp
  ·simp only [go_sem]
 obtain rfl:i=m.fs.length:=by omega
 rw [og,show yR 0 (m.fs.map fun x=>x.b.length)=JN m from rfl]
 simp only [go_sem,bF h1]
 clear hi h1
 refine aJ (fun i:Nat=>⟨[(5,.int .i64 (i:Nat)),(3,.int .i64 (yR (JN m) ((m.gs.take i).map fun x=>x.i.length))),(1,.mp 1 12 0 0)],[(1,⟨33,12,[qF m],true⟩)]⟩) (fun i=>i≤m.gs.length) (fun i=>m.gs.length - i) 0 (ef _) (Wk.of ?_ ?_) ?_
 ·simp only [go_sem,gN,List.map_nil,yR,List.foldl_nil];try simp
 ·simp only [go_sem]
 intro i hi
 by_cases h1:(i:Int)<(m.gs.length:Int)
 ·have hi':i<m.gs.length:=by omega
  have e8:=ep hi' (by have:=h.gs.1;omega)
  have ht:=yU (fun x:Gd=>x.i.length) hi' (JN m)
  simp only [go_sem,bH h1]
  refine ⟨by omega,h1,bA (i+1) (show i+1≤m.gs.length by omega) (show m.gs.length - (i+1)<m.gs.length - i by omega) (Wk.of ?_ ?_)⟩
  ·simp only [go_sem,e8,ht];try simp
  ·simp only [go_sem]
 obtain rfl:i=m.gs.length:=by omega
 rw [og,show yR (JN m) (m.gs.map fun x=>x.i.length)=BL m from rfl]
 simp only [go_sem,bF h1]
 clear hi h1
 refine aJ (fun i:Nat=>⟨[(6,.int .i64 (i:Nat)),(3,.int .i64 (N7 (BL m) (m.els.take i))),(1,.mp 1 12 0 0)],[(1,⟨33,12,[qF m],true⟩)]⟩) (fun i=>i≤m.els.length) (fun i=>m.els.length - i) 0 (ef _) (Wk.of ?_ ?_) ?_
 ·simp only [go_sem,gN,N7,List.foldl_nil];try simp
 ·simp only [go_sem]
 intro i hi
 by_cases h1:(i:Int)<(m.els.length:Int)
 ·have hi':i<m.els.length:=by omega
  have e8:=ep hi' (by have:=h.els.1;omega)
  have ht:=Tx hi' (BL m)
  have hit:=(h.els.2 (au m.els i) (by rw [aX hi'];exact List.getElem_mem hi')).2.1
  simp only [go_sem,bH h1]
  refine ⟨by omega,h1,?_⟩
  refine aJ (fun q:Nat=>⟨[(7,.int .i64 (q:Nat)),(3,.int .i64 (yR (IntKind.i64.wrap (N7 (BL m) (m.els.take i)+((au m.els i).o.length:Int))) (((au m.els i).it.take q).map List.length))),(6,.int .i64 i),(1,.mp 1 12 0 0)],[(1,⟨33,12,[qF m],true⟩)]⟩) (fun q=>q≤(au m.els i).it.length) (fun q=>(au m.els i).it.length - q) 0 (ef _) (Wk.of ?_ ?_) ?_
  ·simp only [go_sem,gN,List.map_nil,yR,List.foldl_nil];try simp
  ·simp only [go_sem]
  intro q hq
  by_cases q1:(q:Int)<((au m.els i).it.length:Int)
  ·have hq':q<(au m.els i).it.length:=by omega
   have e9:=ep hq' (by omega)
   have hu:=yU List.length hq' (IntKind.i64.wrap (N7 (BL m) (m.els.take i)+((au m.els i).o.length:Int)))
   simp only [go_sem,bH q1]
   refine ⟨by omega,h1,by omega,h1,by omega,q1,bA (q+1) (show q+1≤(au m.els i).it.length by omega) (show (au m.els i).it.length - (q+1)<(au m.els i).it.length - q by omega) (Wk.of ?_ ?_)⟩
   ·simp only [go_sem,e9,hu];try simp
   ·simp only [go_sem]
  obtain rfl:q=(au m.els i).it.length:=by omega
  rw [og,← ht]
  simp only [go_sem,bF q1]
  refine ⟨by omega,h1,?_⟩
  refine bA (i+1) (show i+1≤m.els.length by omega) (show m.els.length - (i+1)<m.els.length - i by omega) (Wk.of ?_ ?_)
  ·simp only [go_sem,e8];try simp
  ·simp only [go_sem]
 obtain rfl:i=m.els.length:=by omega
 rw [og,show N7 (BL m) m.els=JO m from rfl]
 simp only [go_sem,bF h1]
 clear hi h1
 refine aJ (fun i:Nat=>⟨[(8,.int .i64 (i:Nat)),(3,.int .i64 (yR (JO m) ((m.ds.take i).map fun x=>x.o.length))),(1,.mp 1 12 0 0)],[(1,⟨33,12,[qF m],true⟩)]⟩) (fun i=>i≤m.ds.length) (fun i=>m.ds.length - i) 0 (ef _) (Wk.of ?_ ?_) ?_
 ·simp only [go_sem,gN,List.map_nil,yR,List.foldl_nil];try simp
 ·simp only [go_sem]
 intro i hi
 by_cases h1:(i:Int)<(m.ds.length:Int)
 ·have hi':i<m.ds.length:=by omega
  have e8:=ep hi' (by have:=h.ds.1;omega)
  have ht:=yU (fun x:Da=>x.o.length) hi' (JO m)
  simp only [go_sem,bH h1]
  refine ⟨by omega,h1,bA (i+1) (show i+1≤m.ds.length by omega) (show m.ds.length - (i+1)<m.ds.length - i by omega) (Wk.of ?_ ?_)⟩
  ·simp only [go_sem,e8,ht];try simp
  ·simp only [go_sem]
 obtain rfl:i=m.ds.length:=by omega
 rw [og,show yR (JO m) (m.ds.map fun x=>x.o.length)=Ou m from rfl]
 simp only [go_sem,bF h1]
 clear hi h1
 exact ak
end
end Go.Proofs.YthhglklcaodfmaaGreatDoor