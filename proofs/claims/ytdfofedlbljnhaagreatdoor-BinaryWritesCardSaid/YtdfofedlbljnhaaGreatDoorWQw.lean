import Derived.Test.YtdfofedlbljnhaaGreatDoorWQv
set_option linter.all false
set_option maxRecDepth 100000
set_option maxHeartbeats 40000000
namespace Go.Proofs.YtdfofedlbljnhaaGreatDoor
section
open Go Go.Mw
attribute[local go_sem] wx
def YE(l:List ig)(hl:l.length<=10000)(ht:tot l<=900000000)(hnm:∀s∈l,s.name.length<=64):ac pg HW [.sl 3 (l.map km)] (.tup [.sl 1 ((Aj l).2.map dY),.int .i64 (Aj l).1]):=by
 refine aD yT ?_;simp only[go_sem,yT];refine aa (acT) ?_;refine dA [wx [] 0,.sl 1 (Gg.map dY)] ⟨nJ 0,.inl rfl,trivial⟩ ?_;have ch:=kg [] 0 (by simp) Gg (by decide);rw[show wB ((0:Int)==0) [] Gg=Gg from rfl]at ch;refine aa (ch) ?_;refine an (λq:Nat×Int×List UInt8=>⟨[(4,.mp 4 2 0 0),(5,.int .i64 q.2.1),(6,.int .i64 (q.1:Nat)),(0,.sl 3 (l.map km))],[(4,⟨81,2,[[.sl 1 (q.2.2.map dY),.int .i64 0]],true⟩)]⟩) (λq=>q.1<=l.length/\0<=q.2.1/\q.2.2.length<=8+tot (l.take q.1)+11*q.1/\S6 (l.drop q.1) q.2.1 q.2.2=S8 l) (λq=>l.length-q.1) (0,0,Gg) ⟨cQ _,Int.le_refl _,by simp[Gg],rfl⟩ (Wk.of ?_ ?_) ?_
 .simp only[go_sem];try simp
 .simp only[go_sem]
 rintro⟨i,last,w⟩ ⟨hi,hla,hw,hj⟩;replace hi:i<=l.length:=hi;replace hla:0<=last:=hla;replace hw:w.length<=8+tot (l.take i)+11*i:=hw;replace hj:S6 (l.drop i) last w=S8 l:=hj;have htl:=IF l i;have e8:=wi (n:=(i:Int)+1) (by omega) (by omega);by_cases h1:(i:Int)<(l.length:Int)
 .have hi':i<l.length:=by omega
  have htk:=KY hi';have hts:=IF l (i+1);have ferr:∀e,JM (ah l i) last=e->e≠0->Aj l=(e,[]):=λe h h2=>by
   have h3:S8 l=(e,[]):=by rw[<-hj,NO hi' (by rw[h];exact h2),h]
   unfold Aj;rw[h3];exact au (λq=>h2 q.1)
  by_cases c1:(ah l i).id<0
  .rw[ferr 4 (Gk (.inl c1)) (by decide)];simp only[go_sem,aL h1,aL c1];exact⟨by omega,h1,dd (Wk.nls _ 2 1 (by simp only[go_sem])) [] (by first|rfl|simp only[go_sem]) rfl⟩
  by_cases c2:(ah l i).id>12
  .rw[ferr 4 (Gk (.inr (.inl c2))) (by decide)];simp only[go_sem,aL h1,aM c1,aL c2];exact⟨by omega,h1,dd (Wk.nls _ 2 1 (by simp only[go_sem])) [] (by first|rfl|simp only[go_sem]) rfl⟩
  have hpc:=Ih (ah l i).id;have hmx:(if(last:Int)<jH (ah l i).id then jH (ah l i).id else last)=max last (jH (ah l i).id):=by split<;>omega
  have hla2:(0:Int)<=max last (jH (ah l i).id):=by omega
  have w8:IntKind.u8.wrap (ah l i).id=((UInt8.ofNat (ah l i).id.toNat).toNat:Int):=by rw[ofNat_toNat (by omega),vy];omega
  have hil:=NK (ah l i);have hnl:=bN hnm hi';have hpn:=lu (n:=(ah l i).name.length) (by omega);have hpi:=lu (n:=(vN (ah l i)).length) (by omega);have hel:(lV (ah l i)).length=1+(ay (vN (ah l i)).length).length+(vN (ah l i)).length:=by simp[lV];omega
  have hw2:(w++lV (ah l i)).length<=8+tot (l.take (i+1))+11*(i+1):=by rw[aJ];omega
  have cp:=Ub (w++[UInt8.ofNat (ah l i).id.toNat]) 0 (by simp;omega) (vN (ah l i)) 0 (by omega);have rp:wP ((0:Int)==0) (w++[UInt8.ofNat (ah l i).id.toNat]) 0 true (vN (ah l i)) 0=(w++lV (ah l i),0):=by simp[wP,wB,lV]
  rw[rp]at cp;have cy:=DO w 0 (by omega) (UInt8.ofNat (ah l i).id.toNat);rw[show wB ((0:Int)==0) w [UInt8.ofNat (ah l i).id.toNat]=w++[UInt8.ofNat (ah l i).id.toNat] from rfl]at cy;by_cases c0:(ah l i).id=0
  .obtain⟨j1,j2⟩:=ZD (last:=last) c0;have cn:=Ua [] 0 (by simp) (ah l i).name (by omega);rw[show((0:Int)==0)=true from rfl]at cn;simp only[go_sem,aL h1,aM c1,aM c2,bB c0,be c0];refine⟨by omega,h1,?_⟩;refine aj (Ce (ah l i).id) ?_;simp only[go_sem,hmx,be c0];refine dA [wx [] 0,.str (ah l i).name] ⟨nJ 0,.inl rfl,trivial⟩ ?_;refine aj (cn) ?_;by_cases he:(wN true [] 0 (ah l i).name).2=0
   .have hok:JM (ah l i) last=0:=by rw[j1];exact he
    have hin:ay (ah l i).name.length++(ah l i).name++gb (ah l i).bs=vN (ah l i):=by rw[vN,aF c0]
    have cB:=kg (ay (ah l i).name.length++(ah l i).name) 0 (by simp;omega) (gb (ah l i).bs) (by omega);rw[show wB ((0:Int)==0) (ay (ah l i).name.length++(ah l i).name) (gb (ah l i).bs)=vN (ah l i) from hin]at cB;simp only[go_sem,bB he,he,j2 he,w8];refine dA [wx (ay (ah l i).name.length++(ah l i).name) 0,.sl 1 ((gb (ah l i).bs).map dY)] ⟨.inl rfl,zk _,trivial⟩ ?_;refine aj (cB) ?_;simp only[go_sem,w8];refine aa (cy) ?_
    first|refine bY cp (by simp[go_sem]) ?_|refine aN cp (by simp[go_sem]) rfl ?_
    simp only[go_sem];refine aE (i+1,max last (jH (ah l i).id),w++lV (ah l i)) ⟨hi',hla2,hw2,by rw[<-y_ hi' hok,hj]⟩ (show l.length-(i+1)<l.length-i by omega) (Wk.of ?_ ?_)
    .simp only[go_sem,e8]
     try simp
    .simp only[go_sem]
   .rw[ferr _ j1 he];simp only[go_sem,bv he];exact dd (Wk.nls _ 2 1 (by simp only[go_sem])) [] (by first|rfl|simp only[go_sem]) rfl
  .by_cases cn:(ah l i).name=[]
   .have n1:((ah l i).name==[])=true:=by rw[cn];rfl
    simp only[go_sem,aL h1,aM c1,aM c2,bv c0,n1];refine⟨by omega,h1,?_⟩;refine aj (Ce (ah l i).id) ?_;by_cases hp:jH (ah l i).id<=last
    .rw[ferr 7 (ZE (by omega) cn hp) (by decide)];simp only[go_sem,aL hp];exact dd (Wk.nls _ 2 1 (by simp only[go_sem])) [] (by first|rfl|simp only[go_sem]) rfl
    .have hok:=S7 (last:=last) (show 1<=(ah l i).id/\(ah l i).id<=12 by omega) cn hp;have hin:([]:List UInt8)++gb (ah l i).bs=vN (ah l i):=by rw[vN,au c0];rfl
     have cB:=kg [] 0 (by simp) (gb (ah l i).bs) (by omega);rw[show wB ((0:Int)==0) [] (gb (ah l i).bs)=vN (ah l i) from hin]at cB;simp only[go_sem,aM hp];refine aj (Ce (ah l i).id) ?_;simp only[go_sem,hmx,aw c0,w8];refine dA [wx [] 0,.sl 1 ((gb (ah l i).bs).map dY)] ⟨nJ 0,zk _,trivial⟩ ?_;refine aj (cB) ?_;simp only[go_sem,w8];refine aa (cy) ?_
     first|refine bY cp (by simp[go_sem]) ?_|refine aN cp (by simp[go_sem]) rfl ?_
     simp only[go_sem];refine aE (i+1,max last (jH (ah l i).id),w++lV (ah l i)) ⟨hi',hla2,hw2,by rw[<-y_ hi' hok,hj]⟩ (show l.length-(i+1)<l.length-i by omega) (Wk.of ?_ ?_)
     .simp only[go_sem,e8]
      try simp
     .simp only[go_sem]
   .rw[ferr 4 (Gk (.inr (.inr ⟨c0,cn⟩))) (by decide)];have n1:((ah l i).name==[])=false:=by simpa using cn
    simp only[go_sem,aL h1,aM c1,aM c2,bv c0,n1];exact⟨by omega,h1,dd (Wk.nls _ 2 1 (by simp only[go_sem])) [] (by first|rfl|simp only[go_sem]) rfl⟩
 .have r0:S8 l=(0,w):=by rw[<-hj,List.drop_of_length_le (by omega)];rfl
  unfold Aj;rw[r0];by_cases hb:(w.length:Int)>262144
  .rw[aF ⟨rfl,by show w.length>262144;omega⟩];simp only[go_sem,aM h1,aL hb];exact dd (Wk.nls _ 2 1 (by simp only[go_sem])) [] (by first|rfl|simp only[go_sem]) rfl
  rw[au (λq=>hb (by have h2:w.length>262144:=q.2;omega))];simp only[go_sem,aM h1,aM hb];exact az
end
section
open Go Go.Mw
instance:Inhabited Fa:=⟨eB⟩
def faR(F:Fa):List AV:=[.int .i64 F.p,.int .i64 F.i,.int .i64 F.l,.int .i64 F.c]
def Zt(F:Fa):faR F=[.int .i64 F.p,.int .i64 F.i,.int .i64 F.l,.int .i64 F.c]:=rfl
def abf{l:List Fa}{i:Nat}(h:i<l.length):v_ (l.drop i)=if(ah l i).c≠0 then ah l i else v_ (l.drop (i+1)):=by
 rw[qk h,v_]
attribute[local go_sem] cU bC gc ql Zt
def Ux(P:bj->Bool)(m:Md)(h:BZ m)(hP:∀y,Ow y->ac pg dq [di y] (.bool (P y))):ac pg Do [cY m] (gc (sc P m)):=by
 rw[LX P m h];refine aD uw ?_;have d1:=agv m h;have d2:=acU m h;have d3:=agk m h;have d4:=agu m h;have d5:=agr m h;have d6:=agq P m h hP;have d7:=agp m h;have d8:=YI m;have d9:=agn P m h hP;have d10:=agm P m h hP;have d11:=agl m h;have d12:=Uu P m h hP;unfold YK;generalize tyF m=F1 at d1⊢;generalize imF m=F2 at d2⊢;generalize cdF m=F3 at d3⊢;generalize tbF m=F4 at d4⊢;generalize mmF m=F5 at d5⊢;generalize gdF P m=F6 at d6⊢;generalize exF m=F7 at d7⊢;generalize Y2 m=F8 at d8⊢;generalize elF P m=F9 at d9⊢;generalize dsF P m=F10 at d10⊢;generalize csF m=F11 at d11⊢;generalize Wg P m=F12 at d12⊢;simp only[gc,cY,bC]at d1 d2 d3 d4 d5 d6 d7 d8 d9 d10 d11 d12;obtain⟨L,hL⟩:∃L,L=[F1,F2,F3,F4,F5,F6,F7,F8,F9,F10,F11,F12]:=⟨_,rfl⟩
 rw[<-hL];obtain⟨G,hG⟩:∃G,v_ L=G:=⟨_,rfl⟩
 rw[hG];have hlen:L.length=12:=by rw[hL];rfl
 simp only[go_sem,uw,cY];refine aN d1 (by simp[go_sem]) rfl ?_;simp only[go_sem];refine aN d2 (by simp[go_sem]) rfl ?_;simp only[go_sem];refine aN d3 (by simp[go_sem]) rfl ?_;simp only[go_sem];refine aN d4 (by simp[go_sem]) rfl ?_;simp only[go_sem];refine aN d5 (by simp[go_sem]) rfl ?_;simp only[go_sem];refine aN d6 (by simp[go_sem]) rfl ?_;simp only[go_sem];refine aN d7 (by simp[go_sem]) rfl ?_;simp only[go_sem];refine aN d8 (by simp[go_sem]) rfl ?_;simp only[go_sem];refine aN d9 (by simp[go_sem]) rfl ?_;simp only[go_sem];refine aN d10 (by simp[go_sem]) rfl ?_;simp only[go_sem];refine aN d11 (by simp[go_sem]) rfl ?_;simp only[go_sem];refine aa (d12) ?_;refine an (λj:Nat=>⟨[(4,.int .i64 j),(3,.ms 29 4 0 12),(2,.mp 2 4 0 0)],[(29,⟨63,4,L.map faR,false⟩),(2,ql eB)]⟩) (λj=>j<=12/\G=v_ (L.drop j)) (λj=>12-j) 0 ⟨cQ _,hG.symm⟩ (Wk.of ?_ ?_) ?_
 .simp only[go_sem];try simp
 .rw[hL];simp only[go_sem];try simp[Zt,eB]
 rintro j ⟨hj,hx⟩;by_cases h1:(j:Int)<((12:Nat):Int);rotate_left
 .rw[dc (by omega)]at hx;obtain rfl:G=eB:=hx;simp only[go_sem,aM h1];exact aq [] (by simp only[go_sem];try rfl) (by rfl)
 have hj':j<L.length:=by omega
 have hj2:j<12:=by omega
 have e8:=dv hj' (by omega);rw[abf hj']at hx;have cn:=eP (ah L j);simp only[gc]at cn;by_cases z:(ah L j).c=0
 .rw[au (by simp[z])]at hx;rw[be z]at cn;simp only[go_sem,aL h1,hj2,hlen];refine⟨by omega,?_⟩;refine aa (cn) ?_;refine aE (j+1) ⟨show j+1<=12 by omega,hx⟩ (show 12-(j+1)<12-j by omega) (Wk.of ?_ ?_)
  .simp only[go_sem,e8];try simp
  .simp only[go_sem]
 .rw[aF z]at hx;subst hx;rw[aw z]at cn;simp only[go_sem,aL h1,hj2,hlen];refine⟨by omega,?_⟩;refine aj (cn) ?_;simp only[go_sem,hj2,hlen];refine⟨by omega,?_⟩;exact aq [] (by simp only[go_sem];try rfl) (by rfl)
end
section
open Go Go.Mw
def pu(cs:List Cu)(p:Int):List ig:=(nU cs p).map λc=>⟨0,c.n,some c.b⟩
def RR{cs:List Cu}{p:Int}{i:Nat}(h:i<cs.length):pu (cs.take (i+1)) p=pu (cs.take i) p++(if(ah cs i).af=p then[⟨0,(ah cs i).n,some (ah cs i).b⟩]else[]):=by
 unfold pu nU;rw[su h,List.filter_append,kr];by_cases q:(ah cs i).af=p
 .rw[aF q,List.filter_cons,aF (by simpa using q)];rfl
 .rw[au q,List.filter_cons,au (by simpa using q)];rfl
def Jn(cs:List Cu)(p:Int):(pu cs p).length<=cs.length:=by unfold pu nU;rw[cU];exact List.length_filter_le _ _
def Io(L:List ig):ao:=⟨83,3,L.map km,false⟩
def V_{id:Nat}(hid:id<1000){L M:List ig}(h1:L.length<=100000)(h2:M.length<=100000):tC id 83 3 0 L.length (M.map km) (some ⟨83,3,L.map km,false⟩)=some (.ms id 3 0 (L++M).length,.reb id ⟨83,3,(L++M).map km,false⟩):=by
 rw[bX id 83 3 _ km _ _ rfl,aF ⟨by simp;omega,by omega,.inl hid⟩];simp
attribute[local go_sem] cU wx dm aS bC eS gc
def Qe(m:Md)(p:Int)(hc:m.cs.length<=8):aX pg tp [cY m,.int .i64 p] [] sb (λr' σ'=>r' = .ms 900 3 0 (Jm m p).length/\σ'=[(900,Io (Jm m p))]):=by
 rw[show Jm m p=pu m.cs p from rfl];refine bT jb ?_;simp only[go_sem,jb,cY];refine an (λi:Nat=>⟨[(6,.int .i64 i),(5,.ms 900 3 0 (pu (m.cs.take i) p).length),(2,.mp 2 12 0 0),(1,.int .i64 p)],[(900,Io (pu (m.cs.take i) p)),(2,⟨33,12,[nZ m],true⟩)]⟩) (λi=>i<=m.cs.length) (λi=>m.cs.length-i) 0 (cQ _) ((Wk.nil _ 5 900 3 83 (by simp only[go_sem]) (.inl (by decide))).trans (Wk.of ?_ ?_)) ?_
 .simp only[go_sem,St.mknil];try simp[pu,nU]
 .simp only[go_sem,St.mknil];try simp[go_sem,pu,nU,Io]
 intro i hi;have hlen:=Jn (m.cs.take i) p;rw[pA]at hlen;by_cases q:(i:Int)<(m.cs.length:Int);rotate_left
 .obtain rfl:i=m.cs.length:=by omega
  rw[eV];simp only[go_sem,aM q,Io];exact eT [] _ [(900,⟨83,3,(pu m.cs p).map km,false⟩)] ⟨rfl,rfl⟩
 have hi':i<m.cs.length:=by omega
 have e8:=wi (n:=(i:Int)+1) (by omega) (by omega);have hn:=RR (p:=p) hi';by_cases ha:(ah m.cs i).af=p
 .rw[aF ha]at hn;have hap:=V_ (id:=900) (by decide) (L:=pu (m.cs.take i) p) (M:=[⟨0,(ah m.cs i).n,some (ah m.cs i).b⟩]) (by omega) (by simp);rw[<-hn]at hap;simp only[eR,k9,km,zG]at hap;generalize hN:pu (m.cs.take (i+1)) p=N at*;generalize pu (m.cs.take i) p=L at*;simp only[go_sem,aL q,be ha,Io,hap];refine⟨by omega,q,by omega,q,by omega,q,?_⟩;refine aE (i+1) (show i+1<=m.cs.length by omega) (show m.cs.length-(i+1)<m.cs.length-i by omega) (Wk.of ?_ ?_)
  .simp only[go_sem,e8,hN];try simp
  .simp only[go_sem,Io,hN];try simp[go_sem]
 .rw[au ha,gh]at hn;simp only[go_sem,aL q,aw ha,Io];refine⟨by omega,q,?_⟩;refine aE (i+1) (show i+1<=m.cs.length by omega) (show m.cs.length-(i+1)<m.cs.length-i by omega) (Wk.of ?_ ?_)
  .simp only[go_sem,e8,hn];try simp
  .simp only[go_sem,Io,hn];try simp[go_sem]
def Ms(m:Md)(p:Int)(hc:m.cs.length<=8):ac pg tp [cY m,.int .i64 p] (.sl 3 ((Jm m p).map km)):=by
 rw[show Jm m p=pu m.cs p from rfl];refine aD jb ?_;simp only[go_sem,jb,cY];refine an (λi:Nat=>⟨[(6,.int .i64 i),(5,.ms 900 3 0 (pu (m.cs.take i) p).length),(2,.mp 2 12 0 0),(1,.int .i64 p)],[(900,Io (pu (m.cs.take i) p)),(2,⟨33,12,[nZ m],true⟩)]⟩) (λi=>i<=m.cs.length) (λi=>m.cs.length-i) 0 (cQ _) ((Wk.nil _ 5 900 3 83 (by simp only[go_sem]) (.inl (by decide))).trans (Wk.of ?_ ?_)) ?_
 .simp only[go_sem,St.mknil];try simp[pu,nU]
 .simp only[go_sem,St.mknil];try simp[go_sem,pu,nU,Io]
 intro i hi;have hlen:=Jn (m.cs.take i) p;rw[pA]at hlen;by_cases q:(i:Int)<(m.cs.length:Int);rotate_left
 .obtain rfl:i=m.cs.length:=by omega
  rw[eV];simp only[go_sem,aM q,Io];refine aq [900] ?_ rfl;simp only[go_sem,bG];rw[dQ (by simp)]
 have hi':i<m.cs.length:=by omega
 have e8:=wi (n:=(i:Int)+1) (by omega) (by omega);have hn:=RR (p:=p) hi';by_cases ha:(ah m.cs i).af=p
 .rw[aF ha]at hn;have hap:=V_ (id:=900) (by decide) (L:=pu (m.cs.take i) p) (M:=[⟨0,(ah m.cs i).n,some (ah m.cs i).b⟩]) (by omega) (by simp);rw[<-hn]at hap;simp only[eR,k9,km,zG]at hap;generalize hN:pu (m.cs.take (i+1)) p=N at*;generalize pu (m.cs.take i) p=L at*;simp only[go_sem,aL q,be ha,Io,hap];refine⟨by omega,q,by omega,q,by omega,q,?_⟩;refine aE (i+1) (show i+1<=m.cs.length by omega) (show m.cs.length-(i+1)<m.cs.length-i by omega) (Wk.of ?_ ?_)
  .simp only[go_sem,e8,hN];try simp
  .simp only[go_sem,Io,hN];try simp[go_sem]
 .rw[au ha,gh]at hn;simp only[go_sem,aL q,aw ha,Io];refine⟨by omega,q,?_⟩;refine aE (i+1) (show i+1<=m.cs.length by omega) (show m.cs.length-(i+1)<m.cs.length-i by omega) (Wk.of ?_ ?_)
  .simp only[go_sem,e8,hn];try simp
  .simp only[go_sem,Io,hn];try simp[go_sem]
def Uv{m:Md}(hs:BZ m)(hn:Kn m)(hI:CY m<=6000):ac pg Dw [cY m] (.tup [.sl 1 ((gq m).2.map dY),.int .i64 (gq m).1]):=by
 refine aD uE ?_;have c1:=Ux AA m hs ags;simp only[cY,bC]at c1;simp only[go_sem,uE,cY];refine aj (c1) ?_;by_cases hL:(sc AA m).c=0;rotate_left
 .have r:gq m=((sc AA m).c,[]):=by unfold gq;rw[aF hL]
  rw[r];simp only[go_sem,bv hL];exact dd (Wk.nls _ 2 1 (by simp only[go_sem])) [] (by first|rfl|simp only[go_sem]) rfl
 have hok:=(ZG hs).1 hL;have c2:=UA hok;simp only[cY,bC]at c2;simp only[go_sem,bB hL];refine aj (c2) ?_;cases hne:H3 m
 .have r:gq m=(16,[]):=by unfold gq;rw[au (by simp[hL]),aF hne]
  rw[r];simp only[go_sem];exact dd (Wk.nls _ 2 1 (by simp only[go_sem])) [] (by first|rfl|simp only[go_sem]) rfl
 have c3:=Qg (m:=m) (by have:=hok.cs.1;omega);simp only[cY,bC]at c3;simp only[go_sem];refine aj (c3) ?_;cases hor:Ig m
 .have r:gq m=(7,[]):=by unfold gq;rw[au (by simp[hL]),au (by simp[hne]),aF hor]
  rw[r];simp only[go_sem];exact dd (Wk.nls _ 2 1 (by simp only[go_sem])) [] (by first|rfl|simp only[go_sem]) rfl
 have r:gq m=Aj (P4 m):=by unfold gq;rw[au (by simp[hL]),au (by simp[hne]),au (by simp[hor])]
 rw[r];have h:Kq m:=⟨hok,hne,hor,hn⟩
 have htot:B0 m<=6000:=by have:=JJ hok;omega
 obtain⟨b1,b2,b3⟩:=ZT h htot;have c4:=KF m;simp only[cY,bC]at c4;have c7:=YE (P4 m) b2 b1 b3;have hcs:=hok.cs.1;have k0:=Qe m 0 hcs;simp only[cY,bC]at k0;simp only[go_sem];refine FJ k0 rfl (by simp[go_sem]) 901 (by decide) (by simp only[go_sem]) ?_;simp only[go_sem];refine aj (c4) ?_;have hp:Jm m 0++zn m (qt m)=P4 m:=rfl;have hpl:=vj m;have hpi:=Ii m;have hp8:(8:Int)∈qt m->m.hs=true:=λq=>(DP q).2.2.2.2.2.2.2.1 rfl;generalize qt m=ps at*;generalize P4 m=R at*;simp only[go_sem];refine an (λq:Nat×List ig=>⟨[(7,.int .i64 q.1),(6,.sl 1 (ps.map ri)),(5,.ms 901 3 0 q.2.length),(1,.mp 1 12 0 0)],[(901,Io q.2),(1,⟨33,12,[nZ m],true⟩)]⟩) (λq=>q.1<=ps.length/\q.2++zn m (ps.drop q.1)=R) (λq=>ps.length-q.1) (0,Jm m 0) ⟨cQ _,hp⟩ (Wk.of ?_ ?_) ?_
 .simp only[go_sem];try simp
 .simp only[go_sem];try simp[go_sem]
 rintro⟨i,L⟩ ⟨hi2,hP⟩;simp only at hi2 hP;by_cases q1:(i:Int)<(ps.length:Int);rotate_left
 .rw[M9 (by omega),zn,gh]at hP;subst hP;simp only[go_sem,aM q1,Io];refine oU [901] ?_ c7 (by simp[go_sem]) ?_
  .simp only[go_sem,bG];rw[dQ (by simp)]
  simp only[go_sem];exact az
 have hi':i<ps.length:=by omega
 have e8:=wi (n:=(i:Int)+1) (by omega) (by omega);have hin:ah ps i∈ps:=by rw[bD hi'];exact na hi'
 rw[vH hi',zn]at hP;generalize hp':ah ps i=p at*;have hp1:=hpi p hin;have hp8':p=8->m.hs=true:=λq=>hp8 (q▸hin);have c5:=Zg h htot hp1 hp8' λq=>adZ h htot ⟨q,hp1.2⟩ hp8';have c6:=acR p;have k5:=Ms m p hcs;simp only[cY,bC]at c5 k5;have hll:L.length+1+(Jm m p).length<=10000:=by
  have:=congrArg List.length hP;simp only[aJ,aT]at this;omega
 obtain⟨S,hS⟩:∃S:ig,(⟨Bv p,[],some (dF m p)⟩:ig)=S:=⟨_,rfl⟩
 have ha1:=V_ (id:=901) (by decide) (L:=L) (M:=[S]) (by omega) (by simp);have ha2:=V_ (id:=901) (by decide) (L:=L++[S]) (M:=Jm m p) (by simp;omega) (by omega);rw[hS]at hP;simp only[eR,k9]at ha1;rw[show km S=[.int .i64 (Bv p),.str [],.sl 1 ((dF m p).map dY)] by rw[<-hS];rfl]at ha1;simp only[go_sem,aL q1,hp'];refine⟨by omega,q1,?_⟩;refine aa (c5) ?_;refine aj (T_ (dF m p) 0) ?_;rw[show wD true (dF m p) 0=(some (dF m p),0) from rfl];simp only[go_sem,zG,Io,hp'];refine⟨by omega,q1,?_⟩
 first|refine bY c6 (by simp[go_sem]) ?_|refine aN c6 (by simp[go_sem]) rfl ?_
 simp only[go_sem,ha1,hp'];refine⟨by omega,q1,?_⟩
 first|refine bY k5 (by simp[go_sem]) ?_|refine aN k5 (by simp[go_sem]) rfl ?_
 simp only[go_sem,ha2];refine aE (i+1,L++[S]++Jm m p) ⟨show i+1<=ps.length by omega,by rw[<-hP];simp⟩ (show ps.length-(i+1)<ps.length-i by omega) (Wk.of ?_ ?_)
 .simp only[go_sem,e8];try simp
 .simp only[go_sem,Io];try simp[go_sem]
end
section
open Go Go.Mw
attribute[local go_sem] cU bC
end
section
open Go Go.Mw
attribute[local go_sem] cU bC
def M1(m:Md)(hs:BZ m)(hn:Kn m):ac pg vc [cY m] (.bool true):=by
 refine aD lN ?_;have cs:=Ze hs;have al:=Qi;simp only[cY,bC]at cs;simp only[go_sem,lN,cY];refine aj (cs) ?_;cases hq:U3 m
 .simp only[go_sem];refine aa (al) ?_;exact az
 have c1:=zc hs hn (U4 hq);have c2:=Uv hs hn (U4 hq);have c3:=NV hs hn (U4 hq);simp only[cY,bC]at c1 c2 c3;generalize gq m=R at*;obtain⟨e,l⟩:=R;simp only at c1 c2 c3;simp only[go_sem];refine aa (c1) ?_;refine aj (c2) ?_;simp only[go_sem,beq_self_eq_true];refine aj (c3) ?_;cases h:(e==0)
 .simp only[go_sem,h];refine aa (al) ?_;exact az
 .simp only[go_sem,h];refine aa (al) ?_;exact az
