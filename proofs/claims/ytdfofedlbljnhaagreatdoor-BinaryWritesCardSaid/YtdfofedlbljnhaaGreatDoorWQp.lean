import Derived.Test.YtdfofedlbljnhaaGreatDoorWQo
set_option linter.all false
set_option maxRecDepth 100000
set_option maxHeartbeats 40000000
namespace Go.Proofs.YtdfofedlbljnhaaGreatDoor
open Go Go.Mw
def ac7(s:List UInt8)(n:Int):ac pg nX0 [.str s,.int .u8 n] (.int .i64 (MN s n.toNat.toUInt8)):=by
 refine aD FX0 ?_;simp only[go_sem,FX0];exact az
def agM(s:List UInt8)(n:Int):ac pg wy [.str s,.int .u8 n] (.int .i64 (MN s n.toNat.toUInt8)):=by
 refine aD nx ?_;simp only[go_sem,nx];refine aa (ac7 s n) ?_;exact az
def Cg(id:Int):ac pg BQ [.int .i64 id] (.int .i64 (jH id)):=by
 refine aD jd ?_;by_cases h1:id<1
 .rw[Gx (.inl h1)];simp only[go_sem,jd,aL h1];exact az
 by_cases h2:id>12
 .rw[Gx (.inr h2)];simp only[go_sem,jd,aM h1,aL h2];exact az
 have w1:IntKind.u8.wrap id=id:=by rw[vy];omega
 have w2:IntKind.i64.wrap (MN [1,2,3,4,5,6,7,8,9,12,10,11] id.toNat.toUInt8+1)=jH id:=by
  rcases II (id:=id) (by omega)with rfl|rfl|rfl|rfl|rfl|rfl|rfl|rfl|rfl|rfl|rfl|rfl<;>decide +kernel
 simp only[go_sem,jd,aM h1,aM h2,w1];refine aj (agM [1,2,3,4,5,6,7,8,9,12,10,11] id) ?_;simp only[go_sem,w2];exact az
def agI(p:Int):ac pg H0 [.int .i64 p] (.int .i64 (Bv p)):=by
 refine aD nQ ?_;by_cases h1:p<1
 .rw[RC (.inl h1)];simp only[go_sem,nQ,aL h1];exact az
 by_cases h2:p>12
 .rw[RC (.inr h2)];simp only[go_sem,nQ,aM h1,aL h2];exact az
 have h3:1<=p/\p<=12:=by omega
 have w1:IntKind.i64.wrap (p-1)=p-1:=wi (by omega) (by omega);have w2:IntKind.i64.wrap ((ah ([1,2,3,4,5,6,7,8,9,12,10,11]:List UInt8) (p-1).toNat).toNat:Int)=Bv p:=by
  clear h1 h2 w1;rcases II h3 with rfl|rfl|rfl|rfl|rfl|rfl|rfl|rfl|rfl|rfl|rfl|rfl<;>decide +kernel
 simp only[go_sem,nQ,aM h1,aM h2,w1,w2];exact⟨by omega,by simp;omega,by exact az⟩
def Ce(id:Int):ac pg Fj [.int .i64 id] (.int .i64 (jH id)):=by
 refine aD lh ?_;by_cases h1:id<1
 .rw[Gx (.inl h1)];simp only[go_sem,lh,aL h1];exact az
 by_cases h2:id>12
 .rw[Gx (.inr h2)];simp only[go_sem,lh,aM h1,aL h2];exact az
 have h3:1<=id/\id<=12:=by omega
 have e1:Xs none 1 id.toNat 0 (some ⟨3,1,[[.int .i64 0],[.int .i64 1],[.int .i64 2],[.int .i64 3],[.int .i64 4],[.int .i64 5],[.int .i64 6],[.int .i64 7],[.int .i64 8],[.int .i64 9],[.int .i64 11],[.int .i64 12],[.int .i64 10]],false⟩)=some (.int .i64 (jH id)):=by
  clear h1 h2;rcases II h3 with rfl|rfl|rfl|rfl|rfl|rfl|rfl|rfl|rfl|rfl|rfl|rfl<;>rfl
 simp only[go_sem,lh,aM h1,aM h2,e1];exact⟨⟨by omega,by simp;omega⟩,by exact az⟩
def acR(p:Int):ac pg L5 [.int .i64 p] (.int .i64 (Bv p)):=by
 refine aD Cr ?_;simp only[go_sem,Cr];refine an (λi:Nat=>⟨[(3,.int .i64 ((i+1:Nat):Int)),(0,.int .i64 p)],[]⟩) (λi=>i<=12/\∀k:Nat,k<i->jH ((k+1:Nat):Int)≠p) (λi=>12-i) 0 ⟨by omega,λk hk=>absurd hk (Nat.not_lt_zero k)⟩ (Wk.of ?_ ?_) ?_
 .simp only[go_sem];simp
 .simp only[go_sem]
 rintro i ⟨hi,hk⟩;by_cases h1:((i+1:Nat):Int)<=12
 .simp only[go_sem,aL h1];refine aj (Ce ((i+1:Nat):Int)) ?_;by_cases h2:jH ((i+1:Nat):Int)=p
  .have r:Bv p=((i+1:Nat):Int):=by rw[<-h2];exact(Nn ⟨by omega,by omega⟩).1
   rw[r];simp only[go_sem,be h2];exact az
  .have w1:IntKind.i64.wrap (((i+1:Nat):Int)+1)=((i+1+1:Nat):Int):=by rw[wi (by omega) (by omega)];omega
   simp only[go_sem,aw h2];refine aE (i+1) ⟨by omega,λk hk2=>?_⟩ (show 12-(i+1)<12-i by omega) (Wk.of ?_ ?_)
   .rcases kz k i with h4|h4
    .exact hk k h4
    .obtain rfl:k=i:=by omega
     exact h2
   .simp only[go_sem,w1]
    try simp
   .simp only[go_sem]
 .simp only[go_sem,aM h1];have r:Bv p=0:=by
   by_cases hp:1<=p/\p<=12
   .exfalso;obtain⟨g1,g2⟩:=Yp hp;have g3:=(aaN p).2;refine hk (Bv p-1).toNat (by omega) ?_;rw[show(((Bv p-1).toNat+1:Nat):Int)=Bv p by omega];exact g1
   .exact RC (by omega)
  rw[r];exact az
def Iv(id last:Int):ac pg BS [.int .i64 id,.int .i64 last] (.tup [.int .i64 (if id=0 then last else jH id),.bool (decide (id=0\/jH id>last))]):=by
 refine aD mN ?_;by_cases h:id=0
 .subst h;simp only[go_sem,mN,true_or,decide_true];exact az
 .simp only[go_sem,mN,aw h,au h,false_or];refine aa (Cg id) ?_;exact aq [] (by simp only[go_sem,h,false_or]) (by first|rfl|simp[go_sem,ab])
def acT:ac pg HX [] (.sl 1 (Gg.map dY)):=by
 refine aD yU ?_;simp only[go_sem,yU];exact aq [1] (by rfl) rfl
def Cj(l m:List ig):tot (l++m)=tot l+tot m:=by
 induction l with
 | nil=>simp[tot]
 | cons s l ih=>simp only[k7,tot,ih];omega
def KY{l:List ig}{i:Nat}(h:i<l.length):tot (l.take (i+1))=tot (l.take i)+(gb (ah l i).bs).length+(ah l i).name.length:=by
 rw[Y7 h,Cj];simp[tot];omega
def IF(l:List ig)(i:Nat):tot (l.take i)<=tot l:=by
 have:=Cj (l.take i) (l.drop i);rw[IS]at this;omega
def Qb{b:List UInt8}{a:Nat}{n:Int}{ok:Bool}{e:Int}(h0:ok=true->e=0)(h:(bI ok b a e n).2.2=0)(ho:ok=false->e≠0)(ha:a<=b.length) :
  0<=n/\((n.toNat:Nat):Int)=n/\a+n.toNat<=b.length/\bI ok b a e n=(some ((b.drop a).take n.toNat),a+n.toNat,0):=by
 cases ok with
 | false=>exact absurd (by simpa[bI]using h) (ho rfl)
 | true =>
  obtain rfl:=h0 rfl;unfold bI at h⊢;simp only[br]at h⊢;by_cases h1:n<0
  .rw[aF h1]at h;exact absurd h (show ¬((1:Int)=0)by decide)
  rw[au h1]at h⊢;by_cases h2:n>(b.length:Int)-a
  .rw[aF h2]at h;exact absurd h (show ¬((3:Int)=0)by decide)
  rw[au h2];exact⟨by omega,by omega,by omega,rfl⟩
def agj{bits:Nat}{b:List UInt8}{a:Nat}{e:Int}{ok:Bool}:a<=(rU ok bits b a e).2.1:=by
 unfold rU
 repeat' split
 all_goals first|exact bG _|exact Nat.le_add_right _ _
def Ur{bits:Nat}{b:List UInt8}{a:Nat}:rU true bits b (a+1) 0=((rU true bits (b.drop a) 1 0).1,a+(rU true bits (b.drop a) 1 0).2.1,(rU true bits (b.drop a) 1 0).2.2):=by
 unfold rU;rw[Ev];simp only[br];split
 .rfl
 .simp only[Qy]
def KD{ok:Bool}{b:List UInt8}{a x:Nat}{e n:Int}(ha:a<=b.length):bI ok b (a+x) e n=((bI ok (b.drop a) x e n).1,a+(bI ok (b.drop a) x e n).2.1,(bI ok (b.drop a) x e n).2.2):=by
 unfold bI;cases ok with
 | false=>rfl
 | true =>
  simp only[br,jJ,Ev];split
  .rfl
  have e1:((b.length-a:Nat):Int)-(x:Int)=(b.length:Int)-((a+x:Nat):Int):=by omega
  rw[e1];split
  .rfl
  .simp only[Qy]
def Vd{b:List UInt8}{a:Nat}(ha:a<=b.length) :
  bI ((rU true 32 b (a+1) 0).2.2==0) b (rU true 32 b (a+1) 0).2.1 (rU true 32 b (a+1) 0).2.2 (rU true 32 b (a+1) 0).1=((tz (b.drop a)).1,a+(tz (b.drop a)).2.1,(tz (b.drop a)).2.2):=by
 rw[Ur];exact KD ha
def Up{b:List UInt8}{a:Nat}(ha:a<b.length):kG true b a 0=(ah (b.drop a) 0,a+1,0):=by
 unfold kG;rw[aF rfl,au (by omega),DI];rfl
def Vc{d:List UInt8}(hd:0<d.length)(h:(tz d).2.2=0):∃x,(tz d).1=some x/\1<=(tz d).2.1/\(tz d).2.1<=d.length/\x.length<=d.length:=by
 have h1:=agj (bits:=32) (b:=d) (a:=1) (e:=0) (ok:=true);have h2:=Yz (ok:=true) (bits:=32) (b:=d) (a:=1) (e:=0) (by omega);have h3:=Qb (ok:=((rU true 32 d 1 0).2.2==0)) (e:=(rU true 32 d 1 0).2.2) (n:=(rU true 32 d 1 0).1) (λh=>by simpa using h) h (λh=>by simpa using h) h2;obtain⟨g1,g2,g3,g4⟩:=h3;unfold tz;rw[g4];exact⟨_,rfl,by simp only;omega,by simp only;omega,by simp;omega⟩
def N4{d:List UInt8}{last:Int}(hd:0<d.length)(h:(ey d last).1=0):(ey d last).2.2.length<d.length:=by
 unfold ey at h⊢;by_cases h1:(ah d 0).toNat>12
 .rw[aF h1];exact hd
 rw[au h1]at h⊢;by_cases h2:(tz d).2.2≠0
 .rw[aF h2];exact hd
 rw[au h2]at h⊢;obtain⟨x,g1,g2,g3,g4⟩:=Vc hd (B2.1 h2);split
 .exact hd
 split
 .exact hd
 .simp only[jJ];omega
def Bm:∀(f g:Nat)(d:List UInt8)(last:Int)(acc:List ig),d.length<=f->d.length<=g->tO f d last acc=tO g d last acc
 | 0,0,_,_,_,_,_=>rfl
 | 0,g+1,d,last,acc,h,_=>by rw[tO,tO,aF (by omega)]
 | f+1,0,d,last,acc,_,h=>by rw[tO,tO,aF (by omega)]
 | f+1,g+1,d,last,acc,h1,h2=>by
  rw[tO,tO];by_cases h3:d.length=0
  .rw[aF h3,aF h3]
  rw[au h3,au h3];by_cases h4:(ey d last).1≠0
  .rw[aF h4,aF h4]
  rw[au h4,au h4];have:=N4 (by omega) (B2.1 h4);exact Bm f g _ _ _ (by omega) (by omega)
def Ci{d:List UInt8}{last:Int}{acc:List ig}(hd:0<d.length)(h:(ey d last).1≠0):MO d last acc=((ey d last).1,[]):=by
 obtain⟨n,hn⟩:∃n,d.length=n+1:=⟨d.length-1,by omega⟩
 rw[MO,hn,tO,au (by omega),aF h]
def U5{d:List UInt8}{last:Int}{acc:List ig}(hd:0<d.length)(h:(ey d last).1=0):MO d last acc=MO (ey d last).2.2 (max last (jH (ey d last).2.1.id)) (acc++[(ey d last).2.1]):=by
 obtain⟨n,hn⟩:∃n,d.length=n+1:=⟨d.length-1,by omega⟩
 have:=N4 hd h;rw[MO,hn,tO,au (by omega),au (by rw[h];simp),MO];exact Bm _ _ _ _ _ (by omega) (bG _)
def X8{d:List UInt8}{last:Int}(h:(ey d last).1=0):(ah d 0).toNat<=12/\(tz d).2.2=0/\¬((ah d 0).toNat≠0/\jH (ah d 0).toNat<=last)/\(kh (ah d 0).toNat (gb (tz d).1)).1=0/\(ey d last).2=((kh (ah d 0).toNat (gb (tz d).1)).2,d.drop (tz d).2.1)/\(ey d last).2.1.id=(ah d 0).toNat:=by
 unfold ey at h⊢;by_cases h1:(ah d 0).toNat>12
 .rw[aF h1]at h;exact absurd h (by decide)
 rw[au h1]at h⊢;by_cases h2:(tz d).2.2≠0
 .rw[aF h2]at h;exact absurd h h2
 rw[au h2]at h⊢;by_cases h3:(ah d 0).toNat≠0/\jH (ah d 0).toNat<=last
 .rw[aF h3]at h;exact absurd h (by decide)
 rw[au h3]at h⊢;by_cases h4:(kh (ah d 0).toNat (gb (tz d).1)).1≠0
 .rw[aF h4]at h;exact absurd h h4
 rw[au h4];refine⟨by omega,B2.1 h2,h3,B2.1 h4,rfl,?_⟩;have h5:=B2.1 h4;unfold kh at h5⊢;by_cases h6:((ah d 0).toNat:Int)=0
 .rw[aF h6]at h5⊢;split at h5
  .rename_i h7;exact absurd h5 h7
  .rename_i h7;rw[au h7];exact h6.symm
 .rw[au h6]
section
def FD(l:List UInt8)(a:Nat)(h:a<=l.length):vZ 1 (.sl 1 (l.map dY)) (some (.int .i64 (a:Int))) none none=some (.sl 1 ((l.drop a).map dY)):=by
 have h2:cH 0 (some (.int .i64 (a:Int)))=some a:=by simp only[cH];rw[aF (by omega),mz]
 have h3:cH (l.map dY).length none=some l.length:=by simp[cH]
 simp only[vZ,h2,h3];rw[aF ⟨trivial,h,bG _,by simp⟩,List.map_drop,dQ (by simp)]
attribute[local go_sem] rx ro
def ac6(id:Int)(body:List UInt8)(hb:body.length<100000000):ac pg Dz [.int .i64 id,.sl 1 (body.map dY)] (.tup [.agg (km (kh id body).2),.int .i64 (kh id body).1]):=by
 refine aD oS ?_;have cp:=λx:List UInt8=>O7 30 1 x.length 5 (List.replicate x.length [.int .u8 0]) (x.map dY) (by simp) (by simp);by_cases h:id=0
 .subst h;have hn:=Od (ok:=true) (b:=body) (a:=0) (e:=0) (cQ _);simp only[go_sem,oS];refine qR (D7 body (by omega)) rfl (by simp[go_sem]) 901 (by decide) (by simp only[go_sem]) ?_;simp only[go_sem];have c1:=UT true body 0 0 (cQ _) (by omega);rw[show(true&&(0:Int)==0)=true from rfl]at c1;refine aH (c1) ?_;refine ae (aU true body ((dl true body 0 0).2.1:Nat) (dl true body 0 0).2.2) ?_;by_cases he:(dl true body 0 0).2.2=0
  .have r:kh 0 body=(0,⟨0,(dl true body 0 0).1,some (body.drop (dl true body 0 0).2.1)⟩):=by simp[kh,he]
   have hl:(body.drop (dl true body 0 0).2.1).length<=body.length:=by simp
   rw[r];simp only[go_sem,bB he];refine ae (aiQ true body ((dl true body 0 0).2.1:Nat) (dl true body 0 0).2.2) ?_;simp only[go_sem,FD body (dl true body 0 0).2.1 hn,cp (body.drop (dl true body 0 0).2.1)];refine⟨⟨by omega,by omega,by omega⟩,aq [30] ?_ rfl⟩;simp only[go_sem,bG,cU];rw[dQ (by simp)]
  .have r:kh 0 body=((dl true body 0 0).2.2,default):=by simp[kh,he]
   rw[r];simp only[go_sem,bv he];exact aq [] (by first|rfl|simp only[go_sem]) rfl
 .have r:kh id body=(0,⟨id,[],some body⟩):=by simp[kh,h]
  rw[r];simp only[go_sem,oS,aw h,cp body,cU];refine⟨⟨by omega,by omega,by omega⟩,aq [30] ?_ rfl⟩;simp only[go_sem,bG,cU];rw[dQ (by simp)]
end
section
def Wd(l:List UInt8)(a:Nat)(h:a<=l.length):vZ 1 (.sl 1 (l.map dY)) none (some (.int .i64 (a:Int))) none=some (.sl 1 ((l.take a).map dY)):=by
 have h2:cH (l.map dY).length (some (.int .i64 (a:Int)))=some a:=by simp only[cH];rw[aF (by omega),mz]
 have h3:cH (l.map dY).length none=some l.length:=by simp[cH]
 have h4:cH 0 none=some 0:=rfl;simp only[vZ,h2,h3,h4];rw[aF ⟨trivial,cQ _,by simpa using h,by simp⟩,M8,Nat.sub_zero,List.map_take]
attribute[local go_sem] rx ro
def YW(b:List UInt8)(hb:b.length<100000000):ac pg BR [.sl 1 (b.map dY)] (.tup [.sl 3 ((Ec b).2.map km),.int .i64 (Ec b).1]):=by
 refine aD fN ?_;by_cases h1:(b.length:Int)>262144
 .have r:Ec b=(6,[]):=by rw[Ec,aF (by omega)]
  rw[r];simp only[go_sem,fN,aL h1];exact dd (Wk.nls _ 2 3 (by simp only[go_sem])) [] (by first|rfl|simp only[go_sem]) rfl
 by_cases h2:(b.length:Int)<8
 .have r:Ec b=(4,[]):=by rw[Ec,au (by omega),aF (.inl (by omega))]
  rw[r];simp only[go_sem,fN,aM h1,aL h2];exact dd (Wk.nls _ 2 3 (by simp only[go_sem])) [] (by first|rfl|simp only[go_sem]) rfl
 have a1:=Wd b 8 (by omega);have a2:=FD b 8 (by omega);rw[show(((8:Nat):Int))=8 from rfl]at a1 a2;by_cases h3:b.take 8=Gg
 .have r:Ec b=MO (b.drop 8) 0 []:=by rw[Ec,au (by omega),au (by simp[h3];omega)]
  have d3:(b.take 8==[0,97,115,109,1,0,0,0])=true:=by rw[h3];rfl
  rw[r];generalize hd:b.drop 8=d at*;have hdl:d.length<100000000:=by rw[<-hd];simp;omega
  simp only[go_sem,fN,aM h1,aM h2,a1,a2,uN,d3,pq];refine qR (D7 d (by omega)) rfl (by simp[go_sem]) 901 (by decide) (by simp only[go_sem]) ?_;simp only[go_sem];refine an (λq:Nat×Int×List ig=>⟨[(4,.ms 900 3 0 q.2.2.length),(5,.int .i64 q.2.1),(6,.mp 901 4 0 0)],[(900,⟨69,3,q.2.2.map km,false⟩),(901,ro true d (q.1:Nat) 0)]⟩) (λq=>q.1<=d.length/\0<=q.2.1/\q.2.2.length<=q.1/\MO (d.drop q.1) q.2.1 q.2.2=MO d 0 []) (λq=>d.length-q.1) (0,0,[]) ⟨cQ _,Int.le_refl _,bG _,rfl⟩ ((Wk.nil _ 4 900 3 69 (by simp only[go_sem]) (.inl (by decide))).trans (Wk.of ?_ ?_)) ?_
  .simp only[go_sem,St.mknil];try simp[go_sem]
  .simp only[go_sem,St.mknil];try simp[go_sem,ro]
  rintro⟨a,last,acc⟩ ⟨ha,hla,hac,hs⟩;replace ha:a<=d.length:=ha;replace hla:0<=last:=hla;replace hac:acc.length<=a:=hac;replace hs:MO (d.drop a) last acc=MO d 0 []:=hs;simp only[go_sem];have cl:=ac4 true d a 0 ha (by omega);have rl:Ob (true&&(0:Int)==0) d a=(d.length:Int)-a:=rfl;rw[rl]at cl;refine ae (cl) ?_;by_cases hlt:a<d.length
  .have hdp:0<(d.drop a).length:=by simp;omega
   have cb:=pm true d a 0 ha (by omega);rw[show(true&&(0:Int)==0)=true from rfl,Up hlt]at cb;simp only[go_sem,aL (show(d.length:Int)-a>0 by omega)];refine ae (cb) ?_;have hx:=(ah (d.drop a) 0).toNat_lt;have w1:IntKind.i64.wrap ((ah (d.drop a) 0).toNat:Int)=((ah (d.drop a) 0).toNat:Int):=wi (by omega) (by omega);by_cases h12:(ah (d.drop a) 0).toNat>12
   .have r2:ey (d.drop a) last=(4,default,[]):=by rw[ey,aF h12]
    rw[<-hs,Ci hdp (by rw[r2];simp),r2];simp only[go_sem,w1,aL (show((ah (d.drop a) 0).toNat:Int)>12 by omega)];exact dd (Wk.nls _ 2 3 (by simp only[go_sem])) [] (by first|rfl|simp only[go_sem]) rfl
   have cu:=fv true d (a+1) 0 (by omega) (by omega);have hua:=Yz (ok:=true) (bits:=32) (b:=d) (a:=a+1) (e:=0) (by omega);have hul:=DS true d (a+1) 0;have ct:=vx true d (rU true 32 d (a+1) 0).2.1 (rU true 32 d (a+1) 0).2.2 (rU true 32 d (a+1) 0).1 hua (by omega) ⟨by omega,by omega⟩;rw[show(true&&(0:Int)==0)=true from rfl]at cu;rw[bW,Vd ha]at ct;simp only[go_sem,w1,aM (show ¬((ah (d.drop a) 0).toNat:Int)>12 by omega)];refine aH (cu) ?_;refine aH (ct) ?_;refine ae (aU true d ((a+(tz (d.drop a)).2.1:Nat):Int) (tz (d.drop a)).2.2) ?_;by_cases he:(tz (d.drop a)).2.2=0
   .obtain⟨x,g1,g2,g3,g4⟩:=Vc hdp he;simp only[go_sem,bB he,g1];refine aj (Iv ((ah (d.drop a) 0).toNat:Int) last) ?_;have hd3:(d.drop a).length=d.length-a:=by simp
    by_cases hr:(ah (d.drop a) 0).toNat≠0/\jH (ah (d.drop a) 0).toNat<=last
    .have r2:ey (d.drop a) last=(7,default,[]):=by rw[ey,au h12,au (by rw[he];simp),aF hr]
     have d5:decide (((ah (d.drop a) 0).toNat:Int)=0\/jH ((ah (d.drop a) 0).toNat:Int)>last)=false:=aM (by omega);rw[<-hs,Ci hdp (by rw[r2];simp),r2];simp only[go_sem,d5,wE];exact dd (Wk.nls _ 2 3 (by simp only[go_sem])) [] (by first|rfl|simp only[go_sem]) rfl
    have d5:decide (((ah (d.drop a) 0).toNat:Int)=0\/jH ((ah (d.drop a) 0).toNat:Int)>last)=true:=aL (by omega);simp only[go_sem,d5,pq];refine aj (ac6 ((ah (d.drop a) 0).toNat:Int) x (by omega)) ?_;by_cases hp:(kh ((ah (d.drop a) 0).toNat:Int) x).1=0
    .have r2:ey (d.drop a) last=(0,(kh ((ah (d.drop a) 0).toNat:Int) x).2,(d.drop a).drop (tz (d.drop a)).2.1):=by
      rw[ey,au h12,au (by rw[he];simp),au hr,g1,je,au (by rw[hp];simp)]
     have hid:=(X8 (d:=d.drop a) (last:=last) (by rw[r2])).2.2.2.2.2;have hst:=U5 (last:=last) (acc:=acc) hdp (by rw[r2]);rw[r2]at hid hst;replace hid:(kh ((ah (d.drop a) 0).toNat:Int) x).2.id=((ah (d.drop a) 0).toNat:Int):=hid;have hmx:max last (jH (kh ((ah (d.drop a) 0).toNat:Int) x).2.id)=if((ah (d.drop a) 0).toNat:Int)=0 then last else jH ((ah (d.drop a) 0).toNat:Int):=by
      rw[hid];split
      .rename_i h0;rw[h0,Gx (by omega)];omega
      .omega
     have happ:=λys=>bX 900 69 3 acc.length km acc ys rfl;simp only[go_sem,bB hp,happ];refine⟨by omega,aE (a+(tz (d.drop a)).2.1,(if((ah (d.drop a) 0).toNat:Int)=0 then last else jH ((ah (d.drop a) 0).toNat:Int)),acc++[(kh ((ah (d.drop a) 0).toNat:Int) x).2]) ⟨?_,?_,?_,?_⟩ (show d.length-(a+(tz (d.drop a)).2.1)<d.length-a by omega) (Wk.of ?_ ?_)⟩
     .show a+(tz (d.drop a)).2.1<=d.length;omega
     .show(0:Int)<=(if((ah (d.drop a) 0).toNat:Int)=0 then last else jH ((ah (d.drop a) 0).toNat:Int));have:=(Ih ((ah (d.drop a) 0).toNat:Int)).1;split<;>omega
     .show(acc++[(kh ((ah (d.drop a) 0).toNat:Int) x).2]).length<=a+(tz (d.drop a)).2.1;rw[aJ,jI];omega
     .show MO (d.drop (a+(tz (d.drop a)).2.1)) (if((ah (d.drop a) 0).toNat:Int)=0 then last else jH ((ah (d.drop a) 0).toNat:Int)) (acc++[(kh ((ah (d.drop a) 0).toNat:Int) x).2])=_;rw[<-hmx,<-Ev,<-hst,hs]
     .simp only[go_sem,aJ,jI]
      try simp
     .simp only[go_sem,kr,eR,k9,he]
    .have r2:ey (d.drop a) last=((kh ((ah (d.drop a) 0).toNat:Int) x).1,default,[]):=by
      rw[ey,au h12,au (by rw[he];simp),au hr,g1,je,aF hp]
     rw[<-hs,Ci hdp (by rw[r2];exact hp),r2];simp only[go_sem,bv hp];exact dd (Wk.nls _ 2 3 (by simp only[go_sem])) [] (by first|rfl|simp only[go_sem]) rfl
   .have r2:ey (d.drop a) last=((tz (d.drop a)).2.2,default,[]):=by rw[ey,au h12,aF he]
    rw[<-hs,Ci hdp (by rw[r2];exact he),r2];simp only[go_sem,bv he];exact dd (Wk.nls _ 2 3 (by simp only[go_sem])) [] (by first|rfl|simp only[go_sem]) rfl
  .obtain rfl:a=d.length:=by omega
   have r2:MO (d.drop d.length) last acc=(0,acc):=by rw[List.drop_length];rfl
   rw[<-hs,r2];simp only[go_sem,aM (show ¬(d.length:Int)-(d.length:Int)>0 by omega)];refine aq [900] ?_ rfl;simp only[go_sem,bG,cU];rw[dQ (by simp)]
 .have r:Ec b=(4,[]):=by rw[Ec,au (by omega),aF (.inr h3)]
  have d3:(b.take 8==[0,97,115,109,1,0,0,0])=false:=by simpa[Gg]using h3
  rw[r];simp only[go_sem,fN,aM h1,aM h2,a1,uN,d3,wE];exact dd (Wk.nls _ 2 3 (by simp only[go_sem])) [] (by first|rfl|simp only[go_sem]) rfl
end
section
attribute[local go_sem] rx
end
section
def zk(o:Option (List UInt8)):nla (Lg o) (.sl 1 ((gb o).map dY)):=by
 cases o
 .exact .inr (.inl ⟨rfl,1,rfl⟩)
 .exact .inl rfl
def nJ(e:Int):nla (.agg [.nl,.int .i64 e]) (wx [] e):=.inr (.inr ⟨_,_,rfl,rfl,.inr ⟨rfl,1,rfl⟩,.inl rfl,trivial⟩)
def Gk{s:ig}{last:Int}(h:s.id<0\/s.id>12\/(s.id≠0/\s.name≠[])):JM s last=4:=by rw[JM,aF h]
def ZE{s:ig}{last:Int}(h:1<=s.id/\s.id<=12)(hn:s.name=[])(hp:jH s.id<=last):JM s last=7:=by
 rw[JM,au (by rw[hn];simp;omega),aF ⟨by omega,hp⟩]
def S7{s:ig}{last:Int}(h:1<=s.id/\s.id<=12)(hn:s.name=[])(hp:¬jH s.id<=last):JM s last=0:=by
 rw[JM,au (by rw[hn];simp;omega),au (λh=>hp h.2),au (by omega)]
def ZD{s:ig}{last:Int}(h:s.id=0):JM s last=(wN true [] 0 s.name).2/\((wN true [] 0 s.name).2=0->(wN true [] 0 s.name).1=ay s.name.length++s.name):=by
 rw[JM,au (by rw[h];simp),au (λh2=>h2.1 h),aF h];unfold wN;simp only[br];split
 .exact⟨rfl,λh=>absurd h (by decide)⟩
 split
 .exact⟨rfl,λh=>absurd h (by decide)⟩
 .exact⟨rfl,λ_=>by simp⟩
def NO{l:List ig}{i:Nat}{last:Int}{w:List UInt8}(hi:i<l.length)(h:JM (ah l i) last≠0):S6 (l.drop i) last w=(JM (ah l i) last,[]):=by
 rw[vH hi,S6,aF h]
def y_{l:List ig}{i:Nat}{last:Int}{w:List UInt8}(hi:i<l.length)(h:JM (ah l i) last=0):S6 (l.drop i) last w=S6 (l.drop (i+1)) (max last (jH (ah l i).id)) (w++lV (ah l i)):=by
 rw[vH hi,S6,au (by rw[h];simp)]
def NK(s:ig):(vN s).length<=(gb s.bs).length+s.name.length+(ay s.name.length).length:=by
 unfold vN;split
 .simp only[aJ];omega
 .omega
attribute[local go_sem] wx
end
section
attribute[local go_sem] wo wa
end
def nrm(s:ig):ig:=⟨s.id,s.name,some (gb s.bs)⟩
def nU(cs:List Cu)(p:Int):List Cu:=cs.filter λc=>c.af==p
def Jm(m:Md)(p:Int):List ig:=(nU m.cs p).map λc=>⟨0,c.n,some c.b⟩
def zn(m:Md):List Int->List ig
 | []=>[]
 | p::l=>⟨Bv p,[],some (dF m p)⟩::(Jm m p++zn m l)
def P4(m:Md):List ig:=Jm m 0++zn m (qt m)
def Aj(l:List ig):Int×List UInt8:=if(S8 l).1=0/\(S8 l).2.length>262144 then(6,[])else S8 l
def H3(m:Md):Bool:=m.fs.all (λx=>(nchk x.b).2==0)&&m.gs.all (λx=>(nchk x.i).2==0)&&m.els.all (λx=>(x.mo != 0||(nchk x.o).2==0)&&x.it.all λl=>(nchk l).2==0)&&m.ds.all (λx=>x.mo != 0||(nchk x.o).2==0)
def xZ(ps:List Int):Int->List Cu->Bool
 | _,[]=>true
 | l,c::r=>!(decide (c.af<l) || !(decide (c.af=0\/c.af∈ps)))&&xZ ps c.af r
def Ig(m:Md):Bool:=xZ (qt m) 0 m.cs
def gq(m:Md):Int×List UInt8 :=
 if(sc AA m).c≠0 then((sc AA m).c,[])else if H3 m=false then(16,[])else if Ig m=false then(7,[])else Aj (P4 m)
def I2:Md:=⟨[],[],[],[],[],[],[],false,0,[],[],[]⟩
def IZ:Dc:=⟨I2,0,0,-1⟩
structure Kq(m:Md):Prop where
 lim:okM AA m
 nes:H3 m=true
 ord:Ig m=true
 num:(∀x∈m.fs,Fp x.b)/\(∀x∈m.gs,Fp x.i)/\(∀x∈m.els,Fp x.o/\∀l∈x.it,Fp l)/\∀x∈m.ds,Fp x.o
def rn{l:List bj}(h:((nchk l).2==0)=true):Bf l:=(PT l).1 (by simpa using h)
def XM{m:Md}(h:H3 m=true):(∀x∈m.fs,Bf x.b)/\(∀x∈m.gs,Bf x.i)/\(∀x∈m.els,(x.mo=0->Bf x.o)/\∀l∈x.it,Bf l)/\∀x∈m.ds,x.mo=0->Bf x.o:=by
 unfold H3 at h;simp only[cE,fz]at h;obtain⟨⟨⟨h1,h2⟩,h3⟩,h4⟩:=h;refine⟨λx hx=>rn (h1 x hx),λx hx=>rn (h2 x hx),λx hx=>⟨λq=>?_,λl hl=>rn ((h3 x hx).2 l hl)⟩,λx hx q=>?_⟩
 .have:=(h3 x hx).1;rw[q]at this;exact rn (by simpa using this)
 .have:=h4 x hx;rw[q]at this;exact rn (by simpa using this)
def oX:∀(l:List bj),Mb l->(et l).length<=400*l.length
 | [],_=>bG _
 | x::l,h=>by
  have h1:=oX l λy hy=>h y (by simp[hy]);obtain⟨g1,g2,_⟩:=h x (by simp);have:=R2 g1 (by omega);rw[LC,aJ,aT];omega
def qX{α:Type}{f:α->List UInt8}{n:Nat}:∀(l:List α),(∀x∈l,(f x).length<=n)->(l.flatMap f).length<=n*l.length
 | [],_=>bG _
 | x::l,h=>by
  have h1:=qX l λy hy=>h y (by simp[hy]);have:=h x (by simp);rw[wG,aJ,aT,Nat.mul_add];omega
def Aa{x:Cd}(h1:x.lo.length<=64)(h4:Mb x.b)(h5:x.b.length<=2048):(jX x).length<=1000000:=by
 have h2:=oX x.b h4;have h3:=zu x.lo.length x.lo
 have h6:=qX (f:=kP) (n:=11) (gD x.lo) (λp hp=>by
  have hp2:=rA (k:=9) (n:=p.1) (by
   have:p.1<=(Pi (gD x.lo)).length:=by
    unfold Pi;obtain⟨l1,l2,e⟩:=List.append_of_mem hp;rw[e];simp only[vz,wG,aJ,List.length_replicate];omega
   unfold gD at this;rw[Ae _ _ (bG _)]at this;omega)
  unfold kP fh;rw[aJ,jI];omega)
 have h7:=bA (n:=(gD x.lo).length) (by unfold gD;omega);have h8:(gD x.lo).length<=64:=by unfold gD;omega
 unfold jX Jq aQ;simp only[aJ];omega
def DK{m:Md}(h:Kq m):∀x∈m.fs,x.lo.length<=64/\(∀t∈x.lo,jK t=true)/\Bf x.b/\Mb x.b/\x.b.length<=2048/\nX x.t=true:=λx hx=>by
 obtain⟨a1,a2,a3⟩:=ae0 (h.lim.fs.2 x hx);obtain⟨j1,j2⟩:=rz (h.lim.bo x hx) (h.num.1 x hx);exact⟨a2,a3,(XM h.nes).1 x hx,j1,j2,a1⟩
section
def gg(l:List Int):List AV:=[.sl 1 (l.map oE)]
def ahV(l:List Int):gg l=[.sl 1 (l.map oE)]:=rfl
attribute[local go_sem] cU ahV wo wa cL dm aS
def Hv(l:List Int)(h1:l.length<=8)(h2:∀t∈l,jK t=true):ac pg C9 [.sl 1 (l.map oE)] (.int .i64 0):=by
 refine aD tY ?_;simp only[go_sem,tY,aM (show ¬(l.length:Int)>8 by omega)];refine an (λi:Nat=>⟨[(10,.int .i64 i),(9,.int .i64 l.length),(8,.sl 1 (l.map oE))],[]⟩) (λi=>i<=l.length) (λi=>l.length-i) 0 (cQ _) (Wk.of ?_ ?_) ?_
 .simp only[go_sem];try simp
 .simp only[go_sem]
 intro i hi2;by_cases h3:(i:Int)<(l.length:Int);rotate_left
 .simp only[go_sem,aM h3];exact az
 have hi':i<l.length:=by omega
 have e8:=dv hi' (by omega);have c:=NX (ah l i);rw[bN h2 hi']at c;simp only[go_sem,aL h3];refine⟨by omega,h3,?_⟩;refine aa (c) ?_;refine aE (i+1) (show i+1<=l.length by omega) (show l.length-(i+1)<l.length-i by omega) (Wk.of ?_ ?_)
 .simp only[go_sem,e8];try simp
 .simp only[go_sem]
def ahe{x:Ft}(h:A3 x=0):WX j7 [.agg (vK x)] (pX x):=by
 intro w hw;obtain⟨h1,h2,h3,h4⟩:=Sf h;refine bT pO ?_;have c1:=Hv x.ps h1 h3;have c2:=Hv x.rs h2 h4;obtain⟨L,hL⟩:∃L,[x.ps,x.rs]=L:=⟨_,rfl⟩
 have g1:∀l∈L,l.length<=8/\∀t∈l,jK t=true:=λl hl=>by
  subst hL;simp only[eA,wH,or_false]at hl;rcases hl with rfl|rfl
  .exact⟨h1,h3⟩
  .exact⟨h2,h4⟩
 have gl:L.length=2:=by rw[<-hL];rfl
 have ge:(96::(aQ fh x.ps++aQ fh x.rs):List UInt8)=[96]++L.flatMap (aQ fh):=by rw[<-hL];simp
 have gs:(L.flatMap (aQ fh)).length<=200:=by
  refine jq (qX (n:=100) L λl hl=>?_) (by omega);have:=(g1 l hl).1;have h5:=bA (n:=l.length) (by omega);have h6:=qX (f:=fh) (n:=1) l λ_ _=>bG _;unfold aQ;rw[aJ];omega
 rw[show pX x=[96]++L.flatMap (aQ fh) from ge]at hw⊢;simp only[aJ,aT,aC]at hw;simp only[go_sem,pO,du];refine an (λi:Nat=>⟨[(19,.int .i64 i),(18,.int .i64 L.length),(17,.sl 1 (L.map gg)),(4,.sl 1 (L.map gg)),(0,.mp 1000 3 0 0)],[(1000,wo 2000 true w 0),(2000,wa w)]⟩) (λi=>i<=L.length) (λi=>L.length-i) 0 (cQ _) ((Wk.frzs [16] _).trans (Wk.of ?_ ?_)) ?_
 .subst hL;simp only[go_sem];try simp
 .simp only[go_sem]
 intro i hi2;by_cases q1:(i:Int)<(L.length:Int)
 .have hi':i<L.length:=by omega
  have e8:=dv hi' (by omega);have c:=Hv (ah L i) (bN g1 hi').1 (bN g1 hi').2;simp only[go_sem,aL q1];refine⟨by omega,q1,?_⟩;refine aa (c) ?_;refine aE (i+1) (show i+1<=L.length by omega) (show L.length-(i+1)<L.length-i by omega) (Wk.of ?_ ?_)
  .simp only[go_sem,e8];try simp
  .simp only[go_sem]
 simp only[go_sem,aM q1];refine aK (Vy 96) rfl ?_;simp only[go_sem];obtain⟨V,hV⟩:∃V:Nat->List UInt8,∀i,V i=w++([96]++(L.take i).flatMap (aQ fh)):=⟨_,λ_=>rfl⟩
 have hV0:w++[96]=V 0:=by rw[hV];simp
 refine an (λi:Nat=>⟨[(35,.int .i64 i),(34,.int .i64 L.length),(33,.sl 1 (L.map gg)),(0,.mp 1000 3 0 0)],[(1000,wo 2000 true (V i) 0),(2000,wa (V i))]⟩) (λi=>i<=L.length) (λi=>L.length-i) 0 (cQ _) (Wk.of ?_ ?_) ?_
 .simp only[go_sem];try simp
 .simp only[go_sem,hV0];try simp[go_sem]
 intro i hi2;by_cases q2:(i:Int)<(L.length:Int);rotate_left
 .obtain rfl:i=L.length:=by omega
  simp only[go_sem,aM q2];exact db (λ_ h=>by cases h) rfl (by rfl) (by rfl) (by rw[hV,eV];rfl)
 have hi':i<L.length:=by omega
 have e8:=dv hi' (by omega);have ht:=vJ (f:=aQ fh) hi';obtain⟨b1,b2⟩:=bN g1 hi';have he:V (i+1)=V i++(ay (ah L i).length++(ah L i).flatMap fh):=by rw[hV,hV,r7 hi'];simp[aQ]
 have hvl:=congrArg List.length (hV i);simp only[aJ,aT,aC]at hvl;generalize hv:V i=v at*;generalize hl:ah L i=l at*;have hcl:(aQ fh l).length=(ay l.length).length+(l.flatMap fh).length:=by unfold aQ;rw[aJ]
 simp only[go_sem,aL q2,hl];refine⟨by omega,q2,?_⟩;refine aK (Vk l.length (by omega)) rfl ?_;simp only[go_sem];refine an (λj:Nat=>⟨[(45,.int .i64 j),(44,.int .i64 l.length),(43,.sl 1 (l.map oE)),(35,.int .i64 i),(34,.int .i64 L.length),(33,.sl 1 (L.map gg)),(0,.mp 1000 3 0 0)],[(1000,wo 2000 true (v++(ay l.length++(l.take j).flatMap fh)) 0),(2000,wa (v++(ay l.length++(l.take j).flatMap fh)))]⟩) (λj=>j<=l.length) (λj=>l.length-j) 0 (cQ _) (Wk.of ?_ ?_) ?_
 .simp only[go_sem];try simp
 .simp only[go_sem,mA,List.flatMap_nil,gh];try simp[go_sem]
 intro j hj2;by_cases q3:(j:Int)<(l.length:Int);rotate_left
 .obtain rfl:j=l.length:=by omega
  simp only[go_sem,aM q3];refine aE (i+1) (show i+1<=L.length by omega) (show L.length-(i+1)<L.length-i by omega) (Wk.of ?_ ?_)
  .simp only[go_sem,e8];try simp
  .simp only[go_sem,he,eV];try simp[go_sem,wo,wa]
 have hj':j<l.length:=by omega
 have e9:=dv hj' (by omega);have ht2:=vJ (f:=fh) hj';simp only[go_sem,aL q3];refine⟨by omega,q3,?_⟩;refine aK (GN (bN b2 hj')) rfl ?_;simp only[go_sem];refine aE (j+1) (show j+1<=l.length by omega) (show l.length-(j+1)<l.length-j by omega) (Wk.of ?_ ?_)
 .simp only[go_sem,e9];try simp
 .simp only[go_sem,r7 hj'];try simp[go_sem,wo,wa]
end
section
def T9{x:bj}(h:PL x=true)(hb:x.lb.length<=64)(l:List UInt8):py x l 0=(l++Ab x,0):=by
 unfold py;rw[aF h,au (by omega)];rfl
def ahi{x:bj}(h:PL x=true)(hb:x.lb.length<=64)(hn:0<=x.n):WX xq [di x] (Ab x):=λl hl=>by
 have c:=agL (l:=l) (e:=0) (by have:=Jp x;omega) x hn (by omega);rw[T9 h hb]at c;exact c
attribute[local go_sem] cU wo wa cL dm aS
def K6{L:List bj}(ho:Mb L)(hl:L.length<=9223372036854775807):WX An [.sl 9 (L.map aS)] (et L):=by
 intro w hw;unfold et at hw⊢;refine bT qD ?_;simp only[go_sem,qD];refine an (λi:Nat=>⟨[(8,.int .i64 i),(7,.int .i64 L.length),(6,.sl 9 (L.map aS)),(0,.mp 1000 3 0 0)],[(1000,wo 2000 true (w++(L.take i).flatMap Ab) 0),(2000,wa (w++(L.take i).flatMap Ab))]⟩) (λi=>i<=L.length) (λi=>L.length-i) 0 (cQ _) (Wk.of ?_ ?_) ?_
 .simp only[go_sem];try simp
 .simp only[go_sem,mA,List.flatMap_nil,gh];try simp[go_sem]
 intro i hi2;by_cases h1:(i:Int)<(L.length:Int);rotate_left
 .obtain rfl:i=L.length:=by omega
  simp only[go_sem,aM h1];rw[eV];exact db (λ_ h=>by cases h) rfl (by rfl) (by rfl) (by simp[])
 have hi':i<L.length:=by omega
 have e8:=dv hi' (by omega);have ht:=vJ (f:=Ab) hi';obtain⟨b1,b2,b3,b4⟩:=bN ho hi';have c:=ahi b1 b2 b3;simp only[cL]at c;simp only[go_sem,aL h1];refine⟨by omega,h1,?_⟩;refine aK (c) rfl ?_;simp only[go_sem];refine aE (i+1) (show i+1<=L.length by omega) (show L.length-(i+1)<L.length-i by omega) (Wk.of ?_ ?_)
 .simp only[go_sem,e8];try simp
 .simp only[go_sem,r7 hi'];try simp[go_sem,wo,wa]
def OI{k:Int}(h:0<=k/\k<=3):IntKind.u8.wrap k=(((UInt8.ofNat k.toNat).toNat:Nat):Int):=by
 rw[vy,UInt8.toNat_ofNat'];omega
def ahf{x:Im}(h:ED x=0):WX gT [.agg (vM x)] (pY x):=by
 intro l hl;obtain⟨h1,h2,h3,_,h5,h6,h7,h8⟩:=SJ h;refine bT dt ?_;have cb:=Vy (UInt8.ofNat x.k.toNat);rw[<-OI h3]at cb;unfold pY at hl⊢;rcases(show x.k=0\/x.k=1\/x.k=2\/x.k=3 by omega)with q|q|q|q
 .rw[q]at hl cb⊢;simp only[aJ,aT,aC,br]at hl⊢;simp only[go_sem,dt,cP,q];refine aK (sw h1) rfl ?_;simp only[go_sem];refine aK (sw h2) rfl ?_;simp only[go_sem];refine aK (cb) rfl ?_;simp only[go_sem];refine aK (Vz (dO.1 (h5 q))) rfl ?_;simp only[go_sem];exact db (λ_ h=>by cases h) rfl (by rfl) (by rfl) (by simp[])
 .rw[q]at hl cb⊢;simp only[aJ,aT,aC,Int.reduceEq,br,cD]at hl⊢;have c:=aaj (h6 q);rw[df]at c;simp only[go_sem,dt,cP,q];refine aK (sw h1) rfl ?_;simp only[go_sem];refine aK (sw h2) rfl ?_;simp only[go_sem];refine aK (cb) rfl ?_;simp only[go_sem];refine aK (c) rfl ?_;simp only[go_sem];exact db (λ_ h=>by cases h) rfl (by rfl) (by rfl) (by simp[])
 .rw[q]at hl cb⊢;simp only[aJ,aT,aC,Int.reduceEq,br,cD]at hl⊢;have c:=Vl (Gp (h7 q));rw[cC]at c;simp only[go_sem,dt,cP,q];refine aK (sw h1) rfl ?_;simp only[go_sem];refine aK (sw h2) rfl ?_;simp only[go_sem];refine aK (cb) rfl ?_;simp only[go_sem];refine aK (c) rfl ?_;simp only[go_sem];exact db (λ_ h=>by cases h) rfl (by rfl) (by rfl) (by simp[])
 .rw[q]at hl cb⊢;simp only[aJ,aT,aC,Int.reduceEq,br,cD]at hl⊢;have c:=aai (ZA (h8 q));simp only[Hm]at c;simp only[go_sem,dt,cP,q];refine aK (sw h1) rfl ?_;simp only[go_sem];refine aK (sw h2) rfl ?_;simp only[go_sem];refine aK (cb) rfl ?_;simp only[go_sem];refine aK (c) rfl ?_;simp only[go_sem];exact db (λ_ h=>by cases h) rfl (by rfl) (by rfl) (by simp[])
def ahl{x:Cd}(h:nX x.t=true):WX fo [.agg (qB x)] (ay x.t.toNat):=by
 intro l hl;refine bT jr ?_;simp only[go_sem,jr,cK];refine aK (Vz (dO.1 h)) rfl ?_;simp only[go_sem];exact db (λ_ h=>by cases h) rfl (by rfl) (by rfl) (by simp[])
def adT{x:Gd}(h1:jK x.g.v=true)(h2:Mb x.i)(h3:x.i.length<=2048):WX fp [.agg (zX x)] (qU x):=by
 intro l hl;refine bT js ?_;have c:=aai h1;simp only[Hm]at c;unfold qU at hl⊢;rw[aJ]at hl;simp only[go_sem,js,s8];refine aK (c) rfl ?_;simp only[go_sem];refine aK (K6 h2 (by omega)) rfl ?_;simp only[go_sem];exact db (λ_ h=>by cases h) rfl (by rfl) (by rfl) (by simp[])
def ahd{x:Ex}(h:Hf x=0):WX fq [.agg (y6 x)] (qT x):=by
 intro l hl;obtain⟨h1,h2,h3⟩:=R7 h;refine bT jt ?_;have cb:=Vy (UInt8.ofNat x.k.toNat);rw[<-OI h2]at cb;unfold qT at hl⊢;simp only[aJ,aT,aC]at hl;simp only[go_sem,jt,fU];refine aK (sw h1) rfl ?_;simp only[go_sem];refine aK (cb) rfl ?_;simp only[go_sem];refine aK (Vz (dO.1 h3)) rfl ?_;simp only[go_sem];exact db (λ_ h=>by cases h) rfl (by rfl) (by rfl) (by simp[])
def adR{x:Da}(h:Kp AA x)(hn:Fp x.o):WX jm [.agg (nz x)] (pV x):=by
 intro l hl;obtain⟨h4,h5,h6,h7⟩:=RY h;obtain⟨j1,j2⟩:=rz h7 hn;have hr:=dO.1 h5;refine bT fD ?_;have cu:=Vk x.b.length (by omega);have cb:=aja x.b;have ca:=K6 j1 (by omega);have x0:WX bH [.int .i64 0] (ay 0):=Vk 0 (by decide);have x1:WX bH [.int .i64 1] (ay 1):=Vk 1 (by decide);have x2:WX bH [.int .i64 2] (ay 2):=Vk 2 (by decide);unfold pV at hl⊢;rcases h4 with q|⟨q,q2,q3⟩
 .by_cases q2:x.me=0
  .rw[au (by omega),aF q2]at hl⊢;simp only[aJ]at hl;simp only[go_sem,fD,ef,q,q2];refine aK (x0) rfl ?_;simp only[go_sem];refine aK (ca) rfl ?_;simp only[go_sem];refine aK (cu) rfl ?_;simp only[go_sem];refine aK (cb) rfl ?_;simp only[go_sem];exact db (λ_ h=>by cases h) rfl (by rfl) (by rfl) (by simp[])
  .rw[au (by omega),au q2]at hl⊢;simp only[aJ]at hl;simp only[go_sem,fD,ef,q,aw q2];refine aK (x2) rfl ?_;simp only[go_sem];refine aK (Vz hr) rfl ?_;simp only[go_sem];refine aK (ca) rfl ?_;simp only[go_sem];refine aK (cu) rfl ?_;simp only[go_sem];refine aK (cb) rfl ?_;simp only[go_sem];exact db (λ_ h=>by cases h) rfl (by rfl) (by rfl) (by simp[])
 .rw[aF q]at hl⊢;simp only[aJ]at hl;simp only[go_sem,fD,ef,q];refine aK (x1) rfl ?_;simp only[go_sem];refine aK (cu) rfl ?_;simp only[go_sem];refine aK (cb) rfl ?_;simp only[go_sem];exact db (λ_ h=>by cases h) rfl (by rfl) (by rfl) (by simp[])
