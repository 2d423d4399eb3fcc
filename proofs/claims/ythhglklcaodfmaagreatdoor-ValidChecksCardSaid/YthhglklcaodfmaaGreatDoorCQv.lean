import Derived.Test.YthhglklcaodfmaaGreatDoorCQu
set_option linter.all false
set_option maxRecDepth 100000
set_option maxHeartbeats 40000000
namespace Go.Proofs.YthhglklcaodfmaaGreatDoor
section
open Go Go.Mw
def NZ(b:Bk):Int:=if b.ot=true then 5 else if b.k=0 then 11 else b.k
def AB(p:Bk×Bool):List AV:=[.int .i64 (NZ p.1),.sl 1 (p.1.t.ps.map aS),.sl 1 (p.1.t.rs.map aS),.bool p.2,.bool p.1.lv]
def fC(p:Bk×Bool):AB p=[.int .i64 (NZ p.1),.sl 1 (p.1.t.ps.map aS),.sl 1 (p.1.t.rs.map aS),.bool p.2,.bool p.1.lv]:=rfl
def oA:List Bk->Bool->List (Bk×Bool)
 | [],_=>[]
 | [b],l=>[(b,l)]
 | b::c::r,l=>(b,c.lv)::oA (c::r) l
def lV:∀(l:List Bk)(b:Bk)(v:Bool),oA (l++[b]) v=oA l b.lv++[(b,v)]
 | [],b,v=>rfl
 | [x],b,v=>rfl
 | x::y::r,b,v=>by
  show(x,y.lv)::oA ((y::r)++[b]) v=_;rw[lV (y::r) b v];rfl
def iA:∀(l:List Bk)(v:Bool),(oA l v).length=l.length
 | [],_=>rfl
 | [x],_=>rfl
 | x::y::r,v=>by
  show(oA (y::r) v).length+1=_;rw[iA (y::r) v];rfl
def ou(C:Ct)(mo:Int):List AV:=[.sl 1 (C.s.all.map aS),.sl 1 ((yC C.s).map aS),.sl 1 ((vP C.s).map rt),.int .i64 mo,.sl 5 ((oA C.bs C.lv).map AB),.sl 1 (C.rs.map aS),.int .i64 C.br]
def cN(C:Ct)(mo:Int):ou C mo=[.sl 1 (C.s.all.map aS),.sl 1 ((yC C.s).map aS),.sl 1 ((vP C.s).map rt),.int .i64 mo,.sl 5 ((oA C.bs C.lv).map AB),.sl 1 (C.rs.map aS),.int .i64 C.br]:=rfl
def CO{C:Ct}(h:C.bs.length≠0):∃l b,C.bs=l++[b]/\C.top=b/\C.bs.dropLast=l:=by
 have hne:C.bs≠[]:=λq=>h (by rw[q];rfl);refine⟨C.bs.dropLast,C.bs.getLast hne,(List.dropLast_concat_getLast hne).symm,?_,rfl⟩;unfold Ct.top;rw[aY (by omega),List.getLast_eq_getElem]
attribute[local go_sem] bY cN fC fg aW
def rG(C:Ct)(mo:Int)(h:C.bs.length≠0)(h2:C.bs.length<1000000):aj pg Lq [.agg (ou C mo)] (.agg (AB (C.top,C.lv))):=by
 refine ao BJ ?_;obtain⟨l,b,e1,e2,e3⟩:=CO h;have hl:C.bs.length=l.length+1:=by rw[e1,dN];rfl
 have hf:(oA C.bs C.lv).length=l.length+1:=by rw[iA,hl]
 have hn:av (oA C.bs C.lv) l.length=(C.top,C.lv):=by rw[e1,lV,e2];exact iX _ _ (iA _ _).symm
 have hw:=wr1 (n:=l.length) (by omega);simp only[go_sem,BJ,hf,hw,cL,hn];refine⟨by omega,by omega,?_⟩;exact ah
def WF(C:Ct)(mo:Int)(hb:C.br=0)(h2:C.bs.length<1000000):aj pg I8 [.agg (ou C mo)] (.bool (C.bs.length==0||C.lv)):=by
 refine ao qQ ?_;have hf:=iA C.bs C.lv;by_cases q:C.bs.length=0
 .simp only[go_sem,qQ,hb,beq_self_eq_true,hf,q,show(((0:Nat):Int)==0)=true from rfl];exact ah
 have ct:=rG C mo q h2;simp only[cN,fC]at ct;rw[hb]at ct;rw[show(C.bs.length==0)=false from by simpa using q,jW];simp only[go_sem,qQ,hb,beq_self_eq_true,hf,show((C.bs.length:Int)==0)=false from ac (by omega)];refine aa (ct) ?_;exact ah
def oc(C:Ct)(mo e:Int):aj pg Ez [.agg (ou C mo),.int .i64 e] (.tup [.agg (ou (C.broke e).2 mo),.int .i64 e]):=by
 refine ao ue ?_;simp only[go_sem,ue,Ct.broke];exact ah
def WR(C:Ct)(mo:Int)(h:C.bs.length≠0)(h2:C.bs.length<1000000)(b':Bk)(v:Bool)(hv:b'.lv=C.top.lv):aj pg I9 [.agg (ou C mo),.agg (AB (b',v))] (.agg (ou {C with bs:=C.bs.dropLast++[b'],lv:=v} mo)):=by
 refine ao yW ?_;obtain⟨l,b,e1,e2,e3⟩:=CO h;have hl:C.bs.length=l.length+1:=by rw[e1,dN];rfl
 have hf:(oA C.bs C.lv).length=l.length+1:=by rw[iA,hl]
 have hw:=wr1 (n:=l.length) (by omega);have ht:(oA C.bs C.lv).take l.length=oA l b.lv:=by rw[e1,lV,List.take_left' (iA _ _)]
 have hnew:oA (C.bs.dropLast++[b']) v=oA l b.lv++[(b',v)]:=by rw[e3,lV,hv,e2]
 have hfl:(oA l b.lv).length=l.length:=iA _ _;have a1:=H7 6 284 5 AB (oA l b.lv) (by omega) (by decide);have a2:=YQ 6 284 5 AB (oA l b.lv) (AB (b',v)) (by omega) (by decide);rw[hfl]at a1 a2;have tk:=JU AB (oA l b.lv) (AB (b',v));rw[hfl]at tk;simp only[fC]at a2 tk;simp only[go_sem,yW,hf,hw,cL,ht,hfl,a1,a2];refine⟨⟨by omega,by omega⟩,?_⟩;exact aq [6] (by simp only[go_sem,fo,aQ,dk,dN,i9,eG,hfl,tk,hnew,dY,cM,eA]) (by rfl)
def Wz(rs:List Int):aj pg Lp [.sl 1 (rs.map aS)] (.agg (ou (BY rs) 0)):=by
 refine ao BI ?_;have c1:=ajn;have c2:=EW ⟨⟨[],false⟩,[],false⟩ 0 (by decide) (by decide);simp only[dh]at c1 c2;simp only[go_sem,BI];refine ax c1 (by simp[go_sem]) rfl ?_;simp only[go_sem];refine ax c2 (by simp[go_sem]) rfl ?_;simp only[go_sem];refine dB (Wk.nlr1 _ 10 (r:=[.int .i64 11,.nl,.sl 1 (rs.map aS),.bool true,.bool true]) (r':=[.int .i64 11,.sl 1 [],.sl 1 (rs.map aS),.bool true,.bool true]) (by rfl) ⟨.inl rfl,.inr ⟨rfl,1,rfl⟩,.inl rfl,.inl rfl,.inl rfl,trivial⟩) [10] (by simp only[go_sem,aQ,fo,List.take_succ_cons,jK];rfl) rfl
def oT(S:Sk)(mo:Int):Prop:=S.ov=decide (mo>256)
def rz{S:Sk}{mo:Int}(l:List Int)(h:oT S mo):oT (S.push l) (D_ mo (S.all.length+l.length)):=by
 unfold oT at h⊢;rw[JA,h];unfold D_;rw[xJ];simp only[Az,ol];split<;>omega
def Aa{S:Sk}{l:List Int}(h:(S.want l).1≠0):(S.want l).2=S:=by
 rw[yy]at h⊢;generalize dP S.t.lo S.t.l.reverse l.reverse=R at h⊢;obtain⟨o,e⟩:=R;cases o with
 | none=>rfl
 | some r=>exact absurd rfl h
def nw(S:Sk)(l:List Int):(S.want l).2.ov=S.ov:=by
 rw[yy];generalize dP S.t.lo S.t.l.reverse l.reverse=R;obtain⟨o,e⟩:=R;cases o<;>rfl
def moR(r:Int×Ct)(mo:Int):Int:=if r.1=0 then D_ mo r.2.s.all.length else mo
def VW{r:Int×Ct}{mo:Int}(h:r.1=0):moR r mo=D_ mo r.2.s.all.length:=az h
def aiV{r:Int×Ct}{mo:Int}(h:r.1≠0):moR r mo=mo:=an h
def TR(r:Int×Ct)(mo:Int):AV:=.tup [.agg (ou r.2 (moR r mo)),.int .i64 r.1]
def oL(e:Int)(C:Ct)(mo:Int)(h:e≠0):TR (e,C) mo = .tup [.agg (ou C mo),.int .i64 e]:=by unfold TR;rw[aiV h]
def BV(C:Ct)(mo:Int):TR (0,C) mo = .tup [.agg (ou C (D_ mo C.s.all.length)),.int .i64 0]:=by unfold TR;rw[VW rfl]
def abf(C:Ct)(mo op:Int)(t:Ft)(hbr:C.br=0)(h:xC 800000 C)(ht:t.ps.length<=1000/\t.rs.length<=1000):aj pg xr [.agg (ou C mo),.int .i64 op,.agg (pt t)] (TR (C.enter op t) mo):=by
 refine ao eV ?_;have hu:=h.u;have hl:=h.l;have hb:=h.b;obtain⟨ht1,ht2⟩:=ht;have hfl:=iA C.bs C.lv;generalize hr:C.enter op t=r;unfold Ct.enter at hr;rw[an (λq=>q hbr)]at hr;by_cases q:op≠2/\op≠3/\op≠4
 .rw[az q]at hr;obtain⟨q1,q2,q3⟩:=q;rw[<-hr,oL _ _ _ (by decide)];simp only[go_sem,eV,ay hbr,aE q1,aE q2,aE q3];exact aq [] (by simp only[go_sem];try rfl) (by rfl)
 rw[an q]at hr;by_cases h0:C.bs.length=0
 .rw[az h0]at hr;rw[<-hr,oL _ _ _ (by decide)];by_cases q1:op=2
  .simp only[go_sem,eV,ay hbr,ay q1,hfl,h0,show(((0:Nat):Int)==0)=true from rfl];exact aq [] (by simp only[go_sem];try rfl) (by rfl)
  by_cases q2:op=3
  .simp only[go_sem,eV,ay hbr,aE q1,ay q2,hfl,h0,show(((0:Nat):Int)==0)=true from rfl];exact aq [] (by simp only[go_sem];try rfl) (by rfl)
  have q3:op=4:=by omega
  simp only[go_sem,eV,ay hbr,aE q1,aE q2,ay q3,hfl,h0,show(((0:Nat):Int)==0)=true from rfl];exact aq [] (by simp only[go_sem];try rfl) (by rfl)
 rw[an h0]at hr;have n0:((C.bs.length:Int)==0)=false:=ac (by omega);by_cases q4:op=4;rotate_left
 .rw[an q4]at hr;unfold Ct.enter2 at hr;obtain⟨T,hT⟩:∃T,C.s=T:=⟨_,rfl⟩
  have hC:({C with s:=T}:Ct)=C:=by rw[<-hT]
  have cw2:=yq T mo t.ps (by rw[<-hT];omega) (by rw[<-hT];omega) (by omega);rw[hT]at hr hu hl;simp only[dh]at cw2;by_cases q1:op=2
  .simp only[go_sem,eV,ay hbr,ay q1,hfl,n0,ac q4,hT];refine cI cw2 (by simp[go_sem]) ?_;by_cases z2:(T.want t.ps).1=0;rotate_left
   .have e2:(T.want t.ps).2=T:=Aa z2;have cb:=oc {C with s:=T} mo (T.want t.ps).1;rw[az z2,e2]at hr;rw[<-hr,show({C with s:=T}:Ct).broke (T.want t.ps).1=((T.want t.ps).1,(({C with s:=T}:Ct).broke (T.want t.ps).1).2) from rfl,oL _ _ _ z2];simp only[cN,Ct.broke]at cb⊢;rw[e2];simp only[go_sem,aE z2];refine aa (cb) ?_;exact ah
   rw[an (λz=>z z2)]at hr;obtain⟨w1,w2⟩:=ez T t.ps;have hwo:=nw T t.ps;generalize (T.want t.ps).2=U at hr w1 w2 hwo⊢;have co:=EW U mo (by rw[w1];omega) (by omega);have cp:=pG U.opn mo t.ps (by rw[oS];omega) (by omega);have ctp:=rG {C with s:=(U.opn.push t.ps)} (D_ mo (U.opn.all.length+t.ps.length)) h0 (by show C.bs.length<_;omega);have hpl:(U.opn.push t.ps).all.length=U.opn.all.length+t.ps.length:=by rw[dW,dN]
   have hfr:oA (C.bs++[⟨op,t,false,C.lv⟩]) C.lv=oA C.bs C.lv++[(⟨op,t,false,C.lv⟩,C.lv)]:=lV _ _ _;rw[<-hr,BV];simp only[Ct.begin,cN,hfr,hpl];simp only[cN,dh,fC]at co cp ctp;have hopr:NZ ⟨op,t,false,C.lv⟩=op:=by unfold NZ;rw[an (λz=>by cases z),an (by show ¬op=0;omega)]
   have a1:=H7 77 284 5 AB (oA C.bs C.lv) (by omega) (by decide);have a2:=YQ 77 284 5 AB (oA C.bs C.lv) (AB (⟨op,t,false,C.lv⟩,C.lv)) (by omega) (by decide);have tk:=JU AB (oA C.bs C.lv) (AB (⟨op,t,false,C.lv⟩,C.lv));rw[hfl]at a1 a2 tk;simp only[fC,hopr]at a2 tk;simp only[go_sem,z2];refine ax co (by simp[go_sem]) rfl ?_;simp only[go_sem];refine cI cp (by simp[go_sem]) ?_;simp only[go_sem];refine cI ctp (by simp[go_sem]) ?_;simp only[go_sem,a1,a2];exact aq [77] (by simp only[go_sem,fo,aQ,dk,dN,i9,eG,hfl,hopr,tk,dY,cM,eA]) (by rfl)
  have q2:op=3:=by omega
  simp only[go_sem,eV,ay hbr,aE q1,ay q2,hfl,n0,ac q4,hT];refine cI cw2 (by simp[go_sem]) ?_;by_cases z2:(T.want t.ps).1=0;rotate_left
  .have e2:(T.want t.ps).2=T:=Aa z2;have cb:=oc {C with s:=T} mo (T.want t.ps).1;rw[az z2,e2]at hr;rw[<-hr,show({C with s:=T}:Ct).broke (T.want t.ps).1=((T.want t.ps).1,(({C with s:=T}:Ct).broke (T.want t.ps).1).2) from rfl,oL _ _ _ z2];simp only[cN,Ct.broke]at cb⊢;rw[e2];simp only[go_sem,aE z2];refine aa (cb) ?_;exact ah
  rw[an (λz=>z z2)]at hr;obtain⟨w1,w2⟩:=ez T t.ps;have hwo:=nw T t.ps;generalize (T.want t.ps).2=U at hr w1 w2 hwo⊢;have co:=EW U mo (by rw[w1];omega) (by omega);have cp:=pG U.opn mo t.ps (by rw[oS];omega) (by omega);have ctp:=rG {C with s:=(U.opn.push t.ps)} (D_ mo (U.opn.all.length+t.ps.length)) h0 (by show C.bs.length<_;omega);have hpl:(U.opn.push t.ps).all.length=U.opn.all.length+t.ps.length:=by rw[dW,dN]
  have hfr:oA (C.bs++[⟨op,t,false,C.lv⟩]) C.lv=oA C.bs C.lv++[(⟨op,t,false,C.lv⟩,C.lv)]:=lV _ _ _;rw[<-hr,BV];simp only[Ct.begin,cN,hfr,hpl];simp only[cN,dh,fC]at co cp ctp;have hopr:NZ ⟨op,t,false,C.lv⟩=op:=by unfold NZ;rw[an (λz=>by cases z),an (by show ¬op=0;omega)]
  have a1:=H7 77 284 5 AB (oA C.bs C.lv) (by omega) (by decide);have a2:=YQ 77 284 5 AB (oA C.bs C.lv) (AB (⟨op,t,false,C.lv⟩,C.lv)) (by omega) (by decide);have tk:=JU AB (oA C.bs C.lv) (AB (⟨op,t,false,C.lv⟩,C.lv));rw[hfl]at a1 a2 tk;simp only[fC,hopr]at a2 tk;simp only[go_sem,z2];refine ax co (by simp[go_sem]) rfl ?_;simp only[go_sem];refine cI cp (by simp[go_sem]) ?_;simp only[go_sem];refine cI ctp (by simp[go_sem]) ?_;simp only[go_sem,a1,a2];exact aq [77] (by simp only[go_sem,fo,aQ,dk,dN,i9,eG,hfl,hopr,tk,dY,cM,eA]) (by rfl)
 rw[az q4]at hr;have cw1:=yq C.s mo [1] (by omega) (by omega) (by decide);simp only[dh]at cw1;simp only[go_sem,eV,ay hbr,aE (show op≠2 by omega),aE (show op≠3 by omega),ay q4,hfl,n0,aD q4];refine bR [40] ?_ cw1 (by simp[go_sem]) ?_
 .simp only[go_sem,aQ,fo,List.take_succ_cons,jK,cM,eA]
  try rfl
 by_cases z1:(C.s.want [1]).1=0;rotate_left
 .have e2:(C.s.want [1]).2=C.s:=Aa z1;have cb:=oc C mo (C.s.want [1]).1;rw[az z1,e2]at hr;rw[<-hr,show C.broke (C.s.want [1]).1=((C.s.want [1]).1,(C.broke (C.s.want [1]).1).2) from rfl,oL _ _ _ z1];simp only[cN,Ct.broke]at cb⊢;rw[e2];simp only[go_sem,aE z1];refine aa (cb) ?_;exact ah
 rw[an (λz=>z z1)]at hr;unfold Ct.enter2 at hr;obtain⟨w1,w2⟩:=ez C.s [1];obtain⟨T,hT⟩:∃T,(C.s.want [1]).2=T:=⟨_,rfl⟩
 rw[hT]at w1 w2 hr;have hu:T.u.length<=800000:=by rw[w1];exact hu
 have hl:T.all.length<=800000:=by omega
 have cw2:=yq T mo t.ps (by omega) (by omega) (by omega);simp only[dh]at cw2;simp only[go_sem,z1,hT];clear w1 w2;refine cI cw2 (by simp[go_sem]) ?_;by_cases z2:(T.want t.ps).1=0;rotate_left
 .have e2:(T.want t.ps).2=T:=Aa z2;have cb:=oc {C with s:=T} mo (T.want t.ps).1;rw[az z2,e2]at hr;rw[<-hr,show({C with s:=T}:Ct).broke (T.want t.ps).1=((T.want t.ps).1,(({C with s:=T}:Ct).broke (T.want t.ps).1).2) from rfl,oL _ _ _ z2];simp only[cN,Ct.broke]at cb⊢;rw[e2];simp only[go_sem,aE z2];refine aa (cb) ?_;exact ah
 rw[an (λz=>z z2)]at hr;obtain⟨w1,w2⟩:=ez T t.ps;have hwo:=nw T t.ps;generalize (T.want t.ps).2=U at hr w1 w2 hwo⊢;have co:=EW U mo (by rw[w1];omega) (by omega);have cp:=pG U.opn mo t.ps (by rw[oS];omega) (by omega);have ctp:=rG {C with s:=(U.opn.push t.ps)} (D_ mo (U.opn.all.length+t.ps.length)) h0 (by show C.bs.length<_;omega);have hpl:(U.opn.push t.ps).all.length=U.opn.all.length+t.ps.length:=by rw[dW,dN]
 have hfr:oA (C.bs++[⟨op,t,false,C.lv⟩]) C.lv=oA C.bs C.lv++[(⟨op,t,false,C.lv⟩,C.lv)]:=lV _ _ _;rw[<-hr,BV];simp only[Ct.begin,cN,hfr,hpl];simp only[cN,dh,fC]at co cp ctp;have hopr:NZ ⟨op,t,false,C.lv⟩=op:=by unfold NZ;rw[an (λz=>by cases z),an (by show ¬op=0;omega)]
 have a1:=H7 77 284 5 AB (oA C.bs C.lv) (by omega) (by decide);have a2:=YQ 77 284 5 AB (oA C.bs C.lv) (AB (⟨op,t,false,C.lv⟩,C.lv)) (by omega) (by decide);have tk:=JU AB (oA C.bs C.lv) (AB (⟨op,t,false,C.lv⟩,C.lv));rw[hfl]at a1 a2 tk;simp only[fC,hopr]at a2 tk;simp only[go_sem,z2];refine ax co (by simp[go_sem]) rfl ?_;simp only[go_sem];refine cI cp (by simp[go_sem]) ?_;simp only[go_sem];refine cI ctp (by simp[go_sem]) ?_;simp only[go_sem,a1,a2];exact aq [77] (by simp only[go_sem,fo,aQ,dk,dN,i9,eG,hfl,hopr,tk,dY,cM,eA]) (by rfl)
end
section
open Go Go.Mw
attribute[local go_sem] uF nA DA Dz oh zu uE nV lZ uD p8 nR p_ nU lY nS nT p9 qa
def XC:List Int:=[2,3,4,5,11,0,12,13,14,15,26,27,209]
def agU(op:Int):Bool:=decide (op∈XC)||(decide (bN op≠1/\bN op≠2/\bN op≠3/\(bN op=4->op=16\/op=210)/\(bN op=9->op=37\/op=38\/op=64527\/op=64528\/op=64529) /\
 (bN op=10->op=64526)/\(bN op=11->op≠64526)/\(op=64522↔bN op=14)/\(op=64520↔bN op=15)) &&
 (decide (bN op∈[4,5,6,7,8,9,(20:Int)])||((EY op).2&&(Xx (EY op).1&&(((pL (EY op).1).ps==(rJ op).1)&&((pL (EY op).1).rs==(rJ op).2.1))))))
def aj_:OC.all (λo=>agU o.op)=true:=by decide +kernel
structure wOk(op:Int):Prop where
 n1:bN op≠1
 n2:bN op≠2
 n3:bN op≠3
 h4:bN op=4->op=16\/op=210
 h9:bN op=9->op=37\/op=38\/op=64527\/op=64528\/op=64529
 h10:bN op=10->op=64526
 h11:bN op=11->op≠64526
 h14:op=64522↔bN op=14
 h15:op=64520↔bN op=15
 sg:bN op∉[4,5,6,7,8,9,(20:Int)]->∃d,EY op=(d,true)/\Xx d=true/\pL d =⟨(rJ op).1,(rJ op).2.1⟩
def alY{x:bj}(h:rA x=true)(hn:x.op∉XC):wOk x.op:=by
 have hk:J5 x.op=true:=by
  unfold rA plR at h;simp only[dX]at h;exact h.1
 have hr:oe x.op≠none:=λz=>by rw[J5,z]at hk;cases hk
 have:=Oh (p:=agU) aj_ hr;unfold agU at this;rw[aI hn,jW,dX,ol]at this;obtain⟨⟨a1,a2,a3,a4,a5,a6,a7,a8,a9⟩,hs⟩:=this;refine⟨a1,a2,a3,a4,a5,a6,a7,a8,a9,λhm=>?_⟩;rw[aI hm,jW]at hs;simp only[dX,beq_iff_eq]at hs;obtain⟨s1,s2,s3,s4⟩:=hs;refine⟨(EY x.op).1,by rw[<-s1],s2,?_⟩;rw[<-s3,<-s4]
def alS{s:Sp}{x:bj}(h:bN x.op=12):cS s x=gV (cx s.el x.a).isSome:=by unfold cS;simp[h]
def alW{s:Sp}{x:bj}(h:bN x.op=16):cS s x=gV (decide (x.a<s.ds)):=by unfold cS;simp[h]
def th0{s:Sp}{x:bj}(h:bN x.op∉[10,11,12,16,15,14,13,(17:Int)]):cS s x=0:=by
 simp only[bM,cH,or_false,not_or]at h;obtain⟨h1,h2,h3,h4,h5,h6,h7,h8⟩:=h;unfold cS;rw[an h1,an h2,an h3,an h4,an h5,an h6,an h7,an h8]
def XM(s:Sp)(lo:List Int)(x:bj)(h:bN x.op∉[4,5,6,7,8,9,(20:Int)]):i3 s lo x=thR (cS s x) ⟨(rJ x.op).1,(rJ x.op).2.1⟩:=by
 simp only[bM,cH,or_false,not_or]at h;obtain⟨h1,h2,h3,h4,h5,h6,h7⟩:=h;rw[i8,an h1,an h2,an h3,an h4,an h5,an h6,an h7];rfl
def Sm(s:Sp)(lo:List Int)(x:bj)(h:(i3 s lo x).2≠0):(i3 s lo x).1=default:=by
 rw[i8]at h⊢;split at h
 .rename_i q;rw[az q];unfold fnA at h⊢;repeat' split at h
  all_goals first|(exfalso;exact h rfl)|simp_all
 rename_i q1;rw[an q1];split at h
 .rename_i q;rw[az q];unfold inA at h⊢;repeat' split at h
  all_goals first|(exfalso;exact h rfl)|simp_all
 rename_i q2;rw[an q2];split at h
 .exact absurd rfl h
 rename_i q3;rw[an q3];split at h
 .rename_i q;rw[az q];unfold lcA at h⊢;repeat' split at h
  all_goals first|(exfalso;exact h rfl)|simp_all
 rename_i q4;rw[an q4];split at h
 .rename_i q;rw[az q];unfold glA at h⊢;repeat' split at h
  all_goals first|(exfalso;exact h rfl)|simp_all
 rename_i q5;rw[an q5];split at h
 .rename_i q;rw[az q];unfold tbA at h⊢;repeat' split at h
  all_goals first|(exfalso;exact h rfl)|simp_all
 rename_i q6;rw[an q6];split at h
 .exact absurd rfl h
 rename_i q7;rw[an q7];split at h
 .rename_i q;rw[az q]
 .exact absurd rfl h
attribute[local go_sem] bY aW cX bT lc bV zn zo vi aM cN
def abl(m:Md)(lo:List Int)(x:bj)(hb:B_ m)(hds:m.ds.length<=10000)(ha:0<=x.a/\x.a<9223372036854775808)(hx:0<=x.b/\x.b<9223372036854775808)(hsm:C_ x)(hl:lo.length<=9000000)(ht:bN x.op=6->0<x.ty.length)(hw:wOk x.op) :
  aj pg GC [ba m,.sl 1 (lo.map aS),fN x] (.agg (Sn (i3 (bO m) lo x))):=by
 refine cE (ic:=fc 29 [37] cA.body) fD (cF cA) rfl rfl ?_;have co:=Mb x.op;obtain⟨_,_,t3,_⟩:=Qd x.op;rw[<-t3]at co;have n1:=hw.n1;have n2:=hw.n2;have n3:=hw.n3;have w1:=qr 11;have b1:=ac n1;have b2:=ac n2;have b3:=ac n3;by_cases q4:bN x.op=4
 .have c:=abm m x hb ha (hw.h4 q4);rw[i8,az q4];simp only[ba,aM,bV,vi]at c;simp only[go_sem,cA,ba];refine ae (co) ?_;simp only[go_sem,b1,b2,b3,aD q4];refine aa (c) ?_;exact ah
 by_cases q5:bN x.op=5
 .have c:=Mc m x hb ha hx;rw[i8,an q4,az q5];simp only[ba,aM,bV,vi]at c;simp only[go_sem,cA,ba];refine ae (co) ?_;simp only[go_sem,b1,b2,b3,ac q4,aD q5];refine aa (c) ?_;exact ah
 by_cases q6:bN x.op=6
 .have ht':=ht q6;have wl:=lB [aS (av x.ty 0),aS (av x.ty 0),aS 1];have wg:=je [aS (av x.ty 0),aS (av x.ty 0),aS 1] [aS (av x.ty 0)];rw[i8,an q4,an q5,az q6];simp only[go_sem,cA,ba];refine ae (co) ?_;simp only[go_sem,b1,b2,b3,ac q4,ac q5,aD q6];refine⟨by omega,by omega,by omega,by omega,?_⟩;refine ax wl (by simp[go_sem]) rfl ?_;simp only[go_sem];refine⟨by omega,by omega,?_⟩;refine be (eJ.frzs [43] _ _) ?_;simp only[go_sem];refine aa (wg) ?_;exact ah
 by_cases q7:bN x.op=7
 .have c:=WS lo x ha.1 hl;rw[i8,an q4,an q5,an q6,az q7];simp only[ba,aM,bV,vi]at c;simp only[go_sem,cA,ba];refine ae (co) ?_;simp only[go_sem,b1,b2,b3,ac q4,ac q5,ac q6,aD q7];refine aa (c) ?_;exact ah
 by_cases q8:bN x.op=8
 .have c:=RW m x hb ha;rw[i8,an q4,an q5,an q6,an q7,az q8];simp only[ba,aM,bV,vi]at c;simp only[go_sem,cA,ba];refine ae (co) ?_;simp only[go_sem,b1,b2,b3,ac q4,ac q5,ac q6,ac q7,aD q8];refine aa (c) ?_;exact ah
 by_cases q9:bN x.op=9
 .have c:=WT m x hb ha (hw.h9 q9);rw[i8,an q4,an q5,an q6,an q7,an q8,az q9];simp only[ba,aM,bV,vi]at c;simp only[go_sem,cA,ba];refine ae (co) ?_;simp only[go_sem,b1,b2,b3,ac q4,ac q5,ac q6,ac q7,ac q8,aD q9];refine aa (c) ?_;exact ah
 by_cases q20:bN x.op=20
 .have c:=je [] [aS x.a];rw[i8,an q4,an q5,an q6,an q7,an q8,an q9,az q20];have k:∀z:Int,z≠20->(bN x.op==z)=false:=λz hz=>ac (by omega);simp only[go_sem,cA,ba];refine ae (co) ?_;simp only[go_sem,b1,b2,b3,ac q4,ac q5,ac q6,ac q7,ac q8,ac q9,k 10 (by decide),k 11 (by decide),k 12 (by decide),k 13 (by decide),k 14 (by decide),k 15 (by decide),k 17 (by decide),k 16 (by decide),aD q20];refine be ((eJ.nil1 _ _).trans (eJ.frzs [98] _ _)) ?_;simp only[go_sem];refine aa (c) ?_;exact ah
 have hin:bN x.op∉[4,5,6,7,8,9,(20:Int)]:=by simp only[bM,cH,or_false,not_or];exact⟨q4,q5,q6,q7,q8,q9,q20⟩
 rw[XM _ _ _ hin];obtain⟨d,d1,d2,d3⟩:=hw.sg hin;have cs:=PP x.op d d1 d2;rw[d3]at cs;generalize (⟨(rJ x.op).1,(rJ x.op).2.1⟩:Ft)=F at cs⊢;have e4:=ac q4;have e5:=ac q5;have e6:=ac q6;have e7:=ac q7;have e8:=ac q8;have e9:=ac q9;have e20:=ac q20;by_cases q10:bN x.op=10\/bN x.op=11
 .have c:=age m x hb ha hx F cs (q10.elim (λz=>.inl ⟨hw.h10 z,z⟩) λz=>.inr ⟨hw.h11 z,z⟩);simp only[ba,aM,bV,vi]at c;simp only[go_sem,cA,ba];refine ae (co) ?_;rcases q10 with q|q
  .simp only[go_sem,b1,b2,b3,e4,e5,e6,e7,e8,e9,aD q];refine aa (c) ?_;exact ah
  .simp only[go_sem,b1,b2,b3,e4,e5,e6,e7,e8,e9,ac (show bN x.op≠10 by omega),aD q];refine aa (c) ?_;exact ah
 have e10:=ac (show bN x.op≠10 from λz=>q10 (.inl z));have e11:=ac (show bN x.op≠11 from λz=>q10 (.inr z));by_cases q12:bN x.op=12
 .have c:=PL m x.a hb.els;rw[alS q12];generalize (cx (bO m).el x.a).isSome=ok at c⊢;generalize (cx (bO m).el x.a).getD 0=v at c;simp only[ba,aM]at c;simp only[go_sem,cA,ba];refine ae (co) ?_;simp only[go_sem,b1,b2,b3,e4,e5,e6,e7,e8,e9,e10,e11,aD q12];refine ae (c) ?_;cases ok
  .rw[show gV false=11 from rfl,z7 (by decide)];simp only[go_sem];refine aa (w1) ?_;exact ah
  .rw[show gV true=0 from rfl,z6];simp only[go_sem];refine aa (cs) ?_;exact ah
 have e12:=ac q12;by_cases qm:bN x.op=13\/bN x.op=14\/bN x.op=15\/bN x.op=17
 .have c:=RX m x hb ha hx hds F cs qm hw.h14 hw.h15;simp only[ba,aM,bV,vi]at c;simp only[go_sem,cA,ba];refine ae (co) ?_;simp only[go_sem,b1,b2,b3,e4,e5,e6,e7,e8,e9,e10,e11,e12];rcases qm with q|q|q|q
  .simp only[go_sem,aD q];refine aa (c) ?_;exact ah
  .simp only[go_sem,ac (show bN x.op≠13 by omega),aD q];refine aa (c) ?_;exact ah
  .simp only[go_sem,ac (show bN x.op≠13 by omega),ac (show bN x.op≠14 by omega),aD q];refine aa (c) ?_;exact ah
  .simp only[go_sem,ac (show bN x.op≠13 by omega),ac (show bN x.op≠14 by omega),ac (show bN x.op≠15 by omega),aD q];refine aa (c) ?_;exact ah
 have e13:=ac (show bN x.op≠13 by omega);have e14:=ac (show bN x.op≠14 by omega);have e15:=ac (show bN x.op≠15 by omega);have e17:=ac (show bN x.op≠17 by omega);by_cases q16:bN x.op=16
 .have c:=L4 m hds;rw[alW q16];simp only[ba,aM]at c;simp only[go_sem,cA,ba];refine ae (co) ?_;simp only[go_sem,b1,b2,b3,e4,e5,e6,e7,e8,e9,e10,e11,e12,e13,e14,e15,e17,aD q16];refine ax c (by simp[go_sem]) rfl ?_;by_cases hD:x.a>=(bO m).ds
  .rw[aI (show ¬x.a<(bO m).ds by omega),show gV false=11 from rfl,z7 (by decide)];simp only[go_sem,aF hD];refine aa (w1) ?_;exact ah
  .rw[aF (show x.a<(bO m).ds by omega),show gV true=0 from rfl,z6];simp only[go_sem,aI hD];refine aa (cs) ?_;exact ah
 rw[th0 (by simp only[bM,cH,or_false,not_or];omega),z6];simp only[go_sem,cA,ba];refine ae (co) ?_;simp only[go_sem,b1,b2,b3,e4,e5,e6,e7,e8,e9,e10,e11,e12,e13,e14,e15,e17,ac q16,e20];refine aa (cs) ?_;exact ah
def aba(m:Md)(lo:List Int)(x:bj)(hb:B_ m)(hds:m.ds.length<=10000)(ha:0<=x.a/\x.a<9223372036854775808)(hx:0<=x.b/\x.b<9223372036854775808)(hsm:C_ x)(hl:lo.length<=9000000)(ht:bN x.op=6->0<x.ty.length)(hw:wOk x.op)(hp:rA x=true) :
  aj pg Gy [ba m,.sl 1 (lo.map aS),fN x] (E_ (i3 (bO m) lo x)):=by
 refine ao xe ?_;have cp:=WJ x hsm;rw[hp]at cp;have cw:=abl m lo x hb hds ha hx hsm hl ht hw;have hd:=Sm (bO m) lo x;generalize i3 (bO m) lo x=r at cw hd⊢;obtain⟨f,e⟩:=r;simp only[ba,aM,bV,vi]at cp cw;simp only[go_sem,xe,ba];refine aa (cp) ?_;refine ae (cw) ?_;by_cases q:e=0
 .simp only[go_sem,ay q];exact aq [] (by simp only[go_sem,E_,q];try rfl) (by rfl)
 .have hd':=hd q;simp only at hd';subst hd';simp only[go_sem,aE q];exact dB (Wk.nlh _ 6 (r:=[.nl,.nl]) (r':=[.sl 1 [],.sl 1 []]) (by rfl) ⟨.inr ⟨rfl,1,rfl⟩,.inr ⟨rfl,1,rfl⟩,trivial⟩) [] (by rfl) rfl
end
section
open Go Go.Mw
def O2:∀{l:List Bk}{v:Bool}{i:Nat},i<l.length->(av (oA l v) i).1=av l i
 | [],_,_,h=>absurd h (Nat.not_lt_zero _)
 | [x],v,i,h=>by
  have:i=0:=by simpa using h
  subst this;rfl
 | x::y::r,v,0,h=>rfl
 | x::y::r,v,i+1,h=>O2 (l:=y::r) (v:=v) (i:=i) (by simpa using h)
def P5{S:Sk}{l:List Int}(h:(S.shut l).1≠0):(S.shut l).2=S:=by
 rw[On]at h⊢;generalize dP S.t.lo S.t.l.reverse l.reverse=R at h⊢;obtain⟨o,e⟩:=R;cases o with
 | none=>rfl
 | some r =>
  cases r with
  | cons x r=>rfl
  | nil =>
   simp only at h;split at h<;>exact absurd rfl h
def abE(S:Sk)(l:List Int):(S.shut l).2.ov=S.ov:=by
 rw[On];generalize dP S.t.lo S.t.l.reverse l.reverse=R;obtain⟨o,e⟩:=R;cases o with
 | none=>rfl
 | some r =>
  cases r with
  | cons x r=>rfl
  | nil=>simp only;split<;>rfl
def PF{b:Bk}:NZ b=4↔b.k=4/\b.ot=false:=by
 unfold NZ;cases b.ot with
 | true=>simp
 | false =>
  simp only[lD,ij,and_true];split<;>omega
def acK{b:Bk}(h:b.ot=true->b.k=4):NZ b=3↔b.k=3:=by
 unfold NZ;cases hb:b.ot with
 | true=>have:=h hb;simp;omega
 | false =>
  simp only[lD,ij];split<;>omega
attribute[local go_sem] bY cN fC fg aW
def WA(C:Ct)(mo:Int)(hbr:C.br=0)(h:xC 800000 C):aj pg zD [.agg (ou C mo)] (TR C.els mo):=by
 refine ao nc ?_;have hu:=h.u;have hl:=h.l;have hb:=h.b;have hfl:=iA C.bs C.lv;generalize hr:C.els=r;unfold Ct.els at hr;rw[an (λq=>q hbr)]at hr;by_cases h0:C.bs.length=0
 .rw[az (.inl h0)]at hr;rw[<-hr,oL _ _ _ (by decide)];simp only[go_sem,nc,ay hbr,hfl,h0,show(((0:Nat):Int)==0)=true from rfl];exact aq [] (by simp only[go_sem];try rfl) (by rfl)
 have n0:((C.bs.length:Int)==0)=false:=ac (by omega);have ct:=rG C mo h0 (by omega);obtain⟨ht1,ht2⟩:=h.top (λz=>h0 (by rw[z];rfl));simp only[cN,fC]at ct;by_cases q:NZ C.top=4;rotate_left
 .rw[az (.inr (by
   by_cases z:C.top.k=4
   .exact .inr (by cases z2:C.top.ot;exact absurd (PF.2 ⟨z,z2⟩) q;rfl)
   .exact .inl z))]at hr
  rw[<-hr,oL _ _ _ (by decide)];simp only[go_sem,nc,ay hbr,hfl,n0];refine ae (ct) ?_;simp only[go_sem,aE q];exact aq [] (by simp only[go_sem];try rfl) (by rfl)
 obtain⟨q1,q2⟩:=PF.1 q;rw[an (λz=>by rcases z with z|z|z;exact h0 z;exact z q1;rw[q2]at z;cases z)]at hr;have cs:=WO C.s mo C.top.t.rs (by omega) (by omega) (by omega);simp only[dh]at cs;simp only[go_sem,nc,ay hbr,hfl,n0];refine ae (ct) ?_;simp only[go_sem,ay q];refine aa (ct) ?_;refine ae (cs) ?_;by_cases z1:(C.s.shut C.top.t.rs).1=0;rotate_left
 .have e2:(C.s.shut C.top.t.rs).2=C.s:=P5 z1;have cb:=oc C mo (C.s.shut C.top.t.rs).1;rw[az z1,e2]at hr;rw[<-hr,show({C with s:=C.s}:Ct).broke (C.s.shut C.top.t.rs).1=((C.s.shut C.top.t.rs).1,(C.broke (C.s.shut C.top.t.rs).1).2) from rfl,oL _ _ _ z1];simp only[cN,Ct.broke]at cb⊢;rw[e2];simp only[go_sem,aE z1];refine aa (cb) ?_;exact ah
 rw[an (λz=>z z1)]at hr;obtain⟨w1,w2⟩:=Bh C.s C.top.t.rs;generalize (C.s.shut C.top.t.rs).2=U at hr w1 w2⊢;have co:=EW U mo (by omega) (by omega);have cp:=pG U.opn mo C.top.t.ps (by rw[oS];omega) (by omega);have hpl:(U.opn.push C.top.t.ps).all.length=U.opn.all.length+C.top.t.ps.length:=by rw[dW,dN]
 have cw:=WR {C with s:=U.opn.push C.top.t.ps} (D_ mo (U.opn.all.length+C.top.t.ps.length)) h0 (by show C.bs.length<_;omega) {C.top with ot:=true} C.top.lv rfl;rw[<-hr,BV];simp only[Ct.begin,hpl];have ho5:NZ {C.top with ot:=true}=5:=rfl;simp only[cN,dh,fC,ho5]at co cp cw⊢;simp only[go_sem,z1];refine ax co (by simp[go_sem]) rfl ?_;simp only[go_sem];refine cI cp (by simp[go_sem]) ?_;simp only[go_sem];refine cI cw (by simp[go_sem]) ?_;simp only[go_sem];exact ah
def Ct.leaveR(c:Ct):Int×Ct :=
 if c.bs.length=0 then(16,c)else
 if(c.s.shut c.top.t.rs).1≠0 then c.broke (c.s.shut c.top.t.rs).1 else
 if c.top.k=4/\c.top.ot=false/\¬c.top.t.ps=c.top.t.rs then({c with s:=(c.s.shut c.top.t.rs).2}:Ct).broke 12 else
 (0,{c with s:=(c.s.shut c.top.t.rs).2.push c.top.t.rs,bs:=c.bs.dropLast,lv:=c.top.lv})
def aaw{C:Ct}(hbr:C.br=0):C.leaveR.1=C.leave.1/\(C.leave.1=0->C.leaveR=C.leave):=by
 unfold Ct.leaveR Ct.leave;rw[an (show ¬C.br≠0 from λq=>q hbr)];by_cases h0:C.bs.length=0
 .rw[az h0,az h0];exact⟨rfl,λ_=>rfl⟩
 rw[an h0,an h0];by_cases z1:(C.s.shut C.top.t.rs).1=0;rotate_left
 .rw[az z1,az z1];exact⟨rfl,λq=>absurd q z1⟩
 rw[an (show ¬(C.s.shut C.top.t.rs).1≠0 from λz=>z z1),an (show ¬(C.s.shut C.top.t.rs).1≠0 from λz=>z z1)];by_cases z2:C.top.k=4/\C.top.ot=false/\¬C.top.t.ps=C.top.t.rs
 .rw[az z2,az z2];exact⟨rfl,λq=>absurd q (show ¬(12:Int)=0 by decide)⟩
 .rw[an z2,an z2];exact⟨rfl,λ_=>rfl⟩
def abi(C:Ct)(mo:Int)(hbr:C.br=0)(h:xC 800000 C):aj pg xt [.agg (ou C mo)] (TR C.leaveR mo):=by
 refine ao o9 ?_;have hu:=h.u;have hl:=h.l;have hb:=h.b;have hfl:=iA C.bs C.lv;generalize hr:C.leaveR=r;unfold Ct.leaveR at hr;by_cases h0:C.bs.length=0
 .rw[az h0]at hr;rw[<-hr,oL _ _ _ (by decide)];simp only[go_sem,o9,ay hbr,hfl,h0,show(((0:Nat):Int)==0)=true from rfl];exact aq [] (by simp only[go_sem];try rfl) (by rfl)
 rw[an h0]at hr;have n0:((C.bs.length:Int)==0)=false:=ac (by omega);have ct:=rG C mo h0 (by omega);obtain⟨ht1,ht2⟩:=h.top (λz=>h0 (by rw[z];rfl));simp only[cN,fC]at ct;have cs:=WO C.s mo C.top.t.rs (by omega) (by omega) (by omega);simp only[dh]at cs;simp only[go_sem,o9,ay hbr,hfl,n0];refine aa (ct) ?_;refine ae (cs) ?_;by_cases z1:(C.s.shut C.top.t.rs).1=0;rotate_left
 .have e2:(C.s.shut C.top.t.rs).2=C.s:=P5 z1;have cb:=oc C mo (C.s.shut C.top.t.rs).1;rw[az z1]at hr;rw[<-hr,show C.broke (C.s.shut C.top.t.rs).1=((C.s.shut C.top.t.rs).1,(C.broke (C.s.shut C.top.t.rs).1).2) from rfl,oL _ _ _ z1];simp only[cN,Ct.broke]at cb⊢;rw[e2];simp only[go_sem,aE z1];refine aa (cb) ?_;exact ah
 rw[an (λz=>z z1)]at hr;obtain⟨w1,w2⟩:=Bh C.s C.top.t.rs;generalize (C.s.shut C.top.t.rs).2=U at hr w1 w2⊢;have cv:=agd C.top.t.ps C.top.t.rs (by omega);have cp:=pG U mo C.top.t.rs (by omega) (by omega);have hpl:(U.push C.top.t.rs).all.length=U.all.length+C.top.t.rs.length:=by rw[dW,dN]
 simp only[dh]at cp;obtain⟨l,b,e1,e2,e3⟩:=CO h0;have hlb:C.bs.length=l.length+1:=by rw[e1,dN];rfl
 have hw:=wr1 (n:=l.length) (by omega);have htk:(oA C.bs C.lv).take l.length=oA l C.top.lv:=by rw[e2,e1,lV,List.take_left' (iA _ _)]
 have hf2:(oA C.bs C.lv).length=l.length+1:=by rw[hfl,hlb]
 have hfl2:(oA l C.top.lv).length=l.length:=iA _ _;have a1:=H7 61 284 5 AB (oA l C.top.lv) (by omega) (by decide);have tk:((oA l C.top.lv).map AB).take (oA l C.top.lv).length=(oA l C.top.lv).map AB:=iF (by simp);by_cases q:NZ C.top=4
 .obtain⟨q1,q2⟩:=PF.1 q;by_cases q3:C.top.t.ps=C.top.t.rs
  .rw[an (λz=>z.2.2 q3)]at hr;rw[aF q3]at cv;simp only[go_sem,z1,aD q];refine aa (cv) ?_;rw[<-hr,BV];simp only[hpl,e3];refine ae (cp) ?_;simp only[go_sem,hf2,hw,cL,htk,a1];refine⟨⟨by omega,by omega⟩,?_⟩;exact aq [61] (by simp only[go_sem,fo,aQ,dk,tk]) (by rfl)
  .rw[az ⟨q1,q2,q3⟩]at hr;rw[aI q3]at cv;have cb:=oc {C with s:=U} mo 12;rw[<-hr,show({C with s:=U}:Ct).broke 12=(12,(({C with s:=U}:Ct).broke 12).2) from rfl,oL _ _ _ (by decide)];simp only[cN,Ct.broke]at cb⊢;simp only[go_sem,z1,aD q];refine aa (cv) ?_;refine aa (cb) ?_;exact ah
 .rw[an (λz=>q (PF.2 ⟨z.1,z.2.1⟩))]at hr;simp only[go_sem,z1,ac q];rw[<-hr,BV];simp only[hpl,e3];refine ae (cp) ?_;simp only[go_sem,hf2,hw,cL,htk,a1];refine⟨⟨by omega,by omega⟩,?_⟩;exact aq [61] (by simp only[go_sem,fo,aQ,dk,tk]) (by rfl)
def JF(C:Ct)(mo n:Int)(hbr:C.br=0)(h2:C.bs.length<1000000)(hn:0<=n)(hn2:n<9223372036854775808)(hk:∀b∈C.bs,b.ot=true->b.k=4):aj pg Gw [.agg (ou C mo),.int .i64 n] (.tup [.sl 1 ((C.label n).1.map aS),.int .i64 (C.label n).2]):=by
 refine ao o8 ?_;have hfl:=iA C.bs C.lv;unfold Ct.label;rw[an (λq=>q hbr)];by_cases q:n>=(C.bs.length:Int)
 .rw[az (.inr q)];simp only[go_sem,o8,ay hbr,hfl,aI (show ¬n<0 by omega),aF q];refine dB (Wk.nls _ 4 1 (by rfl)) [] (by rfl) rfl
 rw[an (by omega)];obtain⟨k,rfl⟩:∃k:Nat,n=k:=⟨n.toNat,by omega⟩
 have w1:=wi (n:=(C.bs.length:Int)-1) (by omega) (by omega);have w2:IntKind.i64.wrap ((C.bs.length:Int)-1-k)=((C.bs.length-1-k:Nat):Int):=by rw[wi (by omega) (by omega)];omega
 have hn3:C.bs.length-1-k<C.bs.length:=by omega
 have e1:(av (oA C.bs C.lv) (C.bs.length-1-k)).1=av C.bs (C.bs.length-1-k):=O2 hn3;rw[cL];have hb:=hk _ (EM hn3);obtain⟨F,hF⟩:∃F,av (oA C.bs C.lv) (C.bs.length-1-k)=F:=⟨_,rfl⟩
 rw[hF]at e1;rw[<-e1]at hb⊢;simp only[go_sem,o8,ay hbr,hfl,aI (show ¬(k:Int)<0 by omega),aI q,w1,w2,cL,hF];by_cases z:F.1.k=3
 .rw[az z];have:=aD ((acK hb).2 z);simp only[go_sem,this];refine⟨by omega,by omega,?_⟩;exact ah
 .rw[an z];have:=ac (λw=>z ((acK hb).1 w));simp only[go_sem,this];refine⟨by omega,by omega,?_⟩;exact ah
def WL(C:Ct)(mo:Int)(hbr:C.br=0):aj pg Ey [.agg (ou C mo)] (.sl 1 (C.retn.map aS)):=by
 refine ao ud ?_;unfold Ct.retn;rw[an (λq=>q hbr)];simp only[go_sem,ud,ay hbr];exact ah
def Ob(C:Ct)(mo:Int)(hbr:C.br=0)(h:xC 800000 C):aj pg I7 [.agg (ou C mo)] (.agg (ou C.dead mo)):=by
 refine ao qP ?_;have hu:=h.u;have hl:=h.l;have hb:=h.b;have hfl:=iA C.bs C.lv;unfold Ct.dead;by_cases h0:C.bs.length=0
 .rw[az (.inr h0)];simp only[go_sem,qP,ay hbr,hfl,h0,show(((0:Nat):Int)==0)=true from rfl];exact aq [] (by simp only[go_sem];try rfl) (by rfl)
 rw[an (by rintro(z|z);exact z hbr;exact h0 z)];have n0:((C.bs.length:Int)==0)=false:=ac (by omega);have ct:=rG C mo h0 (by omega);have co:=RU C.s mo (by omega) (by omega);have cw:=WR {C with s:=C.s.loose} mo h0 (by show C.bs.length<_;omega) C.top false rfl;obtain⟨l,b,e1,e2,e3⟩:=CO h0;have e4:C.bs.dropLast++[C.top]=C.bs:=by rw[e3,e2,<-e1]
 simp only[e4]at cw;simp only[cN,dh,fC]at ct co cw⊢;simp only[go_sem,qP,ay hbr,hfl,n0];refine aa (ct) ?_;refine aa (co) ?_;refine aa (cw) ?_;exact ah
end
section
open Go Go.Mw
def G_(n:Nat)(cs cs':List Nat)(ops:List aJ)(al:List (Nat×Nat))(dr:List Nat):fc n cs (.clon cs' ops al dr) = .clon cs' ops al dr:=rfl
attribute[local go_sem] G_ uF nA DA Dz oh zu uE nV lZ uD p8 nR p_ nU lY nS nT p9 qa
def Ow(C:Ct)(f:Ft):Int×Ct:=if(C.s.want f.ps).1≠0 then((C.s.want f.ps).1,C)else(0,{C with s:=(C.s.want f.ps).2.push f.rs})
attribute[local go_sem] bY cN fC fg aW
def JG(C:Ct)(mo:Int)(f:Ft)(h:xC 800000 C)(hf:f.ps.length<=10000/\f.rs.length<=10000):aj pg pD [.agg (ou C mo),.agg (pt f)] (TR (Ow C f) mo):=by
 refine ao pd ?_;have hu:=h.u;have hl:=h.l;obtain⟨hf1,hf2⟩:=hf;have cw:=yq C.s mo f.ps (by omega) (by omega) (by omega);generalize hr:Ow C f=r;unfold Ow at hr;by_cases z:(C.s.want f.ps).1=0
 .rw[an (λq=>q z)]at hr;obtain⟨w1,w2⟩:=ez C.s f.ps;simp only[dh]at cw;simp only[go_sem,pd];refine ae (cw) ?_;generalize (C.s.want f.ps).2=U at hr w1 w2⊢;have cp:=pG U mo f.rs (by omega) (by omega);have hpl:(U.push f.rs).all.length=U.all.length+f.rs.length:=by rw[dW,dN]
  rw[<-hr,BV];simp only[dh,cN,hpl]at cp⊢;simp only[go_sem,z];refine aa (cp) ?_;exact ah
 .rw[az z]at hr;rw[<-hr,oL _ _ _ z];simp only[dh,Aa z]at cw;simp only[go_sem,pd];refine ae (cw) ?_;simp only[go_sem,aE z];exact ah
def Ws{S:Sk}(h:S.all.length>256->S.ov=true):S.push []=S:=by
 obtain⟨⟨l,lo⟩,u,ov⟩:=S;unfold Sk.push;rw[ml,eG,Nat.add_zero];have:(ov||decide (((Sk.all ⟨⟨l,lo⟩,u,ov⟩).length:Int)>256))=ov:=by
  by_cases q:(Sk.all ⟨⟨l,lo⟩,u,ov⟩).length>256
  .have:=h q;simp only at this;rw[this];rfl
  .rw[aI (by omega),Bool.or_false]
 rw[this]
def Cg(r:AV)(R:Int×Ct):Prop:=∃C' mo',r = .tup [.agg (ou C' mo'),.int .i64 R.1]/\(R.1=0->C'=R.2/\oT R.2.s mo'/\(R.2.s.all.length:Int)<=mo')
def kZ{C C':Ct}{mo e:Int}(h:e≠0):Cg (.tup [.agg (ou C mo),.int .i64 e]) (e,C'):=⟨C,mo,rfl,λq=>absurd q h⟩
def BR{C:Ct}{mo:Int}(h1:oT C.s mo)(h2:(C.s.all.length:Int)<=mo):Cg (.tup [.agg (ou C mo),.int .i64 0]) (0,C):=⟨C,mo,rfl,λ_=>⟨rfl,h1,h2⟩⟩
def Ea(mo:Int)(n:Nat):(n:Int)<=D_ mo n:=by unfold D_;split<;>omega
def aiU{mo:Int}{n:Nat}(h:(n:Int)<=mo):D_ mo n=mo:=an (by omega)
def aho{R:Int×Ct}{mo:Int}(h:R.1=0->oT R.2.s (D_ mo R.2.s.all.length)):Cg (TR R mo) R:=by
 refine⟨R.2,moR R mo,rfl,λq=>⟨rfl,?_,?_⟩⟩
 .rw[VW q];exact h q
 .rw[VW q];exact Ea _ _
def ac4{C:Ct}{f:Ft}{mo:Int}(h:oT C.s mo):Cg (TR (Ow C f) mo) (Ow C f):=by
 refine aho λq=>?_;unfold Ow at q⊢;by_cases z:(C.s.want f.ps).1=0
 .rw[an (λq=>q z)];have e:((C.s.want f.ps).2.push f.rs).all.length=(C.s.want f.ps).2.all.length+f.rs.length:=by rw[dW,dN]
  show oT ((C.s.want f.ps).2.push f.rs) (D_ mo ((C.s.want f.ps).2.push f.rs).all.length);rw[e];exact rz _ (by unfold oT;rw[nw];exact h)
 .rw[az z]at q;exact absurd q z
def M8(C:Ct):C.dead.s.ov=C.s.ov/\C.dead.s.all.length<=C.s.all.length:=by
 unfold Ct.dead;split
 .exact⟨rfl,aQ _⟩
 .refine⟨rfl,?_⟩;show(bI (⟨[],true⟩::C.s.u)).length<=(bI (C.s.t::C.s.u)).length;simp only[bI,dN,eG];omega
def adh(s:St)(x:AV)(L:List (List AV)):eJ s [x,.agg [.sl 1 L,.nl]] s [x,.agg [.sl 1 L,.sl 1 []]]:=eJ.nla ⟨.inl rfl,.inr (.inr ⟨_,_,rfl,rfl,.inl rfl,.inr ⟨rfl,1,rfl⟩,trivial⟩),trivial⟩
def Od(C:Ct)(mo e:Int)(L:List (List AV))(he:e≠0):aj pg n8 [.agg (ou C mo),.sl 1 L,.int .i64 e] (.tup [.agg (ou C mo),.int .i64 e]):=by
 refine ao gj ?_;simp only[go_sem,gj,aE he];exact ah
def L_(C:Ct)(mo:Int)(l:List Int)(hbr:C.br=0)(h:xC 800000 C)(hov:oT C.s mo)(hle:(C.s.all.length:Int)<=mo)(hll:l.length<=1000) :
  ∃r,aj pg n8 [.agg (ou C mo),.sl 1 (l.map aS),.int .i64 0] r/\Cg r (eP ((C.s.want l).1,{C with s:=(C.s.want l).2})):=by
 have ct:=JG C mo ⟨l,[]⟩ h ⟨by show l.length<=_;omega,by show(0:Nat)<=_;omega⟩;obtain⟨w1,w2⟩:=ez C.s l;have w3:=nw C.s l;have hu:=h.u;have hl:=h.l;unfold Ow at ct;unfold eP;by_cases z:(C.s.want l).1=0;rotate_left
 .rw[az z,oL _ _ _ z]at ct;rw[an z];refine⟨_,?_,kZ (C:=C) (mo:=mo) z⟩;refine ao gj ?_;simp only[cN,aW]at ct;simp only[go_sem,gj];refine be (adh _ _ _) ?_;refine ae (ct) ?_;simp only[go_sem,aE z];exact ah
 rw[an (λq=>q z),BV]at ct;rw[az z];generalize (C.s.want l).2=U at ct w1 w2 w3⊢;have hp:U.push []=U:=Ws λq=>by
  unfold oT at hov;rw[w3,hov,ol];omega
 simp only[hp]at ct;rw[aiU (by show(U.all.length:Int)<=_;omega)]at ct;obtain⟨d1,d2⟩:=M8 {C with s:=U};refine⟨_,?_,BR (C:=({C with s:=U}:Ct).dead) (mo:=mo) (by unfold oT at hov⊢;rw[d1];show U.ov=_;rw[w3,hov]) (by have:({C with s:=U}:Ct).s.all.length=U.all.length:=rfl;omega)⟩;have cd:=Ob {C with s:=U} mo hbr ⟨by show U.u.length<=_;rw[w1];exact hu,by show U.all.length<=_;omega,h.b,h.r,h.t⟩;refine ao gj ?_;generalize ({C with s:=U}:Ct).dead=D at cd⊢;simp only[cN,aW]at ct cd⊢;simp only[go_sem,gj];refine be (adh _ _ _) ?_;refine aa (ct) ?_;refine aa (cd) ?_;exact ah
def EQ(S:Sk):S.pop.2.2.ov=S.ov:=by
 unfold Sk.pop;split
 all_goals first|rfl|(split<;>rfl)
def af6(C:Ct)(mo:Int)(h:xC 800000 C)(hov:oT C.s mo)(hle:(C.s.all.length:Int)<=mo) :
  ∃r,aj pg pC [.agg (ou C mo),.int .i64 26] r/\Cg r ((f_ C.s 26).1,{C with s:=(f_ C.s 26).2}):=by
 have hu:=h.u;have hl:=h.l;have cp:=HO C.s mo (by omega) (by omega);have p1:=EQ C.s;obtain⟨_,p2⟩:=oU C.s;unfold f_;rw[an (by decide)];unfold uW;simp only[dh]at cp;generalize C.s.pop=R at cp p1 p2⊢;obtain⟨a,e,T⟩:=R;simp only at cp p1 p2⊢;by_cases z:e=0
 .rw[an (λq=>q z),an (by decide),an (by decide)];refine⟨_,?_,BR (C:={C with s:=T}) (mo:=mo) (by unfold oT at hov⊢;show T.ov=_;rw[p1,hov]) (by show(T.all.length:Int)<=_;omega)⟩;refine ao aG ?_;simp only[go_sem,aG];refine ae (cp) ?_;simp only[go_sem,ay z];exact ah
 .rw[az z];refine⟨_,?_,kZ (C:=C) (mo:=mo) z⟩;refine ao aG ?_;simp only[go_sem,aG];refine ae (cp) ?_;simp only[go_sem,aE z];exact ah
def WC(C:Ct)(mo:Int)(h:xC 800000 C)(hov:oT C.s mo)(hle:(C.s.all.length:Int)<=mo) :
  ∃r,aj pg pC [.agg (ou C mo),.int .i64 209] r/\Cg r ((f_ C.s 209).1,{C with s:=(f_ C.s 209).2}):=by
 have hu:=h.u;have hl:=h.l;have cp:=HO C.s mo (by omega) (by omega);have p1:=EQ C.s;obtain⟨p3,p2⟩:=oU C.s;unfold f_;rw[an (by decide)];unfold uW;simp only[dh]at cp;generalize C.s.pop=R at cp p1 p2 p3⊢;obtain⟨a,e,T⟩:=R;simp only at cp p1 p2 p3⊢;by_cases z:e=0;rotate_left
 .rw[az z];refine⟨_,?_,kZ (C:=C) (mo:=mo) z⟩;refine ao aG ?_;simp only[go_sem,aG];refine ae (cp) ?_;simp only[go_sem,aE z];exact ah
 rw[an (λq=>q z),az trivial];by_cases z1:a=1
 .rw[az (.inl z1)];refine⟨_,?_,kZ (C:=C) (mo:=mo) (show(12:Int)≠0 by decide)⟩;refine ao aG ?_;simp only[go_sem,aG];refine ae (cp) ?_;simp only[go_sem,ay z,aD z1];exact ah
 by_cases z2:a=2
 .rw[az (.inr z2)];refine⟨_,?_,kZ (C:=C) (mo:=mo) (show(12:Int)≠0 by decide)⟩;refine ao aG ?_;simp only[go_sem,aG];refine ae (cp) ?_;simp only[go_sem,ay z,ac z1,aD z2];exact ah
 rw[an (by omega)];have hpl:(T.push [1]).all.length=T.all.length+1:=by rw[dW,dN];rfl
 have cq:=pG T mo [1] (by omega) (by decide);refine⟨_,?_,BR (C:={C with s:=T.push [1]}) (mo:=D_ mo (T.all.length+1)) (rz (S:=T) [1] (by unfold oT at hov⊢;rw[p1,hov])) (by show((T.push [1]).all.length:Int)<=_;rw[hpl];exact Ea _ _)⟩;have wl:=lB [aS 1];refine cE (ic:=fc 59 [60] aG.body) fD (cF aG) rfl rfl ?_;simp only[dh]at cq;simp only[go_sem,aG];refine ae (cp) ?_;simp only[go_sem,ay z,ac z1,ac z2];refine ax wl (by simp[go_sem]) rfl ?_;simp only[go_sem];refine aa (cq) ?_;exact ah
def aa2(k:Sk)(a b e:Int)(T:Sk)(h:k.pop=(b,e,T)):zJ k a=if e≠0 then(e,T)else if CG a=true\/CG b=true\/(a≠b/\a≠0/\b≠0)then(12,T)else(0,T.push [if a=0 then b else a]):=by
 unfold zJ;rw[h]
def Wj(k:Sk)(a e:Int)(T:Sk)(h:k.pop=(a,e,T)):uW k 27=if e≠0 then(e,T)else zJ T a:=by
 unfold uW;rw[h];rfl
def ajx(a:Int):CG a=true↔a=3\/a=4:=by unfold CG;simp
def WN(C:Ct)(mo:Int)(h:xC 800000 C)(hov:oT C.s mo)(hle:(C.s.all.length:Int)<=mo) :
  ∃r,aj pg pC [.agg (ou C mo),.int .i64 27] r/\Cg r ((f_ C.s 27).1,{C with s:=(f_ C.s 27).2}):=by
 have hu:=h.u;have hl:=h.l;have cw:=yq C.s mo [1] (by omega) (by omega) (by decide);have wl:=lB [aS 1];obtain⟨w1,w2⟩:=ez C.s [1];have w3:=nw C.s [1];unfold f_;rw[az rfl];simp only[dh]at cw;generalize C.s.want [1]=W at cw w1 w2 w3⊢;obtain⟨e0,U⟩:=W;simp only at cw w1 w2 w3⊢;by_cases z0:e0=0;rotate_left
 .rw[az z0];refine⟨_,?_,kZ (C:=C) (mo:=mo) (by first|assumption|exact(show(12:Int)≠0 by decide))⟩;refine cE (ic:=fc 17 [18] (fc 106 [108] aG.body)) fD (cF aG) rfl rfl ?_;simp only[go_sem,aG];refine ax wl (by simp[go_sem]) rfl ?_;simp only[go_sem];refine ax cw (by simp[go_sem]) rfl ?_;simp only[go_sem,aE z0];exact ah
 rw[an (λq=>q z0)];have cp:=HO U mo (by rw[w1];omega) (by omega);have p1:=EQ U;obtain⟨p3,p2⟩:=oU U;obtain⟨R,hR⟩:∃R,U.pop=R:=⟨_,rfl⟩
 obtain⟨a,e1,T⟩:=R;rw[Wj _ _ _ _ hR];rw[hR]at cp p1 p2 p3;simp only[dh]at cp p1 p2 p3;by_cases z1:e1=0;rotate_left
 .rw[az z1];refine⟨_,?_,kZ (C:=C) (mo:=mo) (by first|assumption|exact(show(12:Int)≠0 by decide))⟩;refine cE (ic:=fc 17 [18] (fc 106 [108] aG.body)) fD (cF aG) rfl rfl ?_;simp only[go_sem,aG];refine ax wl (by simp[go_sem]) rfl ?_;simp only[go_sem];refine ax cw (by simp[go_sem]) rfl ?_;simp only[go_sem,ay z0];refine ae (cp) ?_;simp only[go_sem,aE z1];exact ah
 rw[an (λq=>q z1)];have cp2:=HO T mo (by rw[p3,w1];omega) (by omega);have p4:=EQ T;obtain⟨p6,p5⟩:=oU T;obtain⟨R2,hR2⟩:∃R,T.pop=R:=⟨_,rfl⟩
 obtain⟨b,e2,V⟩:=R2;rw[aa2 _ _ _ _ _ hR2];rw[hR2]at cp2 p4 p5 p6;simp only[dh]at cp2 p4 p5 p6;by_cases z2:e2=0;rotate_left
 .rw[az z2];refine⟨_,?_,kZ (C:=C) (mo:=mo) (by first|assumption|exact(show(12:Int)≠0 by decide))⟩;refine cE (ic:=fc 17 [18] (fc 106 [108] aG.body)) fD (cF aG) rfl rfl ?_;simp only[go_sem,aG];refine ax wl (by simp[go_sem]) rfl ?_;simp only[go_sem];refine ax cw (by simp[go_sem]) rfl ?_;simp only[go_sem,ay z0];refine ae (cp) ?_;simp only[go_sem,ay z1];refine ae (cp2) ?_;simp only[go_sem,aE z2];exact ah
 rw[an (λq=>q z2)];simp only[ajx];by_cases a3:a=3
 .rw[az (.inl (.inl a3))];refine⟨_,?_,kZ (C:=C) (mo:=mo) (by first|assumption|exact(show(12:Int)≠0 by decide))⟩;refine cE (ic:=fc 17 [18] (fc 106 [108] aG.body)) fD (cF aG) rfl rfl ?_;simp only[go_sem,aG];refine ax wl (by simp[go_sem]) rfl ?_;simp only[go_sem];refine ax cw (by simp[go_sem]) rfl ?_;simp only[go_sem,ay z0];refine ae (cp) ?_;simp only[go_sem,ay z1];refine ae (cp2) ?_;simp only[go_sem,ay z2,aD a3];exact ah
 by_cases a4:a=4
 .rw[az (.inl (.inr a4))];refine⟨_,?_,kZ (C:=C) (mo:=mo) (by first|assumption|exact(show(12:Int)≠0 by decide))⟩;refine cE (ic:=fc 17 [18] (fc 106 [108] aG.body)) fD (cF aG) rfl rfl ?_;simp only[go_sem,aG];refine ax wl (by simp[go_sem]) rfl ?_;simp only[go_sem];refine ax cw (by simp[go_sem]) rfl ?_;simp only[go_sem,ay z0];refine ae (cp) ?_;simp only[go_sem,ay z1];refine ae (cp2) ?_;simp only[go_sem,ay z2,ac a3,aD a4];exact ah
 by_cases b3:b=3
 .rw[az (.inr (.inl (.inl b3)))];refine⟨_,?_,kZ (C:=C) (mo:=mo) (by first|assumption|exact(show(12:Int)≠0 by decide))⟩;refine cE (ic:=fc 17 [18] (fc 106 [108] aG.body)) fD (cF aG) rfl rfl ?_;simp only[go_sem,aG];refine ax wl (by simp[go_sem]) rfl ?_;simp only[go_sem];refine ax cw (by simp[go_sem]) rfl ?_;simp only[go_sem,ay z0];refine ae (cp) ?_;simp only[go_sem,ay z1];refine ae (cp2) ?_;simp only[go_sem,ay z2,ac a3,ac a4,aD b3];exact ah
 by_cases b4:b=4
 .rw[az (.inr (.inl (.inr b4)))];refine⟨_,?_,kZ (C:=C) (mo:=mo) (by first|assumption|exact(show(12:Int)≠0 by decide))⟩;refine cE (ic:=fc 17 [18] (fc 106 [108] aG.body)) fD (cF aG) rfl rfl ?_;simp only[go_sem,aG];refine ax wl (by simp[go_sem]) rfl ?_;simp only[go_sem];refine ax cw (by simp[go_sem]) rfl ?_;simp only[go_sem,ay z0];refine ae (cp) ?_;simp only[go_sem,ay z1];refine ae (cp2) ?_;simp only[go_sem,ay z2,ac a3,ac a4,ac b3,aD b4];exact ah
 by_cases ab:a=b
 .rw[an (by omega)];have hpl:∀v,(V.push [v]).all.length=V.all.length+1:=λv=>by rw[dW,dN];rfl
  have cq:=λv=>pG V mo [v] (by omega) (by show 1<1000000;decide);have wq:=λv=>lB [aS v];simp only[dh]at cq;refine⟨_,?_,BR (C:={C with s:=V.push [if a=0 then b else a]}) (mo:=D_ mo (V.all.length+1)) (rz (S:=V) [if a=0 then b else a] (by unfold oT at hov⊢;rw[p4,p1,w3,hov])) (by show((V.push [if a=0 then b else a]).all.length:Int)<=_;rw[hpl];exact Ea _ _)⟩;refine cE (ic:=fc 17 [18] (fc 106 [108] aG.body)) fD (cF aG) rfl rfl ?_;simp only[go_sem,aG];refine ax wl (by simp[go_sem]) rfl ?_;simp only[go_sem];refine ax cw (by simp[go_sem]) rfl ?_;simp only[go_sem,ay z0];refine ae (cp) ?_;simp only[go_sem,ay z1];refine ae (cp2) ?_;by_cases a0:a=0
  .simp only[go_sem,ay z2,ac a3,ac a4,ac b3,ac b4,ay ab,aD a0,az a0];refine ax (wq b) (by simp[go_sem]) rfl ?_;simp only[go_sem];refine aa (cq b) ?_;exact ah
  .simp only[go_sem,ay z2,ac a3,ac a4,ac b3,ac b4,ay ab,ac a0,an a0];refine ax (wq a) (by simp[go_sem]) rfl ?_;simp only[go_sem];refine aa (cq a) ?_;exact ah
 by_cases a0:a=0
 .rw[an (by omega)];have hpl:∀v,(V.push [v]).all.length=V.all.length+1:=λv=>by rw[dW,dN];rfl
  have cq:=λv=>pG V mo [v] (by omega) (by show 1<1000000;decide);have wq:=λv=>lB [aS v];simp only[dh]at cq;refine⟨_,?_,BR (C:={C with s:=V.push [if a=0 then b else a]}) (mo:=D_ mo (V.all.length+1)) (rz (S:=V) [if a=0 then b else a] (by unfold oT at hov⊢;rw[p4,p1,w3,hov])) (by show((V.push [if a=0 then b else a]).all.length:Int)<=_;rw[hpl];exact Ea _ _)⟩;refine cE (ic:=fc 17 [18] (fc 106 [108] aG.body)) fD (cF aG) rfl rfl ?_;simp only[go_sem,aG];refine ax wl (by simp[go_sem]) rfl ?_;simp only[go_sem];refine ax cw (by simp[go_sem]) rfl ?_;simp only[go_sem,ay z0];refine ae (cp) ?_;simp only[go_sem,ay z1];refine ae (cp2) ?_;simp only[go_sem,ay z2,ac a3,ac a4,ac b3,ac b4,aE ab,ay a0,aD a0,az a0];refine ax (wq b) (by simp[go_sem]) rfl ?_;simp only[go_sem];refine aa (cq b) ?_;exact ah
 by_cases b0:b=0
 .rw[an (by omega)];have hpl:∀v,(V.push [v]).all.length=V.all.length+1:=λv=>by rw[dW,dN];rfl
  have cq:=λv=>pG V mo [v] (by omega) (by show 1<1000000;decide);have wq:=λv=>lB [aS v];simp only[dh]at cq;refine⟨_,?_,BR (C:={C with s:=V.push [if a=0 then b else a]}) (mo:=D_ mo (V.all.length+1)) (rz (S:=V) [if a=0 then b else a] (by unfold oT at hov⊢;rw[p4,p1,w3,hov])) (by show((V.push [if a=0 then b else a]).all.length:Int)<=_;rw[hpl];exact Ea _ _)⟩;refine cE (ic:=fc 17 [18] (fc 106 [108] aG.body)) fD (cF aG) rfl rfl ?_;simp only[go_sem,aG];refine ax wl (by simp[go_sem]) rfl ?_;simp only[go_sem];refine ax cw (by simp[go_sem]) rfl ?_;simp only[go_sem,ay z0];refine ae (cp) ?_;simp only[go_sem,ay z1];refine ae (cp2) ?_;simp only[go_sem,ay z2,ac a3,ac a4,ac b3,ac b4,aE ab,aE a0,ay b0,ac a0,an a0];refine ax (wq a) (by simp[go_sem]) rfl ?_;simp only[go_sem];refine aa (cq a) ?_;exact ah
 rw[az (.inr (.inr ⟨ab,a0,b0⟩))];refine⟨_,?_,kZ (C:=C) (mo:=mo) (by first|assumption|exact(show(12:Int)≠0 by decide))⟩;refine cE (ic:=fc 17 [18] (fc 106 [108] aG.body)) fD (cF aG) rfl rfl ?_;simp only[go_sem,aG];refine ax wl (by simp[go_sem]) rfl ?_;simp only[go_sem];refine ax cw (by simp[go_sem]) rfl ?_;simp only[go_sem,ay z0];refine ae (cp) ?_;simp only[go_sem,ay z1];refine ae (cp2) ?_;simp only[go_sem,ay z2,ac a3,ac a4,ac b3,ac b4,aE ab,aE a0,aE b0];exact ah
end
section
open Go Go.Mw
attribute[local go_sem] G_ uF nA DA Dz oh zu uE nV lZ uD p8 nR p_ nU lY nS nT p9 qa
def afQ{S:Sk}(h:S.pop.2.1≠0):S.pop.2.2=S:=by
 unfold Sk.pop at h⊢;generalize S.t.l.reverse=R at h⊢;cases R with
 | nil=>simp only;split<;>rfl
 | cons a r=>exact absurd rfl h
def N7:∀(n:Nat)(S:Sk)(l:List Int),(gI n S l).2.2.u=S.u/\(gI n S l).2.2.all.length<=S.all.length/\(gI n S l).2.2.ov=S.ov
 | 0,S,l=>⟨rfl,aQ _,rfl⟩
 | n+1,S,l=>by
  obtain⟨b1,b2⟩:=oU S;have b3:=EQ S;rw[gI];split
  .exact⟨b1,b2,b3⟩
  .obtain⟨c1,c2,c3⟩:=N7 n S.pop.2.2 (S.pop.1::l);exact⟨c1.trans b1,gD c2 b2,c3.trans b3⟩
def Wm:∀(n:Nat)(S:Sk)(l:List Int),(gI n S l).2.1=0->(gI n S l).1.length=n+l.length
 | 0,S,l,_=>(dk _).symm
 | n+1,S,l,h=>by
  rw[gI]at h⊢;split
  .rename_i q;rw[az q]at h;exact absurd h q
  .rename_i q;rw[an q]at h;rw[Wm n _ _ h,i9];omega
def aa6(P:List Int×Int×Sk):List Int:=if P.2.1=0 then P.1 else[]
attribute[local go_sem] bY cN fC fg aW bV Rx
def agb(S:Sk)(mo:Int)(n:Nat)(hu:S.u.length<1000000)(hl:S.all.length<1000000)(hn:n<1000000):aj pg Jc [.agg (E5 S mo),.int .i64 n] (.tup [.agg (E5 (gI n S []).2.2 mo),.sl 1 ((aa6 (gI n S [])).map aS),.int .i64 (gI n S []).2.1]):=by
 refine ao y6 ?_;obtain⟨P,hP⟩:∃P,gI n S []=P:=⟨_,rfl⟩
 rw[hP];simp only[go_sem,y6,dh];refine aA (λq:Nat×List Int×Sk=>⟨[(8,.int .i64 q.1),(7,.sl 1 (q.2.1.map aS)),(1,.int .i64 n),(2,.mp 2 4 0 0),(4,.mp 4 4 0 0)],[(2,⟨233,4,[E5 q.2.2 mo],true⟩),(4,⟨233,4,[[.nl,.nl,.nl,.int .i64 0]],true⟩)]⟩)
  (λq=>q.1<=n/\q.2.1.length=q.1/\q.2.2.u=S.u/\q.2.2.all.length<=S.all.length/\gI (n-q.1) q.2.2 q.2.1=P) (λq=>n-q.1) (0,[],S) ⟨dx _,rfl,rfl,aQ _,hP⟩ ((Wk.nls _ 7 1 (by rfl)).trans (Wk.of ?_ ?_)) ?_
 .simp only[go_sem];try simp
 .simp only[go_sem,dh];try simp
 rintro⟨j,l,T⟩ ⟨hj,hl2,hT1,hT2,hx⟩;dsimp only at hj hl2 hT1 hT2 hx;by_cases h1:(j:Int)<(n:Int);rotate_left
 .obtain rfl:j=n:=by omega
  rw[Cc,gI]at hx;subst hx;simp only[go_sem,aI h1,dh,aa6];exact aq [] (by simp only[go_sem,dR];try rfl) (by rfl)
 have hj':j<n:=by omega
 have e8:=cK hj' (by omega);obtain⟨k,hk⟩:∃k,n-j=k+1:=⟨n-j-1,by omega⟩
 have hk2:n-(j+1)=k:=by omega
 rw[hk,gI]at hx;have cp:=HO T mo (by rw[hT1];exact hu) (by omega);obtain⟨b1,b2⟩:=oU T;have hpe:=afQ (S:=T);generalize T.pop=Q at cp b1 b2 hx hpe;obtain⟨a,e,U⟩:=Q;dsimp only at cp b1 b2 hx hpe;simp only[dh]at cp;by_cases z:e=0;rotate_left
 .rw[az z]at hx;subst hx;rw[hpe z]at cp⊢;simp only[go_sem,aF h1,dh];refine ae (cp) ?_;simp only[go_sem,aE z];refine dB (Wk.nls _ 5 1 (by rfl)) [] (by simp only[go_sem,aa6,an z];try rfl) (by rfl)
 rw[an (λq=>q z)]at hx;have ha:=cC 29 48 1 1 aS [a] (l.map aS) rfl;simp only[cM,eA,fg]at ha;simp only[go_sem,aF h1,dh];refine ae (cp) ?_;simp only[go_sem,ay z,ha];refine⟨by omega,?_⟩;refine aH (j+1,a::l,U) ⟨show j+1<=n by omega,show l.length+1=j+1 by omega,b1.trans hT1,gD b2 hT2,by show gI (n-(j+1)) U (a::l)=P;rw[hk2];exact hx⟩ (show n-(j+1)<n-j by omega) ((Wk.frzs [29] _).trans (Wk.of ?_ ?_))
 .simp only[go_sem,e8,aQ,fo,dk,cM]
  try (rw[iF (by simp;omega)])
  try simp
  try omega
 .simp only[go_sem,dh];try simp
def af7(p l:List Int)(hp:p.length<1000000)(hl:l.length<1000000):aj pg Ja [.sl 1 (p.map aS),.sl 1 (l.map aS)] (.bool (g_ p l)):=by
 refine ao yY ?_;simp only[go_sem,yY];refine aA (λq:Nat=>⟨[(5,.int .i64 q),(0,.sl 1 (p.map aS)),(1,.sl 1 (l.map aS))],[]⟩) (λq=>q<=p.length/\g_ p l=g_ (p.drop q) (l.drop q)) (λq=>p.length-q) 0 ⟨dx _,rfl⟩ (Wk.of ?_ ?_) ?_
 .simp only[go_sem];try simp
 .simp only[go_sem];try rfl
 intro q hh;obtain⟨hq,hx⟩:q<=p.length/\g_ p l=g_ (p.drop q) (l.drop q):=hh;by_cases h1:(q:Int)<(p.length:Int);rotate_left
 .rw[a_ (by omega)]at hx;rw[show g_ p l=true from hx];simp only[go_sem,aI h1];exact ah
 by_cases h2:(q:Int)<(l.length:Int);rotate_left
 .rw[a_ (l:=l) (by omega)]at hx;have hx:g_ p l=true:=by rw[hx];unfold g_;rw[List.zip_nil_right];rfl
  rw[hx];simp only[go_sem,aF h1,aI h2];exact ah
 have hq1:q<p.length:=by omega
 have hq2:q<l.length:=by omega
 have e8:=cK hq1 (by omega);rw[dV hq1,dV hq2,Hj]at hx;by_cases g1:av p q=0
 .rw[aD g1,nx,dM]at hx;simp only[go_sem,aF h1,aF h2,ay g1];refine⟨by omega,h1,?_⟩;refine aH (q+1) ⟨show q+1<=p.length by omega,hx⟩ (show p.length-(q+1)<p.length-q by omega) (Wk.of ?_ ?_)
  .simp only[go_sem,e8];try simp
  .simp only[go_sem];try rfl
 by_cases g2:av p q=av l q
 .rw[aD g2,Bool.or_true,dM]at hx;simp only[go_sem,aF h1,aF h2,aE g1];refine⟨by omega,h1,by omega,h1,by omega,h2,?_⟩;simp only[go_sem,ay g2];refine aH (q+1) ⟨show q+1<=p.length by omega,hx⟩ (show p.length-(q+1)<p.length-q by omega) (Wk.of ?_ ?_)
  .simp only[go_sem,e8];try simp
  .simp only[go_sem];try rfl
 .rw[ac g1,ac g2,Bool.or_self,dF]at hx;rw[hx];simp only[go_sem,aF h1,aF h2,aE g1];refine⟨by omega,h1,by omega,h1,by omega,h2,?_⟩;simp only[go_sem,aE g2];exact ah
def brR(C:Ct)(T:Int×Ct)(mo:Int):AV:=if T.1≠0 then .tup [.agg (ou C mo),.int .i64 T.1]else .tup [.agg (ou T.2.dead mo),.int .i64 0]
def Kk(C C':Ct)(e mo:Int)(h:e≠0):brR C (e,C') mo = .tup [.agg (ou C mo),.int .i64 e]:=az h
def ahI(C C':Ct)(mo:Int):brR C (0,C') mo = .tup [.agg (ou C'.dead mo),.int .i64 0]:=rfl
def Oa(C:Ct)(mo:Int)(x:bj)(hbr:C.br=0)(h:xC 800000 C)(hl:x.lb.length<=1000)(hk:∀b∈C.bs,b.ot=true->b.k=4)(hlb:∀n∈x.lb++[x.a],0<=n/\n<9223372036854775808) :
  aj pg qj [.agg (ou C mo),fN x] (brR C (ey C x) mo):=by
 refine cE (ic:=fc 70 [72] lm.body) fD (cF lm) rfl rfl ?_;have h9:xC 900000 C:=⟨by have:=h.u;omega,by have:=h.l;omega,by have:=h.b;omega,h.r,h.t⟩
 have hu:=h.u;have hlC:=h.l;have hbC:=h.b;have a0:=H7 17 3 1 aS x.lb (by omega) (by decide);have ha:=cC 17 3 1 x.lb.length aS x.lb [[.int .i64 x.a]] rfl;obtain⟨L,hL⟩:∃L,x.lb++[x.a]=L:=⟨_,rfl⟩
 have hLl:L.length=x.lb.length+1:=by rw[<-hL];simp
 have et:(x.lb.map aS++[[AV.int .i64 x.a]])=L.map aS:=by rw[<-hL];simp[aS]
 obtain⟨T,hT⟩:∃T,ey C x=T:=⟨_,rfl⟩
 rw[hT];unfold ey at hT;rw[hL]at hT hlb;simp only[go_sem,lm,a0,ha,et,mh];refine⟨by omega,?_⟩;obtain⟨G,hG⟩:∃G,dL C L=G:=⟨_,rfl⟩
 rw[hG]at hT;refine aA (λq:Nat×List (List Int)=>⟨[(8,.int .i64 q.1),(7,.ms 900 1 0 q.2.length),(6,.sl 1 (L.map aS)),(4,.mp 4 7 0 0),(3,.mp 3 9 0 0),(2,.mp 2 7 0 0)],[(900,⟨57,1,q.2.map Pt,false⟩),(2,⟨236,7,[ou C mo],true⟩),(4,⟨236,7,[[.nl,.nl,.nl,.int .i64 0,.nl,.nl,.int .i64 0]],true⟩)]⟩)
  (λq=>q.1<=L.length/\q.2.length=q.1/\(∀l∈q.2,l.length<=1000)/\G=if(dL C (L.drop q.1)).2≠0 then dL C (L.drop q.1)else(q.2++(dL C (L.drop q.1)).1,0)) (λq=>L.length-q.1) (0,[]) ⟨dx _,rfl,(λl hl=>by cases hl),?_⟩ (((Wk.frzs [17] _).trans (Wk.nil _ 7 900 1 57 (by simp only[go_sem]) (.inl (by decide)))).trans (Wk.of ?_ ?_)) ?_
 .rw[fo,hG];split
  .rfl
  .rename_i hh;have hh:G.2=0:=Decidable.of_not_not hh;rw[gC,<-hh]
 .simp only[go_sem,St.mknil,hLl,aQ,i0,fo,dk,i9,eG]
  try (rw[show x.lb.length+1=L.length from hLl.symm,i0];trivial)
 .simp only[go_sem,St.mknil];try rfl
 rintro⟨j,R⟩ ⟨hj,hR,hRb,hx⟩;dsimp only at hj hR hRb hx;by_cases h1:(j:Int)<(L.length:Int)
 .have hj':j<L.length:=by omega
  have e8:=cK hj' (by omega);rw[PV C hj']at hx;obtain⟨lo1,lo2⟩:=hlb (av L j) (by rw[aY hj'];exact eH _);have kl:=JF C mo (av L j) hbr (by omega) lo1 lo2 hk;have lb:=zy (C:=C) h9 (av L j);generalize C.label (av L j)=Q at kl hx lb;obtain⟨l,e⟩:=Q;dsimp only at kl hx lb;simp only[cN]at kl;by_cases h2:e=0;rotate_left
  .rw[az h2]at hx;simp only at hx;rw[az h2]at hx;subst hx;dsimp only at hT;rw[az h2]at hT;subst hT;rw[Kk _ _ _ _ h2];simp only[go_sem,aF h1];refine⟨by omega,h1,?_⟩;refine ae (kl) ?_;simp only[go_sem,aE h2];exact ah
  have ha2:=cC 900 57 1 R.length Pt R [Pt l] rfl;rw[Rx]at ha2;simp only[go_sem,aF h1];refine⟨by omega,h1,?_⟩;refine ae (kl) ?_;simp only[go_sem,ay h2,ha2,mh];refine⟨by omega,?_⟩;refine aH (j+1,R++[l]) ⟨show j+1<=L.length by omega,by simp[hR],?_,?_⟩ (show L.length-(j+1)<L.length-j by omega) (Wk.of ?_ ?_)
  .intro l' hl';rcases gW.1 hl' with q|q
   .exact hRb l' q
   .rw[fS.1 q];exact lb
  .rw[hx];simp only[h2];by_cases h3:(dL C (L.drop (j+1))).2=0
   .simp[h3]
   .simp[h3]
  .simp only[go_sem,e8];try simp
  .simp only[go_sem];try simp[Rx]
 have hend:j=L.length:=by omega
 rw[hend,a_ (aQ _)]at hx;have hx:G=(R,0):=by rw[hx];simp[dL]
 subst hx;have hR0:R.length=L.length:=by rw[hR,hend]
 dsimp only at hT;rw[an (by simp)]at hT;have hw:=Wp (n:=R.length) (by omega) (by omega);have hlast:(av R (R.length-1)).length<=1000:=hRb _ (by rw[aY (by omega)];exact eH _);obtain⟨la,hla⟩:∃la,av R (R.length-1)=la:=⟨_,rfl⟩
 rw[hla]at hT hlast;simp only[go_sem,aI h1,hw,cL,dk,hla];refine⟨⟨by omega,by omega⟩,by omega,?_⟩;refine aA (λq:Nat=>⟨[(12,.int .i64 q),(11,.int .i64 la.length),(7,.sl 1 (R.map Pt)),(4,.mp 4 7 0 0),(2,.mp 2 7 0 0)],[(2,⟨236,7,[ou C mo],true⟩),(4,⟨236,7,[[.nl,.nl,.nl,.int .i64 0,.nl,.nl,.int .i64 0]],true⟩)]⟩)
  (λq=>q<=R.length/\(R.all λl=>l.length==la.length)=((R.drop q).all λl=>l.length==la.length)) (λq=>R.length-q) 0 ⟨dx _,rfl⟩ (Wk.frz_of [900] ?_ ?_) ?_
 .simp only[go_sem,aQ,i0,fo,dk];try simp
 .simp only[go_sem];try rfl
 intro j2 hh;obtain⟨hj2,hx2⟩:j2<=R.length/\(R.all λl=>l.length==la.length)=((R.drop j2).all λl=>l.length==la.length):=hh;by_cases h2:(j2:Int)<(R.length:Int)
 .have hj2':j2<R.length:=by omega
  have e8:=cK hj2' (by omega);rw[dV hj2',Cf]at hx2;have hrb:(av R j2).length<=1000:=hRb _ (by rw[aY hj2'];exact eH _);by_cases h3:(av R j2).length=la.length
  .rw[show((av R j2).length==la.length)=true from beq_iff_eq.2 h3,dM]at hx2;have h3':((av R j2).length:Int)=(la.length:Int):=by omega
   simp only[go_sem,aF h2,ay h3'];refine⟨by omega,h2,?_⟩;refine aH (j2+1) ⟨show j2+1<=R.length by omega,hx2⟩ (show R.length-(j2+1)<R.length-j2 by omega) (Wk.of ?_ ?_)
   .simp only[go_sem,e8];try simp
   .simp only[go_sem];try simp
  .rw[show((av R j2).length==la.length)=false from OD.2 h3,dF]at hx2;have h3':¬((av R j2).length:Int)=(la.length:Int):=by omega
   rw[az hx2]at hT;subst hT;rw[Kk _ _ _ _ (by decide)];simp only[go_sem,aF h2,aE h3'];refine⟨by omega,h2,?_⟩;exact ah
 have hend2:j2=R.length:=by omega
 rw[hend2,a_ (aQ _)]at hx2;have hall:(R.all λl=>l.length==la.length)=true:=hx2;rw[an (by rw[hall];decide)]at hT;have kw:=yq C.s mo [1] (by omega) (by omega) (by decide);have wl:=lB [aS 1];obtain⟨b1,b2⟩:=ez C.s [1];generalize C.s.want [1]=Q at kw b1 b2 hT;obtain⟨e,S1⟩:=Q;dsimp only at kw b1 b2 hT;simp only[dh]at kw;simp only[go_sem,aI h2];refine ax wl (by simp[go_sem]) rfl ?_;simp only[go_sem];refine ax kw (by simp[go_sem]) rfl ?_;by_cases e5:e=0;rotate_left
 .rw[az e5]at hT;subst hT;rw[Kk _ _ _ _ e5];simp only[go_sem,aE e5];exact ah
 rw[an (λq=>q e5)]at hT;have kp:=agb S1 mo la.length (by rw[b1];omega) (by omega) (by omega);obtain⟨c1,c2,c3⟩:=N7 la.length S1 [];have c4:=Wm la.length S1 [];generalize gI la.length S1 []=Pp at kp c1 c2 c3 c4 hT;obtain⟨l,e6,S2⟩:=Pp;dsimp only at kp c1 c2 c3 c4 hT;simp only[dh,aa6]at kp;simp only[go_sem,ay e5];refine ae (kp) ?_;by_cases e7:e6=0;rotate_left
 .rw[az e7]at hT;subst hT;rw[Kk _ _ _ _ e7];simp only[go_sem,aE e7];exact ah
 rw[an (λq=>q e7)]at hT;simp only[go_sem,ay e7,az e7];refine aA (λq:Nat=>⟨[(16,.int .i64 q),(15,.sl 1 (l.map aS)),(13,.mp 13 4 0 0),(7,.sl 1 (R.map Pt)),(4,.mp 4 7 0 0),(2,.mp 2 7 0 0)],[(13,⟨233,4,[E5 S2 mo],true⟩),(2,⟨236,7,[ou C mo],true⟩),(4,⟨236,7,[[.nl,.nl,.nl,.int .i64 0,.nl,.nl,.int .i64 0]],true⟩)]⟩)
  (λq=>q<=R.length/\(R.all λr=>g_ l r)=((R.drop q).all λr=>g_ l r)) (λq=>R.length-q) 0 ⟨dx _,rfl⟩ (Wk.of ?_ ?_) ?_
 .simp only[go_sem];try simp
 .simp only[go_sem,dh];try rfl
 intro q hh;obtain⟨hq,hx3⟩:q<=R.length/\(R.all λr=>g_ l r)=((R.drop q).all λr=>g_ l r):=hh;by_cases h7:(q:Int)<(R.length:Int)
 .have hq':q<R.length:=by omega
  have e8:=cK hq' (by omega);rw[dV hq',Cf]at hx3;have hrl:(av R q).length<=1000:=hRb _ (by rw[aY hq'];exact eH _);obtain⟨rw1,hrw⟩:∃r,av R q=r:=⟨_,rfl⟩
  rw[hrw]at hx3 hrl;have hln:l.length=la.length:=by have:=c4 e7;rw[this];rfl
  have cf:=af7 l rw1 (by omega) (by omega);simp only[go_sem,aF h7,hrw];refine⟨by omega,h7,?_⟩;refine ae (cf) ?_;cases hf:g_ l rw1
  .rw[hf,dF]at hx3;rw[az hx3]at hT;subst hT;rw[Kk _ _ _ _ (by decide)];simp only[go_sem];exact ah
  .rw[hf,dM]at hx3;simp only[go_sem];refine aH (q+1) ⟨show q+1<=R.length by omega,hx3⟩ (show R.length-(q+1)<R.length-q by omega) (Wk.of ?_ ?_)
   .simp only[go_sem,e8];try simp
   .simp only[go_sem];try rfl
 have hqe:q=R.length:=by omega
 rw[hqe,a_ (aQ _)]at hx3;rw[an (by rw[hx3];simp)]at hT;subst hT;have cd:=Ob {C with s:=S2} mo hbr ⟨by show S2.u.length<=_;rw[c1,b1];exact hu,by show S2.all.length<=_;omega,h.b,h.r,h.t⟩;rw[ahI];generalize ({C with s:=S2}:Ct).dead=D at cd⊢;simp only[cN,dh]at cd⊢;simp only[go_sem,aI h7,dh];refine aa (cd) ?_;exact ah
end
open Go Go.Mw
def ae4{x:bj}(hp:rA x=true)(h14:x.op=14):x.lb.all qE=true:=by
 have e:GO x.op=3:=by rw[h14];decide +kernel
 unfold rA plR at hp;rw[e]at hp;simp only[dX]at hp;obtain⟨_,_,_,_,hf⟩:=hp;unfold abq at hf;rw[an (by decide),an (by decide),az rfl]at hf;simp only[dX]at hf;exact hf.2.2.2
def RH(C:Ct):Prop:=∀b∈C.bs,b.ot=true->b.k=4
def gdR(mo:Int)(R:Int×Ct):Prop:=R.1=0->R.2.br=0/\RH R.2/\oT R.2.s (D_ mo R.2.s.all.length)
def zp{mo e:Int}{C:Ct}(h:e≠0):gdR mo (e,C):=λz=>absurd z h
def ai9{U:Sk}{mo:Int}(l:List Int)(h:oT U mo):oT (U.opn.push l) (D_ mo (U.opn.push l).all.length):=by
 rw[dW,dN];exact rz (S:=U.opn) l h
def ai_{U:Sk}{mo:Int}(l:List Int)(h:oT U mo):oT (U.push l) (D_ mo (U.push l).all.length):=by
 rw[dW,dN];exact rz l h
def acq{mo:Int}{C:Ct}{b:Bk}(hb:C.br=0)(h:RH C)(hv:oT C.s mo)(hk:b.ot=true->b.k=4):gdR mo (0,C.begin b):=λ_=>by
 refine⟨hb,λb' hb'=>?_,ai9 _ hv⟩;rcases gW.1 hb' with q|q
 .exact h b' q
 .rw[fS.1 q];exact hk
def XS{S:Sk}{mo:Int}(l:List Int)(h:oT S mo):oT (S.want l).2 mo:=by unfold oT;rw[nw];exact h
def Xy{S:Sk}{mo:Int}(l:List Int)(h:oT S mo):oT (S.shut l).2 mo:=by unfold oT;rw[abE];exact h
def Hs{mo:Int}{C:Ct}(hb:C.br=0)(h:RH C)(hv:oT C.s mo)(op:Int)(t:Ft):gdR mo (C.enter2 op t):=by
 unfold Ct.enter2;split
 .rename_i q;exact zp q
 .exact acq (C:={C with s:=(C.s.want t.ps).2}) hb h (XS _ hv) (λq=>by cases q)
def KB{mo:Int}{C:Ct}(hb:C.br=0)(h:RH C)(hv:oT C.s mo)(op:Int)(t:Ft):gdR mo (C.enter op t):=by
 unfold Ct.enter;split
 .rename_i q;exact absurd hb q
 split
 .exact zp (by decide)
 split
 .exact zp (by decide)
 split
 .split
  .rename_i q;exact zp q
  .exact Hs (C:={C with s:=(C.s.want [1]).2}) hb h (XS _ hv) op t
 .exact Hs hb h hv op t
def Uj{mo:Int}{C:Ct}(hb:C.br=0)(h:RH C)(hv:oT C.s mo):gdR mo C.els:=by
 unfold Ct.els;split
 .rename_i q;exact absurd hb q
 split
 .exact zp (by decide)
 split
 .rename_i q;exact zp q
 .rename_i q1 q2 q3;refine acq (C:={C with s:=(C.s.shut C.top.t.rs).2,bs:=C.bs.dropLast}) hb (λb hb=>h b (List.dropLast_subset _ hb)) (Xy _ hv) λ_=>?_;show C.top.k=4;by_cases z:C.top.k=4
  .exact z
  .exact absurd (.inr (.inl z)) q2
def KC{mo:Int}{C:Ct}(hb:C.br=0)(h:RH C)(hv:oT C.s mo):gdR mo C.leave:=by
 unfold Ct.leave;split
 .rename_i q;exact absurd hb q
 split
 .exact zp (by decide)
 split
 .rename_i q;exact zp q
 split
 .exact zp (by decide)
 .exact λ_=>⟨hb,λb hb=>h b (List.dropLast_subset _ hb),ai_ _ (Xy _ hv)⟩
def Ui{mo:Int}{R:Int×Ct}(h:gdR mo R):Cg (TR R mo) R:=aho λz=>(h z).2.2
def Cg.as{r:AV}{R R':Int×Ct}(h:Cg r R)(h1:R'.1=R.1)(h2:R.1=0->R'=R):Cg r R':=by
 obtain⟨C',mo',e,k⟩:=h;refine⟨C',mo',by rw[h1];exact e,λz=>?_⟩;rw[h1]at z;rw[h2 z];exact k z
def XT(S:Sk)(l:List Int)(t:Int):S.want (l++[t])=if(S.want [t]).1≠0 then S.want [t]else if((S.want [t]).2.want l).1≠0 then(((S.want [t]).2.want l).1,S)else(S.want [t]).2.want l:=by
 rw[yy,yy S [t],List.reverse_append];simp only[List.reverse_cons,List.reverse_nil,gC,List.singleton_append,oG];have key:dP S.t.lo S.t.l.reverse (t::l.reverse)=match dP S.t.lo S.t.l.reverse [t]with
   | (none,e)=>(none,e)
   | (some r,_)=>dP S.t.lo r l.reverse:=by
  generalize S.t.l.reverse=ts;cases ts with
  | nil =>
   rw[N6,N6];split
   .rw[Jy]
   .rfl
  | cons a r =>
   rw[N4,N4];split
   .rfl
   .rw[Jy]
 rw[key];have hpe:=EP S.t.lo S.t.l.reverse [t];generalize dP S.t.lo S.t.l.reverse [t]=P at hpe⊢;obtain⟨o,e⟩:=P;cases o with
 | none =>
  rw[az (show(xH S (none,e)).1≠0 from hpe rfl)]
 | some r =>
  rw[an (λq=>q rfl)];show xH S (dP S.t.lo r l.reverse)=if((wt S r).want l).1≠0 then(((wt S r).want l).1,S)else(wt S r).want l
  rw[yy (wt S r) l];have e1:(wt S r).t.l.reverse=r:=List.reverse_reverse r;have e2:(wt S r).t.lo=S.t.lo:=rfl;rw[e1,e2];have hpe2:=EP S.t.lo r l.reverse;generalize dP S.t.lo r l.reverse=P2 at hpe2⊢;obtain⟨o2,e2⟩:=P2;cases o2 with
  | none=>rw[az (show(xH (wt S r) (none,e2)).1≠0 from hpe2 rfl)];rfl
  | some r2=>rw[an (λq=>q rfl)];rfl
def abS(C:Ct)(f:Ft):(i1 C.s f).1=(Ow C f).1/\((Ow C f).1=0->(⟨(i1 C.s f).1,{C with s:=(i1 C.s f).2}⟩:Int×Ct)=Ow C f):=by
 unfold i1 Ow;by_cases z:(C.s.want f.ps).1=0
 .rw[an (λq=>q z),an (λq=>q z)];exact⟨rfl,λ_=>rfl⟩
 .rw[az z,az z];exact⟨rfl,λq=>absurd q z⟩
def brf(C:Ct)(l:List Int):Int×Ct:=if(C.s.want [1]).1≠0 then((C.s.want [1]).1,{C with s:=(C.s.want [1]).2})else((i1 (C.s.want [1]).2 ⟨l,l⟩).1,{C with s:=(i1 (C.s.want [1]).2 ⟨l,l⟩).2})
def adH(C:Ct)(l:List Int):(brf C l).1=(Ow C ⟨l++[1],l⟩).1/\((Ow C ⟨l++[1],l⟩).1=0->brf C l=Ow C ⟨l++[1],l⟩):=by
 unfold brf Ow;rw[XT];by_cases z:(C.s.want [1]).1=0;rotate_left
 .simp only[az z];exact⟨trivial,λq=>absurd q z⟩
 simp only[an (λq:(C.s.want [1]).1≠0=>q z)];unfold i1;by_cases z2:((C.s.want [1]).2.want l).1=0
 .simp only[an (λq:((C.s.want [1]).2.want l).1≠0=>q z2)];exact⟨trivial,λ_=>trivial⟩
 .simp only[az z2];exact⟨trivial,λq=>absurd q z2⟩
def M9(C:Ct):C.dead.bs=C.bs/\C.dead.br=C.br:=by
 unfold Ct.dead;split<;>exact⟨rfl,rfl⟩
def Kp(e:Int)(C:Ct)(S:Sk):(eP (e,{C with s:=S})).2.bs=C.bs/\(eP (e,{C with s:=S})).2.br=C.br:=by
 unfold eP;split
 .exact M9 {C with s:=S}
 .exact⟨rfl,rfl⟩
def Kl(C:Ct)(x:bj):(eO C x).2.bs=C.bs/\(eO C x).2.br=C.br:=by
 unfold eO;dsimp only;generalize (if x.op≠15/\x.op≠14 then C.label x.a else(C.retn,0))=L;split
 .exact⟨rfl,rfl⟩
 split
 .obtain⟨S,hS,_⟩:=Dc C x;have:ey C x=((ey C x).1,{C with s:=S}):=by rw[<-hS]
  rw[this];exact Kp _ C S
 split
 .split<;>exact⟨rfl,rfl⟩
 .exact Kp _ C _
def ahl{C:Ct}(s:Sp)(lo:List Int)(x:bj)(hb:C.br=0)(h:RH C)(z:(fE C s lo x).1=0):(fE C s lo x).2.br=0/\RH (fE C s lo x).2:=by
 have same:∀D:Ct,D.bs=C.bs->D.br=C.br->D.br=0/\RH D:=λD e1 e2=>⟨by rw[e2,hb],λb q=>h b (by rw[<-e1];exact q)⟩
 have hv:∃mo,oT C.s mo:=by
  cases q:C.s.ov
  .exact⟨0,by unfold oT;rw[q];rfl⟩
  .exact⟨257,by unfold oT;rw[q];rfl⟩
 obtain⟨mo,hv⟩:=hv;have use:∀R:Int×Ct,gdR mo R->R.1=0->R.2.br=0/\RH R.2:=λR g q=>⟨(g q).1,(g q).2.1⟩
 revert z;unfold fE;split
 .exact λz=>absurd (show(10:Int)=0 from z) (by decide)
 split
 .split
  .exact λz=>absurd (show(11:Int)=0 from z) (by decide)
  .exact use _ (KB hb h hv _ _)
 split
 .exact use _ (Uj hb h hv)
 split
 .exact use _ (KC hb h hv)
 split
 .exact λ_=>same _ (M9 C).1 (M9 C).2
 split
 .exact λ_=>same _ (Kl C x).1 (Kl C x).2
 split
 .exact λ_=>same _ rfl rfl
 split
 .rename_i q;exact λz=>absurd z q
 .exact λ_=>same _ rfl rfl
def agF{C:Ct}{x:bj}(z:(ey C x).1=0):(ey C x).2.s.ov=C.s.ov/\(ey C x).2.s.all.length<=C.s.all.length:=by
 obtain⟨S,hS,_,h2⟩:=Dc C x;refine⟨?_,by rw[hS];exact h2⟩;revert z;unfold ey;dsimp only;split
 .exact λ_=>rfl
 split
 .exact λ_=>rfl
 split
 .exact λ_=>nw C.s [1]
 have:=(N7 (av (dL C (x.lb++[x.a])).1 ((dL C (x.lb++[x.a])).1.length-1)).length (C.s.want [1]).2 []).2.2;have w:=nw C.s [1];split
 .exact λ_=>this.trans w
 split
 .exact λ_=>this.trans w
 .exact λ_=>this.trans w
def ahN{C:Ct}{mo:Int}(x:bj)(hv:oT C.s mo)(hl:(C.s.all.length:Int)<=mo):Cg (brR C (ey C x) mo) (eP (ey C x)):=by
 unfold brR eP;by_cases z:(ey C x).1=0
 .rw[an (λq=>q z),az z];obtain⟨t1,t2⟩:=agF z;obtain⟨d1,d2⟩:=M8 (ey C x).2;exact BR (by unfold oT at hv⊢;rw[d1,t1,hv]) (by omega)
 .rw[az z,an z];exact⟨C,mo,rfl,λq=>absurd q z⟩
section
def ahJ{C:Ct}{x:bj}(h:x.op=12):eO C x=if(C.label x.a).2≠0 then((C.label x.a).2,C)else eP ((C.s.want (C.label x.a).1).1,{C with s:=(C.s.want (C.label x.a).1).2}):=by unfold eO;simp[h]
def ahK{C:Ct}{x:bj}(h:x.op=13):eO C x=if(C.label x.a).2≠0 then((C.label x.a).2,C)else brf C (C.label x.a).1:=by unfold eO brf;simp[h]
def ahL{C:Ct}{x:bj}(h:x.op=14):eO C x=eP (ey C x):=by unfold eO;simp[h]
def ahM{C:Ct}{x:bj}(h:x.op=15):eO C x=eP ((C.s.want C.retn).1,{C with s:=(C.s.want C.retn).2}):=by unfold eO;simp[h]
attribute[local go_sem] bY cN fC fg aW bV aM
def abc(m:Md)(lo:List Int)(x:bj)(C:Ct)(mo:Int)(hbr:C.br=0)(h:xC 800000 C)(hot:RH C)(hv:oT C.s mo)(hle:(C.s.all.length:Int)<=mo)(hb:B_ m)(hds:m.ds.length<=10000)(hty:rK (bO m))(hsm:C_ x)(hlb:x.lb.length<=1000)(hlo:lo.length<=9000000) :
  ∃r,aj pg Gx [.agg (ou C mo),ba m,.sl 1 (lo.map aS),fN x] r/\Cg r (fE C (bO m) lo x):=by
 have cP:=WJ x hsm;have hbl:=h.b;have hbs:C.bs.length<1000000:=by omega
 unfold fE;cases hp:rA x
 .rw[az rfl];rw[hp]at cP;refine⟨_,?_,kZ (C:=C) (mo:=mo) (show(10:Int)≠0 by decide)⟩;refine ao aP ?_;simp only[bV]at cP;simp only[go_sem,aP,ba];refine aa (cP) ?_;exact ah
 rw[an (by decide)];rw[hp]at cP;obtain⟨pa,pb,pf⟩:=N2 hsm hp;have ixb:∀z:Int,qE z=true->0<=z/\z<9223372036854775808:=λz q=>by
  simp only[qE,dX,ol]at q;omega
 have ha:=ixb _ pa;have hx:=ixb _ pb;by_cases q1:x.op=2\/x.op=3\/x.op=4
 .rw[az q1];have cb:=Wv m x.k x.v x.x hb.ts;have hbn:=λf=>TA (f:=f) hty (k:=x.k) (v:=x.v) (x:=x.x);generalize (bO m).blk x.k x.v x.x=Q at cb hbn⊢;simp only[ba,aM,aW]at cb;cases Q with
  | none =>
   dsimp only;refine⟨_,?_,kZ (C:=C) (mo:=mo) (show(11:Int)≠0 by decide)⟩;refine ao aP ?_;simp only[bV]at cP;simp only[go_sem,aP,ba];refine ae (cP) ?_;rcases q1 with q|q|q
   all_goals
    simp only[go_sem,q];refine ae (cb) ?_;simp only[go_sem,Option.isSome_none];exact ah
  | some f =>
   dsimp only;obtain⟨r,c,A⟩:∃r,aj pg xr [.agg (ou C mo),.int .i64 x.op,.agg (pt f)] r/\Cg r (C.enter x.op f):=⟨_,abf C mo x.op f hbr h ⟨by have:=(hbn f rfl).1;omega,by have:=(hbn f rfl).2;omega⟩,Ui (KB hbr hot hv x.op f)⟩
   generalize C.enter x.op f=R at A⊢;refine⟨_,?_,A⟩;obtain⟨C',mo',rfl,-⟩:=A;refine ao aP ?_;simp only[cN,fC,ba,aM,bV,aW]at c cP⊢;simp only[go_sem,aP,ba];refine ae (cP) ?_;rcases q1 with q|q|q
   all_goals
    rw[q]at c;simp only[go_sem,q];refine ae (cb) ?_;simp only[go_sem,Option.isSome_some,cG];refine aa (c) ?_;exact ah
 rw[an q1];by_cases n5:x.op=5
 .rw[az n5];obtain⟨r,c,A⟩:∃r,aj pg zD [.agg (ou C mo)] r/\Cg r C.els:=⟨_,WA C mo hbr h,Ui (Uj hbr hot hv)⟩
  generalize C.els=R at A⊢;refine⟨_,?_,A⟩;obtain⟨C',mo',rfl,-⟩:=A;refine ao aP ?_;simp only[cN,fC,ba,aM,bV,aW]at c cP⊢;simp only[go_sem,aP,ba];refine ae (cP) ?_;simp only[go_sem,n5];refine aa (c) ?_;exact ah
 rw[an n5];by_cases zA:x.op=11
 .rw[az zA];obtain⟨l1,l2⟩:=aaw hbr;have gl:=KC hbr hot hv;obtain⟨r,c,A⟩:∃r,aj pg xt [.agg (ou C mo)] r/\Cg r C.leave:=⟨_,abi C mo hbr h,Cg.as (Ui (R:=C.leaveR) (λz=>by rw[l2 (by rw[<-l1];exact z)];exact gl (by rw[<-l1];exact z))) l1.symm (λz=>(l2 (by rw[<-l1];exact z)).symm)⟩
  generalize C.leave=R at A⊢;refine⟨_,?_,A⟩;obtain⟨C',mo',rfl,-⟩:=A;refine ao aP ?_;simp only[cN,fC,ba,aM,bV,aW]at c cP⊢;simp only[go_sem,aP,ba];refine ae (cP) ?_;simp only[go_sem,zA];refine aa (c) ?_;exact ah
 rw[an zA];by_cases n0:x.op=0
 .rw[az n0];obtain⟨d1,d2⟩:=M8 C;have c:=Ob C mo hbr h;have A:Cg (.tup [.agg (ou C.dead mo),.int .i64 0]) (0,C.dead):=BR (by unfold oT at hv⊢;rw[d1];exact hv) (by omega);generalize C.dead=D at c A⊢;refine⟨_,?_,A⟩;refine ao aP ?_;simp only[cN,bV]at c cP⊢;simp only[go_sem,aP,ba];refine ae (cP) ?_;simp only[go_sem,n0];refine aa (c) ?_;exact ah
 rw[an n0];by_cases n15:x.op=15
 .rw[az (.inr (.inr (.inr n15))),ahM n15];have cr:=WL C mo hbr;have hrl:C.retn.length<=1000:=by unfold Ct.retn;split;exact dx _;exact h.r
  obtain⟨r,c,A⟩:=L_ C mo C.retn hbr h hv hle hrl;generalize eP ((C.s.want C.retn).1,{C with s:=(C.s.want C.retn).2})=R at A⊢;generalize C.retn=rt at cr c;simp only[cN]at cr;refine⟨_,?_,A⟩;obtain⟨C',mo',rfl,-⟩:=A;refine ao aP ?_;simp only[cN,fC,ba,aM,bV,aW]at c cP⊢;simp only[go_sem,aP,ba];refine ae (cP) ?_;simp only[go_sem,n15];refine ax cr (by simp[go_sem]) rfl ?_;simp only[go_sem];refine aa (c) ?_;exact ah
 by_cases n12:x.op=12
 .rw[az (.inl n12),ahJ n12];have cl:=JF C mo x.a hbr hbs ha.1 ha.2 hot;have lb:=zy (C:=C) ⟨by have:=h.u;omega,by have:=h.l;omega,by have:=h.b;omega,h.r,h.t⟩ x.a;generalize C.label x.a=Q at cl lb⊢;obtain⟨l,e⟩:=Q;dsimp only at cl lb⊢;simp only[cN]at cl;by_cases z:e=0
  .rw[an (λq=>q z)];obtain⟨r,c,A⟩:=L_ C mo l hbr h hv hle lb;generalize eP ((C.s.want l).1,{C with s:=(C.s.want l).2})=R at A⊢;rw[z]at cl;refine⟨_,?_,A⟩;obtain⟨C',mo',rfl,-⟩:=A;refine ao aP ?_;simp only[cN,fC,ba,aM,bV,aW]at c cP⊢;simp only[go_sem,aP,ba];refine ae (cP) ?_;simp only[go_sem,n12];refine aa (cl) ?_;refine aa (c) ?_;exact ah
  .rw[az z];obtain⟨r,c,A⟩:∃r,aj pg n8 [.agg (ou C mo),.sl 1 (l.map aS),.int .i64 e] r/\Cg r (e,C):=⟨_,Od C mo e _ z,kZ z⟩
   refine⟨_,?_,A⟩;obtain⟨C',mo',rfl,-⟩:=A;refine ao aP ?_;simp only[cN,fC,ba,aM,bV,aW]at c cP⊢;simp only[go_sem,aP,ba];refine ae (cP) ?_;simp only[go_sem,n12];refine aa (cl) ?_;refine aa (c) ?_;exact ah
 by_cases n13:x.op=13
 .rw[az (.inr (.inl n13)),ahK n13];have cl:=JF C mo x.a hbr hbs ha.1 ha.2 hot;have lb:=zy (C:=C) ⟨by have:=h.u;omega,by have:=h.l;omega,by have:=h.b;omega,h.r,h.t⟩ x.a;generalize C.label x.a=Q at cl lb⊢;obtain⟨l,e⟩:=Q;dsimp only at cl lb⊢;simp only[cN]at cl;by_cases z:e=0
  .rw[an (λq=>q z)];obtain⟨b1,b2⟩:=adH C l;obtain⟨r,c,A⟩:∃r,aj pg pD [.agg (ou C mo),.agg (pt ⟨l++[1],l⟩)] r/\Cg r (brf C l):=⟨_,JG C mo ⟨l++[1],l⟩ h ⟨by show(l++[1]).length<=_;rw[dN];show l.length+1<=_;omega,by show l.length<=_;omega⟩,Cg.as (ac4 hv) b1 b2⟩
   generalize brf C l=R at A⊢;rw[z]at cl;have a0:=H7 98 48 1 aS l (by omega) (by decide);have ha2:=cC 98 48 1 l.length aS l [[.int .i64 1]] rfl;have et:(l.map aS++[[AV.int .i64 1]]).take (l.length+1)=(l++[1]).map aS:=by
    rw[iF (by simp)];simp[aS]
   refine⟨_,?_,A⟩;obtain⟨C',mo',rfl,-⟩:=A;refine ao aP ?_;simp only[cN,fC,ba,aM,bV,aW]at c cP⊢;simp only[go_sem,aP,ba];refine ae (cP) ?_;simp only[go_sem,n13];refine ae (cl) ?_;simp only[go_sem,a0,ha2];refine⟨by omega,?_⟩;refine be (eJ.frzs [98] _ _) ?_;simp only[go_sem,aQ,fo,dk,dN,i9,eG,et];refine aa (c) ?_;exact ah
  .rw[az z];refine⟨_,?_,kZ (C:=C) (mo:=mo) z⟩;refine ao aP ?_;simp only[bV]at cP;simp only[go_sem,aP,ba];refine ae (cP) ?_;simp only[go_sem,n13];refine ae (cl) ?_;simp only[go_sem,aE z];exact ah
 by_cases n14:x.op=14
 .rw[az (.inr (.inr (.inl n14))),ahL n14];have hlba:=ae4 hp n14
  obtain⟨r,c,A⟩:∃r,aj pg qj [.agg (ou C mo),fN x] r/\Cg r (eP (ey C x)):=⟨_,Oa C mo x hbr h hlb hot (λn hn=>by
   rcases gW.1 hn with q|q
   .exact ixb _ (ii.1 hlba n q)
   .rw[fS.1 q];exact ha),ahN x hv hle⟩
  generalize eP (ey C x)=R at A⊢;refine⟨_,?_,A⟩;obtain⟨C',mo',rfl,-⟩:=A;refine ao aP ?_;simp only[cN,fC,ba,aM,bV,aW]at c cP⊢;simp only[go_sem,aP,ba];refine ae (cP) ?_;simp only[go_sem,n14];simp only[n14]at c;refine aa (c) ?_;exact ah
 rw[an (by omega)];by_cases n26:x.op=26
 .rw[az (.inl n26),n26];obtain⟨r,c,A⟩:=af6 C mo h hv hle;generalize ((f_ C.s 26).1,({C with s:=(f_ C.s 26).2}:Ct))=R at A⊢;refine⟨_,?_,A⟩;obtain⟨C',mo',rfl,-⟩:=A;refine ao aP ?_;simp only[cN,fC,ba,aM,bV,aW]at c cP⊢;simp only[go_sem,aP,ba];refine ae (cP) ?_;simp only[go_sem,n26];refine aa (c) ?_;exact ah
 by_cases n27:x.op=27
 .rw[az (.inr (.inl n27)),n27];obtain⟨r,c,A⟩:=WN C mo h hv hle;generalize ((f_ C.s 27).1,({C with s:=(f_ C.s 27).2}:Ct))=R at A⊢;refine⟨_,?_,A⟩;obtain⟨C',mo',rfl,-⟩:=A;refine ao aP ?_;simp only[cN,fC,ba,aM,bV,aW]at c cP⊢;simp only[go_sem,aP,ba];refine ae (cP) ?_;simp only[go_sem,n27];refine aa (c) ?_;exact ah
 by_cases n209:x.op=209
 .rw[az (.inr (.inr n209)),n209];obtain⟨r,c,A⟩:=WC C mo h hv hle;generalize ((f_ C.s 209).1,({C with s:=(f_ C.s 209).2}:Ct))=R at A⊢;refine⟨_,?_,A⟩;obtain⟨C',mo',rfl,-⟩:=A;refine ao aP ?_;simp only[cN,fC,ba,aM,bV,aW]at c cP⊢;simp only[go_sem,aP,ba];refine ae (cP) ?_;simp only[go_sem,n209];refine aa (c) ?_;exact ah
 rw[an (by omega)];have hw:wOk x.op:=alY hp (by simp only[XC,bM,cH,or_false,not_or];omega);have n2:x.op≠2:=by omega
 have n3:x.op≠3:=by omega
 have n4:x.op≠4:=by omega
 have h6:bN x.op=6->0<x.ty.length:=λq6=>by
  rw[q6]at pf;simp only[xZ]at pf;rw[an (by decide),az trivial]at pf;simp only[dX,beq_iff_eq]at pf;omega
 have cW:=aba m lo x hb hds ha hx hsm hlo h6 hw hp;have tn:=JW hty lo x;generalize i3 (bO m) lo x=T at cW tn⊢;obtain⟨f,e⟩:=T;obtain⟨tn1,tn2⟩:=tn;dsimp only at cW tn1 tn2⊢;simp only[ba,aM,Xb,aW,bV]at cW;by_cases z:e=0;rotate_left
 .rw[az z];refine⟨_,?_,kZ (C:=C) (mo:=mo) z⟩;refine ao aP ?_;simp only[bV]at cP;simp only[go_sem,aP,ba];refine ae (cP) ?_;simp only[go_sem,ac n2,ac n3,ac n4,ac n5,ac zA,ac n0,ac n15,ac n12,ac n13,ac n14,ac n26,ac n27,ac n209];refine ae (cW) ?_;simp only[go_sem,aE z];exact ah
 rw[an (λq=>q z)];obtain⟨t1,t2⟩:=abS C f;obtain⟨r,c,A⟩:∃r,aj pg pD [.agg (ou C mo),.agg (pt f)] r/\Cg r ((i1 C.s f).1,{C with s:=(i1 C.s f).2}):=⟨_,JG C mo f h ⟨by omega,by omega⟩,Cg.as (ac4 hv) t1 t2⟩
 generalize ((i1 C.s f).1,({C with s:=(i1 C.s f).2}:Ct))=R at A⊢;refine⟨_,?_,A⟩;obtain⟨C',mo',rfl,-⟩:=A;refine ao aP ?_;simp only[cN,fC,ba,aM,bV,aW]at c cP⊢;simp only[go_sem,aP,ba];refine ae (cP) ?_;simp only[go_sem,ac n2,ac n3,ac n4,ac n5,ac zA,ac n0,ac n15,ac n12,ac n13,ac n14,ac n26,ac n27,ac n209];refine ae (cW) ?_;simp only[go_sem,ay z];refine aa (c) ?_;exact ah
