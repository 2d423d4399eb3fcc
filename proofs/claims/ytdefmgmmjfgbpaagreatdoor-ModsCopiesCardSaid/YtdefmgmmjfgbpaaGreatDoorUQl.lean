import Derived.Test.YtdefmgmmjfgbpaaGreatDoorUQk
set_option linter.all false
set_option maxRecDepth 100000
set_option maxHeartbeats 40000000
namespace Go.Proofs.YtdefmgmmjfgbpaaGreatDoor
open Go Go.Mw
instance:Inhabited Fa:=⟨NU⟩
section
attribute [local go_sem] kL jf jg kM kN jd ij je kF kD kE jz xy
theorem MC {f:FuncId} {args:List AV} {Sb:Nat→Prop} {Post:AV→List (Nat×ac)→Prop} {y:AV} (h:aE Tryz.prog f args [] Sb Post) (hr:∀r σ',Post r σ'→t7 (ab σ') r y) (hy:ax y=[]):ak Tryz.prog f args y:=by
 intro bl MF w cargs t1 t2 h1 h2 h3
 refine (h bl MF w cargs t1 t2 h1 h2 h3).mono ?_
 rintro e w' ⟨v,r,σ',bl',rfl,hp,hc,hH,hv,hst,hnew,hsb⟩
 have hm:aT bl MF (ab [])=MF:=by
  funext b
  exact propext ⟨fun h=>h.elim (fun h=>h) (fun ⟨_,_,h,_⟩=>by cases h),.inl⟩
 refine ⟨v,y,[],bl,rfl,⟨rfl,rfl⟩,⟨fun i hi=>(by rw [hy] at hi;cases hi),fun p hp=>(by cases hp)⟩,⟨fun id o h=>(by cases h),fun id id' o o' b h=>(by cases h)⟩,?_,hst,fun id o b h=>(by cases h),fun id h=>h.elim⟩
 rw [hm]
 exact (hr r σ' hp).toV hH (fun b hb hf=>hb (.inl hf)) hv
theorem yE (o:ac):dk [] o=o:=by
 unfold dk
 split
 ·have e:o.rows.map (fun r=>r.map (gz []))=o.rows:=by
   conv=>rhs;rw [← List.map_id o.rows]
   refine List.map_congr_left fun r _=>?_
   conv=>rhs;rw [id,← List.map_id r]
   exact List.map_congr_left fun x _=>by simp [gz]
  rw [e]
 ·rfl
theorem xn {f:FuncId} {args:List AV} {E G:List (Nat×ac)} {Sb:Nat→Prop} {d:Option Nat} {env:List (Nat×AV)} {K:St→Prop} (h:aE Tryz.prog f args G Sb (fun r σ'=>r = .tup []∧σ'=[])) (hE:∀p∈E,∀q∈G,p.1≠q.1)
  (hk:K ((St.mk env E).put d (.tup []))):dB Tryz.prog f args d ⟨env,E++G⟩ K:=by
 have hEG:∀{id o o'},ab E id=some o→ab G id=some o'→False:=fun {id o o'} h1 h2=>hE _ (aR h1) _ (aR h2) rfl
 refine .inl (.inr ⟨G,Sb,_,[],h,fun id o hg=>?_,fun r σ' hp id hi=>?_,fun r σ' hp=>?_⟩)
 ·show ab (E++G) id=some o
  rw [eE]
  cases he:ab E id with
  | none=>exact hg
  | some o'=>exact (hEG he hg).elim
 ·rw [hp.2] at hi;cases hi
 ·obtain ⟨rfl,rfl⟩:=hp
  refine ⟨⟨env,E⟩,fun k=>by simp [fW],fun j=>?_,hk⟩
  simp only [eE,sZ,ab]
  cases he:ab E j with
  | none =>
   cases hg:ab G j with
   | none=>simp
   | some o=>simp
  | some o =>
   cases hg:ab G j with
   | none=>simp [yE]
   | some o'=>exact (hEG he hg).elim
theorem KV {m:Md} (h:KU m):Nr m:=by
 have uI:∀{l:List cN},lD l→tI l:=fun h=>⟨cE h.1 (by decide),fun x hx=>by obtain ⟨h1,h2,h3⟩:=h.2 x hx;exact ⟨cE h1 (by decide),cE h2 (by decide),h3⟩⟩
 have up:∀{n:Nat},n≤1048576→n≤140737488355328:=fun h=>cE h (by decide)
 have uq:∀{n:Nat},n≤1048576→n≤9223372036854775807:=fun h=>cE h (by decide)
 exact ⟨⟨up h.ts.1,fun x hx=>⟨uq (h.ts.2 x hx).1,uq (h.ts.2 x hx).2⟩⟩,up h.ims,⟨up h.fs.1,fun x hx=>⟨uq (h.fs.2 x hx).1,uI (h.fs.2 x hx).2⟩⟩,up h.tbs,up h.ms,⟨up h.gs.1,fun x hx=>uI (h.gs.2 x hx)⟩,up h.exs,
  ⟨up h.els.1,fun x hx=>⟨uI (h.els.2 x hx).1,up (h.els.2 x hx).2.1,fun l hl=>uI ((h.els.2 x hx).2.2 l hl)⟩⟩,⟨up h.ds.1,fun x hx=>⟨uI (h.ds.2 x hx).1,uq (h.ds.2 x hx).2⟩⟩,⟨up h.cs.1,fun x hx=>uq (h.cs.2 x hx)⟩⟩
theorem nG {f:FuncId} {args args':List AV} {r:AV} {E G:List (Nat×ac)} {d:Option Nat} {env:List (Nat×AV)} {K:St→Prop} (hp:ak Tryz.prog f args' r) (hf:ii r=true) (hr:aC (t7 (ab G)) args args') (hid:∀x∈args',ax x=[]) (hcl:∀p∈G,∀i∈bo p.2,(ab G i).isSome=true)
  (hE:∀p∈E,∀q∈G,p.1≠q.1) (hk:K ((St.mk env (E++G)).put d r)):dB Tryz.prog f args d ⟨env,E++G⟩ K:=by
 refine p_ (aE.lend hp hf (pH.rep hr) hid hcl (fun _=>True)) (fun _ _=>trivial) hE (fun r σ' h=>by rw [h.2];exact fun _ h=>h) (fun r σ' h=>?_)
 rw [h.1,h.2]
 exact hk
theorem Lr (l:List Ft):cY (l.map dF):=fun r hr x hx=>by
 obtain ⟨y,_,rfl⟩:=List.mem_map.1 hr
 simp only [dF,bE,List.not_mem_nil,or_false] at hx
 rcases hx with rfl | rfl<;>exact ⟨rfl,rfl⟩
theorem Lt (l:List Im):cY (l.map dy):=fun r hr x hx=>by
 obtain ⟨y,_,rfl⟩:=List.mem_map.1 hr
 simp only [dy,bE,List.not_mem_nil,or_false] at hx
 rcases hx with rfl | rfl | rfl | rfl | rfl | rfl | rfl | rfl | rfl | rfl | rfl | rfl | rfl<;>exact ⟨rfl,rfl⟩
theorem Ll (l:List Cd):cY (l.map dK):=fun r hr x hx=>by
 obtain ⟨y,_,rfl⟩:=List.mem_map.1 hr
 simp only [dK,bE,List.not_mem_nil,or_false] at hx
 rcases hx with rfl | rfl | rfl<;>exact ⟨rfl,rfl⟩
theorem Lv (l:List Tb):cY (l.map ez):=fun r hr x hx=>by
 obtain ⟨y,_,rfl⟩:=List.mem_map.1 hr
 simp only [ez,bE,List.not_mem_nil,or_false] at hx
 rcases hx with rfl | rfl | rfl | rfl<;>exact ⟨rfl,rfl⟩
theorem Lu (l:List Lm):cY (l.map eu):=fun r hr x hx=>by
 obtain ⟨y,_,rfl⟩:=List.mem_map.1 hr
 simp only [eu,bE,List.not_mem_nil,or_false] at hx
 rcases hx with rfl | rfl | rfl<;>exact ⟨rfl,rfl⟩
theorem Ls (l:List Gd):cY (l.map ej):=fun r hr x hx=>by
 obtain ⟨y,_,rfl⟩:=List.mem_map.1 hr
 simp only [ej,bE,List.not_mem_nil,or_false] at hx
 rcases hx with rfl | rfl | rfl<;>exact ⟨rfl,rfl⟩
theorem Lq (l:List Ex):cY (l.map ei):=fun r hr x hx=>by
 obtain ⟨y,_,rfl⟩:=List.mem_map.1 hr
 simp only [ei,bE,List.not_mem_nil,or_false] at hx
 rcases hx with rfl | rfl | rfl<;>exact ⟨rfl,rfl⟩
theorem Lp (l:List El):cY (l.map dL):=fun r hr x hx=>by
 obtain ⟨y,_,rfl⟩:=List.mem_map.1 hr
 simp only [dL,bE,List.not_mem_nil,or_false] at hx
 rcases hx with rfl | rfl | rfl | rfl | rfl<;>exact ⟨rfl,rfl⟩
theorem Lo (l:List Da):cY (l.map et):=fun r hr x hx=>by
 obtain ⟨y,_,rfl⟩:=List.mem_map.1 hr
 simp only [et,bE,List.not_mem_nil,or_false] at hx
 rcases hx with rfl | rfl | rfl | rfl<;>exact ⟨rfl,rfl⟩
theorem Ln (l:List Cu):cY (l.map eB):=fun r hr x hx=>by
 obtain ⟨y,_,rfl⟩:=List.mem_map.1 hr
 simp only [eB,bE,List.not_mem_nil,or_false] at hx
 rcases hx with rfl | rfl | rfl<;>exact ⟨rfl,rfl⟩
theorem pQ {α:Type} {G:Nat→Option ac} {id st:Nat} {t:TypeId} {q:Bool} {C:α→List AV} {l:List α} (hG:G id=some ⟨t,st,l.map C,q⟩) (hf:cY (l.map C)):Rep G (.ms id st 0 l.length) (.sl st (l.map C)):=by
 have:=kX hG hf
 rwa [dn] at this
theorem Er (m:Md) (h:KU m):ak Tryz.prog Jr [cP m] (cP m):=by
 refine MC (Ih m h) (fun r σ' hp=>?_) rfl
 obtain ⟨rfl,rfl⟩:=hp
 exact ⟨kU m,rfl,pQ (by rfl) (Lr _),pQ (by rfl) (Lt _),pQ (by rfl) (Ll _),pQ (by rfl) (Lv _),pQ (by rfl) (Lu _),pQ (by rfl) (Ls _),pQ (by rfl) (Lq _),.imm _ rfl rfl,.imm _ rfl rfl,pQ (by rfl) (Lp _),pQ (by rfl) (Lo _),pQ (by rfl) (Ln _),trivial⟩
attribute [local go_sem] dn
theorem yX (m:Md) (hm:AW 140737488355328 m):ak Tryz.prog Uh [cP m] (.bool true):=by
 refine ah (ic:=ja [24,31] JW.body) ap SF rfl rfl ?_
 have la:=En m hm
 have al:=Ek
 simp only [cP,f_] at la
 simp only [go_sem,JW,cP,f_]
 refine F3 la ?_
 intro x hx
 cases x
 ·simp only [go_sem]
  refine aa (al) ?_
  simp only [go_sem]
  exact ae
 obtain ⟨lg,cp⟩:=hx rfl
 have sm:=KV cp
 have rc:=Er m cp
 have mc:=ww m cp
 have rs:=Il m m sm
 have ms:=rz m m sm
 have li:=oS EQ m sm Ep
 have im:=sU m sm
 rw [az (nW m)] at rs ms
 simp only [cP,f_] at rc mc rs ms li im
 simp only [go_sem]
 refine aa (rc) ?_
 simp only [go_sem]
 refine bn 1267650600228229401496703205376 1237940039285380274899124224 (ID m cp) (by omega) (fun r σ' ⟨_,_,_,_,_,_,_,_,_,_,_,hF,_⟩=>hF.nm) (by simp [fv,ax,bU,be,bt]) ?_ ?_
 ·intro p hp
  repeat' (first | (cases hp;done) | (rcases List.mem_cons.1 hp with rfl | hp;· exact ⟨by dsimp only;omega,fun x hx=>by (simp [bo,be,bt] at hx;try omega)⟩))
 rintro _ G ⟨a0,a1,a2,a3,a4,a5,a6,a9,a10,a11,rfl,hF,w0,w1,w2,w3,w4,w5,w6,w9,w10,w11⟩
 have m0:=w0.1.no
 have m1:=w1.1.no
 have m2:=w2.1.no
 have m3:=w3.1.no
 have m4:=w4.1.no
 have m5:=w5.1.no
 have m6:=w6.1.no
 have m9:=w9.1.no
 have m10:=w10.1.no
 have m11:=w11.1.no
 have han:∀k,k<1000→List.any [a0,a1,a2,a3,a4,a5,a6,.bool m.hs,.int .i64 m.st,a9,a10,a11] (mC k)=false:=fun k hk=>by simp only [List.any_cons,List.any_nil,↓m0,↓m1,↓m2,↓m3,↓m4,↓m5,↓m6,↓m9,↓m10,↓m11,hk,Bool.or_false];rfl
 simp only [go_sem,hF.fam.pur,hF.fam.del,↓han]
 have hcm:t7 (ab G) (.agg [a0,a1,a2,a3,a4,a5,a6,.bool m.hs,.int .i64 m.st,a9,a10,a11]) (.agg [.sl 2 (m.ts.map dF),.sl 13 (m.ims.map dy),.sl 3 (m.fs.map dK),.sl 4 (m.tbs.map ez),.sl 3 (m.ms.map eu),.sl 3 (m.gs.map ej),.sl 3 (m.exs.map ei),.bool m.hs,.int .i64 m.st,.sl 5 (m.els.map dL),.sl 4 (m.ds.map et),.sl 3 (m.cs.map eB)]):=⟨_,rfl,w0.2,w1.2,w2.2,w3.2,w4.2,w5.2,w6.2,.imm _ rfl rfl,.imm _ rfl rfl,w9.2,w10.2,w11.2,trivial⟩
 have hmm:t7 (ab G) (.agg [.sl 2 (m.ts.map dF),.sl 13 (m.ims.map dy),.sl 3 (m.fs.map dK),.sl 4 (m.tbs.map ez),.sl 3 (m.ms.map eu),.sl 3 (m.gs.map ej),.sl 3 (m.exs.map ei),.bool m.hs,.int .i64 m.st,.sl 5 (m.els.map dL),.sl 4 (m.ds.map et),.sl 3 (m.cs.map eB)]) (.agg [.sl 2 (m.ts.map dF),.sl 13 (m.ims.map dy),.sl 3 (m.fs.map dK),.sl 4 (m.tbs.map ez),.sl 3 (m.ms.map eu),.sl 3 (m.gs.map ej),.sl 3 (m.exs.map ei),.bool m.hs,.int .i64 m.st,.sl 5 (m.els.map dL),.sl 4 (m.ds.map et),.sl 3 (m.cs.map eB)]):=⟨_,rfl,.imm _ rfl rfl,.imm _ rfl rfl,.imm _ rfl rfl,.imm _ rfl rfl,.imm _ rfl rfl,.imm _ rfl rfl,.imm _ rfl rfl,.imm _ rfl rfl,.imm _ rfl rfl,.imm _ rfl rfl,.imm _ rfl rfl,.imm _ rfl rfl,trivial⟩
 have hE:∀p∈([(4,⟨33,12,[[a0,a1,a2,a3,a4,a5,a6,.bool m.hs,.int .i64 m.st,a9,a10,a11]],true⟩),(3,⟨33,12,[[.sl 2 (m.ts.map dF),.sl 13 (m.ims.map dy),.sl 3 (m.fs.map dK),.sl 4 (m.tbs.map ez),.sl 3 (m.ms.map eu),.sl 3 (m.gs.map ej),.sl 3 (m.exs.map ei),.bool m.hs,.int .i64 m.st,.sl 5 (m.els.map dL),.sl 4 (m.ds.map et),.sl 3 (m.cs.map eB)]],true⟩),(1,⟨33,12,[[.sl 2 (m.ts.map dF),.sl 13 (m.ims.map dy),.sl 3 (m.fs.map dK),.sl 4 (m.tbs.map ez),.sl 3 (m.ms.map eu),.sl 3 (m.gs.map ej),.sl 3 (m.exs.map ei),.bool m.hs,.int .i64 m.st,.sl 5 (m.els.map dL),.sl 4 (m.ds.map et),.sl 3 (m.cs.map eB)]],true⟩)]:List (Nat×ac)),∀q∈G,p.1≠q.1:=fun p hp q hq=>by
  have:=(hF.nm q hq).1
  simp only [bE,List.not_mem_nil,or_false] at hp
  rcases hp with rfl | rfl | rfl<;>(dsimp only;omega)
 refine nG (E:=[(4,⟨33,12,[[a0,a1,a2,a3,a4,a5,a6,.bool m.hs,.int .i64 m.st,a9,a10,a11]],true⟩),(3,⟨33,12,[[.sl 2 (m.ts.map dF),.sl 13 (m.ims.map dy),.sl 3 (m.fs.map dK),.sl 4 (m.tbs.map ez),.sl 3 (m.ms.map eu),.sl 3 (m.gs.map ej),.sl 3 (m.exs.map ei),.bool m.hs,.int .i64 m.st,.sl 5 (m.els.map dL),.sl 4 (m.ds.map et),.sl 3 (m.cs.map eB)]],true⟩),(1,⟨33,12,[[.sl 2 (m.ts.map dF),.sl 13 (m.ims.map dy),.sl 3 (m.fs.map dK),.sl 4 (m.tbs.map ez),.sl 3 (m.ms.map eu),.sl 3 (m.gs.map ej),.sl 3 (m.exs.map ei),.bool m.hs,.int .i64 m.st,.sl 5 (m.els.map dL),.sl 4 (m.ds.map et),.sl 3 (m.cs.map eB)]],true⟩)]) (G:=G) rs rfl ⟨hcm,hmm,trivial⟩ (by simp [go_sem]) hF.fam.cl hE ?_
 simp only [go_sem]
 refine nG (E:=[(4,⟨33,12,[[a0,a1,a2,a3,a4,a5,a6,.bool m.hs,.int .i64 m.st,a9,a10,a11]],true⟩),(3,⟨33,12,[[.sl 2 (m.ts.map dF),.sl 13 (m.ims.map dy),.sl 3 (m.fs.map dK),.sl 4 (m.tbs.map ez),.sl 3 (m.ms.map eu),.sl 3 (m.gs.map ej),.sl 3 (m.exs.map ei),.bool m.hs,.int .i64 m.st,.sl 5 (m.els.map dL),.sl 4 (m.ds.map et),.sl 3 (m.cs.map eB)]],true⟩),(1,⟨33,12,[[.sl 2 (m.ts.map dF),.sl 13 (m.ims.map dy),.sl 3 (m.fs.map dK),.sl 4 (m.tbs.map ez),.sl 3 (m.ms.map eu),.sl 3 (m.gs.map ej),.sl 3 (m.exs.map ei),.bool m.hs,.int .i64 m.st,.sl 5 (m.els.map dL),.sl 4 (m.ds.map et),.sl 3 (m.cs.map eB)]],true⟩)]) (G:=G) ms rfl ⟨hcm,hmm,trivial⟩ (by simp [go_sem]) hF.fam.cl hE ?_
 simp only [go_sem]
 refine fe (fun _:Unit=>⟨[(1,.mp 1 12 0 0),(2,.bool false),(3,.mp 3 12 0 0),(4,.mp 4 12 0 0),(23,.bool false),(25,.agg [.int .i64 (lN EQ m).p,.int .i64 (lN EQ m).i,.int .i64 (lN EQ m).l,.int .i64 (lN EQ m).c]),(26,.agg [.sl 2 (m.ts.map dF),.sl 13 (m.ims.map dy),.sl 3 (m.fs.map dK),.sl 4 (m.tbs.map ez),.sl 3 (m.ms.map eu),.sl 3 (m.gs.map ej),.sl 3 (m.exs.map ei),.bool m.hs,.int .i64 m.st,.sl 5 (m.els.map dL),.sl 4 (m.ds.map et),.sl 3 (m.cs.map eB)])],[(4,⟨33,12,[[a0,a1,a2,a3,a4,a5,a6,.bool m.hs,.int .i64 m.st,a9,a10,a11]],true⟩),(3,⟨33,12,[[.sl 2 (m.ts.map dF),.sl 13 (m.ims.map dy),.sl 3 (m.fs.map dK),.sl 4 (m.tbs.map ez),.sl 3 (m.ms.map eu),.sl 3 (m.gs.map ej),.sl 3 (m.exs.map ei),.bool m.hs,.int .i64 m.st,.sl 5 (m.els.map dL),.sl 4 (m.ds.map et),.sl 3 (m.cs.map eB)]],true⟩),(1,⟨33,12,[[.sl 2 (m.ts.map dF),.sl 13 (m.ims.map dy),.sl 3 (m.fs.map dK),.sl 4 (m.tbs.map ez),.sl 3 (m.ms.map eu),.sl 3 (m.gs.map ej),.sl 3 (m.exs.map ei),.bool m.hs,.int .i64 m.st,.sl 5 (m.els.map dL),.sl 4 (m.ds.map et),.sl 3 (m.cs.map eB)]],true⟩)]++G⟩) (fun _=>True) ?_ ?_
 ·simp only [go_sem,kx,mL]
  repeat' (first
   | refine And.intro ?_ ?_
   | (refine nG (E:=[(4,⟨33,12,[[a0,a1,a2,a3,a4,a5,a6,.bool m.hs,.int .i64 m.st,a9,a10,a11]],true⟩),(3,⟨33,12,[[.sl 2 (m.ts.map dF),.sl 13 (m.ims.map dy),.sl 3 (m.fs.map dK),.sl 4 (m.tbs.map ez),.sl 3 (m.ms.map eu),.sl 3 (m.gs.map ej),.sl 3 (m.exs.map ei),.bool m.hs,.int .i64 m.st,.sl 5 (m.els.map dL),.sl 4 (m.ds.map et),.sl 3 (m.cs.map eB)]],true⟩),(1,⟨33,12,[[.sl 2 (m.ts.map dF),.sl 13 (m.ims.map dy),.sl 3 (m.fs.map dK),.sl 4 (m.tbs.map ez),.sl 3 (m.ms.map eu),.sl 3 (m.gs.map ej),.sl 3 (m.exs.map ei),.bool m.hs,.int .i64 m.st,.sl 5 (m.els.map dL),.sl 4 (m.ds.map et),.sl 3 (m.cs.map eB)]],true⟩)]) (G:=G) li rfl ⟨hcm,trivial⟩ (by simp [go_sem]) hF.fam.cl hE ?_;simp only [go_sem,kx,mL])
   | exact kR () trivial (Wk.of2 (by simp only [go_sem];try simp) (fun j o h=>h)))
 rintro _ _
 simp only [go_sem,kx,mL]
 refine aa (li) ?_
 simp only [go_sem]
 refine fe (fun _:Unit=>⟨[(1,.mp 1 12 0 0),(2,.bool false),(3,.mp 3 12 0 0),(4,.mp 4 12 0 0),(30,.bool false),(32,.int .i64 (GC m)),(33,.agg [.sl 2 (m.ts.map dF),.sl 13 (m.ims.map dy),.sl 3 (m.fs.map dK),.sl 4 (m.tbs.map ez),.sl 3 (m.ms.map eu),.sl 3 (m.gs.map ej),.sl 3 (m.exs.map ei),.bool m.hs,.int .i64 m.st,.sl 5 (m.els.map dL),.sl 4 (m.ds.map et),.sl 3 (m.cs.map eB)])],[(4,⟨33,12,[[a0,a1,a2,a3,a4,a5,a6,.bool m.hs,.int .i64 m.st,a9,a10,a11]],true⟩),(3,⟨33,12,[[.sl 2 (m.ts.map dF),.sl 13 (m.ims.map dy),.sl 3 (m.fs.map dK),.sl 4 (m.tbs.map ez),.sl 3 (m.ms.map eu),.sl 3 (m.gs.map ej),.sl 3 (m.exs.map ei),.bool m.hs,.int .i64 m.st,.sl 5 (m.els.map dL),.sl 4 (m.ds.map et),.sl 3 (m.cs.map eB)]],true⟩),(1,⟨33,12,[[.sl 2 (m.ts.map dF),.sl 13 (m.ims.map dy),.sl 3 (m.fs.map dK),.sl 4 (m.tbs.map ez),.sl 3 (m.ms.map eu),.sl 3 (m.gs.map ej),.sl 3 (m.exs.map ei),.bool m.hs,.int .i64 m.st,.sl 5 (m.els.map dL),.sl 4 (m.ds.map et),.sl 3 (m.cs.map eB)]],true⟩)]++G⟩) (fun _=>True) ?_ ?_
 ·simp only [go_sem,kx,mL]
  repeat' (first
   | refine And.intro ?_ ?_
   | (refine nG (E:=[(4,⟨33,12,[[a0,a1,a2,a3,a4,a5,a6,.bool m.hs,.int .i64 m.st,a9,a10,a11]],true⟩),(3,⟨33,12,[[.sl 2 (m.ts.map dF),.sl 13 (m.ims.map dy),.sl 3 (m.fs.map dK),.sl 4 (m.tbs.map ez),.sl 3 (m.ms.map eu),.sl 3 (m.gs.map ej),.sl 3 (m.exs.map ei),.bool m.hs,.int .i64 m.st,.sl 5 (m.els.map dL),.sl 4 (m.ds.map et),.sl 3 (m.cs.map eB)]],true⟩),(1,⟨33,12,[[.sl 2 (m.ts.map dF),.sl 13 (m.ims.map dy),.sl 3 (m.fs.map dK),.sl 4 (m.tbs.map ez),.sl 3 (m.ms.map eu),.sl 3 (m.gs.map ej),.sl 3 (m.exs.map ei),.bool m.hs,.int .i64 m.st,.sl 5 (m.els.map dL),.sl 4 (m.ds.map et),.sl 3 (m.cs.map eB)]],true⟩)]) (G:=G) im rfl ⟨hcm,trivial⟩ (by simp [go_sem]) hF.fam.cl hE ?_;simp only [go_sem,kx,mL])
   | exact kR () trivial (Wk.of2 (by simp only [go_sem];try simp) (fun j o h=>h)))
 rintro _ _
 simp only [go_sem,kx,mL]
 refine aa (im) ?_
 simp only [go_sem]
 refine xn (E:=[(4,⟨33,12,[[a0,a1,a2,a3,a4,a5,a6,.bool m.hs,.int .i64 m.st,a9,a10,a11]],true⟩),(3,⟨33,12,[[.sl 2 (m.ts.map dF),.sl 13 (m.ims.map dy),.sl 3 (m.fs.map dK),.sl 4 (m.tbs.map ez),.sl 3 (m.ms.map eu),.sl 3 (m.gs.map ej),.sl 3 (m.exs.map ei),.bool m.hs,.int .i64 m.st,.sl 5 (m.els.map dL),.sl 4 (m.ds.map et),.sl 3 (m.cs.map eB)]],true⟩),(1,⟨33,12,[[.sl 2 (m.ts.map dF),.sl 13 (m.ims.map dy),.sl 3 (m.fs.map dK),.sl 4 (m.tbs.map ez),.sl 3 (m.ms.map eu),.sl 3 (m.gs.map ej),.sl 3 (m.exs.map ei),.bool m.hs,.int .i64 m.st,.sl 5 (m.els.map dL),.sl 4 (m.ds.map et),.sl 3 (m.cs.map eB)]],true⟩)]) (G:=G) (tE G hF.fam hF.nm a0 a1 a2 a3 a4 a5 a6 a9 a10 a11 m.hs m.st w0.1 w1.1 w2.1 w3.1 w4.1 w5.1 w6.1 w9.1 w10.1 w11.1) hE ?_
 simp only [go_sem]
 refine aa (rs) ?_
 simp only [go_sem]
 refine aQ mc (by simp [go_sem]) rfl ?_
 simp only [go_sem]
 refine aa (ms) ?_
 simp only [go_sem]
 refine aa (al) ?_
 simp only [go_sem]
 exact ae
theorem AX {B C:Nat} (h:B≤C) {m:Md} (hm:AW B m):AW C m:=by
 have k:∀{α:Type} {p:Nat→α→Prop} (_:∀x,p B x→p C x) {l:List α},bL p B l→bL p C l:=fun hp l hl=>⟨cE hl.1 h,fun x hx=>hp x (hl.2 x hx)⟩
 have n:∀{α:Type} {l:List α},bL DF B l→bL DF C l:=fun hl=>⟨cE hl.1 h,fun _ _=>trivial⟩
 have i:∀{l:List cN},bL pI B l→bL pI C l:=fun hl=>k (fun _ q=>⟨q.1,n q.2.1,n q.2.2⟩) hl
 have e:∀{n:Nat},n≤B→n≤C:=fun q=>cE q h
 obtain ⟨h0,h1,h2,h3,h4,h5,h6,h7,h8,h9⟩:=hm
 exact ⟨k (fun _ q=>⟨n q.1,n q.2⟩) h0,k (fun _ q=>⟨e q.1,e q.2⟩) h1,k (fun _ q=>⟨n q.1,i q.2⟩) h2,⟨e h3.1,fun _ _=>trivial⟩,⟨e h4.1,fun _ _=>trivial⟩,⟨e h5.1,fun x hx=>i (h5.2 x hx)⟩,⟨e h6.1,fun x hx=>e (h6.2 x hx)⟩,k (fun _ q=>⟨i q.1,k (fun _ r=>i r) q.2⟩) h7,k (fun _ q=>⟨i q.1,n q.2⟩) h8,k (fun _ q=>⟨e q.1,n q.2⟩) h9⟩
end
end Go.Proofs.YtdefmgmmjfgbpaaGreatDoor