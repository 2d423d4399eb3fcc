import Derived.Test.YtdfofedlbljnhaaGreatDoorQb
import Derived.Test.YtdfofedlbljnhaaGreatDoorProg
import Derived.KernelRfl
set_option linter.all false
set_option maxRecDepth 100000
set_option maxHeartbeats 4000000
namespace Go.Proofs.YtdfofedlbljnhaaGreatDoor
open Go Go.Mw
noncomputable abbrev pg:Program:=Tryz.prog
theorem ue:pg.follows .mixedOrders=true:=by kernel_rfl
noncomputable def OA:Array Func:=⟨[BY none ""]++[BY none ""]++[BY none ""]++List.replicate 324 (BY (some .skip) "")++[BY none ""]++List.replicate 44 (BY (some .skip) "")++[BY none ""]++List.replicate 7 (BY (some .skip) "")⟩
noncomputable abbrev pl:Program:=⟨Tryz.progTables,OA⟩
theorem J4:(List.range 380).all (fun f=>!bM pl f||bM pg f)=true:=by kernel_rfl
theorem hE0:(List.range 380).all (fun f=>!eFn pl f)=true:=by kernel_rfl
theorem Fn:OA.size=380:=by kernel_rfl
theorem nB (f:Nat) (h:bM pl f=true):bM pg f=true:=by
 by_cases hf:f<380
 ·have:=fg.1 J4 f (List.mem_range.2 hf)
  rw [h] at this
  simpa using this
 ·unfold bM at h
  rw [show pl.funcs[f]? = none from Array.getElem?_eq_none (by show OA.size≤f;rw [Fn];omega)] at h
  cases h
theorem nE (f:Nat):eFn pl f=false:=by
 by_cases hf:f<380
 ·have:=fg.1 hE0 f (List.mem_range.2 hf)
  simpa using this
 ·unfold eFn
  rw [show pl.funcs[f]? = none from Array.getElem?_eq_none (by show OA.size≤f;rw [Fn];omega)]
def aeO (fn:Func) (f:FuncId) (F:az):Prop:=lN pg f=some F
theorem aif {f:FuncId} {fn:Func} {body:Code} {n np:Nat} {sh:List (List Nat)} {rs:List oG} {b:bN} (h1:Tryz.funcs[f]? = some fn) (h2:fn.body=some body) (h3:fn.ntmps=n) (h4:fn.params.size+fn.nfree=np)
  (h5:uz fn.results.toList :: ek body=sh) (h6:zH pl fn.results.toList=some rs) (h7:comp pl n sh body=some b) (h8:np≤n∧n≤1000000):aeO fn f ⟨n,np,rs,b⟩:=ah0 nB nE h1 h2 h3 h4 h5 h6 h7 h8
noncomputable def bz (fn:Func) (f:FuncId) {F:az} (h:aeO fn f F:=by
 apply aif rfl rfl
 iterate 4 (conv=>lhs;cbv)
 repeat' first | exact afk | exact ah2 | exact afi | exact ah1 | apply ah3 | apply afh rfl | apply abi | apply afj | apply abk
 all_goals first | decide | (conv=>lhs;cbv)):az:=F
attribute [go_sem] bz
theorem cF (F:az) {f:FuncId} (h:lN pg f=some F:=by kernel_rfl):lN pg f=some F:=h
abbrev rT:FuncId:=7
abbrev Ey:FuncId:=14
abbrev B9:FuncId:=15
abbrev z7:FuncId:=24
abbrev BK:FuncId:=26
abbrev sX:FuncId:=27
abbrev Cg:FuncId:=39
abbrev yx:FuncId:=41
abbrev yu:FuncId:=43
abbrev vX:FuncId:=46
abbrev nz:FuncId:=50
abbrev sB:FuncId:=54
abbrev kf:FuncId:=56
abbrev sD:FuncId:=60
abbrev kO:FuncId:=62
abbrev iI:FuncId:=68
abbrev Ir:FuncId:=75
abbrev js:FuncId:=76
abbrev sK:FuncId:=81
abbrev Kr:FuncId:=82
abbrev qP:FuncId:=86
abbrev cH:FuncId:=87
abbrev ka:FuncId:=90
abbrev j9:FuncId:=100
abbrev z8:FuncId:=103
abbrev lY:FuncId:=107
abbrev jt:FuncId:=110
abbrev uh:FuncId:=149
abbrev oX:FuncId:=154
abbrev nD:FuncId:=157
abbrev eO:FuncId:=163
abbrev rQ:FuncId:=170
abbrev Aa:FuncId:=175
abbrev wK:FuncId:=193
abbrev k8:FuncId:=237
abbrev pR:FuncId:=241
abbrev ul:FuncId:=264
abbrev Iv:FuncId:=266
abbrev Kw:FuncId:=267
abbrev IA:FuncId:=268
abbrev Cc:FuncId:=310
abbrev PO:FuncId:=326
abbrev z_:FuncId:=330
abbrev xy:FuncId:=4
abbrev yp:FuncId:=8
abbrev mR:FuncId:=12
abbrev Iq:FuncId:=18
abbrev Ab:FuncId:=19
abbrev B_:FuncId:=23
abbrev ui:FuncId:=28
abbrev pr:FuncId:=40
abbrev yr:FuncId:=48
abbrev Kq:FuncId:=61
abbrev sE:FuncId:=63
abbrev kg:FuncId:=65
abbrev sH:FuncId:=73
abbrev F4:FuncId:=74
abbrev Ks:FuncId:=79
abbrev It:FuncId:=88
abbrev gW:FuncId:=92
abbrev jw:FuncId:=97
abbrev vU:FuncId:=102
abbrev lZ:FuncId:=106
abbrev nV:FuncId:=111
abbrev kN:FuncId:=113
abbrev Ch:FuncId:=114
abbrev lW:FuncId:=148
abbrev ny:FuncId:=150
abbrev EM:FuncId:=152
abbrev mT:FuncId:=156
abbrev gu:FuncId:=159
abbrev nU:FuncId:=160
abbrev kG:FuncId:=164
abbrev oW:FuncId:=168
abbrev pS:FuncId:=172
abbrev Iw:FuncId:=174
abbrev EB:FuncId:=189
abbrev uj:FuncId:=190
abbrev qN:FuncId:=191
abbrev Ma:FuncId:=192
abbrev nX1:FuncId:=194
abbrev ql:FuncId:=230
abbrev cJ:FuncId:=234
abbrev dG:FuncId:=240
abbrev yq:FuncId:=242
abbrev gZ:FuncId:=258
abbrev i_:FuncId:=259
abbrev Kx:FuncId:=261
abbrev EA:FuncId:=270
abbrev xB:FuncId:=273
abbrev dN:FuncId:=308
abbrev EG:FuncId:=309
abbrev L_:FuncId:=313
abbrev yo:FuncId:=328
abbrev vL:FuncId:=331
abbrev Cb:FuncId:=339
abbrev xA:FuncId:=340
abbrev F7:FuncId:=352
abbrev X6:FuncId:=361
abbrev vV:FuncId:=5
abbrev F1:FuncId:=10
abbrev yn:FuncId:=17
abbrev F2:FuncId:=22
abbrev Iz:FuncId:=29
abbrev vZ:FuncId:=42
abbrev yw:FuncId:=44
abbrev yt:FuncId:=47
abbrev Ca:FuncId:=55
abbrev sC:FuncId:=57
abbrev gY:FuncId:=59
abbrev Is:FuncId:=64
abbrev F6:FuncId:=67
abbrev F5:FuncId:=70
abbrev EE:FuncId:=71
abbrev mj:FuncId:=77
abbrev kc:FuncId:=83
abbrev nX:FuncId:=89
abbrev gw:FuncId:=93
abbrev bB:FuncId:=95
abbrev mg:FuncId:=98
abbrev e_:FuncId:=101
abbrev mc:FuncId:=104
abbrev jv:FuncId:=109
abbrev uk:FuncId:=115
abbrev fK:FuncId:=161
abbrev mS:FuncId:=166
abbrev pT:FuncId:=169
abbrev Kp:FuncId:=183
abbrev BN:FuncId:=186
abbrev Kv:FuncId:=188
abbrev mb:FuncId:=196
abbrev ma:FuncId:=197
abbrev mh:FuncId:=198
abbrev gR:FuncId:=228
abbrev lX:FuncId:=231
abbrev EC:FuncId:=235
abbrev j_:FuncId:=238
abbrev EF:FuncId:=263
abbrev EH:FuncId:=265
abbrev xx:FuncId:=269
abbrev nX0:FuncId:=290
abbrev EP:FuncId:=291
abbrev vO:FuncId:=293
abbrev vS:FuncId:=312
abbrev xw:FuncId:=329
abbrev vM:FuncId:=344
abbrev rR:FuncId:=345
abbrev xz:FuncId:=6
abbrev FZ:FuncId:=11
abbrev Iy:FuncId:=16
abbrev EK:FuncId:=21
abbrev j8:FuncId:=25
abbrev EL:FuncId:=30
abbrev vY:FuncId:=45
abbrev vW:FuncId:=49
abbrev ml:FuncId:=53
abbrev ED:FuncId:=58
abbrev sF:FuncId:=66
abbrev sG:FuncId:=69
abbrev ke:FuncId:=72
abbrev sJ:FuncId:=78
abbrev mi:FuncId:=80
abbrev qO:FuncId:=84
abbrev F3:FuncId:=85
abbrev md:FuncId:=91
abbrev eZ:FuncId:=94
abbrev mW:FuncId:=96
abbrev iW:FuncId:=99
abbrev fa:FuncId:=105
abbrev nW:FuncId:=108
abbrev ju:FuncId:=112
abbrev vQ:FuncId:=116
abbrev Iu:FuncId:=146
abbrev ug:FuncId:=147
abbrev dF:FuncId:=151
abbrev Cf:FuncId:=153
abbrev pU:FuncId:=155
abbrev gT:FuncId:=158
abbrev mU:FuncId:=162
abbrev nC:FuncId:=165
abbrev nA:FuncId:=167
abbrev oV:FuncId:=171
abbrev vK:FuncId:=173
abbrev Ce:FuncId:=176
abbrev Ku:FuncId:=181
abbrev Kt:FuncId:=182
abbrev BM:FuncId:=184
abbrev EO:FuncId:=185
abbrev cz:FuncId:=187
abbrev xu:FuncId:=195
abbrev l_:FuncId:=199
abbrev sW:FuncId:=200
abbrev sV:FuncId:=227
abbrev vP:FuncId:=229
abbrev xt:FuncId:=232
abbrev v6:FuncId:=233
abbrev iV:FuncId:=236
abbrev dB:FuncId:=239
abbrev BL:FuncId:=260
abbrev F8:FuncId:=262
abbrev vR:FuncId:=271
abbrev vT:FuncId:=272
abbrev Ez:FuncId:=274
abbrev X7:FuncId:=289
abbrev wJ:FuncId:=292
abbrev Mb:FuncId:=325
abbrev vN:FuncId:=332
abbrev EJ:FuncId:=341
abbrev Ac:FuncId:=353
end Go.Proofs.YtdfofedlbljnhaaGreatDoor