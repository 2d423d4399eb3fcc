import Derived.Test.YtdfofedlbljnhaaGreatDoorQi
set_option linter.all false
set_option maxRecDepth 100000
set_option maxHeartbeats 4000000
namespace Go.Proofs.YtdfofedlbljnhaaGreatDoor
open Go Go.Mw
noncomputable def Bw:az:=bz Tryz.f188 188
noncomputable def wt:az:=bz Tryz.f22 22
noncomputable def pB:az:=bz Tryz.f169 169
noncomputable def aY:az:=bz Tryz.f16 16
noncomputable def wq:az:=bz Tryz.f11 11
noncomputable def M6:az:=bz Tryz.f361 361
noncomputable def ou:az:=bz Tryz.f110 110
noncomputable def dj:az:=bz Tryz.f195 195
noncomputable def pG:az:=bz Tryz.f8 8
noncomputable def rF:az:=bz Tryz.f65 65
noncomputable def tx:az:=bz Tryz.f59 59
noncomputable def dl:az:=bz Tryz.f92 92
noncomputable def lA:az:=bz Tryz.f149 149
noncomputable def iT:az:=bz Tryz.f42 42
noncomputable def et:az:=bz Tryz.f28 28
noncomputable def wv:az:=bz Tryz.f74 74
noncomputable def iO:az:=bz Tryz.f99 99
noncomputable def mF:az:=bz Tryz.f162 162
noncomputable def Gn:az:=bz Tryz.f326 326
noncomputable def Bu:az:=bz Tryz.f61 61
noncomputable def lI:az:=bz Tryz.f98 98
noncomputable def gj:az:=bz Tryz.f93 93
noncomputable def ly:az:=bz Tryz.f147 147
noncomputable def sq:az:=bz Tryz.f69 69
noncomputable def nN:az:=bz Tryz.f29 29
noncomputable def jB:az:=bz Tryz.f105 105
noncomputable def gF:az:=bz Tryz.f197 197
noncomputable def tk:az:=bz Tryz.f14 14
noncomputable def oC:az:=bz Tryz.f264 264
noncomputable def rB:az:=bz Tryz.f75 75
noncomputable def sg:az:=bz Tryz.f54 54
noncomputable def lC:az:=bz Tryz.f190 190
noncomputable def lx:az:=bz Tryz.f228 228
noncomputable def nv:az:=bz Tryz.f233 233
end Go.Proofs.YtdfofedlbljnhaaGreatDoor