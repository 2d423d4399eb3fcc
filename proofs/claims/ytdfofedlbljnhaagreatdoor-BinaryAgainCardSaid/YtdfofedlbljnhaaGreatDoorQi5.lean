import Derived.Test.YtdfofedlbljnhaaGreatDoorQi
set_option linter.all false
set_option maxRecDepth 100000
set_option maxHeartbeats 4000000
namespace Go.Proofs.YtdfofedlbljnhaaGreatDoor
open Go Go.Mw
noncomputable def li:az:=bz Tryz.f193 193
noncomputable def tD:az:=bz Tryz.f187 187
noncomputable def oE:az:=bz Tryz.f273 273
noncomputable def px:az:=bz Tryz.f17 17
noncomputable def tu:az:=bz Tryz.f58 58
noncomputable def pz:az:=bz Tryz.f241 241
noncomputable def bj:az:=bz Tryz.f310 310
noncomputable def iP:az:=bz Tryz.f5 5
noncomputable def oA:az:=bz Tryz.f6 6
noncomputable def tA:az:=bz Tryz.f77 77
noncomputable def tB:az:=bz Tryz.f53 53
noncomputable def oz:az:=bz Tryz.f4 4
noncomputable def gH:az:=bz Tryz.f265 265
noncomputable def eu:az:=bz Tryz.f115 115
noncomputable def iR:az:=bz Tryz.f46 46
noncomputable def jf:az:=bz Tryz.f55 55
noncomputable def DJ:az:=bz Tryz.f313 313
noncomputable def oh:az:=bz Tryz.f171 171
noncomputable def tp:az:=bz Tryz.f189 189
noncomputable def na:az:=bz Tryz.f293 293
noncomputable def nJ:az:=bz Tryz.f108 108
noncomputable def lJ:az:=bz Tryz.f198 198
noncomputable def qx:az:=bz Tryz.f103 103
noncomputable def xS:az:=bz Tryz.f64 64
noncomputable def iK:az:=bz Tryz.f151 151
noncomputable def mJ:az:=bz Tryz.f114 114
noncomputable def ni:az:=bz Tryz.f116 116
noncomputable def py:az:=bz Tryz.f87 87
noncomputable def jA:az:=bz Tryz.f101 101
noncomputable def lK:az:=bz Tryz.f260 260
noncomputable def sn:az:=bz Tryz.f66 66
noncomputable def cx:az:=bz Tryz.f258 258
noncomputable def By:az:=bz Tryz.f26 26
noncomputable def Bv:az:=bz Tryz.f181 181
end Go.Proofs.YtdfofedlbljnhaaGreatDoor