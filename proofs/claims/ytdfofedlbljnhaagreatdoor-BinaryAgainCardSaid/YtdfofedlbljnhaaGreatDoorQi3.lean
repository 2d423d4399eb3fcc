import Derived.Test.YtdfofedlbljnhaaGreatDoorQi
set_option linter.all false
set_option maxRecDepth 100000
set_option maxHeartbeats 4000000
namespace Go.Proofs.YtdfofedlbljnhaaGreatDoor
open Go Go.Mw
noncomputable def an:az:=bz Tryz.f40 40
noncomputable def mB:az:=bz Tryz.f15 15
noncomputable def tG:az:=bz Tryz.f21 21
noncomputable def aV:az:=bz Tryz.f27 27
noncomputable def gp:az:=bz Tryz.f44 44
noncomputable def jX:az:=bz Tryz.f48 48
noncomputable def jC:az:=bz Tryz.f183 183
noncomputable def gn:az:=bz Tryz.f238 238
noncomputable def tE:az:=bz Tryz.f309 309
noncomputable def sO:az:=bz Tryz.f62 62
noncomputable def tz:az:=bz Tryz.f80 80
noncomputable def jT:az:=bz Tryz.f345 345
noncomputable def ws:az:=bz Tryz.f10 10
noncomputable def fD:az:=bz Tryz.f161 161
noncomputable def mI:az:=bz Tryz.f176 176
noncomputable def wu:az:=bz Tryz.f85 85
noncomputable def iM:az:=bz Tryz.f240 240
noncomputable def oi:az:=bz Tryz.f168 168
noncomputable def m7:az:=bz Tryz.f173 173
noncomputable def fM:az:=bz Tryz.f239 239
noncomputable def ij:az:=bz Tryz.f237 237
noncomputable def jV:az:=bz Tryz.f100 100
noncomputable def fB:az:=bz Tryz.f76 76
noncomputable def lD:az:=bz Tryz.f106 106
noncomputable def ga:az:=bz Tryz.f200 200
noncomputable def eH:az:=bz Tryz.f95 95
noncomputable def jg:az:=bz Tryz.f339 339
noncomputable def ww:az:=bz Tryz.f70 70
noncomputable def qB:az:=bz Tryz.f86 86
noncomputable def gh:az:=bz Tryz.f159 159
noncomputable def si:az:=bz Tryz.f57 57
noncomputable def sj:az:=bz Tryz.f60 60
noncomputable def tC:az:=bz Tryz.f263 263
noncomputable def m9:az:=bz Tryz.f344 344
noncomputable def lB:az:=bz Tryz.f107 107
end Go.Proofs.YtdfofedlbljnhaaGreatDoor