import Derived.Test.YtdfofedlbljnhaaGreatDoorXQi
noncomputable section
set_option linter.all false
set_option maxRecDepth 100000
set_option maxHeartbeats 4000000
namespace Go.Proofs.YtdfofedlbljnhaaGreatDoor
open Go Go.Mw
def aG:ax:=aX Tryz.f349 349
def vZ:ax:=aX Tryz.f22 22
def mA:ax:=aX Tryz.f15 15
def oT:ax:=aX Tryz.f20 20
def wq:ax:=aX Tryz.f338 338
def sY:ax:=aX Tryz.f252 252
def bH:ax:=aX Tryz.f261 261
def vY:ax:=aX Tryz.f11 11
def wl:ax:=aX Tryz.f249 249
def pR:ax:=aX Tryz.f241 241
def jx:ax:=aX Tryz.f183 183
def iB:ax:=aX Tryz.f300 300
def jR:ax:=aX Tryz.f245 245
def rR:ax:=aX Tryz.f56 56
def tA:ax:=aX Tryz.f62 62
def rP:ax:=aX Tryz.f83 83
def xd:ax:=aX Tryz.f71 71
def sT:ax:=aX Tryz.f335 335
def jW:ax:=aX Tryz.f336 336
def iT:ax:=aX Tryz.f42 42
def kA:ax:=aX Tryz.f234 234
def eN:ax:=aX Tryz.f236 236
def x6:ax:=aX Tryz.f359 359
def nP:ax:=aX Tryz.f243 243
def kw:ax:=aX Tryz.f164 164
def Fg:ax:=aX Tryz.f326 326
def AR:ax:=aX Tryz.f305 305
def nM:ax:=aX Tryz.f108 108
def gp:ax:=aX Tryz.f93 93
def jP:ax:=aX Tryz.f274 274
def lA:ax:=aX Tryz.f106 106
def AQ:ax:=aX Tryz.f366 366
def f8:ax:=aX Tryz.f227 227
def mI:ax:=aX Tryz.f114 114
def rW:ax:=aX Tryz.f295 295
def Cw:ax:=aX Tryz.f282 282
def tR:ax:=aX Tryz.f14 14
def lB:ax:=aX Tryz.f199 199
def uk:ax:=aX Tryz.f220 220
def sJ:ax:=aX Tryz.f63 63
def pX:ax:=aX Tryz.f186 186
def lz:ax:=aX Tryz.f190 190
def uc:ax:=aX Tryz.f263 263
def nv:ax:=aX Tryz.f272 272
