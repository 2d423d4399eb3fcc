import Derived.Test.YtijcmjncppkpiaaGreatDoorCQi
noncomputable section
set_option linter.all false
set_option maxRecDepth 100000
set_option maxHeartbeats 4000000
namespace Go.Proofs.YtijcmjncppkpiaaGreatDoor
open Go Go.Mw
def rp:av:=be Tryz.f258 258
def uw:av:=be Tryz.f14 14
def wC:av:=be Tryz.f101 101
def cK:av:=be Tryz.f320 320
def aX:av:=be Tryz.f11 11
def cP:av:=be Tryz.f328 328
def re:av:=be Tryz.f161 161
def dx:av:=be Tryz.f374 374
def iA:av:=be Tryz.f30 30
def rq:av:=be Tryz.f358 358
def rj:av:=be Tryz.f180 180
def rh:av:=be Tryz.f183 183
def dk:av:=be Tryz.f195 195
def qg:av:=be Tryz.f10 10
def ij:av:=be Tryz.f367 367
def iB:av:=be Tryz.f27 27
def ki:av:=be Tryz.f61 61
def wH:av:=be Tryz.f99 99
def Aq:av:=be Tryz.f271 271
def gY:av:=be Tryz.f73 73
def yX:av:=be Tryz.f164 164
def za:av:=be Tryz.f325 325
def jv:av:=be Tryz.f77 77
def fE:av:=be Tryz.f179 179
def gx:av:=be Tryz.f265 265
def qk:av:=be Tryz.f110 110
def fF:av:=be Tryz.f419 419
def tZ:av:=be Tryz.f64 64
def lO:av:=be Tryz.f336 336
def uk:av:=be Tryz.f173 173
def wz:av:=be Tryz.f111 111
def iG:av:=be Tryz.f80 80
def qc:av:=be Tryz.f181 181
def pA:av:=be Tryz.f316 316
def p7:av:=be Tryz.f163 163
def p9:av:=be Tryz.f169 169
def b_:av:=be Tryz.f308 308
def kO:av:=be Tryz.f422 422
def oP:av:=be Tryz.f370 370
