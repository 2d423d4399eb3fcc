import Derived.Test.YtijcmjncppkpiaaGreatDoorCQi
noncomputable section
set_option linter.all false
set_option maxRecDepth 100000
set_option maxHeartbeats 4000000
namespace Go.Proofs.YtijcmjncppkpiaaGreatDoor
open Go Go.Mw
def ut:av:=be Tryz.f16 16
def ug:av:=be Tryz.f105 105
def cM:av:=be Tryz.f272 272
def uy:av:=be Tryz.f21 21
def dy:av:=be Tryz.f329 329
def rz:av:=be Tryz.f332 332
def dz:av:=be Tryz.f368 368
def jx:av:=be Tryz.f33 33
def iU:av:=be Tryz.f376 376
def ji:av:=be Tryz.f185 185
def qM:av:=be Tryz.f165 165
def pw:av:=be Tryz.f186 186
def uT:av:=be Tryz.f174 174
def gw:av:=be Tryz.f315 315
def jf:av:=be Tryz.f193 193
def jA:av:=be Tryz.f26 26
def Ap:av:=be Tryz.f270 270
def iQ:av:=be Tryz.f158 158
def oN:av:=be Tryz.f23 23
def kT:av:=be Tryz.f78 78
def ik:av:=be Tryz.f324 324
def kV:av:=be Tryz.f63 63
def jt:av:=be Tryz.f194 194
def wD:av:=be Tryz.f24 24
def eT:av:=be Tryz.f361 361
def eQ:av:=be Tryz.f259 259
def rB:av:=be Tryz.f85 85
def eV:av:=be Tryz.f441 441
def iR:av:=be Tryz.f414 414
def ue:av:=be Tryz.f82 82
def oM:av:=be Tryz.f189 189
def dm:av:=be Tryz.f68 68
def zb:av:=be Tryz.f323 323
def pu:av:=be Tryz.f178 178
def As:av:=be Tryz.f36 36
def qa:av:=be Tryz.f176 176
def zc:av:=be Tryz.f257 257
def rn:av:=be Tryz.f313 313
def lQ:av:=be Tryz.f413 413
