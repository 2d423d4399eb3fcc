import Derived.Test.YthhglklcaodfmaaGreatDoorCQi
noncomputable section
set_option linter.all false
set_option maxRecDepth 100000
set_option maxHeartbeats 4000000
namespace Go.Proofs.YthhglklcaodfmaaGreatDoor
open Go Go.Mw
def Bz:aB:=aX Tryz.f170 170
def tK:aB:=aX Tryz.f317 317
def lm:aB:=aX Tryz.f255 255
def bB:aB:=aX Tryz.f146 146
def qS:aB:=aX Tryz.f154 154
def tw:aB:=aX Tryz.f115 115
def nI:aB:=aX Tryz.f78 78
def pR:aB:=aX Tryz.f105 105
def pc:aB:=aX Tryz.f306 306
def sd:aB:=aX Tryz.f91 91
def eE:aB:=aX Tryz.f213 213
def qO:aB:=aX Tryz.f279 279
def bK:aB:=aX Tryz.f204 204
def mT:aB:=aX Tryz.f3 3
def xl:aB:=aX Tryz.f11 11
def j1:aB:=aX Tryz.f61 61
def gX:aB:=aX Tryz.f223 223
def sW:aB:=aX Tryz.f41 41
def ox:aB:=aX Tryz.f47 47
def tD:aB:=aX Tryz.f32 32
def da:aB:=aX Tryz.f75 75
def w9:aB:=aX Tryz.f241 241
def xe:aB:=aX Tryz.f257 257
def gj:aB:=aX Tryz.f251 251
def yR:aB:=aX Tryz.f243 243
def ui:aB:=aX Tryz.f194 194
def yK:aB:=aX Tryz.f320 320
def yW:aB:=aX Tryz.f280 280
def pQ:aB:=aX Tryz.f99 99
def Bx:aB:=aX Tryz.f40 40
def nb:aB:=aX Tryz.f152 152
def o3:aB:=aX Tryz.f92 92
def gL:aB:=aX Tryz.f55 55
def gg:aB:=aX Tryz.f206 206
def lG:aB:=aX Tryz.f98 98
def xM:aB:=aX Tryz.f134 134
def kj:aB:=aX Tryz.f66 66
def lN:aB:=aX Tryz.f123 123
def jM:aB:=aX Tryz.f258 258
def mR:aB:=aX Tryz.f185 185
def mL:aB:=aX Tryz.f266 266
def mK:aB:=aX Tryz.f209 209
def yE:aB:=aX Tryz.f22 22
def rY:aB:=aX Tryz.f273 273
def GV:aB:=aX Tryz.f225 225
def tR:aB:=aX Tryz.f188 188
def rP:aB:=aX Tryz.f33 33
def wK:aB:=aX Tryz.f187 187
def BP:aB:=aX Tryz.f112 112
def za:aB:=aX Tryz.f230 230
def wW:aB:=aX Tryz.f310 310
def fh:aB:=aX Tryz.f292 292
