import Derived.Test.YtdfofedlbljnhaaGreatDoorXQi
noncomputable section
set_option linter.all false
set_option maxRecDepth 100000
set_option maxHeartbeats 4000000
namespace Go.Proofs.YtdfofedlbljnhaaGreatDoor
open Go Go.Mw
def wc:ax:=aX Tryz.f352 352
def ud:ax:=aX Tryz.f187 187
def wh:ax:=aX Tryz.f255 255
def fM:ax:=aX Tryz.f52 52
def sU:ax:=aX Tryz.f253 253
def fN:ax:=aX Tryz.f39 39
def Fh:ax:=aX Tryz.f376 376
def gu:ax:=aX Tryz.f44 44
def wj:ax:=aX Tryz.f256 256
def jS:ax:=aX Tryz.f48 48
def eO:ax:=aX Tryz.f163 163
def pV:ax:=aX Tryz.f90 90
def sS:ax:=aX Tryz.f298 298
def gv:ax:=aX Tryz.f302 302
def rY:ax:=aX Tryz.f246 246
def py:ax:=aX Tryz.f68 68
def i6:ax:=aX Tryz.f230 230
def pS:ax:=aX Tryz.f172 172
def fC:ax:=aX Tryz.f112 112
def eS:ax:=aX Tryz.f185 185
def ek:ax:=aX Tryz.f28 28
def pU:ax:=aX Tryz.f155 155
def k9:ax:=aX Tryz.f140 140
def iO:ax:=aX Tryz.f99 99
def mB:ax:=aX Tryz.f166 166
def gW:ax:=aX Tryz.f158 158
def oQ:ax:=aX Tryz.f97 97
def iA:ax:=aX Tryz.f237 237
def nL:ax:=aX Tryz.f111 111
def tU:ax:=aX Tryz.f235 235
def qO:ax:=aX Tryz.f358 358
def lC:ax:=aX Tryz.f196 196
def f_:ax:=aX Tryz.f200 200
def tX:ax:=aX Tryz.f182 182
def tS:ax:=aX Tryz.f270 270
def jf:ax:=aX Tryz.f339 339
def v_:ax:=aX Tryz.f67 67
def jv:ax:=aX Tryz.f101 101
def rV:ax:=aX Tryz.f266 266
def gn:ax:=aX Tryz.f159 159
def sF:ax:=aX Tryz.f54 54
def ng:ax:=aX Tryz.f331 331
def ni:ax:=aX Tryz.f332 332
def nz:ax:=aX Tryz.f233 233
