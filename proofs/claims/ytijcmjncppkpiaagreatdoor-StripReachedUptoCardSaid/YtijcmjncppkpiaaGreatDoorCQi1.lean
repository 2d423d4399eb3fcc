import Derived.Test.YtijcmjncppkpiaaGreatDoorCQi
noncomputable section
set_option linter.all false
set_option maxRecDepth 100000
set_option maxHeartbeats 4000000
namespace Go.Proofs.YtijcmjncppkpiaaGreatDoor
open Go Go.Mw
def uo:av:=be Tryz.f444 444
def us:av:=be Tryz.f22 22
def pC:av:=be Tryz.f98 98
def cD:av:=be Tryz.f327 327
def tY:av:=be Tryz.f7 7
def bI:av:=be Tryz.f311 311
def iw:av:=be Tryz.f34 34
def bu:av:=be Tryz.f359 359
def pB:av:=be Tryz.f381 381
def py:av:=be Tryz.f159 159
def px:av:=be Tryz.f175 175
def rk:av:=be Tryz.f156 156
def j8:av:=be Tryz.f107 107
def gP:av:=be Tryz.f319 319
def nG:av:=be Tryz.f369 369
def gr:av:=be Tryz.f3 3
def uj:av:=be Tryz.f177 177
def tX:av:=be Tryz.f268 268
def lP:av:=be Tryz.f106 106
def c_:av:=be Tryz.f318 318
def dY:av:=be Tryz.f448 448
def uh:av:=be Tryz.f103 103
def ir:av:=be Tryz.f191 191
def fG:av:=be Tryz.f447 447
def wA:av:=be Tryz.f167 167
def rl:av:=be Tryz.f424 424
def rf:av:=be Tryz.f253 253
def j5:av:=be Tryz.f362 362
def lJ:av:=be Tryz.f421 421
def lG:av:=be Tryz.f273 273
def lM:av:=be Tryz.f274 274
def qd:av:=be Tryz.f184 184
def rD:av:=be Tryz.f255 255
def oL:av:=be Tryz.f187 187
def js:av:=be Tryz.f264 264
def lL:av:=be Tryz.f263 263
def y_:av:=be Tryz.f425 425
def dR:av:=be Tryz.f446 446
