import Derived.Test.YtijcmjncppkpiaaGreatDoorCQi
noncomputable section
set_option linter.all false
set_option maxRecDepth 100000
set_option maxHeartbeats 4000000
namespace Go.Proofs.YtijcmjncppkpiaaGreatDoor
open Go Go.Mw
def yZ:av:=be Tryz.f322 322
def wF:av:=be Tryz.f375 375
def jy:av:=be Tryz.f32 32
def yS:av:=be Tryz.f18 18
def gu:av:=be Tryz.f182 182
def yR:av:=be Tryz.f203 203
def nI:av:=be Tryz.f35 35
def fT:av:=be Tryz.f331 331
def dh:av:=be Tryz.f326 326
def yU:av:=be Tryz.f6 6
def fJ:av:=be Tryz.f378 378
def nw:av:=be Tryz.f171 171
def Ar:av:=be Tryz.f43 43
def qj:av:=be Tryz.f39 39
def fV:av:=be Tryz.f190 190
def eW:av:=be Tryz.f256 256
def iz:av:=be Tryz.f31 31
def wI:av:=be Tryz.f57 57
def lN:av:=be Tryz.f371 371
def kS:av:=be Tryz.f372 372
def ew:av:=be Tryz.f321 321
def lK:av:=be Tryz.f198 198
def eR:av:=be Tryz.f317 317
def ud:av:=be Tryz.f79 79
def y6:av:=be Tryz.f363 363
def rA:av:=be Tryz.f334 334
def mc:av:=be Tryz.f60 60
def kQ:av:=be Tryz.f266 266
def uq:av:=be Tryz.f58 58
def lI:av:=be Tryz.f364 364
def ul:av:=be Tryz.f170 170
def eO:av:=be Tryz.f65 65
def mQ:av:=be Tryz.f314 314
def rC:av:=be Tryz.f310 310
def p8:av:=be Tryz.f166 166
def j7:av:=be Tryz.f262 262
def lH:av:=be Tryz.f366 366
def yY:av:=be Tryz.f252 252
def um:av:=be Tryz.f309 309
