import Derived.Test.YtijcmjncppkpiaaGreatDoorCQi
noncomputable section
set_option linter.all false
set_option maxRecDepth 100000
set_option maxHeartbeats 4000000
namespace Go.Proofs.YtijcmjncppkpiaaGreatDoor
open Go Go.Mw
def uV:av:=be Tryz.f54 54
def dC:av:=be Tryz.f333 333
def rd:av:=be Tryz.f260 260
def uz:av:=be Tryz.f56 56
def nH:av:=be Tryz.f88 88
def bh:av:=be Tryz.f312 312
def jz:av:=be Tryz.f28 28
def lr:av:=be Tryz.f379 379
def iF:av:=be Tryz.f382 382
def jg:av:=be Tryz.f197 197
def pz:av:=be Tryz.f168 168
def wE:av:=be Tryz.f25 25
def cE:av:=be Tryz.f196 196
def yV:av:=be Tryz.f19 19
def mN:av:=be Tryz.f109 109
def cJ:av:=be Tryz.f201 201
def ui:av:=be Tryz.f188 188
def gy:av:=be Tryz.f84 84
def kU:av:=be Tryz.f75 75
def iq:av:=be Tryz.f365 365
def eu:av:=be Tryz.f70 70
def j9:av:=be Tryz.f192 192
def dJ:av:=be Tryz.f357 357
def fD:av:=be Tryz.f330 330
def p_:av:=be Tryz.f172 172
def mg:av:=be Tryz.f37 37
def t_:av:=be Tryz.f74 74
def md:av:=be Tryz.f420 420
def gq:av:=be Tryz.f373 373
def dl:av:=be Tryz.f66 66
def dI:av:=be Tryz.f67 67
def jB:av:=be Tryz.f104 104
def CX:av:=be Tryz.f380 380
def uU:av:=be Tryz.f377 377
def kP:av:=be Tryz.f261 261
def oO:av:=be Tryz.f20 20
def wG:av:=be Tryz.f385 385
def ry:av:=be Tryz.f416 416
def rc:av:=be Tryz.f204 204
