import Derived.Test.YtijcmjncppkpiaaGreatDoorCQi
noncomputable section
set_option linter.all false
set_option maxRecDepth 100000
set_option maxHeartbeats 4000000
namespace Go.Proofs.YtijcmjncppkpiaaGreatDoor
open Go Go.Mw
def cU:av:=be Tryz.f384 384
def az:av:=be Tryz.f386 386
def wJ:av:=be Tryz.f38 38
def mO:av:=be Tryz.f199 199
def n6:av:=be Tryz.f383 383
def qf:av:=be Tryz.f426 426
def gc:av:=be Tryz.f29 29
def jh:av:=be Tryz.f254 254
def uA:av:=be Tryz.f83 83
def ju:av:=be Tryz.f108 108
def ux:av:=be Tryz.f45 45
def rg:av:=be Tryz.f162 162
def uu:av:=be Tryz.f12 12
def ur:av:=be Tryz.f13 13
def iE:av:=be Tryz.f200 200
def lq:av:=be Tryz.f62 62
def nZ:av:=be Tryz.f8 8
def j_:av:=be Tryz.f102 102
def qi:av:=be Tryz.f9 9
def qh:av:=be Tryz.f44 44
def jw:av:=be Tryz.f81 81
def dX:av:=be Tryz.f417 417
def uc:av:=be Tryz.f76 76
def jC:av:=be Tryz.f267 267
def kR:av:=be Tryz.f100 100
def t8:av:=be Tryz.f71 71
def jD:av:=be Tryz.f97 97
def mM:av:=be Tryz.f423 423
def wB:av:=be Tryz.f269 269
def mL:av:=be Tryz.f335 335
def bO:av:=be Tryz.f69 69
def je:av:=be Tryz.f55 55
def qe:av:=be Tryz.f427 427
def mR:av:=be Tryz.f59 59
def p6:av:=be Tryz.f160 160
def p5:av:=be Tryz.f157 157
def iu:av:=be Tryz.f130 130
def gZ:av:=be Tryz.f202 202
def yW:av:=be Tryz.f72 72
