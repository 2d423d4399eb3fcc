import Derived.Test.YthhglklcaodfmaaGreatDoorCQi
noncomputable section
set_option linter.all false
set_option maxRecDepth 100000
set_option maxHeartbeats 4000000
namespace Go.Proofs.YthhglklcaodfmaaGreatDoor
open Go Go.Mw
def xO:aB:=aX Tryz.f16 16
def r_:aB:=aX Tryz.f316 316
def eV:aB:=aX Tryz.f247 247
def wA:aB:=aX Tryz.f10 10
def tT:aB:=aX Tryz.f14 14
def BC:aB:=aX Tryz.f321 321
def iI:aB:=aX Tryz.f58 58
def rZ:aB:=aX Tryz.f272 272
def yJ:aB:=aX Tryz.f297 297
def tx:aB:=aX Tryz.f37 37
def wV:aB:=aX Tryz.f85 85
def uh:aB:=aX Tryz.f307 307
def tX:aB:=aX Tryz.f143 143
def gN:aB:=aX Tryz.f144 144
def qT:aB:=aX Tryz.f226 226
def fT:aB:=aX Tryz.f246 246
def BE:aB:=aX Tryz.f330 330
def qI:aB:=aX Tryz.f51 51
def tA:aB:=aX Tryz.f38 38
def yX:aB:=aX Tryz.f301 301
def yY:aB:=aX Tryz.f285 285
def jY:aB:=aX Tryz.f72 72
def nH:aB:=aX Tryz.f20 20
def pd:aB:=aX Tryz.f254 254
def wJ:aB:=aX Tryz.f232 232
def jL:aB:=aX Tryz.f34 34
def Dl:aB:=aX Tryz.f129 129
def pP:aB:=aX Tryz.f138 138
def js:aB:=aX Tryz.f210 210
def tP:aB:=aX Tryz.f335 335
def yU:aB:=aX Tryz.f278 278
def gc:aB:=aX Tryz.f165 165
def tL:aB:=aX Tryz.f237 237
def iL:aB:=aX Tryz.f121 121
def gb:aB:=aX Tryz.f114 114
def ul:aB:=aX Tryz.f183 183
def tE:aB:=aX Tryz.f269 269
def BJ:aB:=aX Tryz.f245 245
def yG:aB:=aX Tryz.f127 127
def t8:aB:=aX Tryz.f148 148
def yH:aB:=aX Tryz.f333 333
def wG:aB:=aX Tryz.f46 46
def pN:aB:=aX Tryz.f65 65
def fX:aB:=aX Tryz.f172 172
def lF:aB:=aX Tryz.f139 139
def tO:aB:=aX Tryz.f238 238
def rQ:aB:=aX Tryz.f36 36
def rS:aB:=aX Tryz.f42 42
def lM:aB:=aX Tryz.f117 117
def lL:aB:=aX Tryz.f267 267
def By:aB:=aX Tryz.f107 107
def mU:aB:=aX Tryz.f271 271
