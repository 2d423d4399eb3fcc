import Derived.Test.YthhglklcaodfmaaGreatDoorCQi
noncomputable section
set_option linter.all false
set_option maxRecDepth 100000
set_option maxHeartbeats 4000000
namespace Go.Proofs.YthhglklcaodfmaaGreatDoor
open Go Go.Mw
def wI:aB:=aX Tryz.f290 290
def aG:aB:=aX Tryz.f256 256
def aN:aB:=aX Tryz.f231 231
def ph:aB:=aX Tryz.f12 12
def lk:aB:=aX Tryz.f192 192
def ss:aB:=aX Tryz.f24 24
def eD:aB:=aX Tryz.f178 178
def uk:aB:=aX Tryz.f181 181
def w8:aB:=aX Tryz.f196 196
def iK:aB:=aX Tryz.f309 309
def sn:aB:=aX Tryz.f26 26
def eB:aB:=aX Tryz.f219 219
def se:aB:=aX Tryz.f90 90
def dS:aB:=aX Tryz.f175 175
def kf:aB:=aX Tryz.f19 19
def wY:aB:=aX Tryz.f103 103
def jZ:aB:=aX Tryz.f76 76
def qK:aB:=aX Tryz.f44 44
def BH:aB:=aX Tryz.f286 286
def xL:aB:=aX Tryz.f50 50
def w_:aB:=aX Tryz.f240 240
def jq:aB:=aX Tryz.f212 212
def oI:aB:=aX Tryz.f214 214
def uj:aB:=aX Tryz.f31 31
def yI:aB:=aX Tryz.f275 275
def jA:aB:=aX Tryz.f101 101
def iM:aB:=aX Tryz.f264 264
def mQ:aB:=aX Tryz.f216 216
def ng:aB:=aX Tryz.f145 145
def fJ:aB:=aX Tryz.f169 169
def t_:aB:=aX Tryz.f153 153
def kY:aB:=aX Tryz.f71 71
def gK:aB:=aX Tryz.f179 179
def lO:aB:=aX Tryz.f122 122
def rU:aB:=aX Tryz.f48 48
def qQ:aB:=aX Tryz.f198 198
def tz:aB:=aX Tryz.f108 108
def nG:aB:=aX Tryz.f268 268
def xg:aB:=aX Tryz.f106 106
def wX:aB:=aX Tryz.f147 147
def xd:aB:=aX Tryz.f299 299
def ud:aB:=aX Tryz.f252 252
def BD:aB:=aX Tryz.f141 141
def nJ:aB:=aX Tryz.f162 162
def qF:aB:=aX Tryz.f54 54
def um:aB:=aX Tryz.f158 158
def rR:aB:=aX Tryz.f39 39
def kW:aB:=aX Tryz.f118 118
def mJ:aB:=aX Tryz.f211 211
def yM:aB:=aX Tryz.f97 97
def tF:aB:=aX Tryz.f161 161
def wH:aB:=aX Tryz.f156 156
