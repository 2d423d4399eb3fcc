import Derived.Test.YthhglklcaodfmaaGreatDoorCQi
noncomputable section
set_option linter.all false
set_option maxRecDepth 100000
set_option maxHeartbeats 4000000
namespace Go.Proofs.YthhglklcaodfmaaGreatDoor
open Go Go.Mw
def aP:aB:=aX Tryz.f199 199
def cA:aB:=aX Tryz.f287 287
def y_:aB:=aX Tryz.f220 220
def xj:aB:=aX Tryz.f28 28
def aK:aB:=aX Tryz.f332 332
def tU:aB:=aX Tryz.f23 23
def c_:aB:=aX Tryz.f176 176
def oJ:aB:=aX Tryz.f80 80
def bX:aB:=aX Tryz.f159 159
def wQ:aB:=aX Tryz.f93 93
def wS:aB:=aX Tryz.f87 87
def ik:aB:=aX Tryz.f180 180
def mr:aB:=aX Tryz.f224 224
def yO:aB:=aX Tryz.f102 102
def jB:aB:=aX Tryz.f227 227
def qJ:aB:=aX Tryz.f35 35
def tZ:aB:=aX Tryz.f193 193
def yL:aB:=aX Tryz.f89 89
def ug:aB:=aX Tryz.f305 305
def jy:aB:=aX Tryz.f235 235
def kX:aB:=aX Tryz.f18 18
def i_:aB:=aX Tryz.f167 167
def iq:aB:=aX Tryz.f69 69
def gp:aB:=aX Tryz.f111 111
def db:aB:=aX Tryz.f81 81
def wE:aB:=aX Tryz.f53 53
def sa:aB:=aX Tryz.f318 318
def BI:aB:=aX Tryz.f197 197
def lP:aB:=aX Tryz.f217 217
def jr:aB:=aX Tryz.f173 173
def na:aB:=aX Tryz.f308 308
def BN:aB:=aX Tryz.f174 174
def yN:aB:=aX Tryz.f135 135
def pO:aB:=aX Tryz.f319 319
def gE:aB:=aX Tryz.f311 311
def wU:aB:=aX Tryz.f140 140
def tN:aB:=aX Tryz.f334 334
def qN:aB:=aX Tryz.f136 136
def BL:aB:=aX Tryz.f322 322
def iH:aB:=aX Tryz.f218 218
def Dm:aB:=aX Tryz.f233 233
def nF:aB:=aX Tryz.f184 184
def mO:aB:=aX Tryz.f132 132
def jX:aB:=aX Tryz.f116 116
def oZ:aB:=aX Tryz.f236 236
def qL:aB:=aX Tryz.f164 164
def xN:aB:=aX Tryz.f222 222
def j9:aB:=aX Tryz.f120 120
def mN:aB:=aX Tryz.f119 119
def BK:aB:=aX Tryz.f300 300
def tQ:aB:=aX Tryz.f142 142
def pT:aB:=aX Tryz.f215 215
