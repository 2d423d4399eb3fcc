import Derived.Test.YtdfofedlbljnhaaGreatDoorWQi
noncomputable section
set_option linter.all false
set_option maxRecDepth 100000
set_option maxHeartbeats 4000000
namespace Go.Proofs.YtdfofedlbljnhaaGreatDoor
open Go Go.Mw
def AN:aB:=aW Tryz.f188 188
def lc:aB:=aW Tryz.f193 193
def uF:aB:=aW Tryz.f32 32
def uu:aB:=aW Tryz.f21 21
def gH:aB:=aW Tryz.f79 79
def pD:aB:=aW Tryz.f17 17
def wI:aB:=aW Tryz.f11 11
def pG:aB:=aW Tryz.f241 241
def nw:aB:=aW Tryz.f157 157
def qC:aB:=aW Tryz.f24 24
def fG:aB:=aW Tryz.f212 212
def uj:aB:=aW Tryz.f309 309
def yP:aB:=aW Tryz.f121 121
def rT:aB:=aW Tryz.f83 83
def iX:aB:=aW Tryz.f316 316
def wJ:aB:=aW Tryz.f10 10
def jS:aB:=aW Tryz.f136 136
def qE:aB:=aW Tryz.f330 330
def eE:aB:=aW Tryz.f115 115
def yL:aB:=aW Tryz.f320 320
def oQ:aB:=aW Tryz.f221 221
def mH:aB:=aW Tryz.f156 156
def r6:aB:=aW Tryz.f268 268
def oI:aB:=aW Tryz.f168 168
def nk:aB:=aW Tryz.f229 229
def tY:aB:=aW Tryz.f189 189
def oN:aB:=aW Tryz.f97 97
def nN:aB:=aW Tryz.f108 108
def nM:aB:=aW Tryz.f111 111
def dT:aB:=aW Tryz.f308 308
def jN:aB:=aW Tryz.f274 274
def qI:aB:=aW Tryz.f358 358
def yG:aB:=aW Tryz.f64 64
def jd:aB:=aW Tryz.f153 153
def rZ:aB:=aW Tryz.f35 35
def eX:aB:=aW Tryz.f312 312
def gG:aB:=aW Tryz.f197 197
def um:aB:=aW Tryz.f287 287
def tV:aB:=aW Tryz.f14 14
def js:aB:=aW Tryz.f101 101
def sK:aB:=aW Tryz.f78 78
def ut:aB:=aW Tryz.f220 220
def sG:aB:=aW Tryz.f63 63
def sF:aB:=aW Tryz.f60 60
def lA:aB:=aW Tryz.f228 228
def nj:aB:=aW Tryz.f150 150
def ng:aB:=aW Tryz.f344 344
