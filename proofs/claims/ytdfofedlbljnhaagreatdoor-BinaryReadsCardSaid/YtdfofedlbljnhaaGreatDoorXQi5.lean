import Derived.Test.YtdfofedlbljnhaaGreatDoorXQi
noncomputable section
set_option linter.all false
set_option maxRecDepth 100000
set_option maxHeartbeats 4000000
namespace Go.Proofs.YtdfofedlbljnhaaGreatDoor
open Go Go.Mw
def AL:ax:=aX Tryz.f188 188
def k8:ax:=aX Tryz.f193 193
def pW:ax:=aX Tryz.f299 299
def sE:ax:=aX Tryz.f23 23
def AT:ax:=aX Tryz.f360 360
def sW:ax:=aX Tryz.f307 307
def sZ:ax:=aX Tryz.f248 248
def bp:ax:=aX Tryz.f262 262
def x_:ax:=aX Tryz.f251 251
def ul:ax:=aX Tryz.f364 364
def Fi:ax:=aX Tryz.f333 333
def oN:ax:=aX Tryz.f110 110
def dp:ax:=aX Tryz.f195 195
def ue:ax:=aX Tryz.f309 309
def AW:ax:=aX Tryz.f337 337
def rT:ax:=aX Tryz.f65 65
def oU:ax:=aX Tryz.f152 152
def kH:ax:=aX Tryz.f294 294
def g_:ax:=aX Tryz.f265 265
def iP:ax:=aX Tryz.f9 9
def mH:ax:=aX Tryz.f176 176
def v6:ax:=aX Tryz.f85 85
def iM:ax:=aX Tryz.f240 240
def rZ:ax:=aX Tryz.f268 268
def nK:ax:=aX Tryz.f160 160
def nq:ax:=aX Tryz.f229 229
def oM:ax:=aX Tryz.f154 154
def nj:ax:=aX Tryz.f293 293
def jQ:ax:=aX Tryz.f100 100
def dR:ax:=aX Tryz.f308 308
def qJ:ax:=aX Tryz.f103 103
def xS:ax:=aX Tryz.f64 64
def nx:ax:=aX Tryz.f165 165
def rX:ax:=aX Tryz.f257 257
def eL:ax:=aX Tryz.f312 312
def xT:ax:=aX Tryz.f88 88
def pQ:ax:=aX Tryz.f87 87
def we:ax:=aX Tryz.f315 315
def sN:ax:=aX Tryz.f78 78
def lH:ax:=aX Tryz.f260 260
def sK:ax:=aX Tryz.f66 66
def xW:ax:=aX Tryz.f178 178
def nu:ax:=aX Tryz.f271 271
def nh:ax:=aX Tryz.f344 344
