import Derived.Test.YtdfofedlbljnhaaGreatDoorWQi
noncomputable section
set_option linter.all false
set_option maxRecDepth 100000
set_option maxHeartbeats 4000000
namespace Go.Proofs.YtdfofedlbljnhaaGreatDoor
open Go Go.Mw
def b_:aB:=aW Tryz.f36 36
def uo:aB:=aW Tryz.f356 356
def yT:aB:=aW Tryz.f38 38
def dg:aB:=aW Tryz.f342 342
def w9:aB:=aW Tryz.f126 126
def qN:aB:=aW Tryz.f19 19
def bt:aB:=aW Tryz.f262 262
def xe:aB:=aW Tryz.f117 117
def e_:aB:=aW Tryz.f163 163
def pO:aB:=aW Tryz.f90 90
def gp:aB:=aW Tryz.f238 238
def oM:aB:=aW Tryz.f329 329
def uz:aB:=aW Tryz.f120 120
def rV:aB:=aW Tryz.f72 72
def oS:aB:=aW Tryz.f152 152
def lC:aB:=aW Tryz.f231 231
def xg:aB:=aW Tryz.f214 214
def jT:aB:=aW Tryz.f284 284
def fc:aB:=aW Tryz.f277 277
def wW:aB:=aW Tryz.f314 314
def pK:aB:=aW Tryz.f155 155
def iG:aB:=aW Tryz.f240 240
def Cn:aB:=aW Tryz.f313 313
def mF:aB:=aW Tryz.f166 166
def lK:aB:=aW Tryz.f91 91
def yK:aB:=aW Tryz.f217 217
def ni:aB:=aW Tryz.f293 293
def jP:aB:=aW Tryz.f322 322
def jR:aB:=aW Tryz.f138 138
def fC:aB:=aW Tryz.f76 76
def nO:aB:=aW Tryz.f89 89
def lG:aB:=aW Tryz.f106 106
def sI:aB:=aW Tryz.f69 69
def nv:aB:=aW Tryz.f165 165
def t_:aB:=aW Tryz.f182 182
def mN:aB:=aW Tryz.f114 114
def tX:aB:=aW Tryz.f270 270
def ja:aB:=aW Tryz.f339 339
def wY:aB:=aW Tryz.f315 315
def oG:aB:=aW Tryz.f232 232
def rR:aB:=aW Tryz.f75 75
def lQ:aB:=aW Tryz.f260 260
def sH:aB:=aW Tryz.f66 66
def iF:aB:=aW Tryz.f50 50
def nr:aB:=aW Tryz.f271 271
def AM:aB:=aW Tryz.f181 181
def wT:aB:=aW Tryz.f259 259
def nt:aB:=aW Tryz.f272 272
