import Derived.Test.YtdfofedlbljnhaaGreatDoorWQi
noncomputable section
set_option linter.all false
set_option maxRecDepth 100000
set_option maxHeartbeats 4000000
namespace Go.Proofs.YtdfofedlbljnhaaGreatDoor
open Go Go.Mw
def wV:aB:=aW Tryz.f352 352
def ui:aB:=aW Tryz.f187 187
def mE:aB:=aW Tryz.f15 15
def pJ:aB:=aW Tryz.f169 169
def uE:aB:=aW Tryz.f13 13
def bM:aB:=aW Tryz.f261 261
def sS:aB:=aW Tryz.f123 123
def Nc:aB:=aW Tryz.f361 361
def Cp:aB:=aW Tryz.f325 325
def uy:aB:=aW Tryz.f211 211
def eF:aB:=aW Tryz.f134 134
def jv:aB:=aW Tryz.f82 82
def tB:aB:=aW Tryz.f62 62
def pr:aB:=aW Tryz.f68 68
def iW:aB:=aW Tryz.f230 230
def dt:aB:=aW Tryz.f92 92
def lD:aB:=aW Tryz.f149 149
def fE:aB:=aW Tryz.f161 161
def qL:aB:=aW Tryz.f135 135
def kB:aB:=aW Tryz.f234 234
def eZ:aB:=aW Tryz.f236 236
def yN:aB:=aW Tryz.f359 359
def nu:aB:=aW Tryz.f167 167
def qJ:aB:=aW Tryz.f206 206
def nb:aB:=aW Tryz.f173 173
def oJ:aB:=aW Tryz.f154 154
def AL:aB:=aW Tryz.f61 61
def lL:aB:=aW Tryz.f98 98
def qg:aB:=aW Tryz.f124 124
def gn:aB:=aW Tryz.f93 93
def li:aB:=aW Tryz.f324 324
def lB:aB:=aW Tryz.f147 147
def xd:aB:=aW Tryz.f208 208
def r4:aB:=aW Tryz.f201 201
def f_:aB:=aW Tryz.f227 227
def lz:aB:=aW Tryz.f148 148
def yH:aB:=aW Tryz.f88 88
def Cq:aB:=aW Tryz.f282 282
def AR:aB:=aW Tryz.f209 209
def oO:aB:=aW Tryz.f264 264
def uB:aB:=aW Tryz.f279 279
def rY:aB:=aW Tryz.f266 266
def yI:aB:=aW Tryz.f146 146
def pQ:aB:=aW Tryz.f186 186
def cJ:aB:=aW Tryz.f258 258
def AP:aB:=aW Tryz.f26 26
def qM:aB:=aW Tryz.f281 281
def lE:aB:=aW Tryz.f107 107
