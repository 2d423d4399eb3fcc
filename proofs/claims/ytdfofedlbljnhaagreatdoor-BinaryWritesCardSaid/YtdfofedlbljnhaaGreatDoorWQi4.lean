import Derived.Test.YtdfofedlbljnhaaGreatDoorWQi
noncomputable section
set_option linter.all false
set_option maxRecDepth 100000
set_option maxHeartbeats 4000000
namespace Go.Proofs.YtdfofedlbljnhaaGreatDoor
open Go Go.Mw
def aY:aB:=aW Tryz.f40 40
def cZ:aB:=aW Tryz.f139 139
def wK:aB:=aW Tryz.f22 22
def uw:aB:=aW Tryz.f31 31
def sB:aB:=aW Tryz.f12 12
def yW:aB:=aW Tryz.f225 225
def sQ:aB:=aW Tryz.f127 127
def xc:aB:=aW Tryz.f119 119
def ju:aB:=aW Tryz.f183 183
def yV:aB:=aW Tryz.f288 288
def jc:aB:=aW Tryz.f226 226
def jL:aB:=aW Tryz.f170 170
def jb:aB:=aW Tryz.f34 34
def uc:aB:=aW Tryz.f59 59
def xB:aB:=aW Tryz.f71 71
def xh:aB:=aW Tryz.f213 213
def gJ:aB:=aW Tryz.f265 265
def qK:aB:=aW Tryz.f283 283
def Nf:aB:=aW Tryz.f289 289
def eD:aB:=aW Tryz.f28 28
def wM:aB:=aW Tryz.f74 74
def sP:aB:=aW Tryz.f357 357
def iI:aB:=aW Tryz.f99 99
def mM:aB:=aW Tryz.f145 145
def oH:aB:=aW Tryz.f171 171
def fM:aB:=aW Tryz.f239 239
def Co:aB:=aW Tryz.f192 192
def jQ:aB:=aW Tryz.f132 132
def lM:aB:=aW Tryz.f198 198
def tZ:aB:=aW Tryz.f235 235
def xi:aB:=aW Tryz.f131 131
def yO:aB:=aW Tryz.f280 280
def xC:aB:=aW Tryz.f202 202
def oP:aB:=aW Tryz.f354 354
def iE:aB:=aW Tryz.f151 151
def r5:aB:=aW Tryz.f204 204
def uA:aB:=aW Tryz.f215 215
def nq:aB:=aW Tryz.f116 116
def kC:aB:=aW Tryz.f113 113
def lH:aB:=aW Tryz.f199 199
def qf:aB:=aW Tryz.f317 317
def uq:aB:=aW Tryz.f319 319
def sE:aB:=aW Tryz.f57 57
def sD:aB:=aW Tryz.f54 54
def nc:aB:=aW Tryz.f331 331
def nh:aB:=aW Tryz.f332 332
def nx:aB:=aW Tryz.f233 233
def uk:aB:=aW Tryz.f341 341
