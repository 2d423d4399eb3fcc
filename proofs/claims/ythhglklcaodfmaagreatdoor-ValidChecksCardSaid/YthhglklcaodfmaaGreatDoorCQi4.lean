import Derived.Test.YthhglklcaodfmaaGreatDoorCQi
noncomputable section
set_option linter.all false
set_option maxRecDepth 100000
set_option maxHeartbeats 4000000
namespace Go.Proofs.YthhglklcaodfmaaGreatDoor
open Go Go.Mw
def dz:aB:=aX Tryz.f229 229
def tG:aB:=aX Tryz.f113 113
def aL:aB:=aX Tryz.f324 324
def eL:aB:=aX Tryz.f182 182
def dy:aB:=aX Tryz.f274 274
def qU:aB:=aX Tryz.f67 67
def dc:aB:=aX Tryz.f168 168
def nc:aB:=aX Tryz.f248 248
def dv:aB:=aX Tryz.f177 177
def sc:aB:=aX Tryz.f95 95
def sj:aB:=aX Tryz.f30 30
def xi:aB:=aX Tryz.f29 29
def yV:aB:=aX Tryz.f276 276
def sq:aB:=aX Tryz.f25 25
def o8:aB:=aX Tryz.f253 253
def BF:aB:=aX Tryz.f151 151
def jz:aB:=aX Tryz.f27 27
def tC:aB:=aX Tryz.f56 56
def qG:aB:=aX Tryz.f62 62
def o_:aB:=aX Tryz.f304 304
def wB:aB:=aX Tryz.f9 9
def jx:aB:=aX Tryz.f79 79
def qP:aB:=aX Tryz.f250 250
def gh:aB:=aX Tryz.f189 189
def Dk:aB:=aX Tryz.f128 128
def wD:aB:=aX Tryz.f64 64
def nL:aB:=aX Tryz.f104 104
def wZ:aB:=aX Tryz.f239 239
def dC:aB:=aX Tryz.f166 166
def mM:aB:=aX Tryz.f77 77
def fv:aB:=aX Tryz.f294 294
def eW:aB:=aX Tryz.f201 201
def jt:aB:=aX Tryz.f70 70
def gO:aB:=aX Tryz.f293 293
def yF:aB:=aX Tryz.f43 43
def qM:aB:=aX Tryz.f133 133
def gM:aB:=aX Tryz.f263 263
def gn:aB:=aX Tryz.f295 295
def kV:aB:=aX Tryz.f207 207
def yP:aB:=aX Tryz.f149 149
def yQ:aB:=aX Tryz.f298 298
def BG:aB:=aX Tryz.f244 244
def wM:aB:=aX Tryz.f234 234
def BO:aB:=aX Tryz.f171 171
def rX:aB:=aX Tryz.f60 60
def uo:aB:=aX Tryz.f110 110
def pM:aB:=aX Tryz.f63 63
def rV:aB:=aX Tryz.f52 52
def ju:aB:=aX Tryz.f124 124
def ji:aB:=aX Tryz.f82 82
def li:aB:=aX Tryz.f336 336
def tJ:aB:=aX Tryz.f260 260
