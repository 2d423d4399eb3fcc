import Derived.Test.YtdfofedlbljnhaaGreatDoorQi
set_option linter.all false
set_option maxRecDepth 100000
set_option maxHeartbeats 4000000
namespace Go.Proofs.YtdfofedlbljnhaaGreatDoor
open Go Go.Mw
noncomputable def lh:az:=bz Tryz.f292 292
noncomputable def xV:az:=bz Tryz.f242 242
noncomputable def jY:az:=bz Tryz.f47 47
noncomputable def fN:az:=bz Tryz.f39 39
noncomputable def be:az:=bz Tryz.f262 262
noncomputable def jW:az:=bz Tryz.f7 7
noncomputable def DL:az:=bz Tryz.f325 325
noncomputable def fE:az:=bz Tryz.f269 269
noncomputable def jS:az:=bz Tryz.f170 170
noncomputable def ox:az:=bz Tryz.f329 329
noncomputable def rC:az:=bz Tryz.f83 83
noncomputable def wX:az:=bz Tryz.f71 71
noncomputable def pw:az:=bz Tryz.f25 25
noncomputable def M7:az:=bz Tryz.f289 289
noncomputable def j0:az:=bz Tryz.f41 41
noncomputable def kR:az:=bz Tryz.f175 175
noncomputable def mE:az:=bz Tryz.f156 156
noncomputable def nH:az:=bz Tryz.f160 160
noncomputable def nh:az:=bz Tryz.f229 229
noncomputable def oq:az:=bz Tryz.f154 154
noncomputable def DK:az:=bz Tryz.f192 192
noncomputable def nI:az:=bz Tryz.f111 111
noncomputable def tq:az:=bz Tryz.f235 235
noncomputable def Bx:az:=bz Tryz.f267 267
noncomputable def f_:az:=bz Tryz.f227 227
noncomputable def lw:az:=bz Tryz.f148 148
noncomputable def tn:az:=bz Tryz.f270 270
noncomputable def og:az:=bz Tryz.f232 232
noncomputable def su:az:=bz Tryz.f78 78
noncomputable def xU:az:=bz Tryz.f146 146
noncomputable def qA:az:=bz Tryz.f84 84
noncomputable def m8:az:=bz Tryz.f331 331
noncomputable def nj:az:=bz Tryz.f271 271
def FX0:az :=
⟨8,2,[.tmp 4],
 (.seq (.reg [o0 4 (.mov (.c (.int .i64 0)))] [])
 (.seq (.reg [mv 5 0,
 mv 6 1,
 o0 7 (.sib (.s 5) (.s 6)),
 mv 4 7] [5,6,7])
 .ret))⟩
noncomputable def nk:az:=bz Tryz.f272 272
end Go.Proofs.YtdfofedlbljnhaaGreatDoor