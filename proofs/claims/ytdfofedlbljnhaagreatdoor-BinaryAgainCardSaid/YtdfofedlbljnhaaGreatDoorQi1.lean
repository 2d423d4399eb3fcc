import Derived.Test.YtdfofedlbljnhaaGreatDoorQi
set_option linter.all false
set_option maxRecDepth 100000
set_option maxHeartbeats 4000000
namespace Go.Proofs.YtdfofedlbljnhaaGreatDoor
open Go Go.Mw
noncomputable def wA:az:=bz Tryz.f352 352
noncomputable def tI:az:=bz Tryz.f30 30
noncomputable def se:az:=bz Tryz.f12 12
noncomputable def qC:az:=bz Tryz.f19 19
noncomputable def jZ:az:=bz Tryz.f43 43
noncomputable def nu:az:=bz Tryz.f157 157
noncomputable def pE:az:=bz Tryz.f90 90
noncomputable def iS:az:=bz Tryz.f45 45
noncomputable def jD:az:=bz Tryz.f82 82
noncomputable def rD:az:=bz Tryz.f72 72
noncomputable def oD:az:=bz Tryz.f152 152
noncomputable def pA:az:=bz Tryz.f172 172
noncomputable def fC:az:=bz Tryz.f112 112
noncomputable def eQ:az:=bz Tryz.f185 185
noncomputable def kK:az:=bz Tryz.f234 234
noncomputable def pD:az:=bz Tryz.f155 155
noncomputable def rH:az:=bz Tryz.f268 268
noncomputable def mD:az:=bz Tryz.f166 166
noncomputable def gD:az:=bz Tryz.f158 158
noncomputable def oy:az:=bz Tryz.f97 97
noncomputable def lG:az:=bz Tryz.f104 104
noncomputable def dM:az:=bz Tryz.f308 308
noncomputable def jU:az:=bz Tryz.f274 274
noncomputable def lF:az:=bz Tryz.f196 196
noncomputable def nM:az:=bz Tryz.f174 174
noncomputable def eG:az:=bz Tryz.f312 312
noncomputable def qz:az:=bz Tryz.f191 191
noncomputable def wy:az:=bz Tryz.f67 67
noncomputable def lE:az:=bz Tryz.f199 199
noncomputable def rG:az:=bz Tryz.f266 266
noncomputable def sk:az:=bz Tryz.f63 63
noncomputable def pH:az:=bz Tryz.f186 186
noncomputable def m_:az:=bz Tryz.f332 332
noncomputable def wz:az:=bz Tryz.f259 259
noncomputable def tF:az:=bz Tryz.f341 341
end Go.Proofs.YtdfofedlbljnhaaGreatDoor