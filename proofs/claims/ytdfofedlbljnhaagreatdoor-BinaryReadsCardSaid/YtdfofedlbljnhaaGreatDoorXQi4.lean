import Derived.Test.YtdfofedlbljnhaaGreatDoorXQi
noncomputable section
set_option linter.all false
set_option maxRecDepth 100000
set_option maxHeartbeats 4000000
namespace Go.Proofs.YtdfofedlbljnhaaGreatDoor
open Go Go.Mw
def aU:ax:=aX Tryz.f40 40
def eu:ax:=aX Tryz.f179 179
def sX:ax:=aX Tryz.f304 304
def uo:ax:=aX Tryz.f30 30
def pT:ax:=aX Tryz.f169 169
def gZ:ax:=aX Tryz.f79 79
def pO:ax:=aX Tryz.f17 17
def xZ:ax:=aX Tryz.f343 343
def tV:ax:=aX Tryz.f58 58
def iQ:ax:=aX Tryz.f49 49
def ny:ax:=aX Tryz.f157 157
def bu:ax:=aX Tryz.f310 310
def gq:ax:=aX Tryz.f238 238
def jN:ax:=aX Tryz.f170 170
def xV:ax:=aX Tryz.f346 346
def rQ:ax:=aX Tryz.f72 72
def t_:ax:=aX Tryz.f53 53
def oS:ax:=aX Tryz.f371 371
def lx:ax:=aX Tryz.f149 149
def fD:ax:=aX Tryz.f161 161
def jV:ax:=aX Tryz.f41 41
def kI:ax:=aX Tryz.f175 175
def mD:ax:=aX Tryz.f156 156
def Cs:ax:=aX Tryz.f313 313
def oL:ax:=aX Tryz.f168 168
def lE:ax:=aX Tryz.f91 91
def AJ:ax:=aX Tryz.f61 61
def uj:ax:=aX Tryz.f347 347
def lD:ax:=aX Tryz.f104 104
def fB:ax:=aX Tryz.f76 76
def lr:ax:=aX Tryz.f147 147
def sL:ax:=aX Tryz.f69 69
def jh:ax:=aX Tryz.f153 153
def nQ:ax:=aX Tryz.f174 174
def jw:ax:=aX Tryz.f105 105
def qL:ax:=aX Tryz.f191 191
def AP:ax:=aX Tryz.f370 370
def oJ:ax:=aX Tryz.f232 232
def rO:ax:=aX Tryz.f75 75
def xU:ax:=aX Tryz.f146 146
def qM:ax:=aX Tryz.f84 84
def cC:ax:=aX Tryz.f258 258
def nk:ax:=aX Tryz.f150 150
def ju:ax:=aX Tryz.f94 94
def ly:ax:=aX Tryz.f107 107
