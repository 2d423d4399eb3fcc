import Derived.Test.YtdfofedlbljnhaaGreatDoorXQi
noncomputable section
set_option linter.all false
set_option maxRecDepth 100000
set_option maxHeartbeats 4000000
namespace Go.Proofs.YtdfofedlbljnhaaGreatDoor
open Go Go.Mw
def k7:ax:=aX Tryz.f292 292
def ui:ax:=aX Tryz.f356 356
def AX:ax:=aX Tryz.f177 177
def xX:ax:=aX Tryz.f242 242
def sV:ax:=aX Tryz.f306 306
def gw:ax:=aX Tryz.f301 301
def bc:ax:=aX Tryz.f16 16
def qP:ax:=aX Tryz.f362 362
def wk:ax:=aX Tryz.f254 254
def jU:ax:=aX Tryz.f43 43
def My:ax:=aX Tryz.f361 361
def wg:ax:=aX Tryz.f363 363
def fE:ax:=aX Tryz.f269 269
def oO:ax:=aX Tryz.f109 109
def oP:ax:=aX Tryz.f329 329
def t8:ax:=aX Tryz.f77 77
def tY:ax:=aX Tryz.f59 59
def du:ax:=aX Tryz.f92 92
def pK:ax:=aX Tryz.f25 25
def Mz:ax:=aX Tryz.f289 289
def nO:ax:=aX Tryz.f328 328
def xY:ax:=aX Tryz.f320 320
def je:ax:=aX Tryz.f55 55
def sQ:ax:=aX Tryz.f357 357
def mE:ax:=aX Tryz.f162 162
def na:ax:=aX Tryz.f173 173
def fL:ax:=aX Tryz.f239 239
def Ct:ax:=aX Tryz.f192 192
def lF:ax:=aX Tryz.f98 98
def iN:ax:=aX Tryz.f102 102
def x7:ax:=aX Tryz.f280 280
def AO:ax:=aX Tryz.f365 365
def uh:ax:=aX Tryz.f180 180
def nR:ax:=aX Tryz.f29 29
def ln:ax:=aX Tryz.f148 148
def x9:ax:=aX Tryz.f142 142
def v8:ax:=aX Tryz.f70 70
def qN:ax:=aX Tryz.f86 86
def sO:ax:=aX Tryz.f81 81
def lI:ax:=aX Tryz.f184 184
def sM:ax:=aX Tryz.f73 73
def iL:ax:=aX Tryz.f50 50
def AN:ax:=aX Tryz.f26 26
def AK:ax:=aX Tryz.f181 181
def ug:ax:=aX Tryz.f341 341
