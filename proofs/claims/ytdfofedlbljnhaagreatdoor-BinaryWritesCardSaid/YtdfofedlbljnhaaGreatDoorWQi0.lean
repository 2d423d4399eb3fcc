import Derived.Test.YtdfofedlbljnhaaGreatDoorWQi
noncomputable section
set_option linter.all false
set_option maxRecDepth 100000
set_option maxHeartbeats 4000000
namespace Go.Proofs.YtdfofedlbljnhaaGreatDoor
open Go Go.Mw
def wmI(d:Nat)(n:Int):bF:=o0 d (.mov (.c (.int .i64 n)))
def wsr(o:List bF)(k:List Nat)(y:bR):bR:=.seq (.reg o k) y
attribute[go_sem] wmI wsr
def wZ:aB:=aW Tryz.f278 278
def sO:aB:=aW Tryz.f355 355
def uG:aB:=aW Tryz.f30 30
def sY:aB:=aW Tryz.f224 224
def fN:aB:=aW Tryz.f39 39
def xf:aB:=aW Tryz.f130 130
def w_:aB:=aW Tryz.f125 125
def sU:aB:=aW Tryz.f118 118
def sT:aB:=aW Tryz.f122 122
def fF:aB:=aW Tryz.f269 269
def oL:aB:=aW Tryz.f109 109
def sX:aB:=aW Tryz.f33 33
def rX:aB:=aW Tryz.f65 65
def ug:aB:=aW Tryz.f53 53
def iY:aB:=aW Tryz.f321 321
def pB:aB:=aW Tryz.f25 25
def fD:aB:=aW Tryz.f112 112
def sV:aB:=aW Tryz.f133 133
def nP:aB:=aW Tryz.f328 328
def wL:aB:=aW Tryz.f85 85
def i_:aB:=aW Tryz.f55 55
def sW:aB:=aW Tryz.f219 219
def mJ:aB:=aW Tryz.f162 162
def yS:aB:=aW Tryz.f218 218
def Fy:aB:=aW Tryz.f326 326
def uD:aB:=aW Tryz.f137 137
def mK:aB:=aW Tryz.f96 96
def lJ:aB:=aW Tryz.f104 104
def kJ:aB:=aW Tryz.f141 141
def yR:aB:=aW Tryz.f203 203
def uC:aB:=aW Tryz.f222 222
def AO:aB:=aW Tryz.f267 267
def ga:aB:=aW Tryz.f200 200
def eY:aB:=aW Tryz.f95 95
def ul:aB:=aW Tryz.f286 286
def mL:aB:=aW Tryz.f216 216
def qF:aB:=aW Tryz.f191 191
def wQ:aB:=aW Tryz.f67 67
def sM:aB:=aW Tryz.f144 144
def sL:aB:=aW Tryz.f81 81
def lO:aB:=aW Tryz.f275 275
def gj:aB:=aW Tryz.f159 159
def qG:aB:=aW Tryz.f84 84
def lF:aB:=aW Tryz.f190 190
def ur:aB:=aW Tryz.f210 210
def FX0:aB :=
⟨8,2,[.tmp 4],
 (wsr [wmI 4 0] []
 (wsr [mv 5 0,
 mv 6 1,
 o0 7 (.sib (.s 5) (.s 6)),
 mv 4 7] [5,6,7]
 .ret))⟩
