import Derived.Test.YtdfofedlbljnhaaGreatDoorWQi
noncomputable section
set_option linter.all false
set_option maxRecDepth 100000
set_option maxHeartbeats 4000000
namespace Go.Proofs.YtdfofedlbljnhaaGreatDoor
open Go Go.Mw
def sC:aB:=aW Tryz.f23 23
def t8:aB:=aW Tryz.f58 58
def rW:aB:=aW Tryz.f56 56
def pH:aB:=aW Tryz.f172 172
def oR:aB:=aW Tryz.f285 285
def nL:aB:=aW Tryz.f160 160
def ib:aB:=aW Tryz.f237 237
def qD:aB:=aW Tryz.f103 103
def jt:aB:=aW Tryz.f105 105
def qH:aB:=aW Tryz.f86 86
def wX:aB:=aW Tryz.f276 276
