import Derived.Test.YtdfofedlbljnhaaGreatDoorWQi
noncomputable section
set_option linter.all false
set_option maxRecDepth 100000
set_option maxHeartbeats 4000000
namespace Go.Proofs.YtdfofedlbljnhaaGreatDoor
open Go Go.Mw
def lP:aB:=aW Tryz.f223 223
def yM:aB:=aW Tryz.f343 343
def dn:aB:=aW Tryz.f195 195
def jM:aB:=aW Tryz.f345 345
def fe:aB:=aW Tryz.f185 185
def sN:aB:=aW Tryz.f143 143
def uH:aB:=aW Tryz.f291 291
def up:aB:=aW Tryz.f318 318
def nQ:aB:=aW Tryz.f29 29
def wO:aB:=aW Tryz.f70 70
def sJ:aB:=aW Tryz.f73 73
def jr:aB:=aW Tryz.f94 94
