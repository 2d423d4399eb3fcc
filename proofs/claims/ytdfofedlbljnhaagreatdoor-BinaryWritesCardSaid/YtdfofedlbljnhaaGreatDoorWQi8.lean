import Derived.Test.YtdfofedlbljnhaaGreatDoorWQi
noncomputable section
set_option linter.all false
set_option maxRecDepth 100000
set_option maxHeartbeats 4000000
namespace Go.Proofs.YtdfofedlbljnhaaGreatDoor
open Go Go.Mw
def AQ:aB:=aW Tryz.f360 360
def bz:aB:=aW Tryz.f310 310
def ue:aB:=aW Tryz.f77 77
def lN:aB:=aW Tryz.f3 3
def yJ:aB:=aW Tryz.f323 323
def ku:aB:=aW Tryz.f164 164
def jO:aB:=aW Tryz.f100 100
def lI:aB:=aW Tryz.f196 196
def yU:aB:=aW Tryz.f142 142
def lg:aB:=aW Tryz.f207 207
def yQ:aB:=aW Tryz.f129 129
