import Derived.Test.YthhglklcaodfmaaGreatDoorCQi
noncomputable section
set_option linter.all false
set_option maxRecDepth 100000
set_option maxHeartbeats 4000000
namespace Go.Proofs.YthhglklcaodfmaaGreatDoor
open Go Go.Mw
def wN:aB:=aX Tryz.f190 190
def wC:aB:=aX Tryz.f15 15
def eT:aB:=⟨59,1,[.tmp 2],(.seq (.reg [⟨(some 1),.box 56 13 (.s 0),none⟩,⟨(some 2),.mov (.c (.int .i64 0)),none⟩] []) (.seq (.reg [⟨(some 4),.load (some 13) (.s 1),none⟩,⟨(some 3),.new 56 [(.str []),(.str []),(.int .i64 0),(.int .i64 0),(.int .i64 0),(.int .i64 0),(.int .i64 0),(.bool false),(.int .i64 0),(.int .i64 0),(.bool false),(.int .i64 0),(.bool false)],none⟩,⟨none,.store 13 (.s 3) (.s 4),none⟩] [4]) (.seq (.reg [⟨(some 5),.fadr 0 (.s 3),none⟩,⟨none,.store 1 (.s 5) (.c (.str [])),none⟩] [5]) (.seq (.reg [⟨(some 6),.fadr 1 (.s 3),none⟩,⟨none,.store 1 (.s 6) (.c (.str [])),none⟩] [6]) (.seq (.seq (.reg [⟨(some 7),.fadr 2 (.s 1),none⟩,⟨(some 8),.load none (.s 7),none⟩] [7]) (.block 0 (.seq (.reg [⟨(some 10),.bin .eql (.s 8) (.c (.int .i64 0)),none⟩,⟨(some 9),.mov (.s 10),none⟩] [10]) (.cond (.s 9) (.seq (.seq (.reg [⟨(some 11),.load (some 13) (.s 3),none⟩,⟨(some 12),.fadr 2 (.s 1),none⟩,⟨(some 13),.load none (.s 12),none⟩,⟨(some 14),.fadr 3 (.s 1),none⟩,⟨(some 15),.load none (.s 14),none⟩,⟨(some 16),.build [(.str []),(.str []),(.int .i64 0),(.int .i64 0),(.int .i64 0),(.int .i64 0),(.int .i64 0),(.bool false),(.int .i64 0),(.int .i64 0),(.bool false),(.int .i64 0),(.bool false)] [(2,1,(.s 13)),(3,1,(.s 15))],none⟩,⟨(some 17),.sbin .neq [.s,.s,.i,.i,.i,.i,.i,.b,.i,.i,.b,.i,.b] (.s 11) (.s 16),none⟩] [11,12,13,14,15,16]) (.cond (.s 17) (.seq (.reg [⟨(some 2),.mov (.c (.int .i64 1)),none⟩] []) .ret) .skip)) (.seq (.seq (.reg [⟨(some 18),.fadr 3 (.s 1),none⟩,⟨(some 19),.load none (.s 18),none⟩,⟨(some 20),.call 139 [(.s 19)],none⟩,⟨(some 21),.un .not (.s 20),none⟩] [18,19,20]) (.cond (.s 21) (.seq (.reg [⟨(some 2),.mov (.c (.int .i64 11)),none⟩] []) .ret) .skip)) (.seq (.reg [⟨(some 2),.mov (.c (.int .i64 0)),none⟩] []) .ret))) (.seq (.reg [⟨(some 23),.bin .eql (.s 8) (.c (.int .i64 1)),none⟩,⟨(some 22),.mov (.s 23),none⟩] [23]) (.cond (.s 22) (.seq (.seq (.reg [⟨(some 24),.load (some 13) (.s 3),none⟩,⟨(some 25),.fadr 2 (.s 1),none⟩,⟨(some 26),.load none (.s 25),none⟩,⟨(some 27),.fadr 4 (.s 1),none⟩,⟨(some 28),.load (some 4) (.s 27),none⟩,⟨(some 29),.build [(.str []),(.str []),(.int .i64 0),(.int .i64 0),(.int .i64 0),(.int .i64 0),(.int .i64 0),(.bool false),(.int .i64 0),(.int .i64 0),(.bool false),(.int .i64 0),(.bool false)] [(2,1,(.s 26)),(4,4,(.s 28))],none⟩,⟨(some 30),.sbin .neq [.s,.s,.i,.i,.i,.i,.i,.b,.i,.i,.b,.i,.b] (.s 24) (.s 29),none⟩] [24,25,26,27,28,29]) (.cond (.s 30) (.seq (.reg [⟨(some 2),.mov (.c (.int .i64 1)),none⟩] []) .ret) .skip)) (.seq (.reg [⟨(some 31),.fadr 4 (.s 1),none⟩,⟨(some 32),.load (some 4) (.s 31),none⟩,⟨(some 33),.call 140 [(.s 32)],none⟩,⟨(some 2),.mov (.s 33),none⟩] [31,32,33]) .ret)) (.seq (.reg [⟨(some 35),.bin .eql (.s 8) (.c (.int .i64 2)),none⟩,⟨(some 34),.mov (.s 35),none⟩] [35]) (.cond (.s 34) (.seq (.seq (.reg [⟨(some 36),.load (some 13) (.s 3),none⟩,⟨(some 37),.fadr 2 (.s 1),none⟩,⟨(some 38),.load none (.s 37),none⟩,⟨(some 39),.fadr 8 (.s 1),none⟩,⟨(some 40),.load (some 3) (.s 39),none⟩,⟨(some 41),.build [(.str []),(.str []),(.int .i64 0),(.int .i64 0),(.int .i64 0),(.int .i64 0),(.int .i64 0),(.bool false),(.int .i64 0),(.int .i64 0),(.bool false),(.int .i64 0),(.bool false)] [(2,1,(.s 38)),(8,3,(.s 40))],none⟩,⟨(some 42),.sbin .neq [.s,.s,.i,.i,.i,.i,.i,.b,.i,.i,.b,.i,.b] (.s 36) (.s 41),none⟩] [36,37,38,39,40,41]) (.cond (.s 42) (.seq (.reg [⟨(some 2),.mov (.c (.int .i64 1)),none⟩] []) .ret) .skip)) (.seq (.reg [⟨(some 43),.fadr 8 (.s 1),none⟩,⟨(some 44),.load (some 3) (.s 43),none⟩,⟨(some 45),.call 141 [(.s 44)],none⟩,⟨(some 2),.mov (.s 45),none⟩] [43,44,45]) .ret)) (.seq (.reg [⟨(some 47),.bin .eql (.s 8) (.c (.int .i64 3)),none⟩,⟨(some 46),.mov (.s 47),none⟩] [47]) (.cond (.s 46) (.seq (.seq (.reg [⟨(some 48),.load (some 13) (.s 3),none⟩,⟨(some 49),.fadr 2 (.s 1),none⟩,⟨(some 50),.load none (.s 49),none⟩,⟨(some 51),.fadr 11 (.s 1),none⟩,⟨(some 52),.load (some 2) (.s 51),none⟩,⟨(some 53),.build [(.str []),(.str []),(.int .i64 0),(.int .i64 0),(.int .i64 0),(.int .i64 0),(.int .i64 0),(.bool false),(.int .i64 0),(.int .i64 0),(.bool false),(.int .i64 0),(.bool false)] [(2,1,(.s 50)),(11,2,(.s 52))],none⟩,⟨(some 54),.sbin .neq [.s,.s,.i,.i,.i,.i,.i,.b,.i,.i,.b,.i,.b] (.s 48) (.s 53),none⟩] [48,49,50,51,52,53]) (.cond (.s 54) (.seq (.reg [⟨(some 2),.mov (.c (.int .i64 1)),none⟩] []) .ret) .skip)) (.seq (.seq (.reg [⟨(some 55),.fadr 11 (.s 1),none⟩,⟨(some 56),.load (some 2) (.s 55),none⟩,⟨(some 57),.call 142 [(.s 56)],none⟩,⟨(some 58),.un .not (.s 57),none⟩] [55,56,57]) (.cond (.s 58) (.seq (.reg [⟨(some 2),.mov (.c (.int .i64 12)),none⟩] []) .ret) .skip)) (.seq (.reg [⟨(some 2),.mov (.c (.int .i64 0)),none⟩] []) .ret))) .skip)))))))))) (.seq (.reg [⟨(some 2),.mov (.c (.int .i64 1)),none⟩] []) .ret))))))⟩
def dm:aB:=aX Tryz.f130 130
def o9:aB:=aX Tryz.f249 249
def wP:aB:=aX Tryz.f94 94
def pi:aB:=aX Tryz.f228 228
def Bw:aB:=aX Tryz.f83 83
def bG:aB:=aX Tryz.f160 160
def xh:aB:=aX Tryz.f100 100
def sf:aB:=aX Tryz.f86 86
def j0:aB:=aX Tryz.f109 109
def pS:aB:=aX Tryz.f302 302
def jO:aB:=aX Tryz.f221 221
def tI:aB:=aX Tryz.f203 203
def wO:aB:=aX Tryz.f331 331
def tY:aB:=aX Tryz.f88 88
def tB:aB:=aX Tryz.f59 59
def y6:aB:=aX Tryz.f284 284
def dZ:aB:=aX Tryz.f74 74
def iJ:aB:=aX Tryz.f163 163
def tV:aB:=aX Tryz.f96 96
def xc:aB:=aX Tryz.f282 282
def BM:aB:=aX Tryz.f195 195
def lj:aB:=aX Tryz.f281 281
def zb:aB:=aX Tryz.f68 68
def wz:aB:=aX Tryz.f126 126
def mS:aB:=aX Tryz.f17 17
def dT:aB:=aX Tryz.f191 191
def fu:aB:=aX Tryz.f261 261
def j_:aB:=aX Tryz.f73 73
def ki:aB:=aX Tryz.f125 125
def BA:aB:=aX Tryz.f208 208
def wL:aB:=aX Tryz.f323 323
def nK:aB:=aX Tryz.f296 296
def su:aB:=aX Tryz.f21 21
def nh:aB:=aX Tryz.f265 265
def uc:aB:=aX Tryz.f242 242
def si:aB:=aX Tryz.f150 150
def ue:aB:=aX Tryz.f277 277
def wF:aB:=aX Tryz.f49 49
def mI:aB:=aX Tryz.f131 131
def xf:aB:=aX Tryz.f303 303
def rW:aB:=aX Tryz.f57 57
def tS:aB:=aX Tryz.f186 186
def Dn:aB:=aX Tryz.f13 13
def rT:aB:=aX Tryz.f45 45
def cU:aB:=aX Tryz.f155 155
def yS:aB:=aX Tryz.f200 200
def BB:aB:=aX Tryz.f270 270
def yZ:aB:=aX Tryz.f283 283
def tu:aB:=aX Tryz.f84 84
