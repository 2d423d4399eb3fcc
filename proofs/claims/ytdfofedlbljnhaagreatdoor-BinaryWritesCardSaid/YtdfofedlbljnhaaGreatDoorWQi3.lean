import Derived.Test.YtdfofedlbljnhaaGreatDoorWQi
noncomputable section
set_option linter.all false
set_option maxRecDepth 100000
set_option maxHeartbeats 4000000
namespace Go.Proofs.YtdfofedlbljnhaaGreatDoor
open Go Go.Mw
def k_:aB:=aW Tryz.f292 292
def bc:aB:=aW Tryz.f27 27
def oK:aB:=aW Tryz.f110 110
def ud:aB:=aW Tryz.f80 80
def ux:aB:=aW Tryz.f128 128
def lh:aB:=aW Tryz.f140 140
def gF:aB:=aW Tryz.f158 158
def iH:aB:=aW Tryz.f102 102
def Cr:aB:=aW Tryz.f37 37
def pE:aB:=aW Tryz.f87 87
def lR:aB:=aW Tryz.f184 184
def uh:aB:=aW Tryz.f263 263
def ylo(d j:Nat):bF:=o0 d (.load none (.s j))
def ylS(d n j:Nat):bF:=o0 d (.load (some n) (.s j))
def yfa(d n j:Nat):bF:=o0 d (.fadr n (.s j))
def ymI(d:Nat)(n:Int):bF:=o0 d (.mov (.c (.int .i64 n)))
def ybI(d:Nat)(o:BinOp)(j:Nat)(n:Int):bF:=o0 d (.bin o (.s j) (.c (.int .i64 n)))
def yc1(d:Nat)(f:FuncId)(a:Nat):bF:=o0 d (.call f [.s a])
def yuN(d j:Nat):bF:=o0 d (.un .not (.s j))
def ysT(n j k:Nat):bF:=⟨none,.store n (.s j) (.s k),none⟩
def ysr(o:List bF)(k:List Nat)(y:bR):bR:=.seq (.reg o k) y
attribute[go_sem] ylo ylS yfa ymI ybI yc1 yuN ysT ysr
def dS:aB:=
⟨59,1,[.tmp 2],
 (ysr [o0 1 (.box 125 13 (.s 0)),
 ymI 2 0] []
 (.seq (.reg [ylS 4 13 1,
 o0 3 (.new 125 [(.str []),(.str []),(.int .i64 0),(.int .i64 0),(.int .i64 0),(.int .i64 0),(.int .i64 0),(.bool false),(.int .i64 0),(.int .i64 0),(.bool false),(.int .i64 0),(.bool false)]),
 ysT 13 3 4] [4])
 (ysr [yfa 5 0 3,
 ⟨none,.store 1 (.s 5) (.c (.str [])),none⟩] [5]
 (ysr [yfa 6 1 3,
 ⟨none,.store 1 (.s 6) (.c (.str [])),none⟩] [6]
 (.seq (ysr [yfa 7 2 1,
 ylo 8 7] [7]
 (.block 0 (ysr [ybI 10 .eql 8 0,
 mv 9 10] [10]
 (.cond (.s 9)
 (.seq (.seq (.reg [ylS 11 13 3,
 yfa 12 2 1,
 ylo 13 12,
 yfa 14 3 1,
 ylo 15 14,
 o0 16 (.build [(.str []),(.str []),(.int .i64 0),(.int .i64 0),(.int .i64 0),(.int .i64 0),(.int .i64 0),(.bool false),(.int .i64 0),(.int .i64 0),(.bool false),(.int .i64 0),(.bool false)] [(2,1,(.s 13)),(3,1,(.s 15))]),
 o0 17 (.sbin .neq [.s,.s,.i,.i,.i,.i,.i,.b,.i,.i,.b,.i,.b] (.s 11) (.s 16))] [11,12,13,14,15,16])
 (.cond (.s 17)
 (ysr [ymI 2 1] []
 .ret)
 .skip))
 (.seq (ysr [yfa 18 3 1,
 ylo 19 18,
 yc1 20 207 19,
 yuN 21 20] [18,19,20]
 (.cond (.s 21)
 (ysr [ymI 2 11] []
 .ret)
 .skip))
 (ysr [ymI 2 0] []
 .ret)))
 (ysr [ybI 23 .eql 8 1,
 mv 22 23] [23]
 (.cond (.s 22)
 (.seq (.seq (.reg [ylS 24 13 3,
 yfa 25 2 1,
 ylo 26 25,
 yfa 27 4 1,
 ylS 28 4 27,
 o0 29 (.build [(.str []),(.str []),(.int .i64 0),(.int .i64 0),(.int .i64 0),(.int .i64 0),(.int .i64 0),(.bool false),(.int .i64 0),(.int .i64 0),(.bool false),(.int .i64 0),(.bool false)] [(2,1,(.s 26)),(4,4,(.s 28))]),
 o0 30 (.sbin .neq [.s,.s,.i,.i,.i,.i,.i,.b,.i,.i,.b,.i,.b] (.s 24) (.s 29))] [24,25,26,27,28,29])
 (.cond (.s 30)
 (ysr [ymI 2 1] []
 .ret)
 .skip))
 (ysr [yfa 31 4 1,
 ylS 32 4 31,
 yc1 33 208 32,
 mv 2 33] [31,32,33]
 .ret))
 (ysr [ybI 35 .eql 8 2,
 mv 34 35] [35]
 (.cond (.s 34)
 (.seq (.seq (.reg [ylS 36 13 3,
 yfa 37 2 1,
 ylo 38 37,
 yfa 39 8 1,
 ylS 40 3 39,
 o0 41 (.build [(.str []),(.str []),(.int .i64 0),(.int .i64 0),(.int .i64 0),(.int .i64 0),(.int .i64 0),(.bool false),(.int .i64 0),(.int .i64 0),(.bool false),(.int .i64 0),(.bool false)] [(2,1,(.s 38)),(8,3,(.s 40))]),
 o0 42 (.sbin .neq [.s,.s,.i,.i,.i,.i,.i,.b,.i,.i,.b,.i,.b] (.s 36) (.s 41))] [36,37,38,39,40,41])
 (.cond (.s 42)
 (ysr [ymI 2 1] []
 .ret)
 .skip))
 (ysr [yfa 43 8 1,
 ylS 44 3 43,
 yc1 45 209 44,
 mv 2 45] [43,44,45]
 .ret))
 (ysr [ybI 47 .eql 8 3,
 mv 46 47] [47]
 (.cond (.s 46)
 (.seq (.seq (.reg [ylS 48 13 3,
 yfa 49 2 1,
 ylo 50 49,
 yfa 51 11 1,
 ylS 52 2 51,
 o0 53 (.build [(.str []),(.str []),(.int .i64 0),(.int .i64 0),(.int .i64 0),(.int .i64 0),(.int .i64 0),(.bool false),(.int .i64 0),(.int .i64 0),(.bool false),(.int .i64 0),(.bool false)] [(2,1,(.s 50)),(11,2,(.s 52))]),
 o0 54 (.sbin .neq [.s,.s,.i,.i,.i,.i,.i,.b,.i,.i,.b,.i,.b] (.s 48) (.s 53))] [48,49,50,51,52,53])
 (.cond (.s 54)
 (ysr [ymI 2 1] []
 .ret)
 .skip))
 (.seq (ysr [yfa 55 11 1,
 ylS 56 2 55,
 yc1 57 210 56,
 yuN 58 57] [55,56,57]
 (.cond (.s 58)
 (ysr [ymI 2 12] []
 .ret)
 .skip))
 (ysr [ymI 2 0] []
 .ret)))
 .skip))))))))))
 (ysr [ymI 2 1] []
 .ret))))))⟩
