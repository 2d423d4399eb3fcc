import Derived.Test.YthhglklcaodfmaaGreatDoorQb
import Derived.Test.YthhglklcaodfmaaGreatDoorProg
import Derived.KernelRfl
set_option linter.all false
namespace Go.Proofs.YthhglklcaodfmaaGreatDoor
open Go.Mw
def Sr:az :=
⟨71,2,[.tmp 4],
 (sr [o0 2 (.box 33 12 (.s 0)),
 mB 4 false] []
 (.seq (sr [lS 8 12 2,
 c1 9 9 8,
 uN 10 9,
 mv 11 10,
 mf 12 1 11,
 oF 13 11 (.bin .lss (.s 12) (iC 0)),
 pT 14 11 13,
 mv 15 14,
 mf 16 1 15,
 oF 17 15 (fd 2 2),
 oF 18 15 (ld 17),
 oF 19 15 (.len (.s 18)),
 oF 20 15 (.bin .geq (.s 16) (.s 19)),
 pT 21 15 20,
 mv 22 21,
 oF 23 22 (fd 2 2),
 oF 24 22 (ld 23),
 oF 25 22 (.len (.s 24)),
 oF 26 22 (.bin .gtr (.s 25) (iC 64)),
 pT 27 22 26] [8,9,10,11,12,13,14,15,16,17,18,19,20,21,22,23,24,25,26]
 (.cond (.s 27)
 (sr [c0 28 10,
 mv 4 28] [28]
 .ret)
 .skip))
 (sr [lS 29 12 2,
 o0 5 (.new 33 [.nl,.nl,.nl,.nl,.nl,.nl,.nl,(.bool false),(.int .i64 0),.nl,.nl,.nl]),
 sT 12 5 29] [29]
 (sr [o0 30 (.bsl 68 3 [] []),
 fa 31 2 2,
 lo 32 31,
 o0 33 (.app 68 3 (.s 30) (.s 32)),
 fa 34 2 5,
 sT 1 34 33] [30,31,32,33,34]
 (.seq (sr [fa 35 2 5,
 lo 36 35,
 ln 37 36,
 mI 38 0] [35,36]
 (.block 0 (.loop (sr [bS 39 .lss 38 37] []
 (.seq (.cond (.s 39)
 .skip
 (.exit 0))
 (.seq (.block 1 (sr [mv 40 38,
 mv 6 40] [40]
 (sr [mv 41 6,
 mv 42 1,
 bS 43 .neq 41 42] [41,42]
 (.cond (.s 43)
 (.reg [fa 44 2 5,
 lo 45 44,
 mv 46 6,
 o0 47 (.build [(.int .i64 0),(.int .i64 0),(.int .i64 0),(.int .u64 0),(.int .i64 0),(.int .i64 0),(.int .i64 0),.nl,.nl] [(0,1,(iC 0))]),
 o0 48 (.build [(.int .i64 0),(.int .i64 0),(.int .i64 0),(.int .u64 0),(.int .i64 0),(.int .i64 0),(.int .i64 0),.nl,.nl] [(0,1,(iC 11))]),
 o0 49 (.bsl 66 9 [[(.int .i64 0),(.int .i64 0),(.int .i64 0),(.int .u64 0),(.int .i64 0),(.int .i64 0),(.int .i64 0),.nl,.nl],[(.int .i64 0),(.int .i64 0),(.int .i64 0),(.int .u64 0),(.int .i64 0),(.int .i64 0),(.int .i64 0),.nl,.nl]] [(0,(.s 47)),(1,(.s 48))]),
 ia 50 3 45 46,
 fa 51 2 50,
 sT 1 51 49] [44,45,46,47,48,49,50,51])
 .skip))))
 (.reg [bI 52 .add 38 1,
 mv 38 52] [52])))))))
 (sr [lS 53 12 5,
 c1 54 11 53,
 o0 7 (.new 38 [(.int .i64 0),(.int .i64 0),(.int .i64 0),(.int .i64 0)]),
 sT 4 7 54] [53,54]
 (.seq (sr [fa 55 3 7,
 lo 56 55,
 bI 57 .eql 56 0,
 mv 58 57,
 oF 59 58 (fd 0 7),
 oF 60 58 (ld 59),
 oF 61 58 (.bin .neq (.s 60) (iC 12)),
 pT 62 58 61] [55,56,57,58,59,60,61]
 (.cond (.s 62)
 (sr [c0 63 10,
 mv 4 63] [63]
 .ret)
 .skip))
 (sr [fa 64 1 7,
 lo 65 64,
 mv 66 1,
 bS 67 .eql 65 66,
 mv 68 67,
 ot 69 68 (.call 10 []),
 pF 70 68 69,
 mv 4 70] [64,65,66,67,68,69,70]
 .ret))))))))⟩
theorem ady:aq Tryz.prog 8=some Sr:=by kernel_rfl
abbrev afp:FuncId:=8
def GD:az :=
⟨97,1,[.tmp 2],
 (sr [o0 1 (.box 33 12 (.s 0)),
 mI 2 0] []
 (sr [mI 3 0] []
 (.seq (sr [mI 4 0] []
 (.block 0 (.loop (.seq (sr [mv 9 4,
 fa 10 2 1,
 lo 11 10,
 ln 12 11,
 bS 13 .lss 9 12] [9,10,11,12]
 (.cond (.s 13)
 .skip
 (.exit 0)))
 (.seq (.block 1 (.reg [mv 16 3,
 fa 17 2 1,
 lo 18 17,
 mv 19 4,
 ia 20 3 18 19,
 fa 21 2 20,
 lo 22 21,
 ln 23 22,
 bS 24 .add 16 23,
 mv 3 24] [16,17,18,19,20,21,22,23,24]))
 (.reg [mv 14 4,
 bI 15 .add 14 1,
 mv 4 15] [14,15]))))))
 (.seq (sr [mI 5 0] []
 (.block 2 (.loop (.seq (sr [mv 25 5,
 fa 26 5 1,
 lo 27 26,
 ln 28 27,
 bS 29 .lss 25 28] [25,26,27,28]
 (.cond (.s 29)
 .skip
 (.exit 2)))
 (.seq (.block 3 (.reg [mv 32 3,
 fa 33 5 1,
 lo 34 33,
 mv 35 5,
 ia 36 3 34 35,
 fa 37 2 36,
 lo 38 37,
 ln 39 38,
 bS 40 .add 32 39,
 mv 3 40] [32,33,34,35,36,37,38,39,40]))
 (.reg [mv 30 5,
 bI 31 .add 30 1,
 mv 5 31] [30,31]))))))
 (.seq (sr [mI 6 0] []
 (.block 4 (.loop (.seq (sr [mv 41 6,
 fa 42 9 1,
 lo 43 42,
 ln 44 43,
 bS 45 .lss 41 44] [41,42,43,44]
 (.cond (.s 45)
 .skip
 (.exit 4)))
 (.seq (.block 5 (sr [mv 48 3,
 fa 49 9 1,
 lo 50 49,
 mv 51 6,
 ia 52 5 50 51,
 fa 53 2 52,
 lo 54 53,
 ln 55 54,
 bS 56 .add 48 55,
 mv 3 56] [48,49,50,51,52,53,54,55,56]
 (sr [mI 7 0] []
 (.block 6 (.loop (.seq (sr [mv 57 7,
 fa 58 9 1,
 lo 59 58,
 mv 60 6,
 ia 61 5 59 60,
 fa 62 4 61,
 lo 63 62,
 ln 64 63,
 bS 65 .lss 57 64] [57,58,59,60,61,62,63,64]
 (.cond (.s 65)
 .skip
 (.exit 6)))
 (.seq (.block 7 (.reg [mv 68 3,
 fa 69 9 1,
 lo 70 69,
 mv 71 6,
 ia 72 5 70 71,
 fa 73 4 72,
 lo 74 73,
 mv 75 7,
 ia 76 1 74 75,
 lo 77 76,
 ln 78 77,
 bS 79 .add 68 78,
 mv 3 79] [68,69,70,71,72,73,74,75,76,77,78,79]))
 (.reg [mv 66 7,
 bI 67 .add 66 1,
 mv 7 67] [66,67]))))))))
 (.reg [mv 46 6,
 bI 47 .add 46 1,
 mv 6 47] [46,47]))))))
 (.seq (sr [mI 8 0] []
 (.block 8 (.loop (.seq (sr [mv 80 8,
 fa 81 10 1,
 lo 82 81,
 ln 83 82,
 bS 84 .lss 80 83] [80,81,82,83]
 (.cond (.s 84)
 .skip
 (.exit 8)))
 (.seq (.block 9 (.reg [mv 87 3,
 fa 88 10 1,
 lo 89 88,
 mv 90 8,
 ia 91 4 89 90,
 fa 92 2 91,
 lo 93 92,
 ln 94 93,
 bS 95 .add 87 94,
 mv 3 95] [87,88,89,90,91,92,93,94,95]))
 (.reg [mv 85 8,
 bI 86 .add 85 1,
 mv 8 86] [85,86]))))))
 (sr [mv 96 3,
 mv 2 96] [96]
 .ret)))))))⟩
theorem Xd:aq Tryz.prog 14=some GD:=by kernel_rfl
abbrev Zx:FuncId:=14
def Sh:az :=
⟨40,4,[],
 (sr [mI 8 0] []
 (.block 0 (.loop (.seq (sr [mv 11 8,
 mv 12 2,
 bS 13 .lss 11 12,
 mv 14 13,
 mt 15 0 14,
 ot 16 14 (.nchk (.s 15)),
 ot 17 14 (fd 13 16),
 ot 18 14 (fd 3 17),
 ot 19 14 (ld 18),
 ot 20 14 (.bin .eql (.s 19) (iC 0)),
 pF 21 14 20] [11,12,13,14,15,16,17,18,19,20]
 (.cond (.s 21)
 .skip
 (.exit 0)))
 (.seq (.block 1 (sr [mv 25 3,
 mv 26 8,
 o0 27 (.callv (.s 25) [(.s 26)]),
 mv 24 27,
 xt 28 24 0,
 xt 29 24 1,
 mv 9 28,
 mv 10 29] [25,26,27,24,28,29]
 (sr [mv 30 10,
 bI 31 .neq 30 0] [30]
 (.cond (.s 31)
 (.reg [mv 32 0,
 mv 33 1,
 mv 34 8,
 mv 35 9,
 mv 36 10,
 o0 37 (.build [(.int .i64 0),(.int .i64 0),(.int .i64 0),(.int .i64 0)] [(0,1,(.s 33)),(1,1,(.s 34)),(2,1,(.s 35)),(3,1,(.s 36))]),
 nk 38 32,
 fa 39 13 38,
 sT 4 39 37] [32,33,34,35,36,37,38,39])
 .skip))))
 (.reg [mv 22 8,
 bI 23 .add 22 1,
 mv 8 23] [22,23]))))))⟩
theorem adp:aq Tryz.prog 20=some Sh:=by kernel_rfl
abbrev Fu:FuncId:=20
def GP:az :=
⟨14,3,[.tmp 6,.tmp 7],
 (sr [o0 3 (.box 33 12 (.s 0)),
 mI 6 0,
 mI 7 0] []
 (.seq (.reg [lS 8 12 3,
 mv 9 1,
 mv 10 2,
 o0 11 (.call 83 [(.s 8),(.s 9),(.s 10),(.c (.fn 84 []))]),
 xt 12 11 0,
 xt 13 11 1,
 mv 6 12,
 mv 7 13] [8,9,10,11,12,13])
 .ret))⟩
theorem Xx:aq Tryz.prog 22=some GP:=by kernel_rfl
abbrev ZP:FuncId:=22
def ab5:az :=
⟨56,6,[],
 (.seq (sr [mv 16 2,
 ln 17 16,
 mv 18 4,
 bS 19 .add 17 18,
 mv 20 3,
 bS 21 .gtr 19 20] [16,17,18,19,20]
 (.cond (.s 21)
 (.reg [mv 22 0,
 mv 23 1,
 mv 24 3,
 mv 25 4,
 bS 26 .sub 24 25,
 o0 27 (.mnx true (iC 0) (.s 26)),
 o0 28 (.call 55 [(.s 22),(.s 23),(.s 27),(iC 0),(iC 6)])] [22,23,24,25,26,27,28])
 .skip))
 (sr [mv 29 2,
 ln 30 29,
 mI 31 0] []
 (.block 0 (.loop (sr [bS 32 .lss 31 30] []
 (.seq (.cond (.s 32)
 .skip
 (.exit 0))
 (.seq (.block 1 (sr [mv 33 31,
 ia 34 2 29 31,
 lS 35 2 34,
 o0 13 (.new 59 [.nl,.nl]),
 mv 12 33,
 sT 2 13 35] [33,34,35]
 (.seq (sr [mv 36 0,
 nk 37 36,
 fa 38 0 37,
 fa 39 3 38,
 lo 40 39,
 bI 41 .neq 40 0] [36,37,38,39,40]
 (cR 41))
 (sr [mv 43 5,
 mv 44 12,
 lS 45 2 13,
 o0 46 (.callv (.s 43) [(.s 44),(.s 45)]),
 mv 42 46,
 xt 47 42 0,
 xt 48 42 1,
 mv 14 47,
 mv 15 48] [43,44,45,46,42,47,48]
 (.reg [mv 49 0,
 mv 50 1,
 mv 51 12,
 mv 52 14,
 mv 53 15,
 o0 54 (.call 55 [(.s 49),(.s 50),(.s 51),(.s 52),(.s 53)])] [49,50,51,52,53,54])))))
 (.reg [bI 55 .add 31 1,
 mv 31 55] [55]))))))))⟩
theorem acU:aq Tryz.prog 32=some ab5:=by kernel_rfl
abbrev aav:FuncId:=32
def Gw:az :=
⟨52,1,[.tmp 2],
 (sr [o0 1 (.box 56 13 (.s 0)),
 mI 2 0] []
 (.seq (sr [fa 5 0 1,
 lo 6 5,
 c1 7 108 6,
 mv 3 7] [5,6,7]
 (sr [mv 8 3,
 bI 9 .neq 8 0] [8]
 (.cond (.s 9)
 (sr [mv 10 3,
 mv 2 10] [10]
 .ret)
 .skip)))
 (.seq (sr [fa 11 1 1,
 lo 12 11,
 c1 13 108 12,
 mv 4 13] [11,12,13]
 (sr [mv 14 4,
 bI 15 .neq 14 0] [14]
 (.cond (.s 15)
 (sr [mv 16 4,
 mv 2 16] [16]
 .ret)
 .skip)))
 (.seq (.seq (sr [fa 17 2 1] []
 (sr [lo 18 17] []
 (sr [bI 19 .lss 18 0] []
 (sr [mv 20 19] []
 (sr [oF 21 20 (fd 2 1)] []
 (sr [oF 22 20 (ld 21)] []
 (sr [oF 23 20 (.bin .gtr (.s 22) (iC 3))] []
 (sr [pT 24 20 23] []
 (sr [mv 25 24] []
 (.seq (.draw [⟨oF 26 25 (.load (some 13) (.s 1)),[]⟩,
 ⟨oF 27 25 (.call 109 [(.s 26)]),[0]⟩,
 ⟨oF 28 25 (.load (some 13) (.s 1)),[]⟩] [] [])
 (sr [oF 29 25 (.sbin .neq [.s,.s,.i,.i,.i,.i,.i,.b,.i,.i,.b,.i,.b] (.s 27) (.s 28))] []
 (.reg [pT 30 25 29] [17,18,19,20,21,22,23,24,25,26,27,28,29]))))))))))))
 (.cond (.s 30)
 (sr [mI 2 1] []
 .ret)
 .skip))
 (.seq (sr [fa 31 2 1,
 lo 32 31] [31]
 (.block 0 (sr [bI 34 .eql 32 1,
 mv 33 34] [34]
 (.cond (.s 33)
 (sr [fa 35 4 1,
 lS 36 4 35,
 c1 37 43 36,
 mv 2 37] [35,36,37]
 .ret)
 (sr [bI 39 .eql 32 2,
 mv 38 39] [39]
 (.cond (.s 38)
 (sr [fa 40 8 1,
 lS 41 3 40,
 c1 42 46 41,
 mv 2 42] [40,41,42]
 .ret)
 (sr [bI 44 .eql 32 3,
 mv 43 44] [44]
 (.cond (.s 43)
 (sr [fa 45 11 1,
 lS 46 2 45,
 c1 47 49 46,
 mv 2 47] [45,46,47]
 .ret)
 .skip))))))))
 (.seq (sr [fa 48 3 1,
 lo 49 48,
 c1 50 54 49,
 uN 51 50] [48,49,50]
 (.cond (.s 51)
 (sr [mI 2 11] []
 .ret)
 .skip))
 (sr [mI 2 0] []
 .ret)))))))⟩
theorem W6:aq Tryz.prog 37=some Gw:=by kernel_rfl
abbrev Zr:FuncId:=37
def GL:az :=
⟨6,1,[.tmp 2],
 (sr [o0 1 (.box 50 3 (.s 0)),
 mI 2 0] []
 (.seq (sr [lS 3 3 1,
 o0 4 (.call 111 [(.s 3),(iC 256)]),
 uN 5 4] [3,4]
 (.cond (.s 5)
 (sr [mI 2 20] []
 .ret)
 .skip))
 (sr [mI 2 0] []
 .ret)))⟩
theorem Xo:aq Tryz.prog 46=some GL:=by kernel_rfl
abbrev ZI:FuncId:=46
def SB:az :=
⟨18,2,[.tmp 4,.tmp 5],
 (sr [o0 3 (.box 83 3 (.s 1)),
 mI 4 0,
 mI 5 0] []
 (.seq (sr [fa 7 0 3,
 lS 8 2 7,
 c1 9 49 8,
 mv 6 9] [7,8,9]
 (sr [mv 10 6,
 bI 11 .neq 10 0] [10]
 (.cond (.s 11)
 (sr [mv 12 6,
 mI 4 0,
 mv 5 12] [12]
 .ret)
 .skip)))
 (sr [fa 13 2 3,
 lo 14 13,
 c1 15 50 14,
 xt 16 15 0,
 xt 17 15 1,
 mv 4 16,
 mv 5 17] [13,14,15,16,17]
 .ret)))⟩
theorem adI:aq Tryz.prog 48=some SB:=by kernel_rfl
abbrev aaK:FuncId:=48
def abW:az :=
⟨56,6,[],
 (.seq (sr [mv 16 2,
 ln 17 16,
 mv 18 4,
 bS 19 .add 17 18,
 mv 20 3,
 bS 21 .gtr 19 20] [16,17,18,19,20]
 (.cond (.s 21)
 (.reg [mv 22 0,
 mv 23 1,
 mv 24 3,
 mv 25 4,
 bS 26 .sub 24 25,
 o0 27 (.mnx true (iC 0) (.s 26)),
 o0 28 (.call 55 [(.s 22),(.s 23),(.s 27),(iC 0),(iC 6)])] [22,23,24,25,26,27,28])
 .skip))
 (sr [mv 29 2,
 ln 30 29,
 mI 31 0] []
 (.block 0 (.loop (sr [bS 32 .lss 31 30] []
 (.seq (.cond (.s 32)
 .skip
 (.exit 0))
 (.seq (.block 1 (.seq (.reg [mv 33 31,
 ia 34 3 29 31,
 lS 35 3 34,
 o0 13 (.new 72 [(.str []),(.int .i64 0),(.int .i64 0)]),
 mv 12 33,
 sT 3 13 35] [33,34,35])
 (.seq (sr [mv 36 0,
 nk 37 36,
 fa 38 0 37,
 fa 39 3 38,
 lo 40 39,
 bI 41 .neq 40 0] [36,37,38,39,40]
 (cR 41))
 (sr [mv 43 5,
 mv 44 12,
 lS 45 3 13,
 o0 46 (.callv (.s 43) [(.s 44),(.s 45)]),
 mv 42 46,
 xt 47 42 0,
 xt 48 42 1,
 mv 14 47,
 mv 15 48] [43,44,45,46,42,47,48]
 (.reg [mv 49 0,
 mv 50 1,
 mv 51 12,
 mv 52 14,
 mv 53 15,
 o0 54 (.call 55 [(.s 49),(.s 50),(.s 51),(.s 52),(.s 53)])] [49,50,51,52,53,54])))))
 (.reg [bI 55 .add 31 1,
 mv 31 55] [55]))))))))⟩
theorem acx:aq Tryz.prog 51=some abW:=by kernel_rfl
abbrev aap:FuncId:=51
def qd:az :=
⟨69,1,[.tmp 2,.tmp 3],
 (sr [o0 1 (.box 86 5 (.s 0)),
 mI 2 0,
 mI 3 0] []
 (.seq (.block 0 (sr [fa 9 0 1,
 lo 10 9,
 bI 11 .lss 10 0,
 mv 12 11,
 oF 13 12 (fd 0 1),
 oF 14 12 (ld 13),
 oF 15 12 (.bin .gtr (.s 14) (iC 2)),
 pT 16 12 15,
 mv 17 16,
 oF 18 17 (fd 0 1),
 oF 19 17 (ld 18),
 oF 20 17 (.bin .neq (.s 19) (iC 0)),
 mf 21 20 17,
 ot 22 21 (fd 1 1),
 ot 23 21 (ld 22),
 ot 24 21 (.bin .neq (.s 23) (iC 0)),
 mt 25 24 21,
 oF 26 25 (fd 2 1),
 oF 27 25 (ld 26),
 oF 28 25 (.len (.s 27)),
 oF 29 25 (.bin .gtr (.s 28) (iC 0)),
 ot 30 21 (.pick (.s 25) (bC true) (.s 29)),
 oF 31 17 (.pick (.s 21) (.s 30) (bC false)),
 pT 32 17 31,
 mv 8 32] [9,10,11,12,13,14,15,16,17,18,19,20,21,22,23,24,25,26,27,28,29,30,31,32]
 (.cond (.s 8)
 (sr [mI 2 0,
 mI 3 1] []
 .ret)
 (sr [fa 34 1 1,
 lo 35 34,
 c1 36 54 35,
 uN 37 36,
 mv 33 37] [34,35,36,37]
 (.cond (.s 33)
 (sr [mI 2 0,
 mI 3 11] []
 .ret)
 (sr [fa 39 3 1,
 lo 40 39,
 c1 41 110 40,
 uN 42 41,
 mv 38 42] [39,40,41,42]
 (.cond (.s 38)
 (sr [mI 2 0,
 mI 3 12] []
 .ret)
 (sr [fa 44 4 1,
 lo 45 44,
 ln 46 45,
 bI 47 .gtr 46 256,
 mv 43 47] [44,45,46,47]
 (.cond (.s 43)
 (sr [mI 2 0,
 mI 3 6] []
 .ret)
 .skip)))))))))
 (.seq (.seq (.reg [fa 48 2 1,
 lo 49 48,
 o0 50 (.bsl 41 1 [[.nl]] [(0,(.s 49))]),
 fa 51 4 1,
 lo 52 51,
 o0 53 (.app 41 1 (.s 50) (.s 52)),
 ln 54 53,
 mI 55 0] [48,49,50,51,52])
 (.block 1 (.loop (sr [bS 56 .lss 55 54] []
 (.seq (.cond (.s 56)
 .skip
 (.exit 1))
 (.seq (.block 2 (sr [ia 57 1 53 55,
 lo 58 57,
 mv 5 58] [57,58]
 (sr [mv 60 5,
 c1 61 50 60,
 mv 59 61,
 xt 62 59 0,
 xt 63 59 1,
 mv 6 62,
 mv 7 63] [60,61,59,62,63]
 (sr [mv 64 7,
 bI 65 .neq 64 0] [64]
 (.cond (.s 65)
 (sr [mv 66 6,
 mv 67 7,
 mv 2 66,
 mv 3 67] [66,67]
 .ret)
 .skip)))))
 (.reg [bI 68 .add 55 1,
 mv 55 68] [68])))))))
 (sr [mI 2 0,
 mI 3 0] []
 .ret))))⟩
theorem XP:aq Tryz.prog 58=some qd:=by kernel_rfl
abbrev Z6:FuncId:=58
def GV:az :=
⟨21,2,[],
 (sr [mv 5 0,
 ln 6 5,
 mI 7 0] []
 (.block 0 (.loop (sr [bS 8 .lss 7 6] []
 (.seq (.cond (.s 8)
 .skip
 (.exit 0))
 (.seq (.block 1 (sr [ia 9 9 5 7,
 lS 10 9 9,
 o0 4 (.new 66 [(.int .i64 0),(.int .i64 0),(.int .i64 0),(.int .u64 0),(.int .i64 0),(.int .i64 0),(.int .i64 0),.nl,.nl]),
 sT 9 4 10] [9,10]
 (sr [fa 11 0 4,
 lo 12 11,
 bI 13 .eql 12 210] [11,12]
 (.cond (.s 13)
 (.seq (.draw [⟨lo 14 1,[]⟩,
 ⟨nk 15 14,[0]⟩,
 ⟨fa 16 8 15,[1,0]⟩,
 ⟨lo 17 16,[2,1,0]⟩,
 ⟨fa 18 1 4,[]⟩,
 ⟨lo 19 18,[4]⟩] [] [])
 (.reg [⟨none,.mop (.mup .i) [(.s 17),(.s 19),(bC true)],none⟩] [14,15,16,17,18,19]))
 .skip))))
 (.reg [bI 20 .add 7 1,
 mv 7 20] [20])))))))⟩
theorem XK:aq Tryz.prog 68=some GV:=by kernel_rfl
abbrev Dx:FuncId:=68
def RU:az :=
⟨18,2,[.tmp 3,.tmp 4],
 (sr [mI 3 0,
 mI 4 0] []
 (.seq (.seq (.draw [⟨lo 5 1,[]⟩,
 ⟨lo 6 1,[]⟩,
 ⟨nk 7 6,[1]⟩,
 ⟨fa 8 0 7,[2,1]⟩,
 ⟨fa 9 2 8,[3,2,1]⟩,
 ⟨lo 10 9,[4,3,2,1]⟩,
 ⟨mv 11 0,[]⟩,
 ⟨ia 12 3 10 11,[5,4,3,2,1,6]⟩,
 ⟨fa 13 0 12,[7,5,4,3,2,1,6]⟩,
 ⟨lo 14 13,[8,7,5,4,3,2,1,6]⟩] [] [])
 (sr [c2 15 70 5 14] []
 (.seq (.draw [⟨xt 16 15 0,[]⟩,
 ⟨xt 17 15 1,[]⟩] [] [])
 (sr [mv 3 16] []
 (.reg [mv 4 17] [5,6,7,8,9,10,11,12,13,14,15,16,17])))))
 .ret))⟩
theorem acG:aq Tryz.prog 71=some RU:=by kernel_rfl
abbrev aeK:FuncId:=71
def GA:az :=
⟨31,3,[.tmp 4,.tmp 5],
 (sr [mI 4 0,
 mI 5 0] []
 (.seq (.reg [lo 7 1,
 nk 8 7,
 fa 9 0 8,
 fa 10 6 9,
 lo 11 10,
 mv 12 0,
 ia 13 3 11 12,
 lS 14 3 13,
 o0 6 (.new 72 [(.str []),(.int .i64 0),(.int .i64 0)]),
 sT 3 6 14] [7,8,9,10,11,12,13,14])
 (.seq (.block 0 (sr [lo 16 2,
 fa 17 0 6,
 lo 18 17,
 o0 19 (.mop (.mlk false .s (.bool false)) [(.s 16),(.s 18)]),
 mv 15 19] [16,17,18,19]
 (.cond (.s 15)
 (sr [mI 4 0,
 mI 5 21] []
 .ret)
 (sr [lo 21 1,
 fa 22 1 6,
 lo 23 22,
 fa 24 2 6,
 lo 25 24,
 c3 26 75 21 23 25,
 uN 27 26,
 mv 20 27] [21,22,23,24,25,26,27]
 (.cond (.s 20)
 (sr [mI 4 0,
 mI 5 11] []
 .ret)
 .skip)))))
 (sr [lo 28 2,
 fa 29 0 6,
 lo 30 29,
 ⟨none,.mop (.mup .s) [(.s 28),(.s 30),(bC true)],none⟩] [28,29,30]
 (sr [mI 4 0,
 mI 5 0] []
 .ret)))))⟩
theorem acq:aq Tryz.prog 74=some GA:=by kernel_rfl
abbrev UB:FuncId:=74
def Si:az :=
⟨76,2,[.tmp 4,.tmp 5],
 (sr [mI 4 0,
 mI 5 0] []
 (sr [mv 15 0,
 nk 16 15,
 fa 17 0 16,
 fa 18 9 17,
 lo 19 18,
 mv 20 1,
 ia 21 5 19 20,
 lS 22 5 21,
 o0 6 (.new 86 [(.int .i64 0),(.int .i64 0),.nl,(.int .i64 0),.nl]),
 sT 5 6 22] [15,16,17,18,19,20,21,22]
 (.seq (sr [fa 23 0 6,
 lo 24 23,
 bI 25 .eql 24 0] [23,24]
 (.cond (.s 25)
 (.seq (.seq (.draw [⟨mv 27 0,[]⟩,
 ⟨nk 28 27,[0]⟩,
 ⟨fa 29 12 28,[1,0]⟩,
 ⟨lo 30 29,[2,1,0]⟩,
 ⟨fa 31 1 6,[]⟩,
 ⟨lo 32 31,[4]⟩,
 ⟨c2 33 123 30 32,[3,2,1,0,5,4]⟩,
 ⟨mv 26 33,[6,3,2,1,0,5,4]⟩,
 ⟨xt 34 26 0,[7,6,3,2,1,0,5,4]⟩,
 ⟨xt 35 26 1,[7,6,3,2,1,0,5,4]⟩,
 ⟨o0 7 (.new 52 [(.int .i64 0),(.int .i64 0),(.int .i64 0),(.bool false)]),[]⟩,
 ⟨sT 4 7 34,[10,8,7,6,3,2,1,0,5,4]⟩] [(7,10)] [])
 (.reg [mv 8 35] [27,28,29,30,31,32,33,26,34,35]))
 (.seq (.block 0 (sr [mv 37 8,
 uN 38 37,
 mv 36 38] [37,38]
 (.cond (.s 36)
 (sr [mI 4 0,
 mI 5 11] []
 .ret)
 (sr [fa 40 0 7,
 lo 41 40,
 fa 42 3 6,
 lo 43 42,
 bS 44 .neq 41 43,
 mv 39 44] [40,41,42,43,44]
 (.cond (.s 39)
 (sr [mI 4 0,
 mI 5 12] []
 .ret)
 .skip)))))
 (sr [mv 46 0,
 fa 47 2 6,
 lo 48 47,
 o0 49 (.call 73 [(.s 46),(.s 48),(iC 1)]),
 mv 45 49,
 xt 50 45 0,
 xt 51 45 1,
 mv 9 50,
 mv 10 51] [46,47,48,49,45,50,51]
 (sr [mv 52 10,
 bI 53 .neq 52 0] [52]
 (.cond (.s 53)
 (sr [mv 54 9,
 mv 55 10,
 mv 4 54,
 mv 5 55] [54,55]
 .ret)
 .skip)))))
 .skip))
 (.seq (sr [fa 56 4 6,
 lo 57 56,
 ln 58 57,
 mI 59 0] [56]
 (.block 1 (.loop (sr [bS 60 .lss 59 58] []
 (.seq (.cond (.s 60)
 .skip
 (.exit 1))
 (.seq (.block 2 (sr [ia 61 1 57 59,
 lo 62 61,
 mv 12 62] [61,62]
 (sr [mv 64 0,
 mv 65 12,
 fa 66 3 6,
 lo 67 66,
 c3 68 73 64 65 67,
 mv 63 68,
 xt 69 63 0,
 xt 70 63 1,
 mv 13 69,
 mv 14 70] [64,65,66,67,68,63,69,70]
 (sr [mv 71 14,
 bI 72 .neq 71 0] [71]
 (.cond (.s 72)
 (sr [mv 73 13,
 mv 74 14,
 mv 4 73,
 mv 5 74] [73,74]
 .ret)
 .skip)))))
 (.reg [bI 75 .add 59 1,
 mv 59 75] [75])))))))
 (sr [mI 4 0,
 mI 5 0] []
 .ret)))))⟩
theorem adq:aq Tryz.prog 78=some Si:=by kernel_rfl
abbrev UE:FuncId:=78
def sX:az :=
⟨34,1,[.cell 2 (some 13)],
 (.seq (.reg [o0 1 (.box 56 13 (.s 0)),
 o0 2 (.new 56 [(.str []),(.str []),(.int .i64 0),(.int .i64 0),(.int .i64 0),(.int .i64 0),(.int .i64 0),(.bool false),(.int .i64 0),(.int .i64 0),(.bool false),(.int .i64 0),(.bool false)])] [])
 (.seq (.reg [fa 4 0 1,
 lo 5 4,
 fa 6 1 1,
 lo 7 6,
 fa 8 2 1,
 lo 9 8,
 o0 10 (.build [(.str []),(.str []),(.int .i64 0),(.int .i64 0),(.int .i64 0),(.int .i64 0),(.int .i64 0),(.bool false),(.int .i64 0),(.int .i64 0),(.bool false),(.int .i64 0),(.bool false)] [(0,1,(.s 5)),(1,1,(.s 7)),(2,1,(.s 9))]),
 o0 3 (.new 56 [(.str []),(.str []),(.int .i64 0),(.int .i64 0),(.int .i64 0),(.int .i64 0),(.int .i64 0),(.bool false),(.int .i64 0),(.int .i64 0),(.bool false),(.int .i64 0),(.bool false)]),
 sT 13 3 10] [4,5,6,7,8,9,10])
 (.seq (sr [fa 11 2 1,
 lo 12 11] [11]
 (.block 0 (sr [bI 14 .eql 12 0,
 mv 13 14] [14]
 (.cond (.s 13)
 (.reg [fa 15 3 1,
 lo 16 15,
 fa 17 3 3,
 sT 1 17 16] [15,16,17])
 (sr [bI 19 .eql 12 1,
 mv 18 19] [19]
 (.cond (.s 18)
 (.reg [fa 20 4 1,
 lS 21 4 20,
 fa 22 4 3,
 sT 4 22 21] [20,21,22])
 (sr [bI 24 .eql 12 2,
 mv 23 24] [24]
 (.cond (.s 23)
 (.reg [fa 25 8 1,
 lS 26 3 25,
 fa 27 8 3,
 sT 3 27 26] [25,26,27])
 (sr [bI 29 .eql 12 3,
 mv 28 29] [29]
 (.cond (.s 28)
 (.reg [fa 30 11 1,
 lS 31 2 30,
 fa 32 11 3,
 sT 2 32 31] [30,31,32])
 .skip))))))))))
 (sr [lS 33 13 3,
 sT 13 2 33] [33]
 .ret))))⟩
theorem XM:aq Tryz.prog 109=some sX:=by kernel_rfl
abbrev Z3:FuncId:=109
def Gv:az :=
⟨84,4,[.tmp 8,.tmp 9],
 (sr [mI 8 0,
 mI 9 0] []
 (.seq (sr [mv 18 0,
 o0 19 (.pbin .eql (.s 18) (.c .np))] [18]
 (.cond (.s 19)
 (sr [mI 8 0,
 mI 9 2] []
 .ret)
 .skip))
 (sr [o0 10 (.mov (.c .nl))] []
 (.seq .skip
 (.seq (sr [mv 20 1,
 ln 21 20,
 mI 22 0] []
 (.block 0 (.loop (sr [bS 23 .lss 22 21] []
 (.seq (.cond (.s 23)
 .skip
 (.exit 0))
 (.seq (.block 1 (sr [mv 24 22,
 ia 25 9 20 22,
 lS 26 9 25,
 o0 12 (.new 66 [(.int .i64 0),(.int .i64 0),(.int .i64 0),(.int .u64 0),(.int .i64 0),(.int .i64 0),(.int .i64 0),.nl,.nl]),
 mv 11 24,
 sT 9 12 26] [24,25,26]
 (.seq (sr [fa 27 0 12,
 lo 28 27,
 c1 29 166 28,
 mv 13 29] [27,28,29]
 (sr [mv 30 13,
 bI 31 .neq 30 0] [30]
 (.cond (.s 31)
 (.seq (sr [mI 32 0] []
 (.block 2 (.loop (sr [bI 33 .lss 32 2] []
 (.seq (.cond (.s 33)
 .skip
 (.exit 2))
 (.seq (.block 3 (sr [mv 34 32,
 mv 14 34] [34]
 (sr [mv 35 10,
 ln 36 35,
 bI 37 .sub 36 1,
 mv 38 14,
 bS 39 .sub 37 38,
 mv 15 39] [35,36,37,38,39]
 (.seq (sr [mv 40 15,
 bI 41 .lss 40 0] [40]
 (.cond (.s 41)
 (sr [mv 42 11,
 mv 8 42,
 mI 9 13] [42]
 .ret)
 .skip))
 (sr [mv 43 10,
 mv 44 15,
 ia 45 1 43 44,
 lo 46 45,
 mv 47 13,
 bS 48 .neq 46 47] [43,44,45,46,47]
 (.cond (.s 48)
 (sr [mv 49 11,
 mv 8 49,
 mI 9 12] [49]
 .ret)
 .skip))))))
 (.reg [bI 50 .add 32 1,
 mv 32 50] [50])))))))
 (sr [mv 51 10,
 mv 52 10,
 ln 53 52,
 bI 54 .sub 53 1,
 o0 55 (.slc 1 (.s 51) none (some (.s 54)) none),
 mv 10 55] [51,52,53,54,55]
 (.exit 1)))
 .skip)))
 (.seq (sr [fa 56 0 12,
 lo 57 56,
 bI 58 .eql 57 11] [56,57]
 (.cond (.s 58)
 (sr [mv 59 1,
 mv 60 11,
 mv 61 10,
 mv 62 2,
 o0 63 (.call 167 [(.s 59),(.s 60),(.s 61),(.s 62)]),
 xt 64 63 0,
 xt 65 63 1,
 mv 8 64,
 mv 9 65] [59,60,61,62,63,64,65]
 .ret)
 .skip))
 (sr [mv 67 0,
 lS 68 9 12,
 mv 69 3,
 c3 70 168 67 68 69,
 mv 66 70,
 xt 71 66 0,
 xt 72 66 1,
 mv 16 71,
 mv 17 72] [67,68,69,70,66,71,72]
 (.seq (sr [mv 73 17,
 bI 74 .neq 73 0] [73]
 (.cond (.s 74)
 (sr [mv 75 11,
 mv 76 17,
 mv 8 75,
 mv 9 76] [75,76]
 .ret)
 .skip))
 (.reg [mv 77 10,
 mv 78 16,
 o0 79 (.bsl 48 1 [[(.int .i64 0)]] [(0,(.s 78))]),
 o0 80 (.app 48 1 (.s 77) (.s 79)),
 mv 10 80] [77,78,79,80])))))))
 (.reg [bI 81 .add 22 1,
 mv 22 81] [81])))))))
 (sr [mv 82 1,
 ln 83 82,
 mv 8 83,
 mI 9 3] [82,83]
 .ret))))))⟩
theorem W5:aq Tryz.prog 115=some Gv:=by kernel_rfl
abbrev Zq:FuncId:=115
def G7:az :=
⟨32,3,[.cell 6 (some 2),.tmp 7],
 (sr [o0 3 (.box 33 12 (.s 0)),
 o0 6 (.new 59 [.nl,.nl]),
 mB 7 false] []
 (.seq (sr [mv 8 1,
 o0 9 (.pbin .eql (.s 8) (.c .np)),
 mv 10 9,
 mf 11 2 10,
 oF 12 10 (.bin .lss (.s 11) (iC 0)),
 pT 13 10 12,
 mv 14 13,
 mf 15 2 14,
 oF 16 14 (fd 2 3),
 oF 17 14 (ld 16),
 oF 18 14 (.len (.s 17)),
 oF 19 14 (.bin .geq (.s 15) (.s 18)),
 pT 20 14 19] [8,9,10,11,12,13,14,15,16,17,18,19]
 (.cond (.s 20)
 (sr [o0 21 (.build [.nl,.nl] []),
 sT 2 6 21,
 mB 7 false] [21]
 .ret)
 .skip))
 (sr [mv 22 1,
 fa 23 2 3,
 lo 24 23,
 mv 25 2,
 ia 26 3 24 25,
 fa 27 0 26,
 lo 28 27,
 c2 29 114 22 28,
 xt 30 29 0,
 xt 31 29 1,
 sT 2 6 30,
 mv 7 31] [22,23,24,25,26,27,28,29,30,31]
 .ret)))⟩
theorem X3:aq Tryz.prog 128=some G7:=by kernel_rfl
abbrev aaj:FuncId:=128
def R9:az :=
⟨11,1,[.tmp 2],
 (sr [mB 2 false] []
 (sr [mv 3 0,
 c1 4 185 3,
 mv 5 4,
 mt 6 0 5,
 ot 7 5 (.nchk (.s 6)),
 ot 8 5 (fd 2 7),
 ot 9 5 (ld 8),
 pF 10 5 9,
 mv 2 10] [3,4,5,6,7,8,9,10]
 .ret))⟩
theorem ac8:aq Tryz.prog 132=some R9:=by kernel_rfl
abbrev aay:FuncId:=132
def FX0:az :=
⟨9,2,[.tmp 4],
 (sr [mB 4 false] []
 (sr [mv 5 0,
 mv 6 1,
 c2 7 201 5 6,
 bI 8 .geq 7 0,
 mv 4 8] [5,6,7,8]
 .ret))⟩
theorem cX0:aq Tryz.prog 155=some FX0:=by kernel_rfl
abbrev nX0:FuncId:=155
abbrev mM:FuncId:=157
def zf:az :=
⟨68,1,[.tmp 2],
 (sr [mI 2 0] []
 (.seq (sr [mv 7 0,
 c1 8 209 7,
 mv 3 8] [7,8]
 (sr [mv 9 3,
 bI 10 .neq 9 0] [9]
 (.cond (.s 10)
 (sr [mv 11 3,
 mv 2 11] [11]
 .ret)
 .skip)))
 (sr [mv 12 0,
 nk 13 12,
 fa 14 1 13,
 lo 15 14,
 ln 16 15,
 mv 4 16] [12,13,14,15,16]
 (.seq (sr [mv 17 4,
 bI 18 .eql 17 0,
 mv 19 18,
 mf 20 0 19,
 oF 21 19 (.nchk (.s 20)),
 oF 22 19 (fd 1 21),
 oF 23 19 (ld 22),
 mf 24 4 19,
 oF 25 19 (.bin .sub (.s 24) (iC 1)),
 oF 26 19 (.iadr 5 (.s 23) (.s 25)),
 oF 27 19 (fd 0 26),
 oF 28 19 (ld 27),
 oF 29 19 (.bin .neq (.s 28) (iC 4)),
 pT 30 19 29,
 mv 31 30,
 mf 32 0 31,
 oF 33 31 (.nchk (.s 32)),
 oF 34 31 (fd 1 33),
 oF 35 31 (ld 34),
 mf 36 4 31,
 oF 37 31 (.bin .sub (.s 36) (iC 1)),
 oF 38 31 (.iadr 5 (.s 35) (.s 37)),
 oF 39 31 (fd 3 38),
 oF 40 31 (ld 39),
 pT 41 31 40] [17,18,19,20,21,22,23,24,25,26,27,28,29,30,31,32,33,34,35,36,37,38,39,40]
 (.cond (.s 41)
 (sr [mI 2 16] []
 .ret)
 .skip))
 (.seq (.seq (.seq (.draw [⟨mv 42 0,[]⟩,
 ⟨nk 43 42,[0]⟩,
 ⟨fa 44 0 43,[1,0]⟩,
 ⟨lo 45 44,[2,1,0]⟩,
 ⟨mv 46 0,[]⟩,
 ⟨nk 47 46,[4]⟩,
 ⟨fa 48 1 47,[5,4]⟩,
 ⟨lo 49 48,[6,5,4]⟩,
 ⟨mv 50 4,[]⟩,
 ⟨bI 51 .sub 50 1,[8]⟩,
 ⟨ia 52 5 49 51,[7,6,5,4,9,8]⟩,
 ⟨fa 53 1 52,[10,7,6,5,4,9,8]⟩,
 ⟨fa 54 1 53,[11,10,7,6,5,4,9,8]⟩,
 ⟨lo 55 54,[12,11,10,7,6,5,4,9,8]⟩] [] [])
 (sr [c2 56 213 45 55] []
 (.reg [mv 5 56] [42,43,44,45,46,47,48,49,50,51,52,53,54,55,56])))
 (sr [mv 57 5,
 bI 58 .neq 57 0] [57]
 (.cond (.s 58)
 (sr [mv 59 0,
 mv 60 5,
 c2 61 211 59 60,
 mv 2 61] [59,60,61]
 .ret)
 .skip)))
 (sr [mv 62 0,
 c1 63 214 62,
 o0 6 (.new 216 [(.int .i64 0),.nl,.nl,(.bool false),(.bool false)]),
 sT 5 6 63] [62,63]
 (sr [fa 64 3 6,
 ⟨none,.store 1 (.s 64) (bC true),none⟩] [64]
 (sr [mv 65 0,
 lS 66 5 6,
 c2 67 212 65 66] [65,66,67]
 (sr [mI 2 0] []
 .ret)))))))))⟩
theorem adk:aq Tryz.prog 177=some zf:=by kernel_rfl
abbrev afe:FuncId:=177
def Hg:az :=
⟨21,1,[],
 (.seq (sr [mv 2 0,
 c1 3 209 2,
 bI 4 .neq 3 0,
 mv 5 4,
 mf 6 0 5,
 oF 7 5 (.nchk (.s 6)),
 oF 8 5 (fd 1 7),
 oF 9 5 (ld 8),
 oF 10 5 (.len (.s 9)),
 oF 11 5 (.bin .eql (.s 10) (iC 0)),
 pT 12 5 11] [2,3,4,5,6,7,8,9,10,11]
 (cR 12))
 (sr [mv 13 0,
 nk 14 13,
 fa 15 0 14,
 lo 16 15,
 c1 17 217 16] [13,14,15,16,17]
 (.reg [mv 18 0,
 nk 19 18,
 fa 20 3 19,
 ⟨none,.store 1 (.s 20) (bC false),none⟩] [18,19,20])))⟩
theorem adj:aq Tryz.prog 179=some Hg:=by kernel_rfl
abbrev afd:FuncId:=179
def CE:az :=
⟨74,2,[.tmp 4],
 (sr [mI 4 0] []
 (.seq (sr [mv 10 1,
 bI 11 .eql 10 27] [10]
 (.cond (.s 11)
 (.seq (.reg [mv 12 0,
 o0 13 (.bsl 48 1 [[(.int .i64 0)]] [(0,(iC 1))]),
 c2 14 210 12 13,
 mv 5 14] [12,13,14])
 (sr [mv 15 5,
 bI 16 .neq 15 0] [15]
 (.cond (.s 16)
 (sr [mv 17 5,
 mv 4 17] [17]
 .ret)
 .skip)))
 .skip))
 (sr [mv 19 0,
 c1 20 221 19,
 mv 18 20,
 xt 21 18 0,
 xt 22 18 1,
 mv 6 21,
 mv 7 22] [19,20,18,21,22]
 (.seq (sr [mv 23 7,
 bI 24 .neq 23 0] [23]
 (.cond (.s 24)
 (sr [mv 25 7,
 mv 4 25] [25]
 .ret)
 .skip))
 (.seq (sr [mv 26 1] []
 (.block 0 (sr [bI 28 .eql 26 209,
 mv 27 28] [28]
 (.cond (.s 27)
 (.seq (sr [mv 29 6,
 bI 30 .eql 29 1,
 mv 31 30,
 mf 32 6 31,
 oF 33 31 (.bin .eql (.s 32) (iC 2)),
 pT 34 31 33] [29,30,31,32,33]
 (.cond (.s 34)
 (sr [mI 4 12] []
 .ret)
 .skip))
 (.reg [mv 35 0,
 o0 36 (.bsl 48 1 [[(.int .i64 0)]] [(0,(iC 1))]),
 c2 37 216 35 36] [35,36,37]))
 (sr [bI 39 .eql 26 27,
 mv 38 39] [39]
 (.cond (.s 38)
 (sr [mv 41 0,
 c1 42 221 41,
 mv 40 42,
 xt 43 40 0,
 xt 44 40 1,
 mv 8 43,
 mv 9 44] [41,42,40,43,44]
 (.seq (sr [mv 45 9,
 bI 46 .neq 45 0] [45]
 (.cond (.s 46)
 (sr [mv 47 9,
 mv 4 47] [47]
 .ret)
 .skip))
 (.seq (sr [mv 48 6,
 c1 49 222 48,
 mv 50 49,
 mf 51 8 50,
 oF 52 50 (.call 222 [(.s 51)]),
 pT 53 50 52,
 mv 54 53,
 mf 55 6 54,
 mf 56 8 54,
 oF 57 54 (.bin .neq (.s 55) (.s 56)),
 mf 58 57 54,
 mt 59 6 58,
 ot 60 58 (.bin .neq (.s 59) (iC 0)),
 oF 61 54 (.pick (.s 58) (.s 60) (bC false)),
 mf 62 61 54,
 mt 63 8 62,
 ot 64 62 (.bin .neq (.s 63) (iC 0)),
 oF 65 54 (.pick (.s 62) (.s 64) (bC false)),
 pT 66 54 65] [48,49,50,51,52,53,54,55,56,57,58,59,60,61,62,63,64,65]
 (.cond (.s 66)
 (sr [mI 4 12] []
 .ret)
 .skip))
 (.seq (sr [mv 67 6,
 bI 68 .eql 67 0] [67]
 (.cond (.s 68)
 (.reg [mv 69 8,
 mv 6 69] [69])
 .skip))
 (.reg [mv 70 0,
 mv 71 6,
 o0 72 (.bsl 48 1 [[(.int .i64 0)]] [(0,(.s 71))]),
 c2 73 216 70 72] [70,71,72,73])))))
 .skip))))))
 (sr [mI 4 0] []
 .ret))))))⟩
theorem XX:aq Tryz.prog 181=some CE:=by kernel_rfl
abbrev aad:FuncId:=181
def FX8:az :=
⟨22,2,[.tmp 4],
 (sr [mB 4 false] []
 (sr [mv 5 1,
 bI 6 .geq 5 0,
 mv 7 6,
 mt 8 1 7,
 mt 9 0 7,
 ot 10 7 (.call 117 [(.s 9)]),
 ot 11 7 (.bin .lss (.s 8) (.s 10)),
 pF 12 7 11,
 mv 13 12,
 mt 14 0 13,
 ot 15 13 (.call 122 [(.s 14)]),
 ot 16 13 (.nchk (.s 15)),
 ot 17 13 (fd 8 16),
 ot 18 13 (ld 17),
 mt 19 1 13,
 ot 20 13 (.mop (.mlk false .i (.bool false)) [(.s 18),(.s 19)]),
 pF 21 13 20,
 mv 4 21] [5,6,7,8,9,10,11,12,13,14,15,16,17,18,19,20,21]
 .ret))⟩
theorem cX8:aq Tryz.prog 206=some FX8:=by kernel_rfl
abbrev nX8:FuncId:=206
def RR:az :=
⟨15,2,[.cell 4 (some 2),.tmp 5],
 (sr [o0 4 (.new 54 [(.int .i64 0),(.bool false)]),
 mB 5 false] []
 (sr [mv 6 0,
 c1 7 122 6,
 nk 8 7,
 fa 9 4 8,
 lo 10 9,
 mv 11 1,
 c2 12 261 10 11,
 xt 13 12 0,
 xt 14 12 1,
 sT 2 4 13,
 mv 5 14] [6,7,8,9,10,11,12,13,14]
 .ret))⟩
theorem acC:aq Tryz.prog 207=some RR:=by kernel_rfl
abbrev aeG:FuncId:=207
def G0:az :=
⟨17,1,[.tmp 2],
 (sr [o0 2 (.mov (.c .nl))] []
 (sr [mv 5 0,
 o0 6 (.mks 3 1 [(.int .i64 0)] (.s 5) (.s 5)),
 mv 3 6] [5,6]
 (.seq (sr [mv 7 3,
 ln 8 7,
 mI 9 0] [7]
 (.block 0 (.loop (sr [bS 10 .lss 9 8] []
 (.seq (.cond (.s 10)
 .skip
 (.exit 0))
 (.seq (.block 1 (sr [mv 11 9,
 mv 4 11] [11]
 (.reg [mv 12 3,
 mv 13 4,
 ia 14 1 12 13,
 ⟨none,.store 1 (.s 14) (iC (-1)),none⟩] [12,13,14])))
 (.reg [bI 15 .add 9 1,
 mv 9 15] [15])))))))
 (sr [mv 16 3,
 mv 2 16] [16]
 .ret))))⟩
theorem XT:aq Tryz.prog 208=some G0:=by kernel_rfl
abbrev Z_:FuncId:=208
def R3:az :=
⟨10,2,[.tmp 4],
 (sr [mI 4 0] []
 (sr [mv 5 0,
 mv 6 1,
 nk 7 5,
 fa 8 4 7,
 sT 1 8 6] [5,6,7,8]
 (sr [mv 9 1,
 mv 4 9] [9]
 .ret)))⟩
theorem ac2:aq Tryz.prog 211=some R3:=by kernel_rfl
abbrev ae1:FuncId:=211
def R1:az :=
⟨32,2,[],
 (sr [o0 3 (.box 216 5 (.s 1))] []
 (sr [mv 4 0,
 nk 5 4,
 fa 6 0 5,
 lo 7 6,
 c1 8 173 7] [4,5,6,7,8]
 (.seq (.seq (.draw [⟨mv 9 0,[]⟩,
 ⟨nk 10 9,[0]⟩,
 ⟨fa 11 0 10,[1,0]⟩,
 ⟨lo 12 11,[2,1,0]⟩,
 ⟨fa 13 1 3,[]⟩,
 ⟨fa 14 0 13,[4]⟩,
 ⟨lo 15 14,[5,4]⟩] [] [])
 (.reg [c2 16 216 12 15] [9,10,11,12,13,14,15,16]))
 (.seq (.seq (.draw [⟨mv 17 0,[]⟩,
 ⟨mv 18 0,[]⟩,
 ⟨nk 19 18,[1]⟩,
 ⟨fa 20 1 19,[2,1]⟩,
 ⟨lo 21 20,[3,2,1]⟩,
 ⟨lS 22 5 3,[]⟩,
 ⟨o0 23 (.bsl 216 5 [[(.int .i64 0),.nl,.nl,(.bool false),(.bool false)]] [(0,(.s 22))]),[5]⟩,
 ⟨o0 24 (.app 216 5 (.s 21) (.s 23)),[4,3,2,1,6,5]⟩] [(23,6),(24,7)] [])
 (sr [nk 25 17] []
 (sr [fa 26 1 25] []
 (.reg [sT 1 26 24] [17,18,19,20,21,22,23,24,25,26]))))
 (.reg [mv 27 0,
 fa 28 4 3,
 lo 29 28,
 nk 30 27,
 fa 31 3 30,
 sT 1 31 29] [27,28,29,30,31])))))⟩
theorem ac1:aq Tryz.prog 212=some R1:=by kernel_rfl
abbrev ae0:FuncId:=212
def RZ:az :=
⟨23,1,[],
 (.seq (sr [mv 3 0,
 c1 4 185 3,
 uN 5 4] [3,4]
 (cR 5))
 (sr [mv 6 0,
 c1 7 263 6,
 mv 2 7] [6,7]
 (sr [mv 8 2,
 nk 9 8,
 fa 10 1 9,
 ⟨none,.store 1 (.s 10) (bC true),none⟩] [8,9,10]
 (.seq (.draw [⟨mv 11 0,[]⟩,
 ⟨mv 12 0,[]⟩,
 ⟨nk 13 12,[1]⟩,
 ⟨fa 14 0 13,[2,1]⟩,
 ⟨lo 15 14,[3,2,1]⟩,
 ⟨mv 16 2,[]⟩,
 ⟨nk 17 16,[5]⟩,
 ⟨fa 18 0 17,[6,5]⟩,
 ⟨lo 19 18,[7,6,5]⟩,
 ⟨o0 20 (.slc 1 (.s 15) none (some (.s 19)) none),[4,3,2,1,8,7,6,5]⟩] [] [])
 (sr [nk 21 11] []
 (sr [fa 22 0 21] []
 (.reg [sT 1 22 20] [11,12,13,14,15,16,17,18,19,20,21,22])))))))⟩
theorem acQ:aq Tryz.prog 217=some RZ:=by kernel_rfl
abbrev aeT:FuncId:=217
def M6:az :=
⟨48,1,[.tmp 2,.tmp 3],
 (sr [mI 2 0,
 mI 3 0] []
 (.seq (sr [mv 7 0,
 c1 8 185 7,
 uN 9 8] [7,8]
 (.cond (.s 9)
 (sr [mI 2 0,
 mI 3 2] []
 .ret)
 .skip))
 (sr [mv 10 0,
 nk 11 10,
 fa 12 0 11,
 lo 13 12,
 ln 14 13,
 mv 4 14] [10,11,12,13,14]
 (.seq (sr [mv 15 0,
 c1 16 263 15,
 mv 5 16] [15,16]
 (.block 0 (sr [mv 18 4,
 mv 19 5,
 nk 20 19,
 fa 21 0 20,
 lo 22 21,
 bS 23 .gtr 18 22,
 mv 17 23] [18,19,20,21,22,23]
 (.cond (.s 17)
 (sr [mv 24 0,
 nk 25 24,
 fa 26 0 25,
 lo 27 26,
 mv 28 4,
 bI 29 .sub 28 1,
 ia 30 1 27 29,
 lo 31 30,
 mv 6 31] [24,25,26,27,28,29,30,31]
 (sr [mv 32 0,
 mv 33 0,
 nk 34 33,
 fa 35 0 34,
 lo 36 35,
 mv 37 4,
 bI 38 .sub 37 1,
 o0 39 (.slc 1 (.s 36) none (some (.s 38)) none),
 nk 40 32,
 fa 41 0 40,
 sT 1 41 39] [32,33,34,35,36,37,38,39,40,41]
 (sr [mv 42 6,
 mv 2 42,
 mI 3 0] [42]
 .ret)))
 (sr [mv 44 5,
 nk 45 44,
 fa 46 1 45,
 lo 47 46,
 mv 43 47] [44,45,46,47]
 (.cond (.s 43)
 (sr [mI 2 0,
 mI 3 0] []
 .ret)
 .skip))))))
 (sr [mI 2 0,
 mI 3 13] []
 .ret)))))⟩
theorem ado:aq Tryz.prog 221=some M6:=by kernel_rfl
abbrev afh:FuncId:=221
def Ha:az :=
⟨9,2,[.cell 4 (some 2),.tmp 5],
 (sr [o0 4 (.new 59 [.nl,.nl]),
 mI 5 0] []
 (sr [mv 6 0,
 mv 7 1,
 o0 8 (.build [.nl,.nl] [(0,1,(.s 6)),(1,1,(.s 7))]),
 sT 2 4 8,
 mI 5 0] [6,7,8]
 .ret))⟩
theorem Ya:aq Tryz.prog 225=some Ha:=by kernel_rfl
abbrev aao:FuncId:=225
def CC:az :=
⟨43,2,[.cell 4 (some 2),.tmp 5],
 (sr [o0 3 (.box 66 9 (.s 1)),
 o0 4 (.new 59 [.nl,.nl]),
 mI 5 0] []
 (.seq (sr [fa 7 1 3,
 lo 8 7,
 mv 9 0,
 ln 10 9,
 bS 11 .geq 8 10] [7,8,9,10]
 (.cond (.s 11)
 (sr [o0 12 (.call 230 [(iC 11)]),
 xt 13 12 0,
 xt 14 12 1,
 sT 2 4 13,
 mv 5 14] [12,13,14]
 .ret)
 .skip))
 (sr [mv 15 0,
 fa 16 1 3,
 lo 17 16,
 ia 18 1 15 17,
 lo 19 18,
 mv 6 19] [15,16,17,18,19]
 (.seq (sr [fa 20 0 3,
 lo 21 20] [20]
 (.block 0 (sr [bI 23 .eql 21 32,
 mv 22 23] [23]
 (.cond (.s 22)
 (.seq (.reg [mv 24 6,
 o0 25 (.bsl 48 1 [[(.int .i64 0)]] [(0,(.s 24))]),
 o0 26 (.call 225 [(.c .nl),(.s 25)]),
 xt 27 26 0,
 xt 28 26 1,
 sT 2 4 27,
 mv 5 28] [24,25,26,27,28])
 .ret)
 (sr [bI 30 .eql 21 33,
 mv 29 30] [30]
 (.cond (.s 29)
 (.seq (.reg [mv 31 6,
 o0 32 (.bsl 48 1 [[(.int .i64 0)]] [(0,(.s 31))]),
 o0 33 (.call 225 [(.s 32),(.c .nl)]),
 xt 34 33 0,
 xt 35 33 1,
 sT 2 4 34,
 mv 5 35] [31,32,33,34,35])
 .ret)
 .skip))))))
 (.seq (.reg [mv 36 6,
 o0 37 (.bsl 48 1 [[(.int .i64 0)]] [(0,(.s 36))]),
 mv 38 6,
 o0 39 (.bsl 48 1 [[(.int .i64 0)]] [(0,(.s 38))]),
 c2 40 225 37 39,
 xt 41 40 0,
 xt 42 40 1,
 sT 2 4 41,
 mv 5 42] [36,37,38,39,40,41,42])
 .ret)))))⟩
theorem XF:aq Tryz.prog 226=some CC:=by kernel_rfl
abbrev ZY:FuncId:=226
def kx:az :=
⟨150,2,[.tmp 4],
 (sr [o0 3 (.box 66 9 (.s 1)),
 mI 4 0] []
 (sr [mB 5 true] []
 (.seq (sr [fa 18 0 3,
 lo 19 18,
 c1 20 159 19] [18,19]
 (.block 0 (.seq (.block 8 (.seq (.block 7 (.seq (.block 6 (.seq (.block 5 (.seq (.block 4 (.seq (.block 3 (.seq (.block 2 (.seq (.block 1 (.seq (.seq (sr [bI 22 .eql 20 10,
 mv 21 22] [22]
 (.cond (.s 21)
 (.exit 1)
 .skip))
 (.seq (sr [bI 24 .eql 20 11,
 mv 23 24] [24]
 (.cond (.s 23)
 (.exit 2)
 .skip))
 (.seq (sr [bI 26 .eql 20 12,
 mv 25 26] [26]
 (.cond (.s 25)
 (.exit 3)
 .skip))
 (.seq (sr [bI 28 .eql 20 16,
 mv 27 28] [28]
 (.cond (.s 27)
 (.exit 4)
 .skip))
 (.seq (sr [bI 30 .eql 20 15,
 mv 29 30] [30]
 (.cond (.s 29)
 (.exit 5)
 .skip))
 (.seq (sr [bI 32 .eql 20 14,
 mv 31 32] [32]
 (.cond (.s 31)
 (.exit 6)
 .skip))
 (.seq (sr [bI 34 .eql 20 13,
 mv 33 34] [34]
 (.cond (.s 33)
 (.exit 7)
 .skip))
 (sr [bI 36 .eql 20 17,
 mv 35 36] [36]
 (.cond (.s 35)
 (.exit 8)
 .skip)))))))))
 (.exit 0)))
 (.seq (sr [mv 38 0,
 fa 39 1 3,
 lo 40 39,
 c2 41 123 38 40,
 mv 37 41,
 xt 42 37 0,
 xt 43 37 1,
 o0 6 (.new 52 [(.int .i64 0),(.int .i64 0),(.int .i64 0),(.bool false)]),
 sT 4 6 42,
 mv 7 43] [38,39,40,41,37,42,43]
 (sr [mv 45 0,
 fa 46 2 3,
 lo 47 46,
 c2 48 123 45 47,
 mv 44 48,
 xt 49 44 0,
 xt 50 44 1,
 o0 8 (.new 52 [(.int .i64 0),(.int .i64 0),(.int .i64 0),(.bool false)]),
 sT 4 8 49,
 mv 9 50] [45,46,47,48,44,49,50]
 (sr [mv 51 7,
 mv 52 51,
 mt 53 9 52,
 pF 54 52 53,
 fa 55 0 6,
 lo 56 55,
 fa 57 0 8,
 lo 58 57,
 c3 59 265 54 56 58,
 mv 4 59] [51,52,53,54,55,56,57,58,59]
 .ret)))
 (.exit 0))))
 (.seq (sr [mv 61 0,
 fa 62 1 3,
 lo 63 62,
 c2 64 266 61 63,
 mv 60 64,
 xt 65 60 0,
 xt 66 60 1,
 mv 10 65,
 mv 11 66] [61,62,63,64,60,65,66]
 (sr [mv 68 0,
 fa 69 2 3,
 lo 70 69,
 c2 71 123 68 70,
 mv 67 71,
 xt 72 67 0,
 xt 73 67 1,
 o0 12 (.new 52 [(.int .i64 0),(.int .i64 0),(.int .i64 0),(.bool false)]),
 sT 4 12 72,
 mv 13 73] [68,69,70,71,67,72,73]
 (sr [mv 74 11,
 mv 75 74,
 mt 76 13 75,
 pF 77 75 76,
 mv 78 10,
 fa 79 0 12,
 lo 80 79,
 c3 81 265 77 78 80,
 mv 4 81] [74,75,76,77,78,79,80,81]
 .ret)))
 (.exit 0))))
 (sr [mv 83 0,
 fa 84 1 3,
 lo 85 84,
 c2 86 266 83 85,
 mv 82 86,
 xt 87 82 0,
 xt 88 82 1,
 mv 5 88] [83,84,85,86,82,87,88]
 (.exit 0))))
 (.seq (.seq (.draw [⟨fa 89 1 3,[]⟩,
 ⟨lo 90 89,[0]⟩,
 ⟨mv 91 0,[]⟩,
 ⟨c1 92 267 91,[2]⟩] [] [])
 (sr [bS 93 .lss 90 92] []
 (.reg [mv 5 93] [89,90,91,92,93])))
 (.exit 0))))
 (.seq (sr [mv 95 0,
 fa 96 2 3,
 lo 97 96,
 c2 98 268 95 97,
 mv 94 98,
 xt 99 94 0,
 xt 100 94 1,
 mv 5 100] [95,96,97,98,94,99,100]
 (sr [mv 101 5] []
 (sr [mv 102 101] []
 (.seq (.draw [⟨ot 103 102 (fd 1 3),[]⟩,
 ⟨ot 104 102 (ld 103),[0]⟩,
 ⟨mt 105 0 102,[]⟩,
 ⟨ot 106 102 (.call 267 [(.s 105)]),[2]⟩] [] [])
 (sr [ot 107 102 (.bin .lss (.s 104) (.s 106))] []
 (sr [pF 108 102 107] []
 (.reg [mv 5 108] [101,102,103,104,105,106,107,108])))))))
 (.exit 0))))
 (sr [mv 110 0,
 fa 111 1 3,
 lo 112 111,
 c2 113 268 110 112,
 mv 109 113,
 xt 114 109 0,
 xt 115 109 1,
 o0 14 (.new 50 [(.int .i64 0),(.int .i64 0),(.bool false)]),
 sT 3 14 114,
 mv 15 115] [110,111,112,113,109,114,115,14]
 (sr [mv 116 15,
 uN 117 116] [116]
 (.cond (.s 117)
 (sr [mI 4 11] []
 .ret)
 .skip)))))
 (sr [mv 119 0,
 fa 120 2 3,
 lo 121 120,
 c2 122 268 119 121,
 mv 118 122,
 xt 123 118 0,
 xt 124 118 1,
 mv 5 124] [119,120,121,122,118,123,124]
 (.exit 0))))
 (.seq (.seq (sr [mv 126 0,
 fa 127 2 3,
 lo 128 127,
 c2 129 268 126 128,
 mv 125 129,
 xt 130 125 0,
 xt 131 125 1,
 o0 16 (.new 50 [(.int .i64 0),(.int .i64 0),(.bool false)]),
 sT 3 16 130,
 mv 17 131] [126,127,128,129,125,130,131,16]
 (.seq (sr [mv 132 17] []
 (sr [mv 133 132] []
 (.seq (.draw [⟨ot 134 133 (fd 1 3),[]⟩,
 ⟨ot 135 133 (ld 134),[0]⟩,
 ⟨ot 136 133 (fd 0 3),[]⟩,
 ⟨ot 137 133 (ld 136),[2]⟩,
 ⟨ot 138 133 (.call 269 [(.s 137)]),[3,2]⟩] [] [])
 (sr [ot 139 133 (.bin .gtr (.s 135) (.s 138))] []
 (.reg [pF 140 133 139] [132,133,134,135,136,137,138,139])))))
 (.cond (.s 140)
 (sr [mI 4 19] []
 .ret)
 .skip)))
 (.reg [mv 142 0,
 fa 143 2 3,
 lo 144 143,
 c2 145 268 142 144,
 mv 141 145,
 xt 146 141 0,
 xt 147 141 1,
 mv 5 147] [142,143,144,145,141,146,147]))
 (.exit 0)))))
 (.seq (sr [mv 148 5,
 uN 149 148] [148]
 (.cond (.s 149)
 (sr [mI 4 11] []
 .ret)
 .skip))
 (sr [mI 4 0] []
 .ret)))))⟩
theorem Xv:aq Tryz.prog 229=some kx:=by kernel_rfl
abbrev ZO:FuncId:=229
abbrev oU:FuncId:=291
def Sj:az :=
⟨80,2,[.tmp 4],
 (sr [o0 2 (.box 33 12 (.s 0)),
 mB 4 false] []
 (.seq (sr [lS 8 12 2,
 c1 9 9 8,
 uN 10 9,
 mv 11 10,
 mf 12 1 11,
 oF 13 11 (.len (.s 12)),
 oF 14 11 (.bin .gtr (.s 13) (iC 100)),
 pT 15 11 14] [8,9,10,11,12,13,14]
 (.cond (.s 15)
 (sr [c0 16 10,
 mv 4 16] [16]
 .ret)
 .skip))
 (sr [lS 17 12 2,
 o0 5 (.new 33 [.nl,.nl,.nl,.nl,.nl,.nl,.nl,(.bool false),(.int .i64 0),.nl,.nl,.nl]),
 sT 12 5 17] [17]
 (sr [o0 18 (.bsl 43 4 [] []),
 fa 19 10 2,
 lo 20 19,
 o0 21 (.app 43 4 (.s 18) (.s 20)),
 fa 22 10 5,
 sT 1 22 21] [18,19,20,21,22]
 (.seq (sr [fa 23 10 5,
 lo 24 23,
 ln 25 24,
 mI 26 0] [23,24]
 (.block 0 (.loop (sr [bS 27 .lss 26 25] []
 (.seq (.cond (.s 27)
 .skip
 (.exit 0))
 (.seq (.block 1 (sr [mv 28 26,
 mv 6 28] [28]
 (.seq (sr [fa 29 10 5,
 lo 30 29,
 mv 31 6,
 ia 32 4 30 31,
 fa 33 3 32,
 lo 34 33,
 ln 35 34,
 bI 36 .gtr 35 4096] [29,30,31,32,33,34,35]
 (.cond (.s 36)
 (sr [c0 37 10,
 mv 4 37] [37]
 .ret)
 .skip))
 (.reg [fa 38 10 5,
 lo 39 38,
 mv 40 6,
 mv 41 1,
 ia 42 4 39 40,
 fa 43 3 42,
 sT 1 43 41] [38,39,40,41,42,43]))))
 (.reg [bI 44 .add 26 1,
 mv 26 44] [44])))))))
 (sr [o0 45 (.bsl 45 3 [] []),
 fa 46 11 2,
 lo 47 46,
 o0 48 (.app 45 3 (.s 45) (.s 47)),
 fa 49 11 5,
 sT 1 49 48] [45,46,47,48,49]
 (.seq (sr [fa 50 11 5,
 lo 51 50,
 ln 52 51,
 mI 53 0] [50,51]
 (.block 2 (.loop (sr [bS 54 .lss 53 52] []
 (.seq (.cond (.s 54)
 .skip
 (.exit 2))
 (.seq (.block 3 (sr [mv 55 53,
 mv 7 55] [55]
 (.seq (sr [fa 56 11 5,
 lo 57 56,
 mv 58 7,
 ia 59 3 57 58,
 fa 60 2 59,
 lo 61 60,
 ln 62 61,
 bI 63 .gtr 62 4096] [56,57,58,59,60,61,62]
 (.cond (.s 63)
 (sr [c0 64 10,
 mv 4 64] [64]
 .ret)
 .skip))
 (.reg [fa 65 11 5,
 lo 66 65,
 mv 67 7,
 mv 68 1,
 ia 69 3 66 67,
 fa 70 2 69,
 sT 1 70 68] [65,66,67,68,69,70]))))
 (.reg [bI 71 .add 53 1,
 mv 53 71] [71])))))))
 (.seq (.seq (.draw [⟨lS 72 12 2,[]⟩,
 ⟨c1 73 11 72,[0]⟩,
 ⟨lS 74 12 5,[]⟩] [] [])
 (sr [c1 75 11 74] []
 (sr [o0 76 (.sbin .eql [.i,.i,.i,.i] (.s 73) (.s 75))] []
 (sr [mv 77 76] []
 (sr [ot 78 77 (.call 10 [])] []
 (sr [pF 79 77 78] []
 (.reg [mv 4 79] [72,73,74,75,76,77,78,79])))))))
 .ret))))))))⟩
theorem adr:aq Tryz.prog 4=some Sj:=by kernel_rfl
abbrev afi:FuncId:=4
def GF:az :=
⟨44,0,[.tmp 0],
 (sr [mB 0 false] []
 (.seq (.reg [o0 4 (.bsl 48 1 [[(.int .i64 0)]] [(0,(iC 1))]),
 o0 5 (.build [.nl,.nl] [(1,1,(.s 4))]),
 o0 6 (.bsl 59 2 [[.nl,.nl]] [(0,(.s 5))]),
 mv 1 6] [4,5,6])
 (.seq (.reg [mv 7 1,
 o0 8 (.build [(.int .i64 0),(.int .i64 0),(.int .i64 0),(.int .u64 0),(.int .i64 0),(.int .i64 0),(.int .i64 0),.nl,.nl] [(0,1,(iC 66)),(3,1,(.c (.int .u64 1)))]),
 o0 9 (.build [(.int .i64 0),(.int .i64 0),(.int .i64 0),(.int .u64 0),(.int .i64 0),(.int .i64 0),(.int .i64 0),.nl,.nl] [(0,1,(iC 11))]),
 o0 10 (.bsl 66 9 [[(.int .i64 0),(.int .i64 0),(.int .i64 0),(.int .u64 0),(.int .i64 0),(.int .i64 0),(.int .i64 0),.nl,.nl],[(.int .i64 0),(.int .i64 0),(.int .i64 0),(.int .u64 0),(.int .i64 0),(.int .i64 0),(.int .i64 0),.nl,.nl]] [(0,(.s 8)),(1,(.s 9))]),
 o0 11 (.build [(.int .i64 0),.nl,.nl] [(2,1,(.s 10))]),
 o0 12 (.bsl 68 3 [[(.int .i64 0),.nl,.nl]] [(0,(.s 11))]),
 o0 13 (.build [.nl,.nl,.nl,.nl,.nl,.nl,.nl,(.bool false),(.int .i64 0),.nl,.nl,.nl] [(0,1,(.s 7)),(2,1,(.s 12))]),
 c1 14 11 13,
 o0 2 (.new 38 [(.int .i64 0),(.int .i64 0),(.int .i64 0),(.int .i64 0)]),
 sT 4 2 14] [7,8,9,10,11,12,13,14])
 (.seq (.reg [mv 15 1,
 o0 16 (.build [(.int .i64 0),(.int .i64 0),(.int .i64 0),(.int .u64 0),(.int .i64 0),(.int .i64 0),(.int .i64 0),.nl,.nl] [(0,1,(iC 65)),(3,1,(.c (.int .u64 1)))]),
 o0 17 (.build [(.int .i64 0),(.int .i64 0),(.int .i64 0),(.int .u64 0),(.int .i64 0),(.int .i64 0),(.int .i64 0),.nl,.nl] [(0,1,(iC 11))]),
 o0 18 (.bsl 66 9 [[(.int .i64 0),(.int .i64 0),(.int .i64 0),(.int .u64 0),(.int .i64 0),(.int .i64 0),(.int .i64 0),.nl,.nl],[(.int .i64 0),(.int .i64 0),(.int .i64 0),(.int .u64 0),(.int .i64 0),(.int .i64 0),(.int .i64 0),.nl,.nl]] [(0,(.s 16)),(1,(.s 17))]),
 o0 19 (.build [(.int .i64 0),.nl,.nl] [(2,1,(.s 18))]),
 o0 20 (.bsl 68 3 [[(.int .i64 0),.nl,.nl]] [(0,(.s 19))]),
 o0 21 (.build [(.str []),(.int .i64 0),(.int .i64 0)] [(0,1,(.c (.str [120])))]),
 o0 22 (.build [(.str []),(.int .i64 0),(.int .i64 0)] [(0,1,(.c (.str [120]))),(2,1,(iC 7))]),
 o0 23 (.bsl 72 3 [[(.str []),(.int .i64 0),(.int .i64 0)],[(.str []),(.int .i64 0),(.int .i64 0)]] [(0,(.s 21)),(1,(.s 22))]),
 o0 24 (.build [.nl,.nl,.nl,.nl,.nl,.nl,.nl,(.bool false),(.int .i64 0),.nl,.nl,.nl] [(0,1,(.s 15)),(2,1,(.s 20)),(6,1,(.s 23))]),
 c1 25 11 24,
 o0 3 (.new 38 [(.int .i64 0),(.int .i64 0),(.int .i64 0),(.int .i64 0)]),
 sT 4 3 25] [15,16,17,18,19,20,21,22,23,24,25])
 (sr [o0 26 (.build [.nl,.nl,.nl,.nl,.nl,.nl,.nl,(.bool false),(.int .i64 0),.nl,.nl,.nl] []),
 c1 27 13 26,
 mv 28 27,
 ot 29 28 (.build [.nl,.nl,.nl,.nl,.nl,.nl,.nl,(.bool false),(.int .i64 0),.nl,.nl,.nl] []),
 ot 30 28 (.call 11 [(.s 29)]),
 ot 31 28 (.build [(.int .i64 0),(.int .i64 0),(.int .i64 0),(.int .i64 0)] []),
 ot 32 28 (.sbin .eql [.i,.i,.i,.i] (.s 30) (.s 31)),
 pF 33 28 32,
 mv 34 33,
 ot 35 34 (.load (some 4) (.s 2)),
 ot 36 34 (.build [(.int .i64 0),(.int .i64 0),(.int .i64 0),(.int .i64 0)] [(0,1,(iC 12)),(2,1,(iC 1)),(3,1,(iC 12))]),
 ot 37 34 (.sbin .eql [.i,.i,.i,.i] (.s 35) (.s 36)),
 pF 38 34 37,
 mv 39 38,
 ot 40 39 (.load (some 4) (.s 3)),
 ot 41 39 (.build [(.int .i64 0),(.int .i64 0),(.int .i64 0),(.int .i64 0)] [(0,1,(iC 7)),(1,1,(iC 1)),(3,1,(iC 21))]),
 ot 42 39 (.sbin .eql [.i,.i,.i,.i] (.s 40) (.s 41)),
 pF 43 39 42,
 mv 0 43] [26,27,28,29,30,31,32,33,34,35,36,37,38,39,40,41,42,43]
 .ret)))))⟩
theorem Xi:aq Tryz.prog 10=some GF:=by kernel_rfl
abbrev ZC:FuncId:=10
def G9:az :=
⟨171,1,[.tmp 2],
 (sr [o0 1 (.box 33 12 (.s 0)),
 o0 2 (.mov (.c .np))] []
 (.seq (.reg [fa 20 10 1,
 lo 21 20,
 ln 22 21,
 o0 23 (.mop .mkm []),
 o0 24 (.mop .mkm []),
 o0 25 (.build [.nl,.nl,.nl,.nl,.nl,.nl,(.int .i64 0),(.fm []),(.fm [])] [(6,1,(.s 22)),(7,1,(.s 23)),(8,1,(.s 24))]),
 o0 26 (.box 129 9 (.s 25)),
 o0 3 (.new 124 [.np]),
 sT 1 3 26] [20,21,22,23,24,25,26])
 (.seq (sr [fa 27 0 1,
 lo 28 27,
 ln 29 28,
 mI 30 0] [27]
 (.block 0 (.loop (sr [bS 31 .lss 30 29] []
 (.seq (.cond (.s 31)
 .skip
 (.exit 0))
 (.seq (.block 1 (sr [ia 32 2 28 30,
 lS 33 2 32,
 o0 5 (.new 59 [.nl,.nl]),
 sT 2 5 33] [32,33]
 (.seq (.draw [⟨lo 34 3,[]⟩,
 ⟨lo 35 3,[]⟩,
 ⟨nk 36 35,[1]⟩,
 ⟨fa 37 0 36,[2,1]⟩,
 ⟨lo 38 37,[3,2,1]⟩,
 ⟨lS 39 2 5,[]⟩,
 ⟨c1 40 66 39,[5]⟩,
 ⟨o0 41 (.bsl 59 2 [[.nl,.nl]] [(0,(.s 40))]),[6,5]⟩,
 ⟨o0 42 (.app 59 2 (.s 38) (.s 41)),[4,3,2,1,7,6,5]⟩] [(41,7),(42,8)] [])
 (sr [nk 43 34] []
 (sr [fa 44 0 43] []
 (.reg [sT 1 44 42] [34,35,36,37,38,39,40,41,42,43,44]))))))
 (.reg [bI 45 .add 30 1,
 mv 30 45] [45])))))))
 (sr [o0 46 (.mkf 67 [(.s 3)]),
 mv 6 46] [46]
 (.seq (sr [fa 47 1 1,
 lo 48 47,
 ln 49 48,
 mI 50 0] [47]
 (.block 2 (.loop (sr [bS 51 .lss 50 49] []
 (.seq (.cond (.s 51)
 .skip
 (.exit 2))
 (.seq (.block 3 (.seq (.reg [ia 52 13 48 50,
 lS 53 13 52,
 o0 8 (.new 56 [(.str []),(.str []),(.int .i64 0),(.int .i64 0),(.int .i64 0),(.int .i64 0),(.int .i64 0),(.bool false),(.int .i64 0),(.int .i64 0),(.bool false),(.int .i64 0),(.bool false)]),
 sT 13 8 53] [52,53])
 (.reg [mv 54 6,
 lS 55 13 8,
 o0 56 (.callv (.s 54) [(.s 55)])] [54,55,56])))
 (.reg [bI 57 .add 50 1,
 mv 50 57] [57])))))))
 (.seq (sr [fa 58 2 1,
 lo 59 58,
 ln 60 59,
 mI 61 0] [58]
 (.block 4 (.loop (sr [bS 62 .lss 61 60] []
 (.seq (.cond (.s 62)
 .skip
 (.exit 4))
 (.seq (.block 5 (sr [ia 63 3 59 61,
 lS 64 3 63,
 o0 10 (.new 68 [(.int .i64 0),.nl,.nl]),
 sT 3 10 64] [63,64]
 (.seq (.draw [⟨lo 65 3,[]⟩,
 ⟨lo 66 3,[]⟩,
 ⟨nk 67 66,[1]⟩,
 ⟨fa 68 1 67,[2,1]⟩,
 ⟨lo 69 68,[3,2,1]⟩,
 ⟨fa 70 0 10,[]⟩,
 ⟨lo 71 70,[5]⟩,
 ⟨o0 72 (.bsl 3 1 [[(.int .i64 0)]] [(0,(.s 71))]),[6,5]⟩,
 ⟨o0 73 (.app 3 1 (.s 69) (.s 72)),[4,3,2,1,7,6,5]⟩] [(72,7),(73,8)] [])
 (sr [nk 74 65] []
 (sr [fa 75 1 74] []
 (.reg [sT 1 75 73] [65,66,67,68,69,70,71,72,73,74,75]))))))
 (.reg [bI 76 .add 61 1,
 mv 61 76] [76])))))))
 (.seq (.seq (.draw [⟨lo 77 3,[]⟩,
 ⟨lo 78 3,[]⟩,
 ⟨nk 79 78,[1]⟩,
 ⟨fa 80 2 79,[2,1]⟩,
 ⟨lo 81 80,[3,2,1]⟩,
 ⟨fa 82 3 1,[]⟩,
 ⟨lo 83 82,[5]⟩,
 ⟨o0 84 (.app 52 4 (.s 81) (.s 83)),[4,3,2,1,6,5]⟩] [(84,7)] [])
 (sr [nk 85 77] []
 (sr [fa 86 2 85] []
 (.reg [sT 1 86 84] [77,78,79,80,81,82,83,84,85,86]))))
 (.seq (.seq (.draw [⟨lo 87 3,[]⟩,
 ⟨lo 88 3,[]⟩,
 ⟨nk 89 88,[1]⟩,
 ⟨fa 90 3 89,[2,1]⟩,
 ⟨lo 91 90,[3,2,1]⟩,
 ⟨fa 92 4 1,[]⟩,
 ⟨lo 93 92,[5]⟩,
 ⟨o0 94 (.app 50 3 (.s 91) (.s 93)),[4,3,2,1,6,5]⟩] [(94,7)] [])
 (sr [nk 95 87] []
 (sr [fa 96 3 95] []
 (.reg [sT 1 96 94] [87,88,89,90,91,92,93,94,95,96]))))
 (sr [o0 97 (.mkf 68 [(.s 3)]),
 mv 11 97] [97]
 (.seq (sr [fa 98 5 1,
 lo 99 98,
 ln 100 99,
 mI 101 0] [98]
 (.block 6 (.loop (sr [bS 102 .lss 101 100] []
 (.seq (.cond (.s 102)
 .skip
 (.exit 6))
 (.seq (.block 7 (sr [ia 103 3 99 101,
 lS 104 3 103,
 o0 13 (.new 83 [(.int .i64 0),(.bool false),.nl]),
 sT 3 13 104] [103,104]
 (.seq (.seq (.draw [⟨lo 105 3,[]⟩,
 ⟨lo 106 3,[]⟩,
 ⟨nk 107 106,[1]⟩,
 ⟨fa 108 4 107,[2,1]⟩,
 ⟨lo 109 108,[3,2,1]⟩,
 ⟨fa 110 0 13,[]⟩,
 ⟨lS 111 2 110,[5]⟩,
 ⟨o0 112 (.bsl 54 2 [[(.int .i64 0),(.bool false)]] [(0,(.s 111))]),[6,5]⟩,
 ⟨o0 113 (.app 54 2 (.s 109) (.s 112)),[4,3,2,1,7,6,5]⟩] [(112,7),(113,8)] [])
 (sr [nk 114 105] []
 (sr [fa 115 4 114] []
 (.reg [sT 1 115 113] [105,106,107,108,109,110,111,112,113,114,115]))))
 (.reg [mv 116 11,
 fa 117 2 13,
 lo 118 117,
 o0 119 (.callv (.s 116) [(.s 118)])] [116,117,118,119]))))
 (.reg [bI 120 .add 101 1,
 mv 101 120] [120])))))))
 (.seq (sr [fa 121 9 1,
 lo 122 121,
 ln 123 122,
 mI 124 0] [121]
 (.block 8 (.loop (sr [bS 125 .lss 124 123] []
 (.seq (.cond (.s 125)
 .skip
 (.exit 8))
 (.seq (.block 9 (sr [ia 126 5 122 124,
 lS 127 5 126,
 o0 15 (.new 86 [(.int .i64 0),(.int .i64 0),.nl,(.int .i64 0),.nl]),
 sT 5 15 127] [126,127]
 (.seq (.seq (.draw [⟨lo 128 3,[]⟩,
 ⟨lo 129 3,[]⟩,
 ⟨nk 130 129,[1]⟩,
 ⟨fa 131 5 130,[2,1]⟩,
 ⟨lo 132 131,[3,2,1]⟩,
 ⟨fa 133 3 15,[]⟩,
 ⟨lo 134 133,[5]⟩,
 ⟨o0 135 (.bsl 48 1 [[(.int .i64 0)]] [(0,(.s 134))]),[6,5]⟩,
 ⟨o0 136 (.app 48 1 (.s 132) (.s 135)),[4,3,2,1,7,6,5]⟩] [(135,7),(136,8)] [])
 (sr [nk 137 128] []
 (sr [fa 138 5 137] []
 (.reg [sT 1 138 136] [128,129,130,131,132,133,134,135,136,137,138]))))
 (sr [fa 139 4 15,
 lo 140 139,
 ln 141 140,
 mI 142 0] [139]
 (.block 10 (.loop (sr [bS 143 .lss 142 141] []
 (.seq (.cond (.s 143)
 .skip
 (.exit 10))
 (.seq (.block 11 (sr [ia 144 1 140 142,
 lo 145 144,
 mv 17 145] [144,145]
 (.reg [mv 146 11,
 mv 147 17,
 o0 148 (.callv (.s 146) [(.s 147)])] [146,147,148])))
 (.reg [bI 149 .add 142 1,
 mv 142 149] [149]))))))))))
 (.reg [bI 150 .add 124 1,
 mv 124 150] [150])))))))
 (.seq (sr [fa 151 6 1,
 lo 152 151,
 ln 153 152,
 mI 154 0] [151]
 (.block 12 (.loop (sr [bS 155 .lss 154 153] []
 (.seq (.cond (.s 155)
 .skip
 (.exit 12))
 (.seq (.block 13 (.seq (.reg [ia 156 3 152 154,
 lS 157 3 156,
 o0 19 (.new 72 [(.str []),(.int .i64 0),(.int .i64 0)]),
 sT 3 19 157] [156,157])
 (sr [fa 158 1 19,
 lo 159 158,
 bI 160 .eql 159 0] [158,159]
 (.cond (.s 160)
 (.seq (.draw [⟨lo 161 3,[]⟩,
 ⟨nk 162 161,[0]⟩,
 ⟨fa 163 8 162,[1,0]⟩,
 ⟨lo 164 163,[2,1,0]⟩,
 ⟨fa 165 2 19,[]⟩,
 ⟨lo 166 165,[4]⟩] [] [])
 (.reg [⟨none,.mop (.mup .i) [(.s 164),(.s 166),(bC true)],none⟩] [161,162,163,164,165,166]))
 .skip))))
 (.reg [bI 167 .add 154 1,
 mv 154 167] [167])))))))
 (sr [lo 168 3,
 o0 169 (.build [.np] [(0,1,(.s 168))]),
 o0 170 (.box 134 1 (.s 169)),
 mv 2 170] [168,169,170]
 .ret)))))))))))))⟩
theorem X9:aq Tryz.prog 16=some G9:=by kernel_rfl
abbrev aan:FuncId:=16
def Sw:az :=
⟨8,2,[.tmp 4,.tmp 5],
 (sr [o0 3 (.box 59 2 (.s 1)),
 mI 4 0,
 mI 5 0] []
 (sr [lS 6 2 3,
 c1 7 34 6,
 mI 4 0,
 mv 5 7] [6,7]
 .ret))⟩
theorem adD:aq Tryz.prog 33=some Sw:=by kernel_rfl
abbrev aaF:FuncId:=33
def Hk:az :=
⟨25,1,[.tmp 2],
 (sr [o0 1 (.box 59 2 (.s 0)),
 mI 2 0] []
 (.seq (.block 0 (sr [fa 4 0 1,
 lo 5 4,
 ln 6 5,
 bI 7 .gtr 6 8,
 mv 8 7,
 oF 9 8 (fd 1 1),
 oF 10 8 (ld 9),
 oF 11 8 (.len (.s 10)),
 oF 12 8 (.bin .gtr (.s 11) (iC 8)),
 pT 13 8 12,
 mv 3 13] [4,5,6,7,8,9,10,11,12,13]
 (.cond (.s 3)
 (sr [mI 2 6] []
 .ret)
 (sr [fa 15 0 1,
 lo 16 15,
 c1 17 107 16,
 uN 18 17,
 mv 19 18,
 oF 20 19 (fd 1 1),
 oF 21 19 (ld 20),
 oF 22 19 (.call 107 [(.s 21)]),
 oF 23 19 (.un .not (.s 22)),
 pT 24 19 23,
 mv 14 24] [15,16,17,18,19,20,21,22,23,24]
 (.cond (.s 14)
 (sr [mI 2 12] []
 .ret)
 .skip)))))
 (sr [mI 2 0] []
 .ret)))⟩
theorem adM:aq Tryz.prog 34=some Hk:=by kernel_rfl
abbrev afs:FuncId:=34
def Sx:az :=
⟨8,2,[.tmp 4,.tmp 5],
 (sr [o0 3 (.box 56 13 (.s 1)),
 mI 4 0,
 mI 5 0] []
 (sr [lS 6 13 3,
 c1 7 37 6,
 mI 4 0,
 mv 5 7] [6,7]
 .ret))⟩
theorem adE:aq Tryz.prog 36=some Sx:=by kernel_rfl
abbrev aaG:FuncId:=36
def Sy:az :=
⟨8,2,[.tmp 4,.tmp 5],
 (sr [o0 3 (.box 68 3 (.s 1)),
 mI 4 0,
 mI 5 0] []
 (sr [lS 6 3 3,
 c1 7 40 6,
 mI 4 0,
 mv 5 7] [6,7]
 .ret))⟩
theorem adF:aq Tryz.prog 39=some Sy:=by kernel_rfl
abbrev aaH:FuncId:=39
def GX:az :=
⟨18,1,[.tmp 2],
 (sr [o0 1 (.box 68 3 (.s 0)),
 mI 2 0] []
 (.seq (.block 0 (sr [fa 4 0 1,
 lo 5 4,
 c1 6 54 5,
 uN 7 6,
 mv 3 7] [4,5,6,7]
 (.cond (.s 3)
 (sr [mI 2 11] []
 .ret)
 (sr [fa 9 1 1,
 lo 10 9,
 ln 11 10,
 bI 12 .gtr 11 64,
 mv 8 12] [9,10,11,12]
 (.cond (.s 8)
 (sr [mI 2 6] []
 .ret)
 (sr [fa 14 1 1,
 lo 15 14,
 c1 16 107 15,
 uN 17 16,
 mv 13 17] [14,15,16,17]
 (.cond (.s 13)
 (sr [mI 2 12] []
 .ret)
 .skip)))))))
 (sr [mI 2 0] []
 .ret)))⟩
theorem XN:aq Tryz.prog 40=some GX:=by kernel_rfl
abbrev Z4:FuncId:=40
def Sz:az :=
⟨8,2,[.tmp 4,.tmp 5],
 (sr [o0 3 (.box 52 4 (.s 1)),
 mI 4 0,
 mI 5 0] []
 (sr [lS 6 4 3,
 c1 7 43 6,
 mI 4 0,
 mv 5 7] [6,7]
 .ret))⟩
theorem adG:aq Tryz.prog 42=some Sz:=by kernel_rfl
abbrev aaI:FuncId:=42
def abZ:az :=
⟨56,6,[],
 (.seq (sr [mv 16 2,
 ln 17 16,
 mv 18 4,
 bS 19 .add 17 18,
 mv 20 3,
 bS 21 .gtr 19 20] [16,17,18,19,20]
 (.cond (.s 21)
 (.reg [mv 22 0,
 mv 23 1,
 mv 24 3,
 mv 25 4,
 bS 26 .sub 24 25,
 o0 27 (.mnx true (iC 0) (.s 26)),
 o0 28 (.call 55 [(.s 22),(.s 23),(.s 27),(iC 0),(iC 6)])] [22,23,24,25,26,27,28])
 .skip))
 (sr [mv 29 2,
 ln 30 29,
 mI 31 0] []
 (.block 0 (.loop (sr [bS 32 .lss 31 30] []
 (.seq (.cond (.s 32)
 .skip
 (.exit 0))
 (.seq (.block 1 (sr [mv 33 31,
 ia 34 3 29 31,
 lS 35 3 34,
 o0 13 (.new 50 [(.int .i64 0),(.int .i64 0),(.bool false)]),
 mv 12 33,
 sT 3 13 35] [33,34,35]
 (.seq (sr [mv 36 0,
 nk 37 36,
 fa 38 0 37,
 fa 39 3 38,
 lo 40 39,
 bI 41 .neq 40 0] [36,37,38,39,40]
 (cR 41))
 (sr [mv 43 5,
 mv 44 12,
 lS 45 3 13,
 o0 46 (.callv (.s 43) [(.s 44),(.s 45)]),
 mv 42 46,
 xt 47 42 0,
 xt 48 42 1,
 mv 14 47,
 mv 15 48] [43,44,45,46,42,47,48]
 (.reg [mv 49 0,
 mv 50 1,
 mv 51 12,
 mv 52 14,
 mv 53 15,
 o0 54 (.call 55 [(.s 49),(.s 50),(.s 51),(.s 52),(.s 53)])] [49,50,51,52,53,54])))))
 (.reg [bI 55 .add 31 1,
 mv 31 55] [55]))))))))⟩
theorem acz:aq Tryz.prog 44=some abZ:=by kernel_rfl
abbrev aar:FuncId:=44
def SC:az :=
⟨8,2,[.tmp 4,.tmp 5],
 (sr [o0 3 (.box 72 3 (.s 1)),
 mI 4 0,
 mI 5 0] []
 (sr [lS 6 3 3,
 c1 7 53 6,
 mI 4 0,
 mv 5 7] [6,7]
 .ret))⟩
theorem adJ:aq Tryz.prog 52=some SC:=by kernel_rfl
abbrev aaL:FuncId:=52
def GJ:az :=
⟨24,1,[.tmp 2],
 (sr [o0 1 (.box 72 3 (.s 0)),
 mI 2 0] []
 (.seq (sr [fa 4 0 1,
 lo 5 4,
 c1 6 108 5,
 mv 3 6] [4,5,6]
 (sr [mv 7 3,
 bI 8 .neq 7 0] [7]
 (.cond (.s 8)
 (sr [mv 9 3,
 mv 2 9] [9]
 .ret)
 .skip)))
 (.seq (.block 0 (sr [fa 11 1 1,
 lo 12 11,
 bI 13 .lss 12 0,
 mv 14 13,
 oF 15 14 (fd 1 1),
 oF 16 14 (ld 15),
 oF 17 14 (.bin .gtr (.s 16) (iC 3)),
 pT 18 14 17,
 mv 10 18] [11,12,13,14,15,16,17,18]
 (.cond (.s 10)
 (sr [mI 2 1] []
 .ret)
 (sr [fa 20 2 1,
 lo 21 20,
 c1 22 54 21,
 uN 23 22,
 mv 19 23] [20,21,22,23]
 (.cond (.s 19)
 (sr [mI 2 11] []
 .ret)
 .skip)))))
 (sr [mI 2 0] []
 .ret))))⟩
theorem Xm:aq Tryz.prog 53=some GJ:=by kernel_rfl
abbrev ZG:FuncId:=53
def SD:az :=
⟨10,2,[.tmp 4,.tmp 5],
 (sr [o0 3 (.box 86 5 (.s 1)),
 mI 4 0,
 mI 5 0] []
 (sr [lS 6 5 3,
 c1 7 58 6,
 xt 8 7 0,
 xt 9 7 1,
 mv 4 8,
 mv 5 9] [6,7,8,9]
 .ret))⟩
theorem adK:aq Tryz.prog 57=some SD:=by kernel_rfl
abbrev aaM:FuncId:=57
def ab3:az :=
⟨56,6,[],
 (.seq (sr [mv 16 2,
 ln 17 16,
 mv 18 4,
 bS 19 .add 17 18,
 mv 20 3,
 bS 21 .gtr 19 20] [16,17,18,19,20]
 (.cond (.s 21)
 (.reg [mv 22 0,
 mv 23 1,
 mv 24 3,
 mv 25 4,
 bS 26 .sub 24 25,
 o0 27 (.mnx true (iC 0) (.s 26)),
 o0 28 (.call 55 [(.s 22),(.s 23),(.s 27),(iC 0),(iC 6)])] [22,23,24,25,26,27,28])
 .skip))
 (sr [mv 29 2,
 ln 30 29,
 mI 31 0] []
 (.block 0 (.loop (sr [bS 32 .lss 31 30] []
 (.seq (.cond (.s 32)
 .skip
 (.exit 0))
 (.seq (.block 1 (sr [mv 33 31,
 ia 34 4 29 31,
 lS 35 4 34,
 o0 13 (.new 43 [(.int .i64 0),(.int .i64 0),.nl,.nl]),
 mv 12 33,
 sT 4 13 35] [33,34,35]
 (.seq (sr [mv 36 0,
 nk 37 36,
 fa 38 0 37,
 fa 39 3 38,
 lo 40 39,
 bI 41 .neq 40 0] [36,37,38,39,40]
 (cR 41))
 (sr [mv 43 5,
 mv 44 12,
 lS 45 4 13,
 o0 46 (.callv (.s 43) [(.s 44),(.s 45)]),
 mv 42 46,
 xt 47 42 0,
 xt 48 42 1,
 mv 14 47,
 mv 15 48] [43,44,45,46,42,47,48]
 (.reg [mv 49 0,
 mv 50 1,
 mv 51 12,
 mv 52 14,
 mv 53 15,
 o0 54 (.call 55 [(.s 49),(.s 50),(.s 51),(.s 52),(.s 53)])] [49,50,51,52,53,54])))))
 (.reg [bI 55 .add 31 1,
 mv 31 55] [55]))))))))⟩
theorem acS:aq Tryz.prog 59=some ab3:=by kernel_rfl
abbrev aat:FuncId:=59
def Ss:az :=
⟨8,2,[.tmp 4,.tmp 5],
 (sr [o0 3 (.box 45 3 (.s 1)),
 mI 4 0,
 mI 5 0] []
 (sr [lS 6 3 3,
 c1 7 64 6,
 mI 4 0,
 mv 5 7] [6,7]
 .ret))⟩
theorem adz:aq Tryz.prog 63=some Ss:=by kernel_rfl
abbrev aaD:FuncId:=63
def GI:az :=
⟨25,1,[.tmp 2],
 (sr [o0 1 (.box 45 3 (.s 0)),
 mI 2 0] []
 (sr [fa 4 1 1,
 lo 5 4,
 c1 6 108 5,
 mv 3 6] [4,5,6]
 (.seq (.block 0 (sr [mv 8 3,
 bI 9 .neq 8 0,
 mv 7 9] [8,9]
 (.cond (.s 7)
 (sr [mv 10 3,
 mv 2 10] [10]
 .ret)
 (sr [fa 12 2 1,
 lo 13 12,
 ln 14 13,
 bI 15 .gtr 14 4096,
 mv 11 15] [12,13,14,15]
 (.cond (.s 11)
 (sr [mI 2 6] []
 .ret)
 (sr [fa 17 0 1,
 lo 18 17,
 bI 19 .lss 18 0,
 mv 20 19,
 oF 21 20 (fd 0 1),
 oF 22 20 (ld 21),
 oF 23 20 (.bin .gtr (.s 22) (iC 12)),
 pT 24 20 23,
 mv 16 24] [17,18,19,20,21,22,23,24]
 (.cond (.s 16)
 (sr [mI 2 1] []
 .ret)
 .skip)))))))
 (sr [mI 2 0] []
 .ret))))⟩
theorem Xl:aq Tryz.prog 64=some GI:=by kernel_rfl
abbrev ZF:FuncId:=64
def MZ:az :=
⟨28,2,[.tmp 3,.tmp 4],
 (sr [mI 3 0,
 mI 4 0] []
 (.seq (sr [lo 5 1,
 nk 6 5,
 fa 7 0 6,
 fa 8 1 7,
 lo 9 8,
 mv 10 0,
 ia 11 13 9 10,
 fa 12 2 11,
 lo 13 12,
 bI 14 .neq 13 0] [5,6,7,8,9,10,11,12,13]
 (.cond (.s 14)
 (sr [mI 3 0,
 mI 4 0] []
 .ret)
 .skip))
 (.seq (.seq (.draw [⟨lo 15 1,[]⟩,
 ⟨lo 16 1,[]⟩,
 ⟨nk 17 16,[1]⟩,
 ⟨fa 18 0 17,[2,1]⟩,
 ⟨fa 19 1 18,[3,2,1]⟩,
 ⟨lo 20 19,[4,3,2,1]⟩,
 ⟨mv 21 0,[]⟩,
 ⟨ia 22 13 20 21,[5,4,3,2,1,6]⟩,
 ⟨fa 23 3 22,[7,5,4,3,2,1,6]⟩,
 ⟨lo 24 23,[8,7,5,4,3,2,1,6]⟩] [] [])
 (sr [c2 25 70 15 24] []
 (.seq (.draw [⟨xt 26 25 0,[]⟩,
 ⟨xt 27 25 1,[]⟩] [] [])
 (sr [mv 3 26] []
 (.reg [mv 4 27] [15,16,17,18,19,20,21,22,23,24,25,26,27])))))
 .ret)))⟩
theorem acF:aq Tryz.prog 69=some MZ:=by kernel_rfl
abbrev aeJ:FuncId:=69
def RO:az :=
⟨22,3,[.tmp 6,.tmp 7],
 (sr [mI 6 0,
 mI 7 0] []
 (.seq (.seq (.draw [⟨mv 8 0,[]⟩,
 ⟨nk 9 8,[0]⟩,
 ⟨fa 10 12 9,[1,0]⟩,
 ⟨lo 11 10,[2,1,0]⟩,
 ⟨mv 12 1,[]⟩,
 ⟨mv 13 2,[]⟩,
 ⟨mv 14 0,[]⟩,
 ⟨nk 15 14,[6]⟩,
 ⟨fa 16 12 15,[7,6]⟩,
 ⟨lo 17 16,[8,7,6]⟩,
 ⟨o0 18 (.call 116 [(.s 17),(iC 3)]),[9,8,7,6]⟩] [] [])
 (sr [o0 19 (.call 115 [(.s 11),(.s 12),(.s 13),(.s 18)])] []
 (.seq (.draw [⟨xt 20 19 0,[]⟩,
 ⟨xt 21 19 1,[]⟩] [] [])
 (sr [mv 6 20] []
 (.reg [mv 7 21] [8,9,10,11,12,13,14,15,16,17,18,19,20,21])))))
 .ret))⟩
theorem acu:aq Tryz.prog 73=some RO:=by kernel_rfl
abbrev aeD:FuncId:=73
def ze:az :=
⟨44,3,[.tmp 6],
 (sr [mB 6 false] []
 (sr [mI 7 0] []
 (.seq (sr [mv 8 1] []
 (.block 0 (sr [bI 10 .eql 8 0,
 mv 9 10] [10]
 (.cond (.s 9)
 (.reg [mv 11 0,
 nk 12 11,
 fa 13 12 12,
 lo 14 13,
 c1 15 117 14,
 mv 7 15] [11,12,13,14,15])
 (sr [bI 17 .eql 8 1,
 mv 16 17] [17]
 (.cond (.s 16)
 (.reg [mv 18 0,
 nk 19 18,
 fa 20 12 19,
 lo 21 20,
 c1 22 118 21,
 mv 7 22] [18,19,20,21,22])
 (sr [bI 24 .eql 8 2,
 mv 23 24] [24]
 (.cond (.s 23)
 (.reg [mv 25 0,
 nk 26 25,
 fa 27 12 26,
 lo 28 27,
 c1 29 119 28,
 mv 7 29] [25,26,27,28,29])
 (sr [bI 31 .eql 8 3,
 mv 30 31] [31]
 (.cond (.s 30)
 (.reg [mv 32 0,
 nk 33 32,
 fa 34 12 33,
 lo 35 34,
 c1 36 120 35,
 mv 7 36] [32,33,34,35,36])
 .skip))))))))))
 (sr [mv 37 2,
 bI 38 .geq 37 0,
 mv 39 38,
 mt 40 2 39,
 mt 41 7 39,
 ot 42 39 (.bin .lss (.s 40) (.s 41)),
 pF 43 39 42,
 mv 6 43] [37,38,39,40,41,42,43]
 .ret))))⟩
theorem adc:aq Tryz.prog 75=some ze:=by kernel_rfl
abbrev ae9:FuncId:=75
def V7:az :=
⟨31,4,[.tmp 5,.tmp 6],
 (sr [mI 5 0,
 mI 6 0] []
 (sr [lo 8 1,
 nk 9 8,
 fa 10 0 9,
 fa 11 11 10,
 lo 12 11,
 mv 13 0,
 ia 14 3 12 13,
 fa 15 0 14,
 lo 16 15,
 mv 7 16] [8,9,10,11,12,13,14,15,16]
 (.seq (sr [mv 17 7,
 lo 18 2,
 bS 19 .lss 17 18,
 mv 20 19,
 mf 21 7 20,
 oF 22 20 (.bin .neq (.s 21) (iC 0)),
 mf 23 22 20,
 ot 24 23 (ld 3),
 mt 25 7 23,
 ot 26 23 (.call 82 [(.s 24),(.s 25)]),
 ot 27 23 (.un .not (.s 26)),
 oF 28 20 (.pick (.s 23) (.s 27) (bC false)),
 pT 29 20 28] [17,18,19,20,21,22,23,24,25,26,27,28]
 (.cond (.s 29)
 (sr [mI 5 0,
 mI 6 7] []
 .ret)
 .skip))
 (sr [mv 30 7,
 sT 1 2 30] [30]
 (sr [mI 5 0,
 mI 6 0] []
 .ret)))))⟩
theorem cX7:aq Tryz.prog 81=some V7:=by kernel_rfl
abbrev nX7:FuncId:=81
def FX5:az :=
⟨9,2,[.tmp 4],
 (sr [mB 4 false] []
 (sr [mv 5 0,
 mv 6 1,
 c2 7 125 5 6,
 bI 8 .geq 7 0,
 mv 4 8] [5,6,7,8]
 .ret))⟩
theorem cX5:aq Tryz.prog 82=some FX5:=by kernel_rfl
abbrev nX5:FuncId:=82
def Gu:az :=
⟨2,1,[],
 .skip⟩
theorem W4:aq Tryz.prog 84=some Gu:=by kernel_rfl
abbrev KX:FuncId:=84
def FX9:az :=
⟨12,2,[.tmp 4],
 (sr [mI 4 0] []
 (sr [mv 5 0,
 c1 6 122 5,
 nk 7 6,
 fa 8 7 7,
 lo 9 8,
 mv 10 1,
 o0 11 (.mop (.mlk false .i (.int .i64 0)) [(.s 9),(.s 10)]),
 mv 4 11] [5,6,7,8,9,10,11]
 .ret))⟩
theorem cX9:aq Tryz.prog 116=some FX9:=by kernel_rfl
abbrev nX9:FuncId:=116
def RW:az :=
⟨9,1,[.tmp 2],
 (sr [mI 2 0] []
 (sr [mv 3 0,
 c1 4 122 3,
 nk 5 4,
 fa 6 1 5,
 lo 7 6,
 ln 8 7,
 mv 2 8] [3,4,5,6,7,8]
 .ret))⟩
theorem acN:aq Tryz.prog 117=some RW:=by kernel_rfl
abbrev aeQ:FuncId:=117
def R7:az :=
⟨9,1,[.tmp 2],
 (sr [mI 2 0] []
 (sr [mv 3 0,
 c1 4 122 3,
 nk 5 4,
 fa 6 3 5,
 lo 7 6,
 ln 8 7,
 mv 2 8] [3,4,5,6,7,8]
 .ret))⟩
theorem ac6:aq Tryz.prog 119=some R7:=by kernel_rfl
abbrev ae4:FuncId:=119
def wB:az :=
⟨20,2,[.tmp 4,.tmp 5],
 (sr [mI 4 0,
 mB 5 false] []
 (.seq (sr [mv 7 1,
 bI 8 .lss 7 0,
 mv 9 8,
 mf 10 1 9,
 mf 11 0 9,
 oF 12 9 (.len (.s 11)),
 oF 13 9 (.bin .geq (.s 10) (.s 12)),
 pT 14 9 13] [7,8,9,10,11,12,13]
 (.cond (.s 14)
 (sr [mI 6 0] []
 (sr [mv 15 6,
 mv 4 15,
 mB 5 false] [15]
 .ret))
 .skip))
 (sr [mv 16 0,
 mv 17 1,
 ia 18 1 16 17,
 lo 19 18,
 mv 4 19,
 mB 5 true] [16,17,18,19]
 .ret)))⟩
theorem Xe:aq Tryz.prog 121=some wB:=by kernel_rfl
abbrev Zy:FuncId:=121
def M5:az :=
⟨10,3,[],
 (sr [mv 5 1] []
 (.cond (.s 5)
 (.reg [lo 6 2,
 mv 7 0,
 o0 8 (.bsl 3 1 [[(.int .i64 0)]] [(0,(.s 7))]),
 o0 9 (.app 3 1 (.s 6) (.s 8)),
 sT 1 2 9] [6,7,8,9])
 .skip))⟩
theorem adg:aq Tryz.prog 124=some M5:=by kernel_rfl
abbrev aaA:FuncId:=124
def RQ:az :=
⟨19,2,[.tmp 4],
 (sr [mI 4 0] []
 (.seq (sr [mv 6 0,
 ln 7 6,
 mI 8 0] [6]
 (.block 0 (.loop (sr [bS 9 .lss 8 7] []
 (.seq (.cond (.s 9)
 .skip
 (.exit 0))
 (.seq (.block 1 (sr [mv 10 8,
 mv 5 10] [10]
 (sr [mv 11 1,
 mv 12 0,
 mv 13 5,
 ia 14 1 12 13,
 lo 15 14,
 bS 16 .eql 11 15] [11,12,13,14,15]
 (.cond (.s 16)
 (sr [mv 17 5,
 mv 4 17] [17]
 .ret)
 .skip))))
 (.reg [bI 18 .add 8 1,
 mv 8 18] [18])))))))
 (sr [mI 4 (-1)] []
 .ret)))⟩
theorem acA:aq Tryz.prog 125=some RQ:=by kernel_rfl
abbrev aeF:FuncId:=125
def GR:az :=
⟨15,1,[.tmp 2,.tmp 3],
 (sr [mI 2 0,
 mI 3 0] []
 (sr [mv 8 0,
 c1 9 170 8,
 mv 7 9,
 xt 10 7 0,
 xt 11 7 1,
 xt 12 7 2,
 o0 4 (.new 208 [.nl,.nl,.nl,.nl]),
 sT 4 4 10,
 mv 5 11,
 mv 6 12] [8,9,7,10,11,12,4]
 (sr [mv 13 5,
 mv 14 6,
 mv 2 13,
 mv 3 14] [13,14]
 .ret)))⟩
theorem XB:aq Tryz.prog 127=some GR:=by kernel_rfl
abbrev ZT:FuncId:=127
def j0:az :=
⟨86,4,[.tmp 8],
 (sr [o0 7 (.box 66 9 (.s 3)),
 mI 8 0] []
 (.seq (sr [mv 14 0,
 c1 15 131 14,
 o0 16 (.pbin .eql (.s 15) (.c .np))] [14,15]
 (.cond (.s 16)
 (sr [mI 8 2] []
 .ret)
 .skip))
 (.seq (sr [mv 17 1,
 lS 18 9 7,
 c2 19 174 17 18,
 mv 9 19] [17,18,19]
 (sr [mv 20 9,
 bI 21 .neq 20 0] [20]
 (.cond (.s 21)
 (sr [mv 22 9,
 mv 8 22] [22]
 .ret)
 .skip)))
 (.seq (sr [fa 23 0 7,
 lo 24 23] [23]
 (.block 0 (.seq (sr [bI 26 .eql 24 2,
 mv 25 26] [26]
 (.cond (.s 25)
 .skip
 (sr [bI 27 .eql 24 3,
 mv 25 27] [27]
 (.cond (.s 25)
 .skip
 (.reg [bI 28 .eql 24 4,
 mv 25 28] [28])))))
 (.cond (.s 25)
 (sr [mv 30 1,
 fa 31 4 7,
 lS 32 3 31,
 c2 33 175 30 32,
 mv 29 33,
 xt 34 29 0,
 xt 35 29 1,
 o0 10 (.new 59 [.nl,.nl]),
 sT 2 10 34,
 mv 11 35] [30,31,32,33,29,34,35]
 (.seq (sr [mv 36 11,
 uN 37 36] [36]
 (.cond (.s 37)
 (sr [mI 8 11] []
 .ret)
 .skip))
 (sr [mv 38 0,
 fa 39 0 7,
 lo 40 39,
 lS 41 2 10,
 c3 42 176 38 40 41,
 mv 8 42] [38,39,40,41,42]
 .ret)))
 (sr [bI 44 .eql 24 5,
 mv 43 44] [44]
 (.cond (.s 43)
 (sr [mv 45 0,
 c1 46 177 45,
 mv 8 46] [45,46]
 .ret)
 (sr [bI 48 .eql 24 11,
 mv 47 48] [48]
 (.cond (.s 47)
 (sr [mv 49 0,
 c1 50 178 49,
 mv 8 50] [49,50]
 .ret)
 (sr [bI 52 .eql 24 0,
 mv 51 52] [52]
 (.cond (.s 51)
 (sr [mv 53 0,
 c1 54 179 53] [53,54]
 (sr [mI 8 0] []
 .ret))
 (.seq (sr [bI 56 .eql 24 12,
 mv 55 56] [56]
 (.cond (.s 55)
 .skip
 (sr [bI 57 .eql 24 13,
 mv 55 57] [57]
 (.cond (.s 55)
 .skip
 (sr [bI 58 .eql 24 14,
 mv 55 58] [58]
 (.cond (.s 55)
 .skip
 (.reg [bI 59 .eql 24 15,
 mv 55 59] [59])))))))
 (.cond (.s 55)
 (sr [mv 60 0,
 lS 61 9 7,
 c2 62 180 60 61,
 mv 8 62] [60,61,62]
 .ret)
 (.seq (sr [bI 64 .eql 24 26,
 mv 63 64] [64]
 (.cond (.s 63)
 .skip
 (sr [bI 65 .eql 24 27,
 mv 63 65] [65]
 (.cond (.s 63)
 .skip
 (.reg [bI 66 .eql 24 209,
 mv 63 66] [66])))))
 (.cond (.s 63)
 (.seq (.seq (.draw [⟨mv 67 0,[]⟩,
 ⟨c1 68 131 67,[0]⟩,
 ⟨fa 69 0 7,[]⟩,
 ⟨lo 70 69,[2]⟩] [] [])
 (sr [c2 71 181 68 70] []
 (.reg [mv 8 71] [67,68,69,70,71])))
 .ret)
 .skip))))))))))))))
 (sr [mv 73 1,
 mv 74 2,
 lS 75 9 7,
 c3 76 182 73 74 75,
 mv 72 76,
 xt 77 72 0,
 xt 78 72 1,
 o0 12 (.new 59 [.nl,.nl]),
 sT 2 12 77,
 mv 13 78] [73,74,75,76,72,77,78]
 (.seq (sr [mv 79 13,
 bI 80 .neq 79 0] [79]
 (.cond (.s 80)
 (sr [mv 81 13,
 mv 8 81] [81]
 .ret)
 .skip))
 (.seq (.seq (.draw [⟨mv 82 0,[]⟩,
 ⟨c1 83 131 82,[0]⟩,
 ⟨lS 84 2 12,[]⟩] [] [])
 (sr [c2 85 183 83 84] []
 (.reg [mv 8 85] [82,83,84,85])))
 .ret)))))))⟩
theorem XD:aq Tryz.prog 130=some j0:=by kernel_rfl
abbrev ZW:FuncId:=130
def eO:az :=
⟨29,1,[.tmp 2,.tmp 3,.tmp 4],
 (sr [mB 2 false,
 mB 3 false,
 mB 4 false] []
 (.seq (sr [mv 5 0] []
 (.block 0 (.seq (sr [bI 7 .eql 5 2,
 mv 6 7] [7]
 (.cond (.s 6)
 .skip
 (sr [bI 8 .eql 5 3,
 mv 6 8] [8]
 (.cond (.s 6)
 .skip
 (sr [bI 9 .eql 5 4,
 mv 6 9] [9]
 (.cond (.s 6)
 .skip
 (sr [bI 10 .eql 5 7,
 mv 6 10] [10]
 (.cond (.s 6)
 .skip
 (sr [bI 11 .eql 5 8,
 mv 6 11] [11]
 (.cond (.s 6)
 .skip
 (sr [bI 12 .eql 5 9,
 mv 6 12] [12]
 (.cond (.s 6)
 .skip
 (sr [bI 13 .eql 5 12,
 mv 6 13] [13]
 (.cond (.s 6)
 .skip
 (sr [bI 14 .eql 5 16,
 mv 6 14] [14]
 (.cond (.s 6)
 .skip
 (.reg [bI 15 .eql 5 20,
 mv 6 15] [15])))))))))))))))))
 (.cond (.s 6)
 (sr [mB 2 true,
 mB 3 false,
 mB 4 false] []
 .ret)
 (.seq (sr [bI 17 .eql 5 5,
 mv 16 17] [17]
 (.cond (.s 16)
 .skip
 (sr [bI 18 .eql 5 10,
 mv 16 18] [18]
 (.cond (.s 16)
 .skip
 (sr [bI 19 .eql 5 11,
 mv 16 19] [19]
 (.cond (.s 16)
 .skip
 (sr [bI 20 .eql 5 14,
 mv 16 20] [20]
 (.cond (.s 16)
 .skip
 (.reg [bI 21 .eql 5 15,
 mv 16 21] [21])))))))))
 (.cond (.s 16)
 (sr [mB 2 true,
 mB 3 true,
 mB 4 false] []
 .ret)
 (sr [bI 23 .eql 5 13,
 mv 22 23] [23]
 (.cond (.s 22)
 (sr [mB 2 false,
 mB 3 true,
 mB 4 false] []
 .ret)
 (sr [bI 25 .eql 5 17,
 mv 24 25] [25]
 (.cond (.s 24)
 (sr [mB 2 true,
 mB 3 true,
 mB 4 true] []
 .ret)
 (.seq (sr [bI 27 .eql 5 18,
 mv 26 27] [27]
 (.cond (.s 26)
 .skip
 (.reg [bI 28 .eql 5 19,
 mv 26 28] [28])))
 (.cond (.s 26)
 (sr [mB 2 false,
 mB 3 false,
 mB 4 true] []
 .ret)
 .skip))))))))))))
 (sr [mB 2 false,
 mB 3 false,
 mB 4 false] []
 .ret)))⟩
theorem Xr:aq Tryz.prog 160=some eO:=by kernel_rfl
abbrev ZK:FuncId:=160
def xQ:az :=
⟨12,1,[.tmp 2],
 (sr [mI 2 0] []
 (.seq (sr [mv 3 0] []
 (.block 0 (.seq (sr [bI 5 .eql 3 106,
 mv 4 5] [5]
 (.cond (.s 4)
 .skip
 (sr [bI 6 .eql 3 107,
 mv 4 6] [6]
 (.cond (.s 4)
 .skip
 (.reg [bI 7 .eql 3 108,
 mv 4 7] [7])))))
 (.cond (.s 4)
 (sr [mI 2 1] []
 .ret)
 (.seq (sr [bI 9 .eql 3 124,
 mv 8 9] [9]
 (.cond (.s 8)
 .skip
 (sr [bI 10 .eql 3 125,
 mv 8 10] [10]
 (.cond (.s 8)
 .skip
 (.reg [bI 11 .eql 3 126,
 mv 8 11] [11])))))
 (.cond (.s 8)
 (sr [mI 2 2] []
 .ret)
 .skip))))))
 (sr [mI 2 0] []
 .ret)))⟩
theorem adC:aq Tryz.prog 166=some xQ:=by kernel_rfl
abbrev afr:FuncId:=166
def Hd:az :=
⟨20,2,[.cell 4 (some 4),.tmp 5],
 (sr [o0 4 (.new 52 [(.int .i64 0),(.int .i64 0),(.int .i64 0),(.bool false)]),
 mB 5 false] []
 (.seq (sr [mv 7 1,
 bI 8 .lss 7 0,
 mv 9 8,
 mf 10 1 9,
 mf 11 0 9,
 oF 12 9 (.len (.s 11)),
 oF 13 9 (.bin .geq (.s 10) (.s 12)),
 pT 14 9 13] [7,8,9,10,11,12,13]
 (.cond (.s 14)
 (sr [o0 6 (.new 52 [(.int .i64 0),(.int .i64 0),(.int .i64 0),(.bool false)])] []
 (sr [lS 15 4 6,
 sT 4 4 15,
 mB 5 false] [15]
 .ret))
 .skip))
 (sr [mv 16 0,
 mv 17 1,
 ia 18 4 16 17,
 lS 19 4 18,
 sT 4 4 19,
 mB 5 true] [16,17,18,19]
 .ret)))⟩
theorem acV:aq Tryz.prog 169=some Hd:=by kernel_rfl
abbrev aeU:FuncId:=169
def GZ:az :=
⟨135,1,[.cell 2 (some 4),.tmp 3,.tmp 4],
 (sr [o0 2 (.new 208 [.nl,.nl,.nl,.nl]),
 mI 3 0,
 mI 4 0] []
 (sr [mv 11 0,
 ln 12 11,
 mv 5 12] [11,12]
 (sr [mv 13 5,
 c1 14 208 13,
 mv 15 5,
 c1 16 208 15,
 mv 17 5,
 c1 18 208 17,
 mv 19 5,
 c1 20 208 19,
 o0 21 (.build [.nl,.nl,.nl,.nl] [(0,1,(.s 14)),(1,1,(.s 16)),(2,1,(.s 18)),(3,1,(.s 20))]),
 o0 6 (.new 208 [.nl,.nl,.nl,.nl]),
 sT 4 6 21] [13,14,15,16,17,18,19,20,21]
 (.seq (.reg [o0 22 (.build [(.int .i64 0),(.bool false)] [(0,1,(iC (-1)))]),
 o0 23 (.bsl 256 2 [[(.int .i64 0),(.bool false)]] [(0,(.s 22))]),
 mv 7 23] [22,23])
 (.seq .skip
 (.seq (sr [mv 24 0,
 ln 25 24,
 mI 26 0] []
 (.block 0 (.loop (sr [bS 27 .lss 26 25] []
 (.seq (.cond (.s 27)
 .skip
 (.exit 0))
 (.seq (.block 1 (sr [mv 28 26,
 ia 29 9 24 26,
 lS 30 9 29,
 o0 9 (.new 66 [(.int .i64 0),(.int .i64 0),(.int .i64 0),(.int .u64 0),(.int .i64 0),(.int .i64 0),(.int .i64 0),.nl,.nl]),
 mv 8 28,
 sT 9 9 30] [28,29,30]
 (.seq (sr [mv 31 7,
 ln 32 31,
 bI 33 .eql 32 0] [31,32]
 (.cond (.s 33)
 (sr [o0 34 (.build [.nl,.nl,.nl,.nl] []),
 mv 35 8,
 sT 4 2 34,
 mv 3 35,
 mI 4 16] [34,35]
 .ret)
 .skip))
 (sr [mv 36 7,
 mv 37 7,
 ln 38 37,
 bI 39 .sub 38 1,
 ia 40 2 36 39,
 mv 10 40] [36,37,38,39,40]
 (sr [fa 41 2 6,
 lo 42 41,
 mv 43 8,
 mv 44 7,
 ln 45 44,
 ia 46 1 42 43,
 sT 1 46 45] [41,42,43,44,45,46]
 (.seq (.seq (.draw [⟨fa 47 3 6,[]⟩,
 ⟨lo 48 47,[0]⟩,
 ⟨mv 49 8,[]⟩,
 ⟨mv 50 10,[]⟩,
 ⟨nk 51 50,[3]⟩,
 ⟨fa 52 0 51,[4,3]⟩,
 ⟨lo 53 52,[5,4,3]⟩] [] [])
 (sr [ia 54 1 48 49] []
 (.reg [sT 1 54 53] [47,48,49,50,51,52,53,54])))
 (sr [fa 55 0 9,
 lo 56 55] [55]
 (.block 2 (.seq (sr [bI 58 .eql 56 2,
 mv 57 58] [58]
 (.cond (.s 57)
 .skip
 (sr [bI 59 .eql 56 3,
 mv 57 59] [59]
 (.cond (.s 57)
 .skip
 (.reg [bI 60 .eql 56 4,
 mv 57 60] [60])))))
 (.cond (.s 57)
 (.seq (sr [mv 61 7,
 ln 62 61,
 bI 63 .eql 62 32] [61,62]
 (.cond (.s 63)
 (sr [o0 64 (.build [.nl,.nl,.nl,.nl] []),
 mv 65 8,
 sT 4 2 64,
 mv 3 65,
 mI 4 6] [64,65]
 .ret)
 .skip))
 (.reg [mv 66 7,
 mv 67 8,
 o0 68 (.build [(.int .i64 0),(.bool false)] [(0,1,(.s 67))]),
 o0 69 (.bsl 256 2 [[(.int .i64 0),(.bool false)]] [(0,(.s 68))]),
 o0 70 (.app 256 2 (.s 66) (.s 69)),
 mv 7 70] [66,67,68,69,70]))
 (sr [bI 72 .eql 56 5,
 mv 71 72] [72]
 (.cond (.s 71)
 (.seq (sr [mv 73 10,
 nk 74 73,
 fa 75 0 74,
 lo 76 75,
 bI 77 .lss 76 0,
 mv 78 77,
 mf 79 0 78,
 mf 80 10 78,
 oF 81 78 (.nchk (.s 80)),
 oF 82 78 (fd 0 81),
 oF 83 78 (ld 82),
 oF 84 78 (.iadr 9 (.s 79) (.s 83)),
 oF 85 78 (fd 0 84),
 oF 86 78 (ld 85),
 oF 87 78 (.bin .neq (.s 86) (iC 4)),
 pT 88 78 87,
 mv 89 88,
 mf 90 10 89,
 oF 91 89 (.nchk (.s 90)),
 oF 92 89 (fd 1 91),
 oF 93 89 (ld 92),
 pT 94 89 93] [73,74,75,76,77,78,79,80,81,82,83,84,85,86,87,88,89,90,91,92,93]
 (.cond (.s 94)
 (sr [o0 95 (.build [.nl,.nl,.nl,.nl] []),
 mv 96 8,
 sT 4 2 95,
 mv 3 96,
 mI 4 16] [95,96]
 .ret)
 .skip))
 (sr [mv 97 10,
 nk 98 97,
 fa 99 1 98,
 ⟨none,.store 1 (.s 99) (bC true),none⟩] [97,98,99]
 (.seq (.draw [⟨fa 100 1 6,[]⟩,
 ⟨lo 101 100,[0]⟩,
 ⟨mv 102 10,[]⟩,
 ⟨nk 103 102,[2]⟩,
 ⟨fa 104 0 103,[3,2]⟩,
 ⟨lo 105 104,[4,3,2]⟩,
 ⟨mv 106 8,[]⟩] [] [])
 (sr [ia 107 1 101 105] []
 (.reg [sT 1 107 106] [100,101,102,103,104,105,106,107])))))
 (sr [bI 109 .eql 56 11,
 mv 108 109] [109]
 (.cond (.s 108)
 (.seq (sr [mv 110 10,
 nk 111 110,
 fa 112 0 111,
 lo 113 112,
 bI 114 .geq 113 0] [110,111,112,113]
 (.cond (.s 114)
 (.seq (.draw [⟨fa 115 0 6,[]⟩,
 ⟨lo 116 115,[0]⟩,
 ⟨mv 117 10,[]⟩,
 ⟨nk 118 117,[2]⟩,
 ⟨fa 119 0 118,[3,2]⟩,
 ⟨lo 120 119,[4,3,2]⟩,
 ⟨mv 121 8,[]⟩] [] [])
 (sr [ia 122 1 116 120] []
 (.reg [sT 1 122 121] [115,116,117,118,119,120,121,122])))
 .skip))
 (.reg [mv 123 7,
 mv 124 7,
 ln 125 124,
 bI 126 .sub 125 1,
 o0 127 (.slc 2 (.s 123) none (some (.s 126)) none),
 mv 7 127] [123,124,125,126,127]))
 (.exit 1)))))))))))))))
 (.reg [bI 128 .add 26 1,
 mv 26 128] [128])))))))
 (.seq (sr [mv 129 7,
 ln 130 129,
 bI 131 .gtr 130 0] [129,130]
 (.cond (.s 131)
 (sr [o0 132 (.build [.nl,.nl,.nl,.nl] []),
 mv 133 5,
 sT 4 2 132,
 mv 3 133,
 mI 4 3] [132,133]
 .ret)
 .skip))
 (sr [lS 134 4 6,
 sT 4 2 134,
 mI 3 0,
 mI 4 0] [134]
 .ret))))))))⟩
theorem XS:aq Tryz.prog 170=some GZ:=by kernel_rfl
abbrev Z9:FuncId:=170
def lI:az :=
⟨92,3,[.cell 6 (some 2),.tmp 7],
 (sr [o0 5 (.box 66 9 (.s 2)),
 o0 6 (.new 59 [.nl,.nl]),
 mI 7 0] []
 (.seq (sr [fa 11 0 5,
 lo 12 11,
 c1 13 159 12] [11,12]
 (.block 0 (sr [bI 15 .eql 13 4,
 mv 14 15] [15]
 (.cond (.s 14)
 (sr [mv 16 0,
 lS 17 9 5,
 c2 18 223 16 17,
 xt 19 18 0,
 xt 20 18 1,
 sT 2 6 19,
 mv 7 20] [16,17,18,19,20]
 .ret)
 (sr [bI 22 .eql 13 5,
 mv 21 22] [22]
 (.cond (.s 21)
 (sr [mv 23 0,
 lS 24 9 5,
 c2 25 224 23 24,
 xt 26 25 0,
 xt 27 25 1,
 sT 2 6 26,
 mv 7 27] [23,24,25,26,27]
 .ret)
 (sr [bI 29 .eql 13 6,
 mv 28 29] [29]
 (.cond (.s 28)
 (.seq (.seq (.draw [⟨fa 30 7 5,[]⟩,
 ⟨lo 31 30,[0]⟩,
 ⟨o0 32 (.iadr 1 (.s 31) (iC 0)),[1,0]⟩,
 ⟨lo 33 32,[2,1,0]⟩,
 ⟨fa 34 7 5,[]⟩,
 ⟨lo 35 34,[4]⟩,
 ⟨o0 36 (.iadr 1 (.s 35) (iC 0)),[5,4]⟩,
 ⟨lo 37 36,[6,5,4]⟩,
 ⟨o0 38 (.bsl 48 1 [[(.int .i64 0)],[(.int .i64 0)],[(.int .i64 0)]] [(0,(.s 33)),(1,(.s 37)),(2,(iC 1))]),[3,2,1,0,7,6,5,4]⟩,
 ⟨fa 39 7 5,[]⟩,
 ⟨lo 40 39,[9]⟩,
 ⟨o0 41 (.iadr 1 (.s 40) (iC 0)),[10,9]⟩,
 ⟨lo 42 41,[11,10,9]⟩,
 ⟨o0 43 (.bsl 48 1 [[(.int .i64 0)]] [(0,(.s 42))]),[12,11,10,9]⟩] [(38,8),(43,13)] [])
 (sr [c2 44 225 38 43] []
 (.seq (.draw [⟨xt 45 44 0,[]⟩,
 ⟨xt 46 44 1,[]⟩] [] [])
 (sr [sT 2 6 45] []
 (.reg [mv 7 46] [30,31,32,33,34,35,36,37,38,39,40,41,42,43,44,45,46])))))
 .ret)
 (sr [bI 48 .eql 13 7,
 mv 47 48] [48]
 (.cond (.s 47)
 (sr [mv 49 1,
 lS 50 9 5,
 c2 51 226 49 50,
 xt 52 51 0,
 xt 53 51 1,
 sT 2 6 52,
 mv 7 53] [49,50,51,52,53]
 .ret)
 (sr [bI 55 .eql 13 8,
 mv 54 55] [55]
 (.cond (.s 54)
 (sr [mv 56 0,
 lS 57 9 5,
 c2 58 227 56 57,
 xt 59 58 0,
 xt 60 58 1,
 sT 2 6 59,
 mv 7 60] [56,57,58,59,60]
 .ret)
 (sr [bI 62 .eql 13 9,
 mv 61 62] [62]
 (.cond (.s 61)
 (sr [mv 63 0,
 lS 64 9 5,
 c2 65 228 63 64,
 xt 66 65 0,
 xt 67 65 1,
 sT 2 6 66,
 mv 7 67] [63,64,65,66,67]
 .ret)
 (sr [bI 69 .eql 13 20,
 mv 68 69] [69]
 (.cond (.s 68)
 (.seq (.reg [fa 70 1 5,
 lo 71 70,
 o0 72 (.bsl 48 1 [[(.int .i64 0)]] [(0,(.s 71))]),
 o0 73 (.call 225 [(.c .nl),(.s 72)]),
 xt 74 73 0,
 xt 75 73 1,
 sT 2 6 74,
 mv 7 75] [70,71,72,73,74,75])
 .ret)
 .skip))))))))))))))))
 (.seq (sr [mv 76 0,
 lS 77 9 5,
 c2 78 229 76 77,
 mv 8 78] [76,77,78]
 (sr [mv 79 8,
 bI 80 .neq 79 0] [79]
 (.cond (.s 80)
 (sr [mv 81 8,
 c1 82 230 81,
 xt 83 82 0,
 xt 84 82 1,
 sT 2 6 83,
 mv 7 84] [81,82,83,84]
 .ret)
 .skip)))
 (sr [fa 86 0 5,
 lo 87 86,
 c1 88 231 87,
 mv 85 88,
 xt 89 85 0,
 xt 90 85 1,
 o0 9 (.new 59 [.nl,.nl]),
 sT 2 9 89,
 mv 10 90] [86,87,88,85,89,90,10]
 (sr [lS 91 2 9,
 sT 2 6 91,
 mI 7 0] [91]
 .ret)))))⟩
theorem XH:aq Tryz.prog 182=some lI:=by kernel_rfl
abbrev Z0:FuncId:=182
def FX1:az :=
⟨19,2,[.tmp 4],
 (sr [mI 4 0] []
 (.seq (sr [mv 6 0,
 ln 7 6,
 mI 8 0] [6]
 (.block 0 (.loop (sr [bS 9 .lss 8 7] []
 (.seq (.cond (.s 9)
 .skip
 (.exit 0))
 (.seq (.block 1 (sr [mv 10 8,
 mv 5 10] [10]
 (sr [mv 11 1,
 mv 12 0,
 mv 13 5,
 ia 14 1 12 13,
 lo 15 14,
 o0 16 (.callv (.s 11) [(.s 15)])] [11,12,13,14,15]
 (.cond (.s 16)
 (sr [mv 17 5,
 mv 4 17] [17]
 .ret)
 .skip))))
 (.reg [bI 18 .add 8 1,
 mv 8 18] [18])))))))
 (sr [mI 4 (-1)] []
 .ret)))⟩
theorem cX1:aq Tryz.prog 201=some FX1:=by kernel_rfl
abbrev nX1:FuncId:=201
def GB:az :=
⟨31,1,[.tmp 2],
 (sr [mI 2 0] []
 (.seq (sr [mv 6 0,
 c1 7 258 6,
 uN 8 7] [6,7]
 (.cond (.s 8)
 (sr [mI 2 0] []
 .ret)
 .skip))
 (sr [mv 9 0,
 c1 10 205 9,
 mv 3 10] [9,10]
 (.seq (.seq (.reg [o0 11 (.bsl 3 1 [[(.int .i64 0)],[(.int .i64 0)],[(.int .i64 0)]] [(0,(iC 8)),(1,(iC 16)),(2,(iC 32))]),
 ln 12 11,
 mI 13 0] [])
 (.block 0 (.loop (sr [bS 14 .lss 13 12] []
 (.seq (.cond (.s 14)
 .skip
 (.exit 0))
 (.seq (.block 1 (sr [ia 15 1 11 13,
 lo 16 15,
 mv 5 16] [15,16]
 (.seq (.seq (.draw [⟨mv 17 3,[]⟩,
 ⟨o0 18 (.sslc (.s 17) (some (iC 4)) none),[0]⟩,
 ⟨o0 19 (.bsl 9 1 [[(.str [])],[(.str [])],[(.str [])]] [(0,(.c (.str [56]))),(1,(.c (.str [49,54]))),(2,(.c (.str [51,50])))]),[]⟩,
 ⟨mv 20 5,[]⟩,
 ⟨bI 21 .quo 20 16,[3]⟩,
 ⟨ia 22 1 19 21,[2,4,3]⟩,
 ⟨lo 23 22,[5,2,4,3]⟩] [(19,2)] [])
 (.reg [c2 24 259 18 23] [17,18,19,20,21,22,23]))
 (.cond (.s 24)
 (sr [mv 25 5,
 bI 26 .quo 25 8,
 mv 2 26] [25,26]
 .ret)
 .skip))))
 (.reg [bI 27 .add 13 1,
 mv 13 27] [27])))))))
 (.seq (sr [mv 28 3,
 o0 29 (.sslc (.s 28) none (some (iC 3))),
 o0 30 (.bin .eql (.s 29) (.c (.str [105,51,50])))] [28,29]
 (.cond (.s 30)
 (sr [mI 2 4] []
 .ret)
 .skip))
 (sr [mI 2 8] []
 .ret))))))⟩
theorem W_:aq Tryz.prog 203=some GB:=by kernel_rfl
abbrev Zu:FuncId:=203
def gA:az :=
⟨26,1,[.tmp 2],
 (sr [mI 2 0] []
 (.seq (sr [mv 3 0] []
 (.block 0 (.seq (sr [bI 5 .eql 3 37,
 mv 4 5] [5]
 (.cond (.s 4)
 .skip
 (sr [bI 6 .eql 3 38,
 mv 4 6] [6]
 (.cond (.s 4)
 .skip
 (sr [bI 7 .eql 3 64528,
 mv 4 7] [7]
 (.cond (.s 4)
 .skip
 (sr [bI 8 .eql 3 64527,
 mv 4 8] [8]
 (.cond (.s 4)
 .skip
 (.reg [bI 9 .eql 3 64529,
 mv 4 9] [9])))))))))
 (.cond (.s 4)
 (sr [mI 2 9] []
 .ret)
 (sr [bI 11 .eql 3 64526,
 mv 10 11] [11]
 (.cond (.s 10)
 (sr [mI 2 10] []
 .ret)
 (sr [bI 13 .eql 3 64524,
 mv 12 13] [13]
 (.cond (.s 12)
 (sr [mI 2 11] []
 .ret)
 (sr [bI 15 .eql 3 64525,
 mv 14 15] [15]
 (.cond (.s 14)
 (sr [mI 2 12] []
 .ret)
 (.seq (sr [bI 17 .eql 3 63,
 mv 16 17] [17]
 (.cond (.s 16)
 .skip
 (sr [bI 18 .eql 3 64,
 mv 16 18] [18]
 (.cond (.s 16)
 .skip
 (.reg [bI 19 .eql 3 64523,
 mv 16 19] [19])))))
 (.cond (.s 16)
 (sr [mI 2 13] []
 .ret)
 (sr [bI 21 .eql 3 64522,
 mv 20 21] [21]
 (.cond (.s 20)
 (sr [mI 2 14] []
 .ret)
 (sr [bI 23 .eql 3 64520,
 mv 22 23] [23]
 (.cond (.s 22)
 (sr [mI 2 15] []
 .ret)
 (sr [bI 25 .eql 3 64521,
 mv 24 25] [25]
 (.cond (.s 24)
 (sr [mI 2 16] []
 .ret)
 .skip))))))))))))))))))
 (sr [mI 2 0] []
 .ret)))⟩
theorem WW:aq Tryz.prog 204=some gA:=by kernel_rfl
abbrev Zn:FuncId:=204
def R4:az :=
⟨10,1,[.tmp 2],
 (sr [mI 2 0] []
 (.seq (sr [mv 3 0,
 c1 4 184 3,
 uN 5 4] [3,4]
 (.cond (.s 5)
 (sr [mI 2 2] []
 .ret)
 .skip))
 (sr [mv 6 0,
 nk 7 6,
 fa 8 4 7,
 lo 9 8,
 mv 2 9] [6,7,8,9]
 .ret)))⟩
theorem ac3:aq Tryz.prog 209=some R4:=by kernel_rfl
abbrev aaw:FuncId:=209
def M3:az :=
⟨28,2,[.tmp 4],
 (sr [mI 4 0] []
 (.seq (sr [mv 7 0,
 c1 8 185 7,
 uN 9 8] [7,8]
 (.cond (.s 9)
 (sr [mI 4 2] []
 .ret)
 .skip))
 (sr [mv 11 0,
 mv 12 1,
 c2 13 262 11 12,
 mv 10 13,
 xt 14 10 0,
 xt 15 10 1,
 mv 5 14,
 mv 6 15] [11,12,13,10,14,15]
 (.seq (sr [mv 16 6,
 bI 17 .eql 16 0] [16]
 (.cond (.s 17)
 (.reg [mv 18 0,
 mv 19 0,
 nk 20 19,
 fa 21 0 20,
 lo 22 21,
 mv 23 5,
 o0 24 (.slc 1 (.s 22) none (some (.s 23)) none),
 nk 25 18,
 fa 26 0 25,
 sT 1 26 24] [18,19,20,21,22,23,24,25,26])
 .skip))
 (sr [mv 27 6,
 mv 4 27] [27]
 .ret)))))⟩
theorem ada:aq Tryz.prog 210=some M3:=by kernel_rfl
abbrev ae8:FuncId:=210
def Sv:az :=
⟨8,2,[.tmp 4],
 (sr [mB 4 false] []
 (sr [mv 5 0,
 mv 6 1,
 c2 7 264 5 6,
 mv 4 7] [5,6,7]
 .ret))⟩
theorem adB:aq Tryz.prog 215=some Sv:=by kernel_rfl
abbrev afq:FuncId:=215
def R_:az :=
⟨31,2,[],
 (.seq (sr [mv 4 0,
 c1 5 185 4,
 uN 6 5] [4,5]
 (cR 6))
 (sr [mv 7 0,
 mv 8 0,
 nk 9 8,
 fa 10 0 9,
 lo 11 10,
 mv 12 1,
 o0 13 (.app 48 1 (.s 11) (.s 12)),
 nk 14 7,
 fa 15 0 14,
 sT 1 15 13] [7,8,9,10,11,12,13,14,15]
 (.reg [mv 16 0,
 mv 17 0,
 nk 18 17,
 fa 19 2 18,
 lo 20 19,
 mv 21 20,
 mf 22 0 21,
 oF 23 21 (.nchk (.s 22)),
 oF 24 21 (fd 0 23),
 oF 25 21 (ld 24),
 oF 26 21 (.len (.s 25)),
 oF 27 21 (.bin .gtr (.s 26) (iC 256)),
 pT 28 21 27,
 nk 29 16,
 fa 30 2 29,
 sT 1 30 28] [16,17,18,19,20,21,22,23,24,25,26,27,28,29,30])))⟩
theorem ac9:aq Tryz.prog 216=some R_:=by kernel_rfl
abbrev ae6:FuncId:=216
def D2:az :=
⟨49,2,[.tmp 4,.tmp 5],
 (sr [o0 4 (.mov (.c .nl)),
 mI 5 0] []
 (.seq (sr [mv 8 0,
 c1 9 209 8,
 mv 6 9] [8,9]
 (sr [mv 10 6,
 bI 11 .neq 10 0] [10]
 (.cond (.s 11)
 (sr [mv 12 6,
 o0 4 (.mov (.c .nl)),
 mv 5 12] [12]
 .ret)
 .skip)))
 (.seq (sr [mv 13 1,
 bI 14 .lss 13 0,
 mv 15 14,
 mf 16 1 15,
 mf 17 0 15,
 oF 18 15 (.nchk (.s 17)),
 oF 19 15 (fd 1 18),
 oF 20 15 (ld 19),
 oF 21 15 (.len (.s 20)),
 oF 22 15 (.bin .geq (.s 16) (.s 21)),
 pT 23 15 22] [13,14,15,16,17,18,19,20,21,22]
 (.cond (.s 23)
 (sr [o0 4 (.mov (.c .nl)),
 mI 5 15] []
 .ret)
 .skip))
 (.seq (.seq (.draw [⟨mv 24 0,[]⟩,
 ⟨nk 25 24,[0]⟩,
 ⟨fa 26 1 25,[1,0]⟩,
 ⟨lo 27 26,[2,1,0]⟩,
 ⟨mv 28 0,[]⟩,
 ⟨nk 29 28,[4]⟩,
 ⟨fa 30 1 29,[5,4]⟩,
 ⟨lo 31 30,[6,5,4]⟩,
 ⟨ln 32 31,[7,6,5,4]⟩,
 ⟨bI 33 .sub 32 1,[8,7,6,5,4]⟩,
 ⟨mv 34 1,[]⟩,
 ⟨bS 35 .sub 33 34,[9,8,7,6,5,4,10]⟩,
 ⟨ia 36 5 27 35,[3,2,1,0,11,9,8,7,6,5,4,10]⟩,
 ⟨lS 37 5 36,[12,3,2,1,0,11,9,8,7,6,5,4,10]⟩,
 ⟨o0 7 (.new 216 [(.int .i64 0),.nl,.nl,(.bool false),(.bool false)]),[]⟩] [(7,14)] [])
 (.reg [sT 5 7 37] [24,25,26,27,28,29,30,31,32,33,34,35,36,37]))
 (.seq (sr [fa 38 0 7,
 lo 39 38,
 bI 40 .eql 39 3] [38,39]
 (.cond (.s 40)
 (sr [fa 41 1 7,
 fa 42 0 41,
 lo 43 42,
 c1 44 172 43,
 mv 4 44,
 mI 5 0] [41,42,43,44]
 .ret)
 .skip))
 (sr [fa 45 1 7,
 fa 46 1 45,
 lo 47 46,
 c1 48 172 47,
 mv 4 48,
 mI 5 0] [45,46,47,48]
 .ret))))))⟩
theorem acY:aq Tryz.prog 219=some D2:=by kernel_rfl
abbrev aeX:FuncId:=219
def Gs:az :=
⟨50,2,[.cell 4 (some 2),.tmp 5],
 (sr [o0 3 (.box 66 9 (.s 1)),
 o0 4 (.new 59 [.nl,.nl]),
 mI 5 0] []
 (sr [mv 11 0,
 fa 12 1 3,
 lo 13 12,
 c2 14 114 11 13,
 mv 10 14,
 xt 15 10 0,
 xt 16 10 1,
 o0 6 (.new 59 [.nl,.nl]),
 sT 2 6 15,
 mv 7 16] [11,12,13,14,10,15,16]
 (sr [mv 18 0,
 fa 19 2 3,
 lo 20 19,
 c2 21 123 18 20,
 mv 17 21,
 xt 22 17 0,
 xt 23 17 1,
 o0 8 (.new 52 [(.int .i64 0),(.int .i64 0),(.int .i64 0),(.bool false)]),
 sT 4 8 22,
 mv 9 23] [18,19,20,21,17,22,23]
 (.seq (.block 0 (sr [mv 25 7,
 uN 26 25,
 mv 27 26,
 mf 28 9 27,
 oF 29 27 (.un .not (.s 28)),
 pT 30 27 29,
 mv 24 30] [25,26,27,28,29,30]
 (.cond (.s 24)
 (sr [o0 31 (.call 230 [(iC 11)]),
 xt 32 31 0,
 xt 33 31 1,
 sT 2 4 32,
 mv 5 33] [31,32,33]
 .ret)
 (sr [fa 35 0 8,
 lo 36 35,
 bI 37 .neq 36 3,
 mv 34 37] [35,36,37]
 (.cond (.s 34)
 (sr [o0 38 (.call 230 [(iC 12)]),
 xt 39 38 0,
 xt 40 38 1,
 sT 2 4 39,
 mv 5 40] [38,39,40]
 .ret)
 .skip)))))
 (.seq (.seq (.draw [⟨fa 41 0 6,[]⟩,
 ⟨lo 42 41,[0]⟩,
 ⟨o0 43 (.bsl 48 1 [[(.int .i64 0)]] [(0,(iC 1))]),[]⟩,
 ⟨o0 44 (.app 48 1 (.s 42) (.s 43)),[1,0,2]⟩,
 ⟨fa 45 1 6,[]⟩,
 ⟨lo 46 45,[4]⟩] [(43,2),(44,3)] [])
 (sr [c2 47 225 44 46] []
 (.seq (.draw [⟨xt 48 47 0,[]⟩,
 ⟨xt 49 47 1,[]⟩] [] [])
 (sr [sT 2 4 48] []
 (.reg [mv 5 49] [41,42,43,44,45,46,47,48,49])))))
 .ret)))))⟩
theorem WY:aq Tryz.prog 224=some Gs:=by kernel_rfl
abbrev Zp:FuncId:=224
def Cz:az :=
⟨60,2,[.cell 4 (some 2),.tmp 5],
 (sr [o0 3 (.box 66 9 (.s 1)),
 o0 4 (.new 59 [.nl,.nl]),
 mI 5 0] []
 (sr [mv 9 0,
 fa 10 1 3,
 lo 11 10,
 c2 12 123 9 11,
 mv 8 12,
 xt 13 8 0,
 xt 14 8 1,
 o0 6 (.new 52 [(.int .i64 0),(.int .i64 0),(.int .i64 0),(.bool false)]),
 sT 4 6 13,
 mv 7 14] [9,10,11,12,8,13,14]
 (.seq (sr [mv 15 7,
 uN 16 15] [15]
 (.cond (.s 16)
 (sr [o0 17 (.call 230 [(iC 11)]),
 xt 18 17 0,
 xt 19 17 1,
 sT 2 4 18,
 mv 5 19] [17,18,19]
 .ret)
 .skip))
 (.seq (sr [fa 20 0 3,
 lo 21 20] [20]
 (.block 0 (sr [bI 23 .eql 21 37,
 mv 22 23] [23]
 (.cond (.s 22)
 (.seq (.reg [o0 24 (.bsl 48 1 [[(.int .i64 0)]] [(0,(iC 1))]),
 fa 25 0 6,
 lo 26 25,
 o0 27 (.bsl 48 1 [[(.int .i64 0)]] [(0,(.s 26))]),
 c2 28 225 24 27,
 xt 29 28 0,
 xt 30 28 1,
 sT 2 4 29,
 mv 5 30] [24,25,26,27,28,29,30])
 .ret)
 (sr [bI 32 .eql 21 38,
 mv 31 32] [32]
 (.cond (.s 31)
 (.seq (.reg [fa 33 0 6,
 lo 34 33,
 o0 35 (.bsl 48 1 [[(.int .i64 0)],[(.int .i64 0)]] [(0,(iC 1)),(1,(.s 34))]),
 o0 36 (.call 225 [(.s 35),(.c .nl)]),
 xt 37 36 0,
 xt 38 36 1,
 sT 2 4 37,
 mv 5 38] [33,34,35,36,37,38])
 .ret)
 (sr [bI 40 .eql 21 64527,
 mv 39 40] [40]
 (.cond (.s 39)
 (.seq (.reg [fa 41 0 6,
 lo 42 41,
 o0 43 (.bsl 48 1 [[(.int .i64 0)],[(.int .i64 0)]] [(0,(.s 42)),(1,(iC 1))]),
 o0 44 (.bsl 48 1 [[(.int .i64 0)]] [(0,(iC 1))]),
 c2 45 225 43 44,
 xt 46 45 0,
 xt 47 45 1,
 sT 2 4 46,
 mv 5 47] [41,42,43,44,45,46,47])
 .ret)
 (sr [bI 49 .eql 21 64529,
 mv 48 49] [49]
 (.cond (.s 48)
 (.seq (.reg [fa 50 0 6,
 lo 51 50,
 o0 52 (.bsl 48 1 [[(.int .i64 0)],[(.int .i64 0)],[(.int .i64 0)]] [(0,(iC 1)),(1,(.s 51)),(2,(iC 1))]),
 o0 53 (.call 225 [(.s 52),(.c .nl)]),
 xt 54 53 0,
 xt 55 53 1,
 sT 2 4 54,
 mv 5 55] [50,51,52,53,54,55])
 .ret)
 .skip))))))))))
 (.seq (.reg [o0 56 (.bsl 48 1 [[(.int .i64 0)]] [(0,(iC 1))]),
 o0 57 (.call 225 [(.c .nl),(.s 56)]),
 xt 58 57 0,
 xt 59 57 1,
 sT 2 4 58,
 mv 5 59] [56,57,58,59])
 .ret)))))⟩
theorem Xu:aq Tryz.prog 228=some Cz:=by kernel_rfl
abbrev ZN:FuncId:=228
def Hl:az :=
⟨13,1,[.tmp 2],
 (sr [mB 2 false] []
 (sr [mv 3 0,
 bI 4 .geq 3 40,
 mv 5 4,
 mt 6 0 5,
 ot 7 5 (.bin .leq (.s 6) (iC 62)),
 pF 8 5 7,
 mv 9 8,
 mt 10 0 9,
 ot 11 9 (.call 161 [(.s 10)]),
 pF 12 9 11,
 mv 2 12] [3,4,5,6,7,8,9,10,11,12]
 .ret))⟩
theorem adN:aq Tryz.prog 258=some Hl:=by kernel_rfl
abbrev aft:FuncId:=258
abbrev mL:FuncId:=259
def Hb:az :=
⟨20,2,[.cell 4 (some 2),.tmp 5],
 (sr [o0 4 (.new 54 [(.int .i64 0),(.bool false)]),
 mB 5 false] []
 (.seq (sr [mv 7 1,
 bI 8 .lss 7 0,
 mv 9 8,
 mf 10 1 9,
 mf 11 0 9,
 oF 12 9 (.len (.s 11)),
 oF 13 9 (.bin .geq (.s 10) (.s 12)),
 pT 14 9 13] [7,8,9,10,11,12,13]
 (.cond (.s 14)
 (sr [o0 6 (.new 54 [(.int .i64 0),(.bool false)])] []
 (sr [lS 15 2 6,
 sT 2 4 15,
 mB 5 false] [15]
 .ret))
 .skip))
 (sr [mv 16 0,
 mv 17 1,
 ia 18 2 16 17,
 lS 19 2 18,
 sT 2 4 19,
 mB 5 true] [16,17,18,19]
 .ret)))⟩
theorem acI:aq Tryz.prog 261=some Hb:=by kernel_rfl
abbrev aeL:FuncId:=261
def zc:az :=
⟨14,3,[.tmp 6],
 (sr [mI 6 0] []
 (.seq (.block 0 (sr [mv 8 0,
 uN 9 8,
 mv 7 9] [8,9]
 (.cond (.s 7)
 (sr [mI 6 11] []
 .ret)
 (sr [mv 11 1,
 mv 12 2,
 bS 13 .neq 11 12,
 mv 10 13] [11,12,13]
 (.cond (.s 10)
 (sr [mI 6 12] []
 .ret)
 .skip)))))
 (sr [mI 6 0] []
 .ret)))⟩
theorem XE:aq Tryz.prog 265=some zc:=by kernel_rfl
abbrev ZX:FuncId:=265
def R5:az :=
⟨15,2,[.tmp 4,.tmp 5],
 (sr [mI 4 0,
 mB 5 false] []
 (sr [mv 6 0,
 c1 7 122 6,
 nk 8 7,
 fa 9 5 8,
 lo 10 9,
 mv 11 1,
 c2 12 293 10 11,
 xt 13 12 0,
 xt 14 12 1,
 mv 4 13,
 mv 5 14] [6,7,8,9,10,11,12,13,14]
 .ret))⟩
theorem ac4:aq Tryz.prog 266=some R5:=by kernel_rfl
abbrev ae2:FuncId:=266
def Sf:az :=
⟨15,2,[.cell 4 (some 3),.tmp 5],
 (sr [o0 4 (.new 50 [(.int .i64 0),(.int .i64 0),(.bool false)]),
 mB 5 false] []
 (sr [mv 6 0,
 c1 7 122 6,
 nk 8 7,
 fa 9 3 8,
 lo 10 9,
 mv 11 1,
 c2 12 294 10 11,
 xt 13 12 0,
 xt 14 12 1,
 sT 3 4 13,
 mv 5 14] [6,7,8,9,10,11,12,13,14]
 .ret))⟩
theorem adn:aq Tryz.prog 268=some Sf:=by kernel_rfl
abbrev afg:FuncId:=268
def G1:az :=
⟨8,2,[.cell 4 (some 2)],
 (sr [o0 4 (.new 59 [.nl,.nl])] []
 (sr [mv 5 0,
 mv 6 1,
 o0 7 (.build [.nl,.nl] [(0,1,(.s 5)),(1,1,(.s 6))]),
 sT 2 4 7] [5,6,7]
 .ret))⟩
theorem XV:aq Tryz.prog 270=some G1:=by kernel_rfl
abbrev aab:FuncId:=270
def SG:az :=
⟨65,3,[.cell 6 (some 2)],
 (sr [o0 6 (.new 59 [.nl,.nl])] []
 (.seq (.block 0 (.seq (.reg [mv 8 2,
 o0 9 (.call 271 [(.s 8),(.c (.str [108,111,97,100]))]),
 mv 7 9] [8,9])
 (.cond (.s 7)
 (.seq (.reg [o0 10 (.bsl 48 1 [[(.int .i64 0)]] [(0,(iC 1))]),
 mv 11 1,
 o0 12 (.bsl 48 1 [[(.int .i64 0)]] [(0,(.s 11))]),
 c2 13 270 10 12,
 sT 2 6 13] [10,11,12,13])
 .ret)
 (.seq (.reg [mv 15 2,
 o0 16 (.call 271 [(.s 15),(.c (.str [115,116,111,114,101]))]),
 mv 14 16] [15,16])
 (.cond (.s 14)
 (.seq (.reg [mv 17 1,
 o0 18 (.bsl 48 1 [[(.int .i64 0)],[(.int .i64 0)]] [(0,(iC 1)),(1,(.s 17))]),
 o0 19 (.call 270 [(.s 18),(.c .nl)]),
 sT 2 6 19] [17,18,19])
 .ret)
 (sr [mv 21 2,
 o0 22 (.bin .eql (.s 21) (.c (.str [101,113,122]))),
 mv 20 22] [21,22]
 (.cond (.s 20)
 (.seq (.reg [mv 23 1,
 o0 24 (.bsl 48 1 [[(.int .i64 0)]] [(0,(.s 23))]),
 o0 25 (.bsl 48 1 [[(.int .i64 0)]] [(0,(iC 1))]),
 c2 26 270 24 25,
 sT 2 6 26] [23,24,25,26])
 .ret)
 (sr [mv 28 0,
 bI 29 .geq 28 70,
 mv 30 29,
 mt 31 0 30,
 ot 32 30 (.bin .leq (.s 31) (iC 90)),
 pF 33 30 32,
 mv 27 33] [28,29,30,31,32,33]
 (.cond (.s 27)
 (.seq (.reg [mv 34 1,
 mv 35 1,
 o0 36 (.bsl 48 1 [[(.int .i64 0)],[(.int .i64 0)]] [(0,(.s 34)),(1,(.s 35))]),
 o0 37 (.bsl 48 1 [[(.int .i64 0)]] [(0,(iC 1))]),
 c2 38 270 36 37,
 sT 2 6 38] [34,35,36,37,38])
 .ret)
 (.seq (.reg [mv 40 2,
 o0 41 (.bin .eql (.s 40) (.c (.str [99,108,122]))),
 mv 42 41,
 mf 43 2 42,
 oF 44 42 (.bin .eql (.s 43) (.c (.str [99,116,122]))),
 pT 45 42 44,
 mv 46 45,
 mf 47 2 46,
 oF 48 46 (.bin .eql (.s 47) (.c (.str [112,111,112,99,110,116]))),
 pT 49 46 48,
 mv 50 49,
 mf 51 2 50,
 oF 52 50 (.call 271 [(.s 51),(.c (.str [101,120,116,101,110,100]))]),
 pT 53 50 52,
 mv 39 53] [40,41,42,43,44,45,46,47,48,49,50,51,52,53])
 (.cond (.s 39)
 (.seq (.reg [mv 54 1,
 o0 55 (.bsl 48 1 [[(.int .i64 0)]] [(0,(.s 54))]),
 mv 56 1,
 o0 57 (.bsl 48 1 [[(.int .i64 0)]] [(0,(.s 56))]),
 c2 58 270 55 57,
 sT 2 6 58] [54,55,56,57,58])
 .ret)
 .skip)))))))))))
 (.seq (.reg [mv 59 1,
 mv 60 1,
 o0 61 (.bsl 48 1 [[(.int .i64 0)],[(.int .i64 0)]] [(0,(.s 59)),(1,(.s 60))]),
 mv 62 1,
 o0 63 (.bsl 48 1 [[(.int .i64 0)]] [(0,(.s 62))]),
 c2 64 270 61 63,
 sT 2 6 64] [59,60,61,62,63,64])
 .ret)))⟩
theorem adP:aq Tryz.prog 272=some SG:=by kernel_rfl
abbrev afv:FuncId:=272
def Sl:az :=
⟨42,1,[.tmp 2],
 (sr [o0 1 (.box 33 12 (.s 0)),
 mB 2 false] []
 (.seq (sr [lS 5 12 1,
 c1 6 9 5,
 uN 7 6,
 mv 8 7,
 oF 9 8 (.load (some 12) (.s 1)),
 oF 10 8 (.call 13 [(.s 9)]),
 oF 11 8 (.un .not (.s 10)),
 pT 12 8 11] [5,6,7,8,9,10,11]
 (.cond (.s 12)
 (sr [c0 13 10,
 mv 2 13] [13]
 .ret)
 .skip))
 (sr [lS 14 12 1,
 o0 3 (.new 33 [.nl,.nl,.nl,.nl,.nl,.nl,.nl,(.bool false),(.int .i64 0),.nl,.nl,.nl]),
 sT 12 3 14] [14]
 (sr [o0 15 (.bsl 56 13 [] []),
 fa 16 1 1,
 lo 17 16,
 o0 18 (.app 56 13 (.s 15) (.s 17)),
 fa 19 1 3,
 sT 1 19 18] [15,16,17,18,19]
 (.seq (sr [fa 20 1 3,
 lo 21 20,
 ln 22 21,
 mI 23 0] [20,21]
 (.block 0 (.loop (sr [bS 24 .lss 23 22] []
 (.seq (.cond (.s 24)
 .skip
 (.exit 0))
 (.seq (.block 1 (sr [mv 25 23,
 mv 4 25] [25]
 (sr [fa 26 1 3,
 lo 27 26,
 mv 28 4,
 ia 29 13 27 28,
 fa 30 0 29,
 ⟨none,.store 1 (.s 30) (.c (.str [109])),none⟩] [26,27,28,29,30]
 (.reg [fa 31 1 3,
 lo 32 31,
 mv 33 4,
 ia 34 13 32 33,
 fa 35 1 34,
 ⟨none,.store 1 (.s 35) (.c (.str [])),none⟩] [31,32,33,34,35]))))
 (.reg [bI 36 .add 23 1,
 mv 23 36] [36])))))))
 (sr [lS 37 12 3,
 c1 38 13 37,
 mv 39 38,
 ot 40 39 (.call 10 []),
 pF 41 39 40,
 mv 2 41] [37,38,39,40,41]
 .ret))))))⟩
theorem ads:aq Tryz.prog 5=some Sl:=by kernel_rfl
abbrev afj:FuncId:=5
def GG:az :=
⟨40,1,[.tmp 2],
 (sr [o0 1 (.box 33 12 (.s 0)),
 mB 2 false] []
 (sr [lS 3 12 1,
 c1 4 14 3,
 bI 5 .leq 4 600,
 mv 6 5,
 ot 7 6 (fd 0 1),
 ot 8 6 (ld 7),
 ot 9 6 (.len (.s 8)),
 ot 10 6 (fd 1 1),
 ot 11 6 (ld 10),
 ot 12 6 (.len (.s 11)),
 ot 13 6 (.bin .add (.s 9) (.s 12)),
 ot 14 6 (fd 2 1),
 ot 15 6 (ld 14),
 ot 16 6 (.len (.s 15)),
 ot 17 6 (.bin .add (.s 13) (.s 16)),
 ot 18 6 (fd 6 1),
 ot 19 6 (ld 18),
 ot 20 6 (.len (.s 19)),
 ot 21 6 (.bin .add (.s 17) (.s 20)),
 ot 22 6 (fd 9 1),
 ot 23 6 (ld 22),
 ot 24 6 (.len (.s 23)),
 ot 25 6 (.bin .add (.s 21) (.s 24)),
 ot 26 6 (fd 10 1),
 ot 27 6 (ld 26),
 ot 28 6 (.len (.s 27)),
 ot 29 6 (.bin .add (.s 25) (.s 28)),
 ot 30 6 (fd 11 1),
 ot 31 6 (ld 30),
 ot 32 6 (.len (.s 31)),
 ot 33 6 (.bin .add (.s 29) (.s 32)),
 ot 34 6 (fd 5 1),
 ot 35 6 (ld 34),
 ot 36 6 (.len (.s 35)),
 ot 37 6 (.bin .add (.s 33) (.s 36)),
 ot 38 6 (.bin .leq (.s 37) (iC 300)),
 pF 39 6 38,
 mv 2 39] [3,4,5,6,7,8,9,10,11,12,13,14,15,16,17,18,19,20,21,22,23,24,25,26,27,28,29,30,31,32,33,34,35,36,37,38,39]
 .ret))⟩
theorem Xj:aq Tryz.prog 9=some GG:=by kernel_rfl
abbrev ZD:FuncId:=9
def Sc:az :=
⟨20,1,[],
 (sr [o0 1 (.box 73 1 (.s 0))] []
 (.seq (.seq (.draw [⟨lo 2 1,[]⟩,
 ⟨lo 3 1,[]⟩,
 ⟨nk 4 3,[1]⟩,
 ⟨fa 5 0 4,[2,1]⟩,
 ⟨fa 6 1 5,[3,2,1]⟩,
 ⟨lo 7 6,[4,3,2,1]⟩,
 ⟨ln 8 7,[5,4,3,2,1]⟩,
 ⟨o0 9 (.mkf 69 [(.s 1)]),[]⟩] [] [])
 (.reg [o0 10 (.call 20 [(.s 2),(iC 2),(.s 8),(.s 9)])] [2,3,4,5,6,7,8,9,10]))
 (.seq (.draw [⟨lo 11 1,[]⟩,
 ⟨lo 12 1,[]⟩,
 ⟨nk 13 12,[1]⟩,
 ⟨fa 14 0 13,[2,1]⟩,
 ⟨fa 15 2 14,[3,2,1]⟩,
 ⟨lo 16 15,[4,3,2,1]⟩,
 ⟨ln 17 16,[5,4,3,2,1]⟩,
 ⟨o0 18 (.mkf 71 [(.s 1)]),[]⟩] [] [])
 (.reg [o0 19 (.call 20 [(.s 11),(iC 3),(.s 17),(.s 18)])] [11,12,13,14,15,16,17,18,19]))))⟩
theorem adf:aq Tryz.prog 17=some Sc:=by kernel_rfl
abbrev afa:FuncId:=17
def RT:az :=
⟨31,1,[],
 (sr [o0 1 (.box 73 1 (.s 0))] []
 (.seq (.seq (.draw [⟨lo 3 1,[]⟩,
 ⟨lo 4 1,[]⟩,
 ⟨nk 5 4,[1]⟩,
 ⟨fa 6 0 5,[2,1]⟩,
 ⟨fa 7 5 6,[3,2,1]⟩,
 ⟨lo 8 7,[4,3,2,1]⟩,
 ⟨ln 9 8,[5,4,3,2,1]⟩,
 ⟨o0 10 (.mkf 72 [(.s 1)]),[]⟩] [] [])
 (.reg [o0 11 (.call 20 [(.s 3),(iC 6),(.s 9),(.s 10)])] [3,4,5,6,7,8,9,10,11]))
 (.seq (.reg [o0 12 (.mop .mkm []),
 o0 2 (.new 136 [(.fm [])]),
 sT 1 2 12] [12])
 (.seq (.seq (.draw [⟨lo 13 1,[]⟩,
 ⟨lo 14 1,[]⟩,
 ⟨nk 15 14,[1]⟩,
 ⟨fa 16 0 15,[2,1]⟩,
 ⟨fa 17 6 16,[3,2,1]⟩,
 ⟨lo 18 17,[4,3,2,1]⟩,
 ⟨ln 19 18,[5,4,3,2,1]⟩,
 ⟨o0 20 (.mkf 74 [(.s 1),(.s 2)]),[]⟩] [] [])
 (.reg [o0 21 (.call 20 [(.s 13),(iC 7),(.s 19),(.s 20)])] [13,14,15,16,17,18,19,20,21]))
 (.seq (sr [lo 22 1,
 nk 23 22,
 fa 24 0 23,
 fa 25 7 24,
 lo 26 25,
 uN 27 26] [22,23,24,25,26]
 (cR 27))
 (.reg [lo 28 1,
 o0 29 (.mkf 76 [(.s 1)]),
 o0 30 (.call 20 [(.s 28),(iC 8),(iC 1),(.s 29)])] [28,29,30]))))))⟩
theorem acE:aq Tryz.prog 18=some RT:=by kernel_rfl
abbrev aeI:FuncId:=18
def RP:az :=
⟨37,1,[],
 (sr [o0 1 (.box 73 1 (.s 0))] []
 (.seq (.seq (.draw [⟨lo 4 1,[]⟩,
 ⟨lo 5 1,[]⟩,
 ⟨nk 6 5,[1]⟩,
 ⟨fa 7 0 6,[2,1]⟩,
 ⟨fa 8 9 7,[3,2,1]⟩,
 ⟨lo 9 8,[4,3,2,1]⟩,
 ⟨ln 10 9,[5,4,3,2,1]⟩,
 ⟨lo 11 1,[]⟩,
 ⟨o0 12 (.mkf 4000078 [(.s 11)]),[7]⟩] [] [])
 (.reg [o0 13 (.call 20 [(.s 4),(iC 9),(.s 10),(.s 12)])] [4,5,6,7,8,9,10,11,12,13]))
 (.seq (.seq (.draw [⟨lo 14 1,[]⟩,
 ⟨lo 15 1,[]⟩,
 ⟨nk 16 15,[1]⟩,
 ⟨fa 17 0 16,[2,1]⟩,
 ⟨fa 18 10 17,[3,2,1]⟩,
 ⟨lo 19 18,[4,3,2,1]⟩,
 ⟨ln 20 19,[5,4,3,2,1]⟩,
 ⟨o0 21 (.mkf 79 [(.s 1)]),[]⟩] [] [])
 (.reg [o0 22 (.call 20 [(.s 14),(iC 10),(.s 20),(.s 21)])] [14,15,16,17,18,19,20,21,22]))
 (sr [lo 23 1,
 nk 24 23,
 fa 25 0 24,
 lS 26 12 25,
 c1 27 80 26,
 o0 2 (.new 64 [.nl]),
 sT 1 2 27] [23,24,25,26,27]
 (sr [o0 3 (.new 3 [(.int .i64 0)]),
 ⟨none,.store 1 (.s 3) (iC 0),none⟩] []
 (.seq (.draw [⟨lo 28 1,[]⟩,
 ⟨lo 29 1,[]⟩,
 ⟨nk 30 29,[1]⟩,
 ⟨fa 31 0 30,[2,1]⟩,
 ⟨fa 32 11 31,[3,2,1]⟩,
 ⟨lo 33 32,[4,3,2,1]⟩,
 ⟨ln 34 33,[5,4,3,2,1]⟩,
 ⟨o0 35 (.mkf 81 [(.s 1),(.s 3),(.s 2)]),[]⟩] [] [])
 (.reg [o0 36 (.call 20 [(.s 28),(iC 11),(.s 34),(.s 35)])] [28,29,30,31,32,33,34,35,36])))))))⟩
theorem acv:aq Tryz.prog 19=some RP:=by kernel_rfl
abbrev aeE:FuncId:=19
def abX:az :=
⟨56,6,[],
 (.seq (sr [mv 16 2,
 ln 17 16,
 mv 18 4,
 bS 19 .add 17 18,
 mv 20 3,
 bS 21 .gtr 19 20] [16,17,18,19,20]
 (.cond (.s 21)
 (.reg [mv 22 0,
 mv 23 1,
 mv 24 3,
 mv 25 4,
 bS 26 .sub 24 25,
 o0 27 (.mnx true (iC 0) (.s 26)),
 o0 28 (.call 55 [(.s 22),(.s 23),(.s 27),(iC 0),(iC 6)])] [22,23,24,25,26,27,28])
 .skip))
 (sr [mv 29 2,
 ln 30 29,
 mI 31 0] []
 (.block 0 (.loop (sr [bS 32 .lss 31 30] []
 (.seq (.cond (.s 32)
 .skip
 (.exit 0))
 (.seq (.block 1 (.seq (.reg [mv 33 31,
 ia 34 13 29 31,
 lS 35 13 34,
 o0 13 (.new 56 [(.str []),(.str []),(.int .i64 0),(.int .i64 0),(.int .i64 0),(.int .i64 0),(.int .i64 0),(.bool false),(.int .i64 0),(.int .i64 0),(.bool false),(.int .i64 0),(.bool false)]),
 mv 12 33,
 sT 13 13 35] [33,34,35])
 (.seq (sr [mv 36 0,
 nk 37 36,
 fa 38 0 37,
 fa 39 3 38,
 lo 40 39,
 bI 41 .neq 40 0] [36,37,38,39,40]
 (cR 41))
 (sr [mv 43 5,
 mv 44 12,
 lS 45 13 13,
 o0 46 (.callv (.s 43) [(.s 44),(.s 45)]),
 mv 42 46,
 xt 47 42 0,
 xt 48 42 1,
 mv 14 47,
 mv 15 48] [43,44,45,46,42,47,48]
 (.reg [mv 49 0,
 mv 50 1,
 mv 51 12,
 mv 52 14,
 mv 53 15,
 o0 54 (.call 55 [(.s 49),(.s 50),(.s 51),(.s 52),(.s 53)])] [49,50,51,52,53,54])))))
 (.reg [bI 55 .add 31 1,
 mv 31 55] [55]))))))))⟩
theorem acy:aq Tryz.prog 35=some abX:=by kernel_rfl
abbrev aaq:FuncId:=35
def ab0:az :=
⟨56,6,[],
 (.seq (sr [mv 16 2,
 ln 17 16,
 mv 18 4,
 bS 19 .add 17 18,
 mv 20 3,
 bS 21 .gtr 19 20] [16,17,18,19,20]
 (.cond (.s 21)
 (.reg [mv 22 0,
 mv 23 1,
 mv 24 3,
 mv 25 4,
 bS 26 .sub 24 25,
 o0 27 (.mnx true (iC 0) (.s 26)),
 o0 28 (.call 55 [(.s 22),(.s 23),(.s 27),(iC 0),(iC 6)])] [22,23,24,25,26,27,28])
 .skip))
 (sr [mv 29 2,
 ln 30 29,
 mI 31 0] []
 (.block 0 (.loop (sr [bS 32 .lss 31 30] []
 (.seq (.cond (.s 32)
 .skip
 (.exit 0))
 (.seq (.block 1 (sr [mv 33 31,
 ia 34 4 29 31,
 lS 35 4 34,
 o0 13 (.new 52 [(.int .i64 0),(.int .i64 0),(.int .i64 0),(.bool false)]),
 mv 12 33,
 sT 4 13 35] [33,34,35]
 (.seq (sr [mv 36 0,
 nk 37 36,
 fa 38 0 37,
 fa 39 3 38,
 lo 40 39,
 bI 41 .neq 40 0] [36,37,38,39,40]
 (cR 41))
 (sr [mv 43 5,
 mv 44 12,
 lS 45 4 13,
 o0 46 (.callv (.s 43) [(.s 44),(.s 45)]),
 mv 42 46,
 xt 47 42 0,
 xt 48 42 1,
 mv 14 47,
 mv 15 48] [43,44,45,46,42,47,48]
 (.reg [mv 49 0,
 mv 50 1,
 mv 51 12,
 mv 52 14,
 mv 53 15,
 o0 54 (.call 55 [(.s 49),(.s 50),(.s 51),(.s 52),(.s 53)])] [49,50,51,52,53,54])))))
 (.reg [bI 55 .add 31 1,
 mv 31 55] [55]))))))))⟩
theorem acH:aq Tryz.prog 41=some ab0:=by kernel_rfl
abbrev aas:FuncId:=41
def GK:az :=
⟨7,1,[.tmp 2],
 (sr [o0 1 (.box 54 2 (.s 0)),
 mI 2 0] []
 (.seq (sr [fa 3 0 1,
 lo 4 3,
 c1 5 112 4,
 uN 6 5] [3,4,5]
 (.cond (.s 6)
 (sr [mI 2 12] []
 .ret)
 .skip))
 (sr [mI 2 0] []
 .ret)))⟩
theorem Xn:aq Tryz.prog 49=some GK:=by kernel_rfl
abbrev ZH:FuncId:=49
def CI:az :=
⟨28,1,[.tmp 2,.tmp 3],
 (sr [mI 2 0,
 mI 3 0] []
 (.seq (sr [mv 6 0,
 ln 7 6,
 bI 8 .gtr 7 2048] [6,7]
 (.cond (.s 8)
 (sr [mI 2 2048,
 mI 3 6] []
 .ret)
 .skip))
 (.seq (sr [mv 9 0,
 ln 10 9,
 mI 11 0] []
 (.block 0 (.loop (sr [bS 12 .lss 11 10] []
 (.seq (.cond (.s 12)
 .skip
 (.exit 0))
 (.seq (.block 1 (sr [mv 13 11,
 ia 14 9 9 11,
 lS 15 9 14,
 o0 5 (.new 66 [(.int .i64 0),(.int .i64 0),(.int .i64 0),(.int .u64 0),(.int .i64 0),(.int .i64 0),(.int .i64 0),.nl,.nl]),
 mv 4 13,
 sT 9 5 15] [13,14,15]
 (.block 2 (sr [lS 17 9 5,
 c1 18 113 17,
 uN 19 18,
 mv 16 19] [17,18,19]
 (.cond (.s 16)
 (sr [mv 20 4,
 mv 2 20,
 mI 3 10] [20]
 .ret)
 (sr [fa 22 8 5,
 lo 23 22,
 ln 24 23,
 bI 25 .gtr 24 64,
 mv 21 25] [22,23,24,25]
 (.cond (.s 21)
 (sr [mv 26 4,
 mv 2 26,
 mI 3 6] [26]
 .ret)
 .skip)))))))
 (.reg [bI 27 .add 11 1,
 mv 11 27] [27])))))))
 (sr [mI 2 0,
 mI 3 0] []
 .ret))))⟩
theorem X7:aq Tryz.prog 50=some CI:=by kernel_rfl
abbrev Rd:FuncId:=50
def Hh:az :=
⟨28,5,[],
 (sr [mv 10 0,
 nk 11 10,
 fa 12 0 11,
 fa 13 3 12,
 lo 14 13,
 bI 15 .eql 14 0,
 mv 16 15,
 mt 17 4 16,
 ot 18 16 (.bin .neq (.s 17) (iC 0)),
 pF 19 16 18] [10,11,12,13,14,15,16,17,18]
 (.cond (.s 19)
 (.reg [mv 20 0,
 mv 21 1,
 mv 22 2,
 mv 23 3,
 mv 24 4,
 o0 25 (.build [(.int .i64 0),(.int .i64 0),(.int .i64 0),(.int .i64 0)] [(0,1,(.s 21)),(1,1,(.s 22)),(2,1,(.s 23)),(3,1,(.s 24))]),
 nk 26 20,
 fa 27 0 26,
 sT 4 27 25] [20,21,22,23,24,25,26,27])
 .skip))⟩
theorem adm:aq Tryz.prog 55=some Hh:=by kernel_rfl
abbrev UD:FuncId:=55
def SE:az :=
⟨10,2,[.tmp 4,.tmp 5],
 (sr [o0 3 (.box 43 4 (.s 1)),
 mI 4 0,
 mI 5 0] []
 (sr [lS 6 4 3,
 c1 7 61 6,
 xt 8 7 0,
 xt 9 7 1,
 mv 4 8,
 mv 5 9] [6,7,8,9]
 .ret))⟩
theorem adL:aq Tryz.prog 60=some SE:=by kernel_rfl
abbrev aaN:FuncId:=60
def sY:az :=
⟨39,1,[.tmp 2,.tmp 3],
 (sr [o0 1 (.box 43 4 (.s 0)),
 mI 2 0,
 mI 3 0] []
 (.seq (.block 0 (sr [fa 5 0 1,
 lo 6 5,
 bI 7 .neq 6 0,
 mv 8 7,
 ot 9 8 (fd 0 1),
 ot 10 8 (ld 9),
 ot 11 8 (.bin .neq (.s 10) (iC 1)),
 mt 12 11 8,
 oF 13 12 (fd 1 1),
 oF 14 12 (ld 13),
 oF 15 12 (.bin .neq (.s 14) (iC 0)),
 ot 16 8 (.pick (.s 12) (bC true) (.s 15)),
 mt 17 16 8,
 oF 18 17 (fd 2 1),
 oF 19 17 (ld 18),
 oF 20 17 (.len (.s 19)),
 oF 21 17 (.bin .gtr (.s 20) (iC 0)),
 ot 22 8 (.pick (.s 17) (bC true) (.s 21)),
 pF 23 8 22,
 mv 4 23] [5,6,7,8,9,10,11,12,13,14,15,16,17,18,19,20,21,22,23]
 (.cond (.s 4)
 (sr [mI 2 0,
 mI 3 1] []
 .ret)
 (sr [fa 25 1 1,
 lo 26 25,
 c1 27 54 26,
 uN 28 27,
 mv 24 28] [25,26,27,28]
 (.cond (.s 24)
 (sr [mI 2 0,
 mI 3 11] []
 .ret)
 (sr [fa 30 3 1,
 lo 31 30,
 ln 32 31,
 bI 33 .gtr 32 4096,
 mv 29 33] [30,31,32,33]
 (.cond (.s 29)
 (sr [mI 2 0,
 mI 3 6] []
 .ret)
 .skip)))))))
 (sr [fa 34 2 1,
 lo 35 34,
 c1 36 50 35,
 xt 37 36 0,
 xt 38 36 1,
 mv 2 37,
 mv 3 38] [34,35,36,37,38]
 .ret)))⟩
theorem XO:aq Tryz.prog 61=some sY:=by kernel_rfl
abbrev Z5:FuncId:=61
def Su:az :=
⟨11,2,[.tmp 4,.tmp 5],
 (sr [o0 3 (.box 68 3 (.s 1)),
 mI 4 0,
 mI 5 0] []
 (sr [fa 6 2 3,
 lo 7 6,
 c1 8 50 7,
 xt 9 8 0,
 xt 10 8 1,
 mv 4 9,
 mv 5 10] [6,7,8,9,10]
 .ret))⟩
theorem adA:aq Tryz.prog 65=some Su:=by kernel_rfl
abbrev aaE:FuncId:=65
def zb:az :=
⟨10,1,[.cell 2 (some 2)],
 (sr [o0 1 (.box 59 2 (.s 0)),
 o0 2 (.new 59 [.nl,.nl])] []
 (.seq (.seq (.draw [⟨fa 3 0 1,[]⟩,
 ⟨lo 4 3,[0]⟩,
 ⟨o0 5 (.app 48 1 (.c .nl) (.s 4)),[1,0]⟩,
 ⟨fa 6 1 1,[]⟩,
 ⟨lo 7 6,[3]⟩] [(5,2)] [])
 (sr [o0 8 (.app 48 1 (.c .nl) (.s 7))] []
 (sr [o0 9 (.build [.nl,.nl] [(0,1,(.s 5)),(1,1,(.s 8))])] []
 (.reg [sT 2 2 9] [3,4,5,6,7,8,9]))))
 .ret))⟩
theorem QN:aq Tryz.prog 66=some zb:=by kernel_rfl
abbrev Rb:FuncId:=66
def M4:az :=
⟨19,2,[.tmp 4,.tmp 5],
 (sr [mI 4 0,
 mI 5 0] []
 (.seq (sr [mv 9 0,
 nk 10 9,
 fa 11 12 10,
 lo 12 11,
 mv 13 1,
 c2 14 114 12 13,
 mv 8 14,
 xt 15 8 0,
 xt 16 8 1,
 o0 6 (.new 59 [.nl,.nl]),
 sT 2 6 15,
 mv 7 16] [9,10,11,12,13,14,8,15,16,6]
 (sr [mv 17 7,
 uN 18 17] [17]
 (.cond (.s 18)
 (sr [mI 4 0,
 mI 5 11] []
 .ret)
 .skip)))
 (sr [mI 4 0,
 mI 5 0] []
 .ret)))⟩
theorem ade:aq Tryz.prog 70=some M4:=by kernel_rfl
abbrev ae_:FuncId:=70
def RL:az :=
⟨28,2,[.tmp 3,.tmp 4],
 (sr [mI 3 0,
 mI 4 0] []
 (.seq (.seq (.draw [⟨lo 5 1,[]⟩,
 ⟨lo 6 1,[]⟩,
 ⟨nk 7 6,[1]⟩,
 ⟨fa 8 0 7,[2,1]⟩,
 ⟨fa 9 5 8,[3,2,1]⟩,
 ⟨lo 10 9,[4,3,2,1]⟩,
 ⟨mv 11 0,[]⟩,
 ⟨ia 12 3 10 11,[5,4,3,2,1,6]⟩,
 ⟨fa 13 2 12,[7,5,4,3,2,1,6]⟩,
 ⟨lo 14 13,[8,7,5,4,3,2,1,6]⟩,
 ⟨lo 15 1,[]⟩,
 ⟨nk 16 15,[10]⟩,
 ⟨fa 17 0 16,[11,10]⟩,
 ⟨fa 18 5 17,[12,11,10]⟩,
 ⟨lo 19 18,[13,12,11,10]⟩,
 ⟨mv 20 0,[]⟩,
 ⟨ia 21 3 19 20,[14,13,12,11,10,15]⟩,
 ⟨fa 22 0 21,[16,14,13,12,11,10,15]⟩,
 ⟨fa 23 0 22,[17,16,14,13,12,11,10,15]⟩,
 ⟨lo 24 23,[18,17,16,14,13,12,11,10,15]⟩] [] [])
 (sr [c3 25 73 5 14 24] []
 (.seq (.draw [⟨xt 26 25 0,[]⟩,
 ⟨xt 27 25 1,[]⟩] [] [])
 (sr [mv 3 26] []
 (.reg [mv 4 27] [5,6,7,8,9,10,11,12,13,14,15,16,17,18,19,20,21,22,23,24,25,26,27])))))
 .ret))⟩
theorem acp:aq Tryz.prog 72=some RL:=by kernel_rfl
abbrev aez:FuncId:=72
def RM:az :=
⟨32,2,[.tmp 3,.tmp 4],
 (sr [mI 3 0,
 mI 4 0] []
 (.seq (.seq (.draw [⟨lo 8 1,[]⟩,
 ⟨nk 9 8,[0]⟩,
 ⟨fa 10 12 9,[1,0]⟩,
 ⟨lo 11 10,[2,1,0]⟩,
 ⟨lo 12 1,[]⟩,
 ⟨nk 13 12,[4]⟩,
 ⟨fa 14 0 13,[5,4]⟩,
 ⟨fa 15 8 14,[6,5,4]⟩,
 ⟨lo 16 15,[7,6,5,4]⟩,
 ⟨c2 17 77 11 16,[3,2,1,0,8,7,6,5,4]⟩,
 ⟨mv 7 17,[9,3,2,1,0,8,7,6,5,4]⟩,
 ⟨xt 18 7 0,[10,9,3,2,1,0,8,7,6,5,4]⟩,
 ⟨xt 19 7 1,[10,9,3,2,1,0,8,7,6,5,4]⟩,
 ⟨o0 5 (.new 59 [.nl,.nl]),[]⟩,
 ⟨sT 2 5 18,[13,11,10,9,3,2,1,0,8,7,6,5,4]⟩] [(5,13)] [])
 (.reg [mv 6 19] [8,9,10,11,12,13,14,15,16,17,7,18,19]))
 (.seq (.block 0 (sr [mv 21 6,
 uN 22 21,
 mv 20 22] [21,22]
 (.cond (.s 20)
 (sr [mI 3 0,
 mI 4 11] []
 .ret)
 (sr [fa 24 0 5,
 lo 25 24,
 ln 26 25,
 fa 27 1 5,
 lo 28 27,
 ln 29 28,
 bS 30 .add 26 29,
 bI 31 .gtr 30 0,
 mv 23 31] [24,25,26,27,28,29,30,31]
 (.cond (.s 23)
 (sr [mI 3 0,
 mI 4 23] []
 .ret)
 .skip)))))
 (sr [mI 3 0,
 mI 4 0] []
 .ret))))⟩
theorem acr:aq Tryz.prog 76=some RM:=by kernel_rfl
abbrev aeA:FuncId:=76
def Sn:az :=
⟨77,1,[.tmp 2],
 (sr [o0 1 (.box 33 12 (.s 0)),
 o0 2 (.mov (.c .nl))] []
 (sr [o0 3 (.new 64 [.nl])] []
 (sr [o0 5 (.mkf 124 [(.s 3)]),
 mv 4 5] [5]
 (sr [mv 6 4,
 fa 7 0 1,
 lo 8 7,
 ln 9 8,
 bI 10 .gtr 9 0,
 o0 11 (.callv (.s 6) [(iC 1),(.s 10)])] [6,7,8,9,10,11]
 (sr [mv 12 4,
 fa 13 1 1,
 lo 14 13,
 ln 15 14,
 bI 16 .gtr 15 0,
 o0 17 (.callv (.s 12) [(iC 2),(.s 16)])] [12,13,14,15,16,17]
 (sr [mv 18 4,
 fa 19 2 1,
 lo 20 19,
 ln 21 20,
 bI 22 .gtr 21 0,
 o0 23 (.callv (.s 18) [(iC 3),(.s 22)])] [18,19,20,21,22,23]
 (sr [mv 24 4,
 fa 25 3 1,
 lo 26 25,
 ln 27 26,
 bI 28 .gtr 27 0,
 o0 29 (.callv (.s 24) [(iC 4),(.s 28)])] [24,25,26,27,28,29]
 (sr [mv 30 4,
 fa 31 4 1,
 lo 32 31,
 ln 33 32,
 bI 34 .gtr 33 0,
 o0 35 (.callv (.s 30) [(iC 5),(.s 34)])] [30,31,32,33,34,35]
 (sr [mv 36 4,
 fa 37 5 1,
 lo 38 37,
 ln 39 38,
 bI 40 .gtr 39 0,
 o0 41 (.callv (.s 36) [(iC 6),(.s 40)])] [36,37,38,39,40,41]
 (sr [mv 42 4,
 fa 43 6 1,
 lo 44 43,
 ln 45 44,
 bI 46 .gtr 45 0,
 o0 47 (.callv (.s 42) [(iC 7),(.s 46)])] [42,43,44,45,46,47]
 (sr [mv 48 4,
 fa 49 7 1,
 lo 50 49,
 o0 51 (.callv (.s 48) [(iC 8),(.s 50)])] [48,49,50,51]
 (sr [mv 52 4,
 fa 53 9 1,
 lo 54 53,
 ln 55 54,
 bI 56 .gtr 55 0,
 o0 57 (.callv (.s 52) [(iC 9),(.s 56)])] [52,53,54,55,56,57]
 (sr [mv 58 4,
 fa 59 10 1,
 lo 60 59,
 ln 61 60,
 bI 62 .gtr 61 0,
 o0 63 (.callv (.s 58) [(iC 10),(.s 62)])] [58,59,60,61,62,63]
 (sr [mv 64 4,
 fa 65 2 1,
 lo 66 65,
 ln 67 66,
 bI 68 .gtr 67 0,
 o0 69 (.callv (.s 64) [(iC 11),(.s 68)])] [64,65,66,67,68,69]
 (sr [mv 70 4,
 fa 71 10 1,
 lo 72 71,
 ln 73 72,
 bI 74 .gtr 73 0,
 o0 75 (.callv (.s 70) [(iC 12),(.s 74)])] [70,71,72,73,74,75]
 (sr [lo 76 3,
 mv 2 76] [76]
 .ret))))))))))))))))⟩
theorem adv:aq Tryz.prog 80=some Sn:=by kernel_rfl
abbrev afm:FuncId:=80
def CH:az :=
⟨9,1,[.tmp 2],
 (sr [mB 2 false] []
 (sr [mv 3 0,
 bI 4 .eql 3 3,
 mv 5 4,
 mf 6 0 5,
 oF 7 5 (.bin .eql (.s 6) (iC 4)),
 pT 8 5 7,
 mv 2 8] [3,4,5,6,7,8]
 .ret))⟩
theorem X1:aq Tryz.prog 110=some CH:=by kernel_rfl
abbrev aah:FuncId:=110
def sU:az :=
⟨31,2,[.tmp 4],
 (sr [o0 2 (.box 50 3 (.s 0)),
 mB 4 false] []
 (.seq (sr [fa 5 0 2,
 lo 6 5,
 bI 7 .lss 6 0,
 mv 8 7,
 oF 9 8 (fd 0 2),
 oF 10 8 (ld 9),
 mf 11 1 8,
 oF 12 8 (.bin .gtr (.s 10) (.s 11)),
 pT 13 8 12] [5,6,7,8,9,10,11,12]
 (.cond (.s 13)
 (sr [mB 4 false] []
 .ret)
 .skip))
 (.seq (sr [fa 14 2 2,
 lo 15 14,
 uN 16 15] [14,15]
 (.cond (.s 16)
 (sr [fa 17 1 2,
 lo 18 17,
 bI 19 .eql 18 0,
 mv 4 19] [17,18,19]
 .ret)
 .skip))
 (sr [fa 20 0 2,
 lo 21 20,
 fa 22 1 2,
 lo 23 22,
 bS 24 .leq 21 23,
 mv 25 24,
 ot 26 25 (fd 1 2),
 ot 27 25 (ld 26),
 mt 28 1 25,
 ot 29 25 (.bin .leq (.s 27) (.s 28)),
 pF 30 25 29,
 mv 4 30] [20,21,22,23,24,25,26,27,28,29,30]
 .ret))))⟩
theorem Xf:aq Tryz.prog 111=some sU:=by kernel_rfl
abbrev Zz:FuncId:=111
def He:az :=
⟨21,2,[.cell 4 (some 2),.tmp 5],
 (sr [o0 4 (.new 59 [.nl,.nl]),
 mB 5 false] []
 (sr [mv 9 0,
 c1 10 122 9,
 nk 11 10,
 fa 12 0 11,
 lo 13 12,
 mv 14 1,
 c2 15 165 13 14,
 mv 8 15,
 xt 16 8 0,
 xt 17 8 1,
 o0 6 (.new 59 [.nl,.nl]),
 sT 2 6 16,
 mv 7 17] [9,10,11,12,13,14,15,8,16,17]
 (sr [lS 18 2 6,
 c1 19 66 18,
 mv 20 7,
 sT 2 4 19,
 mv 5 20] [18,19,20]
 .ret)))⟩
theorem Yb:aq Tryz.prog 114=some He:=by kernel_rfl
abbrev aax:FuncId:=114
def RS:az :=
⟨9,1,[.tmp 2],
 (sr [mI 2 0] []
 (sr [mv 3 0,
 c1 4 122 3,
 nk 5 4,
 fa 6 2 5,
 lo 7 6,
 ln 8 7,
 mv 2 8] [3,4,5,6,7,8]
 .ret))⟩
theorem acD:aq Tryz.prog 118=some RS:=by kernel_rfl
abbrev aeH:FuncId:=118
def RN:az :=
⟨9,1,[.tmp 2],
 (sr [mI 2 0] []
 (sr [mv 3 0,
 c1 4 122 3,
 nk 5 4,
 fa 6 4 5,
 lo 7 6,
 ln 8 7,
 mv 2 8] [3,4,5,6,7,8]
 .ret))⟩
theorem act:aq Tryz.prog 120=some RN:=by kernel_rfl
abbrev aeC:FuncId:=120
def RY:az :=
⟨18,1,[.tmp 2],
 (sr [o0 2 (.mov (.c .np))] []
 (.seq (sr [mv 3 0,
 o0 4 (.pbin .eql (.s 3) (.c .np)),
 mv 5 4,
 mf 6 0 5,
 oF 7 5 (.nchk (.s 6)),
 oF 8 5 (fd 0 7),
 oF 9 5 (ld 8),
 oF 10 5 (.pbin .eql (.s 9) (.c .np)),
 pT 11 5 10] [3,4,5,6,7,8,9,10]
 (.cond (.s 11)
 (.seq (.reg [o0 12 (.build [.nl,.nl,.nl,.nl,.nl,.nl,(.int .i64 0),(.fm []),(.fm [])] []),
 o0 13 (.box 129 9 (.s 12)),
 mv 2 13] [12,13])
 .ret)
 .skip))
 (sr [mv 14 0,
 nk 15 14,
 fa 16 0 15,
 lo 17 16,
 mv 2 17] [14,15,16,17]
 .ret)))⟩
theorem acP:aq Tryz.prog 122=some RY:=by kernel_rfl
abbrev aeS:FuncId:=122
def RX:az :=
⟨15,2,[.cell 4 (some 4),.tmp 5],
 (sr [o0 4 (.new 52 [(.int .i64 0),(.int .i64 0),(.int .i64 0),(.bool false)]),
 mB 5 false] []
 (sr [mv 6 0,
 c1 7 122 6,
 nk 8 7,
 fa 9 2 8,
 lo 10 9,
 mv 11 1,
 c2 12 169 10 11,
 xt 13 12 0,
 xt 14 12 1,
 sT 4 4 13,
 mv 5 14] [6,7,8,9,10,11,12,13,14]
 .ret))⟩
theorem acO:aq Tryz.prog 123=some RX:=by kernel_rfl
abbrev aeR:FuncId:=123
def GE:az :=
⟨31,3,[.tmp 6,.tmp 7],
 (sr [o0 3 (.box 33 12 (.s 0)),
 o0 6 (.mov (.c .nl)),
 mB 7 false] []
 (sr [lS 12 12 3,
 mv 13 1,
 mv 14 2,
 c3 15 128 12 13 14,
 mv 11 15,
 xt 16 11 0,
 xt 17 11 1,
 o0 8 (.new 59 [.nl,.nl]),
 sT 2 8 16,
 mv 9 17] [12,13,14,15,11,16,17]
 (.seq (sr [mv 18 9,
 uN 19 18] [18]
 (.cond (.s 19)
 (sr [o0 6 (.mov (.c .nl)),
 mB 7 false] []
 .ret)
 .skip))
 (sr [fa 20 0 8,
 lo 21 20,
 o0 22 (.app 48 1 (.c .nl) (.s 21)),
 mv 10 22] [20,21,22]
 (sr [mv 23 10,
 fa 24 2 3,
 lo 25 24,
 mv 26 2,
 ia 27 3 25 26,
 fa 28 1 27,
 lo 29 28,
 o0 30 (.app 48 1 (.s 23) (.s 29)),
 mv 6 30,
 mB 7 true] [23,24,25,26,27,28,29,30]
 .ret)))))⟩
theorem Xg:aq Tryz.prog 126=some GE:=by kernel_rfl
abbrev ZA:FuncId:=126
def G8:az :=
⟨25,1,[.tmp 2],
 (sr [o0 2 (.mov (.c .np))] []
 (sr [c0 4 171,
 mv 5 0,
 c1 6 172 5,
 o0 7 (.build [.np,.nl,.nl,(.bool false),(.int .i64 0)] [(0,1,(.s 4)),(2,1,(.s 6)),(3,1,(bC true))]),
 o0 8 (.box 214 5 (.s 7)),
 mv 3 8] [4,5,6,7,8]
 (sr [mv 9 3,
 nk 10 9,
 fa 11 0 10,
 lo 12 11,
 c1 13 173 12] [9,10,11,12,13]
 (.seq (.reg [mv 14 3,
 mv 15 3,
 nk 16 15,
 fa 17 2 16,
 lo 18 17,
 o0 19 (.build [.nl,.nl] [(1,1,(.s 18))]),
 o0 20 (.build [(.int .i64 0),.nl,.nl,(.bool false),(.bool false)] [(1,2,(.s 19)),(4,1,(bC true))]),
 o0 21 (.bsl 216 5 [[(.int .i64 0),.nl,.nl,(.bool false),(.bool false)]] [(0,(.s 20))]),
 nk 22 14,
 fa 23 1 22,
 sT 1 23 21] [14,15,16,17,18,19,20,21,22,23])
 (sr [mv 24 3,
 mv 2 24] [24]
 .ret)))))⟩
theorem X6:aq Tryz.prog 129=some G8:=by kernel_rfl
abbrev aak:FuncId:=129
def R0:az :=
⟨10,1,[.tmp 2],
 (sr [o0 2 (.mov (.c .np))] []
 (.seq (sr [mv 3 0,
 c1 4 184 3,
 uN 5 4] [3,4]
 (.cond (.s 5)
 (sr [o0 2 (.mov (.c .np))] []
 .ret)
 .skip))
 (sr [mv 6 0,
 nk 7 6,
 fa 8 0 7,
 lo 9 8,
 mv 2 9] [6,7,8,9]
 .ret)))⟩
theorem ac0:aq Tryz.prog 131=some R0:=by kernel_rfl
abbrev aeZ:FuncId:=131
def Gy:az :=
⟨6,1,[.tmp 2],
 (sr [mB 2 false] []
 (sr [mv 3 0,
 c1 4 205 3,
 o0 5 (.bin .neq (.s 4) (.c (.str []))),
 mv 2 5] [3,4,5]
 .ret))⟩
theorem W8:aq Tryz.prog 161=some Gy:=by kernel_rfl
abbrev Zt:FuncId:=161
def wA:az :=
⟨30,1,[.tmp 2],
 (sr [o0 1 (.box 63 3 (.s 0)),
 mB 2 false] []
 (.seq (sr [fa 3 0 1,
 lo 4 3] [3]
 (.block 0 (sr [bI 6 .eql 4 0,
 mv 5 6] [6]
 (.cond (.s 5)
 (sr [lS 7 3 1,
 o0 8 (.build [(.int .i64 0),(.int .i64 0),(.int .i64 0)] []),
 o0 9 (.sbin .eql [.i,.i,.i] (.s 7) (.s 8)),
 mv 2 9] [7,8,9]
 .ret)
 (sr [bI 11 .eql 4 1,
 mv 10 11] [11]
 (.cond (.s 10)
 (sr [fa 12 1 1,
 lo 13 12,
 c1 14 164 13,
 mv 15 14,
 ot 16 15 (fd 2 1),
 ot 17 15 (ld 16),
 ot 18 15 (.bin .eql (.s 17) (iC 0)),
 pF 19 15 18,
 mv 2 19] [12,13,14,15,16,17,18,19]
 .ret)
 (sr [bI 21 .eql 4 2,
 mv 20 21] [21]
 (.cond (.s 20)
 (sr [fa 22 1 1,
 lo 23 22,
 bI 24 .eql 23 0,
 mv 25 24,
 ot 26 25 (fd 2 1),
 ot 27 25 (ld 26),
 ot 28 25 (.call 162 [(.s 27)]),
 pF 29 25 28,
 mv 2 29] [22,23,24,25,26,27,28,29]
 .ret)
 .skip))))))))
 (sr [mB 2 false] []
 .ret)))⟩
theorem Xa:aq Tryz.prog 163=some wA:=by kernel_rfl
abbrev Zv:FuncId:=163
def sW:az :=
⟨38,4,[.tmp 8,.tmp 9],
 (sr [mI 8 0,
 mI 9 0] []
 (.seq (sr [mv 11 2,
 ln 12 11,
 mv 10 12] [11,12]
 (.block 0 (sr [mv 14 1,
 bI 15 .add 14 1,
 mv 16 0,
 ln 17 16,
 bS 18 .lss 15 17,
 mv 13 18] [14,15,16,17,18]
 (.cond (.s 13)
 (sr [mv 19 1,
 bI 20 .add 19 1,
 mv 8 20,
 mI 9 16] [19,20]
 .ret)
 (sr [mv 22 10,
 bI 23 .eql 22 0,
 mv 21 23] [22,23]
 (.cond (.s 21)
 (sr [mv 24 1,
 mv 8 24,
 mI 9 13] [24]
 .ret)
 (sr [mv 26 2,
 mv 27 10,
 bI 28 .sub 27 1,
 ia 29 1 26 28,
 lo 30 29,
 mv 31 3,
 bS 32 .neq 30 31,
 mv 25 32] [26,27,28,29,30,31,32]
 (.cond (.s 25)
 (sr [mv 33 1,
 mv 8 33,
 mI 9 12] [33]
 .ret)
 (sr [mv 35 10,
 bI 36 .gtr 35 1,
 mv 34 36] [35,36]
 (.cond (.s 34)
 (sr [mv 37 1,
 mv 8 37,
 mI 9 14] [37]
 .ret)
 .skip))))))))))
 (sr [mI 8 0,
 mI 9 0] []
 .ret)))⟩
theorem Xy:aq Tryz.prog 167=some sW:=by kernel_rfl
abbrev ZQ:FuncId:=167
def G3:az :=
⟨5,0,[.tmp 0],
 (sr [o0 0 (.mov (.c .np))] []
 (.seq (.reg [o0 1 (.build [(.int .i64 0),(.bool false)] []),
 o0 2 (.bsl 260 2 [[(.int .i64 0),(.bool false)]] [(0,(.s 1))]),
 o0 3 (.build [.nl,.nl,(.bool false)] [(1,1,(.s 2))]),
 o0 4 (.box 228 3 (.s 3)),
 mv 0 4] [1,2,3,4])
 .ret))⟩
theorem XZ:aq Tryz.prog 171=some G3:=by kernel_rfl
abbrev aaf:FuncId:=171
def FX3:az :=
⟨8,1,[.tmp 2],
 (sr [o0 2 (.mov (.c .nl))] []
 (.seq (sr [mv 3 0,
 o0 4 (.snl false (.s 3))] [3]
 (.cond (.s 4)
 (sr [o0 2 (.mov (.c .nl))] []
 .ret)
 .skip))
 (sr [o0 5 (.bsl 48 1 [] []),
 mv 6 0,
 o0 7 (.app 48 1 (.s 5) (.s 6)),
 mv 2 7] [5,6,7]
 .ret)))⟩
theorem cX3:aq Tryz.prog 172=some FX3:=by kernel_rfl
abbrev nX3:FuncId:=172
def R8:az :=
⟨19,1,[],
 (sr [mv 2 0,
 c1 3 185 2] [2]
 (.cond (.s 3)
 (.seq (.draw [⟨mv 4 0,[]⟩,
 ⟨mv 5 0,[]⟩,
 ⟨nk 6 5,[1]⟩,
 ⟨fa 7 1 6,[2,1]⟩,
 ⟨lo 8 7,[3,2,1]⟩,
 ⟨mv 9 0,[]⟩,
 ⟨nk 10 9,[5]⟩,
 ⟨fa 11 0 10,[6,5]⟩,
 ⟨lo 12 11,[7,6,5]⟩,
 ⟨ln 13 12,[8,7,6,5]⟩,
 ⟨o0 14 (.build [(.int .i64 0),(.bool false)] [(0,1,(.s 13))]),[9,8,7,6,5]⟩,
 ⟨o0 15 (.bsl 260 2 [[(.int .i64 0),(.bool false)]] [(0,(.s 14))]),[10,9,8,7,6,5]⟩,
 ⟨o0 16 (.app 260 2 (.s 8) (.s 15)),[4,3,2,1,11,10,9,8,7,6,5]⟩] [(15,11),(16,12)] [])
 (sr [nk 17 4] []
 (sr [fa 18 1 17] []
 (.reg [sT 1 18 16] [4,5,6,7,8,9,10,11,12,13,14,15,16,17,18]))))
 .skip))⟩
theorem ac7:aq Tryz.prog 173=some R8:=by kernel_rfl
abbrev ae5:FuncId:=173
def G2:az :=
⟨18,2,[.tmp 4],
 (sr [o0 3 (.box 66 9 (.s 1)),
 mI 4 0] []
 (.seq (sr [mv 8 0,
 o0 9 (.build [(.int .i64 0),(.int .i64 0),(.int .i64 0)] []),
 c2 10 175 8 9,
 mv 7 10,
 xt 11 7 0,
 xt 12 7 1,
 o0 5 (.new 59 [.nl,.nl]),
 sT 2 5 11,
 mv 6 12] [8,9,10,7,11,12,5]
 (sr [mv 13 6,
 uN 14 13] [13]
 (.cond (.s 14)
 (sr [mI 4 2] []
 .ret)
 .skip)))
 (.seq (sr [lS 15 9 3,
 c1 16 113 15,
 uN 17 16] [15,16]
 (.cond (.s 17)
 (sr [mI 4 10] []
 .ret)
 .skip))
 (sr [mI 4 0] []
 .ret))))⟩
theorem XW:aq Tryz.prog 174=some G2:=by kernel_rfl
abbrev aac:FuncId:=174
def zd:az :=
⟨74,3,[.tmp 6],
 (sr [o0 5 (.box 59 2 (.s 2)),
 mI 6 0] []
 (.seq (sr [mv 10 0,
 c1 11 209 10,
 mv 7 11] [10,11]
 (sr [mv 12 7,
 bI 13 .neq 12 0] [12]
 (.cond (.s 13)
 (sr [mv 14 7,
 mv 6 14] [14]
 .ret)
 .skip)))
 (.seq (.block 0 (sr [mv 16 1,
 bI 17 .neq 16 2,
 mv 18 17,
 mt 19 1 18,
 ot 20 18 (.bin .neq (.s 19) (iC 3)),
 pF 21 18 20,
 mv 22 21,
 mt 23 1 22,
 ot 24 22 (.bin .neq (.s 23) (iC 4)),
 pF 25 22 24,
 mv 15 25] [16,17,18,19,20,21,22,23,24,25]
 (.cond (.s 15)
 (sr [mI 6 1] []
 .ret)
 (sr [mv 27 0,
 nk 28 27,
 fa 29 1 28,
 lo 30 29,
 ln 31 30,
 bI 32 .eql 31 0,
 mv 26 32] [27,28,29,30,31,32]
 (.cond (.s 26)
 (sr [mI 6 16] []
 .ret)
 .skip)))))
 (.seq (sr [mv 33 1,
 bI 34 .eql 33 4] [33]
 (.cond (.s 34)
 (.seq (.reg [mv 35 0,
 nk 36 35,
 fa 37 0 36,
 lo 38 37,
 o0 39 (.bsl 48 1 [[(.int .i64 0)]] [(0,(iC 1))]),
 c2 40 210 38 39,
 mv 8 40] [35,36,37,38,39,40])
 (sr [mv 41 8,
 bI 42 .neq 41 0] [41]
 (.cond (.s 42)
 (sr [mv 43 0,
 mv 44 8,
 c2 45 211 43 44,
 mv 6 45] [43,44,45]
 .ret)
 .skip)))
 .skip))
 (.seq (.seq (.seq (.draw [⟨mv 46 0,[]⟩,
 ⟨nk 47 46,[0]⟩,
 ⟨fa 48 0 47,[1,0]⟩,
 ⟨lo 49 48,[2,1,0]⟩,
 ⟨fa 50 0 5,[]⟩,
 ⟨lo 51 50,[4]⟩] [] [])
 (sr [c2 52 210 49 51] []
 (.reg [mv 9 52] [46,47,48,49,50,51,52])))
 (sr [mv 53 9,
 bI 54 .neq 53 0] [53]
 (.cond (.s 54)
 (sr [mv 55 0,
 mv 56 9,
 c2 57 211 55 56,
 mv 6 57] [55,56,57]
 .ret)
 .skip)))
 (.seq (.seq (.draw [⟨fa 58 0 5,[]⟩,
 ⟨lo 59 58,[0]⟩,
 ⟨c1 60 172 59,[1,0]⟩,
 ⟨fa 61 1 5,[]⟩,
 ⟨lo 62 61,[3]⟩] [] [])
 (sr [c1 63 172 62] []
 (sr [o0 64 (.build [.nl,.nl] [(0,1,(.s 60)),(1,1,(.s 63))])] []
 (.reg [sT 2 5 64] [58,59,60,61,62,63,64]))))
 (.seq (.seq (.draw [⟨mv 65 0,[]⟩,
 ⟨mv 66 1,[]⟩,
 ⟨lS 67 2 5,[]⟩,
 ⟨mv 68 0,[]⟩,
 ⟨nk 69 68,[3]⟩,
 ⟨fa 70 3 69,[4,3]⟩,
 ⟨lo 71 70,[5,4,3]⟩,
 ⟨o0 72 (.build [(.int .i64 0),.nl,.nl,(.bool false),(.bool false)] [(0,1,(.s 66)),(1,2,(.s 67)),(4,1,(.s 71))]),[1,2,6,5,4,3]⟩] [] [])
 (.reg [c2 73 212 65 72] [65,66,67,68,69,70,71,72,73]))
 (sr [mI 6 0] []
 .ret))))))))⟩
theorem acX:aq Tryz.prog 176=some zd:=by kernel_rfl
abbrev aeW:FuncId:=176
def sV:az :=
⟨59,2,[.tmp 4],
 (sr [o0 3 (.box 66 9 (.s 1)),
 mI 4 0] []
 (sr [mv 8 0,
 c1 9 218 8,
 mv 5 9,
 mI 6 0] [8,9]
 (.seq (sr [fa 10 0 3,
 lo 11 10,
 bI 12 .neq 11 15,
 mv 13 12,
 ot 14 13 (fd 0 3),
 ot 15 13 (ld 14),
 ot 16 13 (.bin .neq (.s 15) (iC 14)),
 pF 17 13 16] [10,11,12,13,14,15,16]
 (.cond (.s 17)
 (.reg [mv 19 0,
 fa 20 1 3,
 lo 21 20,
 c2 22 219 19 21,
 mv 18 22,
 xt 23 18 0,
 xt 24 18 1,
 mv 5 23,
 mv 6 24] [19,20,21,22,18,23,24])
 .skip))
 (.seq (sr [mv 25 6,
 bI 26 .neq 25 0] [25]
 (.cond (.s 26)
 (sr [mv 27 6,
 mv 4 27] [27]
 .ret)
 .skip))
 (.seq (sr [fa 28 0 3,
 lo 29 28] [28]
 (.block 0 (sr [bI 35 .eql 29 14,
 mv 34 35] [35]
 (.cond (.s 34)
 (.reg [mv 36 0,
 lS 37 9 3,
 c2 38 220 36 37,
 mv 6 38] [36,37,38])
 (sr [bI 40 .eql 29 13,
 mv 39 40] [40]
 (.cond (.s 39)
 (.seq (.seq (.reg [mv 41 0,
 c1 42 131 41,
 o0 43 (.bsl 48 1 [[(.int .i64 0)]] [(0,(iC 1))]),
 c2 44 210 42 43,
 mv 7 44] [41,42,43,44])
 (sr [mv 45 7,
 bI 46 .neq 45 0] [45]
 (.cond (.s 46)
 (sr [mv 47 7,
 mv 4 47] [47]
 .ret)
 .skip)))
 (sr [mv 48 0,
 c1 49 131 48,
 mv 50 5,
 mv 51 5,
 o0 52 (.build [.nl,.nl] [(0,1,(.s 50)),(1,1,(.s 51))]),
 c2 53 183 49 52,
 mv 4 53] [48,49,50,51,52,53]
 .ret))
 (.reg [mv 30 0,
 c1 31 131 30,
 mv 32 5,
 c2 33 210 31 32,
 mv 6 33] [30,31,32,33])))))))
 (.seq (sr [mv 54 6,
 bI 55 .eql 54 0] [54]
 (.cond (.s 55)
 (.reg [mv 56 0,
 c1 57 179 56] [56,57])
 .skip))
 (sr [mv 58 6,
 mv 4 58] [58]
 .ret)))))))⟩
theorem Xs:aq Tryz.prog 180=some sV:=by kernel_rfl
abbrev ZL:FuncId:=180
def Sa:az :=
⟨13,1,[.tmp 2],
 (sr [mB 2 false] []
 (sr [mv 3 0,
 o0 4 (.pbin .neq (.s 3) (.c .np)),
 mv 5 4,
 mt 6 0 5,
 ot 7 5 (.nchk (.s 6)),
 ot 8 5 (fd 1 7),
 ot 9 5 (ld 8),
 ot 10 5 (.len (.s 9)),
 ot 11 5 (.bin .gtr (.s 10) (iC 0)),
 pF 12 5 11,
 mv 2 12] [3,4,5,6,7,8,9,10,11,12]
 .ret))⟩
theorem adb:aq Tryz.prog 185=some Sa:=by kernel_rfl
abbrev aaz:FuncId:=185
def D8:az :=
⟨61,2,[.tmp 4],
 (sr [mI 4 0] []
 (.seq (sr [mv 7 0,
 c1 8 185 7,
 uN 9 8] [7,8]
 (.cond (.s 9)
 (sr [mI 4 2] []
 .ret)
 .skip))
 (sr [mv 11 0,
 mv 12 1,
 c2 13 262 11 12,
 mv 10 13,
 xt 14 10 0,
 xt 15 10 1,
 mv 5 14,
 mv 6 15] [11,12,13,10,14,15]
 (.seq (sr [mv 16 6,
 bI 17 .neq 16 0] [16]
 (.cond (.s 17)
 (sr [mv 18 6,
 mv 4 18] [18]
 .ret)
 .skip))
 (.seq (sr [mv 19 5,
 mv 20 0,
 c1 21 263 20,
 nk 22 21,
 fa 23 0 22,
 lo 24 23,
 bS 25 .gtr 19 24] [19,20,21,22,23,24]
 (.cond (.s 25)
 (sr [mI 4 14] []
 .ret)
 .skip))
 (sr [mv 26 0,
 mv 27 0,
 nk 28 27,
 fa 29 0 28,
 lo 30 29,
 mv 31 5,
 o0 32 (.slc 1 (.s 30) none (some (.s 31)) none),
 nk 33 26,
 fa 34 0 33,
 sT 1 34 32] [26,27,28,29,30,31,32,33,34]
 (.seq (sr [mv 35 0,
 nk 36 35,
 fa 37 1 36,
 lo 38 37,
 ln 39 38,
 bI 40 .eql 39 1] [35,36,37,38,39]
 (.cond (.s 40)
 (sr [mv 41 0,
 nk 42 41,
 fa 43 1 42,
 lo 44 43,
 o0 45 (.build [(.int .i64 0),(.bool false)] []),
 o0 46 (.iadr 2 (.s 44) (iC 0)),
 sT 2 46 45] [41,42,43,44,45,46]
 (sr [mI 4 0] []
 .ret))
 .skip))
 (.seq (.seq (.draw [⟨mv 47 0,[]⟩,
 ⟨mv 48 0,[]⟩,
 ⟨nk 49 48,[1]⟩,
 ⟨fa 50 1 49,[2,1]⟩,
 ⟨lo 51 50,[3,2,1]⟩,
 ⟨mv 52 0,[]⟩,
 ⟨nk 53 52,[5]⟩,
 ⟨fa 54 1 53,[6,5]⟩,
 ⟨lo 55 54,[7,6,5]⟩,
 ⟨ln 56 55,[8,7,6,5]⟩,
 ⟨bI 57 .sub 56 1,[9,8,7,6,5]⟩,
 ⟨o0 58 (.slc 2 (.s 51) none (some (.s 57)) none),[4,3,2,1,10,9,8,7,6,5]⟩] [] [])
 (sr [nk 59 47] []
 (sr [fa 60 1 59] []
 (.reg [sT 1 60 58] [47,48,49,50,51,52,53,54,55,56,57,58,59,60]))))
 (sr [mI 4 0] []
 .ret)))))))))⟩
theorem ac_:aq Tryz.prog 213=some D8:=by kernel_rfl
abbrev ae7:FuncId:=213
def CJ:az :=
⟨9,1,[.tmp 2],
 (sr [mB 2 false] []
 (sr [mv 3 0,
 bI 4 .eql 3 3,
 mv 5 4,
 mf 6 0 5,
 oF 7 5 (.bin .eql (.s 6) (iC 4)),
 pT 8 5 7,
 mv 2 8] [3,4,5,6,7,8]
 .ret))⟩
theorem X8:aq Tryz.prog 222=some CJ:=by kernel_rfl
abbrev aam:FuncId:=222
def wz:az :=
⟨39,2,[.cell 4 (some 2),.tmp 5],
 (sr [o0 3 (.box 66 9 (.s 1)),
 o0 4 (.new 59 [.nl,.nl]),
 mI 5 0] []
 (sr [mv 9 0,
 fa 10 1 3,
 lo 11 10,
 c2 12 77 9 11,
 mv 8 12,
 xt 13 8 0,
 xt 14 8 1,
 o0 6 (.new 59 [.nl,.nl]),
 sT 2 6 13,
 mv 7 14] [9,10,11,12,8,13,14]
 (.seq (.block 0 (sr [mv 16 7,
 uN 17 16,
 mv 15 17] [16,17]
 (.cond (.s 15)
 (sr [o0 18 (.call 230 [(iC 11)]),
 xt 19 18 0,
 xt 20 18 1,
 sT 2 4 19,
 mv 5 20] [18,19,20]
 .ret)
 (sr [fa 22 0 3,
 lo 23 22,
 bI 24 .eql 23 16,
 mv 21 24] [22,23,24]
 (.cond (.s 21)
 (sr [lS 25 2 6,
 sT 2 4 25,
 mI 5 0] [25]
 .ret)
 (sr [mv 27 0,
 fa 28 1 3,
 lo 29 28,
 c2 30 206 27 29,
 uN 31 30,
 mv 26 31] [27,28,29,30,31]
 (.cond (.s 26)
 (sr [o0 32 (.call 230 [(iC 22)]),
 xt 33 32 0,
 xt 34 32 1,
 sT 2 4 33,
 mv 5 34] [32,33,34]
 .ret)
 .skip)))))))
 (.seq (.reg [o0 35 (.bsl 48 1 [[(.int .i64 0)]] [(0,(iC 3))]),
 o0 36 (.call 225 [(.c .nl),(.s 35)]),
 xt 37 36 0,
 xt 38 36 1,
 sT 2 4 37,
 mv 5 38] [35,36,37,38])
 .ret))))⟩
theorem WX:aq Tryz.prog 223=some wz:=by kernel_rfl
abbrev Zo:FuncId:=223
def wC:az :=
⟨44,2,[.cell 4 (some 2),.tmp 5],
 (sr [o0 3 (.box 66 9 (.s 1)),
 o0 4 (.new 59 [.nl,.nl]),
 mI 5 0] []
 (sr [mv 9 0,
 fa 10 1 3,
 lo 11 10,
 c2 12 207 9 11,
 mv 8 12,
 xt 13 8 0,
 xt 14 8 1,
 o0 6 (.new 54 [(.int .i64 0),(.bool false)]),
 sT 2 6 13,
 mv 7 14] [9,10,11,12,8,13,14]
 (.seq (.block 0 (sr [mv 16 7,
 uN 17 16,
 mv 15 17] [16,17]
 (.cond (.s 15)
 (sr [o0 18 (.call 230 [(iC 11)]),
 xt 19 18 0,
 xt 20 18 1,
 sT 2 4 19,
 mv 5 20] [18,19,20]
 .ret)
 (sr [fa 22 0 3,
 lo 23 22,
 bI 24 .eql 23 35,
 mv 21 24] [22,23,24]
 (.cond (.s 21)
 (.seq (.reg [fa 25 0 6,
 lo 26 25,
 o0 27 (.bsl 48 1 [[(.int .i64 0)]] [(0,(.s 26))]),
 o0 28 (.call 225 [(.c .nl),(.s 27)]),
 xt 29 28 0,
 xt 30 28 1,
 sT 2 4 29,
 mv 5 30] [25,26,27,28,29,30])
 .ret)
 (sr [fa 32 1 6,
 lo 33 32,
 uN 34 33,
 mv 31 34] [32,33,34]
 (.cond (.s 31)
 (sr [o0 35 (.call 230 [(iC 18)]),
 xt 36 35 0,
 xt 37 35 1,
 sT 2 4 36,
 mv 5 37] [35,36,37]
 .ret)
 .skip)))))))
 (.seq (.reg [fa 38 0 6,
 lo 39 38,
 o0 40 (.bsl 48 1 [[(.int .i64 0)]] [(0,(.s 39))]),
 o0 41 (.call 225 [(.s 40),(.c .nl)]),
 xt 42 41 0,
 xt 43 41 1,
 sT 2 4 42,
 mv 5 43] [38,39,40,41,42,43])
 .ret))))⟩
theorem Xt:aq Tryz.prog 227=some wC:=by kernel_rfl
abbrev ZM:FuncId:=227
def GT:az :=
⟨6,1,[.cell 2 (some 2),.tmp 3],
 (sr [o0 2 (.new 59 [.nl,.nl]),
 mI 3 0] []
 (sr [o0 4 (.build [.nl,.nl] []),
 mv 5 0,
 sT 2 2 4,
 mv 3 5] [4,5]
 .ret))⟩
theorem XI:aq Tryz.prog 230=some GT:=by kernel_rfl
abbrev Z1:FuncId:=230
def cj:az :=
⟨70,1,[.cell 2 (some 2),.tmp 3],
 (sr [o0 2 (.new 59 [.nl,.nl]),
 mB 3 false] []
 (.seq (.reg [o0 6 (.bsl 48 1 [[(.int .i64 0)],[(.int .i64 0)],[(.int .i64 0)]] [(0,(iC 1)),(1,(iC 1)),(2,(iC 1))]),
 mv 4 6] [6])
 (.seq (sr [mv 7 0] []
 (.block 0 (.seq (sr [bI 9 .eql 7 1,
 mv 8 9] [9]
 (.cond (.s 8)
 .skip
 (sr [bI 10 .eql 7 64525,
 mv 8 10] [10]
 (.cond (.s 8)
 .skip
 (.reg [bI 11 .eql 7 64521,
 mv 8 11] [11])))))
 (.cond (.s 8)
 (sr [o0 12 (.build [.nl,.nl] []),
 sT 2 2 12,
 mB 3 true] [12]
 .ret)
 (.seq (sr [bI 14 .eql 7 65,
 mv 13 14] [14]
 (.cond (.s 13)
 .skip
 (sr [bI 15 .eql 7 63,
 mv 13 15] [15]
 (.cond (.s 13)
 .skip
 (.reg [bI 16 .eql 7 64528,
 mv 13 16] [16])))))
 (.cond (.s 13)
 (.seq (.reg [o0 17 (.bsl 48 1 [[(.int .i64 0)]] [(0,(iC 1))]),
 o0 18 (.call 270 [(.c .nl),(.s 17)]),
 sT 2 2 18,
 mB 3 true] [17,18])
 .ret)
 (sr [bI 20 .eql 7 66,
 mv 19 20] [20]
 (.cond (.s 19)
 (.seq (.reg [o0 21 (.bsl 48 1 [[(.int .i64 0)]] [(0,(iC 2))]),
 o0 22 (.call 270 [(.c .nl),(.s 21)]),
 sT 2 2 22,
 mB 3 true] [21,22])
 .ret)
 (sr [bI 24 .eql 7 210,
 mv 23 24] [24]
 (.cond (.s 23)
 (.seq (.reg [o0 25 (.bsl 48 1 [[(.int .i64 0)]] [(0,(iC 3))]),
 o0 26 (.call 270 [(.c .nl),(.s 25)]),
 sT 2 2 26,
 mB 3 true] [25,26])
 .ret)
 (sr [bI 28 .eql 7 64,
 mv 27 28] [28]
 (.cond (.s 27)
 (.seq (.reg [mv 29 4,
 o0 30 (.slc 1 (.s 29) none (some (iC 1)) none),
 o0 31 (.bsl 48 1 [[(.int .i64 0)]] [(0,(iC 1))]),
 c2 32 270 30 31,
 sT 2 2 32,
 mB 3 true] [29,30,31,32])
 .ret)
 (.seq (sr [bI 34 .eql 7 64523,
 mv 33 34] [34]
 (.cond (.s 33)
 .skip
 (sr [bI 35 .eql 7 64522,
 mv 33 35] [35]
 (.cond (.s 33)
 .skip
 (sr [bI 36 .eql 7 64520,
 mv 33 36] [36]
 (.cond (.s 33)
 .skip
 (sr [bI 37 .eql 7 64526,
 mv 33 37] [37]
 (.cond (.s 33)
 .skip
 (.reg [bI 38 .eql 7 64524,
 mv 33 38] [38])))))))))
 (.cond (.s 33)
 (sr [mv 39 4,
 o0 40 (.call 270 [(.s 39),(.c .nl)]),
 sT 2 2 40,
 mB 3 true] [39,40]
 .ret)
 (sr [bI 42 .eql 7 167,
 mv 41 42] [42]
 (.cond (.s 41)
 (.seq (.reg [o0 43 (.bsl 48 1 [[(.int .i64 0)]] [(0,(iC 2))]),
 o0 44 (.bsl 48 1 [[(.int .i64 0)]] [(0,(iC 1))]),
 c2 45 270 43 44,
 sT 2 2 45,
 mB 3 true] [43,44,45])
 .ret)
 (.seq (sr [bI 47 .eql 7 172,
 mv 46 47] [47]
 (.cond (.s 46)
 .skip
 (.reg [bI 48 .eql 7 173,
 mv 46 48] [48])))
 (.cond (.s 46)
 (.seq (.reg [mv 49 4,
 o0 50 (.slc 1 (.s 49) none (some (iC 1)) none),
 o0 51 (.bsl 48 1 [[(.int .i64 0)]] [(0,(iC 2))]),
 c2 52 270 50 51,
 sT 2 2 52,
 mB 3 true] [49,50,51,52])
 .ret)
 .skip))))))))))))))))))
 (sr [mv 53 0,
 c1 54 205 53,
 mv 5 54] [53,54]
 (.seq (.seq (.reg [mv 55 5,
 o0 56 (.call 271 [(.s 55),(.c (.str [105,51,50,46]))]),
 uN 57 56,
 mv 58 57,
 mt 59 5 58,
 ot 60 58 (.call 271 [(.s 59),(.c (.str [105,54,52,46]))]),
 ot 61 58 (.un .not (.s 60)),
 pF 62 58 61] [55,56,57,58,59,60,61])
 (.cond (.s 62)
 (sr [o0 63 (.build [.nl,.nl] []),
 sT 2 2 63,
 mB 3 false] [63]
 .ret)
 .skip))
 (.seq (.seq (.draw [⟨mv 64 0,[]⟩,
 ⟨mv 65 5,[]⟩,
 ⟨c1 66 273 65,[1]⟩,
 ⟨mv 67 5,[]⟩,
 ⟨o0 68 (.sslc (.s 67) (some (iC 4)) none),[3]⟩] [] [])
 (sr [c3 69 272 64 66 68] []
 (sr [sT 2 2 69] []
 (.reg [mB 3 true] [64,65,66,67,68,69]))))
 .ret))))))⟩
theorem fB:aq Tryz.prog 231=some cj:=by kernel_rfl
abbrev ZU:FuncId:=231
def Sd:az :=
⟨8,2,[.tmp 4],
 (sr [mB 4 false] []
 (sr [mv 5 0,
 mv 6 1,
 c2 7 295 5 6,
 mv 4 7] [5,6,7]
 .ret))⟩
theorem adi:aq Tryz.prog 271=some Sd:=by kernel_rfl
abbrev afc:FuncId:=271
def GN:az :=
⟨26,0,[.tmp 0],
 (sr [o0 0 (.mov (.c .nl))] []
 (.seq (.reg [o0 1 (.build [(.int .i64 0),(.str []),(.str [])] [(0,1,(iC 0)),(1,1,(.c (.str []))),(2,1,(.c (.str [117,110,114,101,97,99,104,97,98,108,101,32,110,111,112,32,98,108,111,99,107,32,108,111,111,112,32,105,102,32,101,108,115,101])))]),
 o0 2 (.build [(.int .i64 0),(.str []),(.str [])] [(0,1,(iC 11)),(1,1,(.c (.str []))),(2,1,(.c (.str [101,110,100,32,98,114,32,98,114,95,105,102,32,98,114,95,116,97,98,108,101,32,114,101,116,117,114,110,32,99,97,108,108,32,99,97,108,108,95,105,110,100,105,114,101,99,116])))]),
 o0 3 (.build [(.int .i64 0),(.str []),(.str [])] [(0,1,(iC 26)),(1,1,(.c (.str []))),(2,1,(.c (.str [100,114,111,112,32,115,101,108,101,99,116,32,115,101,108,101,99,116])))]),
 o0 4 (.build [(.int .i64 0),(.str []),(.str [])] [(0,1,(iC 32)),(1,1,(.c (.str [108,111,99,97,108,46]))),(2,1,(.c (.str [103,101,116,32,115,101,116,32,116,101,101])))]),
 o0 5 (.build [(.int .i64 0),(.str []),(.str [])] [(0,1,(iC 35)),(1,1,(.c (.str [103,108,111,98,97,108,46]))),(2,1,(.c (.str [103,101,116,32,115,101,116])))]),
 o0 6 (.build [(.int .i64 0),(.str []),(.str [])] [(0,1,(iC 37)),(1,1,(.c (.str [116,97,98,108,101,46]))),(2,1,(.c (.str [103,101,116,32,115,101,116])))]),
 o0 7 (.build [(.int .i64 0),(.str []),(.str [])] [(0,1,(iC 40)),(1,1,(.c (.str []))),(2,1,(.c (.str [105,51,50,46,108,111,97,100,32,105,54,52,46,108,111,97,100])))]),
 o0 8 (.build [(.int .i64 0),(.str []),(.str [])] [(0,1,(iC 44)),(1,1,(.c (.str [105,51,50,46]))),(2,1,(.c (.str [108,111,97,100,56,95,115,32,108,111,97,100,56,95,117,32,108,111,97,100,49,54,95,115,32,108,111,97,100,49,54,95,117])))]),
 o0 9 (.build [(.int .i64 0),(.str []),(.str [])] [(0,1,(iC 48)),(1,1,(.c (.str [105,54,52,46]))),(2,1,(.c (.str [108,111,97,100,56,95,115,32,108,111,97,100,56,95,117,32,108,111,97,100,49,54,95,115,32,108,111,97,100,49,54,95,117,32,108,111,97,100,51,50,95,115,32,108,111,97,100,51,50,95,117])))]),
 o0 10 (.build [(.int .i64 0),(.str []),(.str [])] [(0,1,(iC 54)),(1,1,(.c (.str []))),(2,1,(.c (.str [105,51,50,46,115,116,111,114,101,32,105,54,52,46,115,116,111,114,101])))]),
 o0 11 (.build [(.int .i64 0),(.str []),(.str [])] [(0,1,(iC 58)),(1,1,(.c (.str [105,51,50,46]))),(2,1,(.c (.str [115,116,111,114,101,56,32,115,116,111,114,101,49,54])))]),
 o0 12 (.build [(.int .i64 0),(.str []),(.str [])] [(0,1,(iC 60)),(1,1,(.c (.str [105,54,52,46]))),(2,1,(.c (.str [115,116,111,114,101,56,32,115,116,111,114,101,49,54,32,115,116,111,114,101,51,50])))]),
 o0 13 (.build [(.int .i64 0),(.str []),(.str [])] [(0,1,(iC 63)),(1,1,(.c (.str [109,101,109,111,114,121,46]))),(2,1,(.c (.str [115,105,122,101,32,103,114,111,119])))]),
 o0 14 (.build [(.int .i64 0),(.str []),(.str [])] [(0,1,(iC 65)),(1,1,(.c (.str []))),(2,1,(.c (.str [105,51,50,46,99,111,110,115,116,32,105,54,52,46,99,111,110,115,116])))]),
 o0 15 (.build [(.int .i64 0),(.str []),(.str [])] [(0,1,(iC 69)),(1,1,(.c (.str [105,51,50,46]))),(2,1,(.c (.str [101,113,122,32,101,113,32,110,101,32,108,116,95,115,32,108,116,95,117,32,103,116,95,115,32,103,116,95,117,32,108,101,95,115,32,108,101,95,117,32,103,101,95,115,32,103,101,95,117])))]),
 o0 16 (.build [(.int .i64 0),(.str []),(.str [])] [(0,1,(iC 80)),(1,1,(.c (.str [105,54,52,46]))),(2,1,(.c (.str [101,113,122,32,101,113,32,110,101,32,108,116,95,115,32,108,116,95,117,32,103,116,95,115,32,103,116,95,117,32,108,101,95,115,32,108,101,95,117,32,103,101,95,115,32,103,101,95,117])))]),
 o0 17 (.build [(.int .i64 0),(.str []),(.str [])] [(0,1,(iC 103)),(1,1,(.c (.str [105,51,50,46]))),(2,1,(.c (.str [99,108,122,32,99,116,122,32,112,111,112,99,110,116,32,97,100,100,32,115,117,98,32,109,117,108,32,100,105,118,95,115,32,100,105,118,95,117,32,114,101,109,95,115,32,114,101,109,95,117,32,97,110,100,32,111,114,32,120,111,114,32,115,104,108,32,115,104,114,95,115,32,115,104,114,95,117,32,114,111,116,108,32,114,111,116,114])))]),
 o0 18 (.build [(.int .i64 0),(.str []),(.str [])] [(0,1,(iC 121)),(1,1,(.c (.str [105,54,52,46]))),(2,1,(.c (.str [99,108,122,32,99,116,122,32,112,111,112,99,110,116,32,97,100,100,32,115,117,98,32,109,117,108,32,100,105,118,95,115,32,100,105,118,95,117,32,114,101,109,95,115,32,114,101,109,95,117,32,97,110,100,32,111,114,32,120,111,114,32,115,104,108,32,115,104,114,95,115,32,115,104,114,95,117,32,114,111,116,108,32,114,111,116,114])))]),
 o0 19 (.build [(.int .i64 0),(.str []),(.str [])] [(0,1,(iC 167)),(1,1,(.c (.str []))),(2,1,(.c (.str [105,51,50,46,119,114,97,112,95,105,54,52])))]),
 o0 20 (.build [(.int .i64 0),(.str []),(.str [])] [(0,1,(iC 172)),(1,1,(.c (.str [105,54,52,46]))),(2,1,(.c (.str [101,120,116,101,110,100,95,105,51,50,95,115,32,101,120,116,101,110,100,95,105,51,50,95,117])))]),
 o0 21 (.build [(.int .i64 0),(.str []),(.str [])] [(0,1,(iC 192)),(1,1,(.c (.str [105,51,50,46]))),(2,1,(.c (.str [101,120,116,101,110,100,56,95,115,32,101,120,116,101,110,100,49,54,95,115])))]),
 o0 22 (.build [(.int .i64 0),(.str []),(.str [])] [(0,1,(iC 194)),(1,1,(.c (.str [105,54,52,46]))),(2,1,(.c (.str [101,120,116,101,110,100,56,95,115,32,101,120,116,101,110,100,49,54,95,115,32,101,120,116,101,110,100,51,50,95,115])))]),
 o0 23 (.build [(.int .i64 0),(.str []),(.str [])] [(0,1,(iC 208)),(1,1,(.c (.str [114,101,102,46]))),(2,1,(.c (.str [110,117,108,108,32,105,115,95,110,117,108,108,32,102,117,110,99])))]),
 o0 24 (.build [(.int .i64 0),(.str []),(.str [])] [(0,1,(iC 64520)),(1,1,(.c (.str []))),(2,1,(.c (.str [109,101,109,111,114,121,46,105,110,105,116,32,100,97,116,97,46,100,114,111,112,32,109,101,109,111,114,121,46,99,111,112,121,32,109,101,109,111,114,121,46,102,105,108,108,32,116,97,98,108,101,46,105,110,105,116,32,101,108,101,109,46,100,114,111,112,32,116,97,98,108,101,46,99,111,112,121,32,116,97,98,108,101,46,103,114,111,119,32,116,97,98,108,101,46,115,105,122,101,32,116,97,98,108,101,46,102,105,108,108])))]),
 o0 25 (.bsl 341 3 [[(.int .i64 0),(.str []),(.str [])],[(.int .i64 0),(.str []),(.str [])],[(.int .i64 0),(.str []),(.str [])],[(.int .i64 0),(.str []),(.str [])],[(.int .i64 0),(.str []),(.str [])],[(.int .i64 0),(.str []),(.str [])],[(.int .i64 0),(.str []),(.str [])],[(.int .i64 0),(.str []),(.str [])],[(.int .i64 0),(.str []),(.str [])],[(.int .i64 0),(.str []),(.str [])],[(.int .i64 0),(.str []),(.str [])],[(.int .i64 0),(.str []),(.str [])],[(.int .i64 0),(.str []),(.str [])],[(.int .i64 0),(.str []),(.str [])],[(.int .i64 0),(.str []),(.str [])],[(.int .i64 0),(.str []),(.str [])],[(.int .i64 0),(.str []),(.str [])],[(.int .i64 0),(.str []),(.str [])],[(.int .i64 0),(.str []),(.str [])],[(.int .i64 0),(.str []),(.str [])],[(.int .i64 0),(.str []),(.str [])],[(.int .i64 0),(.str []),(.str [])],[(.int .i64 0),(.str []),(.str [])],[(.int .i64 0),(.str []),(.str [])]] [(0,(.s 1)),(1,(.s 2)),(2,(.s 3)),(3,(.s 4)),(4,(.s 5)),(5,(.s 6)),(6,(.s 7)),(7,(.s 8)),(8,(.s 9)),(9,(.s 10)),(10,(.s 11)),(11,(.s 12)),(12,(.s 13)),(13,(.s 14)),(14,(.s 15)),(15,(.s 16)),(16,(.s 17)),(17,(.s 18)),(18,(.s 19)),(19,(.s 20)),(20,(.s 21)),(21,(.s 22)),(22,(.s 23)),(23,(.s 24))]),
 mv 0 25] [1,2,3,4,5,6,7,8,9,10,11,12,13,14,15,16,17,18,19,20,21,22,23,24,25])
 .ret))⟩
theorem Xq:aq Tryz.prog 290=some GN:=by kernel_rfl
abbrev ZJ:FuncId:=290
def So:az :=
⟨33,1,[.tmp 2],
 (sr [o0 1 (.box 33 12 (.s 0)),
 mB 2 false] []
 (.seq (sr [lS 4 12 1,
 c1 5 9 4,
 uN 6 5,
 mv 7 6,
 oF 8 7 (.load (some 12) (.s 1)),
 oF 9 7 (.call 13 [(.s 8)]),
 oF 10 7 (.un .not (.s 9)),
 pT 11 7 10,
 mv 12 11,
 oF 13 12 (fd 11 1),
 oF 14 12 (ld 13),
 oF 15 12 (.len (.s 14)),
 oF 16 12 (.bin .eql (.s 15) (iC 0)),
 pT 17 12 16] [4,5,6,7,8,9,10,11,12,13,14,15,16]
 (.cond (.s 17)
 (sr [c0 18 10,
 mv 2 18] [18]
 .ret)
 .skip))
 (sr [lS 19 12 1,
 o0 3 (.new 33 [.nl,.nl,.nl,.nl,.nl,.nl,.nl,(.bool false),(.int .i64 0),.nl,.nl,.nl]),
 sT 12 3 19] [19]
 (sr [fa 20 11 1,
 lo 21 20,
 fa 22 11 1,
 lo 23 22,
 ln 24 23,
 bI 25 .sub 24 1,
 o0 26 (.slc 3 (.s 21) none (some (.s 25)) none),
 fa 27 11 3,
 sT 1 27 26] [20,21,22,23,24,25,26,27]
 (sr [lS 28 12 3,
 c1 29 13 28,
 mv 30 29,
 ot 31 30 (.call 10 []),
 pF 32 30 31,
 mv 2 32] [28,29,30,31,32]
 .ret)))))⟩
theorem adw:aq Tryz.prog 6=some So:=by kernel_rfl
abbrev afn:FuncId:=6
def Sq:az :=
⟨47,1,[.tmp 2],
 (sr [o0 1 (.box 33 12 (.s 0)),
 mB 2 false] []
 (.seq (sr [lS 4 12 1,
 c1 5 9 4,
 uN 6 5,
 mv 7 6,
 oF 8 7 (.load (some 12) (.s 1)),
 oF 9 7 (.call 13 [(.s 8)]),
 oF 10 7 (.un .not (.s 9)),
 pT 11 7 10,
 mv 12 11,
 oF 13 12 (fd 0 1),
 oF 14 12 (ld 13),
 oF 15 12 (.len (.s 14)),
 oF 16 12 (.bin .geq (.s 15) (iC 64)),
 pT 17 12 16,
 mv 18 17,
 oF 19 18 (fd 10 1),
 oF 20 18 (ld 19),
 oF 21 18 (.len (.s 20)),
 oF 22 18 (.bin .geq (.s 21) (iC 16)),
 pT 23 18 22] [4,5,6,7,8,9,10,11,12,13,14,15,16,17,18,19,20,21,22]
 (.cond (.s 23)
 (sr [c0 24 10,
 mv 2 24] [24]
 .ret)
 .skip))
 (sr [lS 25 12 1,
 o0 3 (.new 33 [.nl,.nl,.nl,.nl,.nl,.nl,.nl,(.bool false),(.int .i64 0),.nl,.nl,.nl]),
 sT 12 3 25] [25]
 (.seq (.reg [o0 26 (.bsl 59 2 [] []),
 fa 27 0 1,
 lo 28 27,
 o0 29 (.app 59 2 (.s 26) (.s 28)),
 o0 30 (.build [.nl,.nl] []),
 o0 31 (.bsl 59 2 [[.nl,.nl]] [(0,(.s 30))]),
 o0 32 (.app 59 2 (.s 29) (.s 31)),
 fa 33 0 3,
 sT 1 33 32] [26,27,28,29,30,31,32,33])
 (.seq (.reg [o0 34 (.bsl 43 4 [] []),
 fa 35 10 1,
 lo 36 35,
 o0 37 (.app 43 4 (.s 34) (.s 36)),
 o0 38 (.build [(.int .i64 0),(.int .i64 0),.nl,.nl] [(0,1,(iC 1))]),
 o0 39 (.bsl 43 4 [[(.int .i64 0),(.int .i64 0),.nl,.nl]] [(0,(.s 38))]),
 o0 40 (.app 43 4 (.s 37) (.s 39)),
 fa 41 10 3,
 sT 1 41 40] [34,35,36,37,38,39,40,41])
 (sr [lS 42 12 3,
 c1 43 13 42,
 mv 44 43,
 ot 45 44 (.call 10 []),
 pF 46 44 45,
 mv 2 46] [42,43,44,45,46]
 .ret))))))⟩
theorem adx:aq Tryz.prog 7=some Sq:=by kernel_rfl
abbrev afo:FuncId:=7
def GO:az :=
⟨32,1,[.cell 2 (some 4)],
 (sr [o0 1 (.box 33 12 (.s 0)),
 o0 2 (.new 38 [(.int .i64 0),(.int .i64 0),(.int .i64 0),(.int .i64 0)])] []
 (.seq (sr [lS 5 12 1,
 c1 6 15 5,
 o0 3 (.new 38 [(.int .i64 0),(.int .i64 0),(.int .i64 0),(.int .i64 0)]),
 sT 4 3 6] [5,6]
 (sr [fa 7 3 3,
 lo 8 7,
 bI 9 .neq 8 0] [7,8]
 (.cond (.s 9)
 (sr [lS 10 4 3,
 sT 4 2 10] [10]
 .ret)
 .skip)))
 (.seq (.seq (.draw [⟨lS 11 12 1,[]⟩,
 ⟨lS 12 12 1,[]⟩,
 ⟨c1 13 16 12,[1]⟩,
 ⟨o0 14 (.build [.nl,.nl,.nl,.nl,.nl,.nl,.nl,(.bool false),(.int .i64 0),.nl,.nl,.nl,.np,(.int .i64 0),(.int .i64 0),(.int .i64 0),(.int .i64 0)] [(0,12,(.s 11)),(12,1,(.s 13))]),[0,2,1]⟩,
 ⟨o0 15 (.box 77 17 (.s 14)),[3,0,2,1]⟩,
 ⟨o0 4 (.new 73 [.np]),[]⟩] [(15,4),(4,5)] [])
 (.reg [sT 1 4 15] [11,12,13,14,15]))
 (sr [lo 16 4,
 c1 17 17 16] [16,17]
 (sr [lo 18 4,
 c1 19 18 18] [18,19]
 (sr [lo 20 4,
 c1 21 19 20] [20,21]
 (sr [lo 22 4,
 fa 23 2 1,
 lo 24 23,
 ln 25 24,
 o0 26 (.mkf 21 [(.s 1),(.s 4)]),
 o0 27 (.call 20 [(.s 22),(iC 12),(.s 25),(.s 26)])] [22,23,24,25,26,27]
 (sr [lo 28 4,
 nk 29 28,
 fa 30 13 29,
 lS 31 4 30,
 sT 4 2 31] [28,29,30,31]
 .ret))))))))⟩
theorem Xw:aq Tryz.prog 11=some GO:=by kernel_rfl
abbrev KY:FuncId:=11
def G_:az :=
⟨7,1,[.tmp 2],
 (sr [o0 1 (.box 33 12 (.s 0)),
 mB 2 false] []
 (sr [lS 3 12 1,
 c1 4 11 3,
 o0 5 (.fld 3 none (.s 4)),
 bI 6 .eql 5 0,
 mv 2 6] [3,4,5,6]
 .ret))⟩
theorem X_:aq Tryz.prog 13=some G_:=by kernel_rfl
abbrev KZ:FuncId:=13
def GH:az :=
⟨107,1,[.cell 2 (some 4)],
 (sr [o0 1 (.box 33 12 (.s 0)),
 o0 2 (.new 38 [(.int .i64 0),(.int .i64 0),(.int .i64 0),(.int .i64 0)])] []
 (sr [o0 7 (.build [(.int .i64 0),(.int .i64 0),(.int .i64 0),(.int .i64 0)] []),
 o0 8 (.box 89 4 (.s 7)),
 mv 3 8] [7,8]
 (sr [o0 9 (.build [(.int .i64 0),(.int .i64 0),(.int .i64 0),(.int .i64 0)] []),
 o0 4 (.new 90 [(.int .i64 0),(.int .i64 0),(.int .i64 0),(.int .i64 0)]),
 sT 4 4 9] [9]
 (.seq (sr [fa 10 1 1,
 lo 11 10,
 ln 12 11,
 mI 13 0] [10]
 (.block 0 (.loop (sr [bS 14 .lss 13 12] []
 (.seq (.cond (.s 14)
 .skip
 (.exit 0))
 (.seq (.block 1 (.seq (.reg [ia 15 13 11 13,
 lS 16 13 15,
 o0 6 (.new 56 [(.str []),(.str []),(.int .i64 0),(.int .i64 0),(.int .i64 0),(.int .i64 0),(.int .i64 0),(.bool false),(.int .i64 0),(.int .i64 0),(.bool false),(.int .i64 0),(.bool false)]),
 sT 13 6 16] [15,16])
 (sr [fa 17 2 6,
 lo 18 17,
 bI 19 .geq 18 0,
 mv 20 19,
 ot 21 20 (fd 2 6),
 ot 22 20 (ld 21),
 ot 23 20 (.bin .leq (.s 22) (iC 3)),
 pF 24 20 23] [17,18,19,20,21,22,23]
 (.cond (.s 24)
 (.reg [fa 25 2 6,
 lo 26 25,
 o0 27 (.aadr 1 4 (.s 4) (.s 26)),
 lo 28 27,
 bI 29 .add 28 1,
 o0 30 (.aadr 1 4 (.s 4) (.s 26)),
 sT 1 30 29] [25,26,27,28,29,30])
 .skip))))
 (.reg [bI 31 .add 13 1,
 mv 13 31] [31])))))))
 (.seq (.reg [mv 32 3,
 fa 33 0 1,
 lo 34 33,
 o0 35 (.call 32 [(.s 32),(iC 1),(.s 34),(iC 64),(iC 0),(.c (.fn 33 []))])] [32,33,34,35])
 (.seq (.reg [mv 36 3,
 fa 37 1 1,
 lo 38 37,
 o0 39 (.call 35 [(.s 36),(iC 2),(.s 38),(iC 32),(iC 0),(.c (.fn 36 []))])] [36,37,38,39])
 (.seq (.reg [mv 40 3,
 fa 41 2 1,
 lo 42 41,
 o0 43 (.aadr 1 4 (.s 4) (iC 0)),
 lo 44 43,
 o0 45 (.call 38 [(.s 40),(iC 3),(.s 42),(iC 64),(.s 44),(.c (.fn 39 []))])] [40,41,42,43,44,45])
 (.seq (.reg [mv 46 3,
 fa 47 3 1,
 lo 48 47,
 o0 49 (.aadr 1 4 (.s 4) (iC 1)),
 lo 50 49,
 o0 51 (.call 41 [(.s 46),(iC 4),(.s 48),(iC 4),(.s 50),(.c (.fn 42 []))])] [46,47,48,49,50,51])
 (.seq (.reg [mv 52 3,
 fa 53 4 1,
 lo 54 53,
 o0 55 (.aadr 1 4 (.s 4) (iC 2)),
 lo 56 55,
 o0 57 (.call 44 [(.s 52),(iC 5),(.s 54),(iC 2),(.s 56),(.c (.fn 45 []))])] [52,53,54,55,56,57])
 (.seq (.reg [mv 58 3,
 fa 59 5 1,
 lo 60 59,
 o0 61 (.aadr 1 4 (.s 4) (iC 3)),
 lo 62 61,
 o0 63 (.call 47 [(.s 58),(iC 6),(.s 60),(iC 32),(.s 62),(.c (.fn 48 []))])] [58,59,60,61,62,63])
 (.seq (.reg [mv 64 3,
 fa 65 6 1,
 lo 66 65,
 o0 67 (.call 51 [(.s 64),(iC 7),(.s 66),(iC 64),(iC 0),(.c (.fn 52 []))])] [64,65,66,67])
 (.seq (sr [fa 68 7 1,
 lo 69 68,
 mv 70 69,
 ot 71 70 (fd 8 1),
 ot 72 70 (ld 71),
 ot 73 70 (.call 54 [(.s 72)]),
 ot 74 70 (.un .not (.s 73)),
 pF 75 70 74] [68,69,70,71,72,73,74]
 (.cond (.s 75)
 (.reg [mv 76 3,
 o0 77 (.call 55 [(.s 76),(iC 8),(iC 0),(iC 0),(iC 11)])] [76,77])
 .skip))
 (.seq (.reg [mv 78 3,
 fa 79 9 1,
 lo 80 79,
 o0 81 (.call 56 [(.s 78),(iC 9),(.s 80),(iC 16),(iC 0),(.c (.fn 57 []))])] [78,79,80,81])
 (.seq (.reg [mv 82 3,
 fa 83 10 1,
 lo 84 83,
 o0 85 (.call 59 [(.s 82),(iC 10),(.s 84),(iC 16),(iC 0),(.c (.fn 60 []))])] [82,83,84,85])
 (.seq (.reg [mv 86 3,
 fa 87 11 1,
 lo 88 87,
 o0 89 (.call 62 [(.s 86),(iC 11),(.s 88),(iC 8),(iC 0),(.c (.fn 63 []))])] [86,87,88,89])
 (.seq (sr [mv 90 3,
 nk 91 90,
 fa 92 0 91,
 fa 93 3 92,
 lo 94 93,
 bI 95 .eql 94 0] [90,91,92,93,94]
 (.cond (.s 95)
 (.reg [mv 96 3,
 fa 97 2 1,
 lo 98 97,
 fa 99 2 1,
 lo 100 99,
 ln 101 100,
 o0 102 (.call 38 [(.s 96),(iC 12),(.s 98),(.s 101),(iC 0),(.c (.fn 65 []))])] [96,97,98,99,100,101,102])
 .skip))
 (sr [mv 103 3,
 nk 104 103,
 fa 105 0 104,
 lS 106 4 105,
 sT 4 2 106] [103,104,105,106]
 .ret)))))))))))))))))⟩
theorem Xk:aq Tryz.prog 15=some GH:=by kernel_rfl
abbrev ZE:FuncId:=15
def Gt:az :=
⟨15,3,[.tmp 4,.tmp 5],
 (sr [mI 4 0,
 mI 5 0] []
 (.seq (.seq (.draw [⟨lS 6 12 1,[]⟩,
 ⟨lo 7 2,[]⟩,
 ⟨nk 8 7,[1]⟩,
 ⟨fa 9 12 8,[2,1]⟩,
 ⟨lo 10 9,[3,2,1]⟩,
 ⟨mv 11 0,[]⟩] [] [])
 (sr [c3 12 22 6 10 11] []
 (.seq (.draw [⟨xt 13 12 0,[]⟩,
 ⟨xt 14 12 1,[]⟩] [] [])
 (sr [mv 4 13] []
 (.reg [mv 5 14] [6,7,8,9,10,11,12,13,14])))))
 .ret))⟩
theorem WZ:aq Tryz.prog 21=some Gt:=by kernel_rfl
abbrev KW:FuncId:=21
def ab2:az :=
⟨56,6,[],
 (.seq (sr [mv 16 2,
 ln 17 16,
 mv 18 4,
 bS 19 .add 17 18,
 mv 20 3,
 bS 21 .gtr 19 20] [16,17,18,19,20]
 (.cond (.s 21)
 (.reg [mv 22 0,
 mv 23 1,
 mv 24 3,
 mv 25 4,
 bS 26 .sub 24 25,
 o0 27 (.mnx true (iC 0) (.s 26)),
 o0 28 (.call 55 [(.s 22),(.s 23),(.s 27),(iC 0),(iC 6)])] [22,23,24,25,26,27,28])
 .skip))
 (sr [mv 29 2,
 ln 30 29,
 mI 31 0] []
 (.block 0 (.loop (sr [bS 32 .lss 31 30] []
 (.seq (.cond (.s 32)
 .skip
 (.exit 0))
 (.seq (.block 1 (sr [mv 33 31,
 ia 34 3 29 31,
 lS 35 3 34,
 o0 13 (.new 68 [(.int .i64 0),.nl,.nl]),
 mv 12 33,
 sT 3 13 35] [33,34,35]
 (.seq (sr [mv 36 0,
 nk 37 36,
 fa 38 0 37,
 fa 39 3 38,
 lo 40 39,
 bI 41 .neq 40 0] [36,37,38,39,40]
 (cR 41))
 (sr [mv 43 5,
 mv 44 12,
 lS 45 3 13,
 o0 46 (.callv (.s 43) [(.s 44),(.s 45)]),
 mv 42 46,
 xt 47 42 0,
 xt 48 42 1,
 mv 14 47,
 mv 15 48] [43,44,45,46,42,47,48]
 (.reg [mv 49 0,
 mv 50 1,
 mv 51 12,
 mv 52 14,
 mv 53 15,
 o0 54 (.call 55 [(.s 49),(.s 50),(.s 51),(.s 52),(.s 53)])] [49,50,51,52,53,54])))))
 (.reg [bI 55 .add 31 1,
 mv 31 55] [55]))))))))⟩
theorem acR:aq Tryz.prog 38=some ab2:=by kernel_rfl
abbrev UC:FuncId:=38
def GQ:az :=
⟨13,1,[.tmp 2],
 (sr [o0 1 (.box 52 4 (.s 0)),
 mI 2 0] []
 (.seq (.block 0 (sr [fa 4 0 1,
 lo 5 4,
 c1 6 110 5,
 uN 7 6,
 mv 3 7] [4,5,6,7]
 (.cond (.s 3)
 (sr [mI 2 12] []
 .ret)
 (sr [fa 9 1 1,
 lS 10 3 9,
 o0 11 (.call 111 [(.s 10),(iC 1024)]),
 uN 12 11,
 mv 8 12] [9,10,11,12]
 (.cond (.s 8)
 (sr [mI 2 20] []
 .ret)
 .skip)))))
 (sr [mI 2 0] []
 .ret)))⟩
theorem XA:aq Tryz.prog 43=some GQ:=by kernel_rfl
abbrev ZS:FuncId:=43
def SA:az :=
⟨8,2,[.tmp 4,.tmp 5],
 (sr [o0 3 (.box 50 3 (.s 1)),
 mI 4 0,
 mI 5 0] []
 (sr [lS 6 3 3,
 c1 7 46 6,
 mI 4 0,
 mv 5 7] [6,7]
 .ret))⟩
theorem adH:aq Tryz.prog 45=some SA:=by kernel_rfl
abbrev aaJ:FuncId:=45
def FX4:az :=
⟨56,6,[],
 (.seq (sr [mv 16 2,
 ln 17 16,
 mv 18 4,
 bS 19 .add 17 18,
 mv 20 3,
 bS 21 .gtr 19 20] [16,17,18,19,20]
 (.cond (.s 21)
 (.reg [mv 22 0,
 mv 23 1,
 mv 24 3,
 mv 25 4,
 bS 26 .sub 24 25,
 o0 27 (.mnx true (iC 0) (.s 26)),
 o0 28 (.call 55 [(.s 22),(.s 23),(.s 27),(iC 0),(iC 6)])] [22,23,24,25,26,27,28])
 .skip))
 (sr [mv 29 2,
 ln 30 29,
 mI 31 0] []
 (.block 0 (.loop (sr [bS 32 .lss 31 30] []
 (.seq (.cond (.s 32)
 .skip
 (.exit 0))
 (.seq (.block 1 (sr [mv 33 31,
 ia 34 3 29 31,
 lS 35 3 34,
 o0 13 (.new 83 [(.int .i64 0),(.bool false),.nl]),
 mv 12 33,
 sT 3 13 35] [33,34,35]
 (.seq (sr [mv 36 0,
 nk 37 36,
 fa 38 0 37,
 fa 39 3 38,
 lo 40 39,
 bI 41 .neq 40 0] [36,37,38,39,40]
 (cR 41))
 (sr [mv 43 5,
 mv 44 12,
 lS 45 3 13,
 o0 46 (.callv (.s 43) [(.s 44),(.s 45)]),
 mv 42 46,
 xt 47 42 0,
 xt 48 42 1,
 mv 14 47,
 mv 15 48] [43,44,45,46,42,47,48]
 (.reg [mv 49 0,
 mv 50 1,
 mv 51 12,
 mv 52 14,
 mv 53 15,
 o0 54 (.call 55 [(.s 49),(.s 50),(.s 51),(.s 52),(.s 53)])] [49,50,51,52,53,54])))))
 (.reg [bI 55 .add 31 1,
 mv 31 55] [55]))))))))⟩
theorem cX4:aq Tryz.prog 47=some FX4:=by kernel_rfl
abbrev nX4:FuncId:=47
def CA:az :=
⟨9,1,[.tmp 2],
 (sr [mB 2 false] []
 (sr [mv 3 0,
 bI 4 .geq 3 0,
 mv 5 4,
 mt 6 0 5,
 ot 7 5 (.bin .lss (.s 6) (iC 4294967296)),
 pF 8 5 7,
 mv 2 8] [3,4,5,6,7,8]
 .ret))⟩
theorem Xz:aq Tryz.prog 54=some CA:=by kernel_rfl
abbrev ZR:FuncId:=54
def ab4:az :=
⟨56,6,[],
 (.seq (sr [mv 16 2,
 ln 17 16,
 mv 18 4,
 bS 19 .add 17 18,
 mv 20 3,
 bS 21 .gtr 19 20] [16,17,18,19,20]
 (.cond (.s 21)
 (.reg [mv 22 0,
 mv 23 1,
 mv 24 3,
 mv 25 4,
 bS 26 .sub 24 25,
 o0 27 (.mnx true (iC 0) (.s 26)),
 o0 28 (.call 55 [(.s 22),(.s 23),(.s 27),(iC 0),(iC 6)])] [22,23,24,25,26,27,28])
 .skip))
 (sr [mv 29 2,
 ln 30 29,
 mI 31 0] []
 (.block 0 (.loop (sr [bS 32 .lss 31 30] []
 (.seq (.cond (.s 32)
 .skip
 (.exit 0))
 (.seq (.block 1 (sr [mv 33 31,
 ia 34 5 29 31,
 lS 35 5 34,
 o0 13 (.new 86 [(.int .i64 0),(.int .i64 0),.nl,(.int .i64 0),.nl]),
 mv 12 33,
 sT 5 13 35] [33,34,35]
 (.seq (sr [mv 36 0,
 nk 37 36,
 fa 38 0 37,
 fa 39 3 38,
 lo 40 39,
 bI 41 .neq 40 0] [36,37,38,39,40]
 (cR 41))
 (sr [mv 43 5,
 mv 44 12,
 lS 45 5 13,
 o0 46 (.callv (.s 43) [(.s 44),(.s 45)]),
 mv 42 46,
 xt 47 42 0,
 xt 48 42 1,
 mv 14 47,
 mv 15 48] [43,44,45,46,42,47,48]
 (.reg [mv 49 0,
 mv 50 1,
 mv 51 12,
 mv 52 14,
 mv 53 15,
 o0 54 (.call 55 [(.s 49),(.s 50),(.s 51),(.s 52),(.s 53)])] [49,50,51,52,53,54])))))
 (.reg [bI 55 .add 31 1,
 mv 31 55] [55]))))))))⟩
theorem acT:aq Tryz.prog 56=some ab4:=by kernel_rfl
abbrev aau:FuncId:=56
def abV:az :=
⟨56,6,[],
 (.seq (sr [mv 16 2,
 ln 17 16,
 mv 18 4,
 bS 19 .add 17 18,
 mv 20 3,
 bS 21 .gtr 19 20] [16,17,18,19,20]
 (.cond (.s 21)
 (.reg [mv 22 0,
 mv 23 1,
 mv 24 3,
 mv 25 4,
 bS 26 .sub 24 25,
 o0 27 (.mnx true (iC 0) (.s 26)),
 o0 28 (.call 55 [(.s 22),(.s 23),(.s 27),(iC 0),(iC 6)])] [22,23,24,25,26,27,28])
 .skip))
 (sr [mv 29 2,
 ln 30 29,
 mI 31 0] []
 (.block 0 (.loop (sr [bS 32 .lss 31 30] []
 (.seq (.cond (.s 32)
 .skip
 (.exit 0))
 (.seq (.block 1 (.seq (.reg [mv 33 31,
 ia 34 3 29 31,
 lS 35 3 34,
 o0 13 (.new 45 [(.int .i64 0),(.str []),.nl]),
 mv 12 33,
 sT 3 13 35] [33,34,35])
 (.seq (sr [mv 36 0,
 nk 37 36,
 fa 38 0 37,
 fa 39 3 38,
 lo 40 39,
 bI 41 .neq 40 0] [36,37,38,39,40]
 (cR 41))
 (sr [mv 43 5,
 mv 44 12,
 lS 45 3 13,
 o0 46 (.callv (.s 43) [(.s 44),(.s 45)]),
 mv 42 46,
 xt 47 42 0,
 xt 48 42 1,
 mv 14 47,
 mv 15 48] [43,44,45,46,42,47,48]
 (.reg [mv 49 0,
 mv 50 1,
 mv 51 12,
 mv 52 14,
 mv 53 15,
 o0 54 (.call 55 [(.s 49),(.s 50),(.s 51),(.s 52),(.s 53)])] [49,50,51,52,53,54])))))
 (.reg [bI 55 .add 31 1,
 mv 31 55] [55]))))))))⟩
theorem acw:aq Tryz.prog 62=some abV:=by kernel_rfl
abbrev aal:FuncId:=62
def GU:az :=
⟨65,2,[],
 (sr [o0 2 (.box 56 13 (.s 0))] []
 (.seq (.seq (.draw [⟨lo 3 1,[]⟩,
 ⟨nk 4 3,[0]⟩,
 ⟨fa 5 7 4,[1,0]⟩,
 ⟨lo 6 5,[2,1,0]⟩,
 ⟨fa 7 2 2,[]⟩,
 ⟨lo 8 7,[4]⟩] [] [])
 (sr [o0 9 (.mop (.mlk false .i (.int .i64 0)) [(.s 6),(.s 8)])] []
 (sr [bI 10 .add 9 1] []
 (.reg [⟨none,.mop (.mup .i) [(.s 6),(.s 8),(.s 10)],none⟩] [3,4,5,6,7,8,9,10]))))
 (sr [fa 11 2 2,
 lo 12 11] [11]
 (.block 0 (sr [bI 14 .eql 12 0,
 mv 13 14] [14]
 (.cond (.s 13)
 (.seq (.draw [⟨lo 15 1,[]⟩,
 ⟨lo 16 1,[]⟩,
 ⟨nk 17 16,[1]⟩,
 ⟨fa 18 1 17,[2,1]⟩,
 ⟨lo 19 18,[3,2,1]⟩,
 ⟨fa 20 3 2,[]⟩,
 ⟨lo 21 20,[5]⟩,
 ⟨o0 22 (.bsl 3 1 [[(.int .i64 0)]] [(0,(.s 21))]),[6,5]⟩,
 ⟨o0 23 (.app 3 1 (.s 19) (.s 22)),[4,3,2,1,7,6,5]⟩] [(22,7),(23,8)] [])
 (sr [nk 24 15] []
 (sr [fa 25 1 24] []
 (.reg [sT 1 25 23] [15,16,17,18,19,20,21,22,23,24,25]))))
 (sr [bI 27 .eql 12 1,
 mv 26 27] [27]
 (.cond (.s 26)
 (.seq (.draw [⟨lo 28 1,[]⟩,
 ⟨lo 29 1,[]⟩,
 ⟨nk 30 29,[1]⟩,
 ⟨fa 31 2 30,[2,1]⟩,
 ⟨lo 32 31,[3,2,1]⟩,
 ⟨fa 33 4 2,[]⟩,
 ⟨lS 34 4 33,[5]⟩,
 ⟨o0 35 (.bsl 52 4 [[(.int .i64 0),(.int .i64 0),(.int .i64 0),(.bool false)]] [(0,(.s 34))]),[6,5]⟩,
 ⟨o0 36 (.app 52 4 (.s 32) (.s 35)),[4,3,2,1,7,6,5]⟩] [(35,7),(36,8)] [])
 (sr [nk 37 28] []
 (sr [fa 38 2 37] []
 (.reg [sT 1 38 36] [28,29,30,31,32,33,34,35,36,37,38]))))
 (sr [bI 40 .eql 12 2,
 mv 39 40] [40]
 (.cond (.s 39)
 (.seq (.draw [⟨lo 41 1,[]⟩,
 ⟨lo 42 1,[]⟩,
 ⟨nk 43 42,[1]⟩,
 ⟨fa 44 3 43,[2,1]⟩,
 ⟨lo 45 44,[3,2,1]⟩,
 ⟨fa 46 8 2,[]⟩,
 ⟨lS 47 3 46,[5]⟩,
 ⟨o0 48 (.bsl 50 3 [[(.int .i64 0),(.int .i64 0),(.bool false)]] [(0,(.s 47))]),[6,5]⟩,
 ⟨o0 49 (.app 50 3 (.s 45) (.s 48)),[4,3,2,1,7,6,5]⟩] [(48,7),(49,8)] [])
 (sr [nk 50 41] []
 (sr [fa 51 3 50] []
 (.reg [sT 1 51 49] [41,42,43,44,45,46,47,48,49,50,51]))))
 (sr [bI 53 .eql 12 3,
 mv 52 53] [53]
 (.cond (.s 52)
 (.seq (.draw [⟨lo 54 1,[]⟩,
 ⟨lo 55 1,[]⟩,
 ⟨nk 56 55,[1]⟩,
 ⟨fa 57 4 56,[2,1]⟩,
 ⟨lo 58 57,[3,2,1]⟩,
 ⟨fa 59 11 2,[]⟩,
 ⟨lS 60 2 59,[5]⟩,
 ⟨o0 61 (.bsl 54 2 [[(.int .i64 0),(.bool false)]] [(0,(.s 60))]),[6,5]⟩,
 ⟨o0 62 (.app 54 2 (.s 58) (.s 61)),[4,3,2,1,7,6,5]⟩] [(61,7),(62,8)] [])
 (sr [nk 63 54] []
 (sr [fa 64 4 63] []
 (.reg [sT 1 64 62] [54,55,56,57,58,59,60,61,62,63,64]))))
 .skip))))))))))))⟩
theorem XJ:aq Tryz.prog 67=some GU:=by kernel_rfl
abbrev Rc:FuncId:=67
def R6:az :=
⟨26,2,[.cell 4 (some 2),.tmp 5],
 (sr [o0 4 (.new 59 [.nl,.nl]),
 mB 5 false] []
 (sr [mv 9 0,
 c1 10 122 9,
 nk 11 10,
 fa 12 1 11,
 lo 13 12,
 mv 14 1,
 c2 15 121 13 14,
 mv 8 15,
 xt 16 8 0,
 xt 17 8 1,
 mv 6 16,
 mv 7 17] [9,10,11,12,13,14,15,8,16,17]
 (.seq (sr [mv 18 7,
 uN 19 18] [18]
 (.cond (.s 19)
 (sr [o0 20 (.build [.nl,.nl] []),
 sT 2 4 20,
 mB 5 false] [20]
 .ret)
 .skip))
 (sr [mv 21 0,
 mv 22 6,
 c2 23 114 21 22,
 xt 24 23 0,
 xt 25 23 1,
 sT 2 4 24,
 mv 5 25] [21,22,23,24,25]
 .ret))))⟩
theorem ac5:aq Tryz.prog 77=some R6:=by kernel_rfl
abbrev ae3:FuncId:=77
def FX6:az :=
⟨30,2,[.tmp 3,.tmp 4],
 (sr [mI 3 0,
 mI 4 0] []
 (sr [lo 6 1,
 nk 7 6,
 fa 8 0 7,
 fa 9 10 8,
 lo 10 9,
 mv 11 0,
 ia 12 4 10 11,
 lS 13 4 12,
 o0 5 (.new 43 [(.int .i64 0),(.int .i64 0),.nl,.nl]),
 sT 4 5 13] [6,7,8,9,10,11,12,13]
 (.seq (.block 0 (sr [fa 15 0 5,
 lo 16 15,
 bI 17 .neq 16 0,
 mv 14 17] [15,16,17]
 (.cond (.s 14)
 (sr [mI 3 0,
 mI 4 0] []
 .ret)
 (sr [lo 19 1,
 fa 20 1 5,
 lo 21 20,
 o0 22 (.call 75 [(.s 19),(iC 2),(.s 21)]),
 uN 23 22,
 mv 18 23] [19,20,21,22,23]
 (.cond (.s 18)
 (sr [mI 3 0,
 mI 4 11] []
 .ret)
 .skip)))))
 (sr [lo 24 1,
 fa 25 2 5,
 lo 26 25,
 o0 27 (.call 73 [(.s 24),(.s 26),(iC 1)]),
 xt 28 27 0,
 xt 29 27 1,
 mv 3 28,
 mv 4 29] [24,25,26,27,28,29]
 .ret))))⟩
theorem cX6:aq Tryz.prog 79=some FX6:=by kernel_rfl
abbrev nX6:FuncId:=79
def GW:az :=
⟨81,4,[.tmp 8,.tmp 9],
 (sr [o0 4 (.box 33 12 (.s 0)),
 mI 8 0,
 mI 9 0] []
 (.seq (sr [mv 20 1,
 o0 21 (.pbin .eql (.s 20) (.c .np))] [20]
 (.cond (.s 21)
 (sr [mI 8 0,
 mI 9 2] []
 .ret)
 .skip))
 (sr [lS 23 12 4,
 mv 24 1,
 mv 25 2,
 c3 26 126 23 24 25,
 mv 22 26,
 xt 27 22 0,
 xt 28 22 1,
 mv 10 27,
 mv 11 28] [23,24,25,26,22,27,28]
 (.seq (sr [mv 29 11,
 uN 30 29] [29]
 (.cond (.s 30)
 (sr [mI 8 0,
 mI 9 11] []
 .ret)
 .skip))
 (sr [fa 31 2 4,
 lo 32 31,
 mv 33 2,
 ia 34 3 32 33,
 fa 35 2 34,
 lo 36 35,
 mv 12 36] [31,32,33,34,35,36]
 (.seq (sr [mv 38 12,
 c1 39 127 38,
 mv 37 39,
 xt 40 37 0,
 xt 41 37 1,
 mv 13 40,
 mv 14 41] [38,39,37,40,41]
 (sr [mv 42 14,
 bI 43 .neq 42 0] [42]
 (.cond (.s 43)
 (sr [mv 44 13,
 mv 45 14,
 mv 8 44,
 mv 9 45] [44,45]
 .ret)
 .skip)))
 (sr [lS 47 12 4,
 mv 48 1,
 mv 49 2,
 c3 50 128 47 48 49,
 mv 46 50,
 xt 51 46 0,
 xt 52 46 1,
 o0 15 (.new 59 [.nl,.nl]),
 sT 2 15 51,
 mv 16 52] [47,48,49,50,46,51,52,16]
 (sr [fa 53 1 15,
 lo 54 53,
 c1 55 129 54,
 mv 17 55] [53,54,55]
 (.seq (sr [mv 56 12,
 ln 57 56,
 mI 58 0] [56]
 (.block 0 (.loop (sr [bS 59 .lss 58 57] []
 (.seq (.cond (.s 59)
 .skip
 (.exit 0))
 (.seq (.block 1 (sr [mv 60 58,
 mv 18 60] [60]
 (sr [mv 61 3,
 mv 62 17,
 o0 63 (.callv (.s 61) [(.s 62)])] [61,62,63]
 (.seq (sr [mv 64 17,
 mv 65 1,
 mv 66 10,
 mv 67 12,
 mv 68 18,
 ia 69 9 67 68,
 lS 70 9 69,
 o0 71 (.call 130 [(.s 64),(.s 65),(.s 66),(.s 70)]),
 mv 19 71] [64,65,66,67,68,69,70,71]
 (sr [mv 72 19,
 bI 73 .neq 72 0] [72]
 (.cond (.s 73)
 (sr [mv 74 18,
 mv 75 19,
 mv 8 74,
 mv 9 75] [74,75]
 .ret)
 .skip)))
 (sr [mv 76 17,
 c1 77 131 76,
 c1 78 132 77] [76,77]
 (.cond (.s 78)
 (sr [mv 79 18,
 mv 8 79,
 mI 9 6] [79]
 .ret)
 .skip))))))
 (.reg [bI 80 .add 58 1,
 mv 58 80] [80])))))))
 (sr [mI 8 0,
 mI 9 0] []
 .ret))))))))))⟩
theorem XL:aq Tryz.prog 83=some GW:=by kernel_rfl
abbrev Z2:FuncId:=83
def GY:az :=
⟨6,1,[.tmp 2],
 (sr [mB 2 false] []
 (.seq (.reg [mv 3 0,
 o0 4 (.call 155 [(.s 3),(.c (.fn 156 []))]),
 uN 5 4,
 mv 2 5] [3,4,5])
 .ret))⟩
theorem XR:aq Tryz.prog 107=some GY:=by kernel_rfl
abbrev Z8:FuncId:=107
def CD:az :=
⟨11,1,[.tmp 2],
 (sr [mI 2 0] []
 (.seq (.block 0 (sr [mv 4 0,
 o0 5 (.slen (.s 4)),
 bI 6 .gtr 5 64,
 mv 3 6] [4,5,6]
 (.cond (.s 3)
 (sr [mI 2 6] []
 .ret)
 (sr [mv 8 0,
 c1 9 157 8,
 uN 10 9,
 mv 7 10] [8,9,10]
 (.cond (.s 7)
 (sr [mI 2 9] []
 .ret)
 .skip)))))
 (sr [mI 2 0] []
 .ret)))⟩
theorem XQ:aq Tryz.prog 108=some CD:=by kernel_rfl
abbrev Z7:FuncId:=108
def G6:az :=
⟨9,1,[.tmp 2],
 (sr [mB 2 false] []
 (sr [mv 3 0,
 c1 4 158 3,
 mv 5 4,
 mf 6 0 5,
 oF 7 5 (.call 110 [(.s 6)]),
 pT 8 5 7,
 mv 2 8] [3,4,5,6,7,8]
 .ret))⟩
theorem X2:aq Tryz.prog 112=some G6:=by kernel_rfl
abbrev aai:FuncId:=112
def Gz:az :=
⟨143,1,[.tmp 2],
 (sr [o0 1 (.box 66 9 (.s 0)),
 mB 2 false] []
 (sr [fa 9 0 1,
 lo 10 9,
 c1 11 159 10,
 mv 3 11] [9,10,11]
 (sr [mv 13 3,
 c1 14 160 13,
 mv 12 14,
 xt 15 12 0,
 xt 16 12 1,
 xt 17 12 2,
 mv 4 15,
 mv 5 16,
 mv 6 17] [13,14,12,15,16,17]
 (.seq (sr [fa 18 0 1,
 lo 19 18,
 c1 20 161 19,
 uN 21 20,
 mv 22 21,
 mf 23 4 22,
 oF 24 22 (.un .not (.s 23)),
 mf 25 24 22,
 ot 26 25 (fd 1 1),
 ot 27 25 (ld 26),
 ot 28 25 (.bin .neq (.s 27) (iC 0)),
 oF 29 22 (.pick (.s 25) (.s 28) (bC false)),
 pT 30 22 29,
 mv 31 30,
 mf 32 5 31,
 oF 33 31 (.un .not (.s 32)),
 mf 34 33 31,
 ot 35 34 (fd 2 1),
 ot 36 34 (ld 35),
 ot 37 34 (.bin .neq (.s 36) (iC 0)),
 oF 38 31 (.pick (.s 34) (.s 37) (bC false)),
 pT 39 31 38,
 mv 40 39,
 mf 41 6 40,
 oF 42 40 (.un .not (.s 41)),
 mf 43 42 40,
 ot 44 43 (fd 3 1),
 ot 45 43 (ld 44),
 ot 46 43 (.bin .neq (.s 45) (.c (.int .u64 0))),
 oF 47 40 (.pick (.s 43) (.s 46) (bC false)),
 pT 48 40 47,
 mv 49 48,
 oF 50 49 (fd 1 1),
 oF 51 49 (ld 50),
 oF 52 49 (.call 162 [(.s 51)]),
 oF 53 49 (.un .not (.s 52)),
 pT 54 49 53,
 mv 55 54,
 oF 56 55 (fd 2 1),
 oF 57 55 (ld 56),
 oF 58 55 (.call 162 [(.s 57)]),
 oF 59 55 (.un .not (.s 58)),
 pT 60 55 59] [18,19,20,21,22,23,24,25,26,27,28,29,30,31,32,33,34,35,36,37,38,39,40,41,42,43,44,45,46,47,48,49,50,51,52,53,54,55,56,57,58,59]
 (.cond (.s 60)
 (sr [mB 2 false] []
 .ret)
 .skip))
 (.seq (sr [mv 61 3,
 bI 62 .neq 61 19,
 mv 63 62,
 ot 64 63 (fd 3 1),
 ot 65 63 (ld 64),
 ot 66 63 (.bin .geq (.s 65) (.c (.int .u64 4294967296))),
 pF 67 63 66,
 mv 68 67,
 mf 69 3 68,
 oF 70 68 (.bin .neq (.s 69) (iC 1)),
 mf 71 70 68,
 ot 72 71 (fd 4 1),
 ot 73 71 (.load (some 3) (.s 72)),
 ot 74 71 (.build [(.int .i64 0),(.int .i64 0),(.int .i64 0)] []),
 ot 75 71 (.sbin .neq [.i,.i,.i] (.s 73) (.s 74)),
 oF 76 68 (.pick (.s 71) (.s 75) (bC false)),
 pT 77 68 76,
 mv 78 77,
 mf 79 3 78,
 oF 80 78 (.bin .neq (.s 79) (iC 6)),
 mf 81 80 78,
 ot 82 81 (fd 7 1),
 ot 83 81 (ld 82),
 ot 84 81 (.len (.s 83)),
 ot 85 81 (.bin .gtr (.s 84) (iC 0)),
 oF 86 78 (.pick (.s 81) (.s 85) (bC false)),
 pT 87 78 86,
 mv 88 87,
 mf 89 3 88,
 oF 90 88 (.bin .neq (.s 89) (iC 3)),
 mf 91 90 88,
 ot 92 91 (fd 8 1),
 ot 93 91 (ld 92),
 ot 94 91 (.len (.s 93)),
 ot 95 91 (.bin .gtr (.s 94) (iC 0)),
 oF 96 88 (.pick (.s 91) (.s 95) (bC false)),
 pT 97 88 96] [61,62,63,64,65,66,67,68,69,70,71,72,73,74,75,76,77,78,79,80,81,82,83,84,85,86,87,88,89,90,91,92,93,94,95,96]
 (.cond (.s 97)
 (sr [mB 2 false] []
 .ret)
 .skip))
 (.seq (sr [mv 98 3] []
 (.block 0 (sr [bI 100 .eql 98 1,
 mv 99 100] [100]
 (.cond (.s 99)
 (sr [fa 101 4 1,
 lS 102 3 101,
 c1 103 163 102,
 mv 2 103] [101,102,103]
 .ret)
 (sr [bI 105 .eql 98 6,
 mv 104 105] [105]
 (.cond (.s 104)
 (sr [fa 106 7 1,
 lo 107 106,
 ln 108 107,
 bI 109 .eql 108 1,
 mv 110 109,
 ot 111 110 (fd 7 1),
 ot 112 110 (ld 111),
 ot 113 110 (.iadr 1 (.s 112) (iC 0)),
 ot 114 110 (ld 113),
 ot 115 110 (.call 164 [(.s 114)]),
 pF 116 110 115,
 mv 2 116] [106,107,108,109,110,111,112,113,114,115,116]
 .ret)
 (sr [bI 118 .eql 98 17,
 mv 117 118] [118]
 (.cond (.s 117)
 (sr [fa 119 1 1,
 lo 120 119,
 bI 121 .leq 120 63,
 mv 2 121] [119,120,121]
 .ret)
 (sr [bI 123 .eql 98 20,
 mv 122 123] [123]
 (.cond (.s 122)
 (sr [fa 124 1 1,
 lo 125 124,
 bI 126 .eql 125 3,
 mv 127 126,
 oF 128 127 (fd 1 1),
 oF 129 127 (ld 128),
 oF 130 127 (.bin .eql (.s 129) (iC 4)),
 pT 131 127 130,
 mv 2 131] [124,125,126,127,128,129,130,131]
 .ret)
 .skip))))))))))
 (.seq (sr [fa 132 8 1,
 lo 133 132,
 ln 134 133,
 mI 135 0] [132]
 (.block 1 (.loop (sr [bS 136 .lss 135 134] []
 (.seq (.cond (.s 136)
 .skip
 (.exit 1))
 (.seq (.block 2 (sr [ia 137 1 133 135,
 lo 138 137,
 mv 8 138] [137,138]
 (sr [mv 139 8,
 c1 140 162 139,
 uN 141 140] [139,140]
 (.cond (.s 141)
 (sr [mB 2 false] []
 .ret)
 .skip))))
 (.reg [bI 142 .add 135 1,
 mv 135 142] [142])))))))
 (sr [mB 2 true] []
 .ret))))))))⟩
theorem W9:aq Tryz.prog 113=some Gz:=by kernel_rfl
abbrev lP:FuncId:=113
def GM:az :=
⟨6,1,[.tmp 2],
 (sr [mB 2 false] []
 (sr [mv 3 0,
 c1 4 112 3,
 uN 5 4,
 mv 2 5] [3,4,5]
 .ret))⟩
theorem Xp:aq Tryz.prog 156=some GM:=by kernel_rfl
abbrev Ao:FuncId:=156
def CG:az :=
⟨9,1,[.tmp 2],
 (sr [mB 2 false] []
 (sr [mv 3 0,
 bI 4 .eql 3 1,
 mv 5 4,
 mf 6 0 5,
 oF 7 5 (.bin .eql (.s 6) (iC 2)),
 pT 8 5 7,
 mv 2 8] [3,4,5,6,7,8]
 .ret))⟩
theorem X0:aq Tryz.prog 158=some CG:=by kernel_rfl
abbrev aag:FuncId:=158
def eP:az :=
⟨38,1,[.tmp 2],
 (sr [mI 2 0] []
 (.seq (sr [mv 3 0] []
 (.block 0 (.seq (sr [bI 5 .eql 3 2,
 mv 4 5] [5]
 (.cond (.s 4)
 .skip
 (sr [bI 6 .eql 3 3,
 mv 4 6] [6]
 (.cond (.s 4)
 .skip
 (.reg [bI 7 .eql 3 4,
 mv 4 7] [7])))))
 (.cond (.s 4)
 (sr [mI 2 1] []
 .ret)
 (.seq (sr [bI 9 .eql 3 12,
 mv 8 9] [9]
 (.cond (.s 8)
 .skip
 (.reg [bI 10 .eql 3 13,
 mv 8 10] [10])))
 (.cond (.s 8)
 (sr [mI 2 2] []
 .ret)
 (sr [bI 12 .eql 3 14,
 mv 11 12] [12]
 (.cond (.s 11)
 (sr [mI 2 3] []
 .ret)
 (.seq (sr [bI 14 .eql 3 16,
 mv 13 14] [14]
 (.cond (.s 13)
 .skip
 (.reg [bI 15 .eql 3 210,
 mv 13 15] [15])))
 (.cond (.s 13)
 (sr [mI 2 4] []
 .ret)
 (sr [bI 17 .eql 3 17,
 mv 16 17] [17]
 (.cond (.s 16)
 (sr [mI 2 5] []
 .ret)
 (sr [bI 19 .eql 3 28,
 mv 18 19] [19]
 (.cond (.s 18)
 (sr [mI 2 6] []
 .ret)
 (.seq (sr [bI 21 .eql 3 32,
 mv 20 21] [21]
 (.cond (.s 20)
 .skip
 (sr [bI 22 .eql 3 33,
 mv 20 22] [22]
 (.cond (.s 20)
 .skip
 (.reg [bI 23 .eql 3 34,
 mv 20 23] [23])))))
 (.cond (.s 20)
 (sr [mI 2 7] []
 .ret)
 (.seq (sr [bI 25 .eql 3 35,
 mv 24 25] [25]
 (.cond (.s 24)
 .skip
 (.reg [bI 26 .eql 3 36,
 mv 24 26] [26])))
 (.cond (.s 24)
 (sr [mI 2 8] []
 .ret)
 (sr [bI 28 .eql 3 65,
 mv 27 28] [28]
 (.cond (.s 27)
 (sr [mI 2 18] []
 .ret)
 (sr [bI 30 .eql 3 66,
 mv 29 30] [30]
 (.cond (.s 29)
 (sr [mI 2 19] []
 .ret)
 (sr [bI 32 .eql 3 208,
 mv 31 32] [32]
 (.cond (.s 31)
 (sr [mI 2 20] []
 .ret)
 .skip))))))))))))))))))))))))
 (.seq (sr [mv 33 0,
 c1 34 203 33,
 bI 35 .gtr 34 0] [33,34]
 (.cond (.s 35)
 (sr [mI 2 17] []
 .ret)
 .skip))
 (sr [mv 36 0,
 c1 37 204 36,
 mv 2 37] [36,37]
 .ret))))⟩
theorem XU:aq Tryz.prog 159=some eP:=by kernel_rfl
abbrev aaa:FuncId:=159
def Cy:az :=
⟨9,1,[.tmp 2],
 (sr [mB 2 false] []
 (sr [mv 3 0,
 bI 4 .geq 3 0,
 mv 5 4,
 mt 6 0 5,
 ot 7 5 (.bin .lss (.s 6) (iC 4294967296)),
 pF 8 5 7,
 mv 2 8] [3,4,5,6,7,8]
 .ret))⟩
theorem Xb:aq Tryz.prog 162=some Cy:=by kernel_rfl
abbrev Ra:FuncId:=162
def CB:az :=
⟨9,1,[.tmp 2],
 (sr [mB 2 false] []
 (sr [mv 3 0,
 bI 4 .geq 3 1,
 mv 5 4,
 mt 6 0 5,
 ot 7 5 (.bin .leq (.s 6) (iC 4)),
 pF 8 5 7,
 mv 2 8] [3,4,5,6,7,8]
 .ret))⟩
theorem XC:aq Tryz.prog 164=some CB:=by kernel_rfl
abbrev ZV:FuncId:=164
def Hf:az :=
⟨20,2,[.cell 4 (some 2),.tmp 5],
 (sr [o0 4 (.new 59 [.nl,.nl]),
 mB 5 false] []
 (.seq (sr [mv 7 1,
 bI 8 .lss 7 0,
 mv 9 8,
 mf 10 1 9,
 mf 11 0 9,
 oF 12 9 (.len (.s 11)),
 oF 13 9 (.bin .geq (.s 10) (.s 12)),
 pT 14 9 13] [7,8,9,10,11,12,13]
 (.cond (.s 14)
 (sr [o0 6 (.new 59 [.nl,.nl])] []
 (sr [lS 15 2 6,
 sT 2 4 15,
 mB 5 false] [15]
 .ret))
 .skip))
 (sr [mv 16 0,
 mv 17 1,
 ia 18 2 16 17,
 lS 19 2 18,
 sT 2 4 19,
 mB 5 true] [16,17,18,19]
 .ret)))⟩
theorem adh:aq Tryz.prog 165=some Hf:=by kernel_rfl
abbrev afb:FuncId:=165
def jZ:az :=
⟨60,3,[.tmp 6,.tmp 7],
 (sr [o0 4 (.box 66 9 (.s 1)),
 mI 6 0,
 mI 7 0] []
 (.seq (sr [fa 10 0 4,
 lo 11 10] [10]
 (.block 0 (sr [bI 13 .eql 11 65,
 mv 12 13] [13]
 (.cond (.s 12)
 (sr [mI 6 1,
 mI 7 0] []
 .ret)
 (sr [bI 15 .eql 11 66,
 mv 14 15] [15]
 (.cond (.s 14)
 (sr [mI 6 2,
 mI 7 0] []
 .ret)
 (sr [bI 17 .eql 11 208,
 mv 16 17] [17]
 (.cond (.s 16)
 (sr [fa 18 1 4,
 lo 19 18,
 mv 6 19,
 mI 7 0] [18,19]
 .ret)
 (sr [bI 21 .eql 11 210,
 mv 20 21] [21]
 (.cond (.s 20)
 (.seq (.seq (sr [fa 22 1 4] []
 (sr [lo 23 22] []
 (sr [bI 24 .lss 23 0] []
 (sr [mv 25 24] []
 (.seq (.draw [⟨oF 26 25 (fd 1 4),[]⟩,
 ⟨oF 27 25 (ld 26),[0]⟩,
 ⟨mf 28 0 25,[]⟩,
 ⟨oF 29 25 (.call 117 [(.s 28)]),[2]⟩] [] [])
 (sr [oF 30 25 (.bin .geq (.s 27) (.s 29))] []
 (.reg [pT 31 25 30] [22,23,24,25,26,27,28,29,30])))))))
 (.cond (.s 31)
 (sr [mI 6 0,
 mI 7 11] []
 .ret)
 .skip))
 (.seq (sr [mv 32 0,
 fa 33 1 4,
 lo 34 33,
 c2 35 206 32 34,
 uN 36 35] [32,33,34,35]
 (.cond (.s 36)
 (sr [mI 6 0,
 mI 7 22] []
 .ret)
 .skip))
 (sr [mI 6 3,
 mI 7 0] []
 .ret)))
 (sr [bI 38 .eql 11 35,
 mv 37 38] [38]
 (.cond (.s 37)
 (sr [mv 40 0,
 fa 41 1 4,
 lo 42 41,
 c2 43 207 40 42,
 mv 39 43,
 xt 44 39 0,
 xt 45 39 1,
 o0 8 (.new 54 [(.int .i64 0),(.bool false)]),
 sT 2 8 44,
 mv 9 45] [40,41,42,43,39,44,45]
 (.seq (.block 1 (sr [mv 47 9,
 uN 48 47,
 mv 46 48] [47,48]
 (.cond (.s 46)
 (sr [mI 6 0,
 mI 7 11] []
 .ret)
 (sr [fa 50 1 4,
 lo 51 50,
 mv 52 2,
 bS 53 .geq 51 52,
 mv 54 53,
 oF 55 54 (fd 1 8),
 oF 56 54 (ld 55),
 pT 57 54 56,
 mv 49 57] [50,51,52,53,54,55,56,57]
 (.cond (.s 49)
 (sr [mI 6 0,
 mI 7 17] []
 .ret)
 .skip)))))
 (sr [fa 58 0 8,
 lo 59 58,
 mv 6 59,
 mI 7 0] [58,59]
 .ret)))
 .skip))))))))))))
 (sr [mI 6 0,
 mI 7 17] []
 .ret)))⟩
theorem Xh:aq Tryz.prog 168=some jZ:=by kernel_rfl
abbrev ZB:FuncId:=168
def D1:az :=
⟨39,2,[.cell 4 (some 2),.tmp 5],
 (sr [o0 3 (.box 63 3 (.s 1)),
 o0 4 (.new 59 [.nl,.nl]),
 mB 5 false] []
 (.seq (sr [mv 6 0,
 o0 7 (.pbin .eql (.s 6) (.c .np)),
 mv 8 7,
 mf 9 0 8,
 oF 10 8 (.nchk (.s 9)),
 oF 11 8 (fd 0 10),
 oF 12 8 (ld 11),
 oF 13 8 (.pbin .eql (.s 12) (.c .np)),
 pT 14 8 13] [6,7,8,9,10,11,12,13]
 (.cond (.s 14)
 (sr [o0 15 (.build [.nl,.nl] []),
 sT 2 4 15,
 mB 5 false] [15]
 .ret)
 .skip))
 (.seq (sr [fa 16 0 3,
 lo 17 16] [16]
 (.block 0 (sr [bI 19 .eql 17 0,
 mv 18 19] [19]
 (.cond (.s 18)
 (sr [o0 20 (.build [.nl,.nl] []),
 sT 2 4 20,
 mB 5 true] [20]
 .ret)
 (sr [bI 22 .eql 17 1,
 mv 21 22] [22]
 (.cond (.s 21)
 (sr [fa 23 1 3,
 lo 24 23,
 c1 25 112 24] [23,24]
 (.cond (.s 25)
 (.seq (.reg [fa 26 1 3,
 lo 27 26,
 o0 28 (.bsl 48 1 [[(.int .i64 0)]] [(0,(.s 27))]),
 o0 29 (.build [.nl,.nl] [(1,1,(.s 28))]),
 sT 2 4 29,
 mB 5 true] [26,27,28,29])
 .ret)
 .skip))
 (sr [bI 31 .eql 17 2,
 mv 30 31] [31]
 (.cond (.s 30)
 (sr [mv 32 0,
 fa 33 2 3,
 lo 34 33,
 c2 35 114 32 34,
 xt 36 35 0,
 xt 37 35 1,
 sT 2 4 36,
 mv 5 37] [32,33,34,35,36,37]
 .ret)
 .skip))))))))
 (sr [o0 38 (.build [.nl,.nl] []),
 sT 2 4 38,
 mB 5 false] [38]
 .ret))))⟩
theorem acL:aq Tryz.prog 175=some D1:=by kernel_rfl
abbrev aeO:FuncId:=175
def D3:az :=
⟨74,1,[.tmp 2],
 (sr [mI 2 0] []
 (.seq (sr [mv 7 0,
 c1 8 209 7,
 mv 3 8] [7,8]
 (sr [mv 9 3,
 bI 10 .neq 9 0] [9]
 (.cond (.s 10)
 (sr [mv 11 3,
 mv 2 11] [11]
 .ret)
 .skip)))
 (sr [mv 12 0,
 nk 13 12,
 fa 14 1 13,
 lo 15 14,
 ln 16 15,
 mv 4 16] [12,13,14,15,16]
 (.seq (sr [mv 17 4,
 bI 18 .eql 17 0] [17]
 (.cond (.s 18)
 (sr [mI 2 16] []
 .ret)
 .skip))
 (.seq (.seq (.seq (.draw [⟨mv 19 0,[]⟩,
 ⟨nk 20 19,[0]⟩,
 ⟨fa 21 0 20,[1,0]⟩,
 ⟨lo 22 21,[2,1,0]⟩,
 ⟨mv 23 0,[]⟩,
 ⟨nk 24 23,[4]⟩,
 ⟨fa 25 1 24,[5,4]⟩,
 ⟨lo 26 25,[6,5,4]⟩,
 ⟨mv 27 4,[]⟩,
 ⟨bI 28 .sub 27 1,[8]⟩,
 ⟨ia 29 5 26 28,[7,6,5,4,9,8]⟩,
 ⟨fa 30 1 29,[10,7,6,5,4,9,8]⟩,
 ⟨fa 31 1 30,[11,10,7,6,5,4,9,8]⟩,
 ⟨lo 32 31,[12,11,10,7,6,5,4,9,8]⟩] [] [])
 (sr [c2 33 213 22 32] []
 (.reg [mv 5 33] [19,20,21,22,23,24,25,26,27,28,29,30,31,32,33])))
 (sr [mv 34 5,
 bI 35 .neq 34 0] [34]
 (.cond (.s 35)
 (sr [mv 36 0,
 mv 37 5,
 c2 38 211 36 37,
 mv 2 38] [36,37,38]
 .ret)
 .skip)))
 (sr [mv 39 0,
 c1 40 214 39,
 o0 6 (.new 216 [(.int .i64 0),.nl,.nl,(.bool false),(.bool false)]),
 sT 5 6 40] [39,40]
 (.seq (sr [fa 41 0 6,
 lo 42 41,
 bI 43 .eql 42 4,
 mv 44 43,
 ot 45 44 (fd 3 6),
 ot 46 44 (ld 45),
 ot 47 44 (.un .not (.s 46)),
 pF 48 44 47,
 mv 49 48,
 ot 50 49 (fd 1 6),
 ot 51 49 (fd 0 50),
 ot 52 49 (ld 51),
 ot 53 49 (fd 1 6),
 ot 54 49 (fd 1 53),
 ot 55 49 (ld 54),
 ot 56 49 (.call 215 [(.s 52),(.s 55)]),
 ot 57 49 (.un .not (.s 56)),
 pF 58 49 57] [41,42,43,44,45,46,47,48,49,50,51,52,53,54,55,56,57]
 (.cond (.s 58)
 (sr [mv 59 0,
 o0 60 (.call 211 [(.s 59),(iC 12)]),
 mv 2 60] [59,60]
 .ret)
 .skip))
 (.seq (.seq (.draw [⟨mv 61 0,[]⟩,
 ⟨nk 62 61,[0]⟩,
 ⟨fa 63 0 62,[1,0]⟩,
 ⟨lo 64 63,[2,1,0]⟩,
 ⟨fa 65 1 6,[]⟩,
 ⟨fa 66 1 65,[4]⟩,
 ⟨lo 67 66,[5,4]⟩] [] [])
 (.reg [c2 68 216 64 67] [61,62,63,64,65,66,67,68]))
 (sr [mv 69 0,
 fa 70 4 6,
 lo 71 70,
 nk 72 69,
 fa 73 3 72,
 sT 1 73 71] [69,70,71,72,73]
 (sr [mI 2 0] []
 .ret))))))))))⟩
theorem acZ:aq Tryz.prog 178=some D3:=by kernel_rfl
abbrev aeY:FuncId:=178
def CF:az :=
⟨17,2,[.tmp 4],
 (sr [o0 3 (.box 59 2 (.s 1)),
 mI 4 0] []
 (.seq (sr [mv 6 0,
 fa 7 0 3,
 lo 8 7,
 c2 9 210 6 8,
 mv 5 9] [6,7,8,9]
 (sr [mv 10 5,
 bI 11 .neq 10 0] [10]
 (.cond (.s 11)
 (sr [mv 12 5,
 mv 4 12] [12]
 .ret)
 .skip)))
 (sr [mv 13 0,
 fa 14 1 3,
 lo 15 14,
 c2 16 216 13 15] [13,14,15,16]
 (sr [mI 4 0] []
 .ret))))⟩
theorem XY:aq Tryz.prog 183=some CF:=by kernel_rfl
abbrev aae:FuncId:=183
def Se:az :=
⟨12,1,[.tmp 2],
 (sr [mB 2 false] []
 (sr [mv 3 0,
 o0 4 (.pbin .neq (.s 3) (.c .np)),
 mv 5 4,
 mt 6 0 5,
 ot 7 5 (.nchk (.s 6)),
 ot 8 5 (fd 0 7),
 ot 9 5 (ld 8),
 ot 10 5 (.pbin .neq (.s 9) (.c .np)),
 pF 11 5 10,
 mv 2 11] [3,4,5,6,7,8,9,10,11]
 .ret))⟩
theorem adl:aq Tryz.prog 184=some Se:=by kernel_rfl
abbrev aaB:FuncId:=184
def Sm:az :=
⟨32,1,[.cell 2 (some 5)],
 (sr [o0 2 (.new 216 [(.int .i64 0),.nl,.nl,(.bool false),(.bool false)])] []
 (sr [mv 6 0,
 nk 7 6,
 fa 8 1 7,
 lo 9 8,
 ln 10 9,
 bI 11 .sub 10 1,
 mv 3 11] [6,7,8,9,10,11]
 (sr [mv 12 0,
 nk 13 12,
 fa 14 1 13,
 lo 15 14,
 mv 16 3,
 ia 17 5 15 16,
 lS 18 5 17,
 o0 4 (.new 216 [(.int .i64 0),.nl,.nl,(.bool false),(.bool false)]),
 sT 5 4 18] [12,13,14,15,16,17,18]
 (sr [mv 19 3,
 o0 20 (.mks 216 5 [(.int .i64 0),.nl,.nl,(.bool false),(.bool false)] (.s 19) (.s 19)),
 mv 5 20] [19,20]
 (sr [mv 21 5,
 mv 22 0,
 nk 23 22,
 fa 24 1 23,
 lo 25 24,
 o0 26 (.cpy 5 (.s 21) (.s 25))] [21,22,23,24,25,26]
 (sr [mv 27 0,
 mv 28 5,
 nk 29 27,
 fa 30 1 29,
 sT 1 30 28] [27,28,29,30]
 (sr [lS 31 5 4,
 sT 5 2 31] [31]
 .ret)))))))⟩
theorem adu:aq Tryz.prog 214=some Sm:=by kernel_rfl
abbrev afl:FuncId:=214
def M1:az :=
⟨11,1,[.tmp 2],
 (sr [o0 2 (.mov (.c .nl))] []
 (.seq (sr [mv 3 0,
 c1 4 209 3,
 bI 5 .neq 4 0] [3,4]
 (.cond (.s 5)
 (sr [o0 2 (.mov (.c .nl))] []
 .ret)
 .skip))
 (sr [mv 6 0,
 nk 7 6,
 fa 8 2 7,
 lo 9 8,
 c1 10 172 9,
 mv 2 10] [6,7,8,9,10]
 .ret)))⟩
theorem acK:aq Tryz.prog 218=some M1:=by kernel_rfl
abbrev aeN:FuncId:=218
def GS:az :=
⟨124,2,[.tmp 4],
 (sr [o0 3 (.box 66 9 (.s 1)),
 mI 4 0] []
 (sr [o0 5 (.mov (.c .nl))] []
 (.seq (.seq (.draw [⟨fa 22 8 3,[]⟩,
 ⟨lo 23 22,[0]⟩,
 ⟨o0 24 (.app 3 1 (.c .nl) (.s 23)),[1,0]⟩,
 ⟨fa 25 1 3,[]⟩,
 ⟨lo 26 25,[3]⟩,
 ⟨o0 27 (.bsl 3 1 [[(.int .i64 0)]] [(0,(.s 26))]),[4,3]⟩,
 ⟨o0 28 (.app 3 1 (.s 24) (.s 27)),[2,1,0,5,4,3]⟩,
 ⟨ln 29 28,[6,2,1,0,5,4,3]⟩,
 ⟨mI 30 0,[]⟩] [(24,2),(27,5),(28,6)] [22,23,24,25,26,27])
 (.block 0 (.loop (sr [bS 31 .lss 30 29] []
 (.seq (.cond (.s 31)
 .skip
 (.exit 0))
 (.seq (.block 1 (sr [ia 32 1 28 30,
 lo 33 32,
 mv 7 33] [32,33]
 (sr [mv 35 0,
 mv 36 7,
 c2 37 219 35 36,
 mv 34 37,
 xt 38 34 0,
 xt 39 34 1,
 mv 8 38,
 mv 9 39] [35,36,37,34,38,39]
 (.seq (sr [mv 40 9,
 bI 41 .neq 40 0] [40]
 (.cond (.s 41)
 (sr [mv 42 9,
 mv 4 42] [42]
 .ret)
 .skip))
 (.reg [mv 43 5,
 mv 44 8,
 o0 45 (.bsl 57 1 [[.nl]] [(0,(.s 44))]),
 o0 46 (.app 57 1 (.s 43) (.s 45)),
 mv 5 46] [43,44,45,46])))))
 (.reg [bI 47 .add 30 1,
 mv 30 47] [47])))))))
 (sr [mv 48 5,
 mv 49 5,
 ln 50 49,
 bI 51 .sub 50 1,
 ia 52 1 48 51,
 lo 53 52,
 mv 10 53] [48,49,50,51,52,53]
 (.seq (sr [mv 54 5,
 ln 55 54,
 mI 56 0] []
 (.block 2 (.loop (sr [bS 57 .lss 56 55] []
 (.seq (.cond (.s 57)
 .skip
 (.exit 2))
 (.seq (.block 3 (sr [ia 58 1 54 56,
 lo 59 58,
 mv 12 59] [58,59]
 (sr [mv 60 12,
 ln 61 60,
 mv 62 10,
 ln 63 62,
 bS 64 .neq 61 63] [60,61,62,63]
 (.cond (.s 64)
 (sr [mI 4 12] []
 .ret)
 .skip))))
 (.reg [bI 65 .add 56 1,
 mv 56 65] [65])))))))
 (.seq (.seq (.reg [mv 66 0,
 c1 67 131 66,
 o0 68 (.bsl 48 1 [[(.int .i64 0)]] [(0,(iC 1))]),
 c2 69 210 67 68,
 mv 13 69] [66,67,68,69])
 (sr [mv 70 13,
 bI 71 .neq 70 0] [70]
 (.cond (.s 71)
 (sr [mv 72 13,
 mv 4 72] [72]
 .ret)
 .skip)))
 (sr [mv 73 10,
 ln 74 73,
 o0 75 (.mks 48 1 [(.int .i64 0)] (.s 74) (.s 74)),
 mv 14 75] [73,74,75]
 (.seq (sr [mv 76 10,
 ln 77 76,
 bI 78 .sub 77 1,
 mv 15 78] [76,77,78]
 (.block 4 (.loop (.seq (sr [mv 79 15,
 bI 80 .geq 79 0] [79]
 (.cond (.s 80)
 .skip
 (.exit 4)))
 (.seq (.block 5 (sr [mv 84 0,
 c1 85 131 84,
 c1 86 221 85,
 mv 83 86,
 xt 87 83 0,
 xt 88 83 1,
 mv 16 87,
 mv 17 88] [84,85,86,83,87,88]
 (.seq (sr [mv 89 17,
 bI 90 .neq 89 0] [89]
 (.cond (.s 90)
 (sr [mv 91 17,
 mv 4 91] [91]
 .ret)
 .skip))
 (.reg [mv 92 14,
 mv 93 15,
 mv 94 16,
 ia 95 1 92 93,
 sT 1 95 94] [92,93,94,95]))))
 (.reg [mv 81 15,
 bI 82 .sub 81 1,
 mv 15 82] [81,82]))))))
 (.seq (sr [mv 96 5,
 ln 97 96,
 mI 98 0] []
 (.block 6 (.loop (sr [bS 99 .lss 98 97] []
 (.seq (.cond (.s 99)
 .skip
 (.exit 6))
 (.seq (.block 7 (sr [ia 100 1 96 98,
 lo 101 100,
 mv 19 101] [100,101]
 (sr [mv 102 19,
 ln 103 102,
 mI 104 0] []
 (.block 8 (.loop (sr [bS 105 .lss 104 103] []
 (.seq (.cond (.s 105)
 .skip
 (.exit 8))
 (.seq (.block 9 (sr [mv 106 104,
 ia 107 1 102 104,
 lo 108 107,
 mv 20 106,
 mv 21 108] [106,107,108]
 (sr [mv 109 14,
 mv 110 20,
 ia 111 1 109 110,
 lo 112 111,
 bI 113 .neq 112 0,
 mv 114 113,
 mt 115 14 114,
 mt 116 20 114,
 ot 117 114 (.iadr 1 (.s 115) (.s 116)),
 ot 118 114 (ld 117),
 mt 119 21 114,
 ot 120 114 (.bin .neq (.s 118) (.s 119)),
 pF 121 114 120] [109,110,111,112,113,114,115,116,117,118,119,120]
 (.cond (.s 121)
 (sr [mI 4 12] []
 .ret)
 .skip))))
 (.reg [bI 122 .add 104 1,
 mv 104 122] [122])))))))))
 (.reg [bI 123 .add 98 1,
 mv 98 123] [123])))))))
 (sr [mI 4 0] []
 .ret))))))))))⟩
theorem XG:aq Tryz.prog 220=some GS:=by kernel_rfl
abbrev ZZ:FuncId:=220
def GC:az :=
⟨1,0,[.tmp 0],
 (sr [o0 0 (.mov (.c .nf))] []
 (sr [o0 0 (.mov (.c (.fn 289 [])))] []
 .ret))⟩
theorem Xc:aq Tryz.prog 260=some GC:=by kernel_rfl
abbrev Zw:FuncId:=260
def Hi:az :=
⟨14,1,[.tmp 2],
 (sr [o0 2 (.mov (.c .np))] []
 (.seq (.seq (.draw [⟨mv 3 0,[]⟩,
 ⟨nk 4 3,[0]⟩,
 ⟨fa 5 1 4,[1,0]⟩,
 ⟨lo 6 5,[2,1,0]⟩,
 ⟨mv 7 0,[]⟩,
 ⟨nk 8 7,[4]⟩,
 ⟨fa 9 1 8,[5,4]⟩,
 ⟨lo 10 9,[6,5,4]⟩,
 ⟨ln 11 10,[7,6,5,4]⟩,
 ⟨bI 12 .sub 11 1,[8,7,6,5,4]⟩] [] [])
 (sr [ia 13 2 6 12] []
 (.reg [mv 2 13] [3,4,5,6,7,8,9,10,11,12,13])))
 .ret))⟩
theorem Yc:aq Tryz.prog 263=some Hi:=by kernel_rfl
abbrev aaC:FuncId:=263
def M2:az :=
⟨26,2,[.tmp 4],
 (sr [mB 4 false] []
 (.seq (sr [mv 7 0,
 ln 8 7,
 mv 9 1,
 ln 10 9,
 bS 11 .neq 8 10] [7,8,9,10]
 (.cond (.s 11)
 (sr [mB 4 false] []
 .ret)
 .skip))
 (.seq (sr [mv 12 0,
 ln 13 12,
 mI 14 0] []
 (.block 0 (.loop (sr [bS 15 .lss 14 13] []
 (.seq (.cond (.s 15)
 .skip
 (.exit 0))
 (.seq (.block 1 (sr [mv 16 14,
 ia 17 1 12 14,
 lo 18 17,
 mv 5 16,
 mv 6 18] [16,17,18]
 (sr [mv 19 6,
 mv 20 1,
 mv 21 5,
 ia 22 1 20 21,
 lo 23 22,
 bS 24 .neq 19 23] [19,20,21,22,23]
 (.cond (.s 24)
 (sr [mB 4 false] []
 .ret)
 .skip))))
 (.reg [bI 25 .add 14 1,
 mv 14 25] [25])))))))
 (sr [mB 4 true] []
 .ret))))⟩
theorem acW:aq Tryz.prog 264=some M2:=by kernel_rfl
abbrev aeV:FuncId:=264
def RV:az :=
⟨8,1,[.tmp 2],
 (sr [mI 2 0] []
 (sr [mv 3 0,
 c1 4 122 3,
 nk 5 4,
 fa 6 6 5,
 lo 7 6,
 mv 2 7] [3,4,5,6,7]
 .ret))⟩
theorem acM:aq Tryz.prog 267=some RV:=by kernel_rfl
abbrev aeP:FuncId:=267
def Gx:az :=
⟨14,1,[.tmp 2],
 (sr [mI 2 0] []
 (sr [mI 3 0] []
 (.seq (sr [mv 5 0,
 c1 6 203 5,
 mv 4 6] [5,6]
 (.block 0 (.loop (.seq (sr [mv 7 4,
 bI 8 .gtr 7 1] [7]
 (.cond (.s 8)
 .skip
 (.exit 0)))
 (.seq (.block 1 (.reg [mv 11 3,
 bI 12 .add 11 1,
 mv 3 12] [11,12]))
 (.reg [mv 9 4,
 bI 10 .quo 9 2,
 mv 4 10] [9,10]))))))
 (sr [mv 13 3,
 mv 2 13] [13]
 .ret))))⟩
theorem W7:aq Tryz.prog 269=some Gx:=by kernel_rfl
abbrev Zs:FuncId:=269
def SF:az :=
⟨5,1,[.tmp 2],
 (sr [mI 2 0] []
 (.seq (.seq (.reg [mv 3 0,
 o0 4 (.call 271 [(.s 3),(.c (.str [105,54,52]))])] [3])
 (.cond (.s 4)
 (sr [mI 2 2] []
 .ret)
 .skip))
 (sr [mI 2 1] []
 .ret)))⟩
theorem adO:aq Tryz.prog 273=some SF:=by kernel_rfl
abbrev afu:FuncId:=273
def FX2:az :=
⟨4,1,[.tmp 2],
 (sr [o0 1 (.box 57 1 (.s 0)),
 o0 2 (.mov (.c .nf))] []
 (sr [o0 3 (.mkf 315 [(.s 1)]),
 mv 2 3] [3]
 .ret))⟩
theorem cX2:aq Tryz.prog 292=some FX2:=by kernel_rfl
def Hj:az :=
⟨20,2,[.tmp 4,.tmp 5],
 (sr [mI 4 0,
 mB 5 false] []
 (.seq (sr [mv 7 1,
 bI 8 .lss 7 0,
 mv 9 8,
 mf 10 1 9,
 mf 11 0 9,
 oF 12 9 (.len (.s 11)),
 oF 13 9 (.bin .geq (.s 10) (.s 12)),
 pT 14 9 13] [7,8,9,10,11,12,13]
 (.cond (.s 14)
 (sr [mI 6 0] []
 (sr [mv 15 6,
 mv 4 15,
 mB 5 false] [15]
 .ret))
 .skip))
 (sr [mv 16 0,
 mv 17 1,
 ia 18 1 16 17,
 lo 19 18,
 mv 4 19,
 mB 5 true] [16,17,18,19]
 .ret)))⟩
theorem adt:aq Tryz.prog 293=some Hj:=by kernel_rfl
abbrev afk:FuncId:=293
def Hc:az :=
⟨20,2,[.cell 4 (some 3),.tmp 5],
 (sr [o0 4 (.new 50 [(.int .i64 0),(.int .i64 0),(.bool false)]),
 mB 5 false] []
 (.seq (sr [mv 7 1,
 bI 8 .lss 7 0,
 mv 9 8,
 mf 10 1 9,
 mf 11 0 9,
 oF 12 9 (.len (.s 11)),
 oF 13 9 (.bin .geq (.s 10) (.s 12)),
 pT 14 9 13] [7,8,9,10,11,12,13]
 (.cond (.s 14)
 (sr [o0 6 (.new 50 [(.int .i64 0),(.int .i64 0),(.bool false)])] []
 (sr [lS 15 3 6,
 sT 3 4 15,
 mB 5 false] [15]
 .ret))
 .skip))
 (sr [mv 16 0,
 mv 17 1,
 ia 18 3 16 17,
 lS 19 3 18,
 sT 3 4 19,
 mB 5 true] [16,17,18,19]
 .ret)))⟩
theorem acJ:aq Tryz.prog 294=some Hc:=by kernel_rfl
abbrev aeM:FuncId:=294
def MY:az :=
⟨18,2,[.tmp 4],
 (sr [mB 4 false] []
 (sr [mv 5 0,
 o0 6 (.slen (.s 5)),
 mv 7 1,
 o0 8 (.slen (.s 7)),
 bS 9 .geq 6 8,
 mv 10 9,
 mt 11 0 10,
 mt 12 1 10,
 ot 13 10 (.slen (.s 12)),
 ot 14 10 (.sslc (.s 11) none (some (.s 13))),
 mt 15 1 10,
 ot 16 10 (.bin .eql (.s 14) (.s 15)),
 pF 17 10 16,
 mv 4 17] [5,6,7,8,9,10,11,12,13,14,15,16,17]
 .ret))⟩
theorem acs:aq Tryz.prog 295=some MY:=by kernel_rfl
abbrev aeB:FuncId:=295
theorem ap:Tryz.prog.follows .mixedOrders=true:=by kernel_rfl
end Go.Proofs.YthhglklcaodfmaaGreatDoor