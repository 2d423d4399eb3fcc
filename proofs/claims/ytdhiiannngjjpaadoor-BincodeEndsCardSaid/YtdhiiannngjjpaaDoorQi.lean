/- Texts of a claim. -/
import Derived.Test.YtdhiiannngjjpaaDoorQb
import Derived.Test.YtdhiiannngjjpaaDoorProg
import Derived.KernelRfl
set_option linter.unusedVariables false
set_option linter.unusedSimpArgs false
set_option linter.unusedSectionVars false
namespace Go.Proofs.YtdhiiannngjjpaaDoor
open Go.Mw

def F_law11_BincodeEnds : IFun :=
⟨96, 2, [.tmp 4],
 (.seq (.reg [o0 4 (.mov (.c (.bool false)))] [])
 (.seq (.seq (.reg [mv 14 0,
 o0 15 (.call 6 [(.s 14)]),
 o0 16 (.un .not (.s 15)),
 mv 17 16,
 mf 18 1 17,
 oF 19 17 (.len (.s 18)),
 oF 20 17 (.bin .gtr (.s 19) (.c (.int .i64 100))),
 o0 21 (.pick (.s 17) (.c (.bool true)) (.s 20))] [14, 15, 16, 17, 18, 19, 20])
 (.cond (.s 21)
 (.seq (.reg [o0 22 (.call 7 []),
 mv 4 22] [22])
 .ret)
 .skip))
 (.seq (.reg [o0 23 (.call 8 []),
 mv 5 23] [23])
 (.seq (.reg [mv 24 5,
 mv 25 0,
 o0 26 (.call 9 [(.s 24), (.s 25)])] [24, 25, 26])
 (.seq (.reg [mv 27 5,
 mv 28 1,
 o0 29 (.call 20 [(.s 27), (.s 28)])] [27, 28, 29])
 (.seq (.reg [mv 31 5,
 o0 32 (.call 10 [(.s 31)]),
 mv 30 32,
 o0 33 (.ext (.s 30) 0),
 o0 34 (.ext (.s 30) 1),
 mv 6 33,
 mv 7 34] [31, 32, 30, 33, 34])
 (.seq (.seq (.reg [mv 35 7,
 o0 36 (.bin .neq (.s 35) (.c (.int .i64 0)))] [35])
 (.cond (.s 36)
 (.seq (.reg [o0 37 (.call 7 []),
 mv 4 37] [37])
 .ret)
 .skip))
 (.seq (.reg [mv 38 6,
 o0 39 (.call 11 [(.s 38)]),
 mv 8 39] [38, 39])
 (.seq (.reg [mv 40 8,
 o0 41 (.call 21 [(.s 40), (.c (.int .i64 500))]),
 mv 9 41] [40, 41])
 (.seq (.seq (.reg [mv 42 8,
 o0 43 (.call 14 [(.s 42)]),
 o0 44 (.bin .neq (.s 43) (.c (.int .i64 0)))] [42, 43])
 (.cond (.s 44)
 (.seq (.reg [mv 45 9,
 o0 46 (.len (.s 45)),
 o0 47 (.bin .eql (.s 46) (.c (.int .i64 0))),
 mv 48 47,
 ot 49 48 (.call 7 []),
 o0 50 (.pick (.s 48) (.s 49) (.c (.bool false))),
 mv 4 50] [45, 46, 47, 48, 49, 50])
 .ret)
 .skip))
 (.seq (.reg [o0 10 (.mov (.c (.int .i64 1)))] [])
 (.seq (.seq (.reg [o0 11 (.mov (.c (.int .i64 0)))] [])
 (.block 0 (.loop (.seq (.seq (.reg [mv 51 11,
 mv 52 9,
 o0 53 (.len (.s 52)),
 o0 54 (.bin .lss (.s 51) (.s 53))] [51, 52, 53])
 (.cond (.s 54)
 .skip
 (.exit 0)))
 (.seq (.block 1 (.seq (.seq (.reg [mv 57 10,
 o0 58 (.bin .lss (.s 57) (.c (.int .i64 1)))] [57])
 (.cond (.s 58)
 (.seq (.reg [o0 4 (.mov (.c (.bool false)))] [])
 .ret)
 .skip))
 (.seq (.reg [mv 59 9,
 mv 60 11,
 o0 61 (.iadr 9 (.s 59) (.s 60)),
 o0 62 (.fadr 0 (.s 61)),
 o0 63 (.load none (.s 62))] [59, 60, 61, 62])
 (.block 2 (.seq (.seq (.reg [o0 65 (.bin .eql (.s 63) (.c (.int .i64 2))),
 mv 64 65] [65])
 (.cond (.s 64)
 .skip
 (.seq (.reg [o0 66 (.bin .eql (.s 63) (.c (.int .i64 3))),
 mv 64 66] [66])
 (.cond (.s 64)
 .skip
 (.reg [o0 67 (.bin .eql (.s 63) (.c (.int .i64 4))),
 mv 64 67] [67])))))
 (.cond (.s 64)
 (.reg [mv 68 10,
 o0 69 (.bin .add (.s 68) (.c (.int .i64 1))),
 mv 10 69] [68, 69])
 (.seq (.reg [o0 71 (.bin .eql (.s 63) (.c (.int .i64 11))),
 mv 70 71] [71])
 (.cond (.s 70)
 (.reg [mv 72 10,
 o0 73 (.bin .sub (.s 72) (.c (.int .i64 1))),
 mv 10 73] [72, 73])
 .skip))))))))
 (.reg [mv 55 11,
 o0 56 (.bin .add (.s 55) (.c (.int .i64 1))),
 mv 11 56] [55, 56]))))))
 (.seq (.reg [mv 74 6,
 o0 75 (.call 11 [(.s 74)]),
 mv 12 75] [74, 75])
 (.seq (.reg [mv 76 12,
 mv 77 9,
 o0 78 (.len (.s 77)),
 o0 79 (.bin .sub (.s 78) (.c (.int .i64 1))),
 o0 80 (.call 21 [(.s 76), (.s 79)]),
 mv 13 80] [76, 77, 78, 79, 80])
 (.seq (.reg [mv 81 10,
 o0 82 (.bin .eql (.s 81) (.c (.int .i64 0))),
 mv 83 82,
 mt 84 13 83,
 ot 85 83 (.len (.s 84)),
 ot 86 83 (.bin .eql (.s 85) (.c (.int .i64 0))),
 o0 87 (.pick (.s 83) (.s 86) (.c (.bool false))),
 mv 88 87,
 mt 89 12 88,
 ot 90 88 (.call 14 [(.s 89)]),
 ot 91 88 (.bin .eql (.s 90) (.c (.int .i64 6))),
 o0 92 (.pick (.s 88) (.s 91) (.c (.bool false))),
 mv 93 92,
 ot 94 93 (.call 7 []),
 o0 95 (.pick (.s 93) (.s 94) (.c (.bool false))),
 mv 4 95] [81, 82, 83, 84, 85, 86, 87, 88, 89, 90, 91, 92, 93, 94, 95])
 .ret)))))))))))))))⟩

theorem c_law11_BincodeEnds : compF Tryd.prog 5 = some F_law11_BincodeEnds := by kernel_rfl
abbrev n_law11_BincodeEnds : FuncId := 5

def F_law11_few : IFun :=
⟨41, 1, [.tmp 2],
 (.seq (.reg [o0 2 (.mov (.c (.bool false)))] [])
 (.seq (.reg [o0 3 (.mov (.c (.int .i64 0)))] [])
 (.seq (.seq (.reg [o0 4 (.mov (.c (.int .i64 0)))] [])
 (.block 0 (.loop (.seq (.seq (.reg [mv 5 4,
 mv 6 0,
 o0 7 (.len (.s 6)),
 o0 8 (.bin .lss (.s 5) (.s 7)),
 mv 9 8,
 mt 10 4 9,
 ot 11 9 (.bin .lss (.s 10) (.c (.int .i64 100))),
 o0 12 (.pick (.s 9) (.s 11) (.c (.bool false))),
 mv 13 12,
 mt 14 3 13,
 ot 15 13 (.bin .leq (.s 14) (.c (.int .i64 400))),
 o0 16 (.pick (.s 13) (.s 15) (.c (.bool false)))] [5, 6, 7, 8, 9, 10, 11, 12, 13, 14, 15])
 (.cond (.s 16)
 .skip
 (.exit 0)))
 (.seq (.block 1 (.seq (.draw [⟨mv 19 3, []⟩,
 ⟨mv 20 0, []⟩,
 ⟨mv 21 4, []⟩,
 ⟨o0 22 (.iadr 9 (.s 20) (.s 21)), [1, 2]⟩,
 ⟨o0 23 (.fadr 8 (.s 22)), [3, 1, 2]⟩,
 ⟨o0 24 (.load none (.s 23)), [4, 3, 1, 2]⟩,
 ⟨o0 25 (.len (.s 24)), [5, 4, 3, 1, 2]⟩,
 ⟨o0 26 (.bin .add (.s 19) (.s 25)), [0, 6, 5, 4, 3, 1, 2]⟩,
 ⟨mv 27 0, []⟩,
 ⟨mv 28 4, []⟩,
 ⟨o0 29 (.iadr 9 (.s 27) (.s 28)), [8, 9]⟩,
 ⟨o0 30 (.fadr 7 (.s 29)), [10, 8, 9]⟩,
 ⟨o0 31 (.load none (.s 30)), [11, 10, 8, 9]⟩,
 ⟨o0 32 (.len (.s 31)), [12, 11, 10, 8, 9]⟩] [] [])
 (.seq (.reg [o0 33 (.bin .add (.s 26) (.s 32))] [])
 (.reg [mv 3 33] [19, 20, 21, 22, 23, 24, 25, 26, 27, 28, 29, 30, 31, 32, 33]))))
 (.reg [mv 17 4,
 o0 18 (.bin .add (.s 17) (.c (.int .i64 1))),
 mv 4 18] [17, 18]))))))
 (.seq (.reg [mv 34 0,
 o0 35 (.len (.s 34)),
 o0 36 (.bin .leq (.s 35) (.c (.int .i64 60))),
 mv 37 36,
 mt 38 3 37,
 ot 39 37 (.bin .leq (.s 38) (.c (.int .i64 400))),
 o0 40 (.pick (.s 37) (.s 39) (.c (.bool false))),
 mv 2 40] [34, 35, 36, 37, 38, 39, 40])
 .ret))))⟩

theorem c_law11_few : compF Tryd.prog 6 = some F_law11_few := by kernel_rfl
abbrev n_law11_few : FuncId := 6

def F_law11_alive : IFun :=
⟨61, 0, [.tmp 0],
 (.seq (.reg [o0 0 (.mov (.c (.bool false)))] [])
 (.seq (.reg [o0 9 (.build [(.int .i64 0), (.int .i64 0), (.int .i64 0), (.int .u64 0), (.int .i64 0), (.int .i64 0), (.int .i64 0), .nl, .nl] [(0, 1, (.c (.int .i64 65))), (3, 1, (.c (.int .u64 4294967295)))]),
 o0 10 (.call 18 [(.s 9)]),
 mv 8 10,
 o0 11 (.ext (.s 8) 0),
 o0 12 (.ext (.s 8) 1),
 mv 1 11,
 mv 2 12] [9, 10, 8, 11, 12])
 (.seq (.reg [o0 14 (.build [(.int .i64 0), (.int .i64 0), (.int .i64 0), (.int .u64 0), (.int .i64 0), (.int .i64 0), (.int .i64 0), .nl, .nl] [(0, 1, (.c (.int .i64 64522))), (2, 1, (.c (.int .i64 1)))]),
 o0 15 (.call 18 [(.s 14)]),
 mv 13 15,
 o0 16 (.ext (.s 13) 0),
 o0 17 (.ext (.s 13) 1),
 mv 3 16,
 mv 4 17] [14, 15, 13, 16, 17])
 (.seq (.reg [o0 19 (.build [(.int .i64 0), (.int .i64 0), (.int .i64 0), (.int .u64 0), (.int .i64 0), (.int .i64 0), (.int .i64 0), .nl, .nl] [(0, 1, (.c (.int .i64 40))), (1, 1, (.c (.int .i64 2))), (2, 1, (.c (.int .i64 1))), (3, 1, (.c (.int .u64 4)))]),
 o0 20 (.call 18 [(.s 19)]),
 mv 18 20,
 o0 21 (.ext (.s 18) 0),
 o0 22 (.ext (.s 18) 1),
 mv 5 21,
 mv 6 22] [19, 20, 18, 21, 22])
 (.seq (.reg [o0 23 (.bsl 5 1 [[(.int .u8 0)], [(.int .u8 0)]] [(0, (.c (.int .u8 65))), (1, (.c (.int .u8 127)))]),
 o0 24 (.call 11 [(.s 23)]),
 o0 25 (.call 13 [(.s 24)]),
 o0 7 (.new 33 [(.int .i64 0), (.int .i64 0), (.int .i64 0), (.int .u64 0), (.int .i64 0), (.int .i64 0), (.int .i64 0), .nl, .nl]),
 ⟨none, .store 9 (.s 7) (.s 25), none⟩] [23, 24, 25])
 (.seq (.reg [mv 26 1,
 o0 27 (.cvs (.s 26)),
 o0 28 (.bin .eql (.s 27) (.c (.str [65, 127]))),
 mv 29 28,
 mt 30 2 29,
 ot 31 29 (.bin .eql (.s 30) (.c (.int .i64 0))),
 o0 32 (.pick (.s 29) (.s 31) (.c (.bool false))),
 mv 33 32,
 mt 34 3 33,
 ot 35 33 (.cvs (.s 34)),
 ot 36 33 (.bin .eql (.s 35) (.c (.str [252, 10, 0, 1]))),
 o0 37 (.pick (.s 33) (.s 36) (.c (.bool false))),
 mv 38 37,
 mt 39 4 38,
 ot 40 38 (.bin .eql (.s 39) (.c (.int .i64 0))),
 o0 41 (.pick (.s 38) (.s 40) (.c (.bool false))),
 mv 42 41,
 mt 43 5 42,
 ot 44 42 (.cvs (.s 43)),
 ot 45 42 (.bin .eql (.s 44) (.c (.str [40, 66, 1, 4]))),
 o0 46 (.pick (.s 42) (.s 45) (.c (.bool false))),
 mv 47 46,
 mt 48 6 47,
 ot 49 47 (.bin .eql (.s 48) (.c (.int .i64 0))),
 o0 50 (.pick (.s 47) (.s 49) (.c (.bool false))),
 mv 51 50,
 ot 52 51 (.fadr 0 (.s 7)),
 ot 53 51 (.load none (.s 52)),
 ot 54 51 (.bin .eql (.s 53) (.c (.int .i64 65))),
 o0 55 (.pick (.s 51) (.s 54) (.c (.bool false))),
 mv 56 55,
 ot 57 56 (.fadr 3 (.s 7)),
 ot 58 56 (.load none (.s 57)),
 ot 59 56 (.bin .eql (.s 58) (.c (.int .u64 4294967295))),
 o0 60 (.pick (.s 56) (.s 59) (.c (.bool false))),
 mv 0 60] [26, 27, 28, 29, 30, 31, 32, 33, 34, 35, 36, 37, 38, 39, 40, 41, 42, 43, 44, 45, 46, 47, 48, 49, 50, 51, 52, 53, 54, 55, 56, 57, 58, 59, 60])
 .ret))))))⟩

theorem c_law11_alive : compF Tryd.prog 7 = some F_law11_alive := by kernel_rfl
abbrev n_law11_alive : FuncId := 7

def F_octet_New : IFun :=
⟨3, 0, [.tmp 0],
 (.seq (.reg [o0 0 (.mov (.c .np))] [])
 (.seq (.reg [o0 1 (.build [(.bool false), .nl, (.int .i64 0)] [(0, 1, (.c (.bool true)))]),
 o0 2 (.box 54 3 (.s 1)),
 mv 0 2] [1, 2])
 .ret))⟩

theorem c_octet_New : compF Tryd.prog 8 = some F_octet_New := by kernel_rfl
abbrev n_octet_New : FuncId := 8

def F_bincode_PutAll : IFun :=
⟨16, 2, [],
 (.seq (.reg [mv 6 1,
 o0 7 (.len (.s 6)),
 o0 8 (.mov (.c (.int .i64 0)))] [])
 (.block 0 (.loop (.seq (.reg [o0 9 (.bin .lss (.s 8) (.s 7))] [])
 (.seq (.cond (.s 9)
 .skip
 (.exit 0))
 (.seq (.block 1 (.seq (.reg [o0 10 (.iadr 9 (.s 6) (.s 8)),
 o0 11 (.load (some 9) (.s 10)),
 o0 5 (.new 33 [(.int .i64 0), (.int .i64 0), (.int .i64 0), (.int .u64 0), (.int .i64 0), (.int .i64 0), (.int .i64 0), .nl, .nl]),
 ⟨none, .store 9 (.s 5) (.s 11), none⟩] [10, 11])
 (.reg [mv 12 0,
 o0 13 (.load (some 9) (.s 5)),
 o0 14 (.call 22 [(.s 12), (.s 13)])] [12, 13, 14])))
 (.reg [o0 15 (.bin .add (.s 8) (.c (.int .i64 1))),
 mv 8 15] [15])))))))⟩

theorem c_bincode_PutAll : compF Tryd.prog 9 = some F_bincode_PutAll := by kernel_rfl
abbrev n_bincode_PutAll : FuncId := 9

def F_Poctet_Writer_Done : IFun :=
⟨29, 1, [.tmp 2, .tmp 3],
 (.seq (.reg [o0 2 (.mov (.c .nl)),
 o0 3 (.mov (.c (.int .i64 0)))] [])
 (.seq (.block 0 (.seq (.reg [mv 5 0,
 o0 6 (.pbin .eql (.s 5) (.c .np)),
 mv 7 6,
 mf 8 0 7,
 oF 9 7 (.nchk (.s 8)),
 oF 10 7 (.fadr 0 (.s 9)),
 oF 11 7 (.load none (.s 10)),
 oF 12 7 (.un .not (.s 11)),
 o0 13 (.pick (.s 7) (.c (.bool true)) (.s 12)),
 mv 4 13] [5, 6, 7, 8, 9, 10, 11, 12, 13])
 (.cond (.s 4)
 (.seq (.reg [o0 2 (.mov (.c .nl)),
 o0 3 (.mov (.c (.int .i64 2)))] [])
 .ret)
 (.seq (.reg [mv 15 0,
 o0 16 (.nchk (.s 15)),
 o0 17 (.fadr 2 (.s 16)),
 o0 18 (.load none (.s 17)),
 o0 19 (.bin .neq (.s 18) (.c (.int .i64 0))),
 mv 14 19] [15, 16, 17, 18, 19])
 (.cond (.s 14)
 (.seq (.seq (.draw [⟨mv 20 0, []⟩,
 ⟨o0 21 (.nchk (.s 20)), [0]⟩,
 ⟨o0 22 (.fadr 2 (.s 21)), [1, 0]⟩,
 ⟨o0 23 (.load none (.s 22)), [2, 1, 0]⟩,
 ⟨o0 2 (.mov (.c .nl)), []⟩] [] [])
 (.reg [mv 3 23] [20, 21, 22, 23]))
 .ret)
 .skip)))))
 (.seq (.reg [mv 24 0,
 o0 25 (.nchk (.s 24)),
 o0 26 (.fadr 1 (.s 25)),
 o0 27 (.load none (.s 26)),
 o0 28 (.app 5 1 (.c .nl) (.s 27)),
 mv 2 28,
 o0 3 (.mov (.c (.int .i64 0)))] [24, 25, 26, 27, 28])
 .ret)))⟩

theorem c_Poctet_Writer_Done : compF Tryd.prog 10 = some F_Poctet_Writer_Done := by kernel_rfl
abbrev n_Poctet_Writer_Done : FuncId := 10

def F_octet_Read : IFun :=
⟨7, 1, [.tmp 2],
 (.seq (.reg [o0 2 (.mov (.c .np))] [])
 (.seq (.reg [mv 3 0,
 o0 4 (.app 5 1 (.c .nl) (.s 3)),
 o0 5 (.build [(.bool false), .nl, (.int .i64 0), (.int .i64 0)] [(0, 1, (.c (.bool true))), (1, 1, (.s 4))]),
 o0 6 (.box 57 4 (.s 5)),
 mv 2 6] [3, 4, 5, 6])
 .ret))⟩

theorem c_octet_Read : compF Tryd.prog 11 = some F_octet_Read := by kernel_rfl
abbrev n_octet_Read : FuncId := 11

def F_bincode_Get : IFun :=
⟨110, 1, [.cell 2 (some 9)],
 (.seq (.reg [o0 2 (.new 33 [(.int .i64 0), (.int .i64 0), (.int .i64 0), (.int .u64 0), (.int .i64 0), (.int .i64 0), (.int .i64 0), .nl, .nl])] [])
 (.seq (.reg [mv 7 0,
 o0 8 (.call 23 [(.s 7)]),
 o0 9 (.build [(.int .i64 0), (.int .i64 0), (.int .i64 0), (.int .u64 0), (.int .i64 0), (.int .i64 0), (.int .i64 0), .nl, .nl] [(0, 1, (.s 8))]),
 o0 3 (.new 33 [(.int .i64 0), (.int .i64 0), (.int .i64 0), (.int .u64 0), (.int .i64 0), (.int .i64 0), (.int .i64 0), .nl, .nl]),
 ⟨none, .store 9 (.s 3) (.s 9), none⟩] [7, 8, 9])
 (.seq (.seq (.reg [mv 10 0,
 o0 11 (.call 14 [(.s 10)]),
 o0 12 (.bin .neq (.s 11) (.c (.int .i64 0)))] [10, 11])
 (.cond (.s 12)
 (.seq (.reg [o0 13 (.build [(.int .i64 0), (.int .i64 0), (.int .i64 0), (.int .u64 0), (.int .i64 0), (.int .i64 0), (.int .i64 0), .nl, .nl] []),
 ⟨none, .store 9 (.s 2) (.s 13), none⟩] [13])
 .ret)
 .skip))
 (.seq (.seq (.reg [o0 14 (.fadr 0 (.s 3)),
 o0 15 (.load none (.s 14)),
 o0 16 (.call 24 [(.s 15)]),
 mv 4 16] [14, 15, 16])
 (.seq (.reg [mv 17 4] [])
 (.block 0 (.seq (.block 10 (.seq (.block 9 (.seq (.block 8 (.seq (.block 7 (.seq (.block 6 (.seq (.block 5 (.seq (.block 4 (.seq (.block 3 (.seq (.block 2 (.seq (.block 1 (.seq (.seq (.seq (.reg [o0 19 (.bin .eql (.s 17) (.c (.int .i64 1))),
 mv 18 19] [19])
 (.cond (.s 18)
 (.exit 1)
 .skip))
 (.seq (.seq (.reg [o0 21 (.bin .eql (.s 17) (.c (.int .i64 3))),
 mv 20 21] [21])
 (.cond (.s 20)
 (.exit 2)
 .skip))
 (.seq (.seq (.seq (.reg [o0 23 (.bin .eql (.s 17) (.c (.int .i64 2))),
 mv 22 23] [23])
 (.cond (.s 22)
 .skip
 (.seq (.reg [o0 24 (.bin .eql (.s 17) (.c (.int .i64 4))),
 mv 22 24] [24])
 (.cond (.s 22)
 .skip
 (.seq (.reg [o0 25 (.bin .eql (.s 17) (.c (.int .i64 7))),
 mv 22 25] [25])
 (.cond (.s 22)
 .skip
 (.seq (.reg [o0 26 (.bin .eql (.s 17) (.c (.int .i64 8))),
 mv 22 26] [26])
 (.cond (.s 22)
 .skip
 (.seq (.reg [o0 27 (.bin .eql (.s 17) (.c (.int .i64 9))),
 mv 22 27] [27])
 (.cond (.s 22)
 .skip
 (.seq (.reg [o0 28 (.bin .eql (.s 17) (.c (.int .i64 12))),
 mv 22 28] [28])
 (.cond (.s 22)
 .skip
 (.reg [o0 29 (.bin .eql (.s 17) (.c (.int .i64 16))),
 mv 22 29] [29])))))))))))))
 (.cond (.s 22)
 (.exit 3)
 .skip))
 (.seq (.seq (.seq (.reg [o0 31 (.bin .eql (.s 17) (.c (.int .i64 5))),
 mv 30 31] [31])
 (.cond (.s 30)
 .skip
 (.seq (.reg [o0 32 (.bin .eql (.s 17) (.c (.int .i64 10))),
 mv 30 32] [32])
 (.cond (.s 30)
 .skip
 (.seq (.reg [o0 33 (.bin .eql (.s 17) (.c (.int .i64 11))),
 mv 30 33] [33])
 (.cond (.s 30)
 .skip
 (.seq (.reg [o0 34 (.bin .eql (.s 17) (.c (.int .i64 14))),
 mv 30 34] [34])
 (.cond (.s 30)
 .skip
 (.reg [o0 35 (.bin .eql (.s 17) (.c (.int .i64 15))),
 mv 30 35] [35])))))))))
 (.cond (.s 30)
 (.exit 4)
 .skip))
 (.seq (.seq (.reg [o0 37 (.bin .eql (.s 17) (.c (.int .i64 6))),
 mv 36 37] [37])
 (.cond (.s 36)
 (.exit 5)
 .skip))
 (.seq (.seq (.reg [o0 39 (.bin .eql (.s 17) (.c (.int .i64 13))),
 mv 38 39] [39])
 (.cond (.s 38)
 (.exit 6)
 .skip))
 (.seq (.seq (.reg [o0 41 (.bin .eql (.s 17) (.c (.int .i64 17))),
 mv 40 41] [41])
 (.cond (.s 40)
 (.exit 7)
 .skip))
 (.seq (.seq (.reg [o0 43 (.bin .eql (.s 17) (.c (.int .i64 18))),
 mv 42 43] [43])
 (.cond (.s 42)
 (.exit 8)
 .skip))
 (.seq (.seq (.reg [o0 45 (.bin .eql (.s 17) (.c (.int .i64 19))),
 mv 44 45] [45])
 (.cond (.s 44)
 (.exit 9)
 .skip))
 (.seq (.reg [o0 47 (.bin .eql (.s 17) (.c (.int .i64 20))),
 mv 46 47] [47])
 (.cond (.s 46)
 (.exit 10)
 .skip)))))))))))
 (.exit 0)))
 (.seq (.reg [mv 48 0,
 o0 49 (.call 25 [(.s 48)]),
 o0 50 (.fadr 4 (.s 3)),
 ⟨none, .store 3 (.s 50) (.s 49), none⟩] [48, 49, 50])
 (.exit 0))))
 (.seq (.reg [mv 51 0,
 o0 52 (.call 26 [(.s 51), (.c (.int .i64 64))]),
 mv 5 52] [51, 52])
 (.block 11 (.loop (.seq (.seq (.reg [mv 53 5,
 o0 54 (.bin .gtr (.s 53) (.c (.int .i64 0)))] [53])
 (.cond (.s 54)
 .skip
 (.exit 11)))
 (.seq (.block 12 (.seq (.draw [⟨o0 57 (.fadr 8 (.s 3)), []⟩,
 ⟨o0 58 (.load none (.s 57)), [0]⟩,
 ⟨mv 59 0, []⟩,
 ⟨o0 60 (.call 27 [(.s 59)]), [2]⟩,
 ⟨o0 61 (.bsl 3 1 [[(.int .i64 0)]] [(0, (.s 60))]), [3, 2]⟩] [(61, 4)] [])
 (.seq (.reg [o0 62 (.app 3 1 (.s 58) (.s 61))] [])
 (.seq (.reg [o0 63 (.fadr 8 (.s 3))] [])
 (.reg [⟨none, .store 1 (.s 63) (.s 62), none⟩] [57, 58, 59, 60, 61, 62, 63])))))
 (.reg [mv 55 5,
 o0 56 (.bin .sub (.s 55) (.c (.int .i64 1))),
 mv 5 56] [55, 56]))))))))
 (.seq (.reg [mv 64 0,
 o0 65 (.call 27 [(.s 64)]),
 o0 66 (.fadr 1 (.s 3)),
 ⟨none, .store 1 (.s 66) (.s 65), none⟩] [64, 65, 66])
 (.exit 0))))
 (.seq (.seq (.reg [mv 67 0,
 o0 68 (.call 27 [(.s 67)]),
 o0 69 (.fadr 1 (.s 3)),
 ⟨none, .store 1 (.s 69) (.s 68), none⟩] [67, 68, 69])
 (.reg [mv 70 0,
 o0 71 (.call 27 [(.s 70)]),
 o0 72 (.fadr 2 (.s 3)),
 ⟨none, .store 1 (.s 72) (.s 71), none⟩] [70, 71, 72]))
 (.exit 0))))
 (.seq (.seq (.seq (.reg [mv 73 0,
 o0 74 (.call 27 [(.s 73)]),
 o0 75 (.bin .neq (.s 74) (.c (.int .i64 1)))] [73, 74])
 (.cond (.s 75)
 (.reg [mv 76 0,
 o0 77 (.call 28 [(.s 76), (.c (.int .i64 4))])] [76, 77])
 .skip))
 (.reg [mv 78 0,
 o0 79 (.call 29 [(.s 78)]),
 o0 80 (.bsl 27 1 [[(.int .i64 0)]] [(0, (.s 79))]),
 o0 81 (.fadr 7 (.s 3)),
 ⟨none, .store 1 (.s 81) (.s 80), none⟩] [78, 79, 80, 81]))
 (.exit 0))))
 (.seq (.reg [mv 82 0,
 o0 83 (.call 27 [(.s 82)]),
 o0 84 (.fadr 2 (.s 3)),
 ⟨none, .store 1 (.s 84) (.s 83), none⟩] [82, 83, 84])
 (.exit 0))))
 (.seq (.reg [mv 85 0,
 o0 86 (.call 30 [(.s 85), (.s 3)])] [85, 86])
 (.exit 0))))
 (.seq (.reg [mv 87 0,
 o0 88 (.call 31 [(.s 87)]),
 o0 89 (.fadr 3 (.s 3)),
 ⟨none, .store 1 (.s 89) (.s 88), none⟩] [87, 88, 89])
 (.exit 0))))
 (.seq (.reg [mv 90 0,
 o0 91 (.call 32 [(.s 90)]),
 o0 92 (.fadr 3 (.s 3)),
 ⟨none, .store 1 (.s 92) (.s 91), none⟩] [90, 91, 92])
 (.exit 0))))
 (.seq (.seq (.reg [mv 93 0,
 o0 94 (.call 29 [(.s 93)]),
 mv 6 94] [93, 94])
 (.seq (.seq (.reg [mv 95 6,
 o0 96 (.bin .neq (.s 95) (.c (.int .i64 3))),
 mv 97 96,
 mt 98 6 97,
 ot 99 97 (.bin .neq (.s 98) (.c (.int .i64 4))),
 o0 100 (.pick (.s 97) (.s 99) (.c (.bool false)))] [95, 96, 97, 98, 99])
 (.cond (.s 100)
 (.reg [mv 101 0,
 o0 102 (.call 28 [(.s 101), (.c (.int .i64 12))])] [101, 102])
 .skip))
 (.reg [mv 103 6,
 o0 104 (.fadr 1 (.s 3)),
 ⟨none, .store 1 (.s 104) (.s 103), none⟩] [103, 104])))
 (.exit 0))))))
 (.seq (.seq (.reg [mv 105 0,
 o0 106 (.call 14 [(.s 105)]),
 o0 107 (.bin .neq (.s 106) (.c (.int .i64 0)))] [105, 106])
 (.cond (.s 107)
 (.seq (.reg [o0 108 (.build [(.int .i64 0), (.int .i64 0), (.int .i64 0), (.int .u64 0), (.int .i64 0), (.int .i64 0), (.int .i64 0), .nl, .nl] []),
 ⟨none, .store 9 (.s 2) (.s 108), none⟩] [108])
 .ret)
 .skip))
 (.seq (.reg [o0 109 (.load (some 9) (.s 3)),
 ⟨none, .store 9 (.s 2) (.s 109), none⟩] [109])
 .ret))))))⟩

theorem c_bincode_Get : compF Tryd.prog 13 = some F_bincode_Get := by kernel_rfl
abbrev n_bincode_Get : FuncId := 13

def F_Poctet_Reader_Err : IFun :=
⟨16, 1, [.tmp 2],
 (.seq (.reg [o0 2 (.mov (.c (.int .i64 0)))] [])
 (.seq (.seq (.reg [mv 3 0,
 o0 4 (.pbin .eql (.s 3) (.c .np)),
 mv 5 4,
 mf 6 0 5,
 oF 7 5 (.nchk (.s 6)),
 oF 8 5 (.fadr 0 (.s 7)),
 oF 9 5 (.load none (.s 8)),
 oF 10 5 (.un .not (.s 9)),
 o0 11 (.pick (.s 5) (.c (.bool true)) (.s 10))] [3, 4, 5, 6, 7, 8, 9, 10])
 (.cond (.s 11)
 (.seq (.reg [o0 2 (.mov (.c (.int .i64 2)))] [])
 .ret)
 .skip))
 (.seq (.reg [mv 12 0,
 o0 13 (.nchk (.s 12)),
 o0 14 (.fadr 3 (.s 13)),
 o0 15 (.load none (.s 14)),
 mv 2 15] [12, 13, 14, 15])
 .ret)))⟩

theorem c_Poctet_Reader_Err : compF Tryd.prog 14 = some F_Poctet_Reader_Err := by kernel_rfl
abbrev n_Poctet_Reader_Err : FuncId := 14

def F_law11_one : IFun :=
⟨13, 1, [.tmp 2, .tmp 3],
 (.seq (.reg [o0 1 (.box 33 9 (.s 0)),
 o0 2 (.mov (.c .nl)),
 o0 3 (.mov (.c (.int .i64 0)))] [])
 (.seq (.reg [o0 5 (.call 8 []),
 mv 4 5] [5])
 (.seq (.reg [mv 6 4,
 o0 7 (.load (some 9) (.s 1)),
 o0 8 (.call 22 [(.s 6), (.s 7)])] [6, 7, 8])
 (.seq (.reg [mv 9 4,
 o0 10 (.call 10 [(.s 9)]),
 o0 11 (.ext (.s 10) 0),
 o0 12 (.ext (.s 10) 1),
 mv 2 11,
 mv 3 12] [9, 10, 11, 12])
 .ret))))⟩

theorem c_law11_one : compF Tryd.prog 18 = some F_law11_one := by kernel_rfl
abbrev n_law11_one : FuncId := 18

def F_Poctet_Writer_Bytes : IFun :=
⟨15, 2, [],
 (.seq (.reg [mv 4 0,
 o0 5 (.call 40 [(.s 4)])] [4])
 (.cond (.s 5)
 (.reg [mv 6 0,
 mv 7 0,
 o0 8 (.nchk (.s 7)),
 o0 9 (.fadr 1 (.s 8)),
 o0 10 (.load none (.s 9)),
 mv 11 1,
 o0 12 (.app 5 1 (.s 10) (.s 11)),
 o0 13 (.nchk (.s 6)),
 o0 14 (.fadr 1 (.s 13)),
 ⟨none, .store 1 (.s 14) (.s 12), none⟩] [6, 7, 8, 9, 10, 11, 12, 13, 14])
 .skip))⟩

theorem c_Poctet_Writer_Bytes : compF Tryd.prog 20 = some F_Poctet_Writer_Bytes := by kernel_rfl
abbrev n_Poctet_Writer_Bytes : FuncId := 20

def F_bincode_GetExpr : IFun :=
⟨38, 2, [.tmp 4],
 (.seq (.reg [o0 4 (.mov (.c .nl))] [])
 (.seq (.reg [o0 5 (.mov (.c .nl))] [])
 (.seq (.seq (.reg [o0 6 (.mov (.c (.int .i64 1)))] [])
 (.block 0 (.loop (.seq (.seq (.reg [mv 8 6,
 o0 9 (.bin .gtr (.s 8) (.c (.int .i64 0)))] [8])
 (.cond (.s 9)
 .skip
 (.exit 0)))
 (.block 1 (.seq (.seq (.reg [mv 10 5,
 o0 11 (.len (.s 10)),
 mv 12 1,
 o0 13 (.bin .geq (.s 11) (.s 12))] [10, 11, 12])
 (.cond (.s 13)
 (.reg [mv 14 0,
 o0 15 (.call 28 [(.s 14), (.c (.int .i64 6))])] [14, 15])
 .skip))
 (.seq (.reg [mv 16 0,
 o0 17 (.call 13 [(.s 16)]),
 o0 7 (.new 33 [(.int .i64 0), (.int .i64 0), (.int .i64 0), (.int .u64 0), (.int .i64 0), (.int .i64 0), (.int .i64 0), .nl, .nl]),
 ⟨none, .store 9 (.s 7) (.s 17), none⟩] [16, 17])
 (.seq (.seq (.reg [mv 18 0,
 o0 19 (.call 14 [(.s 18)]),
 o0 20 (.bin .neq (.s 19) (.c (.int .i64 0)))] [18, 19])
 (.cond (.s 20)
 (.seq (.reg [o0 4 (.mov (.c .nl))] [])
 .ret)
 .skip))
 (.seq (.seq (.reg [o0 21 (.fadr 0 (.s 7)),
 o0 22 (.load none (.s 21))] [21])
 (.block 2 (.seq (.seq (.reg [o0 24 (.bin .eql (.s 22) (.c (.int .i64 2))),
 mv 23 24] [24])
 (.cond (.s 23)
 .skip
 (.seq (.reg [o0 25 (.bin .eql (.s 22) (.c (.int .i64 3))),
 mv 23 25] [25])
 (.cond (.s 23)
 .skip
 (.reg [o0 26 (.bin .eql (.s 22) (.c (.int .i64 4))),
 mv 23 26] [26])))))
 (.cond (.s 23)
 (.reg [mv 27 6,
 o0 28 (.bin .add (.s 27) (.c (.int .i64 1))),
 mv 6 28] [27, 28])
 (.seq (.reg [o0 30 (.bin .eql (.s 22) (.c (.int .i64 11))),
 mv 29 30] [30])
 (.cond (.s 29)
 (.reg [mv 31 6,
 o0 32 (.bin .sub (.s 31) (.c (.int .i64 1))),
 mv 6 32] [31, 32])
 .skip))))))
 (.reg [mv 33 5,
 o0 34 (.load (some 9) (.s 7)),
 o0 35 (.bsl 33 9 [[(.int .i64 0), (.int .i64 0), (.int .i64 0), (.int .u64 0), (.int .i64 0), (.int .i64 0), (.int .i64 0), .nl, .nl]] [(0, (.s 34))]),
 o0 36 (.app 33 9 (.s 33) (.s 35)),
 mv 5 36] [33, 34, 35, 36]))))))))))
 (.seq (.reg [mv 37 5,
 mv 4 37] [37])
 .ret))))⟩

theorem c_bincode_GetExpr : compF Tryd.prog 21 = some F_bincode_GetExpr := by kernel_rfl
abbrev n_bincode_GetExpr : FuncId := 21

def F_bincode_Put : IFun :=
⟨127, 2, [],
 (.seq (.reg [o0 3 (.box 33 9 (.s 1))] [])
 (.seq (.seq (.reg [o0 5 (.load (some 9) (.s 3)),
 o0 6 (.call 41 [(.s 5)]),
 o0 7 (.un .not (.s 6))] [5, 6])
 (.cond (.s 7)
 (.seq (.reg [mv 8 0,
 o0 9 (.call 42 [(.s 8), (.c (.int .i64 10))])] [8, 9])
 .ret)
 .skip))
 (.seq (.seq (.reg [o0 10 (.fadr 0 (.s 3)),
 o0 11 (.load none (.s 10)),
 o0 12 (.bin .geq (.s 11) (.c (.int .i64 64512)))] [10, 11])
 (.cond (.s 12)
 (.seq (.reg [mv 13 0,
 o0 14 (.call 43 [(.s 13), (.c (.int .u8 252))])] [13, 14])
 (.reg [mv 15 0,
 o0 16 (.fadr 0 (.s 3)),
 o0 17 (.load none (.s 16)),
 o0 18 (.bin .sub (.s 17) (.c (.int .i64 64512))),
 o0 19 (.call 44 [(.s 15), (.s 18)])] [15, 16, 17, 18, 19]))
 (.reg [mv 20 0,
 o0 21 (.fadr 0 (.s 3)),
 o0 22 (.load none (.s 21)),
 o0 23 (.cvi .u8 (.s 22)),
 o0 24 (.call 43 [(.s 20), (.s 23)])] [20, 21, 22, 23, 24])))
 (.seq (.reg [o0 25 (.fadr 0 (.s 3)),
 o0 26 (.load none (.s 25)),
 o0 27 (.call 24 [(.s 26)]),
 mv 4 27] [25, 26, 27])
 (.seq (.reg [mv 28 4] [])
 (.block 0 (.seq (.block 10 (.seq (.block 9 (.seq (.block 8 (.seq (.block 7 (.seq (.block 6 (.seq (.block 5 (.seq (.block 4 (.seq (.block 3 (.seq (.block 2 (.seq (.block 1 (.seq (.seq (.seq (.reg [o0 30 (.bin .eql (.s 28) (.c (.int .i64 1))),
 mv 29 30] [30])
 (.cond (.s 29)
 (.exit 1)
 .skip))
 (.seq (.seq (.reg [o0 32 (.bin .eql (.s 28) (.c (.int .i64 3))),
 mv 31 32] [32])
 (.cond (.s 31)
 (.exit 2)
 .skip))
 (.seq (.seq (.seq (.reg [o0 34 (.bin .eql (.s 28) (.c (.int .i64 2))),
 mv 33 34] [34])
 (.cond (.s 33)
 .skip
 (.seq (.reg [o0 35 (.bin .eql (.s 28) (.c (.int .i64 4))),
 mv 33 35] [35])
 (.cond (.s 33)
 .skip
 (.seq (.reg [o0 36 (.bin .eql (.s 28) (.c (.int .i64 7))),
 mv 33 36] [36])
 (.cond (.s 33)
 .skip
 (.seq (.reg [o0 37 (.bin .eql (.s 28) (.c (.int .i64 8))),
 mv 33 37] [37])
 (.cond (.s 33)
 .skip
 (.seq (.reg [o0 38 (.bin .eql (.s 28) (.c (.int .i64 9))),
 mv 33 38] [38])
 (.cond (.s 33)
 .skip
 (.seq (.reg [o0 39 (.bin .eql (.s 28) (.c (.int .i64 12))),
 mv 33 39] [39])
 (.cond (.s 33)
 .skip
 (.reg [o0 40 (.bin .eql (.s 28) (.c (.int .i64 16))),
 mv 33 40] [40])))))))))))))
 (.cond (.s 33)
 (.exit 3)
 .skip))
 (.seq (.seq (.seq (.reg [o0 42 (.bin .eql (.s 28) (.c (.int .i64 5))),
 mv 41 42] [42])
 (.cond (.s 41)
 .skip
 (.seq (.reg [o0 43 (.bin .eql (.s 28) (.c (.int .i64 10))),
 mv 41 43] [43])
 (.cond (.s 41)
 .skip
 (.seq (.reg [o0 44 (.bin .eql (.s 28) (.c (.int .i64 11))),
 mv 41 44] [44])
 (.cond (.s 41)
 .skip
 (.seq (.reg [o0 45 (.bin .eql (.s 28) (.c (.int .i64 14))),
 mv 41 45] [45])
 (.cond (.s 41)
 .skip
 (.reg [o0 46 (.bin .eql (.s 28) (.c (.int .i64 15))),
 mv 41 46] [46])))))))))
 (.cond (.s 41)
 (.exit 4)
 .skip))
 (.seq (.seq (.reg [o0 48 (.bin .eql (.s 28) (.c (.int .i64 6))),
 mv 47 48] [48])
 (.cond (.s 47)
 (.exit 5)
 .skip))
 (.seq (.seq (.reg [o0 50 (.bin .eql (.s 28) (.c (.int .i64 13))),
 mv 49 50] [50])
 (.cond (.s 49)
 (.exit 6)
 .skip))
 (.seq (.seq (.reg [o0 52 (.bin .eql (.s 28) (.c (.int .i64 17))),
 mv 51 52] [52])
 (.cond (.s 51)
 (.exit 7)
 .skip))
 (.seq (.seq (.reg [o0 54 (.bin .eql (.s 28) (.c (.int .i64 18))),
 mv 53 54] [54])
 (.cond (.s 53)
 (.exit 8)
 .skip))
 (.seq (.seq (.reg [o0 56 (.bin .eql (.s 28) (.c (.int .i64 19))),
 mv 55 56] [56])
 (.cond (.s 55)
 (.exit 9)
 .skip))
 (.seq (.reg [o0 58 (.bin .eql (.s 28) (.c (.int .i64 20))),
 mv 57 58] [58])
 (.cond (.s 57)
 (.exit 10)
 .skip)))))))))))
 (.exit 0)))
 (.seq (.reg [mv 59 0,
 o0 60 (.fadr 4 (.s 3)),
 o0 61 (.load (some 3) (.s 60)),
 o0 62 (.call 45 [(.s 59), (.s 61)])] [59, 60, 61, 62])
 (.exit 0))))
 (.seq (.reg [mv 63 0,
 o0 64 (.fadr 8 (.s 3)),
 o0 65 (.load none (.s 64)),
 o0 66 (.len (.s 65)),
 o0 67 (.call 44 [(.s 63), (.s 66)])] [63, 64, 65, 66, 67])
 (.reg [mv 68 0,
 o0 69 (.fadr 8 (.s 3)),
 o0 70 (.load none (.s 69)),
 o0 71 (.call 46 [(.s 68), (.s 70)])] [68, 69, 70, 71]))))
 (.seq (.reg [mv 72 0,
 o0 73 (.fadr 1 (.s 3)),
 o0 74 (.load none (.s 73)),
 o0 75 (.call 44 [(.s 72), (.s 74)])] [72, 73, 74, 75])
 (.exit 0))))
 (.seq (.reg [mv 76 0,
 o0 77 (.fadr 1 (.s 3)),
 o0 78 (.load none (.s 77)),
 o0 79 (.fadr 2 (.s 3)),
 o0 80 (.load none (.s 79)),
 o0 81 (.bsl 3 1 [[(.int .i64 0)], [(.int .i64 0)]] [(0, (.s 78)), (1, (.s 80))]),
 o0 82 (.call 46 [(.s 76), (.s 81)])] [76, 77, 78, 79, 80, 81, 82])
 (.exit 0))))
 (.seq (.seq (.reg [mv 83 0,
 o0 84 (.call 44 [(.s 83), (.c (.int .i64 1))])] [83, 84])
 (.reg [mv 85 0,
 o0 86 (.fadr 7 (.s 3)),
 o0 87 (.load none (.s 86)),
 o0 88 (.iadr 1 (.s 87) (.c (.int .i64 0))),
 o0 89 (.load none (.s 88)),
 o0 90 (.call 47 [(.s 85), (.s 89)])] [85, 86, 87, 88, 89, 90]))
 (.exit 0))))
 (.seq (.reg [mv 91 0,
 o0 92 (.fadr 2 (.s 3)),
 o0 93 (.load none (.s 92)),
 o0 94 (.call 44 [(.s 91), (.s 93)])] [91, 92, 93, 94])
 (.exit 0))))
 (.seq (.seq (.seq (.reg [o0 95 (.fadr 2 (.s 3)),
 o0 96 (.load none (.s 95)),
 o0 97 (.bin .eql (.s 96) (.c (.int .i64 0)))] [95, 96])
 (.cond (.s 97)
 (.reg [mv 98 0,
 o0 99 (.fadr 1 (.s 3)),
 o0 100 (.load none (.s 99)),
 o0 101 (.call 44 [(.s 98), (.s 100)])] [98, 99, 100, 101])
 (.reg [mv 102 0,
 o0 103 (.fadr 1 (.s 3)),
 o0 104 (.load none (.s 103)),
 o0 105 (.bin .add (.s 104) (.c (.int .i64 64))),
 o0 106 (.fadr 2 (.s 3)),
 o0 107 (.load none (.s 106)),
 o0 108 (.bsl 3 1 [[(.int .i64 0)], [(.int .i64 0)]] [(0, (.s 105)), (1, (.s 107))]),
 o0 109 (.call 46 [(.s 102), (.s 108)])] [102, 103, 104, 105, 106, 107, 108, 109])))
 (.reg [mv 110 0,
 o0 111 (.fadr 3 (.s 3)),
 o0 112 (.load none (.s 111)),
 o0 113 (.cvi .i64 (.s 112)),
 o0 114 (.call 44 [(.s 110), (.s 113)])] [110, 111, 112, 113, 114]))
 (.exit 0))))
 (.seq (.reg [mv 115 0,
 o0 116 (.fadr 3 (.s 3)),
 o0 117 (.load none (.s 116)),
 o0 118 (.call 48 [(.s 115), (.s 117)])] [115, 116, 117, 118])
 (.exit 0))))
 (.seq (.reg [mv 119 0,
 o0 120 (.fadr 3 (.s 3)),
 o0 121 (.load none (.s 120)),
 o0 122 (.call 49 [(.s 119), (.s 121)])] [119, 120, 121, 122])
 (.exit 0))))
 (.seq (.reg [mv 123 0,
 o0 124 (.fadr 1 (.s 3)),
 o0 125 (.load none (.s 124)),
 o0 126 (.call 47 [(.s 123), (.s 125)])] [123, 124, 125, 126])
 (.exit 0)))))))))⟩

theorem c_bincode_Put : compF Tryd.prog 22 = some F_bincode_Put := by kernel_rfl
abbrev n_bincode_Put : FuncId := 22

def F_bincode_op : IFun :=
⟨31, 1, [.tmp 2],
 (.seq (.reg [o0 2 (.mov (.c (.int .i64 0)))] [])
 (.seq (.reg [mv 5 0,
 o0 6 (.call 50 [(.s 5)]),
 o0 7 (.cvi .i64 (.s 6)),
 mv 3 7] [5, 6, 7])
 (.seq (.seq (.reg [mv 8 3,
 o0 9 (.bin .eql (.s 8) (.c (.int .i64 252)))] [8])
 (.cond (.s 9)
 (.seq (.reg [mv 10 0,
 o0 11 (.call 27 [(.s 10)]),
 mv 4 11] [10, 11])
 (.seq (.reg [o0 3 (.mov (.c (.int .i64 64512)))] [])
 (.seq (.seq (.reg [mv 12 4,
 o0 13 (.bin .gtr (.s 12) (.c (.int .i64 255)))] [12])
 (.cond (.s 13)
 (.reg [mv 14 0,
 o0 15 (.call 28 [(.s 14), (.c (.int .i64 10))])] [14, 15])
 .skip))
 (.reg [mv 16 3,
 mv 17 4,
 o0 18 (.bin .and (.s 17) (.c (.int .i64 255))),
 o0 19 (.bin .add (.s 16) (.s 18)),
 mv 3 19] [16, 17, 18, 19]))))
 .skip))
 (.seq (.seq (.reg [mv 20 0,
 o0 21 (.call 14 [(.s 20)]),
 o0 22 (.bin .eql (.s 21) (.c (.int .i64 0))),
 mv 23 22,
 mt 24 3 23,
 ot 25 23 (.call 51 [(.s 24)]),
 ot 26 23 (.un .not (.s 25)),
 o0 27 (.pick (.s 23) (.s 26) (.c (.bool false)))] [20, 21, 22, 23, 24, 25, 26])
 (.cond (.s 27)
 (.reg [mv 28 0,
 o0 29 (.call 28 [(.s 28), (.c (.int .i64 10))])] [28, 29])
 .skip))
 (.seq (.reg [mv 30 3,
 mv 2 30] [30])
 .ret)))))⟩

theorem c_bincode_op : compF Tryd.prog 23 = some F_bincode_op := by kernel_rfl
abbrev n_bincode_op : FuncId := 23

def F_opcode_Of : IFun :=
⟨38, 1, [.tmp 2],
 (.seq (.reg [o0 2 (.mov (.c (.int .i64 0)))] [])
 (.seq (.seq (.reg [mv 3 0] [])
 (.block 0 (.seq (.seq (.reg [o0 5 (.bin .eql (.s 3) (.c (.int .i64 2))),
 mv 4 5] [5])
 (.cond (.s 4)
 .skip
 (.seq (.reg [o0 6 (.bin .eql (.s 3) (.c (.int .i64 3))),
 mv 4 6] [6])
 (.cond (.s 4)
 .skip
 (.reg [o0 7 (.bin .eql (.s 3) (.c (.int .i64 4))),
 mv 4 7] [7])))))
 (.cond (.s 4)
 (.seq (.reg [o0 2 (.mov (.c (.int .i64 1)))] [])
 .ret)
 (.seq (.seq (.reg [o0 9 (.bin .eql (.s 3) (.c (.int .i64 12))),
 mv 8 9] [9])
 (.cond (.s 8)
 .skip
 (.reg [o0 10 (.bin .eql (.s 3) (.c (.int .i64 13))),
 mv 8 10] [10])))
 (.cond (.s 8)
 (.seq (.reg [o0 2 (.mov (.c (.int .i64 2)))] [])
 .ret)
 (.seq (.reg [o0 12 (.bin .eql (.s 3) (.c (.int .i64 14))),
 mv 11 12] [12])
 (.cond (.s 11)
 (.seq (.reg [o0 2 (.mov (.c (.int .i64 3)))] [])
 .ret)
 (.seq (.seq (.reg [o0 14 (.bin .eql (.s 3) (.c (.int .i64 16))),
 mv 13 14] [14])
 (.cond (.s 13)
 .skip
 (.reg [o0 15 (.bin .eql (.s 3) (.c (.int .i64 210))),
 mv 13 15] [15])))
 (.cond (.s 13)
 (.seq (.reg [o0 2 (.mov (.c (.int .i64 4)))] [])
 .ret)
 (.seq (.reg [o0 17 (.bin .eql (.s 3) (.c (.int .i64 17))),
 mv 16 17] [17])
 (.cond (.s 16)
 (.seq (.reg [o0 2 (.mov (.c (.int .i64 5)))] [])
 .ret)
 (.seq (.reg [o0 19 (.bin .eql (.s 3) (.c (.int .i64 28))),
 mv 18 19] [19])
 (.cond (.s 18)
 (.seq (.reg [o0 2 (.mov (.c (.int .i64 6)))] [])
 .ret)
 (.seq (.seq (.reg [o0 21 (.bin .eql (.s 3) (.c (.int .i64 32))),
 mv 20 21] [21])
 (.cond (.s 20)
 .skip
 (.seq (.reg [o0 22 (.bin .eql (.s 3) (.c (.int .i64 33))),
 mv 20 22] [22])
 (.cond (.s 20)
 .skip
 (.reg [o0 23 (.bin .eql (.s 3) (.c (.int .i64 34))),
 mv 20 23] [23])))))
 (.cond (.s 20)
 (.seq (.reg [o0 2 (.mov (.c (.int .i64 7)))] [])
 .ret)
 (.seq (.seq (.reg [o0 25 (.bin .eql (.s 3) (.c (.int .i64 35))),
 mv 24 25] [25])
 (.cond (.s 24)
 .skip
 (.reg [o0 26 (.bin .eql (.s 3) (.c (.int .i64 36))),
 mv 24 26] [26])))
 (.cond (.s 24)
 (.seq (.reg [o0 2 (.mov (.c (.int .i64 8)))] [])
 .ret)
 (.seq (.reg [o0 28 (.bin .eql (.s 3) (.c (.int .i64 65))),
 mv 27 28] [28])
 (.cond (.s 27)
 (.seq (.reg [o0 2 (.mov (.c (.int .i64 18)))] [])
 .ret)
 (.seq (.reg [o0 30 (.bin .eql (.s 3) (.c (.int .i64 66))),
 mv 29 30] [30])
 (.cond (.s 29)
 (.seq (.reg [o0 2 (.mov (.c (.int .i64 19)))] [])
 .ret)
 (.seq (.reg [o0 32 (.bin .eql (.s 3) (.c (.int .i64 208))),
 mv 31 32] [32])
 (.cond (.s 31)
 (.seq (.reg [o0 2 (.mov (.c (.int .i64 20)))] [])
 .ret)
 .skip))))))))))))))))))))))))
 (.seq (.seq (.reg [mv 33 0,
 o0 34 (.call 52 [(.s 33)]),
 o0 35 (.bin .gtr (.s 34) (.c (.int .i64 0)))] [33, 34])
 (.cond (.s 35)
 (.seq (.reg [o0 2 (.mov (.c (.int .i64 17)))] [])
 .ret)
 .skip))
 (.seq (.reg [mv 36 0,
 o0 37 (.call 53 [(.s 36)]),
 mv 2 37] [36, 37])
 .ret))))⟩

theorem c_opcode_Of : compF Tryd.prog 24 = some F_opcode_Of := by kernel_rfl
abbrev n_opcode_Of : FuncId := 24

def F_bintype_GetBlock : IFun :=
⟨35, 1, [.cell 2 (some 3)],
 (.seq (.reg [o0 2 (.new 29 [(.int .i64 0), (.int .i64 0), (.int .i64 0)])] [])
 (.seq (.reg [mv 6 0,
 o0 7 (.call 54 [(.s 6)]),
 mv 3 7] [6, 7])
 (.seq (.seq (.reg [mv 8 0,
 o0 9 (.call 14 [(.s 8)]),
 o0 10 (.bin .neq (.s 9) (.c (.int .i64 0))),
 mv 11 10,
 mf 12 3 11,
 oF 13 11 (.bin .eql (.s 12) (.c (.int .i64 (-64)))),
 o0 14 (.pick (.s 11) (.c (.bool true)) (.s 13))] [8, 9, 10, 11, 12, 13])
 (.cond (.s 14)
 (.seq (.reg [o0 15 (.build [(.int .i64 0), (.int .i64 0), (.int .i64 0)] []),
 ⟨none, .store 3 (.s 2) (.s 15), none⟩] [15])
 .ret)
 .skip))
 (.seq (.seq (.reg [mv 16 3,
 o0 17 (.bin .geq (.s 16) (.c (.int .i64 0)))] [16])
 (.cond (.s 17)
 (.seq (.reg [mv 18 3,
 o0 19 (.build [(.int .i64 0), (.int .i64 0), (.int .i64 0)] [(0, 1, (.c (.int .i64 2))), (2, 1, (.s 18))]),
 ⟨none, .store 3 (.s 2) (.s 19), none⟩] [18, 19])
 .ret)
 .skip))
 (.seq (.seq (.reg [mv 20 3,
 o0 21 (.bin .geq (.s 20) (.c (.int .i64 (-17))))] [20])
 (.cond (.s 21)
 (.seq (.reg [mv 23 3,
 o0 24 (.bin .add (.s 23) (.c (.int .i64 128))),
 o0 25 (.cvi .u8 (.s 24)),
 o0 26 (.call 55 [(.s 25)]),
 mv 22 26,
 o0 27 (.ext (.s 22) 0),
 o0 28 (.ext (.s 22) 1),
 mv 4 27,
 mv 5 28] [23, 24, 25, 26, 22, 27, 28])
 (.seq (.reg [mv 29 5] [])
 (.cond (.s 29)
 (.seq (.reg [mv 30 4,
 o0 31 (.build [(.int .i64 0), (.int .i64 0), (.int .i64 0)] [(0, 1, (.c (.int .i64 1))), (1, 1, (.s 30))]),
 ⟨none, .store 3 (.s 2) (.s 31), none⟩] [30, 31])
 .ret)
 .skip)))
 .skip))
 (.seq (.reg [mv 32 0,
 o0 33 (.call 28 [(.s 32), (.c (.int .i64 4))])] [32, 33])
 (.seq (.reg [o0 34 (.build [(.int .i64 0), (.int .i64 0), (.int .i64 0)] []),
 ⟨none, .store 3 (.s 2) (.s 34), none⟩] [34])
 .ret)))))))⟩

theorem c_bintype_GetBlock : compF Tryd.prog 25 = some F_bintype_GetBlock := by kernel_rfl
abbrev n_bintype_GetBlock : FuncId := 25

def F_Poctet_Reader_Count : IFun :=
⟨33, 2, [.tmp 4],
 (.seq (.reg [o0 4 (.mov (.c (.int .i64 0)))] [])
 (.seq (.seq (.reg [mv 7 0,
 o0 8 (.call 33 [(.s 7)]),
 o0 9 (.un .not (.s 8))] [7, 8])
 (.cond (.s 9)
 (.seq (.reg [o0 4 (.mov (.c (.int .i64 0)))] [])
 .ret)
 .skip))
 (.seq (.reg [mv 10 0,
 o0 11 (.nchk (.s 10)),
 o0 12 (.fadr 2 (.s 11)),
 o0 13 (.load none (.s 12)),
 mv 5 13] [10, 11, 12, 13])
 (.seq (.reg [mv 14 0,
 o0 15 (.call 27 [(.s 14)]),
 mv 6 15] [14, 15])
 (.seq (.seq (.reg [mv 16 0,
 o0 17 (.nchk (.s 16)),
 o0 18 (.fadr 3 (.s 17)),
 o0 19 (.load none (.s 18)),
 o0 20 (.bin .eql (.s 19) (.c (.int .i64 0))),
 mv 21 20,
 mt 22 6 21,
 mt 23 1 21,
 ot 24 21 (.bin .gtr (.s 22) (.s 23)),
 o0 25 (.pick (.s 21) (.s 24) (.c (.bool false)))] [16, 17, 18, 19, 20, 21, 22, 23, 24])
 (.cond (.s 25)
 (.seq (.reg [mv 26 0,
 mv 27 5,
 o0 28 (.nchk (.s 26)),
 o0 29 (.fadr 2 (.s 28)),
 ⟨none, .store 1 (.s 29) (.s 27), none⟩] [26, 27, 28, 29])
 (.seq (.reg [mv 30 0,
 o0 31 (.call 28 [(.s 30), (.c (.int .i64 6))])] [30, 31])
 (.seq (.reg [o0 4 (.mov (.c (.int .i64 0)))] [])
 .ret)))
 .skip))
 (.seq (.reg [mv 32 6,
 mv 4 32] [32])
 .ret))))))⟩

theorem c_Poctet_Reader_Count : compF Tryd.prog 26 = some F_Poctet_Reader_Count := by kernel_rfl
abbrev n_Poctet_Reader_Count : FuncId := 26

def F_Poctet_Reader_U32 : IFun :=
⟨6, 1, [.tmp 2],
 (.seq (.reg [o0 2 (.mov (.c (.int .i64 0)))] [])
 (.seq (.reg [mv 3 0,
 o0 4 (.call 56 [(.s 3), (.c (.int .i64 32))]),
 o0 5 (.cvi .i64 (.s 4)),
 mv 2 5] [3, 4, 5])
 .ret))⟩

theorem c_Poctet_Reader_U32 : compF Tryd.prog 27 = some F_Poctet_Reader_U32 := by kernel_rfl
abbrev n_Poctet_Reader_U32 : FuncId := 27

def F_Poctet_Reader_Fail : IFun :=
⟨10, 2, [],
 (.seq (.reg [mv 4 0,
 o0 5 (.call 33 [(.s 4)])] [4])
 (.cond (.s 5)
 (.reg [mv 6 0,
 mv 7 1,
 o0 8 (.nchk (.s 6)),
 o0 9 (.fadr 3 (.s 8)),
 ⟨none, .store 1 (.s 9) (.s 7), none⟩] [6, 7, 8, 9])
 .skip))⟩

theorem c_Poctet_Reader_Fail : compF Tryd.prog 28 = some F_Poctet_Reader_Fail := by kernel_rfl
abbrev n_Poctet_Reader_Fail : FuncId := 28

def F_bintype_GetVal : IFun :=
⟨21, 1, [.tmp 2],
 (.seq (.reg [o0 2 (.mov (.c (.int .i64 0)))] [])
 (.seq (.reg [mv 6 0,
 o0 7 (.call 50 [(.s 6)]),
 mv 3 7] [6, 7])
 (.seq (.seq (.reg [mv 8 0,
 o0 9 (.call 14 [(.s 8)]),
 o0 10 (.bin .neq (.s 9) (.c (.int .i64 0)))] [8, 9])
 (.cond (.s 10)
 (.seq (.reg [o0 2 (.mov (.c (.int .i64 0)))] [])
 .ret)
 .skip))
 (.seq (.reg [mv 12 3,
 o0 13 (.call 55 [(.s 12)]),
 mv 11 13,
 o0 14 (.ext (.s 11) 0),
 o0 15 (.ext (.s 11) 1),
 mv 4 14,
 mv 5 15] [12, 13, 11, 14, 15])
 (.seq (.seq (.reg [mv 16 5,
 o0 17 (.un .not (.s 16))] [16])
 (.cond (.s 17)
 (.seq (.reg [mv 18 0,
 o0 19 (.call 28 [(.s 18), (.c (.int .i64 4))])] [18, 19])
 (.seq (.reg [o0 2 (.mov (.c (.int .i64 0)))] [])
 .ret))
 .skip))
 (.seq (.reg [mv 20 4,
 mv 2 20] [20])
 .ret))))))⟩

theorem c_bintype_GetVal : compF Tryd.prog 29 = some F_bintype_GetVal := by kernel_rfl
abbrev n_bintype_GetVal : FuncId := 29

def F_bincode_access : IFun :=
⟨39, 2, [],
 (.seq (.reg [mv 4 1,
 mv 5 0,
 o0 6 (.call 27 [(.s 5)]),
 o0 7 (.nchk (.s 4)),
 o0 8 (.fadr 1 (.s 7)),
 ⟨none, .store 1 (.s 8) (.s 6), none⟩] [4, 5, 6, 7, 8])
 (.seq (.seq (.reg [mv 9 1,
 o0 10 (.nchk (.s 9)),
 o0 11 (.fadr 1 (.s 10)),
 o0 12 (.load none (.s 11)),
 o0 13 (.bin .geq (.s 12) (.c (.int .i64 128)))] [9, 10, 11, 12])
 (.cond (.s 13)
 (.reg [mv 14 0,
 o0 15 (.call 28 [(.s 14), (.c (.int .i64 4))])] [14, 15])
 .skip))
 (.seq (.seq (.reg [mv 16 1,
 o0 17 (.nchk (.s 16)),
 o0 18 (.fadr 1 (.s 17)),
 o0 19 (.load none (.s 18)),
 o0 20 (.bin .geq (.s 19) (.c (.int .i64 64)))] [16, 17, 18, 19])
 (.cond (.s 20)
 (.seq (.reg [mv 21 1,
 o0 22 (.nchk (.s 21)),
 o0 23 (.fadr 1 (.s 22)),
 o0 24 (.load none (.s 23)),
 o0 25 (.bin .sub (.s 24) (.c (.int .i64 64))),
 o0 26 (.nchk (.s 21)),
 o0 27 (.fadr 1 (.s 26)),
 ⟨none, .store 1 (.s 27) (.s 25), none⟩] [21, 22, 23, 24, 25, 26, 27])
 (.reg [mv 28 1,
 mv 29 0,
 o0 30 (.call 27 [(.s 29)]),
 o0 31 (.nchk (.s 28)),
 o0 32 (.fadr 2 (.s 31)),
 ⟨none, .store 1 (.s 32) (.s 30), none⟩] [28, 29, 30, 31, 32]))
 .skip))
 (.reg [mv 33 1,
 mv 34 0,
 o0 35 (.call 27 [(.s 34)]),
 o0 36 (.cvi .u64 (.s 35)),
 o0 37 (.nchk (.s 33)),
 o0 38 (.fadr 3 (.s 37)),
 ⟨none, .store 1 (.s 38) (.s 36), none⟩] [33, 34, 35, 36, 37, 38]))))⟩

theorem c_bincode_access : compF Tryd.prog 30 = some F_bincode_access := by kernel_rfl
abbrev n_bincode_access : FuncId := 30

def F_Poctet_Reader_S32 : IFun :=
⟨7, 1, [.tmp 2],
 (.seq (.reg [o0 2 (.mov (.c (.int .u64 0)))] [])
 (.seq (.reg [mv 3 0,
 o0 4 (.call 57 [(.s 3), (.c (.int .i64 32))]),
 o0 5 (.cvi .u32 (.s 4)),
 o0 6 (.cvi .u64 (.s 5)),
 mv 2 6] [3, 4, 5, 6])
 .ret))⟩

theorem c_Poctet_Reader_S32 : compF Tryd.prog 31 = some F_Poctet_Reader_S32 := by kernel_rfl
abbrev n_Poctet_Reader_S32 : FuncId := 31

def F_Poctet_Reader_S64 : IFun :=
⟨6, 1, [.tmp 2],
 (.seq (.reg [o0 2 (.mov (.c (.int .u64 0)))] [])
 (.seq (.reg [mv 3 0,
 o0 4 (.call 57 [(.s 3), (.c (.int .i64 64))]),
 o0 5 (.cvi .u64 (.s 4)),
 mv 2 5] [3, 4, 5])
 .ret))⟩

theorem c_Poctet_Reader_S64 : compF Tryd.prog 32 = some F_Poctet_Reader_S64 := by kernel_rfl
abbrev n_Poctet_Reader_S64 : FuncId := 32

def F_Poctet_Reader_sound : IFun :=
⟨18, 1, [.tmp 2],
 (.seq (.reg [o0 2 (.mov (.c (.bool false)))] [])
 (.seq (.reg [mv 3 0,
 o0 4 (.pbin .neq (.s 3) (.c .np)),
 mv 5 4,
 mt 6 0 5,
 ot 7 5 (.nchk (.s 6)),
 ot 8 5 (.fadr 0 (.s 7)),
 ot 9 5 (.load none (.s 8)),
 o0 10 (.pick (.s 5) (.s 9) (.c (.bool false))),
 mv 11 10,
 mt 12 0 11,
 ot 13 11 (.nchk (.s 12)),
 ot 14 11 (.fadr 3 (.s 13)),
 ot 15 11 (.load none (.s 14)),
 ot 16 11 (.bin .eql (.s 15) (.c (.int .i64 0))),
 o0 17 (.pick (.s 11) (.s 16) (.c (.bool false))),
 mv 2 17] [3, 4, 5, 6, 7, 8, 9, 10, 11, 12, 13, 14, 15, 16, 17])
 .ret))⟩

theorem c_Poctet_Reader_sound : compF Tryd.prog 33 = some F_Poctet_Reader_sound := by kernel_rfl
abbrev n_Poctet_Reader_sound : FuncId := 33

def F_Poctet_Writer_sound : IFun :=
⟨18, 1, [.tmp 2],
 (.seq (.reg [o0 2 (.mov (.c (.bool false)))] [])
 (.seq (.reg [mv 3 0,
 o0 4 (.pbin .neq (.s 3) (.c .np)),
 mv 5 4,
 mt 6 0 5,
 ot 7 5 (.nchk (.s 6)),
 ot 8 5 (.fadr 0 (.s 7)),
 ot 9 5 (.load none (.s 8)),
 o0 10 (.pick (.s 5) (.s 9) (.c (.bool false))),
 mv 11 10,
 mt 12 0 11,
 ot 13 11 (.nchk (.s 12)),
 ot 14 11 (.fadr 2 (.s 13)),
 ot 15 11 (.load none (.s 14)),
 ot 16 11 (.bin .eql (.s 15) (.c (.int .i64 0))),
 o0 17 (.pick (.s 11) (.s 16) (.c (.bool false))),
 mv 2 17] [3, 4, 5, 6, 7, 8, 9, 10, 11, 12, 13, 14, 15, 16, 17])
 .ret))⟩

theorem c_Poctet_Writer_sound : compF Tryd.prog 40 = some F_Poctet_Writer_sound := by kernel_rfl
abbrev n_Poctet_Writer_sound : FuncId := 40

def F_opcode_Plain : IFun :=
⟨143, 1, [.tmp 2],
 (.seq (.reg [o0 1 (.box 33 9 (.s 0)),
 o0 2 (.mov (.c (.bool false)))] [])
 (.seq (.reg [o0 9 (.fadr 0 (.s 1)),
 o0 10 (.load none (.s 9)),
 o0 11 (.call 24 [(.s 10)]),
 mv 3 11] [9, 10, 11])
 (.seq (.reg [mv 13 3,
 o0 14 (.call 59 [(.s 13)]),
 mv 12 14,
 o0 15 (.ext (.s 12) 0),
 o0 16 (.ext (.s 12) 1),
 o0 17 (.ext (.s 12) 2),
 mv 4 15,
 mv 5 16,
 mv 6 17] [13, 14, 12, 15, 16, 17])
 (.seq (.seq (.reg [o0 18 (.fadr 0 (.s 1)),
 o0 19 (.load none (.s 18)),
 o0 20 (.call 51 [(.s 19)]),
 o0 21 (.un .not (.s 20)),
 mv 22 21,
 mf 23 4 22,
 oF 24 22 (.un .not (.s 23)),
 mf 25 24 22,
 ot 26 25 (.fadr 1 (.s 1)),
 ot 27 25 (.load none (.s 26)),
 ot 28 25 (.bin .neq (.s 27) (.c (.int .i64 0))),
 oF 29 22 (.pick (.s 25) (.s 28) (.c (.bool false))),
 o0 30 (.pick (.s 22) (.c (.bool true)) (.s 29)),
 mv 31 30,
 mf 32 5 31,
 oF 33 31 (.un .not (.s 32)),
 mf 34 33 31,
 ot 35 34 (.fadr 2 (.s 1)),
 ot 36 34 (.load none (.s 35)),
 ot 37 34 (.bin .neq (.s 36) (.c (.int .i64 0))),
 oF 38 31 (.pick (.s 34) (.s 37) (.c (.bool false))),
 o0 39 (.pick (.s 31) (.c (.bool true)) (.s 38)),
 mv 40 39,
 mf 41 6 40,
 oF 42 40 (.un .not (.s 41)),
 mf 43 42 40,
 ot 44 43 (.fadr 3 (.s 1)),
 ot 45 43 (.load none (.s 44)),
 ot 46 43 (.bin .neq (.s 45) (.c (.int .u64 0))),
 oF 47 40 (.pick (.s 43) (.s 46) (.c (.bool false))),
 o0 48 (.pick (.s 40) (.c (.bool true)) (.s 47)),
 mv 49 48,
 oF 50 49 (.fadr 1 (.s 1)),
 oF 51 49 (.load none (.s 50)),
 oF 52 49 (.call 60 [(.s 51)]),
 oF 53 49 (.un .not (.s 52)),
 o0 54 (.pick (.s 49) (.c (.bool true)) (.s 53)),
 mv 55 54,
 oF 56 55 (.fadr 2 (.s 1)),
 oF 57 55 (.load none (.s 56)),
 oF 58 55 (.call 60 [(.s 57)]),
 oF 59 55 (.un .not (.s 58)),
 o0 60 (.pick (.s 55) (.c (.bool true)) (.s 59))] [18, 19, 20, 21, 22, 23, 24, 25, 26, 27, 28, 29, 30, 31, 32, 33, 34, 35, 36, 37, 38, 39, 40, 41, 42, 43, 44, 45, 46, 47, 48, 49, 50, 51, 52, 53, 54, 55, 56, 57, 58, 59])
 (.cond (.s 60)
 (.seq (.reg [o0 2 (.mov (.c (.bool false)))] [])
 .ret)
 .skip))
 (.seq (.seq (.reg [mv 61 3,
 o0 62 (.bin .neq (.s 61) (.c (.int .i64 19))),
 mv 63 62,
 ot 64 63 (.fadr 3 (.s 1)),
 ot 65 63 (.load none (.s 64)),
 ot 66 63 (.bin .geq (.s 65) (.c (.int .u64 4294967296))),
 o0 67 (.pick (.s 63) (.s 66) (.c (.bool false))),
 mv 68 67,
 mf 69 3 68,
 oF 70 68 (.bin .neq (.s 69) (.c (.int .i64 1))),
 mf 71 70 68,
 ot 72 71 (.fadr 4 (.s 1)),
 ot 73 71 (.load (some 3) (.s 72)),
 ot 74 71 (.build [(.int .i64 0), (.int .i64 0), (.int .i64 0)] []),
 ot 75 71 (.sbin .neq [.i, .i, .i] (.s 73) (.s 74)),
 oF 76 68 (.pick (.s 71) (.s 75) (.c (.bool false))),
 o0 77 (.pick (.s 68) (.c (.bool true)) (.s 76)),
 mv 78 77,
 mf 79 3 78,
 oF 80 78 (.bin .neq (.s 79) (.c (.int .i64 6))),
 mf 81 80 78,
 ot 82 81 (.fadr 7 (.s 1)),
 ot 83 81 (.load none (.s 82)),
 ot 84 81 (.len (.s 83)),
 ot 85 81 (.bin .gtr (.s 84) (.c (.int .i64 0))),
 oF 86 78 (.pick (.s 81) (.s 85) (.c (.bool false))),
 o0 87 (.pick (.s 78) (.c (.bool true)) (.s 86)),
 mv 88 87,
 mf 89 3 88,
 oF 90 88 (.bin .neq (.s 89) (.c (.int .i64 3))),
 mf 91 90 88,
 ot 92 91 (.fadr 8 (.s 1)),
 ot 93 91 (.load none (.s 92)),
 ot 94 91 (.len (.s 93)),
 ot 95 91 (.bin .gtr (.s 94) (.c (.int .i64 0))),
 oF 96 88 (.pick (.s 91) (.s 95) (.c (.bool false))),
 o0 97 (.pick (.s 88) (.c (.bool true)) (.s 96))] [61, 62, 63, 64, 65, 66, 67, 68, 69, 70, 71, 72, 73, 74, 75, 76, 77, 78, 79, 80, 81, 82, 83, 84, 85, 86, 87, 88, 89, 90, 91, 92, 93, 94, 95, 96])
 (.cond (.s 97)
 (.seq (.reg [o0 2 (.mov (.c (.bool false)))] [])
 .ret)
 .skip))
 (.seq (.seq (.reg [mv 98 3] [])
 (.block 0 (.seq (.reg [o0 100 (.bin .eql (.s 98) (.c (.int .i64 1))),
 mv 99 100] [100])
 (.cond (.s 99)
 (.seq (.reg [o0 101 (.fadr 4 (.s 1)),
 o0 102 (.load (some 3) (.s 101)),
 o0 103 (.call 61 [(.s 102)]),
 mv 2 103] [101, 102, 103])
 .ret)
 (.seq (.reg [o0 105 (.bin .eql (.s 98) (.c (.int .i64 6))),
 mv 104 105] [105])
 (.cond (.s 104)
 (.seq (.reg [o0 106 (.fadr 7 (.s 1)),
 o0 107 (.load none (.s 106)),
 o0 108 (.len (.s 107)),
 o0 109 (.bin .eql (.s 108) (.c (.int .i64 1))),
 mv 110 109,
 ot 111 110 (.fadr 7 (.s 1)),
 ot 112 110 (.load none (.s 111)),
 ot 113 110 (.iadr 1 (.s 112) (.c (.int .i64 0))),
 ot 114 110 (.load none (.s 113)),
 ot 115 110 (.call 62 [(.s 114)]),
 o0 116 (.pick (.s 110) (.s 115) (.c (.bool false))),
 mv 2 116] [106, 107, 108, 109, 110, 111, 112, 113, 114, 115, 116])
 .ret)
 (.seq (.reg [o0 118 (.bin .eql (.s 98) (.c (.int .i64 17))),
 mv 117 118] [118])
 (.cond (.s 117)
 (.seq (.reg [o0 119 (.fadr 1 (.s 1)),
 o0 120 (.load none (.s 119)),
 o0 121 (.bin .leq (.s 120) (.c (.int .i64 63))),
 mv 2 121] [119, 120, 121])
 .ret)
 (.seq (.reg [o0 123 (.bin .eql (.s 98) (.c (.int .i64 20))),
 mv 122 123] [123])
 (.cond (.s 122)
 (.seq (.reg [o0 124 (.fadr 1 (.s 1)),
 o0 125 (.load none (.s 124)),
 o0 126 (.bin .eql (.s 125) (.c (.int .i64 3))),
 mv 127 126,
 oF 128 127 (.fadr 1 (.s 1)),
 oF 129 127 (.load none (.s 128)),
 oF 130 127 (.bin .eql (.s 129) (.c (.int .i64 4))),
 o0 131 (.pick (.s 127) (.c (.bool true)) (.s 130)),
 mv 2 131] [124, 125, 126, 127, 128, 129, 130, 131])
 .ret)
 .skip))))))))))
 (.seq (.seq (.reg [o0 132 (.fadr 8 (.s 1)),
 o0 133 (.load none (.s 132)),
 o0 134 (.len (.s 133)),
 o0 135 (.mov (.c (.int .i64 0)))] [132])
 (.block 1 (.loop (.seq (.reg [o0 136 (.bin .lss (.s 135) (.s 134))] [])
 (.seq (.cond (.s 136)
 .skip
 (.exit 1))
 (.seq (.block 2 (.seq (.reg [o0 137 (.iadr 1 (.s 133) (.s 135)),
 o0 138 (.load none (.s 137)),
 mv 8 138] [137, 138])
 (.seq (.reg [mv 139 8,
 o0 140 (.call 60 [(.s 139)]),
 o0 141 (.un .not (.s 140))] [139, 140])
 (.cond (.s 141)
 (.seq (.reg [o0 2 (.mov (.c (.bool false)))] [])
 .ret)
 .skip))))
 (.reg [o0 142 (.bin .add (.s 135) (.c (.int .i64 1))),
 mv 135 142] [142])))))))
 (.seq (.reg [o0 2 (.mov (.c (.bool true)))] [])
 .ret))))))))⟩

theorem c_opcode_Plain : compF Tryd.prog 41 = some F_opcode_Plain := by kernel_rfl
abbrev n_opcode_Plain : FuncId := 41

def F_Poctet_Writer_Fail : IFun :=
⟨10, 2, [],
 (.seq (.reg [mv 4 0,
 o0 5 (.call 40 [(.s 4)])] [4])
 (.cond (.s 5)
 (.reg [mv 6 0,
 mv 7 1,
 o0 8 (.nchk (.s 6)),
 o0 9 (.fadr 2 (.s 8)),
 ⟨none, .store 1 (.s 9) (.s 7), none⟩] [6, 7, 8, 9])
 .skip))⟩

theorem c_Poctet_Writer_Fail : compF Tryd.prog 42 = some F_Poctet_Writer_Fail := by kernel_rfl
abbrev n_Poctet_Writer_Fail : FuncId := 42

def F_Poctet_Writer_Byte : IFun :=
⟨8, 2, [],
 (.reg [mv 4 0,
 mv 5 1,
 o0 6 (.bsl 5 1 [[(.int .u8 0)]] [(0, (.s 5))]),
 o0 7 (.call 20 [(.s 4), (.s 6)])] [4, 5, 6, 7])⟩

theorem c_Poctet_Writer_Byte : compF Tryd.prog 43 = some F_Poctet_Writer_Byte := by kernel_rfl
abbrev n_Poctet_Writer_Byte : FuncId := 43

def F_Poctet_Writer_U32 : IFun :=
⟨17, 2, [],
 (.seq (.seq (.reg [mv 4 1,
 o0 5 (.bin .lss (.s 4) (.c (.int .i64 0))),
 mv 6 5,
 mf 7 1 6,
 oF 8 6 (.bin .gtr (.s 7) (.c (.int .i64 4294967295))),
 o0 9 (.pick (.s 6) (.c (.bool true)) (.s 8))] [4, 5, 6, 7, 8])
 (.cond (.s 9)
 (.seq (.reg [mv 10 0,
 o0 11 (.call 42 [(.s 10), (.c (.int .i64 1))])] [10, 11])
 .ret)
 .skip))
 (.reg [mv 12 0,
 mv 13 1,
 o0 14 (.cvi .u64 (.s 13)),
 o0 15 (.call 63 [(.c .nl), (.s 14)]),
 o0 16 (.call 20 [(.s 12), (.s 15)])] [12, 13, 14, 15, 16]))⟩

theorem c_Poctet_Writer_U32 : compF Tryd.prog 44 = some F_Poctet_Writer_U32 := by kernel_rfl
abbrev n_Poctet_Writer_U32 : FuncId := 44

def F_bintype_PutBlock : IFun :=
⟨53, 2, [],
 (.seq (.reg [o0 3 (.box 29 3 (.s 1))] [])
 (.block 0 (.seq (.reg [o0 7 (.load (some 3) (.s 3)),
 o0 8 (.build [(.int .i64 0), (.int .i64 0), (.int .i64 0)] []),
 o0 9 (.sbin .eql [.i, .i, .i] (.s 7) (.s 8)),
 mv 6 9] [7, 8, 9])
 (.cond (.s 6)
 (.reg [mv 10 0,
 o0 11 (.call 43 [(.s 10), (.c (.int .u8 64))])] [10, 11])
 (.seq (.reg [o0 13 (.fadr 0 (.s 3)),
 o0 14 (.load none (.s 13)),
 o0 15 (.bin .eql (.s 14) (.c (.int .i64 1))),
 mv 16 15,
 ot 17 16 (.fadr 2 (.s 3)),
 ot 18 16 (.load none (.s 17)),
 ot 19 16 (.bin .eql (.s 18) (.c (.int .i64 0))),
 o0 20 (.pick (.s 16) (.s 19) (.c (.bool false))),
 mv 21 20,
 ot 22 21 (.fadr 1 (.s 3)),
 ot 23 21 (.load none (.s 22)),
 ot 24 21 (.call 64 [(.s 23)]),
 o0 25 (.pick (.s 21) (.s 24) (.c (.bool false))),
 mv 12 25] [13, 14, 15, 16, 17, 18, 19, 20, 21, 22, 23, 24, 25])
 (.cond (.s 12)
 (.reg [mv 26 0,
 o0 27 (.fadr 1 (.s 3)),
 o0 28 (.load none (.s 27)),
 o0 29 (.call 47 [(.s 26), (.s 28)])] [26, 27, 28, 29])
 (.seq (.reg [o0 31 (.fadr 0 (.s 3)),
 o0 32 (.load none (.s 31)),
 o0 33 (.bin .eql (.s 32) (.c (.int .i64 2))),
 mv 34 33,
 ot 35 34 (.fadr 1 (.s 3)),
 ot 36 34 (.load none (.s 35)),
 ot 37 34 (.bin .eql (.s 36) (.c (.int .i64 0))),
 o0 38 (.pick (.s 34) (.s 37) (.c (.bool false))),
 mv 39 38,
 ot 40 39 (.fadr 2 (.s 3)),
 ot 41 39 (.load none (.s 40)),
 ot 42 39 (.bin .geq (.s 41) (.c (.int .i64 0))),
 o0 43 (.pick (.s 39) (.s 42) (.c (.bool false))),
 mv 44 43,
 ot 45 44 (.fadr 2 (.s 3)),
 ot 46 44 (.load none (.s 45)),
 ot 47 44 (.bin .leq (.s 46) (.c (.int .i64 4294967295))),
 o0 48 (.pick (.s 44) (.s 47) (.c (.bool false))),
 mv 30 48] [31, 32, 33, 34, 35, 36, 37, 38, 39, 40, 41, 42, 43, 44, 45, 46, 47, 48])
 (.cond (.s 30)
 (.reg [mv 49 0,
 o0 50 (.fadr 2 (.s 3)),
 o0 51 (.load none (.s 50)),
 o0 52 (.call 65 [(.s 49), (.s 51)])] [49, 50, 51, 52])
 (.reg [mv 4 0,
 o0 5 (.call 42 [(.s 4), (.c (.int .i64 12))])] [4, 5])))))))))⟩

theorem c_bintype_PutBlock : compF Tryd.prog 45 = some F_bintype_PutBlock := by kernel_rfl
abbrev n_bintype_PutBlock : FuncId := 45

def F_bincode_puts : IFun :=
⟨16, 2, [],
 (.seq (.reg [mv 6 1,
 o0 7 (.len (.s 6)),
 o0 8 (.mov (.c (.int .i64 0)))] [])
 (.block 0 (.loop (.seq (.reg [o0 9 (.bin .lss (.s 8) (.s 7))] [])
 (.seq (.cond (.s 9)
 .skip
 (.exit 0))
 (.seq (.block 1 (.seq (.reg [o0 10 (.iadr 1 (.s 6) (.s 8)),
 o0 11 (.load none (.s 10)),
 mv 5 11] [10, 11])
 (.reg [mv 12 0,
 mv 13 5,
 o0 14 (.call 44 [(.s 12), (.s 13)])] [12, 13, 14])))
 (.reg [o0 15 (.bin .add (.s 8) (.c (.int .i64 1))),
 mv 8 15] [15])))))))⟩

theorem c_bincode_puts : compF Tryd.prog 46 = some F_bincode_puts := by kernel_rfl
abbrev n_bincode_puts : FuncId := 46

def F_bintype_PutVal : IFun :=
⟨18, 2, [],
 (.seq (.reg [mv 7 1,
 o0 8 (.call 66 [(.s 7)]),
 mv 6 8,
 o0 9 (.ext (.s 6) 0),
 o0 10 (.ext (.s 6) 1),
 mv 4 9,
 mv 5 10] [7, 8, 6, 9, 10])
 (.seq (.seq (.reg [mv 11 5,
 o0 12 (.un .not (.s 11))] [11])
 (.cond (.s 12)
 (.seq (.reg [mv 13 0,
 o0 14 (.call 42 [(.s 13), (.c (.int .i64 12))])] [13, 14])
 .ret)
 .skip))
 (.reg [mv 15 0,
 mv 16 4,
 o0 17 (.call 43 [(.s 15), (.s 16)])] [15, 16, 17])))⟩

theorem c_bintype_PutVal : compF Tryd.prog 47 = some F_bintype_PutVal := by kernel_rfl
abbrev n_bintype_PutVal : FuncId := 47

def F_Poctet_Writer_S32 : IFun :=
⟨11, 2, [],
 (.reg [mv 4 0,
 mv 5 1,
 o0 6 (.cvi .u32 (.s 5)),
 o0 7 (.cvi .i32 (.s 6)),
 o0 8 (.cvi .i64 (.s 7)),
 o0 9 (.call 67 [(.c .nl), (.s 8)]),
 o0 10 (.call 20 [(.s 4), (.s 9)])] [4, 5, 6, 7, 8, 9, 10])⟩

theorem c_Poctet_Writer_S32 : compF Tryd.prog 48 = some F_Poctet_Writer_S32 := by kernel_rfl
abbrev n_Poctet_Writer_S32 : FuncId := 48

def F_Poctet_Writer_S64 : IFun :=
⟨9, 2, [],
 (.reg [mv 4 0,
 mv 5 1,
 o0 6 (.cvi .i64 (.s 5)),
 o0 7 (.call 67 [(.c .nl), (.s 6)]),
 o0 8 (.call 20 [(.s 4), (.s 7)])] [4, 5, 6, 7, 8])⟩

theorem c_Poctet_Writer_S64 : compF Tryd.prog 49 = some F_Poctet_Writer_S64 := by kernel_rfl
abbrev n_Poctet_Writer_S64 : FuncId := 49

def F_Poctet_Reader_Byte : IFun :=
⟨12, 1, [.tmp 2],
 (.seq (.reg [o0 2 (.mov (.c (.int .u8 0)))] [])
 (.seq (.seq (.reg [mv 4 0,
 o0 5 (.call 68 [(.s 4), (.c (.int .i64 1))]),
 mv 3 5] [4, 5])
 (.seq (.reg [mv 6 3,
 o0 7 (.len (.s 6)),
 o0 8 (.bin .eql (.s 7) (.c (.int .i64 1)))] [6, 7])
 (.cond (.s 8)
 (.seq (.reg [mv 9 3,
 o0 10 (.iadr 1 (.s 9) (.c (.int .i64 0))),
 o0 11 (.load none (.s 10)),
 mv 2 11] [9, 10, 11])
 .ret)
 .skip)))
 (.seq (.reg [o0 2 (.mov (.c (.int .u8 0)))] [])
 .ret)))⟩

theorem c_Poctet_Reader_Byte : compF Tryd.prog 50 = some F_Poctet_Reader_Byte := by kernel_rfl
abbrev n_Poctet_Reader_Byte : FuncId := 50

def F_opcode_Known : IFun :=
⟨6, 1, [.tmp 2],
 (.seq (.reg [o0 2 (.mov (.c (.bool false)))] [])
 (.seq (.reg [mv 3 0,
 o0 4 (.call 69 [(.s 3)]),
 o0 5 (.bin .neq (.s 4) (.c (.str []))),
 mv 2 5] [3, 4, 5])
 .ret))⟩

theorem c_opcode_Known : compF Tryd.prog 51 = some F_opcode_Known := by kernel_rfl
abbrev n_opcode_Known : FuncId := 51

def F_opcode_Width : IFun :=
⟨31, 1, [.tmp 2],
 (.seq (.reg [o0 2 (.mov (.c (.int .i64 0)))] [])
 (.seq (.seq (.reg [mv 6 0,
 o0 7 (.call 70 [(.s 6)]),
 o0 8 (.un .not (.s 7))] [6, 7])
 (.cond (.s 8)
 (.seq (.reg [o0 2 (.mov (.c (.int .i64 0)))] [])
 .ret)
 .skip))
 (.seq (.reg [mv 9 0,
 o0 10 (.call 69 [(.s 9)]),
 mv 3 10] [9, 10])
 (.seq (.seq (.reg [o0 11 (.bsl 3 1 [[(.int .i64 0)], [(.int .i64 0)], [(.int .i64 0)]] [(0, (.c (.int .i64 8))), (1, (.c (.int .i64 16))), (2, (.c (.int .i64 32)))]),
 o0 12 (.len (.s 11)),
 o0 13 (.mov (.c (.int .i64 0)))] [])
 (.block 0 (.loop (.seq (.reg [o0 14 (.bin .lss (.s 13) (.s 12))] [])
 (.seq (.cond (.s 14)
 .skip
 (.exit 0))
 (.seq (.block 1 (.seq (.reg [o0 15 (.iadr 1 (.s 11) (.s 13)),
 o0 16 (.load none (.s 15)),
 mv 5 16] [15, 16])
 (.seq (.seq (.draw [⟨mv 17 3, []⟩,
 ⟨o0 18 (.sslc (.s 17) (some (.c (.int .i64 4))) none), [0]⟩,
 ⟨o0 19 (.bsl 9 1 [[(.str [])], [(.str [])], [(.str [])]] [(0, (.c (.str [56]))), (1, (.c (.str [49, 54]))), (2, (.c (.str [51, 50])))]), []⟩,
 ⟨mv 20 5, []⟩,
 ⟨o0 21 (.bin .quo (.s 20) (.c (.int .i64 16))), [3]⟩,
 ⟨o0 22 (.iadr 1 (.s 19) (.s 21)), [2, 4, 3]⟩,
 ⟨o0 23 (.load none (.s 22)), [5, 2, 4, 3]⟩] [(19, 2)] [])
 (.reg [o0 24 (.call 71 [(.s 18), (.s 23)])] [17, 18, 19, 20, 21, 22, 23]))
 (.cond (.s 24)
 (.seq (.reg [mv 25 5,
 o0 26 (.bin .quo (.s 25) (.c (.int .i64 8))),
 mv 2 26] [25, 26])
 .ret)
 .skip))))
 (.reg [o0 27 (.bin .add (.s 13) (.c (.int .i64 1))),
 mv 13 27] [27])))))))
 (.seq (.seq (.reg [mv 28 3,
 o0 29 (.sslc (.s 28) none (some (.c (.int .i64 3)))),
 o0 30 (.bin .eql (.s 29) (.c (.str [105, 51, 50])))] [28, 29])
 (.cond (.s 30)
 (.seq (.reg [o0 2 (.mov (.c (.int .i64 4)))] [])
 .ret)
 .skip))
 (.seq (.reg [o0 2 (.mov (.c (.int .i64 8)))] [])
 .ret))))))⟩

theorem c_opcode_Width : compF Tryd.prog 52 = some F_opcode_Width := by kernel_rfl
abbrev n_opcode_Width : FuncId := 52

def F_opcode_stored : IFun :=
⟨26, 1, [.tmp 2],
 (.seq (.reg [o0 2 (.mov (.c (.int .i64 0)))] [])
 (.seq (.seq (.reg [mv 3 0] [])
 (.block 0 (.seq (.seq (.reg [o0 5 (.bin .eql (.s 3) (.c (.int .i64 37))),
 mv 4 5] [5])
 (.cond (.s 4)
 .skip
 (.seq (.reg [o0 6 (.bin .eql (.s 3) (.c (.int .i64 38))),
 mv 4 6] [6])
 (.cond (.s 4)
 .skip
 (.seq (.reg [o0 7 (.bin .eql (.s 3) (.c (.int .i64 64528))),
 mv 4 7] [7])
 (.cond (.s 4)
 .skip
 (.seq (.reg [o0 8 (.bin .eql (.s 3) (.c (.int .i64 64527))),
 mv 4 8] [8])
 (.cond (.s 4)
 .skip
 (.reg [o0 9 (.bin .eql (.s 3) (.c (.int .i64 64529))),
 mv 4 9] [9])))))))))
 (.cond (.s 4)
 (.seq (.reg [o0 2 (.mov (.c (.int .i64 9)))] [])
 .ret)
 (.seq (.reg [o0 11 (.bin .eql (.s 3) (.c (.int .i64 64526))),
 mv 10 11] [11])
 (.cond (.s 10)
 (.seq (.reg [o0 2 (.mov (.c (.int .i64 10)))] [])
 .ret)
 (.seq (.reg [o0 13 (.bin .eql (.s 3) (.c (.int .i64 64524))),
 mv 12 13] [13])
 (.cond (.s 12)
 (.seq (.reg [o0 2 (.mov (.c (.int .i64 11)))] [])
 .ret)
 (.seq (.reg [o0 15 (.bin .eql (.s 3) (.c (.int .i64 64525))),
 mv 14 15] [15])
 (.cond (.s 14)
 (.seq (.reg [o0 2 (.mov (.c (.int .i64 12)))] [])
 .ret)
 (.seq (.seq (.reg [o0 17 (.bin .eql (.s 3) (.c (.int .i64 63))),
 mv 16 17] [17])
 (.cond (.s 16)
 .skip
 (.seq (.reg [o0 18 (.bin .eql (.s 3) (.c (.int .i64 64))),
 mv 16 18] [18])
 (.cond (.s 16)
 .skip
 (.reg [o0 19 (.bin .eql (.s 3) (.c (.int .i64 64523))),
 mv 16 19] [19])))))
 (.cond (.s 16)
 (.seq (.reg [o0 2 (.mov (.c (.int .i64 13)))] [])
 .ret)
 (.seq (.reg [o0 21 (.bin .eql (.s 3) (.c (.int .i64 64522))),
 mv 20 21] [21])
 (.cond (.s 20)
 (.seq (.reg [o0 2 (.mov (.c (.int .i64 14)))] [])
 .ret)
 (.seq (.reg [o0 23 (.bin .eql (.s 3) (.c (.int .i64 64520))),
 mv 22 23] [23])
 (.cond (.s 22)
 (.seq (.reg [o0 2 (.mov (.c (.int .i64 15)))] [])
 .ret)
 (.seq (.reg [o0 25 (.bin .eql (.s 3) (.c (.int .i64 64521))),
 mv 24 25] [25])
 (.cond (.s 24)
 (.seq (.reg [o0 2 (.mov (.c (.int .i64 16)))] [])
 .ret)
 .skip))))))))))))))))))
 (.seq (.reg [o0 2 (.mov (.c (.int .i64 0)))] [])
 .ret)))⟩

theorem c_opcode_stored : compF Tryd.prog 53 = some F_opcode_stored := by kernel_rfl
abbrev n_opcode_stored : FuncId := 53

def F_Poctet_Reader_S33 : IFun :=
⟨5, 1, [.tmp 2],
 (.seq (.reg [o0 2 (.mov (.c (.int .i64 0)))] [])
 (.seq (.reg [mv 3 0,
 o0 4 (.call 57 [(.s 3), (.c (.int .i64 33))]),
 mv 2 4] [3, 4])
 .ret))⟩

theorem c_Poctet_Reader_S33 : compF Tryd.prog 54 = some F_Poctet_Reader_S33 := by kernel_rfl
abbrev n_Poctet_Reader_S33 : FuncId := 54

def F_types_OfByte : IFun :=
⟨20, 1, [.tmp 2, .tmp 3],
 (.seq (.reg [o0 2 (.mov (.c (.int .i64 0))),
 o0 3 (.mov (.c (.bool false)))] [])
 (.seq (.seq (.reg [o0 4 (.mov (.c (.int .i64 1)))] [])
 (.block 0 (.loop (.seq (.seq (.reg [mv 7 4,
 o0 8 (.bin .leq (.s 7) (.c (.int .i64 4)))] [7])
 (.cond (.s 8)
 .skip
 (.exit 0)))
 (.seq (.block 1 (.seq (.reg [mv 12 4,
 o0 13 (.call 66 [(.s 12)]),
 mv 11 13,
 o0 14 (.ext (.s 11) 0),
 o0 15 (.ext (.s 11) 1),
 mv 5 14,
 mv 6 15] [12, 13, 11, 14, 15, 6])
 (.seq (.reg [mv 16 5,
 mv 17 0,
 o0 18 (.bin .eql (.s 16) (.s 17))] [16, 17])
 (.cond (.s 18)
 (.seq (.reg [mv 19 4,
 mv 2 19,
 o0 3 (.mov (.c (.bool true)))] [19])
 .ret)
 .skip))))
 (.reg [mv 9 4,
 o0 10 (.bin .add (.s 9) (.c (.int .i64 1))),
 mv 4 10] [9, 10]))))))
 (.seq (.reg [o0 2 (.mov (.c (.int .i64 0))),
 o0 3 (.mov (.c (.bool false)))] [])
 .ret)))⟩

theorem c_types_OfByte : compF Tryd.prog 55 = some F_types_OfByte := by kernel_rfl
abbrev n_types_OfByte : FuncId := 55

def F_Poctet_Reader_unsigned : IFun :=
⟨40, 2, [.tmp 4],
 (.seq (.reg [o0 4 (.mov (.c (.int .u64 0)))] [])
 (.seq (.seq (.reg [mv 8 0,
 o0 9 (.call 33 [(.s 8)]),
 o0 10 (.un .not (.s 9))] [8, 9])
 (.cond (.s 10)
 (.seq (.reg [o0 4 (.mov (.c (.int .u64 0)))] [])
 .ret)
 .skip))
 (.seq (.seq (.draw [⟨mv 12 0, []⟩,
 ⟨o0 13 (.nchk (.s 12)), [0]⟩,
 ⟨o0 14 (.fadr 1 (.s 13)), [1, 0]⟩,
 ⟨o0 15 (.load none (.s 14)), [2, 1, 0]⟩,
 ⟨mv 16 0, []⟩,
 ⟨o0 17 (.nchk (.s 16)), [4]⟩,
 ⟨o0 18 (.fadr 2 (.s 17)), [5, 4]⟩,
 ⟨o0 19 (.load none (.s 18)), [6, 5, 4]⟩,
 ⟨o0 20 (.slc 1 (.s 15) (some (.s 19)) none none), [3, 2, 1, 0, 7, 6, 5, 4]⟩,
 ⟨mv 21 1, []⟩] [] [])
 (.seq (.reg [o0 22 (.call 72 [(.s 20), (.s 21)])] [])
 (.seq (.reg [mv 11 22] [])
 (.seq (.draw [⟨o0 23 (.ext (.s 11) 0), []⟩,
 ⟨o0 24 (.ext (.s 11) 1), []⟩,
 ⟨o0 25 (.ext (.s 11) 2), []⟩,
 ⟨mv 5 23, [0]⟩,
 ⟨mv 6 24, [1, 3, 0]⟩] [] [])
 (.reg [mv 7 25] [12, 13, 14, 15, 16, 17, 18, 19, 20, 21, 22, 11, 23, 24, 25])))))
 (.seq (.seq (.reg [mv 26 7,
 o0 27 (.bin .neq (.s 26) (.c (.int .i64 0)))] [26])
 (.cond (.s 27)
 (.seq (.reg [mv 28 0,
 mv 29 7,
 o0 30 (.call 28 [(.s 28), (.s 29)])] [28, 29, 30])
 (.seq (.reg [o0 4 (.mov (.c (.int .u64 0)))] [])
 .ret))
 .skip))
 (.seq (.reg [mv 31 0,
 o0 32 (.nchk (.s 31)),
 o0 33 (.fadr 2 (.s 32)),
 o0 34 (.load none (.s 33)),
 mv 35 6,
 o0 36 (.bin .add (.s 34) (.s 35)),
 o0 37 (.nchk (.s 31)),
 o0 38 (.fadr 2 (.s 37)),
 ⟨none, .store 1 (.s 38) (.s 36), none⟩] [31, 32, 33, 34, 35, 36, 37, 38])
 (.seq (.reg [mv 39 5,
 mv 4 39] [39])
 .ret))))))⟩

theorem c_Poctet_Reader_unsigned : compF Tryd.prog 56 = some F_Poctet_Reader_unsigned := by kernel_rfl
abbrev n_Poctet_Reader_unsigned : FuncId := 56

def F_Poctet_Reader_signed : IFun :=
⟨40, 2, [.tmp 4],
 (.seq (.reg [o0 4 (.mov (.c (.int .i64 0)))] [])
 (.seq (.seq (.reg [mv 8 0,
 o0 9 (.call 33 [(.s 8)]),
 o0 10 (.un .not (.s 9))] [8, 9])
 (.cond (.s 10)
 (.seq (.reg [o0 4 (.mov (.c (.int .i64 0)))] [])
 .ret)
 .skip))
 (.seq (.seq (.draw [⟨mv 12 0, []⟩,
 ⟨o0 13 (.nchk (.s 12)), [0]⟩,
 ⟨o0 14 (.fadr 1 (.s 13)), [1, 0]⟩,
 ⟨o0 15 (.load none (.s 14)), [2, 1, 0]⟩,
 ⟨mv 16 0, []⟩,
 ⟨o0 17 (.nchk (.s 16)), [4]⟩,
 ⟨o0 18 (.fadr 2 (.s 17)), [5, 4]⟩,
 ⟨o0 19 (.load none (.s 18)), [6, 5, 4]⟩,
 ⟨o0 20 (.slc 1 (.s 15) (some (.s 19)) none none), [3, 2, 1, 0, 7, 6, 5, 4]⟩,
 ⟨mv 21 1, []⟩] [] [])
 (.seq (.reg [o0 22 (.call 73 [(.s 20), (.s 21)])] [])
 (.seq (.reg [mv 11 22] [])
 (.seq (.draw [⟨o0 23 (.ext (.s 11) 0), []⟩,
 ⟨o0 24 (.ext (.s 11) 1), []⟩,
 ⟨o0 25 (.ext (.s 11) 2), []⟩,
 ⟨mv 5 23, [0]⟩,
 ⟨mv 6 24, [1, 3, 0]⟩] [] [])
 (.reg [mv 7 25] [12, 13, 14, 15, 16, 17, 18, 19, 20, 21, 22, 11, 23, 24, 25])))))
 (.seq (.seq (.reg [mv 26 7,
 o0 27 (.bin .neq (.s 26) (.c (.int .i64 0)))] [26])
 (.cond (.s 27)
 (.seq (.reg [mv 28 0,
 mv 29 7,
 o0 30 (.call 28 [(.s 28), (.s 29)])] [28, 29, 30])
 (.seq (.reg [o0 4 (.mov (.c (.int .i64 0)))] [])
 .ret))
 .skip))
 (.seq (.reg [mv 31 0,
 o0 32 (.nchk (.s 31)),
 o0 33 (.fadr 2 (.s 32)),
 o0 34 (.load none (.s 33)),
 mv 35 6,
 o0 36 (.bin .add (.s 34) (.s 35)),
 o0 37 (.nchk (.s 31)),
 o0 38 (.fadr 2 (.s 37)),
 ⟨none, .store 1 (.s 38) (.s 36), none⟩] [31, 32, 33, 34, 35, 36, 37, 38])
 (.seq (.reg [mv 39 5,
 mv 4 39] [39])
 .ret))))))⟩

theorem c_Poctet_Reader_signed : compF Tryd.prog 57 = some F_Poctet_Reader_signed := by kernel_rfl
abbrev n_Poctet_Reader_signed : FuncId := 57

def F_opcode_used : IFun :=
⟨29, 1, [.tmp 2, .tmp 3, .tmp 4],
 (.seq (.reg [o0 2 (.mov (.c (.bool false))),
 o0 3 (.mov (.c (.bool false))),
 o0 4 (.mov (.c (.bool false)))] [])
 (.seq (.seq (.reg [mv 5 0] [])
 (.block 0 (.seq (.seq (.reg [o0 7 (.bin .eql (.s 5) (.c (.int .i64 2))),
 mv 6 7] [7])
 (.cond (.s 6)
 .skip
 (.seq (.reg [o0 8 (.bin .eql (.s 5) (.c (.int .i64 3))),
 mv 6 8] [8])
 (.cond (.s 6)
 .skip
 (.seq (.reg [o0 9 (.bin .eql (.s 5) (.c (.int .i64 4))),
 mv 6 9] [9])
 (.cond (.s 6)
 .skip
 (.seq (.reg [o0 10 (.bin .eql (.s 5) (.c (.int .i64 7))),
 mv 6 10] [10])
 (.cond (.s 6)
 .skip
 (.seq (.reg [o0 11 (.bin .eql (.s 5) (.c (.int .i64 8))),
 mv 6 11] [11])
 (.cond (.s 6)
 .skip
 (.seq (.reg [o0 12 (.bin .eql (.s 5) (.c (.int .i64 9))),
 mv 6 12] [12])
 (.cond (.s 6)
 .skip
 (.seq (.reg [o0 13 (.bin .eql (.s 5) (.c (.int .i64 12))),
 mv 6 13] [13])
 (.cond (.s 6)
 .skip
 (.seq (.reg [o0 14 (.bin .eql (.s 5) (.c (.int .i64 16))),
 mv 6 14] [14])
 (.cond (.s 6)
 .skip
 (.reg [o0 15 (.bin .eql (.s 5) (.c (.int .i64 20))),
 mv 6 15] [15])))))))))))))))))
 (.cond (.s 6)
 (.seq (.reg [o0 2 (.mov (.c (.bool true))),
 o0 3 (.mov (.c (.bool false))),
 o0 4 (.mov (.c (.bool false)))] [])
 .ret)
 (.seq (.seq (.reg [o0 17 (.bin .eql (.s 5) (.c (.int .i64 5))),
 mv 16 17] [17])
 (.cond (.s 16)
 .skip
 (.seq (.reg [o0 18 (.bin .eql (.s 5) (.c (.int .i64 10))),
 mv 16 18] [18])
 (.cond (.s 16)
 .skip
 (.seq (.reg [o0 19 (.bin .eql (.s 5) (.c (.int .i64 11))),
 mv 16 19] [19])
 (.cond (.s 16)
 .skip
 (.seq (.reg [o0 20 (.bin .eql (.s 5) (.c (.int .i64 14))),
 mv 16 20] [20])
 (.cond (.s 16)
 .skip
 (.reg [o0 21 (.bin .eql (.s 5) (.c (.int .i64 15))),
 mv 16 21] [21])))))))))
 (.cond (.s 16)
 (.seq (.reg [o0 2 (.mov (.c (.bool true))),
 o0 3 (.mov (.c (.bool true))),
 o0 4 (.mov (.c (.bool false)))] [])
 .ret)
 (.seq (.reg [o0 23 (.bin .eql (.s 5) (.c (.int .i64 13))),
 mv 22 23] [23])
 (.cond (.s 22)
 (.seq (.reg [o0 2 (.mov (.c (.bool false))),
 o0 3 (.mov (.c (.bool true))),
 o0 4 (.mov (.c (.bool false)))] [])
 .ret)
 (.seq (.reg [o0 25 (.bin .eql (.s 5) (.c (.int .i64 17))),
 mv 24 25] [25])
 (.cond (.s 24)
 (.seq (.reg [o0 2 (.mov (.c (.bool true))),
 o0 3 (.mov (.c (.bool true))),
 o0 4 (.mov (.c (.bool true)))] [])
 .ret)
 (.seq (.seq (.reg [o0 27 (.bin .eql (.s 5) (.c (.int .i64 18))),
 mv 26 27] [27])
 (.cond (.s 26)
 .skip
 (.reg [o0 28 (.bin .eql (.s 5) (.c (.int .i64 19))),
 mv 26 28] [28])))
 (.cond (.s 26)
 (.seq (.reg [o0 2 (.mov (.c (.bool false))),
 o0 3 (.mov (.c (.bool false))),
 o0 4 (.mov (.c (.bool true)))] [])
 .ret)
 .skip))))))))))))
 (.seq (.reg [o0 2 (.mov (.c (.bool false))),
 o0 3 (.mov (.c (.bool false))),
 o0 4 (.mov (.c (.bool false)))] [])
 .ret)))⟩

theorem c_opcode_used : compF Tryd.prog 59 = some F_opcode_used := by kernel_rfl
abbrev n_opcode_used : FuncId := 59

def F_opcode_index : IFun :=
⟨9, 1, [.tmp 2],
 (.seq (.reg [o0 2 (.mov (.c (.bool false)))] [])
 (.seq (.reg [mv 3 0,
 o0 4 (.bin .geq (.s 3) (.c (.int .i64 0))),
 mv 5 4,
 mt 6 0 5,
 ot 7 5 (.bin .lss (.s 6) (.c (.int .i64 4294967296))),
 o0 8 (.pick (.s 5) (.s 7) (.c (.bool false))),
 mv 2 8] [3, 4, 5, 6, 7, 8])
 .ret))⟩

theorem c_opcode_index : compF Tryd.prog 60 = some F_opcode_index := by kernel_rfl
abbrev n_opcode_index : FuncId := 60

def F_opcode_block : IFun :=
⟨30, 1, [.tmp 2],
 (.seq (.reg [o0 1 (.box 29 3 (.s 0)),
 o0 2 (.mov (.c (.bool false)))] [])
 (.seq (.seq (.reg [o0 3 (.fadr 0 (.s 1)),
 o0 4 (.load none (.s 3))] [3])
 (.block 0 (.seq (.reg [o0 6 (.bin .eql (.s 4) (.c (.int .i64 0))),
 mv 5 6] [6])
 (.cond (.s 5)
 (.seq (.reg [o0 7 (.load (some 3) (.s 1)),
 o0 8 (.build [(.int .i64 0), (.int .i64 0), (.int .i64 0)] []),
 o0 9 (.sbin .eql [.i, .i, .i] (.s 7) (.s 8)),
 mv 2 9] [7, 8, 9])
 .ret)
 (.seq (.reg [o0 11 (.bin .eql (.s 4) (.c (.int .i64 1))),
 mv 10 11] [11])
 (.cond (.s 10)
 (.seq (.reg [o0 12 (.fadr 1 (.s 1)),
 o0 13 (.load none (.s 12)),
 o0 14 (.call 62 [(.s 13)]),
 mv 15 14,
 ot 16 15 (.fadr 2 (.s 1)),
 ot 17 15 (.load none (.s 16)),
 ot 18 15 (.bin .eql (.s 17) (.c (.int .i64 0))),
 o0 19 (.pick (.s 15) (.s 18) (.c (.bool false))),
 mv 2 19] [12, 13, 14, 15, 16, 17, 18, 19])
 .ret)
 (.seq (.reg [o0 21 (.bin .eql (.s 4) (.c (.int .i64 2))),
 mv 20 21] [21])
 (.cond (.s 20)
 (.seq (.reg [o0 22 (.fadr 1 (.s 1)),
 o0 23 (.load none (.s 22)),
 o0 24 (.bin .eql (.s 23) (.c (.int .i64 0))),
 mv 25 24,
 ot 26 25 (.fadr 2 (.s 1)),
 ot 27 25 (.load none (.s 26)),
 ot 28 25 (.call 60 [(.s 27)]),
 o0 29 (.pick (.s 25) (.s 28) (.c (.bool false))),
 mv 2 29] [22, 23, 24, 25, 26, 27, 28, 29])
 .ret)
 .skip))))))))
 (.seq (.reg [o0 2 (.mov (.c (.bool false)))] [])
 .ret)))⟩

theorem c_opcode_block : compF Tryd.prog 61 = some F_opcode_block := by kernel_rfl
abbrev n_opcode_block : FuncId := 61

def F_opcode_val : IFun :=
⟨9, 1, [.tmp 2],
 (.seq (.reg [o0 2 (.mov (.c (.bool false)))] [])
 (.seq (.reg [mv 3 0,
 o0 4 (.bin .geq (.s 3) (.c (.int .i64 1))),
 mv 5 4,
 mt 6 0 5,
 ot 7 5 (.bin .leq (.s 6) (.c (.int .i64 4))),
 o0 8 (.pick (.s 5) (.s 7) (.c (.bool false))),
 mv 2 8] [3, 4, 5, 6, 7, 8])
 .ret))⟩

theorem c_opcode_val : compF Tryd.prog 62 = some F_opcode_val := by kernel_rfl
abbrev n_opcode_val : FuncId := 62

def F_leb_PutU : IFun :=
⟨24, 2, [.tmp 4],
 (.seq (.reg [o0 4 (.mov (.c .nl))] [])
 (.seq (.reg [o0 6 (.bsl 5 1 [] []),
 mv 7 0,
 o0 8 (.app 5 1 (.s 6) (.s 7)),
 mv 5 8] [6, 7, 8])
 (.seq (.block 0 (.loop (.seq (.seq (.reg [mv 9 1,
 o0 10 (.bin .geq (.s 9) (.c (.int .u64 128)))] [9])
 (.cond (.s 10)
 .skip
 (.exit 0)))
 (.block 1 (.seq (.reg [mv 11 5,
 mv 12 1,
 o0 13 (.cvi .u8 (.s 12)),
 o0 14 (.bin .or (.s 13) (.c (.int .u8 128))),
 o0 15 (.bsl 5 1 [[(.int .u8 0)]] [(0, (.s 14))]),
 o0 16 (.app 5 1 (.s 11) (.s 15)),
 mv 5 16] [11, 12, 13, 14, 15, 16])
 (.reg [mv 17 1,
 o0 18 (.bin .shr (.s 17) (.c (.int .u64 7))),
 mv 1 18] [17, 18]))))))
 (.seq (.reg [mv 19 5,
 mv 20 1,
 o0 21 (.cvi .u8 (.s 20)),
 o0 22 (.bsl 5 1 [[(.int .u8 0)]] [(0, (.s 21))]),
 o0 23 (.app 5 1 (.s 19) (.s 22)),
 mv 4 23] [19, 20, 21, 22, 23])
 .ret))))⟩

theorem c_leb_PutU : compF Tryd.prog 63 = some F_leb_PutU := by kernel_rfl
abbrev n_leb_PutU : FuncId := 63

def F_types_Val : IFun :=
⟨9, 1, [.tmp 2],
 (.seq (.reg [o0 2 (.mov (.c (.bool false)))] [])
 (.seq (.reg [mv 3 0,
 o0 4 (.call 75 [(.s 3)]),
 mv 5 4,
 mf 6 0 5,
 oF 7 5 (.call 76 [(.s 6)]),
 o0 8 (.pick (.s 5) (.c (.bool true)) (.s 7)),
 mv 2 8] [3, 4, 5, 6, 7, 8])
 .ret))⟩

theorem c_types_Val : compF Tryd.prog 64 = some F_types_Val := by kernel_rfl
abbrev n_types_Val : FuncId := 64

def F_Poctet_Writer_S33 : IFun :=
⟨16, 2, [],
 (.seq (.seq (.reg [mv 4 1,
 o0 5 (.bin .lss (.s 4) (.c (.int .i64 (-4294967296)))),
 mv 6 5,
 mf 7 1 6,
 oF 8 6 (.bin .gtr (.s 7) (.c (.int .i64 4294967295))),
 o0 9 (.pick (.s 6) (.c (.bool true)) (.s 8))] [4, 5, 6, 7, 8])
 (.cond (.s 9)
 (.seq (.reg [mv 10 0,
 o0 11 (.call 42 [(.s 10), (.c (.int .i64 1))])] [10, 11])
 .ret)
 .skip))
 (.reg [mv 12 0,
 mv 13 1,
 o0 14 (.call 67 [(.c .nl), (.s 13)]),
 o0 15 (.call 20 [(.s 12), (.s 14)])] [12, 13, 14, 15]))⟩

theorem c_Poctet_Writer_S33 : compF Tryd.prog 65 = some F_Poctet_Writer_S33 := by kernel_rfl
abbrev n_Poctet_Writer_S33 : FuncId := 65

def F_types_Byte : IFun :=
⟨13, 1, [.tmp 2, .tmp 3],
 (.seq (.reg [o0 2 (.mov (.c (.int .u8 0))),
 o0 3 (.mov (.c (.bool false)))] [])
 (.seq (.seq (.reg [mv 4 0] [])
 (.block 0 (.seq (.reg [o0 6 (.bin .eql (.s 4) (.c (.int .i64 1))),
 mv 5 6] [6])
 (.cond (.s 5)
 (.seq (.reg [o0 2 (.mov (.c (.int .u8 127))),
 o0 3 (.mov (.c (.bool true)))] [])
 .ret)
 (.seq (.reg [o0 8 (.bin .eql (.s 4) (.c (.int .i64 2))),
 mv 7 8] [8])
 (.cond (.s 7)
 (.seq (.reg [o0 2 (.mov (.c (.int .u8 126))),
 o0 3 (.mov (.c (.bool true)))] [])
 .ret)
 (.seq (.reg [o0 10 (.bin .eql (.s 4) (.c (.int .i64 3))),
 mv 9 10] [10])
 (.cond (.s 9)
 (.seq (.reg [o0 2 (.mov (.c (.int .u8 112))),
 o0 3 (.mov (.c (.bool true)))] [])
 .ret)
 (.seq (.reg [o0 12 (.bin .eql (.s 4) (.c (.int .i64 4))),
 mv 11 12] [12])
 (.cond (.s 11)
 (.seq (.reg [o0 2 (.mov (.c (.int .u8 111))),
 o0 3 (.mov (.c (.bool true)))] [])
 .ret)
 .skip))))))))))
 (.seq (.reg [o0 2 (.mov (.c (.int .u8 0))),
 o0 3 (.mov (.c (.bool false)))] [])
 .ret)))⟩

theorem c_types_Byte : compF Tryd.prog 66 = some F_types_Byte := by kernel_rfl
abbrev n_types_Byte : FuncId := 66

def F_leb_PutS : IFun :=
⟨29, 2, [.tmp 4],
 (.seq (.reg [o0 4 (.mov (.c .nl))] [])
 (.seq (.reg [o0 6 (.bsl 5 1 [] []),
 mv 7 0,
 o0 8 (.app 5 1 (.s 6) (.s 7)),
 mv 5 8] [6, 7, 8])
 (.seq (.block 0 (.loop (.seq (.seq (.reg [mv 9 1,
 o0 10 (.bin .lss (.s 9) (.c (.int .i64 (-64)))),
 mv 11 10,
 mf 12 1 11,
 oF 13 11 (.bin .gtr (.s 12) (.c (.int .i64 63))),
 o0 14 (.pick (.s 11) (.c (.bool true)) (.s 13))] [9, 10, 11, 12, 13])
 (.cond (.s 14)
 .skip
 (.exit 0)))
 (.block 1 (.seq (.reg [mv 15 5,
 mv 16 1,
 o0 17 (.cvi .u8 (.s 16)),
 o0 18 (.bin .or (.s 17) (.c (.int .u8 128))),
 o0 19 (.bsl 5 1 [[(.int .u8 0)]] [(0, (.s 18))]),
 o0 20 (.app 5 1 (.s 15) (.s 19)),
 mv 5 20] [15, 16, 17, 18, 19, 20])
 (.reg [mv 21 1,
 o0 22 (.bin .shr (.s 21) (.c (.int .u64 7))),
 mv 1 22] [21, 22]))))))
 (.seq (.reg [mv 23 5,
 mv 24 1,
 o0 25 (.cvi .u8 (.s 24)),
 o0 26 (.bin .and (.s 25) (.c (.int .u8 127))),
 o0 27 (.bsl 5 1 [[(.int .u8 0)]] [(0, (.s 26))]),
 o0 28 (.app 5 1 (.s 23) (.s 27)),
 mv 4 28] [23, 24, 25, 26, 27, 28])
 .ret))))⟩

theorem c_leb_PutS : compF Tryd.prog 67 = some F_leb_PutS := by kernel_rfl
abbrev n_leb_PutS : FuncId := 67

def F_Poctet_Reader_Take : IFun :=
⟨33, 2, [.tmp 4],
 (.seq (.reg [o0 4 (.mov (.c .nl))] [])
 (.seq (.block 0 (.seq (.reg [mv 6 0,
 o0 7 (.call 33 [(.s 6)]),
 o0 8 (.un .not (.s 7)),
 mv 5 8] [6, 7, 8])
 (.cond (.s 5)
 (.seq (.reg [o0 4 (.mov (.c .nl))] [])
 .ret)
 (.seq (.reg [mv 10 1,
 o0 11 (.bin .lss (.s 10) (.c (.int .i64 0))),
 mv 9 11] [10, 11])
 (.cond (.s 9)
 (.seq (.reg [mv 12 0,
 o0 13 (.call 28 [(.s 12), (.c (.int .i64 1))])] [12, 13])
 (.seq (.reg [o0 4 (.mov (.c .nl))] [])
 .ret))
 (.seq (.seq (.draw [⟨mv 15 1, []⟩,
 ⟨mv 16 0, []⟩,
 ⟨o0 17 (.nchk (.s 16)), [1]⟩,
 ⟨o0 18 (.fadr 1 (.s 17)), [2, 1]⟩,
 ⟨o0 19 (.load none (.s 18)), [3, 2, 1]⟩,
 ⟨o0 20 (.len (.s 19)), [4, 3, 2, 1]⟩,
 ⟨mv 21 0, []⟩,
 ⟨o0 22 (.nchk (.s 21)), [6]⟩,
 ⟨o0 23 (.fadr 2 (.s 22)), [7, 6]⟩,
 ⟨o0 24 (.load none (.s 23)), [8, 7, 6]⟩,
 ⟨o0 25 (.bin .sub (.s 20) (.s 24)), [5, 4, 3, 2, 1, 9, 8, 7, 6]⟩] [] [])
 (.seq (.reg [o0 26 (.bin .gtr (.s 15) (.s 25))] [])
 (.reg [mv 14 26] [15, 16, 17, 18, 19, 20, 21, 22, 23, 24, 25, 26])))
 (.cond (.s 14)
 (.seq (.reg [mv 27 0,
 o0 28 (.call 28 [(.s 27), (.c (.int .i64 3))])] [27, 28])
 (.seq (.reg [o0 4 (.mov (.c .nl))] [])
 .ret))
 .skip)))))))
 (.seq (.reg [mv 29 0,
 mv 30 1,
 o0 31 (.call 77 [(.s 29), (.s 30)]),
 o0 32 (.app 5 1 (.c .nl) (.s 31)),
 mv 4 32] [29, 30, 31, 32])
 .ret)))⟩

theorem c_Poctet_Reader_Take : compF Tryd.prog 68 = some F_Poctet_Reader_Take := by kernel_rfl
abbrev n_Poctet_Reader_Take : FuncId := 68

def F_opcode_access : IFun :=
⟨13, 1, [.tmp 2],
 (.seq (.reg [o0 2 (.mov (.c (.bool false)))] [])
 (.seq (.reg [mv 3 0,
 o0 4 (.bin .geq (.s 3) (.c (.int .i64 40))),
 mv 5 4,
 mt 6 0 5,
 ot 7 5 (.bin .leq (.s 6) (.c (.int .i64 62))),
 o0 8 (.pick (.s 5) (.s 7) (.c (.bool false))),
 mv 9 8,
 mt 10 0 9,
 ot 11 9 (.call 51 [(.s 10)]),
 o0 12 (.pick (.s 9) (.s 11) (.c (.bool false))),
 mv 2 12] [3, 4, 5, 6, 7, 8, 9, 10, 11, 12])
 .ret))⟩

theorem c_opcode_access : compF Tryd.prog 70 = some F_opcode_access := by kernel_rfl
abbrev n_opcode_access : FuncId := 70

abbrev n_strings_Contains : FuncId := 71

def F_leb_U : IFun :=
⟨32, 2, [.tmp 4, .tmp 5, .tmp 6],
 (.seq (.reg [o0 4 (.mov (.c (.int .u64 0))),
 o0 5 (.mov (.c (.int .i64 0))),
 o0 6 (.mov (.c (.int .i64 0)))] [])
 (.seq (.reg [mv 11 0,
 mv 12 1,
 o0 13 (.call 80 [(.s 11), (.s 12)]),
 mv 10 13,
 o0 14 (.ext (.s 10) 0),
 o0 15 (.ext (.s 10) 1),
 o0 16 (.ext (.s 10) 2),
 mv 7 14,
 mv 8 15,
 mv 9 16] [11, 12, 13, 10, 14, 15, 16])
 (.seq (.seq (.reg [mv 17 9,
 o0 18 (.bin .neq (.s 17) (.c (.int .i64 0)))] [17])
 (.cond (.s 18)
 (.seq (.reg [mv 19 9,
 o0 4 (.mov (.c (.int .u64 0))),
 o0 5 (.mov (.c (.int .i64 0))),
 mv 6 19] [19])
 .ret)
 .skip))
 (.seq (.seq (.reg [mv 20 0,
 mv 21 7,
 o0 22 (.iadr 1 (.s 20) (.s 21)),
 o0 23 (.load none (.s 22)),
 mv 24 8,
 o0 25 (.bin .shr (.s 23) (.s 24)),
 o0 26 (.bin .neq (.s 25) (.c (.int .u8 0)))] [20, 21, 22, 23, 24, 25])
 (.cond (.s 26)
 (.seq (.reg [o0 4 (.mov (.c (.int .u64 0))),
 o0 5 (.mov (.c (.int .i64 0))),
 o0 6 (.mov (.c (.int .i64 4)))] [])
 .ret)
 .skip))
 (.seq (.reg [mv 27 0,
 mv 28 7,
 o0 29 (.call 81 [(.s 27), (.s 28)]),
 mv 30 7,
 o0 31 (.bin .add (.s 30) (.c (.int .i64 1))),
 mv 4 29,
 mv 5 31,
 o0 6 (.mov (.c (.int .i64 0)))] [27, 28, 29, 30, 31])
 .ret)))))⟩

theorem c_leb_U : compF Tryd.prog 72 = some F_leb_U := by kernel_rfl
abbrev n_leb_U : FuncId := 72

def F_leb_S : IFun :=
⟨63, 2, [.tmp 4, .tmp 5, .tmp 6],
 (.seq (.reg [o0 4 (.mov (.c (.int .i64 0))),
 o0 5 (.mov (.c (.int .i64 0))),
 o0 6 (.mov (.c (.int .i64 0)))] [])
 (.seq (.reg [mv 14 0,
 mv 15 1,
 o0 16 (.call 80 [(.s 14), (.s 15)]),
 mv 13 16,
 o0 17 (.ext (.s 13) 0),
 o0 18 (.ext (.s 13) 1),
 o0 19 (.ext (.s 13) 2),
 mv 7 17,
 mv 8 18,
 mv 9 19] [14, 15, 16, 13, 17, 18, 19])
 (.seq (.seq (.reg [mv 20 9,
 o0 21 (.bin .neq (.s 20) (.c (.int .i64 0)))] [20])
 (.cond (.s 21)
 (.seq (.reg [mv 22 9,
 o0 4 (.mov (.c (.int .i64 0))),
 o0 5 (.mov (.c (.int .i64 0))),
 mv 6 22] [22])
 .ret)
 .skip))
 (.seq (.reg [mv 23 0,
 mv 24 7,
 o0 25 (.iadr 1 (.s 23) (.s 24)),
 o0 26 (.load none (.s 25)),
 mv 27 8,
 o0 28 (.bin .sub (.s 27) (.c (.int .i64 1))),
 o0 29 (.bin .shr (.s 26) (.s 28)),
 mv 10 29] [23, 24, 25, 26, 27, 28, 29])
 (.seq (.seq (.reg [mv 30 10,
 o0 31 (.bin .neq (.s 30) (.c (.int .u8 0))),
 mv 32 31,
 mt 33 10 32,
 mt 34 8 32,
 ot 35 32 (.bin .sub (.s 34) (.c (.int .i64 1))),
 ot 36 32 (.bin .shr (.c (.int .u8 127)) (.s 35)),
 ot 37 32 (.bin .neq (.s 33) (.s 36)),
 o0 38 (.pick (.s 32) (.s 37) (.c (.bool false)))] [30, 31, 32, 33, 34, 35, 36, 37])
 (.cond (.s 38)
 (.seq (.reg [o0 4 (.mov (.c (.int .i64 0))),
 o0 5 (.mov (.c (.int .i64 0))),
 o0 6 (.mov (.c (.int .i64 4)))] [])
 .ret)
 .skip))
 (.seq (.reg [mv 39 0,
 mv 40 7,
 o0 41 (.call 81 [(.s 39), (.s 40)]),
 mv 11 41] [39, 40, 41])
 (.seq (.seq (.reg [mv 42 7,
 o0 43 (.bin .add (.s 42) (.c (.int .i64 1))),
 o0 44 (.bin .mul (.c (.int .i64 7)) (.s 43)),
 mv 12 44] [42, 43, 44])
 (.seq (.reg [mv 45 12,
 o0 46 (.bin .lss (.s 45) (.c (.int .i64 64))),
 mv 47 46,
 mt 48 0 47,
 mt 49 7 47,
 ot 50 47 (.iadr 1 (.s 48) (.s 49)),
 ot 51 47 (.load none (.s 50)),
 ot 52 47 (.bin .and (.s 51) (.c (.int .u8 64))),
 ot 53 47 (.bin .neq (.s 52) (.c (.int .u8 0))),
 o0 54 (.pick (.s 47) (.s 53) (.c (.bool false)))] [45, 46, 47, 48, 49, 50, 51, 52, 53])
 (.cond (.s 54)
 (.reg [mv 55 11,
 mv 56 12,
 o0 57 (.bin .shl (.c (.int .u64 18446744073709551615)) (.s 56)),
 o0 58 (.bin .or (.s 55) (.s 57)),
 mv 11 58] [55, 56, 57, 58])
 .skip)))
 (.seq (.reg [mv 59 11,
 o0 60 (.cvi .i64 (.s 59)),
 mv 61 7,
 o0 62 (.bin .add (.s 61) (.c (.int .i64 1))),
 mv 4 60,
 mv 5 62,
 o0 6 (.mov (.c (.int .i64 0)))] [59, 60, 61, 62])
 .ret))))))))⟩

theorem c_leb_S : compF Tryd.prog 73 = some F_leb_S := by kernel_rfl
abbrev n_leb_S : FuncId := 73

def F_types_Num : IFun :=
⟨9, 1, [.tmp 2],
 (.seq (.reg [o0 2 (.mov (.c (.bool false)))] [])
 (.seq (.reg [mv 3 0,
 o0 4 (.bin .eql (.s 3) (.c (.int .i64 1))),
 mv 5 4,
 mf 6 0 5,
 oF 7 5 (.bin .eql (.s 6) (.c (.int .i64 2))),
 o0 8 (.pick (.s 5) (.c (.bool true)) (.s 7)),
 mv 2 8] [3, 4, 5, 6, 7, 8])
 .ret))⟩

theorem c_types_Num : compF Tryd.prog 75 = some F_types_Num := by kernel_rfl
abbrev n_types_Num : FuncId := 75

def F_types_Ref : IFun :=
⟨9, 1, [.tmp 2],
 (.seq (.reg [o0 2 (.mov (.c (.bool false)))] [])
 (.seq (.reg [mv 3 0,
 o0 4 (.bin .eql (.s 3) (.c (.int .i64 3))),
 mv 5 4,
 mf 6 0 5,
 oF 7 5 (.bin .eql (.s 6) (.c (.int .i64 4))),
 o0 8 (.pick (.s 5) (.c (.bool true)) (.s 7)),
 mv 2 8] [3, 4, 5, 6, 7, 8])
 .ret))⟩

theorem c_types_Ref : compF Tryd.prog 76 = some F_types_Ref := by kernel_rfl
abbrev n_types_Ref : FuncId := 76

def F_Poctet_Reader_cut : IFun :=
⟨29, 2, [.tmp 4],
 (.seq (.reg [o0 4 (.mov (.c .nl))] [])
 (.seq (.reg [mv 7 0,
 o0 8 (.nchk (.s 7)),
 o0 9 (.fadr 2 (.s 8)),
 o0 10 (.load none (.s 9)),
 mv 11 1,
 o0 12 (.bin .add (.s 10) (.s 11)),
 mv 5 12] [7, 8, 9, 10, 11, 12])
 (.seq (.seq (.draw [⟨mv 13 0, []⟩,
 ⟨o0 14 (.nchk (.s 13)), [0]⟩,
 ⟨o0 15 (.fadr 1 (.s 14)), [1, 0]⟩,
 ⟨o0 16 (.load none (.s 15)), [2, 1, 0]⟩,
 ⟨mv 17 0, []⟩,
 ⟨o0 18 (.nchk (.s 17)), [4]⟩,
 ⟨o0 19 (.fadr 2 (.s 18)), [5, 4]⟩,
 ⟨o0 20 (.load none (.s 19)), [6, 5, 4]⟩,
 ⟨mv 21 5, []⟩,
 ⟨mv 22 5, []⟩] [] [])
 (.seq (.reg [o0 23 (.slc 1 (.s 16) (some (.s 20)) (some (.s 21)) (some (.s 22)))] [])
 (.reg [mv 6 23] [13, 14, 15, 16, 17, 18, 19, 20, 21, 22, 23])))
 (.seq (.reg [mv 24 0,
 mv 25 5,
 o0 26 (.nchk (.s 24)),
 o0 27 (.fadr 2 (.s 26)),
 ⟨none, .store 1 (.s 27) (.s 25), none⟩] [24, 25, 26, 27])
 (.seq (.reg [mv 28 6,
 mv 4 28] [28])
 .ret)))))⟩

theorem c_Poctet_Reader_cut : compF Tryd.prog 77 = some F_Poctet_Reader_cut := by kernel_rfl
abbrev n_Poctet_Reader_cut : FuncId := 77

def F_opcode_named : IFun :=
⟨1, 0, [.tmp 0],
 (.seq (.reg [o0 0 (.mov (.c .nf))] [])
 (.seq (.reg [o0 0 (.mov (.c (.fn 88 [])))] [])
 .ret))⟩

theorem c_opcode_named : compF Tryd.prog 78 = some F_opcode_named := by kernel_rfl
abbrev n_opcode_named : FuncId := 78

def F_leb_last : IFun :=
⟨42, 2, [.tmp 4, .tmp 5, .tmp 6],
 (.seq (.reg [o0 4 (.mov (.c (.int .i64 0))),
 o0 5 (.mov (.c (.int .i64 0))),
 o0 6 (.mov (.c (.int .i64 0)))] [])
 (.seq (.seq (.reg [mv 9 1,
 o0 10 (.bin .lss (.s 9) (.c (.int .i64 1))),
 mv 11 10,
 mf 12 1 11,
 oF 13 11 (.bin .gtr (.s 12) (.c (.int .i64 64))),
 o0 14 (.pick (.s 11) (.c (.bool true)) (.s 13))] [9, 10, 11, 12, 13])
 (.cond (.s 14)
 (.seq (.reg [o0 4 (.mov (.c (.int .i64 0))),
 o0 5 (.mov (.c (.int .i64 0))),
 o0 6 (.mov (.c (.int .i64 1)))] [])
 .ret)
 .skip))
 (.seq (.reg [mv 15 1,
 o0 16 (.bin .add (.s 15) (.c (.int .i64 6))),
 o0 17 (.bin .quo (.s 16) (.c (.int .i64 7))),
 mv 7 17] [15, 16, 17])
 (.seq (.seq (.reg [mv 18 7,
 o0 19 (.mov (.c (.int .i64 0)))] [])
 (.block 0 (.loop (.seq (.reg [o0 20 (.bin .lss (.s 19) (.s 18))] [])
 (.seq (.cond (.s 20)
 .skip
 (.exit 0))
 (.seq (.block 1 (.seq (.reg [mv 21 19,
 mv 8 21] [21])
 (.seq (.seq (.reg [mv 22 8,
 mv 23 0,
 o0 24 (.len (.s 23)),
 o0 25 (.bin .geq (.s 22) (.s 24))] [22, 23, 24])
 (.cond (.s 25)
 (.seq (.reg [o0 4 (.mov (.c (.int .i64 0))),
 o0 5 (.mov (.c (.int .i64 0))),
 o0 6 (.mov (.c (.int .i64 3)))] [])
 .ret)
 .skip))
 (.seq (.seq (.reg [mv 26 0,
 mv 27 8,
 o0 28 (.iadr 1 (.s 26) (.s 27)),
 o0 29 (.load none (.s 28)),
 o0 30 (.bin .geq (.s 29) (.c (.int .u8 128)))] [26, 27, 28, 29])
 (.cond (.s 30)
 (.exit 1)
 .skip))
 (.seq (.seq (.reg [mv 31 8,
 mv 32 7,
 o0 33 (.bin .sub (.s 32) (.c (.int .i64 1))),
 o0 34 (.bin .eql (.s 31) (.s 33))] [31, 32, 33])
 (.cond (.s 34)
 (.seq (.reg [mv 35 8,
 mv 36 1,
 mv 37 8,
 o0 38 (.bin .mul (.c (.int .i64 7)) (.s 37)),
 o0 39 (.bin .sub (.s 36) (.s 38)),
 mv 4 35,
 mv 5 39,
 o0 6 (.mov (.c (.int .i64 0)))] [35, 36, 37, 38, 39])
 .ret)
 .skip))
 (.seq (.reg [mv 40 8,
 mv 4 40,
 o0 5 (.mov (.c (.int .i64 7))),
 o0 6 (.mov (.c (.int .i64 0)))] [40])
 .ret))))))
 (.reg [o0 41 (.bin .add (.s 19) (.c (.int .i64 1))),
 mv 19 41] [41])))))))
 (.seq (.reg [o0 4 (.mov (.c (.int .i64 0))),
 o0 5 (.mov (.c (.int .i64 0))),
 o0 6 (.mov (.c (.int .i64 4)))] [])
 .ret)))))⟩

theorem c_leb_last : compF Tryd.prog 80 = some F_leb_last := by kernel_rfl
abbrev n_leb_last : FuncId := 80

def F_leb_sum : IFun :=
⟨25, 2, [.tmp 4],
 (.seq (.reg [o0 4 (.mov (.c (.int .u64 0)))] [])
 (.seq (.reg [o0 5 (.mov (.c (.int .u64 0)))] [])
 (.seq (.seq (.reg [mv 7 1,
 o0 8 (.bin .add (.s 7) (.c (.int .i64 1))),
 o0 9 (.mov (.c (.int .i64 0)))] [7])
 (.block 0 (.loop (.seq (.reg [o0 10 (.bin .lss (.s 9) (.s 8))] [])
 (.seq (.cond (.s 10)
 .skip
 (.exit 0))
 (.seq (.block 1 (.seq (.reg [mv 11 9,
 mv 6 11] [11])
 (.reg [mv 12 5,
 mv 13 0,
 mv 14 6,
 o0 15 (.iadr 1 (.s 13) (.s 14)),
 o0 16 (.load none (.s 15)),
 o0 17 (.bin .and (.s 16) (.c (.int .u8 127))),
 o0 18 (.cvi .u64 (.s 17)),
 mv 19 6,
 o0 20 (.bin .mul (.c (.int .i64 7)) (.s 19)),
 o0 21 (.bin .shl (.s 18) (.s 20)),
 o0 22 (.bin .or (.s 12) (.s 21)),
 mv 5 22] [12, 13, 14, 15, 16, 17, 18, 19, 20, 21, 22])))
 (.reg [o0 23 (.bin .add (.s 9) (.c (.int .i64 1))),
 mv 9 23] [23])))))))
 (.seq (.reg [mv 24 5,
 mv 4 24] [24])
 .ret))))⟩

theorem c_leb_sum : compF Tryd.prog 81 = some F_leb_sum := by kernel_rfl
abbrev n_leb_sum : FuncId := 81

def F_opcode_rows : IFun :=
⟨26, 0, [.tmp 0],
 (.seq (.reg [o0 0 (.mov (.c .nl))] [])
 (.seq (.reg [o0 1 (.build [(.int .i64 0), (.str []), (.str [])] [(0, 1, (.c (.int .i64 0))), (1, 1, (.c (.str []))), (2, 1, (.c (.str [117, 110, 114, 101, 97, 99, 104, 97, 98, 108, 101, 32, 110, 111, 112, 32, 98, 108, 111, 99, 107, 32, 108, 111, 111, 112, 32, 105, 102, 32, 101, 108, 115, 101])))]),
 o0 2 (.build [(.int .i64 0), (.str []), (.str [])] [(0, 1, (.c (.int .i64 11))), (1, 1, (.c (.str []))), (2, 1, (.c (.str [101, 110, 100, 32, 98, 114, 32, 98, 114, 95, 105, 102, 32, 98, 114, 95, 116, 97, 98, 108, 101, 32, 114, 101, 116, 117, 114, 110, 32, 99, 97, 108, 108, 32, 99, 97, 108, 108, 95, 105, 110, 100, 105, 114, 101, 99, 116])))]),
 o0 3 (.build [(.int .i64 0), (.str []), (.str [])] [(0, 1, (.c (.int .i64 26))), (1, 1, (.c (.str []))), (2, 1, (.c (.str [100, 114, 111, 112, 32, 115, 101, 108, 101, 99, 116, 32, 115, 101, 108, 101, 99, 116])))]),
 o0 4 (.build [(.int .i64 0), (.str []), (.str [])] [(0, 1, (.c (.int .i64 32))), (1, 1, (.c (.str [108, 111, 99, 97, 108, 46]))), (2, 1, (.c (.str [103, 101, 116, 32, 115, 101, 116, 32, 116, 101, 101])))]),
 o0 5 (.build [(.int .i64 0), (.str []), (.str [])] [(0, 1, (.c (.int .i64 35))), (1, 1, (.c (.str [103, 108, 111, 98, 97, 108, 46]))), (2, 1, (.c (.str [103, 101, 116, 32, 115, 101, 116])))]),
 o0 6 (.build [(.int .i64 0), (.str []), (.str [])] [(0, 1, (.c (.int .i64 37))), (1, 1, (.c (.str [116, 97, 98, 108, 101, 46]))), (2, 1, (.c (.str [103, 101, 116, 32, 115, 101, 116])))]),
 o0 7 (.build [(.int .i64 0), (.str []), (.str [])] [(0, 1, (.c (.int .i64 40))), (1, 1, (.c (.str []))), (2, 1, (.c (.str [105, 51, 50, 46, 108, 111, 97, 100, 32, 105, 54, 52, 46, 108, 111, 97, 100])))]),
 o0 8 (.build [(.int .i64 0), (.str []), (.str [])] [(0, 1, (.c (.int .i64 44))), (1, 1, (.c (.str [105, 51, 50, 46]))), (2, 1, (.c (.str [108, 111, 97, 100, 56, 95, 115, 32, 108, 111, 97, 100, 56, 95, 117, 32, 108, 111, 97, 100, 49, 54, 95, 115, 32, 108, 111, 97, 100, 49, 54, 95, 117])))]),
 o0 9 (.build [(.int .i64 0), (.str []), (.str [])] [(0, 1, (.c (.int .i64 48))), (1, 1, (.c (.str [105, 54, 52, 46]))), (2, 1, (.c (.str [108, 111, 97, 100, 56, 95, 115, 32, 108, 111, 97, 100, 56, 95, 117, 32, 108, 111, 97, 100, 49, 54, 95, 115, 32, 108, 111, 97, 100, 49, 54, 95, 117, 32, 108, 111, 97, 100, 51, 50, 95, 115, 32, 108, 111, 97, 100, 51, 50, 95, 117])))]),
 o0 10 (.build [(.int .i64 0), (.str []), (.str [])] [(0, 1, (.c (.int .i64 54))), (1, 1, (.c (.str []))), (2, 1, (.c (.str [105, 51, 50, 46, 115, 116, 111, 114, 101, 32, 105, 54, 52, 46, 115, 116, 111, 114, 101])))]),
 o0 11 (.build [(.int .i64 0), (.str []), (.str [])] [(0, 1, (.c (.int .i64 58))), (1, 1, (.c (.str [105, 51, 50, 46]))), (2, 1, (.c (.str [115, 116, 111, 114, 101, 56, 32, 115, 116, 111, 114, 101, 49, 54])))]),
 o0 12 (.build [(.int .i64 0), (.str []), (.str [])] [(0, 1, (.c (.int .i64 60))), (1, 1, (.c (.str [105, 54, 52, 46]))), (2, 1, (.c (.str [115, 116, 111, 114, 101, 56, 32, 115, 116, 111, 114, 101, 49, 54, 32, 115, 116, 111, 114, 101, 51, 50])))]),
 o0 13 (.build [(.int .i64 0), (.str []), (.str [])] [(0, 1, (.c (.int .i64 63))), (1, 1, (.c (.str [109, 101, 109, 111, 114, 121, 46]))), (2, 1, (.c (.str [115, 105, 122, 101, 32, 103, 114, 111, 119])))]),
 o0 14 (.build [(.int .i64 0), (.str []), (.str [])] [(0, 1, (.c (.int .i64 65))), (1, 1, (.c (.str []))), (2, 1, (.c (.str [105, 51, 50, 46, 99, 111, 110, 115, 116, 32, 105, 54, 52, 46, 99, 111, 110, 115, 116])))]),
 o0 15 (.build [(.int .i64 0), (.str []), (.str [])] [(0, 1, (.c (.int .i64 69))), (1, 1, (.c (.str [105, 51, 50, 46]))), (2, 1, (.c (.str [101, 113, 122, 32, 101, 113, 32, 110, 101, 32, 108, 116, 95, 115, 32, 108, 116, 95, 117, 32, 103, 116, 95, 115, 32, 103, 116, 95, 117, 32, 108, 101, 95, 115, 32, 108, 101, 95, 117, 32, 103, 101, 95, 115, 32, 103, 101, 95, 117])))]),
 o0 16 (.build [(.int .i64 0), (.str []), (.str [])] [(0, 1, (.c (.int .i64 80))), (1, 1, (.c (.str [105, 54, 52, 46]))), (2, 1, (.c (.str [101, 113, 122, 32, 101, 113, 32, 110, 101, 32, 108, 116, 95, 115, 32, 108, 116, 95, 117, 32, 103, 116, 95, 115, 32, 103, 116, 95, 117, 32, 108, 101, 95, 115, 32, 108, 101, 95, 117, 32, 103, 101, 95, 115, 32, 103, 101, 95, 117])))]),
 o0 17 (.build [(.int .i64 0), (.str []), (.str [])] [(0, 1, (.c (.int .i64 103))), (1, 1, (.c (.str [105, 51, 50, 46]))), (2, 1, (.c (.str [99, 108, 122, 32, 99, 116, 122, 32, 112, 111, 112, 99, 110, 116, 32, 97, 100, 100, 32, 115, 117, 98, 32, 109, 117, 108, 32, 100, 105, 118, 95, 115, 32, 100, 105, 118, 95, 117, 32, 114, 101, 109, 95, 115, 32, 114, 101, 109, 95, 117, 32, 97, 110, 100, 32, 111, 114, 32, 120, 111, 114, 32, 115, 104, 108, 32, 115, 104, 114, 95, 115, 32, 115, 104, 114, 95, 117, 32, 114, 111, 116, 108, 32, 114, 111, 116, 114])))]),
 o0 18 (.build [(.int .i64 0), (.str []), (.str [])] [(0, 1, (.c (.int .i64 121))), (1, 1, (.c (.str [105, 54, 52, 46]))), (2, 1, (.c (.str [99, 108, 122, 32, 99, 116, 122, 32, 112, 111, 112, 99, 110, 116, 32, 97, 100, 100, 32, 115, 117, 98, 32, 109, 117, 108, 32, 100, 105, 118, 95, 115, 32, 100, 105, 118, 95, 117, 32, 114, 101, 109, 95, 115, 32, 114, 101, 109, 95, 117, 32, 97, 110, 100, 32, 111, 114, 32, 120, 111, 114, 32, 115, 104, 108, 32, 115, 104, 114, 95, 115, 32, 115, 104, 114, 95, 117, 32, 114, 111, 116, 108, 32, 114, 111, 116, 114])))]),
 o0 19 (.build [(.int .i64 0), (.str []), (.str [])] [(0, 1, (.c (.int .i64 167))), (1, 1, (.c (.str []))), (2, 1, (.c (.str [105, 51, 50, 46, 119, 114, 97, 112, 95, 105, 54, 52])))]),
 o0 20 (.build [(.int .i64 0), (.str []), (.str [])] [(0, 1, (.c (.int .i64 172))), (1, 1, (.c (.str [105, 54, 52, 46]))), (2, 1, (.c (.str [101, 120, 116, 101, 110, 100, 95, 105, 51, 50, 95, 115, 32, 101, 120, 116, 101, 110, 100, 95, 105, 51, 50, 95, 117])))]),
 o0 21 (.build [(.int .i64 0), (.str []), (.str [])] [(0, 1, (.c (.int .i64 192))), (1, 1, (.c (.str [105, 51, 50, 46]))), (2, 1, (.c (.str [101, 120, 116, 101, 110, 100, 56, 95, 115, 32, 101, 120, 116, 101, 110, 100, 49, 54, 95, 115])))]),
 o0 22 (.build [(.int .i64 0), (.str []), (.str [])] [(0, 1, (.c (.int .i64 194))), (1, 1, (.c (.str [105, 54, 52, 46]))), (2, 1, (.c (.str [101, 120, 116, 101, 110, 100, 56, 95, 115, 32, 101, 120, 116, 101, 110, 100, 49, 54, 95, 115, 32, 101, 120, 116, 101, 110, 100, 51, 50, 95, 115])))]),
 o0 23 (.build [(.int .i64 0), (.str []), (.str [])] [(0, 1, (.c (.int .i64 208))), (1, 1, (.c (.str [114, 101, 102, 46]))), (2, 1, (.c (.str [110, 117, 108, 108, 32, 105, 115, 95, 110, 117, 108, 108, 32, 102, 117, 110, 99])))]),
 o0 24 (.build [(.int .i64 0), (.str []), (.str [])] [(0, 1, (.c (.int .i64 64520))), (1, 1, (.c (.str []))), (2, 1, (.c (.str [109, 101, 109, 111, 114, 121, 46, 105, 110, 105, 116, 32, 100, 97, 116, 97, 46, 100, 114, 111, 112, 32, 109, 101, 109, 111, 114, 121, 46, 99, 111, 112, 121, 32, 109, 101, 109, 111, 114, 121, 46, 102, 105, 108, 108, 32, 116, 97, 98, 108, 101, 46, 105, 110, 105, 116, 32, 101, 108, 101, 109, 46, 100, 114, 111, 112, 32, 116, 97, 98, 108, 101, 46, 99, 111, 112, 121, 32, 116, 97, 98, 108, 101, 46, 103, 114, 111, 119, 32, 116, 97, 98, 108, 101, 46, 115, 105, 122, 101, 32, 116, 97, 98, 108, 101, 46, 102, 105, 108, 108])))]),
 o0 25 (.bsl 122 3 [[(.int .i64 0), (.str []), (.str [])], [(.int .i64 0), (.str []), (.str [])], [(.int .i64 0), (.str []), (.str [])], [(.int .i64 0), (.str []), (.str [])], [(.int .i64 0), (.str []), (.str [])], [(.int .i64 0), (.str []), (.str [])], [(.int .i64 0), (.str []), (.str [])], [(.int .i64 0), (.str []), (.str [])], [(.int .i64 0), (.str []), (.str [])], [(.int .i64 0), (.str []), (.str [])], [(.int .i64 0), (.str []), (.str [])], [(.int .i64 0), (.str []), (.str [])], [(.int .i64 0), (.str []), (.str [])], [(.int .i64 0), (.str []), (.str [])], [(.int .i64 0), (.str []), (.str [])], [(.int .i64 0), (.str []), (.str [])], [(.int .i64 0), (.str []), (.str [])], [(.int .i64 0), (.str []), (.str [])], [(.int .i64 0), (.str []), (.str [])], [(.int .i64 0), (.str []), (.str [])], [(.int .i64 0), (.str []), (.str [])], [(.int .i64 0), (.str []), (.str [])], [(.int .i64 0), (.str []), (.str [])], [(.int .i64 0), (.str []), (.str [])]] [(0, (.s 1)), (1, (.s 2)), (2, (.s 3)), (3, (.s 4)), (4, (.s 5)), (5, (.s 6)), (6, (.s 7)), (7, (.s 8)), (8, (.s 9)), (9, (.s 10)), (10, (.s 11)), (11, (.s 12)), (12, (.s 13)), (13, (.s 14)), (14, (.s 15)), (15, (.s 16)), (16, (.s 17)), (17, (.s 18)), (18, (.s 19)), (19, (.s 20)), (20, (.s 21)), (21, (.s 22)), (22, (.s 23)), (23, (.s 24))]),
 mv 0 25] [1, 2, 3, 4, 5, 6, 7, 8, 9, 10, 11, 12, 13, 14, 15, 16, 17, 18, 19, 20, 21, 22, 23, 24, 25])
 .ret))⟩

theorem c_opcode_rows : compF Tryd.prog 89 = some F_opcode_rows := by kernel_rfl
abbrev n_opcode_rows : FuncId := 89

abbrev n_strings_Fields : FuncId := 90

theorem mixed : Tryd.prog.follows .mixedOrders = true := by kernel_rfl
end Go.Proofs.YtdhiiannngjjpaaDoor
