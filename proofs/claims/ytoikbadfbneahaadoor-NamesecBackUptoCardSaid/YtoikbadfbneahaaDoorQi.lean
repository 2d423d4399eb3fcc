/- Texts of a claim. -/
import Derived.Test.YtoikbadfbneahaaDoorQb
import Derived.Test.YtoikbadfbneahaaDoorProg
import Derived.KernelRfl
set_option linter.unusedVariables false
set_option linter.unusedSimpArgs false
set_option linter.unusedSectionVars false
namespace Go.Proofs.YtoikbadfbneahaaDoor
open Go.Mw

def F_law14_NamesecBack : IFun :=
⟨104, 3, [.tmp 6],
 (.seq (.reg [o0 3 (.box 42 12 (.s 0)),
 o0 4 (.box 25 3 (.s 1)),
 o0 6 (.mov (.c (.bool false)))] [])
 (.seq (.seq (.reg [o0 18 (.load (some 3) (.s 4)),
 o0 19 (.call 6 [(.s 18)]),
 o0 20 (.un .not (.s 19)),
 mv 21 20,
 oF 22 21 (.load (some 12) (.s 3)),
 oF 23 21 (.call 12 [(.s 22)]),
 oF 24 21 (.un .not (.s 23)),
 o0 25 (.pick (.s 21) (.c (.bool true)) (.s 24)),
 mv 26 25,
 oF 27 26 (.fadr 11 (.s 3)),
 oF 28 26 (.load none (.s 27)),
 oF 29 26 (.len (.s 28)),
 oF 30 26 (.bin .gtr (.s 29) (.c (.int .i64 30))),
 o0 31 (.pick (.s 26) (.c (.bool true)) (.s 30)),
 mv 32 31,
 mf 33 2 32,
 oF 34 32 (.len (.s 33)),
 oF 35 32 (.bin .gtr (.s 34) (.c (.int .i64 1000))),
 o0 36 (.pick (.s 32) (.c (.bool true)) (.s 35))] [18, 19, 20, 21, 22, 23, 24, 25, 26, 27, 28, 29, 30, 31, 32, 33, 34, 35])
 (.cond (.s 36)
 (.seq (.reg [o0 37 (.call 7 []),
 mv 6 37] [37])
 .ret)
 .skip))
 (.seq (.reg [o0 39 (.load (some 3) (.s 4)),
 o0 40 (.call 13 [(.s 39)]),
 mv 38 40,
 o0 41 (.ext (.s 38) 0),
 o0 42 (.ext (.s 38) 1),
 mv 7 41,
 mv 8 42] [39, 40, 38, 41, 42])
 (.seq (.reg [mv 44 7,
 o0 45 (.call 14 [(.s 44)]),
 mv 43 45,
 o0 46 (.ext (.s 43) 0),
 o0 47 (.ext (.s 43) 1),
 o0 9 (.new 25 [(.str []), .nl, .nl]),
 ⟨none, .store 3 (.s 9) (.s 46), none⟩,
 mv 10 47] [44, 45, 43, 46, 47])
 (.seq (.seq (.reg [mv 48 8,
 o0 49 (.bin .eql (.s 48) (.c (.int .i64 0))),
 mv 50 49,
 mt 51 10 50,
 ot 52 50 (.bin .neq (.s 51) (.c (.int .i64 0))),
 mt 53 52 50,
 oF 54 53 (.load (some 3) (.s 9)),
 oF 55 53 (.load (some 3) (.s 4)),
 oF 56 53 (.call 15 [(.s 54), (.s 55)]),
 oF 57 53 (.un .not (.s 56)),
 ot 58 50 (.pick (.s 53) (.c (.bool true)) (.s 57)),
 o0 59 (.pick (.s 50) (.s 58) (.c (.bool false)))] [48, 49, 50, 51, 52, 53, 54, 55, 56, 57, 58])
 (.cond (.s 59)
 (.seq (.reg [o0 6 (.mov (.c (.bool false)))] [])
 .ret)
 .skip))
 (.seq (.reg [o0 61 (.load (some 12) (.s 3)),
 o0 62 (.load (some 3) (.s 4)),
 o0 63 (.call 16 [(.s 61), (.s 62)]),
 mv 60 63,
 o0 64 (.ext (.s 60) 0),
 o0 65 (.ext (.s 60) 1),
 o0 11 (.new 42 [.nl, .nl, .nl, .nl, .nl, .nl, .nl, (.bool false), (.int .i64 0), .nl, .nl, .nl]),
 ⟨none, .store 12 (.s 11) (.s 64), none⟩,
 mv 12 65] [61, 62, 63, 60, 64, 65])
 (.seq (.seq (.reg [mv 66 12,
 o0 67 (.bin .eql (.s 66) (.c (.int .i64 0)))] [66])
 (.cond (.s 67)
 (.seq (.reg [o0 69 (.load (some 12) (.s 11)),
 o0 70 (.call 17 [(.s 69)]),
 mv 68 70,
 o0 71 (.ext (.s 68) 0),
 o0 72 (.ext (.s 68) 1),
 o0 73 (.ext (.s 68) 2),
 o0 13 (.new 25 [(.str []), .nl, .nl]),
 ⟨none, .store 3 (.s 13) (.s 71), none⟩,
 mv 14 72,
 mv 15 73] [69, 70, 68, 71, 72, 73])
 (.seq (.reg [mv 74 15,
 o0 75 (.bin .neq (.s 74) (.c (.int .i64 0))),
 mv 76 75,
 mf 77 14 76,
 mf 78 7 76,
 oF 79 76 (.len (.s 78)),
 oF 80 76 (.bin .gtr (.s 79) (.c (.int .i64 0))),
 oF 81 76 (.bbin .neq (.s 77) (.s 80)),
 o0 82 (.pick (.s 76) (.c (.bool true)) (.s 81)),
 mv 83 82,
 oF 84 83 (.load (some 3) (.s 13)),
 oF 85 83 (.load (some 3) (.s 4)),
 oF 86 83 (.call 15 [(.s 84), (.s 85)]),
 oF 87 83 (.un .not (.s 86)),
 o0 88 (.pick (.s 83) (.c (.bool true)) (.s 87))] [74, 75, 76, 77, 78, 79, 80, 81, 82, 83, 84, 85, 86, 87])
 (.cond (.s 88)
 (.seq (.reg [o0 6 (.mov (.c (.bool false)))] [])
 .ret)
 .skip)))
 .skip))
 (.seq (.reg [mv 90 2,
 o0 91 (.call 14 [(.s 90)]),
 mv 89 91,
 o0 92 (.ext (.s 89) 0),
 o0 93 (.ext (.s 89) 1),
 o0 16 (.new 25 [(.str []), .nl, .nl]),
 ⟨none, .store 3 (.s 16) (.s 92), none⟩,
 mv 17 93] [90, 91, 89, 92, 93])
 (.seq (.reg [mv 94 17,
 o0 95 (.bin .neq (.s 94) (.c (.int .i64 0))),
 mv 96 95,
 oF 97 96 (.load (some 3) (.s 16)),
 oF 98 96 (.call 18 [(.s 97)]),
 oF 99 96 (.bin .eql (.s 98) (.c (.int .i64 0))),
 o0 100 (.pick (.s 96) (.c (.bool true)) (.s 99)),
 mv 101 100,
 ot 102 101 (.call 7 []),
 o0 103 (.pick (.s 101) (.s 102) (.c (.bool false))),
 mv 6 103] [94, 95, 96, 97, 98, 99, 100, 101, 102, 103])
 .ret)))))))))⟩

theorem c_law14_NamesecBack : compF Tryd.prog 4 = some F_law14_NamesecBack := by kernel_rfl
abbrev n_law14_NamesecBack : FuncId := 4

def F_law14_few : IFun :=
⟨44, 1, [.tmp 2],
 (.seq (.reg [o0 1 (.box 25 3 (.s 0)),
 o0 2 (.mov (.c (.bool false)))] [])
 (.seq (.reg [o0 5 (.fadr 1 (.s 1)),
 o0 6 (.load none (.s 5)),
 o0 7 (.len (.s 6)),
 o0 8 (.fadr 0 (.s 1)),
 o0 9 (.load none (.s 8)),
 o0 10 (.slen (.s 9)),
 o0 11 (.bin .add (.s 7) (.s 10)),
 mv 3 11] [5, 6, 7, 8, 9, 10, 11])
 (.seq (.seq (.reg [o0 4 (.mov (.c (.int .i64 0)))] [])
 (.block 0 (.loop (.seq (.seq (.reg [mv 12 4,
 o0 13 (.fadr 2 (.s 1)),
 o0 14 (.load none (.s 13)),
 o0 15 (.len (.s 14)),
 o0 16 (.bin .lss (.s 12) (.s 15)),
 mv 17 16,
 mt 18 4 17,
 ot 19 17 (.bin .lss (.s 18) (.c (.int .i64 100))),
 o0 20 (.pick (.s 17) (.s 19) (.c (.bool false))),
 mv 21 20,
 mt 22 3 21,
 ot 23 21 (.bin .leq (.s 22) (.c (.int .i64 400))),
 o0 24 (.pick (.s 21) (.s 23) (.c (.bool false)))] [12, 13, 14, 15, 16, 17, 18, 19, 20, 21, 22, 23])
 (.cond (.s 24)
 .skip
 (.exit 0)))
 (.seq (.block 1 (.reg [mv 27 3,
 o0 28 (.fadr 2 (.s 1)),
 o0 29 (.load none (.s 28)),
 mv 30 4,
 o0 31 (.iadr 2 (.s 29) (.s 30)),
 o0 32 (.fadr 1 (.s 31)),
 o0 33 (.load none (.s 32)),
 o0 34 (.len (.s 33)),
 o0 35 (.bin .add (.s 27) (.s 34)),
 mv 3 35] [27, 28, 29, 30, 31, 32, 33, 34, 35]))
 (.reg [mv 25 4,
 o0 26 (.bin .add (.s 25) (.c (.int .i64 1))),
 mv 4 26] [25, 26]))))))
 (.seq (.reg [o0 36 (.fadr 2 (.s 1)),
 o0 37 (.load none (.s 36)),
 o0 38 (.len (.s 37)),
 o0 39 (.bin .leq (.s 38) (.c (.int .i64 90))),
 mv 40 39,
 mt 41 3 40,
 ot 42 40 (.bin .leq (.s 41) (.c (.int .i64 400))),
 o0 43 (.pick (.s 40) (.s 42) (.c (.bool false))),
 mv 2 43] [36, 37, 38, 39, 40, 41, 42, 43])
 .ret))))⟩

theorem c_law14_few : compF Tryd.prog 6 = some F_law14_few := by kernel_rfl
abbrev n_law14_few : FuncId := 6

def F_law14_alive : IFun :=
⟨59, 0, [.tmp 0],
 (.seq (.reg [o0 0 (.mov (.c (.bool false)))] [])
 (.seq (.reg [o0 8 (.build [(.str []), .nl, .nl] [(0, 1, (.c (.str [109])))]),
 o0 1 (.new 25 [(.str []), .nl, .nl]),
 ⟨none, .store 3 (.s 1) (.s 8), none⟩] [8])
 (.seq (.reg [o0 10 (.load (some 3) (.s 1)),
 o0 11 (.call 13 [(.s 10)]),
 mv 9 11,
 o0 12 (.ext (.s 9) 0),
 o0 13 (.ext (.s 9) 1),
 mv 2 12,
 mv 3 13] [10, 11, 9, 12, 13])
 (.seq (.reg [o0 15 (.bsl 5 1 [[(.int .u8 0)], [(.int .u8 0)], [(.int .u8 0)], [(.int .u8 0)], [(.int .u8 0)], [(.int .u8 0)]] [(0, (.c (.int .u8 1))), (1, (.c (.int .u8 4))), (2, (.c (.int .u8 1))), (3, (.c (.int .u8 3))), (4, (.c (.int .u8 1))), (5, (.c (.int .u8 102)))]),
 o0 16 (.call 14 [(.s 15)]),
 mv 14 16,
 o0 17 (.ext (.s 14) 0),
 o0 18 (.ext (.s 14) 1),
 o0 4 (.new 25 [(.str []), .nl, .nl]),
 ⟨none, .store 3 (.s 4) (.s 17), none⟩,
 mv 5 18] [15, 16, 14, 17, 18])
 (.seq (.reg [o0 20 (.build [.nl, .nl, .nl, .nl, .nl, .nl, .nl, (.bool false), (.int .i64 0), .nl, .nl, .nl] []),
 o0 21 (.load (some 3) (.s 1)),
 o0 22 (.call 16 [(.s 20), (.s 21)]),
 mv 19 22,
 o0 23 (.ext (.s 19) 0),
 o0 24 (.ext (.s 19) 1),
 o0 6 (.new 42 [.nl, .nl, .nl, .nl, .nl, .nl, .nl, (.bool false), (.int .i64 0), .nl, .nl, .nl]),
 ⟨none, .store 12 (.s 6) (.s 23), none⟩,
 mv 7 24] [20, 21, 22, 19, 23, 24])
 (.seq (.reg [mv 25 2,
 o0 26 (.cvs (.s 25)),
 o0 27 (.bin .eql (.s 26) (.c (.str [0, 2, 1, 109]))),
 mv 28 27,
 mt 29 3 28,
 ot 30 28 (.bin .eql (.s 29) (.c (.int .i64 0))),
 o0 31 (.pick (.s 28) (.s 30) (.c (.bool false))),
 mv 32 31,
 mt 33 5 32,
 ot 34 32 (.bin .eql (.s 33) (.c (.int .i64 0))),
 o0 35 (.pick (.s 32) (.s 34) (.c (.bool false))),
 mv 36 35,
 ot 37 36 (.load (some 3) (.s 4)),
 ot 38 36 (.call 8 [(.s 37), (.c (.int .i64 3))]),
 ot 39 36 (.bin .eql (.s 38) (.c (.str [102]))),
 o0 40 (.pick (.s 36) (.s 39) (.c (.bool false))),
 mv 41 40,
 mt 42 7 41,
 ot 43 41 (.bin .eql (.s 42) (.c (.int .i64 0))),
 o0 44 (.pick (.s 41) (.s 43) (.c (.bool false))),
 mv 45 44,
 ot 46 45 (.fadr 11 (.s 6)),
 ot 47 45 (.load none (.s 46)),
 ot 48 45 (.len (.s 47)),
 ot 49 45 (.bin .eql (.s 48) (.c (.int .i64 1))),
 o0 50 (.pick (.s 45) (.s 49) (.c (.bool false))),
 mv 51 50,
 ot 52 51 (.fadr 11 (.s 6)),
 ot 53 51 (.load none (.s 52)),
 ot 54 51 (.iadr 3 (.s 53) (.c (.int .i64 0))),
 ot 55 51 (.fadr 1 (.s 54)),
 ot 56 51 (.load none (.s 55)),
 ot 57 51 (.bin .eql (.s 56) (.c (.str [110, 97, 109, 101]))),
 o0 58 (.pick (.s 51) (.s 57) (.c (.bool false))),
 mv 0 58] [25, 26, 27, 28, 29, 30, 31, 32, 33, 34, 35, 36, 37, 38, 39, 40, 41, 42, 43, 44, 45, 46, 47, 48, 49, 50, 51, 52, 53, 54, 55, 56, 57, 58])
 .ret))))))⟩

theorem c_law14_alive : compF Tryd.prog 7 = some F_law14_alive := by kernel_rfl
abbrev n_law14_alive : FuncId := 7

def F_names_Func : IFun :=
⟨9, 2, [.tmp 4],
 (.seq (.reg [o0 2 (.box 25 3 (.s 0)),
 o0 4 (.mov (.c (.str [])))] [])
 (.seq (.reg [o0 5 (.fadr 1 (.s 2)),
 o0 6 (.load none (.s 5)),
 mv 7 1,
 o0 8 (.call 20 [(.s 6), (.s 7)]),
 mv 4 8] [5, 6, 7, 8])
 .ret))⟩

theorem c_names_Func : compF Tryd.prog 8 = some F_names_Func := by kernel_rfl
abbrev n_names_Func : FuncId := 8

def F_law08_Few : IFun :=
⟨85, 1, [.tmp 2],
 (.seq (.reg [o0 1 (.box 42 12 (.s 0)),
 o0 2 (.mov (.c (.bool false)))] [])
 (.seq (.reg [o0 3 (.mov (.c (.int .i64 0)))] [])
 (.seq (.seq (.reg [o0 4 (.mov (.c (.int .i64 0)))] [])
 (.block 0 (.loop (.seq (.seq (.reg [mv 5 4,
 o0 6 (.fadr 9 (.s 1)),
 o0 7 (.load none (.s 6)),
 o0 8 (.len (.s 7)),
 o0 9 (.bin .lss (.s 5) (.s 8)),
 mv 10 9,
 mt 11 4 10,
 ot 12 10 (.bin .lss (.s 11) (.c (.int .i64 100))),
 o0 13 (.pick (.s 10) (.s 12) (.c (.bool false))),
 mv 14 13,
 mt 15 3 14,
 ot 16 14 (.bin .leq (.s 15) (.c (.int .i64 500))),
 o0 17 (.pick (.s 14) (.s 16) (.c (.bool false)))] [5, 6, 7, 8, 9, 10, 11, 12, 13, 14, 15, 16])
 (.cond (.s 17)
 .skip
 (.exit 0)))
 (.seq (.block 1 (.reg [mv 20 3,
 o0 21 (.fadr 9 (.s 1)),
 o0 22 (.load none (.s 21)),
 mv 23 4,
 o0 24 (.iadr 5 (.s 22) (.s 23)),
 o0 25 (.fadr 4 (.s 24)),
 o0 26 (.load none (.s 25)),
 o0 27 (.len (.s 26)),
 o0 28 (.bin .add (.s 20) (.s 27)),
 mv 3 28] [20, 21, 22, 23, 24, 25, 26, 27, 28]))
 (.reg [mv 18 4,
 o0 19 (.bin .add (.s 18) (.c (.int .i64 1))),
 mv 4 19] [18, 19]))))))
 (.seq (.reg [mv 29 3,
 o0 30 (.bin .leq (.s 29) (.c (.int .i64 500))),
 mv 31 30,
 ot 32 31 (.fadr 0 (.s 1)),
 ot 33 31 (.load none (.s 32)),
 ot 34 31 (.len (.s 33)),
 ot 35 31 (.bin .leq (.s 34) (.c (.int .i64 100))),
 o0 36 (.pick (.s 31) (.s 35) (.c (.bool false))),
 mv 37 36,
 ot 38 37 (.fadr 1 (.s 1)),
 ot 39 37 (.load none (.s 38)),
 ot 40 37 (.len (.s 39)),
 ot 41 37 (.bin .leq (.s 40) (.c (.int .i64 100))),
 o0 42 (.pick (.s 37) (.s 41) (.c (.bool false))),
 mv 43 42,
 ot 44 43 (.fadr 2 (.s 1)),
 ot 45 43 (.load none (.s 44)),
 ot 46 43 (.len (.s 45)),
 ot 47 43 (.bin .leq (.s 46) (.c (.int .i64 100))),
 o0 48 (.pick (.s 43) (.s 47) (.c (.bool false))),
 mv 49 48,
 ot 50 49 (.fadr 3 (.s 1)),
 ot 51 49 (.load none (.s 50)),
 ot 52 49 (.len (.s 51)),
 ot 53 49 (.bin .leq (.s 52) (.c (.int .i64 50))),
 o0 54 (.pick (.s 49) (.s 53) (.c (.bool false))),
 mv 55 54,
 ot 56 55 (.fadr 4 (.s 1)),
 ot 57 55 (.load none (.s 56)),
 ot 58 55 (.len (.s 57)),
 ot 59 55 (.bin .leq (.s 58) (.c (.int .i64 50))),
 o0 60 (.pick (.s 55) (.s 59) (.c (.bool false))),
 mv 61 60,
 ot 62 61 (.fadr 5 (.s 1)),
 ot 63 61 (.load none (.s 62)),
 ot 64 61 (.len (.s 63)),
 ot 65 61 (.bin .leq (.s 64) (.c (.int .i64 100))),
 o0 66 (.pick (.s 61) (.s 65) (.c (.bool false))),
 mv 67 66,
 ot 68 67 (.fadr 6 (.s 1)),
 ot 69 67 (.load none (.s 68)),
 ot 70 67 (.len (.s 69)),
 ot 71 67 (.bin .leq (.s 70) (.c (.int .i64 200))),
 o0 72 (.pick (.s 67) (.s 71) (.c (.bool false))),
 mv 73 72,
 ot 74 73 (.fadr 9 (.s 1)),
 ot 75 73 (.load none (.s 74)),
 ot 76 73 (.len (.s 75)),
 ot 77 73 (.bin .leq (.s 76) (.c (.int .i64 50))),
 o0 78 (.pick (.s 73) (.s 77) (.c (.bool false))),
 mv 79 78,
 ot 80 79 (.fadr 10 (.s 1)),
 ot 81 79 (.load none (.s 80)),
 ot 82 79 (.len (.s 81)),
 ot 83 79 (.bin .leq (.s 82) (.c (.int .i64 50))),
 o0 84 (.pick (.s 79) (.s 83) (.c (.bool false))),
 mv 2 84] [29, 30, 31, 32, 33, 34, 35, 36, 37, 38, 39, 40, 41, 42, 43, 44, 45, 46, 47, 48, 49, 50, 51, 52, 53, 54, 55, 56, 57, 58, 59, 60, 61, 62, 63, 64, 65, 66, 67, 68, 69, 70, 71, 72, 73, 74, 75, 76, 77, 78, 79, 80, 81, 82, 83, 84])
 .ret))))⟩

theorem c_law08_Few : compF Tryd.prog 12 = some F_law08_Few := by kernel_rfl
abbrev n_law08_Few : FuncId := 12

def F_names_Encode : IFun :=
⟨38, 1, [.tmp 2, .tmp 3],
 (.seq (.reg [o0 1 (.box 25 3 (.s 0)),
 o0 2 (.mov (.c .nl)),
 o0 3 (.mov (.c (.int .i64 0)))] [])
 (.seq (.seq (.reg [o0 7 (.load (some 3) (.s 1)),
 o0 8 (.call 18 [(.s 7)]),
 mv 4 8] [7, 8])
 (.seq (.reg [mv 9 4,
 o0 10 (.bin .neq (.s 9) (.c (.int .i64 0)))] [9])
 (.cond (.s 10)
 (.seq (.reg [mv 11 4,
 o0 2 (.mov (.c .nl)),
 mv 3 11] [11])
 .ret)
 .skip)))
 (.seq (.reg [o0 12 (.call 22 []),
 o0 5 (.new 68 [.np]),
 ⟨none, .store 1 (.s 5) (.s 12), none⟩] [12])
 (.seq (.reg [o0 13 (.mkf 23 [(.s 5)]),
 mv 6 13] [13])
 (.seq (.seq (.reg [o0 14 (.fadr 0 (.s 1)),
 o0 15 (.load none (.s 14)),
 o0 16 (.bin .neq (.s 15) (.c (.str [])))] [14, 15])
 (.cond (.s 16)
 (.reg [mv 17 6,
 o0 18 (.mkf 26 [(.s 1)]),
 o0 19 (.callv (.s 17) [(.c (.int .u8 0)), (.s 18)])] [17, 18, 19])
 .skip))
 (.seq (.seq (.reg [o0 20 (.fadr 1 (.s 1)),
 o0 21 (.load none (.s 20)),
 o0 22 (.len (.s 21)),
 o0 23 (.bin .gtr (.s 22) (.c (.int .i64 0)))] [20, 21, 22])
 (.cond (.s 23)
 (.reg [mv 24 6,
 o0 25 (.mkf 28 [(.s 1)]),
 o0 26 (.callv (.s 24) [(.c (.int .u8 1)), (.s 25)])] [24, 25, 26])
 .skip))
 (.seq (.seq (.reg [o0 27 (.fadr 2 (.s 1)),
 o0 28 (.load none (.s 27)),
 o0 29 (.len (.s 28)),
 o0 30 (.bin .gtr (.s 29) (.c (.int .i64 0)))] [27, 28, 29])
 (.cond (.s 30)
 (.reg [mv 31 6,
 o0 32 (.mkf 30 [(.s 1)]),
 o0 33 (.callv (.s 31) [(.c (.int .u8 2)), (.s 32)])] [31, 32, 33])
 .skip))
 (.seq (.reg [o0 34 (.load none (.s 5)),
 o0 35 (.call 32 [(.s 34)]),
 o0 36 (.ext (.s 35) 0),
 o0 37 (.ext (.s 35) 1),
 mv 2 36,
 mv 3 37] [34, 35, 36, 37])
 .ret))))))))⟩

theorem c_names_Encode : compF Tryd.prog 13 = some F_names_Encode := by kernel_rfl
abbrev n_names_Encode : FuncId := 13

def F_names_Decode : IFun :=
⟨51, 1, [.cell 2 (some 3), .tmp 3],
 (.seq (.reg [o0 2 (.new 25 [(.str []), .nl, .nl]),
 o0 3 (.mov (.c (.int .i64 0)))] [])
 (.seq (.reg [mv 10 0,
 o0 11 (.call 33 [(.s 10)]),
 mv 4 11] [10, 11])
 (.seq (.reg [o0 5 (.new 25 [(.str []), .nl, .nl])] [])
 (.seq (.reg [o0 6 (.mov (.c (.int .i64 (-1))))] [])
 (.seq (.block 0 (.loop (.seq (.seq (.reg [mv 12 4,
 o0 13 (.call 34 [(.s 12)]),
 o0 14 (.bin .gtr (.s 13) (.c (.int .i64 0)))] [12, 13])
 (.cond (.s 14)
 .skip
 (.exit 0)))
 (.block 1 (.seq (.reg [mv 15 4,
 o0 16 (.call 35 [(.s 15)]),
 o0 17 (.cvi .i64 (.s 16)),
 mv 7 17] [15, 16, 17])
 (.seq (.seq (.reg [mv 18 7,
 o0 19 (.bin .gtr (.s 18) (.c (.int .i64 2)))] [18])
 (.cond (.s 19)
 (.seq (.reg [o0 20 (.build [(.str []), .nl, .nl] []),
 ⟨none, .store 3 (.s 2) (.s 20), none⟩,
 o0 3 (.mov (.c (.int .i64 4)))] [20])
 .ret)
 .skip))
 (.seq (.seq (.reg [mv 21 7,
 mv 22 6,
 o0 23 (.bin .leq (.s 21) (.s 22))] [21, 22])
 (.cond (.s 23)
 (.seq (.reg [o0 24 (.build [(.str []), .nl, .nl] []),
 ⟨none, .store 3 (.s 2) (.s 24), none⟩,
 o0 3 (.mov (.c (.int .i64 7)))] [24])
 .ret)
 .skip))
 (.seq (.reg [mv 25 7,
 mv 6 25] [25])
 (.seq (.reg [mv 26 4,
 mv 27 4,
 o0 28 (.call 37 [(.s 27)]),
 o0 29 (.call 36 [(.s 26), (.s 28)]),
 mv 8 29] [26, 27, 28, 29])
 (.seq (.seq (.reg [mv 30 7] [])
 (.block 2 (.seq (.reg [o0 35 (.bin .eql (.s 30) (.c (.int .i64 0))),
 mv 34 35] [35])
 (.cond (.s 34)
 (.reg [mv 36 8,
 o0 37 (.call 38 [(.s 36)]),
 o0 38 (.fadr 0 (.s 5)),
 ⟨none, .store 1 (.s 38) (.s 37), none⟩] [36, 37, 38])
 (.seq (.reg [o0 40 (.bin .eql (.s 30) (.c (.int .i64 1))),
 mv 39 40] [40])
 (.cond (.s 39)
 (.reg [mv 41 8,
 o0 42 (.call 39 [(.s 41), (.c (.int .i64 64))]),
 o0 43 (.fadr 1 (.s 5)),
 ⟨none, .store 1 (.s 43) (.s 42), none⟩] [41, 42, 43])
 (.reg [mv 31 8,
 o0 32 (.call 40 [(.s 31)]),
 o0 33 (.fadr 2 (.s 5)),
 ⟨none, .store 1 (.s 33) (.s 32), none⟩] [31, 32, 33])))))))
 (.seq (.reg [mv 44 8,
 o0 45 (.call 41 [(.s 44)]),
 mv 9 45] [44, 45])
 (.seq (.reg [mv 46 9,
 o0 47 (.bin .neq (.s 46) (.c (.int .i64 0)))] [46])
 (.cond (.s 47)
 (.seq (.reg [o0 48 (.build [(.str []), .nl, .nl] []),
 mv 49 9,
 ⟨none, .store 3 (.s 2) (.s 48), none⟩,
 mv 3 49] [48, 49])
 .ret)
 .skip)))))))))))))
 (.seq (.reg [o0 50 (.load (some 3) (.s 5)),
 ⟨none, .store 3 (.s 2) (.s 50), none⟩,
 o0 3 (.mov (.c (.int .i64 0)))] [50])
 .ret))))))⟩

theorem c_names_Decode : compF Tryd.prog 14 = some F_names_Decode := by kernel_rfl
abbrev n_names_Decode : FuncId := 14

def F_ref07_SameNames : IFun :=
⟨64, 2, [.tmp 4],
 (.seq (.reg [o0 2 (.box 25 3 (.s 0)),
 o0 3 (.box 25 3 (.s 1)),
 o0 4 (.mov (.c (.bool false)))] [])
 (.seq (.seq (.reg [o0 6 (.fadr 0 (.s 2)),
 o0 7 (.load none (.s 6)),
 o0 8 (.fadr 0 (.s 3)),
 o0 9 (.load none (.s 8)),
 o0 10 (.bin .neq (.s 7) (.s 9)),
 mv 11 10,
 oF 12 11 (.fadr 1 (.s 2)),
 oF 13 11 (.load none (.s 12)),
 oF 14 11 (.fadr 1 (.s 3)),
 oF 15 11 (.load none (.s 14)),
 oF 16 11 (.call 42 [(.s 13), (.s 15)]),
 oF 17 11 (.un .not (.s 16)),
 o0 18 (.pick (.s 11) (.c (.bool true)) (.s 17)),
 mv 19 18,
 oF 20 19 (.fadr 2 (.s 2)),
 oF 21 19 (.load none (.s 20)),
 oF 22 19 (.len (.s 21)),
 oF 23 19 (.fadr 2 (.s 3)),
 oF 24 19 (.load none (.s 23)),
 oF 25 19 (.len (.s 24)),
 oF 26 19 (.bin .neq (.s 22) (.s 25)),
 o0 27 (.pick (.s 19) (.c (.bool true)) (.s 26))] [6, 7, 8, 9, 10, 11, 12, 13, 14, 15, 16, 17, 18, 19, 20, 21, 22, 23, 24, 25, 26])
 (.cond (.s 27)
 (.seq (.reg [o0 4 (.mov (.c (.bool false)))] [])
 .ret)
 .skip))
 (.seq (.seq (.reg [o0 5 (.mov (.c (.int .i64 0)))] [])
 (.block 0 (.loop (.seq (.seq (.reg [mv 28 5,
 o0 29 (.fadr 2 (.s 2)),
 o0 30 (.load none (.s 29)),
 o0 31 (.len (.s 30)),
 o0 32 (.bin .lss (.s 28) (.s 31))] [28, 29, 30, 31])
 (.cond (.s 32)
 .skip
 (.exit 0)))
 (.seq (.block 1 (.seq (.seq (.draw [⟨o0 35 (.fadr 2 (.s 2)), []⟩,
 ⟨o0 36 (.load none (.s 35)), [0]⟩,
 ⟨mv 37 5, []⟩,
 ⟨o0 38 (.iadr 2 (.s 36) (.s 37)), [1, 0, 2]⟩,
 ⟨o0 39 (.fadr 0 (.s 38)), [3, 1, 0, 2]⟩,
 ⟨o0 40 (.load none (.s 39)), [4, 3, 1, 0, 2]⟩,
 ⟨o0 41 (.fadr 2 (.s 3)), []⟩,
 ⟨o0 42 (.load none (.s 41)), [6]⟩,
 ⟨mv 43 5, []⟩,
 ⟨o0 44 (.iadr 2 (.s 42) (.s 43)), [7, 6, 8]⟩,
 ⟨o0 45 (.fadr 0 (.s 44)), [9, 7, 6, 8]⟩,
 ⟨o0 46 (.load none (.s 45)), [10, 9, 7, 6, 8]⟩] [] [])
 (.seq (.reg [o0 47 (.bin .neq (.s 40) (.s 46))] [])
 (.seq (.reg [mv 48 47] [])
 (.seq (.draw [⟨oF 49 48 (.fadr 2 (.s 2)), []⟩,
 ⟨oF 50 48 (.load none (.s 49)), [0]⟩,
 ⟨mf 51 5 48, []⟩,
 ⟨oF 52 48 (.iadr 2 (.s 50) (.s 51)), [1, 0, 2]⟩,
 ⟨oF 53 48 (.fadr 1 (.s 52)), [3, 1, 0, 2]⟩,
 ⟨oF 54 48 (.load none (.s 53)), [4, 3, 1, 0, 2]⟩,
 ⟨oF 55 48 (.fadr 2 (.s 3)), []⟩,
 ⟨oF 56 48 (.load none (.s 55)), [6]⟩,
 ⟨mf 57 5 48, []⟩,
 ⟨oF 58 48 (.iadr 2 (.s 56) (.s 57)), [7, 6, 8]⟩,
 ⟨oF 59 48 (.fadr 1 (.s 58)), [9, 7, 6, 8]⟩,
 ⟨oF 60 48 (.load none (.s 59)), [10, 9, 7, 6, 8]⟩] [] [])
 (.seq (.reg [oF 61 48 (.call 42 [(.s 54), (.s 60)])] [])
 (.seq (.reg [oF 62 48 (.un .not (.s 61))] [])
 (.reg [o0 63 (.pick (.s 48) (.c (.bool true)) (.s 62))] [35, 36, 37, 38, 39, 40, 41, 42, 43, 44, 45, 46, 47, 48, 49, 50, 51, 52, 53, 54, 55, 56, 57, 58, 59, 60, 61, 62])))))))
 (.cond (.s 63)
 (.seq (.reg [o0 4 (.mov (.c (.bool false)))] [])
 .ret)
 .skip)))
 (.reg [mv 33 5,
 o0 34 (.bin .add (.s 33) (.c (.int .i64 1))),
 mv 5 34] [33, 34]))))))
 (.seq (.reg [o0 4 (.mov (.c (.bool true)))] [])
 .ret))))⟩

theorem c_ref07_SameNames : compF Tryd.prog 15 = some F_ref07_SameNames := by kernel_rfl
abbrev n_ref07_SameNames : FuncId := 15

def F_names_With : IFun :=
⟨60, 2, [.cell 4 (some 12), .tmp 5],
 (.seq (.reg [o0 2 (.box 42 12 (.s 0)),
 o0 3 (.box 25 3 (.s 1)),
 o0 4 (.new 42 [.nl, .nl, .nl, .nl, .nl, .nl, .nl, (.bool false), (.int .i64 0), .nl, .nl, .nl]),
 o0 5 (.mov (.c (.int .i64 0)))] [])
 (.seq (.reg [o0 13 (.load (some 3) (.s 3)),
 o0 14 (.call 13 [(.s 13)]),
 mv 12 14,
 o0 15 (.ext (.s 12) 0),
 o0 16 (.ext (.s 12) 1),
 mv 6 15,
 mv 7 16] [13, 14, 12, 15, 16])
 (.seq (.seq (.reg [mv 17 7,
 o0 18 (.bin .neq (.s 17) (.c (.int .i64 0)))] [17])
 (.cond (.s 18)
 (.seq (.reg [o0 19 (.build [.nl, .nl, .nl, .nl, .nl, .nl, .nl, (.bool false), (.int .i64 0), .nl, .nl, .nl] []),
 mv 20 7,
 ⟨none, .store 12 (.s 4) (.s 19), none⟩,
 mv 5 20] [19, 20])
 .ret)
 .skip))
 (.seq (.reg [o0 21 (.load (some 12) (.s 2)),
 o0 22 (.call 43 [(.s 21)]),
 o0 8 (.new 42 [.nl, .nl, .nl, .nl, .nl, .nl, .nl, (.bool false), (.int .i64 0), .nl, .nl, .nl]),
 ⟨none, .store 12 (.s 8) (.s 22), none⟩] [21, 22])
 (.seq (.reg [o0 9 (.mov (.c .nl))] [])
 (.seq (.seq (.reg [o0 23 (.fadr 11 (.s 8)),
 o0 24 (.load none (.s 23)),
 o0 25 (.len (.s 24)),
 o0 26 (.mov (.c (.int .i64 0)))] [23])
 (.block 0 (.loop (.seq (.reg [o0 27 (.bin .lss (.s 26) (.s 25))] [])
 (.seq (.cond (.s 27)
 .skip
 (.exit 0))
 (.seq (.block 1 (.seq (.reg [o0 28 (.iadr 3 (.s 24) (.s 26)),
 o0 29 (.load (some 3) (.s 28)),
 o0 11 (.new 61 [(.int .i64 0), (.str []), .nl]),
 ⟨none, .store 3 (.s 11) (.s 29), none⟩] [28, 29])
 (.seq (.reg [o0 30 (.fadr 1 (.s 11)),
 o0 31 (.load none (.s 30)),
 o0 32 (.bin .neq (.s 31) (.c (.str [110, 97, 109, 101])))] [30, 31])
 (.cond (.s 32)
 (.reg [mv 33 9,
 o0 34 (.load (some 3) (.s 11)),
 o0 35 (.bsl 61 3 [[(.int .i64 0), (.str []), .nl]] [(0, (.s 34))]),
 o0 36 (.app 61 3 (.s 33) (.s 35)),
 mv 9 36] [33, 34, 35, 36])
 .skip))))
 (.reg [o0 37 (.bin .add (.s 26) (.c (.int .i64 1))),
 mv 26 37] [37])))))))
 (.seq (.seq (.reg [mv 38 6,
 o0 39 (.len (.s 38)),
 o0 40 (.bin .gtr (.s 39) (.c (.int .i64 0)))] [38, 39])
 (.cond (.s 40)
 (.seq (.seq (.reg [mv 41 6,
 o0 42 (.len (.s 41)),
 o0 43 (.bin .gtr (.s 42) (.c (.int .i64 4096))),
 mv 44 43,
 mf 45 9 44,
 oF 46 44 (.len (.s 45)),
 oF 47 44 (.bin .geq (.s 46) (.c (.int .i64 8))),
 o0 48 (.pick (.s 44) (.c (.bool true)) (.s 47))] [41, 42, 43, 44, 45, 46, 47])
 (.cond (.s 48)
 (.seq (.reg [o0 49 (.build [.nl, .nl, .nl, .nl, .nl, .nl, .nl, (.bool false), (.int .i64 0), .nl, .nl, .nl] []),
 ⟨none, .store 12 (.s 4) (.s 49), none⟩,
 o0 5 (.mov (.c (.int .i64 6)))] [49])
 .ret)
 .skip))
 (.reg [mv 50 9,
 o0 51 (.load (some 12) (.s 2)),
 o0 52 (.call 44 [(.s 51)]),
 mv 53 6,
 o0 54 (.build [(.int .i64 0), (.str []), .nl] [(0, 1, (.s 52)), (1, 1, (.c (.str [110, 97, 109, 101]))), (2, 1, (.s 53))]),
 o0 55 (.bsl 61 3 [[(.int .i64 0), (.str []), .nl]] [(0, (.s 54))]),
 o0 56 (.app 61 3 (.s 50) (.s 55)),
 mv 9 56] [50, 51, 52, 53, 54, 55, 56]))
 .skip))
 (.seq (.reg [mv 57 9,
 o0 58 (.fadr 11 (.s 8)),
 ⟨none, .store 1 (.s 58) (.s 57), none⟩] [57, 58])
 (.seq (.reg [o0 59 (.load (some 12) (.s 8)),
 ⟨none, .store 12 (.s 4) (.s 59), none⟩,
 o0 5 (.mov (.c (.int .i64 0)))] [59])
 .ret)))))))))⟩

theorem c_names_With : compF Tryd.prog 16 = some F_names_With := by kernel_rfl
abbrev n_names_With : FuncId := 16

def F_names_Of : IFun :=
⟨29, 1, [.cell 2 (some 3), .tmp 3, .tmp 4],
 (.seq (.reg [o0 1 (.box 42 12 (.s 0)),
 o0 2 (.new 25 [(.str []), .nl, .nl]),
 o0 3 (.mov (.c (.bool false))),
 o0 4 (.mov (.c (.int .i64 0)))] [])
 (.seq (.seq (.reg [o0 9 (.fadr 11 (.s 1)),
 o0 10 (.load none (.s 9)),
 o0 11 (.len (.s 10)),
 o0 12 (.mov (.c (.int .i64 0)))] [9])
 (.block 0 (.loop (.seq (.reg [o0 13 (.bin .lss (.s 12) (.s 11))] [])
 (.seq (.cond (.s 13)
 .skip
 (.exit 0))
 (.seq (.block 1 (.seq (.reg [o0 14 (.iadr 3 (.s 10) (.s 12)),
 o0 15 (.load (some 3) (.s 14)),
 o0 6 (.new 61 [(.int .i64 0), (.str []), .nl]),
 ⟨none, .store 3 (.s 6) (.s 15), none⟩] [14, 15])
 (.seq (.reg [o0 16 (.fadr 1 (.s 6)),
 o0 17 (.load none (.s 16)),
 o0 18 (.bin .eql (.s 17) (.c (.str [110, 97, 109, 101])))] [16, 17])
 (.cond (.s 18)
 (.seq (.reg [o0 20 (.fadr 2 (.s 6)),
 o0 21 (.load none (.s 20)),
 o0 22 (.call 14 [(.s 21)]),
 mv 19 22,
 o0 23 (.ext (.s 19) 0),
 o0 24 (.ext (.s 19) 1),
 o0 7 (.new 25 [(.str []), .nl, .nl]),
 ⟨none, .store 3 (.s 7) (.s 23), none⟩,
 mv 8 24] [20, 21, 22, 19, 23, 24])
 (.seq (.reg [o0 25 (.load (some 3) (.s 7)),
 mv 26 8,
 ⟨none, .store 3 (.s 2) (.s 25), none⟩,
 o0 3 (.mov (.c (.bool true))),
 mv 4 26] [25, 26])
 .ret))
 .skip))))
 (.reg [o0 27 (.bin .add (.s 12) (.c (.int .i64 1))),
 mv 12 27] [27])))))))
 (.seq (.reg [o0 28 (.build [(.str []), .nl, .nl] []),
 ⟨none, .store 3 (.s 2) (.s 28), none⟩,
 o0 3 (.mov (.c (.bool false))),
 o0 4 (.mov (.c (.int .i64 0)))] [28])
 .ret)))⟩

theorem c_names_Of : compF Tryd.prog 17 = some F_names_Of := by kernel_rfl
abbrev n_names_Of : FuncId := 17

def F_names_Check : IFun :=
⟨91, 1, [.tmp 2],
 (.seq (.reg [o0 1 (.box 25 3 (.s 0)),
 o0 2 (.mov (.c (.int .i64 0)))] [])
 (.seq (.seq (.reg [o0 16 (.fadr 0 (.s 1)),
 o0 17 (.load none (.s 16)),
 o0 18 (.call 45 [(.s 17)]),
 mv 3 18] [16, 17, 18])
 (.seq (.reg [mv 19 3,
 o0 20 (.bin .neq (.s 19) (.c (.int .i64 0)))] [19])
 (.cond (.s 20)
 (.seq (.reg [mv 21 3,
 mv 2 21] [21])
 .ret)
 .skip)))
 (.seq (.seq (.reg [o0 22 (.fadr 1 (.s 1)),
 o0 23 (.load none (.s 22)),
 o0 24 (.call 46 [(.s 23), (.c (.int .i64 64))]),
 mv 4 24] [22, 23, 24])
 (.seq (.reg [mv 25 4,
 o0 26 (.bin .neq (.s 25) (.c (.int .i64 0)))] [25])
 (.cond (.s 26)
 (.seq (.reg [mv 27 4,
 mv 2 27] [27])
 .ret)
 .skip)))
 (.seq (.seq (.reg [o0 28 (.fadr 2 (.s 1)),
 o0 29 (.load none (.s 28)),
 o0 30 (.len (.s 29)),
 o0 31 (.bin .gtr (.s 30) (.c (.int .i64 64)))] [28, 29, 30])
 (.cond (.s 31)
 (.seq (.reg [o0 2 (.mov (.c (.int .i64 6)))] [])
 .ret)
 .skip))
 (.seq (.seq (.reg [o0 32 (.fadr 2 (.s 1)),
 o0 33 (.load none (.s 32)),
 o0 34 (.len (.s 33)),
 o0 35 (.mov (.c (.int .i64 0)))] [32])
 (.block 0 (.loop (.seq (.reg [o0 36 (.bin .lss (.s 35) (.s 34))] [])
 (.seq (.cond (.s 36)
 .skip
 (.exit 0))
 (.seq (.block 1 (.seq (.reg [o0 37 (.iadr 2 (.s 33) (.s 35)),
 o0 38 (.load (some 2) (.s 37)),
 o0 6 (.new 59 [(.int .i64 0), .nl]),
 ⟨none, .store 2 (.s 6) (.s 38), none⟩] [37, 38])
 (.seq (.reg [o0 39 (.fadr 1 (.s 6)),
 o0 40 (.load none (.s 39)),
 o0 41 (.call 46 [(.s 40), (.c (.int .i64 72))]),
 mv 7 41] [39, 40, 41])
 (.seq (.reg [mv 42 7,
 o0 43 (.bin .neq (.s 42) (.c (.int .i64 0)))] [42])
 (.cond (.s 43)
 (.seq (.reg [mv 44 7,
 mv 2 44] [44])
 .ret)
 .skip)))))
 (.reg [o0 45 (.bin .add (.s 35) (.c (.int .i64 1))),
 mv 35 45] [45])))))))
 (.seq (.reg [o0 46 (.load (some 3) (.s 1)),
 o0 47 (.call 47 [(.s 46)]),
 mv 8 47] [46, 47])
 (.seq (.seq (.reg [mv 48 8,
 o0 49 (.len (.s 48)),
 o0 50 (.mov (.c (.int .i64 0)))] [])
 (.block 2 (.loop (.seq (.reg [o0 51 (.bin .lss (.s 50) (.s 49))] [])
 (.seq (.cond (.s 51)
 .skip
 (.exit 2))
 (.seq (.block 3 (.seq (.reg [o0 52 (.iadr 1 (.s 48) (.s 50)),
 o0 53 (.load none (.s 52)),
 mv 10 53] [52, 53])
 (.seq (.reg [mv 54 10,
 o0 55 (.len (.s 54)),
 o0 56 (.mov (.c (.int .i64 0)))] [])
 (.block 4 (.loop (.seq (.reg [o0 57 (.bin .lss (.s 56) (.s 55))] [])
 (.seq (.cond (.s 57)
 .skip
 (.exit 4))
 (.seq (.block 5 (.seq (.reg [o0 58 (.iadr 1 (.s 54) (.s 56)),
 o0 59 (.load none (.s 58)),
 mv 12 59] [58, 59])
 (.seq (.reg [mv 60 12,
 o0 61 (.bin .lss (.s 60) (.c (.int .i64 0))),
 mv 62 61,
 mf 63 12 62,
 oF 64 62 (.bin .geq (.s 63) (.c (.int .i64 4294967296))),
 o0 65 (.pick (.s 62) (.c (.bool true)) (.s 64))] [60, 61, 62, 63, 64])
 (.cond (.s 65)
 (.seq (.reg [o0 2 (.mov (.c (.int .i64 1)))] [])
 .ret)
 .skip))))
 (.reg [o0 66 (.bin .add (.s 56) (.c (.int .i64 1))),
 mv 56 66] [66])))))))))
 (.reg [o0 67 (.bin .add (.s 50) (.c (.int .i64 1))),
 mv 50 67] [67])))))))
 (.seq (.seq (.reg [mv 68 8,
 o0 69 (.len (.s 68)),
 o0 70 (.mov (.c (.int .i64 0)))] [])
 (.block 6 (.loop (.seq (.reg [o0 71 (.bin .lss (.s 70) (.s 69))] [])
 (.seq (.cond (.s 71)
 .skip
 (.exit 6))
 (.seq (.block 7 (.seq (.reg [o0 72 (.iadr 1 (.s 68) (.s 70)),
 o0 73 (.load none (.s 72)),
 mv 14 73] [72, 73])
 (.seq (.reg [o0 15 (.mov (.c (.int .i64 1)))] [])
 (.block 8 (.loop (.seq (.seq (.reg [mv 74 15,
 mv 75 14,
 o0 76 (.len (.s 75)),
 o0 77 (.bin .lss (.s 74) (.s 76))] [74, 75, 76])
 (.cond (.s 77)
 .skip
 (.exit 8)))
 (.seq (.block 9 (.seq (.seq (.draw [⟨mv 80 14, []⟩,
 ⟨mv 81 15, []⟩,
 ⟨o0 82 (.iadr 1 (.s 80) (.s 81)), [0, 1]⟩,
 ⟨o0 83 (.load none (.s 82)), [2, 0, 1]⟩,
 ⟨mv 84 14, []⟩,
 ⟨mv 85 15, []⟩,
 ⟨o0 86 (.bin .sub (.s 85) (.c (.int .i64 1))), [5]⟩,
 ⟨o0 87 (.iadr 1 (.s 84) (.s 86)), [4, 6, 5]⟩,
 ⟨o0 88 (.load none (.s 87)), [7, 4, 6, 5]⟩] [] [])
 (.reg [o0 89 (.bin .leq (.s 83) (.s 88))] [80, 81, 82, 83, 84, 85, 86, 87, 88]))
 (.cond (.s 89)
 (.seq (.reg [o0 2 (.mov (.c (.int .i64 7)))] [])
 .ret)
 .skip)))
 (.reg [mv 78 15,
 o0 79 (.bin .add (.s 78) (.c (.int .i64 1))),
 mv 15 79] [78, 79]))))))))
 (.reg [o0 90 (.bin .add (.s 70) (.c (.int .i64 1))),
 mv 70 90] [90])))))))
 (.seq (.reg [o0 2 (.mov (.c (.int .i64 0)))] [])
 .ret)))))))))⟩

theorem c_names_Check : compF Tryd.prog 18 = some F_names_Check := by kernel_rfl
abbrev n_names_Check : FuncId := 18

def F_names_find : IFun :=
⟨22, 2, [.tmp 4],
 (.seq (.reg [o0 4 (.mov (.c (.str [])))] [])
 (.seq (.seq (.reg [mv 7 0,
 o0 8 (.len (.s 7)),
 o0 9 (.mov (.c (.int .i64 0)))] [])
 (.block 0 (.loop (.seq (.reg [o0 10 (.bin .lss (.s 9) (.s 8))] [])
 (.seq (.cond (.s 10)
 .skip
 (.exit 0))
 (.seq (.block 1 (.seq (.reg [o0 11 (.iadr 2 (.s 7) (.s 9)),
 o0 12 (.load (some 2) (.s 11)),
 o0 6 (.new 106 [(.int .i64 0), (.str [])]),
 ⟨none, .store 2 (.s 6) (.s 12), none⟩] [11, 12])
 (.seq (.reg [o0 13 (.load (some 2) (.s 6)),
 mv 14 1,
 o0 15 (.fadr 1 (.s 6)),
 o0 16 (.load none (.s 15)),
 o0 17 (.build [(.int .i64 0), (.str [])] [(0, 1, (.s 14)), (1, 1, (.s 16))]),
 o0 18 (.sbin .eql [.i, .s] (.s 13) (.s 17))] [13, 14, 15, 16, 17])
 (.cond (.s 18)
 (.seq (.reg [o0 19 (.fadr 1 (.s 6)),
 o0 20 (.load none (.s 19)),
 mv 4 20] [19, 20])
 .ret)
 .skip))))
 (.reg [o0 21 (.bin .add (.s 9) (.c (.int .i64 1))),
 mv 9 21] [21])))))))
 (.seq (.reg [o0 4 (.mov (.c (.str [])))] [])
 .ret)))⟩

theorem c_names_find : compF Tryd.prog 20 = some F_names_find := by kernel_rfl
abbrev n_names_find : FuncId := 20

def F_octet_New : IFun :=
⟨3, 0, [.tmp 0],
 (.seq (.reg [o0 0 (.mov (.c .np))] [])
 (.seq (.reg [o0 1 (.build [(.bool false), .nl, (.int .i64 0)] [(0, 1, (.c (.bool true)))]),
 o0 2 (.box 108 3 (.s 1)),
 mv 0 2] [1, 2])
 .ret))⟩

theorem c_octet_New : compF Tryd.prog 22 = some F_octet_New := by kernel_rfl
abbrev n_octet_New : FuncId := 22

def F_names_Encode_1 : IFun :=
⟨16, 3, [],
 (.seq (.reg [o0 6 (.call 22 []),
 mv 5 6] [6])
 (.seq (.reg [mv 7 1,
 mv 8 5,
 o0 9 (.callv (.s 7) [(.s 8)])] [7, 8, 9])
 (.seq (.reg [o0 10 (.load none (.s 2)),
 mv 11 0,
 o0 12 (.call 24 [(.s 10), (.s 11)])] [10, 11, 12])
 (.reg [o0 13 (.load none (.s 2)),
 mv 14 5,
 o0 15 (.call 25 [(.s 13), (.s 14)])] [13, 14, 15]))))⟩

theorem c_names_Encode_1 : compF Tryd.prog 23 = some F_names_Encode_1 := by kernel_rfl
abbrev n_names_Encode_1 : FuncId := 23

def F_Poctet_Writer_Byte : IFun :=
⟨8, 2, [],
 (.reg [mv 4 0,
 mv 5 1,
 o0 6 (.bsl 5 1 [[(.int .u8 0)]] [(0, (.s 5))]),
 o0 7 (.call 54 [(.s 4), (.s 6)])] [4, 5, 6, 7])⟩

theorem c_Poctet_Writer_Byte : compF Tryd.prog 24 = some F_Poctet_Writer_Byte := by kernel_rfl
abbrev n_Poctet_Writer_Byte : FuncId := 24

def F_Poctet_Writer_Part : IFun :=
⟨39, 2, [],
 (.seq (.seq (.reg [mv 5 1,
 o0 6 (.pbin .eql (.s 5) (.c .np)),
 mv 7 6,
 mf 8 1 7,
 oF 9 7 (.nchk (.s 8)),
 oF 10 7 (.fadr 0 (.s 9)),
 oF 11 7 (.load none (.s 10)),
 oF 12 7 (.un .not (.s 11)),
 o0 13 (.pick (.s 7) (.c (.bool true)) (.s 12))] [5, 6, 7, 8, 9, 10, 11, 12])
 (.cond (.s 13)
 (.seq (.reg [mv 14 0,
 o0 15 (.call 55 [(.s 14), (.c (.int .i64 2))])] [14, 15])
 .ret)
 .skip))
 (.seq (.seq (.reg [mv 16 1,
 o0 17 (.nchk (.s 16)),
 o0 18 (.fadr 2 (.s 17)),
 o0 19 (.load none (.s 18)),
 o0 20 (.bin .neq (.s 19) (.c (.int .i64 0)))] [16, 17, 18, 19])
 (.cond (.s 20)
 (.seq (.reg [mv 21 0,
 mv 22 1,
 o0 23 (.nchk (.s 22)),
 o0 24 (.fadr 2 (.s 23)),
 o0 25 (.load none (.s 24)),
 o0 26 (.call 55 [(.s 21), (.s 25)])] [21, 22, 23, 24, 25, 26])
 .ret)
 .skip))
 (.seq (.reg [mv 27 1,
 o0 28 (.nchk (.s 27)),
 o0 29 (.fadr 1 (.s 28)),
 o0 30 (.load none (.s 29)),
 o0 31 (.app 5 1 (.c .nl) (.s 30)),
 mv 4 31] [27, 28, 29, 30, 31])
 (.seq (.reg [mv 32 0,
 mv 33 4,
 o0 34 (.len (.s 33)),
 o0 35 (.call 31 [(.s 32), (.s 34)])] [32, 33, 34, 35])
 (.reg [mv 36 0,
 mv 37 4,
 o0 38 (.call 54 [(.s 36), (.s 37)])] [36, 37, 38])))))⟩

theorem c_Poctet_Writer_Part : compF Tryd.prog 25 = some F_Poctet_Writer_Part := by kernel_rfl
abbrev n_Poctet_Writer_Part : FuncId := 25

def F_names_Encode_2 : IFun :=
⟨7, 2, [],
 (.reg [mv 3 0,
 o0 4 (.fadr 0 (.s 1)),
 o0 5 (.load none (.s 4)),
 o0 6 (.call 27 [(.s 3), (.s 5)])] [3, 4, 5, 6])⟩

theorem c_names_Encode_2 : compF Tryd.prog 26 = some F_names_Encode_2 := by kernel_rfl
abbrev n_names_Encode_2 : FuncId := 26

def F_Poctet_Writer_Name : IFun :=
⟨24, 2, [],
 (.block 0 (.seq (.reg [mv 13 1,
 o0 14 (.call 56 [(.s 13)]),
 o0 15 (.un .not (.s 14)),
 mv 12 15] [13, 14, 15])
 (.cond (.s 12)
 (.reg [mv 16 0,
 o0 17 (.call 55 [(.s 16), (.c (.int .i64 9))])] [16, 17])
 (.seq (.reg [mv 19 1,
 o0 20 (.slen (.s 19)),
 o0 21 (.bin .gtr (.s 20) (.c (.int .i64 64))),
 mv 18 21] [19, 20, 21])
 (.cond (.s 18)
 (.reg [mv 22 0,
 o0 23 (.call 55 [(.s 22), (.c (.int .i64 6))])] [22, 23])
 (.seq (.reg [mv 4 0,
 mv 5 1,
 o0 6 (.slen (.s 5)),
 o0 7 (.call 31 [(.s 4), (.s 6)])] [4, 5, 6, 7])
 (.reg [mv 8 0,
 mv 9 1,
 o0 10 (.cvb 5 (.s 9)),
 o0 11 (.call 54 [(.s 8), (.s 10)])] [8, 9, 10, 11])))))))⟩

theorem c_Poctet_Writer_Name : compF Tryd.prog 27 = some F_Poctet_Writer_Name := by kernel_rfl
abbrev n_Poctet_Writer_Name : FuncId := 27

def F_names_Encode_3 : IFun :=
⟨7, 2, [],
 (.reg [mv 3 0,
 o0 4 (.fadr 1 (.s 1)),
 o0 5 (.load none (.s 4)),
 o0 6 (.call 29 [(.s 3), (.s 5)])] [3, 4, 5, 6])⟩

theorem c_names_Encode_3 : compF Tryd.prog 28 = some F_names_Encode_3 := by kernel_rfl
abbrev n_names_Encode_3 : FuncId := 28

def F_names_put : IFun :=
⟨25, 2, [],
 (.seq (.reg [mv 6 0,
 mv 7 1,
 o0 8 (.len (.s 7)),
 o0 9 (.call 31 [(.s 6), (.s 8)])] [6, 7, 8, 9])
 (.seq (.reg [mv 10 1,
 o0 11 (.len (.s 10)),
 o0 12 (.mov (.c (.int .i64 0)))] [])
 (.block 0 (.loop (.seq (.reg [o0 13 (.bin .lss (.s 12) (.s 11))] [])
 (.seq (.cond (.s 13)
 .skip
 (.exit 0))
 (.seq (.block 1 (.seq (.reg [o0 14 (.iadr 2 (.s 10) (.s 12)),
 o0 15 (.load (some 2) (.s 14)),
 o0 5 (.new 106 [(.int .i64 0), (.str [])]),
 ⟨none, .store 2 (.s 5) (.s 15), none⟩] [14, 15])
 (.seq (.reg [mv 16 0,
 o0 17 (.fadr 0 (.s 5)),
 o0 18 (.load none (.s 17)),
 o0 19 (.call 31 [(.s 16), (.s 18)])] [16, 17, 18, 19])
 (.reg [mv 20 0,
 o0 21 (.fadr 1 (.s 5)),
 o0 22 (.load none (.s 21)),
 o0 23 (.call 27 [(.s 20), (.s 22)])] [20, 21, 22, 23]))))
 (.reg [o0 24 (.bin .add (.s 12) (.c (.int .i64 1))),
 mv 12 24] [24]))))))))⟩

theorem c_names_put : compF Tryd.prog 29 = some F_names_put := by kernel_rfl
abbrev n_names_put : FuncId := 29

def F_names_Encode_4 : IFun :=
⟨26, 2, [],
 (.seq (.reg [mv 5 0,
 o0 6 (.fadr 2 (.s 1)),
 o0 7 (.load none (.s 6)),
 o0 8 (.len (.s 7)),
 o0 9 (.call 31 [(.s 5), (.s 8)])] [5, 6, 7, 8, 9])
 (.seq (.reg [o0 10 (.fadr 2 (.s 1)),
 o0 11 (.load none (.s 10)),
 o0 12 (.len (.s 11)),
 o0 13 (.mov (.c (.int .i64 0)))] [10])
 (.block 0 (.loop (.seq (.reg [o0 14 (.bin .lss (.s 13) (.s 12))] [])
 (.seq (.cond (.s 14)
 .skip
 (.exit 0))
 (.seq (.block 1 (.seq (.reg [o0 15 (.iadr 2 (.s 11) (.s 13)),
 o0 16 (.load (some 2) (.s 15)),
 o0 4 (.new 59 [(.int .i64 0), .nl]),
 ⟨none, .store 2 (.s 4) (.s 16), none⟩] [15, 16])
 (.seq (.reg [mv 17 0,
 o0 18 (.fadr 0 (.s 4)),
 o0 19 (.load none (.s 18)),
 o0 20 (.call 31 [(.s 17), (.s 19)])] [17, 18, 19, 20])
 (.reg [mv 21 0,
 o0 22 (.fadr 1 (.s 4)),
 o0 23 (.load none (.s 22)),
 o0 24 (.call 29 [(.s 21), (.s 23)])] [21, 22, 23, 24]))))
 (.reg [o0 25 (.bin .add (.s 13) (.c (.int .i64 1))),
 mv 13 25] [25]))))))))⟩

theorem c_names_Encode_4 : compF Tryd.prog 30 = some F_names_Encode_4 := by kernel_rfl
abbrev n_names_Encode_4 : FuncId := 30

def F_Poctet_Writer_U32 : IFun :=
⟨17, 2, [],
 (.seq (.seq (.reg [mv 4 1,
 o0 5 (.bin .lss (.s 4) (.c (.int .i64 0))),
 mv 6 5,
 mf 7 1 6,
 oF 8 6 (.bin .gtr (.s 7) (.c (.int .i64 4294967295))),
 o0 9 (.pick (.s 6) (.c (.bool true)) (.s 8))] [4, 5, 6, 7, 8])
 (.cond (.s 9)
 (.seq (.reg [mv 10 0,
 o0 11 (.call 55 [(.s 10), (.c (.int .i64 1))])] [10, 11])
 .ret)
 .skip))
 (.reg [mv 12 0,
 mv 13 1,
 o0 14 (.cvi .u64 (.s 13)),
 o0 15 (.call 57 [(.c .nl), (.s 14)]),
 o0 16 (.call 54 [(.s 12), (.s 15)])] [12, 13, 14, 15, 16]))⟩

theorem c_Poctet_Writer_U32 : compF Tryd.prog 31 = some F_Poctet_Writer_U32 := by kernel_rfl
abbrev n_Poctet_Writer_U32 : FuncId := 31

def F_Poctet_Writer_Done : IFun :=
⟨29, 1, [.tmp 2, .tmp 3],
 (.seq (.reg [o0 2 (.mov (.c .nl)),
 o0 3 (.mov (.c (.int .i64 0)))] [])
 (.seq (.block 0 (.seq (.reg [mv 5 0,
 o0 6 (.pbin .eql (.s 5) (.c .np)),
 mv 7 6,
 mf 8 0 7,
 oF 9 7 (.nchk (.s 8)),
 oF 10 7 (.fadr 0 (.s 9)),
 oF 11 7 (.load none (.s 10)),
 oF 12 7 (.un .not (.s 11)),
 o0 13 (.pick (.s 7) (.c (.bool true)) (.s 12)),
 mv 4 13] [5, 6, 7, 8, 9, 10, 11, 12, 13])
 (.cond (.s 4)
 (.seq (.reg [o0 2 (.mov (.c .nl)),
 o0 3 (.mov (.c (.int .i64 2)))] [])
 .ret)
 (.seq (.reg [mv 15 0,
 o0 16 (.nchk (.s 15)),
 o0 17 (.fadr 2 (.s 16)),
 o0 18 (.load none (.s 17)),
 o0 19 (.bin .neq (.s 18) (.c (.int .i64 0))),
 mv 14 19] [15, 16, 17, 18, 19])
 (.cond (.s 14)
 (.seq (.seq (.draw [⟨mv 20 0, []⟩,
 ⟨o0 21 (.nchk (.s 20)), [0]⟩,
 ⟨o0 22 (.fadr 2 (.s 21)), [1, 0]⟩,
 ⟨o0 23 (.load none (.s 22)), [2, 1, 0]⟩,
 ⟨o0 2 (.mov (.c .nl)), []⟩] [] [])
 (.reg [mv 3 23] [20, 21, 22, 23]))
 .ret)
 .skip)))))
 (.seq (.reg [mv 24 0,
 o0 25 (.nchk (.s 24)),
 o0 26 (.fadr 1 (.s 25)),
 o0 27 (.load none (.s 26)),
 o0 28 (.app 5 1 (.c .nl) (.s 27)),
 mv 2 28,
 o0 3 (.mov (.c (.int .i64 0)))] [24, 25, 26, 27, 28])
 .ret)))⟩

theorem c_Poctet_Writer_Done : compF Tryd.prog 32 = some F_Poctet_Writer_Done := by kernel_rfl
abbrev n_Poctet_Writer_Done : FuncId := 32

def F_octet_Read : IFun :=
⟨7, 1, [.tmp 2],
 (.seq (.reg [o0 2 (.mov (.c .np))] [])
 (.seq (.reg [mv 3 0,
 o0 4 (.app 5 1 (.c .nl) (.s 3)),
 o0 5 (.build [(.bool false), .nl, (.int .i64 0), (.int .i64 0)] [(0, 1, (.c (.bool true))), (1, 1, (.s 4))]),
 o0 6 (.box 115 4 (.s 5)),
 mv 2 6] [3, 4, 5, 6])
 .ret))⟩

theorem c_octet_Read : compF Tryd.prog 33 = some F_octet_Read := by kernel_rfl
abbrev n_octet_Read : FuncId := 33

def F_Poctet_Reader_Left : IFun :=
⟨16, 1, [.tmp 2],
 (.seq (.reg [o0 2 (.mov (.c (.int .i64 0)))] [])
 (.seq (.seq (.reg [mv 3 0,
 o0 4 (.call 58 [(.s 3)]),
 o0 5 (.un .not (.s 4))] [3, 4])
 (.cond (.s 5)
 (.seq (.reg [o0 2 (.mov (.c (.int .i64 0)))] [])
 .ret)
 .skip))
 (.seq (.seq (.draw [⟨mv 6 0, []⟩,
 ⟨o0 7 (.nchk (.s 6)), [0]⟩,
 ⟨o0 8 (.fadr 1 (.s 7)), [1, 0]⟩,
 ⟨o0 9 (.load none (.s 8)), [2, 1, 0]⟩,
 ⟨o0 10 (.len (.s 9)), [3, 2, 1, 0]⟩,
 ⟨mv 11 0, []⟩,
 ⟨o0 12 (.nchk (.s 11)), [5]⟩,
 ⟨o0 13 (.fadr 2 (.s 12)), [6, 5]⟩,
 ⟨o0 14 (.load none (.s 13)), [7, 6, 5]⟩] [] [])
 (.seq (.reg [o0 15 (.bin .sub (.s 10) (.s 14))] [])
 (.reg [mv 2 15] [6, 7, 8, 9, 10, 11, 12, 13, 14, 15])))
 .ret)))⟩

theorem c_Poctet_Reader_Left : compF Tryd.prog 34 = some F_Poctet_Reader_Left := by kernel_rfl
abbrev n_Poctet_Reader_Left : FuncId := 34

def F_Poctet_Reader_Byte : IFun :=
⟨12, 1, [.tmp 2],
 (.seq (.reg [o0 2 (.mov (.c (.int .u8 0)))] [])
 (.seq (.seq (.reg [mv 4 0,
 o0 5 (.call 59 [(.s 4), (.c (.int .i64 1))]),
 mv 3 5] [4, 5])
 (.seq (.reg [mv 6 3,
 o0 7 (.len (.s 6)),
 o0 8 (.bin .eql (.s 7) (.c (.int .i64 1)))] [6, 7])
 (.cond (.s 8)
 (.seq (.reg [mv 9 3,
 o0 10 (.iadr 1 (.s 9) (.c (.int .i64 0))),
 o0 11 (.load none (.s 10)),
 mv 2 11] [9, 10, 11])
 .ret)
 .skip)))
 (.seq (.reg [o0 2 (.mov (.c (.int .u8 0)))] [])
 .ret)))⟩

theorem c_Poctet_Reader_Byte : compF Tryd.prog 35 = some F_Poctet_Reader_Byte := by kernel_rfl
abbrev n_Poctet_Reader_Byte : FuncId := 35

def F_Poctet_Reader_Sub : IFun :=
⟨25, 2, [.tmp 4],
 (.seq (.reg [o0 4 (.mov (.c .np))] [])
 (.seq (.seq (.reg [mv 6 0,
 o0 7 (.pbin .eql (.s 6) (.c .np)),
 mv 8 7,
 mf 9 0 8,
 oF 10 8 (.nchk (.s 9)),
 oF 11 8 (.fadr 0 (.s 10)),
 oF 12 8 (.load none (.s 11)),
 oF 13 8 (.un .not (.s 12)),
 o0 14 (.pick (.s 8) (.c (.bool true)) (.s 13))] [6, 7, 8, 9, 10, 11, 12, 13])
 (.cond (.s 14)
 (.seq (.reg [o0 4 (.mov (.c .np))] [])
 .ret)
 .skip))
 (.seq (.reg [mv 15 0,
 mv 16 1,
 o0 17 (.call 59 [(.s 15), (.s 16)]),
 mv 5 17] [15, 16, 17])
 (.seq (.reg [mv 18 5,
 mv 19 0,
 o0 20 (.nchk (.s 19)),
 o0 21 (.fadr 3 (.s 20)),
 o0 22 (.load none (.s 21)),
 o0 23 (.build [(.bool false), .nl, (.int .i64 0), (.int .i64 0)] [(0, 1, (.c (.bool true))), (1, 1, (.s 18)), (3, 1, (.s 22))]),
 o0 24 (.box 115 4 (.s 23)),
 mv 4 24] [18, 19, 20, 21, 22, 23, 24])
 .ret))))⟩

theorem c_Poctet_Reader_Sub : compF Tryd.prog 36 = some F_Poctet_Reader_Sub := by kernel_rfl
abbrev n_Poctet_Reader_Sub : FuncId := 36

def F_Poctet_Reader_U32 : IFun :=
⟨6, 1, [.tmp 2],
 (.seq (.reg [o0 2 (.mov (.c (.int .i64 0)))] [])
 (.seq (.reg [mv 3 0,
 o0 4 (.call 60 [(.s 3), (.c (.int .i64 32))]),
 o0 5 (.cvi .i64 (.s 4)),
 mv 2 5] [3, 4, 5])
 .ret))⟩

theorem c_Poctet_Reader_U32 : compF Tryd.prog 37 = some F_Poctet_Reader_U32 := by kernel_rfl
abbrev n_Poctet_Reader_U32 : FuncId := 37

def F_Poctet_Reader_Name : IFun :=
⟨39, 1, [.tmp 2],
 (.seq (.reg [o0 2 (.mov (.c (.str [])))] [])
 (.seq (.seq (.reg [mv 5 0,
 o0 6 (.call 58 [(.s 5)]),
 o0 7 (.un .not (.s 6))] [5, 6])
 (.cond (.s 7)
 (.seq (.reg [o0 2 (.mov (.c (.str [])))] [])
 .ret)
 .skip))
 (.seq (.reg [mv 8 0,
 o0 9 (.nchk (.s 8)),
 o0 10 (.fadr 2 (.s 9)),
 o0 11 (.load none (.s 10)),
 mv 3 11] [8, 9, 10, 11])
 (.seq (.reg [mv 12 0,
 mv 13 0,
 o0 14 (.call 61 [(.s 13), (.c (.int .i64 64))]),
 o0 15 (.call 59 [(.s 12), (.s 14)]),
 o0 16 (.cvs (.s 15)),
 mv 4 16] [12, 13, 14, 15, 16])
 (.seq (.seq (.reg [mv 17 0,
 o0 18 (.nchk (.s 17)),
 o0 19 (.fadr 3 (.s 18)),
 o0 20 (.load none (.s 19)),
 o0 21 (.bin .eql (.s 20) (.c (.int .i64 0))),
 mv 22 21,
 mt 23 4 22,
 ot 24 22 (.call 56 [(.s 23)]),
 ot 25 22 (.un .not (.s 24)),
 o0 26 (.pick (.s 22) (.s 25) (.c (.bool false)))] [17, 18, 19, 20, 21, 22, 23, 24, 25])
 (.cond (.s 26)
 (.reg [mv 27 0,
 o0 28 (.call 62 [(.s 27), (.c (.int .i64 9))])] [27, 28])
 .skip))
 (.seq (.seq (.reg [mv 29 0,
 o0 30 (.nchk (.s 29)),
 o0 31 (.fadr 3 (.s 30)),
 o0 32 (.load none (.s 31)),
 o0 33 (.bin .neq (.s 32) (.c (.int .i64 0)))] [29, 30, 31, 32])
 (.cond (.s 33)
 (.seq (.reg [mv 34 0,
 mv 35 3,
 o0 36 (.nchk (.s 34)),
 o0 37 (.fadr 2 (.s 36)),
 ⟨none, .store 1 (.s 37) (.s 35), none⟩] [34, 35, 36, 37])
 (.seq (.reg [o0 2 (.mov (.c (.str [])))] [])
 .ret))
 .skip))
 (.seq (.reg [mv 38 4,
 mv 2 38] [38])
 .ret)))))))⟩

theorem c_Poctet_Reader_Name : compF Tryd.prog 38 = some F_Poctet_Reader_Name := by kernel_rfl
abbrev n_Poctet_Reader_Name : FuncId := 38

def F_names_get : IFun :=
⟨48, 2, [.tmp 4],
 (.seq (.reg [o0 4 (.mov (.c .nl))] [])
 (.seq (.reg [o0 5 (.mov (.c .nl))] [])
 (.seq (.seq (.reg [mv 8 0,
 mv 9 1,
 o0 10 (.call 61 [(.s 8), (.s 9)]),
 mv 6 10] [8, 9, 10])
 (.block 0 (.loop (.seq (.seq (.reg [mv 11 6,
 o0 12 (.bin .gtr (.s 11) (.c (.int .i64 0))),
 mv 13 12,
 mt 14 0 13,
 ot 15 13 (.call 63 [(.s 14)]),
 ot 16 13 (.bin .eql (.s 15) (.c (.int .i64 0))),
 o0 17 (.pick (.s 13) (.s 16) (.c (.bool false)))] [11, 12, 13, 14, 15, 16])
 (.cond (.s 17)
 .skip
 (.exit 0)))
 (.seq (.block 1 (.seq (.reg [mv 20 0,
 o0 21 (.call 37 [(.s 20)]),
 o0 22 (.build [(.int .i64 0), (.str [])] [(0, 1, (.s 21))]),
 o0 7 (.new 106 [(.int .i64 0), (.str [])]),
 ⟨none, .store 2 (.s 7) (.s 22), none⟩] [20, 21, 22])
 (.seq (.reg [mv 23 0,
 o0 24 (.call 38 [(.s 23)]),
 o0 25 (.fadr 1 (.s 7)),
 ⟨none, .store 1 (.s 25) (.s 24), none⟩] [23, 24, 25])
 (.seq (.seq (.seq (.reg [mv 26 5] [])
 (.seq (.reg [o0 27 (.len (.s 26))] [])
 (.seq (.reg [o0 28 (.bin .gtr (.s 27) (.c (.int .i64 0)))] [])
 (.seq (.reg [mv 29 28] [])
 (.seq (.draw [⟨ot 30 29 (.fadr 0 (.s 7)), []⟩,
 ⟨ot 31 29 (.load none (.s 30)), [0]⟩,
 ⟨mt 32 5 29, []⟩,
 ⟨mt 33 5 29, []⟩,
 ⟨ot 34 29 (.len (.s 33)), [3]⟩,
 ⟨ot 35 29 (.bin .sub (.s 34) (.c (.int .i64 1))), [4, 3]⟩,
 ⟨ot 36 29 (.iadr 2 (.s 32) (.s 35)), [2, 5, 4, 3]⟩,
 ⟨ot 37 29 (.fadr 0 (.s 36)), [6, 2, 5, 4, 3]⟩,
 ⟨ot 38 29 (.load none (.s 37)), [7, 6, 2, 5, 4, 3]⟩] [] [])
 (.seq (.reg [ot 39 29 (.bin .leq (.s 31) (.s 38))] [])
 (.reg [o0 40 (.pick (.s 29) (.s 39) (.c (.bool false)))] [26, 27, 28, 29, 30, 31, 32, 33, 34, 35, 36, 37, 38, 39])))))))
 (.cond (.s 40)
 (.reg [mv 41 0,
 o0 42 (.call 62 [(.s 41), (.c (.int .i64 7))])] [41, 42])
 .skip))
 (.reg [mv 43 5,
 o0 44 (.load (some 2) (.s 7)),
 o0 45 (.bsl 106 2 [[(.int .i64 0), (.str [])]] [(0, (.s 44))]),
 o0 46 (.app 106 2 (.s 43) (.s 45)),
 mv 5 46] [43, 44, 45, 46])))))
 (.reg [mv 18 6,
 o0 19 (.bin .sub (.s 18) (.c (.int .i64 1))),
 mv 6 19] [18, 19]))))))
 (.seq (.reg [mv 47 5,
 mv 4 47] [47])
 .ret))))⟩

theorem c_names_get : compF Tryd.prog 39 = some F_names_get := by kernel_rfl
abbrev n_names_get : FuncId := 39

def F_names_locals : IFun :=
⟨45, 1, [.tmp 2],
 (.seq (.reg [o0 2 (.mov (.c .nl))] [])
 (.seq (.reg [o0 3 (.mov (.c .nl))] [])
 (.seq (.seq (.reg [mv 6 0,
 o0 7 (.call 61 [(.s 6), (.c (.int .i64 64))]),
 mv 4 7] [6, 7])
 (.block 0 (.loop (.seq (.seq (.reg [mv 8 4,
 o0 9 (.bin .gtr (.s 8) (.c (.int .i64 0))),
 mv 10 9,
 mt 11 0 10,
 ot 12 10 (.call 63 [(.s 11)]),
 ot 13 10 (.bin .eql (.s 12) (.c (.int .i64 0))),
 o0 14 (.pick (.s 10) (.s 13) (.c (.bool false)))] [8, 9, 10, 11, 12, 13])
 (.cond (.s 14)
 .skip
 (.exit 0)))
 (.seq (.block 1 (.seq (.reg [mv 17 0,
 o0 18 (.call 37 [(.s 17)]),
 o0 19 (.build [(.int .i64 0), .nl] [(0, 1, (.s 18))]),
 o0 5 (.new 59 [(.int .i64 0), .nl]),
 ⟨none, .store 2 (.s 5) (.s 19), none⟩] [17, 18, 19])
 (.seq (.seq (.seq (.reg [mv 20 3] [])
 (.seq (.reg [o0 21 (.len (.s 20))] [])
 (.seq (.reg [o0 22 (.bin .gtr (.s 21) (.c (.int .i64 0)))] [])
 (.seq (.reg [mv 23 22] [])
 (.seq (.draw [⟨ot 24 23 (.fadr 0 (.s 5)), []⟩,
 ⟨ot 25 23 (.load none (.s 24)), [0]⟩,
 ⟨mt 26 3 23, []⟩,
 ⟨mt 27 3 23, []⟩,
 ⟨ot 28 23 (.len (.s 27)), [3]⟩,
 ⟨ot 29 23 (.bin .sub (.s 28) (.c (.int .i64 1))), [4, 3]⟩,
 ⟨ot 30 23 (.iadr 2 (.s 26) (.s 29)), [2, 5, 4, 3]⟩,
 ⟨ot 31 23 (.fadr 0 (.s 30)), [6, 2, 5, 4, 3]⟩,
 ⟨ot 32 23 (.load none (.s 31)), [7, 6, 2, 5, 4, 3]⟩] [] [])
 (.seq (.reg [ot 33 23 (.bin .leq (.s 25) (.s 32))] [])
 (.reg [o0 34 (.pick (.s 23) (.s 33) (.c (.bool false)))] [20, 21, 22, 23, 24, 25, 26, 27, 28, 29, 30, 31, 32, 33])))))))
 (.cond (.s 34)
 (.reg [mv 35 0,
 o0 36 (.call 62 [(.s 35), (.c (.int .i64 7))])] [35, 36])
 .skip))
 (.seq (.reg [mv 37 0,
 o0 38 (.call 39 [(.s 37), (.c (.int .i64 72))]),
 o0 39 (.fadr 1 (.s 5)),
 ⟨none, .store 1 (.s 39) (.s 38), none⟩] [37, 38, 39])
 (.reg [mv 40 3,
 o0 41 (.load (some 2) (.s 5)),
 o0 42 (.bsl 59 2 [[(.int .i64 0), .nl]] [(0, (.s 41))]),
 o0 43 (.app 59 2 (.s 40) (.s 42)),
 mv 3 43] [40, 41, 42, 43])))))
 (.reg [mv 15 4,
 o0 16 (.bin .sub (.s 15) (.c (.int .i64 1))),
 mv 4 16] [15, 16]))))))
 (.seq (.reg [mv 44 3,
 mv 2 44] [44])
 .ret))))⟩

theorem c_names_locals : compF Tryd.prog 40 = some F_names_locals := by kernel_rfl
abbrev n_names_locals : FuncId := 40

def F_Poctet_Reader_End : IFun :=
⟨21, 1, [.tmp 2],
 (.seq (.reg [o0 2 (.mov (.c (.int .i64 0)))] [])
 (.seq (.seq (.reg [mv 4 0,
 o0 5 (.call 63 [(.s 4)]),
 mv 3 5] [4, 5])
 (.seq (.seq (.reg [mv 6 3] [])
 (.seq (.reg [o0 7 (.bin .neq (.s 6) (.c (.int .i64 0)))] [])
 (.seq (.reg [mv 8 7] [])
 (.seq (.draw [⟨mf 9 0 8, []⟩,
 ⟨oF 10 8 (.nchk (.s 9)), [0]⟩,
 ⟨oF 11 8 (.fadr 2 (.s 10)), [1, 0]⟩,
 ⟨oF 12 8 (.load none (.s 11)), [2, 1, 0]⟩,
 ⟨mf 13 0 8, []⟩,
 ⟨oF 14 8 (.nchk (.s 13)), [4]⟩,
 ⟨oF 15 8 (.fadr 1 (.s 14)), [5, 4]⟩,
 ⟨oF 16 8 (.load none (.s 15)), [6, 5, 4]⟩,
 ⟨oF 17 8 (.len (.s 16)), [7, 6, 5, 4]⟩] [] [])
 (.seq (.reg [oF 18 8 (.bin .eql (.s 12) (.s 17))] [])
 (.reg [o0 19 (.pick (.s 8) (.c (.bool true)) (.s 18))] [6, 7, 8, 9, 10, 11, 12, 13, 14, 15, 16, 17, 18]))))))
 (.cond (.s 19)
 (.seq (.reg [mv 20 3,
 mv 2 20] [20])
 .ret)
 .skip)))
 (.seq (.reg [o0 2 (.mov (.c (.int .i64 5)))] [])
 .ret)))⟩

theorem c_Poctet_Reader_End : compF Tryd.prog 41 = some F_Poctet_Reader_End := by kernel_rfl
abbrev n_Poctet_Reader_End : FuncId := 41

def F_ref07_names : IFun :=
⟨26, 2, [.tmp 4],
 (.seq (.reg [o0 4 (.mov (.c (.bool false)))] [])
 (.seq (.seq (.reg [mv 6 0,
 o0 7 (.len (.s 6)),
 mv 8 1,
 o0 9 (.len (.s 8)),
 o0 10 (.bin .neq (.s 7) (.s 9))] [6, 7, 8, 9])
 (.cond (.s 10)
 (.seq (.reg [o0 4 (.mov (.c (.bool false)))] [])
 .ret)
 .skip))
 (.seq (.seq (.reg [o0 5 (.mov (.c (.int .i64 0)))] [])
 (.block 0 (.loop (.seq (.seq (.reg [mv 11 5,
 mv 12 0,
 o0 13 (.len (.s 12)),
 o0 14 (.bin .lss (.s 11) (.s 13))] [11, 12, 13])
 (.cond (.s 14)
 .skip
 (.exit 0)))
 (.seq (.block 1 (.seq (.seq (.draw [⟨mv 17 0, []⟩,
 ⟨mv 18 5, []⟩,
 ⟨o0 19 (.iadr 2 (.s 17) (.s 18)), [0, 1]⟩,
 ⟨o0 20 (.load (some 2) (.s 19)), [2, 0, 1]⟩,
 ⟨mv 21 1, []⟩,
 ⟨mv 22 5, []⟩,
 ⟨o0 23 (.iadr 2 (.s 21) (.s 22)), [4, 5]⟩,
 ⟨o0 24 (.load (some 2) (.s 23)), [6, 4, 5]⟩] [] [])
 (.reg [o0 25 (.sbin .neq [.i, .s] (.s 20) (.s 24))] [17, 18, 19, 20, 21, 22, 23, 24]))
 (.cond (.s 25)
 (.seq (.reg [o0 4 (.mov (.c (.bool false)))] [])
 .ret)
 .skip)))
 (.reg [mv 15 5,
 o0 16 (.bin .add (.s 15) (.c (.int .i64 1))),
 mv 5 16] [15, 16]))))))
 (.seq (.reg [o0 4 (.mov (.c (.bool true)))] [])
 .ret))))⟩

theorem c_ref07_names : compF Tryd.prog 42 = some F_ref07_names := by kernel_rfl
abbrev n_ref07_names : FuncId := 42

def F_mods_Copy : IFun :=
⟨44, 1, [.cell 2 (some 12)],
 (.seq (.reg [o0 1 (.box 42 12 (.s 0)),
 o0 2 (.new 42 [.nl, .nl, .nl, .nl, .nl, .nl, .nl, (.bool false), (.int .i64 0), .nl, .nl, .nl])] [])
 (.seq (.reg [o0 3 (.fadr 0 (.s 1)),
 o0 4 (.load none (.s 3)),
 o0 5 (.call 64 [(.s 4), (.c (.fn 65 []))]),
 o0 6 (.fadr 0 (.s 1)),
 ⟨none, .store 1 (.s 6) (.s 5), none⟩] [3, 4, 5, 6])
 (.seq (.seq (.draw [⟨o0 7 (.fadr 1 (.s 1)), []⟩,
 ⟨o0 8 (.load none (.s 7)), [0]⟩,
 ⟨o0 9 (.call 67 [(.s 8)]), [1, 0]⟩,
 ⟨o0 10 (.fadr 3 (.s 1)), []⟩,
 ⟨o0 11 (.load none (.s 10)), [3]⟩,
 ⟨o0 12 (.call 68 [(.s 11)]), [4, 3, 2, 1, 0]⟩,
 ⟨o0 13 (.fadr 4 (.s 1)), []⟩,
 ⟨o0 14 (.load none (.s 13)), [6]⟩,
 ⟨o0 15 (.call 69 [(.s 14)]), [7, 6, 5, 4, 3, 2, 1, 0]⟩,
 ⟨o0 16 (.fadr 6 (.s 1)), []⟩,
 ⟨o0 17 (.load none (.s 16)), [9]⟩,
 ⟨o0 18 (.call 70 [(.s 17)]), [10, 9, 8, 7, 6, 5, 4, 3, 2, 1, 0]⟩,
 ⟨o0 19 (.fadr 1 (.s 1)), [0, 1, 2, 3, 4, 6, 7, 9, 10]⟩] [] [])
 (.seq (.reg [⟨none, .store 1 (.s 19) (.s 9), none⟩] [])
 (.seq (.reg [o0 20 (.fadr 3 (.s 1))] [])
 (.seq (.reg [⟨none, .store 1 (.s 20) (.s 12), none⟩] [])
 (.seq (.reg [o0 21 (.fadr 4 (.s 1))] [])
 (.seq (.reg [⟨none, .store 1 (.s 21) (.s 15), none⟩] [])
 (.seq (.reg [o0 22 (.fadr 6 (.s 1))] [])
 (.reg [⟨none, .store 1 (.s 22) (.s 18), none⟩] [7, 8, 9, 10, 11, 12, 13, 14, 15, 16, 17, 18, 19, 20, 21, 22]))))))))
 (.seq (.reg [o0 23 (.fadr 2 (.s 1)),
 o0 24 (.load none (.s 23)),
 o0 25 (.call 71 [(.s 24), (.c (.fn 72 []))]),
 o0 26 (.fadr 2 (.s 1)),
 ⟨none, .store 1 (.s 26) (.s 25), none⟩] [23, 24, 25, 26])
 (.seq (.reg [o0 27 (.fadr 5 (.s 1)),
 o0 28 (.load none (.s 27)),
 o0 29 (.call 74 [(.s 28), (.c (.fn 75 []))]),
 o0 30 (.fadr 5 (.s 1)),
 ⟨none, .store 1 (.s 30) (.s 29), none⟩] [27, 28, 29, 30])
 (.seq (.reg [o0 31 (.fadr 9 (.s 1)),
 o0 32 (.load none (.s 31)),
 o0 33 (.call 76 [(.s 32), (.c (.fn 77 []))]),
 o0 34 (.fadr 9 (.s 1)),
 ⟨none, .store 1 (.s 34) (.s 33), none⟩] [31, 32, 33, 34])
 (.seq (.reg [o0 35 (.fadr 10 (.s 1)),
 o0 36 (.load none (.s 35)),
 o0 37 (.call 79 [(.s 36), (.c (.fn 80 []))]),
 o0 38 (.fadr 10 (.s 1)),
 ⟨none, .store 1 (.s 38) (.s 37), none⟩] [35, 36, 37, 38])
 (.seq (.reg [o0 39 (.fadr 11 (.s 1)),
 o0 40 (.load none (.s 39)),
 o0 41 (.call 82 [(.s 40), (.c (.fn 83 []))]),
 o0 42 (.fadr 11 (.s 1)),
 ⟨none, .store 1 (.s 42) (.s 41), none⟩] [39, 40, 41, 42])
 (.seq (.reg [o0 43 (.load (some 12) (.s 1)),
 ⟨none, .store 12 (.s 2) (.s 43), none⟩] [43])
 .ret)))))))))⟩

theorem c_mods_Copy : compF Tryd.prog 43 = some F_mods_Copy := by kernel_rfl
abbrev n_mods_Copy : FuncId := 43

def F_names_last : IFun :=
⟨64, 1, [.tmp 2],
 (.seq (.reg [o0 1 (.box 42 12 (.s 0)),
 o0 2 (.mov (.c (.int .i64 0)))] [])
 (.seq (.seq (.reg [o0 5 (.fadr 10 (.s 1)),
 o0 6 (.load none (.s 5)),
 o0 7 (.len (.s 6)),
 o0 8 (.bin .gtr (.s 7) (.c (.int .i64 0))),
 o0 9 (.build [(.bool false), (.int .i64 0)] [(0, 1, (.s 8)), (1, 1, (.c (.int .i64 12)))]),
 o0 10 (.fadr 2 (.s 1)),
 o0 11 (.load none (.s 10)),
 o0 12 (.len (.s 11)),
 o0 13 (.bin .gtr (.s 12) (.c (.int .i64 0))),
 o0 14 (.build [(.bool false), (.int .i64 0)] [(0, 1, (.s 13)), (1, 1, (.c (.int .i64 11)))]),
 o0 15 (.fadr 9 (.s 1)),
 o0 16 (.load none (.s 15)),
 o0 17 (.len (.s 16)),
 o0 18 (.bin .gtr (.s 17) (.c (.int .i64 0))),
 o0 19 (.build [(.bool false), (.int .i64 0)] [(0, 1, (.s 18)), (1, 1, (.c (.int .i64 9)))]),
 o0 20 (.fadr 7 (.s 1)),
 o0 21 (.load none (.s 20)),
 o0 22 (.build [(.bool false), (.int .i64 0)] [(0, 1, (.s 21)), (1, 1, (.c (.int .i64 8)))]),
 o0 23 (.fadr 6 (.s 1)),
 o0 24 (.load none (.s 23)),
 o0 25 (.len (.s 24)),
 o0 26 (.bin .gtr (.s 25) (.c (.int .i64 0))),
 o0 27 (.build [(.bool false), (.int .i64 0)] [(0, 1, (.s 26)), (1, 1, (.c (.int .i64 7)))]),
 o0 28 (.fadr 5 (.s 1)),
 o0 29 (.load none (.s 28)),
 o0 30 (.len (.s 29)),
 o0 31 (.bin .gtr (.s 30) (.c (.int .i64 0))),
 o0 32 (.build [(.bool false), (.int .i64 0)] [(0, 1, (.s 31)), (1, 1, (.c (.int .i64 6)))]),
 o0 33 (.fadr 4 (.s 1)),
 o0 34 (.load none (.s 33)),
 o0 35 (.len (.s 34)),
 o0 36 (.bin .gtr (.s 35) (.c (.int .i64 0))),
 o0 37 (.build [(.bool false), (.int .i64 0)] [(0, 1, (.s 36)), (1, 1, (.c (.int .i64 5)))]),
 o0 38 (.fadr 3 (.s 1)),
 o0 39 (.load none (.s 38)),
 o0 40 (.len (.s 39)),
 o0 41 (.bin .gtr (.s 40) (.c (.int .i64 0))),
 o0 42 (.build [(.bool false), (.int .i64 0)] [(0, 1, (.s 41)), (1, 1, (.c (.int .i64 4)))]),
 o0 43 (.fadr 1 (.s 1)),
 o0 44 (.load none (.s 43)),
 o0 45 (.len (.s 44)),
 o0 46 (.bin .gtr (.s 45) (.c (.int .i64 0))),
 o0 47 (.build [(.bool false), (.int .i64 0)] [(0, 1, (.s 46)), (1, 1, (.c (.int .i64 2)))]),
 o0 48 (.fadr 0 (.s 1)),
 o0 49 (.load none (.s 48)),
 o0 50 (.len (.s 49)),
 o0 51 (.bin .gtr (.s 50) (.c (.int .i64 0))),
 o0 52 (.build [(.bool false), (.int .i64 0)] [(0, 1, (.s 51)), (1, 1, (.c (.int .i64 1)))]),
 o0 53 (.bsl 159 2 [[(.bool false), (.int .i64 0)], [(.bool false), (.int .i64 0)], [(.bool false), (.int .i64 0)], [(.bool false), (.int .i64 0)], [(.bool false), (.int .i64 0)], [(.bool false), (.int .i64 0)], [(.bool false), (.int .i64 0)], [(.bool false), (.int .i64 0)], [(.bool false), (.int .i64 0)], [(.bool false), (.int .i64 0)]] [(0, (.s 9)), (1, (.s 14)), (2, (.s 19)), (3, (.s 22)), (4, (.s 27)), (5, (.s 32)), (6, (.s 37)), (7, (.s 42)), (8, (.s 47)), (9, (.s 52))]),
 o0 54 (.len (.s 53)),
 o0 55 (.mov (.c (.int .i64 0)))] [5, 6, 7, 8, 9, 10, 11, 12, 13, 14, 15, 16, 17, 18, 19, 20, 21, 22, 23, 24, 25, 26, 27, 28, 29, 30, 31, 32, 33, 34, 35, 36, 37, 38, 39, 40, 41, 42, 43, 44, 45, 46, 47, 48, 49, 50, 51, 52])
 (.block 0 (.loop (.seq (.reg [o0 56 (.bin .lss (.s 55) (.s 54))] [])
 (.seq (.cond (.s 56)
 .skip
 (.exit 0))
 (.seq (.block 1 (.seq (.reg [o0 57 (.iadr 2 (.s 53) (.s 55)),
 o0 58 (.load (some 2) (.s 57)),
 o0 4 (.new 159 [(.bool false), (.int .i64 0)]),
 ⟨none, .store 2 (.s 4) (.s 58), none⟩] [57, 58])
 (.seq (.reg [o0 59 (.fadr 0 (.s 4)),
 o0 60 (.load none (.s 59))] [59])
 (.cond (.s 60)
 (.seq (.reg [o0 61 (.fadr 1 (.s 4)),
 o0 62 (.load none (.s 61)),
 mv 2 62] [61, 62])
 .ret)
 .skip))))
 (.reg [o0 63 (.bin .add (.s 55) (.c (.int .i64 1))),
 mv 55 63] [63])))))))
 (.seq (.reg [o0 2 (.mov (.c (.int .i64 0)))] [])
 .ret)))⟩

theorem c_names_last : compF Tryd.prog 44 = some F_names_last := by kernel_rfl
abbrev n_names_last : FuncId := 44

def F_names_text : IFun :=
⟨11, 1, [.tmp 2],
 (.seq (.reg [o0 2 (.mov (.c (.int .i64 0)))] [])
 (.seq (.block 0 (.seq (.reg [mv 4 0,
 o0 5 (.call 84 [(.s 4)]),
 o0 6 (.un .not (.s 5)),
 mv 3 6] [4, 5, 6])
 (.cond (.s 3)
 (.seq (.reg [o0 2 (.mov (.c (.int .i64 9)))] [])
 .ret)
 (.seq (.reg [mv 8 0,
 o0 9 (.slen (.s 8)),
 o0 10 (.bin .gtr (.s 9) (.c (.int .i64 64))),
 mv 7 10] [8, 9, 10])
 (.cond (.s 7)
 (.seq (.reg [o0 2 (.mov (.c (.int .i64 6)))] [])
 .ret)
 .skip)))))
 (.seq (.reg [o0 2 (.mov (.c (.int .i64 0)))] [])
 .ret)))⟩

theorem c_names_text : compF Tryd.prog 45 = some F_names_text := by kernel_rfl
abbrev n_names_text : FuncId := 45

def F_names_texts : IFun :=
⟨25, 2, [.tmp 4],
 (.seq (.reg [o0 4 (.mov (.c (.int .i64 0)))] [])
 (.seq (.seq (.reg [mv 8 0,
 o0 9 (.len (.s 8)),
 mv 10 1,
 o0 11 (.bin .gtr (.s 9) (.s 10))] [8, 9, 10])
 (.cond (.s 11)
 (.seq (.reg [o0 4 (.mov (.c (.int .i64 6)))] [])
 .ret)
 .skip))
 (.seq (.seq (.reg [mv 12 0,
 o0 13 (.len (.s 12)),
 o0 14 (.mov (.c (.int .i64 0)))] [])
 (.block 0 (.loop (.seq (.reg [o0 15 (.bin .lss (.s 14) (.s 13))] [])
 (.seq (.cond (.s 15)
 .skip
 (.exit 0))
 (.seq (.block 1 (.seq (.reg [o0 16 (.iadr 2 (.s 12) (.s 14)),
 o0 17 (.load (some 2) (.s 16)),
 o0 6 (.new 106 [(.int .i64 0), (.str [])]),
 ⟨none, .store 2 (.s 6) (.s 17), none⟩] [16, 17])
 (.seq (.reg [o0 18 (.fadr 1 (.s 6)),
 o0 19 (.load none (.s 18)),
 o0 20 (.call 45 [(.s 19)]),
 mv 7 20] [18, 19, 20])
 (.seq (.reg [mv 21 7,
 o0 22 (.bin .neq (.s 21) (.c (.int .i64 0)))] [21])
 (.cond (.s 22)
 (.seq (.reg [mv 23 7,
 mv 4 23] [23])
 .ret)
 .skip)))))
 (.reg [o0 24 (.bin .add (.s 14) (.c (.int .i64 1))),
 mv 14 24] [24])))))))
 (.seq (.reg [o0 4 (.mov (.c (.int .i64 0)))] [])
 .ret))))⟩

theorem c_names_texts : compF Tryd.prog 46 = some F_names_texts := by kernel_rfl
abbrev n_names_texts : FuncId := 46

def F_names_all : IFun :=
⟨42, 1, [.tmp 2],
 (.seq (.reg [o0 1 (.box 25 3 (.s 0)),
 o0 2 (.mov (.c .nl))] [])
 (.seq (.reg [o0 3 (.mov (.c .nl))] [])
 (.seq (.seq (.reg [o0 9 (.fadr 2 (.s 1)),
 o0 10 (.load none (.s 9)),
 o0 11 (.len (.s 10)),
 o0 12 (.mov (.c (.int .i64 0)))] [9])
 (.block 0 (.loop (.seq (.reg [o0 13 (.bin .lss (.s 12) (.s 11))] [])
 (.seq (.cond (.s 13)
 .skip
 (.exit 0))
 (.seq (.block 1 (.seq (.reg [o0 14 (.iadr 2 (.s 10) (.s 12)),
 o0 15 (.load (some 2) (.s 14)),
 o0 5 (.new 59 [(.int .i64 0), .nl]),
 ⟨none, .store 2 (.s 5) (.s 15), none⟩] [14, 15])
 (.reg [mv 16 3,
 o0 17 (.fadr 0 (.s 5)),
 o0 18 (.load none (.s 17)),
 o0 19 (.bsl 3 1 [[(.int .i64 0)]] [(0, (.s 18))]),
 o0 20 (.app 3 1 (.s 16) (.s 19)),
 mv 3 20] [16, 17, 18, 19, 20])))
 (.reg [o0 21 (.bin .add (.s 12) (.c (.int .i64 1))),
 mv 12 21] [21])))))))
 (.seq (.reg [o0 22 (.fadr 1 (.s 1)),
 o0 23 (.load none (.s 22)),
 o0 24 (.call 85 [(.s 23)]),
 mv 25 3,
 o0 26 (.bsl 93 1 [[.nl], [.nl]] [(0, (.s 24)), (1, (.s 25))]),
 mv 6 26] [22, 23, 24, 25, 26])
 (.seq (.seq (.reg [o0 27 (.fadr 2 (.s 1)),
 o0 28 (.load none (.s 27)),
 o0 29 (.len (.s 28)),
 o0 30 (.mov (.c (.int .i64 0)))] [27])
 (.block 2 (.loop (.seq (.reg [o0 31 (.bin .lss (.s 30) (.s 29))] [])
 (.seq (.cond (.s 31)
 .skip
 (.exit 2))
 (.seq (.block 3 (.seq (.reg [o0 32 (.iadr 2 (.s 28) (.s 30)),
 o0 33 (.load (some 2) (.s 32)),
 o0 8 (.new 59 [(.int .i64 0), .nl]),
 ⟨none, .store 2 (.s 8) (.s 33), none⟩] [32, 33])
 (.reg [mv 34 6,
 o0 35 (.fadr 1 (.s 8)),
 o0 36 (.load none (.s 35)),
 o0 37 (.call 85 [(.s 36)]),
 o0 38 (.bsl 93 1 [[.nl]] [(0, (.s 37))]),
 o0 39 (.app 93 1 (.s 34) (.s 38)),
 mv 6 39] [34, 35, 36, 37, 38, 39])))
 (.reg [o0 40 (.bin .add (.s 30) (.c (.int .i64 1))),
 mv 30 40] [40])))))))
 (.seq (.reg [mv 41 6,
 mv 2 41] [41])
 .ret))))))⟩

theorem c_names_all : compF Tryd.prog 47 = some F_names_all := by kernel_rfl
abbrev n_names_all : FuncId := 47

def F_Poctet_Writer_Bytes : IFun :=
⟨15, 2, [],
 (.seq (.reg [mv 4 0,
 o0 5 (.call 92 [(.s 4)])] [4])
 (.cond (.s 5)
 (.reg [mv 6 0,
 mv 7 0,
 o0 8 (.nchk (.s 7)),
 o0 9 (.fadr 1 (.s 8)),
 o0 10 (.load none (.s 9)),
 mv 11 1,
 o0 12 (.app 5 1 (.s 10) (.s 11)),
 o0 13 (.nchk (.s 6)),
 o0 14 (.fadr 1 (.s 13)),
 ⟨none, .store 1 (.s 14) (.s 12), none⟩] [6, 7, 8, 9, 10, 11, 12, 13, 14])
 .skip))⟩

theorem c_Poctet_Writer_Bytes : compF Tryd.prog 54 = some F_Poctet_Writer_Bytes := by kernel_rfl
abbrev n_Poctet_Writer_Bytes : FuncId := 54

def F_Poctet_Writer_Fail : IFun :=
⟨10, 2, [],
 (.seq (.reg [mv 4 0,
 o0 5 (.call 92 [(.s 4)])] [4])
 (.cond (.s 5)
 (.reg [mv 6 0,
 mv 7 1,
 o0 8 (.nchk (.s 6)),
 o0 9 (.fadr 2 (.s 8)),
 ⟨none, .store 1 (.s 9) (.s 7), none⟩] [6, 7, 8, 9])
 .skip))⟩

theorem c_Poctet_Writer_Fail : compF Tryd.prog 55 = some F_Poctet_Writer_Fail := by kernel_rfl
abbrev n_Poctet_Writer_Fail : FuncId := 55

def F_utf8_ValidString : IFun :=
⟨169, 1, [.tmp 2],
 (.seq (.reg [o0 2 (.mov (.c (.bool false)))] [])
 (.seq (.block 0 (.loop (.seq (.seq (.reg [mv 7 0,
 o0 8 (.slen (.s 7)),
 o0 9 (.bin .gtr (.s 8) (.c (.int .i64 0)))] [7, 8])
 (.cond (.s 9)
 .skip
 (.exit 0)))
 (.block 1 (.seq (.reg [mv 10 0,
 o0 11 (.sidx (.s 10) (.c (.int .i64 0))),
 mv 3 11] [10, 11])
 (.seq (.seq (.reg [mv 12 3,
 o0 13 (.bin .lss (.s 12) (.c (.int .u8 128)))] [12])
 (.cond (.s 13)
 (.seq (.reg [mv 14 0,
 o0 15 (.sslc (.s 14) (some (.c (.int .i64 1))) none),
 mv 0 15] [14, 15])
 (.seq (.seq (.reg [mv 16 0,
 o0 17 (.slen (.s 16)),
 o0 18 (.bin .gtr (.s 17) (.c (.int .i64 8))),
 mv 19 18,
 mt 20 0 19,
 ot 21 19 (.call 93 [(.s 20)]),
 ot 22 19 (.bin .and (.s 21) (.c (.int .u64 9259542123273814144))),
 ot 23 19 (.bin .eql (.s 22) (.c (.int .u64 0))),
 o0 24 (.pick (.s 19) (.s 23) (.c (.bool false)))] [16, 17, 18, 19, 20, 21, 22, 23])
 (.cond (.s 24)
 (.seq (.reg [mv 25 0,
 o0 26 (.sslc (.s 25) (some (.c (.int .i64 8))) none),
 mv 0 26] [25, 26])
 (.seq (.seq (.reg [mv 27 0] [])
 (.seq (.reg [o0 28 (.slen (.s 27))] [])
 (.seq (.reg [o0 29 (.bin .gtr (.s 28) (.c (.int .i64 16)))] [])
 (.seq (.reg [mv 30 29] [])
 (.seq (.draw [⟨mt 31 0 30, []⟩,
 ⟨ot 32 30 (.call 93 [(.s 31)]), [0]⟩,
 ⟨mt 33 0 30, []⟩,
 ⟨ot 34 30 (.sslc (.s 33) (some (.c (.int .i64 8))) none), [2]⟩] [] [])
 (.seq (.reg [ot 35 30 (.call 93 [(.s 34)])] [])
 (.seq (.reg [ot 36 30 (.bin .or (.s 32) (.s 35))] [])
 (.seq (.reg [ot 37 30 (.bin .and (.s 36) (.c (.int .u64 9259542123273814144)))] [])
 (.seq (.reg [ot 38 30 (.bin .eql (.s 37) (.c (.int .u64 0)))] [])
 (.reg [o0 39 (.pick (.s 30) (.s 38) (.c (.bool false)))] [27, 28, 29, 30, 31, 32, 33, 34, 35, 36, 37, 38]))))))))))
 (.cond (.s 39)
 (.seq (.reg [mv 40 0,
 o0 41 (.sslc (.s 40) (some (.c (.int .i64 16))) none),
 mv 0 41] [40, 41])
 (.block 2 (.loop (.seq (.seq (.seq (.reg [mv 42 0] [])
 (.seq (.reg [o0 43 (.slen (.s 42))] [])
 (.seq (.reg [o0 44 (.bin .gtr (.s 43) (.c (.int .i64 32)))] [])
 (.seq (.reg [mv 45 44] [])
 (.seq (.draw [⟨mt 46 0 45, []⟩,
 ⟨ot 47 45 (.call 93 [(.s 46)]), [0]⟩,
 ⟨mt 48 0 45, []⟩,
 ⟨ot 49 45 (.sslc (.s 48) (some (.c (.int .i64 8))) none), [2]⟩,
 ⟨ot 50 45 (.call 93 [(.s 49)]), [3, 2, 1, 0]⟩,
 ⟨ot 51 45 (.bin .or (.s 47) (.s 50)), [1, 0, 4, 3, 2]⟩,
 ⟨mt 52 0 45, []⟩,
 ⟨ot 53 45 (.sslc (.s 52) (some (.c (.int .i64 16))) none), [6]⟩,
 ⟨ot 54 45 (.call 93 [(.s 53)]), [7, 6, 4, 3, 2, 1, 0]⟩,
 ⟨mt 55 0 45, []⟩,
 ⟨ot 56 45 (.sslc (.s 55) (some (.c (.int .i64 24))) none), [9]⟩,
 ⟨ot 57 45 (.call 93 [(.s 56)]), [10, 9, 8, 7, 6, 4, 3, 2, 1, 0]⟩,
 ⟨ot 58 45 (.bin .or (.s 54) (.s 57)), [8, 7, 6, 4, 3, 2, 1, 0, 11, 10, 9]⟩] [] [])
 (.seq (.reg [ot 59 45 (.bin .or (.s 51) (.s 58))] [])
 (.seq (.reg [ot 60 45 (.bin .and (.s 59) (.c (.int .u64 9259542123273814144)))] [])
 (.seq (.reg [ot 61 45 (.bin .eql (.s 60) (.c (.int .u64 0)))] [])
 (.reg [o0 62 (.pick (.s 45) (.s 61) (.c (.bool false)))] [42, 43, 44, 45, 46, 47, 48, 49, 50, 51, 52, 53, 54, 55, 56, 57, 58, 59, 60, 61])))))))))
 (.cond (.s 62)
 .skip
 (.exit 2)))
 (.block 3 (.reg [mv 63 0,
 o0 64 (.sslc (.s 63) (some (.c (.int .i64 32))) none),
 mv 0 64] [63, 64]))))))
 .skip)))
 .skip))
 (.exit 1)))
 .skip))
 (.seq (.reg [mv 65 3,
 o0 66 (.aadr 1 256 (.s 1000000) (.s 65)),
 o0 67 (.load none (.s 66)),
 mv 4 67] [65, 66, 67])
 (.seq (.reg [mv 68 4,
 o0 69 (.bin .and (.s 68) (.c (.int .u8 7))),
 o0 70 (.cvi .i64 (.s 69)),
 mv 5 70] [68, 69, 70])
 (.seq (.reg [mv 71 4,
 o0 72 (.bin .shr (.s 71) (.c (.int .u64 4))),
 o0 73 (.aadr 2 16 (.s 1000001) (.s 72)),
 o0 74 (.load (some 2) (.s 73)),
 o0 6 (.new 176 [(.int .u8 0), (.int .u8 0)]),
 ⟨none, .store 2 (.s 6) (.s 74), none⟩] [71, 72, 73, 74])
 (.seq (.reg [mv 75 5] [])
 (.block 4 (.seq (.reg [o0 77 (.bin .eql (.s 75) (.c (.int .i64 2))),
 mv 76 77] [77])
 (.cond (.s 76)
 (.seq (.seq (.seq (.reg [mv 78 0] [])
 (.seq (.reg [o0 79 (.slen (.s 78))] [])
 (.seq (.reg [o0 80 (.bin .lss (.s 79) (.c (.int .i64 2)))] [])
 (.seq (.reg [mv 81 80] [])
 (.seq (.draw [⟨mf 82 0 81, []⟩,
 ⟨oF 83 81 (.sidx (.s 82) (.c (.int .i64 1))), [0]⟩,
 ⟨oF 84 81 (.fadr 0 (.s 6)), []⟩,
 ⟨oF 85 81 (.load none (.s 84)), [2]⟩] [] [])
 (.seq (.reg [oF 86 81 (.bin .lss (.s 83) (.s 85))] [])
 (.seq (.reg [o0 87 (.pick (.s 81) (.c (.bool true)) (.s 86))] [])
 (.seq (.reg [mv 88 87] [])
 (.seq (.draw [⟨oF 89 88 (.fadr 1 (.s 6)), []⟩,
 ⟨oF 90 88 (.load none (.s 89)), [0]⟩,
 ⟨mf 91 0 88, []⟩,
 ⟨oF 92 88 (.sidx (.s 91) (.c (.int .i64 1))), [2]⟩] [] [])
 (.seq (.reg [oF 93 88 (.bin .lss (.s 90) (.s 92))] [])
 (.reg [o0 94 (.pick (.s 88) (.c (.bool true)) (.s 93))] [78, 79, 80, 81, 82, 83, 84, 85, 86, 87, 88, 89, 90, 91, 92, 93])))))))))))
 (.cond (.s 94)
 (.seq (.reg [o0 2 (.mov (.c (.bool false)))] [])
 .ret)
 .skip))
 (.reg [mv 95 0,
 o0 96 (.sslc (.s 95) (some (.c (.int .i64 2))) none),
 mv 0 96] [95, 96]))
 (.seq (.reg [o0 98 (.bin .eql (.s 75) (.c (.int .i64 3))),
 mv 97 98] [98])
 (.cond (.s 97)
 (.seq (.seq (.seq (.reg [mv 99 0] [])
 (.seq (.reg [o0 100 (.slen (.s 99))] [])
 (.seq (.reg [o0 101 (.bin .lss (.s 100) (.c (.int .i64 3)))] [])
 (.seq (.reg [mv 102 101] [])
 (.seq (.draw [⟨mf 103 0 102, []⟩,
 ⟨oF 104 102 (.sidx (.s 103) (.c (.int .i64 1))), [0]⟩,
 ⟨oF 105 102 (.fadr 0 (.s 6)), []⟩,
 ⟨oF 106 102 (.load none (.s 105)), [2]⟩] [] [])
 (.seq (.reg [oF 107 102 (.bin .lss (.s 104) (.s 106))] [])
 (.seq (.reg [o0 108 (.pick (.s 102) (.c (.bool true)) (.s 107))] [])
 (.seq (.reg [mv 109 108] [])
 (.seq (.draw [⟨oF 110 109 (.fadr 1 (.s 6)), []⟩,
 ⟨oF 111 109 (.load none (.s 110)), [0]⟩,
 ⟨mf 112 0 109, []⟩,
 ⟨oF 113 109 (.sidx (.s 112) (.c (.int .i64 1))), [2]⟩] [] [])
 (.seq (.reg [oF 114 109 (.bin .lss (.s 111) (.s 113))] [])
 (.seq (.reg [o0 115 (.pick (.s 109) (.c (.bool true)) (.s 114))] [])
 (.seq (.reg [mv 116 115] [])
 (.seq (.reg [mf 117 0 116] [])
 (.seq (.reg [oF 118 116 (.sidx (.s 117) (.c (.int .i64 2)))] [])
 (.seq (.reg [oF 119 116 (.bin .lss (.s 118) (.c (.int .u8 128)))] [])
 (.seq (.reg [o0 120 (.pick (.s 116) (.c (.bool true)) (.s 119))] [])
 (.seq (.reg [mv 121 120] [])
 (.seq (.reg [mf 122 0 121] [])
 (.seq (.reg [oF 123 121 (.sidx (.s 122) (.c (.int .i64 2)))] [])
 (.seq (.reg [oF 124 121 (.bin .lss (.c (.int .u8 191)) (.s 123))] [])
 (.reg [o0 125 (.pick (.s 121) (.c (.bool true)) (.s 124))] [99, 100, 101, 102, 103, 104, 105, 106, 107, 108, 109, 110, 111, 112, 113, 114, 115, 116, 117, 118, 119, 120, 121, 122, 123, 124])))))))))))))))))))))
 (.cond (.s 125)
 (.seq (.reg [o0 2 (.mov (.c (.bool false)))] [])
 .ret)
 .skip))
 (.reg [mv 126 0,
 o0 127 (.sslc (.s 126) (some (.c (.int .i64 3))) none),
 mv 0 127] [126, 127]))
 (.seq (.reg [o0 129 (.bin .eql (.s 75) (.c (.int .i64 4))),
 mv 128 129] [129])
 (.cond (.s 128)
 (.seq (.seq (.seq (.reg [mv 130 0] [])
 (.seq (.reg [o0 131 (.slen (.s 130))] [])
 (.seq (.reg [o0 132 (.bin .lss (.s 131) (.c (.int .i64 4)))] [])
 (.seq (.reg [mv 133 132] [])
 (.seq (.draw [⟨mf 134 0 133, []⟩,
 ⟨oF 135 133 (.sidx (.s 134) (.c (.int .i64 1))), [0]⟩,
 ⟨oF 136 133 (.fadr 0 (.s 6)), []⟩,
 ⟨oF 137 133 (.load none (.s 136)), [2]⟩] [] [])
 (.seq (.reg [oF 138 133 (.bin .lss (.s 135) (.s 137))] [])
 (.seq (.reg [o0 139 (.pick (.s 133) (.c (.bool true)) (.s 138))] [])
 (.seq (.reg [mv 140 139] [])
 (.seq (.draw [⟨oF 141 140 (.fadr 1 (.s 6)), []⟩,
 ⟨oF 142 140 (.load none (.s 141)), [0]⟩,
 ⟨mf 143 0 140, []⟩,
 ⟨oF 144 140 (.sidx (.s 143) (.c (.int .i64 1))), [2]⟩] [] [])
 (.seq (.reg [oF 145 140 (.bin .lss (.s 142) (.s 144))] [])
 (.seq (.reg [o0 146 (.pick (.s 140) (.c (.bool true)) (.s 145))] [])
 (.seq (.reg [mv 147 146] [])
 (.seq (.reg [mf 148 0 147] [])
 (.seq (.reg [oF 149 147 (.sidx (.s 148) (.c (.int .i64 2)))] [])
 (.seq (.reg [oF 150 147 (.bin .lss (.s 149) (.c (.int .u8 128)))] [])
 (.seq (.reg [o0 151 (.pick (.s 147) (.c (.bool true)) (.s 150))] [])
 (.seq (.reg [mv 152 151] [])
 (.seq (.reg [mf 153 0 152] [])
 (.seq (.reg [oF 154 152 (.sidx (.s 153) (.c (.int .i64 2)))] [])
 (.seq (.reg [oF 155 152 (.bin .lss (.c (.int .u8 191)) (.s 154))] [])
 (.seq (.reg [o0 156 (.pick (.s 152) (.c (.bool true)) (.s 155))] [])
 (.seq (.reg [mv 157 156] [])
 (.seq (.reg [mf 158 0 157] [])
 (.seq (.reg [oF 159 157 (.sidx (.s 158) (.c (.int .i64 3)))] [])
 (.seq (.reg [oF 160 157 (.bin .lss (.s 159) (.c (.int .u8 128)))] [])
 (.seq (.reg [o0 161 (.pick (.s 157) (.c (.bool true)) (.s 160))] [])
 (.seq (.reg [mv 162 161] [])
 (.seq (.reg [mf 163 0 162] [])
 (.seq (.reg [oF 164 162 (.sidx (.s 163) (.c (.int .i64 3)))] [])
 (.seq (.reg [oF 165 162 (.bin .lss (.c (.int .u8 191)) (.s 164))] [])
 (.reg [o0 166 (.pick (.s 162) (.c (.bool true)) (.s 165))] [130, 131, 132, 133, 134, 135, 136, 137, 138, 139, 140, 141, 142, 143, 144, 145, 146, 147, 148, 149, 150, 151, 152, 153, 154, 155, 156, 157, 158, 159, 160, 161, 162, 163, 164, 165])))))))))))))))))))))))))))))))
 (.cond (.s 166)
 (.seq (.reg [o0 2 (.mov (.c (.bool false)))] [])
 .ret)
 .skip))
 (.reg [mv 167 0,
 o0 168 (.sslc (.s 167) (some (.c (.int .i64 4))) none),
 mv 0 168] [167, 168]))
 (.seq (.reg [o0 2 (.mov (.c (.bool false)))] [])
 .ret))))))))))))))))))
 (.seq (.reg [o0 2 (.mov (.c (.bool true)))] [])
 .ret)))⟩

theorem c_utf8_ValidString : compF Tryd.prog 56 = some F_utf8_ValidString := by kernel_rfl
abbrev n_utf8_ValidString : FuncId := 56

def F_leb_PutU : IFun :=
⟨24, 2, [.tmp 4],
 (.seq (.reg [o0 4 (.mov (.c .nl))] [])
 (.seq (.reg [o0 6 (.bsl 5 1 [] []),
 mv 7 0,
 o0 8 (.app 5 1 (.s 6) (.s 7)),
 mv 5 8] [6, 7, 8])
 (.seq (.block 0 (.loop (.seq (.seq (.reg [mv 9 1,
 o0 10 (.bin .geq (.s 9) (.c (.int .u64 128)))] [9])
 (.cond (.s 10)
 .skip
 (.exit 0)))
 (.block 1 (.seq (.reg [mv 11 5,
 mv 12 1,
 o0 13 (.cvi .u8 (.s 12)),
 o0 14 (.bin .or (.s 13) (.c (.int .u8 128))),
 o0 15 (.bsl 5 1 [[(.int .u8 0)]] [(0, (.s 14))]),
 o0 16 (.app 5 1 (.s 11) (.s 15)),
 mv 5 16] [11, 12, 13, 14, 15, 16])
 (.reg [mv 17 1,
 o0 18 (.bin .shr (.s 17) (.c (.int .u64 7))),
 mv 1 18] [17, 18]))))))
 (.seq (.reg [mv 19 5,
 mv 20 1,
 o0 21 (.cvi .u8 (.s 20)),
 o0 22 (.bsl 5 1 [[(.int .u8 0)]] [(0, (.s 21))]),
 o0 23 (.app 5 1 (.s 19) (.s 22)),
 mv 4 23] [19, 20, 21, 22, 23])
 .ret))))⟩

theorem c_leb_PutU : compF Tryd.prog 57 = some F_leb_PutU := by kernel_rfl
abbrev n_leb_PutU : FuncId := 57

def F_Poctet_Reader_sound : IFun :=
⟨18, 1, [.tmp 2],
 (.seq (.reg [o0 2 (.mov (.c (.bool false)))] [])
 (.seq (.reg [mv 3 0,
 o0 4 (.pbin .neq (.s 3) (.c .np)),
 mv 5 4,
 mt 6 0 5,
 ot 7 5 (.nchk (.s 6)),
 ot 8 5 (.fadr 0 (.s 7)),
 ot 9 5 (.load none (.s 8)),
 o0 10 (.pick (.s 5) (.s 9) (.c (.bool false))),
 mv 11 10,
 mt 12 0 11,
 ot 13 11 (.nchk (.s 12)),
 ot 14 11 (.fadr 3 (.s 13)),
 ot 15 11 (.load none (.s 14)),
 ot 16 11 (.bin .eql (.s 15) (.c (.int .i64 0))),
 o0 17 (.pick (.s 11) (.s 16) (.c (.bool false))),
 mv 2 17] [3, 4, 5, 6, 7, 8, 9, 10, 11, 12, 13, 14, 15, 16, 17])
 .ret))⟩

theorem c_Poctet_Reader_sound : compF Tryd.prog 58 = some F_Poctet_Reader_sound := by kernel_rfl
abbrev n_Poctet_Reader_sound : FuncId := 58

def F_Poctet_Reader_Take : IFun :=
⟨33, 2, [.tmp 4],
 (.seq (.reg [o0 4 (.mov (.c .nl))] [])
 (.seq (.block 0 (.seq (.reg [mv 6 0,
 o0 7 (.call 58 [(.s 6)]),
 o0 8 (.un .not (.s 7)),
 mv 5 8] [6, 7, 8])
 (.cond (.s 5)
 (.seq (.reg [o0 4 (.mov (.c .nl))] [])
 .ret)
 (.seq (.reg [mv 10 1,
 o0 11 (.bin .lss (.s 10) (.c (.int .i64 0))),
 mv 9 11] [10, 11])
 (.cond (.s 9)
 (.seq (.reg [mv 12 0,
 o0 13 (.call 62 [(.s 12), (.c (.int .i64 1))])] [12, 13])
 (.seq (.reg [o0 4 (.mov (.c .nl))] [])
 .ret))
 (.seq (.seq (.draw [⟨mv 15 1, []⟩,
 ⟨mv 16 0, []⟩,
 ⟨o0 17 (.nchk (.s 16)), [1]⟩,
 ⟨o0 18 (.fadr 1 (.s 17)), [2, 1]⟩,
 ⟨o0 19 (.load none (.s 18)), [3, 2, 1]⟩,
 ⟨o0 20 (.len (.s 19)), [4, 3, 2, 1]⟩,
 ⟨mv 21 0, []⟩,
 ⟨o0 22 (.nchk (.s 21)), [6]⟩,
 ⟨o0 23 (.fadr 2 (.s 22)), [7, 6]⟩,
 ⟨o0 24 (.load none (.s 23)), [8, 7, 6]⟩,
 ⟨o0 25 (.bin .sub (.s 20) (.s 24)), [5, 4, 3, 2, 1, 9, 8, 7, 6]⟩] [] [])
 (.seq (.reg [o0 26 (.bin .gtr (.s 15) (.s 25))] [])
 (.reg [mv 14 26] [15, 16, 17, 18, 19, 20, 21, 22, 23, 24, 25, 26])))
 (.cond (.s 14)
 (.seq (.reg [mv 27 0,
 o0 28 (.call 62 [(.s 27), (.c (.int .i64 3))])] [27, 28])
 (.seq (.reg [o0 4 (.mov (.c .nl))] [])
 .ret))
 .skip)))))))
 (.seq (.reg [mv 29 0,
 mv 30 1,
 o0 31 (.call 94 [(.s 29), (.s 30)]),
 o0 32 (.app 5 1 (.c .nl) (.s 31)),
 mv 4 32] [29, 30, 31, 32])
 .ret)))⟩

theorem c_Poctet_Reader_Take : compF Tryd.prog 59 = some F_Poctet_Reader_Take := by kernel_rfl
abbrev n_Poctet_Reader_Take : FuncId := 59

def F_Poctet_Reader_unsigned : IFun :=
⟨40, 2, [.tmp 4],
 (.seq (.reg [o0 4 (.mov (.c (.int .u64 0)))] [])
 (.seq (.seq (.reg [mv 8 0,
 o0 9 (.call 58 [(.s 8)]),
 o0 10 (.un .not (.s 9))] [8, 9])
 (.cond (.s 10)
 (.seq (.reg [o0 4 (.mov (.c (.int .u64 0)))] [])
 .ret)
 .skip))
 (.seq (.seq (.draw [⟨mv 12 0, []⟩,
 ⟨o0 13 (.nchk (.s 12)), [0]⟩,
 ⟨o0 14 (.fadr 1 (.s 13)), [1, 0]⟩,
 ⟨o0 15 (.load none (.s 14)), [2, 1, 0]⟩,
 ⟨mv 16 0, []⟩,
 ⟨o0 17 (.nchk (.s 16)), [4]⟩,
 ⟨o0 18 (.fadr 2 (.s 17)), [5, 4]⟩,
 ⟨o0 19 (.load none (.s 18)), [6, 5, 4]⟩,
 ⟨o0 20 (.slc 1 (.s 15) (some (.s 19)) none none), [3, 2, 1, 0, 7, 6, 5, 4]⟩,
 ⟨mv 21 1, []⟩] [] [])
 (.seq (.reg [o0 22 (.call 95 [(.s 20), (.s 21)])] [])
 (.seq (.reg [mv 11 22] [])
 (.seq (.draw [⟨o0 23 (.ext (.s 11) 0), []⟩,
 ⟨o0 24 (.ext (.s 11) 1), []⟩,
 ⟨o0 25 (.ext (.s 11) 2), []⟩,
 ⟨mv 5 23, [0]⟩,
 ⟨mv 6 24, [1, 3, 0]⟩] [] [])
 (.reg [mv 7 25] [12, 13, 14, 15, 16, 17, 18, 19, 20, 21, 22, 11, 23, 24, 25])))))
 (.seq (.seq (.reg [mv 26 7,
 o0 27 (.bin .neq (.s 26) (.c (.int .i64 0)))] [26])
 (.cond (.s 27)
 (.seq (.reg [mv 28 0,
 mv 29 7,
 o0 30 (.call 62 [(.s 28), (.s 29)])] [28, 29, 30])
 (.seq (.reg [o0 4 (.mov (.c (.int .u64 0)))] [])
 .ret))
 .skip))
 (.seq (.reg [mv 31 0,
 o0 32 (.nchk (.s 31)),
 o0 33 (.fadr 2 (.s 32)),
 o0 34 (.load none (.s 33)),
 mv 35 6,
 o0 36 (.bin .add (.s 34) (.s 35)),
 o0 37 (.nchk (.s 31)),
 o0 38 (.fadr 2 (.s 37)),
 ⟨none, .store 1 (.s 38) (.s 36), none⟩] [31, 32, 33, 34, 35, 36, 37, 38])
 (.seq (.reg [mv 39 5,
 mv 4 39] [39])
 .ret))))))⟩

theorem c_Poctet_Reader_unsigned : compF Tryd.prog 60 = some F_Poctet_Reader_unsigned := by kernel_rfl
abbrev n_Poctet_Reader_unsigned : FuncId := 60

def F_Poctet_Reader_Count : IFun :=
⟨33, 2, [.tmp 4],
 (.seq (.reg [o0 4 (.mov (.c (.int .i64 0)))] [])
 (.seq (.seq (.reg [mv 7 0,
 o0 8 (.call 58 [(.s 7)]),
 o0 9 (.un .not (.s 8))] [7, 8])
 (.cond (.s 9)
 (.seq (.reg [o0 4 (.mov (.c (.int .i64 0)))] [])
 .ret)
 .skip))
 (.seq (.reg [mv 10 0,
 o0 11 (.nchk (.s 10)),
 o0 12 (.fadr 2 (.s 11)),
 o0 13 (.load none (.s 12)),
 mv 5 13] [10, 11, 12, 13])
 (.seq (.reg [mv 14 0,
 o0 15 (.call 37 [(.s 14)]),
 mv 6 15] [14, 15])
 (.seq (.seq (.reg [mv 16 0,
 o0 17 (.nchk (.s 16)),
 o0 18 (.fadr 3 (.s 17)),
 o0 19 (.load none (.s 18)),
 o0 20 (.bin .eql (.s 19) (.c (.int .i64 0))),
 mv 21 20,
 mt 22 6 21,
 mt 23 1 21,
 ot 24 21 (.bin .gtr (.s 22) (.s 23)),
 o0 25 (.pick (.s 21) (.s 24) (.c (.bool false)))] [16, 17, 18, 19, 20, 21, 22, 23, 24])
 (.cond (.s 25)
 (.seq (.reg [mv 26 0,
 mv 27 5,
 o0 28 (.nchk (.s 26)),
 o0 29 (.fadr 2 (.s 28)),
 ⟨none, .store 1 (.s 29) (.s 27), none⟩] [26, 27, 28, 29])
 (.seq (.reg [mv 30 0,
 o0 31 (.call 62 [(.s 30), (.c (.int .i64 6))])] [30, 31])
 (.seq (.reg [o0 4 (.mov (.c (.int .i64 0)))] [])
 .ret)))
 .skip))
 (.seq (.reg [mv 32 6,
 mv 4 32] [32])
 .ret))))))⟩

theorem c_Poctet_Reader_Count : compF Tryd.prog 61 = some F_Poctet_Reader_Count := by kernel_rfl
abbrev n_Poctet_Reader_Count : FuncId := 61

def F_Poctet_Reader_Fail : IFun :=
⟨10, 2, [],
 (.seq (.reg [mv 4 0,
 o0 5 (.call 58 [(.s 4)])] [4])
 (.cond (.s 5)
 (.reg [mv 6 0,
 mv 7 1,
 o0 8 (.nchk (.s 6)),
 o0 9 (.fadr 3 (.s 8)),
 ⟨none, .store 1 (.s 9) (.s 7), none⟩] [6, 7, 8, 9])
 .skip))⟩

theorem c_Poctet_Reader_Fail : compF Tryd.prog 62 = some F_Poctet_Reader_Fail := by kernel_rfl
abbrev n_Poctet_Reader_Fail : FuncId := 62

def F_Poctet_Reader_Err : IFun :=
⟨16, 1, [.tmp 2],
 (.seq (.reg [o0 2 (.mov (.c (.int .i64 0)))] [])
 (.seq (.seq (.reg [mv 3 0,
 o0 4 (.pbin .eql (.s 3) (.c .np)),
 mv 5 4,
 mf 6 0 5,
 oF 7 5 (.nchk (.s 6)),
 oF 8 5 (.fadr 0 (.s 7)),
 oF 9 5 (.load none (.s 8)),
 oF 10 5 (.un .not (.s 9)),
 o0 11 (.pick (.s 5) (.c (.bool true)) (.s 10))] [3, 4, 5, 6, 7, 8, 9, 10])
 (.cond (.s 11)
 (.seq (.reg [o0 2 (.mov (.c (.int .i64 2)))] [])
 .ret)
 .skip))
 (.seq (.reg [mv 12 0,
 o0 13 (.nchk (.s 12)),
 o0 14 (.fadr 3 (.s 13)),
 o0 15 (.load none (.s 14)),
 mv 2 15] [12, 13, 14, 15])
 .ret)))⟩

theorem c_Poctet_Reader_Err : compF Tryd.prog 63 = some F_Poctet_Reader_Err := by kernel_rfl
abbrev n_Poctet_Reader_Err : FuncId := 63

def F_mods_each_api_Func : IFun :=
⟨22, 2, [.tmp 4],
 (.seq (.reg [o0 4 (.mov (.c .nl))] [])
 (.seq (.reg [o0 5 (.mov (.c .nl))] [])
 (.seq (.seq (.reg [mv 8 0,
 o0 9 (.len (.s 8)),
 o0 10 (.mov (.c (.int .i64 0)))] [])
 (.block 0 (.loop (.seq (.reg [o0 11 (.bin .lss (.s 10) (.s 9))] [])
 (.seq (.cond (.s 11)
 .skip
 (.exit 0))
 (.seq (.block 1 (.seq (.reg [o0 12 (.iadr 2 (.s 8) (.s 10)),
 o0 13 (.load (some 2) (.s 12)),
 o0 7 (.new 122 [.nl, .nl]),
 ⟨none, .store 2 (.s 7) (.s 13), none⟩] [12, 13])
 (.reg [mv 14 5,
 mv 15 1,
 o0 16 (.load (some 2) (.s 7)),
 o0 17 (.callv (.s 15) [(.s 16)]),
 o0 18 (.bsl 122 2 [[.nl, .nl]] [(0, (.s 17))]),
 o0 19 (.app 122 2 (.s 14) (.s 18)),
 mv 5 19] [14, 15, 16, 17, 18, 19])))
 (.reg [o0 20 (.bin .add (.s 10) (.c (.int .i64 1))),
 mv 10 20] [20])))))))
 (.seq (.reg [mv 21 5,
 mv 4 21] [21])
 .ret))))⟩

theorem c_mods_each_api_Func : compF Tryd.prog 64 = some F_mods_each_api_Func := by kernel_rfl
abbrev n_mods_each_api_Func : FuncId := 64

def F_mods_Copy_1 : IFun :=
⟨10, 1, [.cell 2 (some 2)],
 (.seq (.reg [o0 1 (.box 122 2 (.s 0)),
 o0 2 (.new 122 [.nl, .nl])] [])
 (.seq (.seq (.draw [⟨o0 3 (.fadr 0 (.s 1)), []⟩,
 ⟨o0 4 (.load none (.s 3)), [0]⟩,
 ⟨o0 5 (.call 66 [(.s 4)]), [1, 0]⟩,
 ⟨o0 6 (.fadr 1 (.s 1)), []⟩,
 ⟨o0 7 (.load none (.s 6)), [3]⟩] [] [])
 (.seq (.reg [o0 8 (.call 66 [(.s 7)])] [])
 (.seq (.reg [o0 9 (.build [.nl, .nl] [(0, 1, (.s 5)), (1, 1, (.s 8))])] [])
 (.reg [⟨none, .store 2 (.s 2) (.s 9), none⟩] [3, 4, 5, 6, 7, 8, 9]))))
 .ret))⟩

theorem c_mods_Copy_1 : compF Tryd.prog 65 = some F_mods_Copy_1 := by kernel_rfl
abbrev n_mods_Copy_1 : FuncId := 65

def F_slices_Clone_Lapi_Val_api_Val : IFun :=
⟨8, 1, [.tmp 2],
 (.seq (.reg [o0 2 (.mov (.c .nl))] [])
 (.seq (.seq (.reg [mv 3 0,
 o0 4 (.snl false (.s 3))] [3])
 (.cond (.s 4)
 (.seq (.reg [o0 2 (.mov (.c .nl))] [])
 .ret)
 .skip))
 (.seq (.reg [o0 5 (.bsl 64 1 [] []),
 mv 6 0,
 o0 7 (.app 64 1 (.s 5) (.s 6)),
 mv 2 7] [5, 6, 7])
 .ret)))⟩

theorem c_slices_Clone_Lapi_Val_api_Val : compF Tryd.prog 66 = some F_slices_Clone_Lapi_Val_api_Val := by kernel_rfl
abbrev n_slices_Clone_Lapi_Val_api_Val : FuncId := 66

def F_slices_Clone_Lapi_Import_api_Import : IFun :=
⟨8, 1, [.tmp 2],
 (.seq (.reg [o0 2 (.mov (.c .nl))] [])
 (.seq (.seq (.reg [mv 3 0,
 o0 4 (.snl false (.s 3))] [3])
 (.cond (.s 4)
 (.seq (.reg [o0 2 (.mov (.c .nl))] [])
 .ret)
 .skip))
 (.seq (.reg [o0 5 (.bsl 134 13 [] []),
 mv 6 0,
 o0 7 (.app 134 13 (.s 5) (.s 6)),
 mv 2 7] [5, 6, 7])
 .ret)))⟩

theorem c_slices_Clone_Lapi_Import_api_Import : compF Tryd.prog 67 = some F_slices_Clone_Lapi_Import_api_Import := by kernel_rfl
abbrev n_slices_Clone_Lapi_Import_api_Import : FuncId := 67

def F_slices_Clone_Lapi_Table_api_Table : IFun :=
⟨8, 1, [.tmp 2],
 (.seq (.reg [o0 2 (.mov (.c .nl))] [])
 (.seq (.seq (.reg [mv 3 0,
 o0 4 (.snl false (.s 3))] [3])
 (.cond (.s 4)
 (.seq (.reg [o0 2 (.mov (.c .nl))] [])
 .ret)
 .skip))
 (.seq (.reg [o0 5 (.bsl 130 4 [] []),
 mv 6 0,
 o0 7 (.app 130 4 (.s 5) (.s 6)),
 mv 2 7] [5, 6, 7])
 .ret)))⟩

theorem c_slices_Clone_Lapi_Table_api_Table : compF Tryd.prog 68 = some F_slices_Clone_Lapi_Table_api_Table := by kernel_rfl
abbrev n_slices_Clone_Lapi_Table_api_Table : FuncId := 68

def F_slices_Clone_Lapi_Limits_api_Limits : IFun :=
⟨8, 1, [.tmp 2],
 (.seq (.reg [o0 2 (.mov (.c .nl))] [])
 (.seq (.seq (.reg [mv 3 0,
 o0 4 (.snl false (.s 3))] [3])
 (.cond (.s 4)
 (.seq (.reg [o0 2 (.mov (.c .nl))] [])
 .ret)
 .skip))
 (.seq (.reg [o0 5 (.bsl 128 3 [] []),
 mv 6 0,
 o0 7 (.app 128 3 (.s 5) (.s 6)),
 mv 2 7] [5, 6, 7])
 .ret)))⟩

theorem c_slices_Clone_Lapi_Limits_api_Limits : compF Tryd.prog 69 = some F_slices_Clone_Lapi_Limits_api_Limits := by kernel_rfl
abbrev n_slices_Clone_Lapi_Limits_api_Limits : FuncId := 69

def F_slices_Clone_Lapi_Export_api_Export : IFun :=
⟨8, 1, [.tmp 2],
 (.seq (.reg [o0 2 (.mov (.c .nl))] [])
 (.seq (.seq (.reg [mv 3 0,
 o0 4 (.snl false (.s 3))] [3])
 (.cond (.s 4)
 (.seq (.reg [o0 2 (.mov (.c .nl))] [])
 .ret)
 .skip))
 (.seq (.reg [o0 5 (.bsl 139 3 [] []),
 mv 6 0,
 o0 7 (.app 139 3 (.s 5) (.s 6)),
 mv 2 7] [5, 6, 7])
 .ret)))⟩

theorem c_slices_Clone_Lapi_Export_api_Export : compF Tryd.prog 70 = some F_slices_Clone_Lapi_Export_api_Export := by kernel_rfl
abbrev n_slices_Clone_Lapi_Export_api_Export : FuncId := 70

def F_mods_each_api_Code : IFun :=
⟨22, 2, [.tmp 4],
 (.seq (.reg [o0 4 (.mov (.c .nl))] [])
 (.seq (.reg [o0 5 (.mov (.c .nl))] [])
 (.seq (.seq (.reg [mv 8 0,
 o0 9 (.len (.s 8)),
 o0 10 (.mov (.c (.int .i64 0)))] [])
 (.block 0 (.loop (.seq (.reg [o0 11 (.bin .lss (.s 10) (.s 9))] [])
 (.seq (.cond (.s 11)
 .skip
 (.exit 0))
 (.seq (.block 1 (.seq (.reg [o0 12 (.iadr 3 (.s 8) (.s 10)),
 o0 13 (.load (some 3) (.s 12)),
 o0 7 (.new 142 [(.int .i64 0), .nl, .nl]),
 ⟨none, .store 3 (.s 7) (.s 13), none⟩] [12, 13])
 (.reg [mv 14 5,
 mv 15 1,
 o0 16 (.load (some 3) (.s 7)),
 o0 17 (.callv (.s 15) [(.s 16)]),
 o0 18 (.bsl 142 3 [[(.int .i64 0), .nl, .nl]] [(0, (.s 17))]),
 o0 19 (.app 142 3 (.s 14) (.s 18)),
 mv 5 19] [14, 15, 16, 17, 18, 19])))
 (.reg [o0 20 (.bin .add (.s 10) (.c (.int .i64 1))),
 mv 10 20] [20])))))))
 (.seq (.reg [mv 21 5,
 mv 4 21] [21])
 .ret))))⟩

theorem c_mods_each_api_Code : compF Tryd.prog 71 = some F_mods_each_api_Code := by kernel_rfl
abbrev n_mods_each_api_Code : FuncId := 71

def F_mods_Copy_2 : IFun :=
⟨12, 1, [.cell 2 (some 3)],
 (.seq (.reg [o0 1 (.box 142 3 (.s 0)),
 o0 2 (.new 142 [(.int .i64 0), .nl, .nl])] [])
 (.seq (.seq (.draw [⟨o0 3 (.fadr 0 (.s 1)), []⟩,
 ⟨o0 4 (.load none (.s 3)), [0]⟩,
 ⟨o0 5 (.fadr 1 (.s 1)), []⟩,
 ⟨o0 6 (.load none (.s 5)), [2]⟩,
 ⟨o0 7 (.call 66 [(.s 6)]), [3, 2]⟩,
 ⟨o0 8 (.fadr 2 (.s 1)), []⟩,
 ⟨o0 9 (.load none (.s 8)), [5]⟩,
 ⟨o0 10 (.call 73 [(.s 9)]), [6, 5, 4, 3, 2]⟩] [] [])
 (.seq (.reg [o0 11 (.build [(.int .i64 0), .nl, .nl] [(0, 1, (.s 4)), (1, 1, (.s 7)), (2, 1, (.s 10))])] [])
 (.reg [⟨none, .store 3 (.s 2) (.s 11), none⟩] [3, 4, 5, 6, 7, 8, 9, 10, 11])))
 .ret))⟩

theorem c_mods_Copy_2 : compF Tryd.prog 72 = some F_mods_Copy_2 := by kernel_rfl
abbrev n_mods_Copy_2 : FuncId := 72

def F_mods_body : IFun :=
⟨5, 1, [.tmp 2],
 (.seq (.reg [o0 2 (.mov (.c .nl))] [])
 (.seq (.reg [mv 3 0,
 o0 4 (.call 96 [(.s 3), (.c (.fn 97 []))]),
 mv 2 4] [3, 4])
 .ret))⟩

theorem c_mods_body : compF Tryd.prog 73 = some F_mods_body := by kernel_rfl
abbrev n_mods_body : FuncId := 73

def F_mods_each_api_GlobalDef : IFun :=
⟨22, 2, [.tmp 4],
 (.seq (.reg [o0 4 (.mov (.c .nl))] [])
 (.seq (.reg [o0 5 (.mov (.c .nl))] [])
 (.seq (.seq (.reg [mv 8 0,
 o0 9 (.len (.s 8)),
 o0 10 (.mov (.c (.int .i64 0)))] [])
 (.block 0 (.loop (.seq (.reg [o0 11 (.bin .lss (.s 10) (.s 9))] [])
 (.seq (.cond (.s 11)
 .skip
 (.exit 0))
 (.seq (.block 1 (.seq (.reg [o0 12 (.iadr 3 (.s 8) (.s 10)),
 o0 13 (.load (some 3) (.s 12)),
 o0 7 (.new 147 [(.int .i64 0), (.bool false), .nl]),
 ⟨none, .store 3 (.s 7) (.s 13), none⟩] [12, 13])
 (.reg [mv 14 5,
 mv 15 1,
 o0 16 (.load (some 3) (.s 7)),
 o0 17 (.callv (.s 15) [(.s 16)]),
 o0 18 (.bsl 147 3 [[(.int .i64 0), (.bool false), .nl]] [(0, (.s 17))]),
 o0 19 (.app 147 3 (.s 14) (.s 18)),
 mv 5 19] [14, 15, 16, 17, 18, 19])))
 (.reg [o0 20 (.bin .add (.s 10) (.c (.int .i64 1))),
 mv 10 20] [20])))))))
 (.seq (.reg [mv 21 5,
 mv 4 21] [21])
 .ret))))⟩

theorem c_mods_each_api_GlobalDef : compF Tryd.prog 74 = some F_mods_each_api_GlobalDef := by kernel_rfl
abbrev n_mods_each_api_GlobalDef : FuncId := 74

def F_mods_Copy_3 : IFun :=
⟨9, 1, [.cell 2 (some 3)],
 (.seq (.reg [o0 1 (.box 147 3 (.s 0)),
 o0 2 (.new 147 [(.int .i64 0), (.bool false), .nl])] [])
 (.seq (.seq (.draw [⟨o0 3 (.fadr 0 (.s 1)), []⟩,
 ⟨o0 4 (.load (some 2) (.s 3)), [0]⟩,
 ⟨o0 5 (.fadr 2 (.s 1)), []⟩,
 ⟨o0 6 (.load none (.s 5)), [2]⟩,
 ⟨o0 7 (.call 73 [(.s 6)]), [3, 2]⟩] [] [])
 (.seq (.reg [o0 8 (.build [(.int .i64 0), (.bool false), .nl] [(0, 2, (.s 4)), (2, 1, (.s 7))])] [])
 (.reg [⟨none, .store 3 (.s 2) (.s 8), none⟩] [3, 4, 5, 6, 7, 8])))
 .ret))⟩

theorem c_mods_Copy_3 : compF Tryd.prog 75 = some F_mods_Copy_3 := by kernel_rfl
abbrev n_mods_Copy_3 : FuncId := 75

def F_mods_each_api_Elem : IFun :=
⟨22, 2, [.tmp 4],
 (.seq (.reg [o0 4 (.mov (.c .nl))] [])
 (.seq (.reg [o0 5 (.mov (.c .nl))] [])
 (.seq (.seq (.reg [mv 8 0,
 o0 9 (.len (.s 8)),
 o0 10 (.mov (.c (.int .i64 0)))] [])
 (.block 0 (.loop (.seq (.reg [o0 11 (.bin .lss (.s 10) (.s 9))] [])
 (.seq (.cond (.s 11)
 .skip
 (.exit 0))
 (.seq (.block 1 (.seq (.reg [o0 12 (.iadr 5 (.s 8) (.s 10)),
 o0 13 (.load (some 5) (.s 12)),
 o0 7 (.new 67 [(.int .i64 0), (.int .i64 0), .nl, (.int .i64 0), .nl]),
 ⟨none, .store 5 (.s 7) (.s 13), none⟩] [12, 13])
 (.reg [mv 14 5,
 mv 15 1,
 o0 16 (.load (some 5) (.s 7)),
 o0 17 (.callv (.s 15) [(.s 16)]),
 o0 18 (.bsl 67 5 [[(.int .i64 0), (.int .i64 0), .nl, (.int .i64 0), .nl]] [(0, (.s 17))]),
 o0 19 (.app 67 5 (.s 14) (.s 18)),
 mv 5 19] [14, 15, 16, 17, 18, 19])))
 (.reg [o0 20 (.bin .add (.s 10) (.c (.int .i64 1))),
 mv 10 20] [20])))))))
 (.seq (.reg [mv 21 5,
 mv 4 21] [21])
 .ret))))⟩

theorem c_mods_each_api_Elem : compF Tryd.prog 76 = some F_mods_each_api_Elem := by kernel_rfl
abbrev n_mods_each_api_Elem : FuncId := 76

def F_mods_Copy_4 : IFun :=
⟨12, 1, [.cell 2 (some 5)],
 (.seq (.reg [o0 1 (.box 67 5 (.s 0)),
 o0 2 (.new 67 [(.int .i64 0), (.int .i64 0), .nl, (.int .i64 0), .nl])] [])
 (.seq (.seq (.draw [⟨o0 3 (.fadr 2 (.s 1)), []⟩,
 ⟨o0 4 (.load none (.s 3)), [0]⟩,
 ⟨o0 5 (.call 73 [(.s 4)]), [1, 0]⟩,
 ⟨o0 6 (.fadr 4 (.s 1)), []⟩,
 ⟨o0 7 (.load none (.s 6)), [3]⟩] [] [])
 (.seq (.draw [⟨o0 8 (.call 78 [(.s 7), (.c (.fn 73 []))]), []⟩,
 ⟨o0 9 (.fadr 2 (.s 1)), []⟩] [] [])
 (.seq (.reg [⟨none, .store 1 (.s 9) (.s 5), none⟩] [])
 (.seq (.reg [o0 10 (.fadr 4 (.s 1))] [])
 (.reg [⟨none, .store 1 (.s 10) (.s 8), none⟩] [3, 4, 5, 6, 7, 8, 9, 10])))))
 (.seq (.reg [o0 11 (.load (some 5) (.s 1)),
 ⟨none, .store 5 (.s 2) (.s 11), none⟩] [11])
 .ret)))⟩

theorem c_mods_Copy_4 : compF Tryd.prog 77 = some F_mods_Copy_4 := by kernel_rfl
abbrev n_mods_Copy_4 : FuncId := 77

def F_mods_each_Lapi_Instr : IFun :=
⟨22, 2, [.tmp 4],
 (.seq (.reg [o0 4 (.mov (.c .nl))] [])
 (.seq (.reg [o0 5 (.mov (.c .nl))] [])
 (.seq (.seq (.reg [mv 8 0,
 o0 9 (.len (.s 8)),
 o0 10 (.mov (.c (.int .i64 0)))] [])
 (.block 0 (.loop (.seq (.reg [o0 11 (.bin .lss (.s 10) (.s 9))] [])
 (.seq (.cond (.s 11)
 .skip
 (.exit 0))
 (.seq (.block 1 (.seq (.reg [o0 12 (.iadr 1 (.s 8) (.s 10)),
 o0 13 (.load none (.s 12)),
 mv 7 13] [12, 13])
 (.reg [mv 14 5,
 mv 15 1,
 mv 16 7,
 o0 17 (.callv (.s 15) [(.s 16)]),
 o0 18 (.bsl 63 1 [[.nl]] [(0, (.s 17))]),
 o0 19 (.app 63 1 (.s 14) (.s 18)),
 mv 5 19] [14, 15, 16, 17, 18, 19])))
 (.reg [o0 20 (.bin .add (.s 10) (.c (.int .i64 1))),
 mv 10 20] [20])))))))
 (.seq (.reg [mv 21 5,
 mv 4 21] [21])
 .ret))))⟩

theorem c_mods_each_Lapi_Instr : compF Tryd.prog 78 = some F_mods_each_Lapi_Instr := by kernel_rfl
abbrev n_mods_each_Lapi_Instr : FuncId := 78

def F_mods_each_api_Data : IFun :=
⟨22, 2, [.tmp 4],
 (.seq (.reg [o0 4 (.mov (.c .nl))] [])
 (.seq (.reg [o0 5 (.mov (.c .nl))] [])
 (.seq (.seq (.reg [mv 8 0,
 o0 9 (.len (.s 8)),
 o0 10 (.mov (.c (.int .i64 0)))] [])
 (.block 0 (.loop (.seq (.reg [o0 11 (.bin .lss (.s 10) (.s 9))] [])
 (.seq (.cond (.s 11)
 .skip
 (.exit 0))
 (.seq (.block 1 (.seq (.reg [o0 12 (.iadr 4 (.s 8) (.s 10)),
 o0 13 (.load (some 4) (.s 12)),
 o0 7 (.new 154 [(.int .i64 0), (.int .i64 0), .nl, .nl]),
 ⟨none, .store 4 (.s 7) (.s 13), none⟩] [12, 13])
 (.reg [mv 14 5,
 mv 15 1,
 o0 16 (.load (some 4) (.s 7)),
 o0 17 (.callv (.s 15) [(.s 16)]),
 o0 18 (.bsl 154 4 [[(.int .i64 0), (.int .i64 0), .nl, .nl]] [(0, (.s 17))]),
 o0 19 (.app 154 4 (.s 14) (.s 18)),
 mv 5 19] [14, 15, 16, 17, 18, 19])))
 (.reg [o0 20 (.bin .add (.s 10) (.c (.int .i64 1))),
 mv 10 20] [20])))))))
 (.seq (.reg [mv 21 5,
 mv 4 21] [21])
 .ret))))⟩

theorem c_mods_each_api_Data : compF Tryd.prog 79 = some F_mods_each_api_Data := by kernel_rfl
abbrev n_mods_each_api_Data : FuncId := 79

def F_mods_Copy_5 : IFun :=
⟨12, 1, [.cell 2 (some 4)],
 (.seq (.reg [o0 1 (.box 154 4 (.s 0)),
 o0 2 (.new 154 [(.int .i64 0), (.int .i64 0), .nl, .nl])] [])
 (.seq (.seq (.draw [⟨o0 3 (.fadr 2 (.s 1)), []⟩,
 ⟨o0 4 (.load none (.s 3)), [0]⟩,
 ⟨o0 5 (.call 73 [(.s 4)]), [1, 0]⟩,
 ⟨o0 6 (.fadr 3 (.s 1)), []⟩,
 ⟨o0 7 (.load none (.s 6)), [3]⟩] [] [])
 (.seq (.draw [⟨o0 8 (.call 81 [(.s 7)]), []⟩,
 ⟨o0 9 (.fadr 2 (.s 1)), []⟩] [] [])
 (.seq (.reg [⟨none, .store 1 (.s 9) (.s 5), none⟩] [])
 (.seq (.reg [o0 10 (.fadr 3 (.s 1))] [])
 (.reg [⟨none, .store 1 (.s 10) (.s 8), none⟩] [3, 4, 5, 6, 7, 8, 9, 10])))))
 (.seq (.reg [o0 11 (.load (some 4) (.s 1)),
 ⟨none, .store 4 (.s 2) (.s 11), none⟩] [11])
 .ret)))⟩

theorem c_mods_Copy_5 : compF Tryd.prog 80 = some F_mods_Copy_5 := by kernel_rfl
abbrev n_mods_Copy_5 : FuncId := 80

def F_slices_Clone_byte_byte : IFun :=
⟨8, 1, [.tmp 2],
 (.seq (.reg [o0 2 (.mov (.c .nl))] [])
 (.seq (.seq (.reg [mv 3 0,
 o0 4 (.snl false (.s 3))] [3])
 (.cond (.s 4)
 (.seq (.reg [o0 2 (.mov (.c .nl))] [])
 .ret)
 .skip))
 (.seq (.reg [o0 5 (.bsl 5 1 [] []),
 mv 6 0,
 o0 7 (.app 5 1 (.s 5) (.s 6)),
 mv 2 7] [5, 6, 7])
 .ret)))⟩

theorem c_slices_Clone_byte_byte : compF Tryd.prog 81 = some F_slices_Clone_byte_byte := by kernel_rfl
abbrev n_slices_Clone_byte_byte : FuncId := 81

def F_mods_each_api_Custom : IFun :=
⟨22, 2, [.tmp 4],
 (.seq (.reg [o0 4 (.mov (.c .nl))] [])
 (.seq (.reg [o0 5 (.mov (.c .nl))] [])
 (.seq (.seq (.reg [mv 8 0,
 o0 9 (.len (.s 8)),
 o0 10 (.mov (.c (.int .i64 0)))] [])
 (.block 0 (.loop (.seq (.reg [o0 11 (.bin .lss (.s 10) (.s 9))] [])
 (.seq (.cond (.s 11)
 .skip
 (.exit 0))
 (.seq (.block 1 (.seq (.reg [o0 12 (.iadr 3 (.s 8) (.s 10)),
 o0 13 (.load (some 3) (.s 12)),
 o0 7 (.new 61 [(.int .i64 0), (.str []), .nl]),
 ⟨none, .store 3 (.s 7) (.s 13), none⟩] [12, 13])
 (.reg [mv 14 5,
 mv 15 1,
 o0 16 (.load (some 3) (.s 7)),
 o0 17 (.callv (.s 15) [(.s 16)]),
 o0 18 (.bsl 61 3 [[(.int .i64 0), (.str []), .nl]] [(0, (.s 17))]),
 o0 19 (.app 61 3 (.s 14) (.s 18)),
 mv 5 19] [14, 15, 16, 17, 18, 19])))
 (.reg [o0 20 (.bin .add (.s 10) (.c (.int .i64 1))),
 mv 10 20] [20])))))))
 (.seq (.reg [mv 21 5,
 mv 4 21] [21])
 .ret))))⟩

theorem c_mods_each_api_Custom : compF Tryd.prog 82 = some F_mods_each_api_Custom := by kernel_rfl
abbrev n_mods_each_api_Custom : FuncId := 82

def F_mods_Copy_6 : IFun :=
⟨8, 1, [.cell 2 (some 3)],
 (.seq (.reg [o0 1 (.box 61 3 (.s 0)),
 o0 2 (.new 61 [(.int .i64 0), (.str []), .nl])] [])
 (.seq (.reg [o0 3 (.fadr 2 (.s 1)),
 o0 4 (.load none (.s 3)),
 o0 5 (.call 81 [(.s 4)]),
 o0 6 (.fadr 2 (.s 1)),
 ⟨none, .store 1 (.s 6) (.s 5), none⟩] [3, 4, 5, 6])
 (.seq (.reg [o0 7 (.load (some 3) (.s 1)),
 ⟨none, .store 3 (.s 2) (.s 7), none⟩] [7])
 .ret)))⟩

theorem c_mods_Copy_6 : compF Tryd.prog 83 = some F_mods_Copy_6 := by kernel_rfl
abbrev n_mods_Copy_6 : FuncId := 83

def F_utf_Valid : IFun :=
⟨11, 1, [.tmp 2],
 (.seq (.reg [o0 2 (.mov (.c (.bool false)))] [])
 (.seq (.reg [mv 6 0,
 o0 7 (.call 99 [(.s 6)]),
 mv 5 7,
 o0 8 (.ext (.s 5) 0),
 o0 9 (.ext (.s 5) 1),
 mv 3 8,
 mv 4 9] [6, 7, 5, 8, 9, 3])
 (.seq (.reg [mv 10 4,
 mv 2 10] [10])
 .ret)))⟩

theorem c_utf_Valid : compF Tryd.prog 84 = some F_utf_Valid := by kernel_rfl
abbrev n_utf_Valid : FuncId := 84

def F_names_indexes : IFun :=
⟨19, 1, [.tmp 2],
 (.seq (.reg [o0 2 (.mov (.c .nl))] [])
 (.seq (.reg [o0 3 (.mov (.c .nl))] [])
 (.seq (.seq (.reg [mv 6 0,
 o0 7 (.len (.s 6)),
 o0 8 (.mov (.c (.int .i64 0)))] [])
 (.block 0 (.loop (.seq (.reg [o0 9 (.bin .lss (.s 8) (.s 7))] [])
 (.seq (.cond (.s 9)
 .skip
 (.exit 0))
 (.seq (.block 1 (.seq (.reg [o0 10 (.iadr 2 (.s 6) (.s 8)),
 o0 11 (.load (some 2) (.s 10)),
 o0 5 (.new 106 [(.int .i64 0), (.str [])]),
 ⟨none, .store 2 (.s 5) (.s 11), none⟩] [10, 11])
 (.reg [mv 12 3,
 o0 13 (.fadr 0 (.s 5)),
 o0 14 (.load none (.s 13)),
 o0 15 (.bsl 3 1 [[(.int .i64 0)]] [(0, (.s 14))]),
 o0 16 (.app 3 1 (.s 12) (.s 15)),
 mv 3 16] [12, 13, 14, 15, 16])))
 (.reg [o0 17 (.bin .add (.s 8) (.c (.int .i64 1))),
 mv 8 17] [17])))))))
 (.seq (.reg [mv 18 3,
 mv 2 18] [18])
 .ret))))⟩

theorem c_names_indexes : compF Tryd.prog 85 = some F_names_indexes := by kernel_rfl
abbrev n_names_indexes : FuncId := 85

def F_Poctet_Writer_sound : IFun :=
⟨18, 1, [.tmp 2],
 (.seq (.reg [o0 2 (.mov (.c (.bool false)))] [])
 (.seq (.reg [mv 3 0,
 o0 4 (.pbin .neq (.s 3) (.c .np)),
 mv 5 4,
 mt 6 0 5,
 ot 7 5 (.nchk (.s 6)),
 ot 8 5 (.fadr 0 (.s 7)),
 ot 9 5 (.load none (.s 8)),
 o0 10 (.pick (.s 5) (.s 9) (.c (.bool false))),
 mv 11 10,
 mt 12 0 11,
 ot 13 11 (.nchk (.s 12)),
 ot 14 11 (.fadr 2 (.s 13)),
 ot 15 11 (.load none (.s 14)),
 ot 16 11 (.bin .eql (.s 15) (.c (.int .i64 0))),
 o0 17 (.pick (.s 11) (.s 16) (.c (.bool false))),
 mv 2 17] [3, 4, 5, 6, 7, 8, 9, 10, 11, 12, 13, 14, 15, 16, 17])
 .ret))⟩

theorem c_Poctet_Writer_sound : compF Tryd.prog 92 = some F_Poctet_Writer_sound := by kernel_rfl
abbrev n_Poctet_Writer_sound : FuncId := 92

def F_utf8_word_string : IFun :=
⟨59, 1, [.tmp 2],
 (.seq (.reg [o0 2 (.mov (.c (.int .u64 0)))] [])
 (.seq (.cond (.c (.bool false))
 (.seq (.seq (.draw [⟨mv 3 0, []⟩,
 ⟨o0 4 (.sidx (.s 3) (.c (.int .i64 0))), [0]⟩,
 ⟨o0 5 (.cvi .u64 (.s 4)), [1, 0]⟩,
 ⟨mv 6 0, []⟩,
 ⟨o0 7 (.sidx (.s 6) (.c (.int .i64 1))), [3]⟩,
 ⟨o0 8 (.cvi .u64 (.s 7)), [4, 3]⟩,
 ⟨o0 9 (.bin .shl (.s 8) (.c (.int .u64 8))), [5, 4, 3]⟩,
 ⟨o0 10 (.bin .or (.s 5) (.s 9)), [2, 1, 0, 6, 5, 4, 3]⟩,
 ⟨mv 11 0, []⟩,
 ⟨o0 12 (.sidx (.s 11) (.c (.int .i64 2))), [8]⟩,
 ⟨o0 13 (.cvi .u64 (.s 12)), [9, 8]⟩,
 ⟨o0 14 (.bin .shl (.s 13) (.c (.int .u64 16))), [10, 9, 8]⟩,
 ⟨o0 15 (.bin .or (.s 10) (.s 14)), [7, 2, 1, 0, 6, 5, 4, 3, 11, 10, 9, 8]⟩,
 ⟨mv 16 0, []⟩,
 ⟨o0 17 (.sidx (.s 16) (.c (.int .i64 3))), [13]⟩,
 ⟨o0 18 (.cvi .u64 (.s 17)), [14, 13]⟩,
 ⟨o0 19 (.bin .shl (.s 18) (.c (.int .u64 24))), [15, 14, 13]⟩] [] [])
 (.seq (.reg [o0 20 (.bin .or (.s 15) (.s 19))] [])
 (.reg [mv 2 20] [3, 4, 5, 6, 7, 8, 9, 10, 11, 12, 13, 14, 15, 16, 17, 18, 19, 20])))
 .ret)
 .skip)
 (.seq (.seq (.draw [⟨mv 21 0, []⟩,
 ⟨o0 22 (.sidx (.s 21) (.c (.int .i64 0))), [0]⟩,
 ⟨o0 23 (.cvi .u64 (.s 22)), [1, 0]⟩,
 ⟨mv 24 0, []⟩,
 ⟨o0 25 (.sidx (.s 24) (.c (.int .i64 1))), [3]⟩,
 ⟨o0 26 (.cvi .u64 (.s 25)), [4, 3]⟩,
 ⟨o0 27 (.bin .shl (.s 26) (.c (.int .u64 8))), [5, 4, 3]⟩,
 ⟨o0 28 (.bin .or (.s 23) (.s 27)), [2, 1, 0, 6, 5, 4, 3]⟩,
 ⟨mv 29 0, []⟩,
 ⟨o0 30 (.sidx (.s 29) (.c (.int .i64 2))), [8]⟩,
 ⟨o0 31 (.cvi .u64 (.s 30)), [9, 8]⟩,
 ⟨o0 32 (.bin .shl (.s 31) (.c (.int .u64 16))), [10, 9, 8]⟩,
 ⟨o0 33 (.bin .or (.s 28) (.s 32)), [7, 2, 1, 0, 6, 5, 4, 3, 11, 10, 9, 8]⟩,
 ⟨mv 34 0, []⟩,
 ⟨o0 35 (.sidx (.s 34) (.c (.int .i64 3))), [13]⟩,
 ⟨o0 36 (.cvi .u64 (.s 35)), [14, 13]⟩,
 ⟨o0 37 (.bin .shl (.s 36) (.c (.int .u64 24))), [15, 14, 13]⟩,
 ⟨o0 38 (.bin .or (.s 33) (.s 37)), [12, 7, 2, 1, 0, 6, 5, 4, 3, 11, 10, 9, 8, 16, 15, 14, 13]⟩,
 ⟨mv 39 0, []⟩,
 ⟨o0 40 (.sidx (.s 39) (.c (.int .i64 4))), [18]⟩,
 ⟨o0 41 (.cvi .u64 (.s 40)), [19, 18]⟩,
 ⟨o0 42 (.bin .shl (.s 41) (.c (.int .u64 32))), [20, 19, 18]⟩,
 ⟨o0 43 (.bin .or (.s 38) (.s 42)), [17, 12, 7, 2, 1, 0, 6, 5, 4, 3, 11, 10, 9, 8, 16, 15, 14, 13, 21, 20, 19, 18]⟩,
 ⟨mv 44 0, []⟩,
 ⟨o0 45 (.sidx (.s 44) (.c (.int .i64 5))), [23]⟩,
 ⟨o0 46 (.cvi .u64 (.s 45)), [24, 23]⟩,
 ⟨o0 47 (.bin .shl (.s 46) (.c (.int .u64 40))), [25, 24, 23]⟩,
 ⟨o0 48 (.bin .or (.s 43) (.s 47)), [22, 17, 12, 7, 2, 1, 0, 6, 5, 4, 3, 11, 10, 9, 8, 16, 15, 14, 13, 21, 20, 19, 18, 26, 25, 24, 23]⟩,
 ⟨mv 49 0, []⟩,
 ⟨o0 50 (.sidx (.s 49) (.c (.int .i64 6))), [28]⟩,
 ⟨o0 51 (.cvi .u64 (.s 50)), [29, 28]⟩,
 ⟨o0 52 (.bin .shl (.s 51) (.c (.int .u64 48))), [30, 29, 28]⟩,
 ⟨o0 53 (.bin .or (.s 48) (.s 52)), [27, 22, 17, 12, 7, 2, 1, 0, 6, 5, 4, 3, 11, 10, 9, 8, 16, 15, 14, 13, 21, 20, 19, 18, 26, 25, 24, 23, 31, 30, 29, 28]⟩,
 ⟨mv 54 0, []⟩,
 ⟨o0 55 (.sidx (.s 54) (.c (.int .i64 7))), [33]⟩,
 ⟨o0 56 (.cvi .u64 (.s 55)), [34, 33]⟩,
 ⟨o0 57 (.bin .shl (.s 56) (.c (.int .u64 56))), [35, 34, 33]⟩] [] [])
 (.seq (.reg [o0 58 (.bin .or (.s 53) (.s 57))] [])
 (.reg [mv 2 58] [21, 22, 23, 24, 25, 26, 27, 28, 29, 30, 31, 32, 33, 34, 35, 36, 37, 38, 39, 40, 41, 42, 43, 44, 45, 46, 47, 48, 49, 50, 51, 52, 53, 54, 55, 56, 57, 58])))
 .ret)))⟩

theorem c_utf8_word_string : compF Tryd.prog 93 = some F_utf8_word_string := by kernel_rfl
abbrev n_utf8_word_string : FuncId := 93

def F_Poctet_Reader_cut : IFun :=
⟨29, 2, [.tmp 4],
 (.seq (.reg [o0 4 (.mov (.c .nl))] [])
 (.seq (.reg [mv 7 0,
 o0 8 (.nchk (.s 7)),
 o0 9 (.fadr 2 (.s 8)),
 o0 10 (.load none (.s 9)),
 mv 11 1,
 o0 12 (.bin .add (.s 10) (.s 11)),
 mv 5 12] [7, 8, 9, 10, 11, 12])
 (.seq (.seq (.draw [⟨mv 13 0, []⟩,
 ⟨o0 14 (.nchk (.s 13)), [0]⟩,
 ⟨o0 15 (.fadr 1 (.s 14)), [1, 0]⟩,
 ⟨o0 16 (.load none (.s 15)), [2, 1, 0]⟩,
 ⟨mv 17 0, []⟩,
 ⟨o0 18 (.nchk (.s 17)), [4]⟩,
 ⟨o0 19 (.fadr 2 (.s 18)), [5, 4]⟩,
 ⟨o0 20 (.load none (.s 19)), [6, 5, 4]⟩,
 ⟨mv 21 5, []⟩,
 ⟨mv 22 5, []⟩] [] [])
 (.seq (.reg [o0 23 (.slc 1 (.s 16) (some (.s 20)) (some (.s 21)) (some (.s 22)))] [])
 (.reg [mv 6 23] [13, 14, 15, 16, 17, 18, 19, 20, 21, 22, 23])))
 (.seq (.reg [mv 24 0,
 mv 25 5,
 o0 26 (.nchk (.s 24)),
 o0 27 (.fadr 2 (.s 26)),
 ⟨none, .store 1 (.s 27) (.s 25), none⟩] [24, 25, 26, 27])
 (.seq (.reg [mv 28 6,
 mv 4 28] [28])
 .ret)))))⟩

theorem c_Poctet_Reader_cut : compF Tryd.prog 94 = some F_Poctet_Reader_cut := by kernel_rfl
abbrev n_Poctet_Reader_cut : FuncId := 94

def F_leb_U : IFun :=
⟨32, 2, [.tmp 4, .tmp 5, .tmp 6],
 (.seq (.reg [o0 4 (.mov (.c (.int .u64 0))),
 o0 5 (.mov (.c (.int .i64 0))),
 o0 6 (.mov (.c (.int .i64 0)))] [])
 (.seq (.reg [mv 11 0,
 mv 12 1,
 o0 13 (.call 104 [(.s 11), (.s 12)]),
 mv 10 13,
 o0 14 (.ext (.s 10) 0),
 o0 15 (.ext (.s 10) 1),
 o0 16 (.ext (.s 10) 2),
 mv 7 14,
 mv 8 15,
 mv 9 16] [11, 12, 13, 10, 14, 15, 16])
 (.seq (.seq (.reg [mv 17 9,
 o0 18 (.bin .neq (.s 17) (.c (.int .i64 0)))] [17])
 (.cond (.s 18)
 (.seq (.reg [mv 19 9,
 o0 4 (.mov (.c (.int .u64 0))),
 o0 5 (.mov (.c (.int .i64 0))),
 mv 6 19] [19])
 .ret)
 .skip))
 (.seq (.seq (.reg [mv 20 0,
 mv 21 7,
 o0 22 (.iadr 1 (.s 20) (.s 21)),
 o0 23 (.load none (.s 22)),
 mv 24 8,
 o0 25 (.bin .shr (.s 23) (.s 24)),
 o0 26 (.bin .neq (.s 25) (.c (.int .u8 0)))] [20, 21, 22, 23, 24, 25])
 (.cond (.s 26)
 (.seq (.reg [o0 4 (.mov (.c (.int .u64 0))),
 o0 5 (.mov (.c (.int .i64 0))),
 o0 6 (.mov (.c (.int .i64 4)))] [])
 .ret)
 .skip))
 (.seq (.reg [mv 27 0,
 mv 28 7,
 o0 29 (.call 105 [(.s 27), (.s 28)]),
 mv 30 7,
 o0 31 (.bin .add (.s 30) (.c (.int .i64 1))),
 mv 4 29,
 mv 5 31,
 o0 6 (.mov (.c (.int .i64 0)))] [27, 28, 29, 30, 31])
 .ret)))))⟩

theorem c_leb_U : compF Tryd.prog 95 = some F_leb_U := by kernel_rfl
abbrev n_leb_U : FuncId := 95

def F_mods_each_api_Instr : IFun :=
⟨22, 2, [.tmp 4],
 (.seq (.reg [o0 4 (.mov (.c .nl))] [])
 (.seq (.reg [o0 5 (.mov (.c .nl))] [])
 (.seq (.seq (.reg [mv 8 0,
 o0 9 (.len (.s 8)),
 o0 10 (.mov (.c (.int .i64 0)))] [])
 (.block 0 (.loop (.seq (.reg [o0 11 (.bin .lss (.s 10) (.s 9))] [])
 (.seq (.cond (.s 11)
 .skip
 (.exit 0))
 (.seq (.block 1 (.seq (.reg [o0 12 (.iadr 9 (.s 8) (.s 10)),
 o0 13 (.load (some 9) (.s 12)),
 o0 7 (.new 186 [(.int .i64 0), (.int .i64 0), (.int .i64 0), (.int .u64 0), (.int .i64 0), (.int .i64 0), (.int .i64 0), .nl, .nl]),
 ⟨none, .store 9 (.s 7) (.s 13), none⟩] [12, 13])
 (.reg [mv 14 5,
 mv 15 1,
 o0 16 (.load (some 9) (.s 7)),
 o0 17 (.callv (.s 15) [(.s 16)]),
 o0 18 (.bsl 186 9 [[(.int .i64 0), (.int .i64 0), (.int .i64 0), (.int .u64 0), (.int .i64 0), (.int .i64 0), (.int .i64 0), .nl, .nl]] [(0, (.s 17))]),
 o0 19 (.app 186 9 (.s 14) (.s 18)),
 mv 5 19] [14, 15, 16, 17, 18, 19])))
 (.reg [o0 20 (.bin .add (.s 10) (.c (.int .i64 1))),
 mv 10 20] [20])))))))
 (.seq (.reg [mv 21 5,
 mv 4 21] [21])
 .ret))))⟩

theorem c_mods_each_api_Instr : compF Tryd.prog 96 = some F_mods_each_api_Instr := by kernel_rfl
abbrev n_mods_each_api_Instr : FuncId := 96

def F_mods_body_1 : IFun :=
⟨12, 1, [.cell 2 (some 9)],
 (.seq (.reg [o0 1 (.box 186 9 (.s 0)),
 o0 2 (.new 186 [(.int .i64 0), (.int .i64 0), (.int .i64 0), (.int .u64 0), (.int .i64 0), (.int .i64 0), (.int .i64 0), .nl, .nl])] [])
 (.seq (.seq (.draw [⟨o0 3 (.fadr 7 (.s 1)), []⟩,
 ⟨o0 4 (.load none (.s 3)), [0]⟩,
 ⟨o0 5 (.call 66 [(.s 4)]), [1, 0]⟩,
 ⟨o0 6 (.fadr 8 (.s 1)), []⟩,
 ⟨o0 7 (.load none (.s 6)), [3]⟩] [] [])
 (.seq (.draw [⟨o0 8 (.call 98 [(.s 7)]), []⟩,
 ⟨o0 9 (.fadr 7 (.s 1)), []⟩] [] [])
 (.seq (.reg [⟨none, .store 1 (.s 9) (.s 5), none⟩] [])
 (.seq (.reg [o0 10 (.fadr 8 (.s 1))] [])
 (.reg [⟨none, .store 1 (.s 10) (.s 8), none⟩] [3, 4, 5, 6, 7, 8, 9, 10])))))
 (.seq (.reg [o0 11 (.load (some 9) (.s 1)),
 ⟨none, .store 9 (.s 2) (.s 11), none⟩] [11])
 .ret)))⟩

theorem c_mods_body_1 : compF Tryd.prog 97 = some F_mods_body_1 := by kernel_rfl
abbrev n_mods_body_1 : FuncId := 97

def F_slices_Clone_int_int : IFun :=
⟨8, 1, [.tmp 2],
 (.seq (.reg [o0 2 (.mov (.c .nl))] [])
 (.seq (.seq (.reg [mv 3 0,
 o0 4 (.snl false (.s 3))] [3])
 (.cond (.s 4)
 (.seq (.reg [o0 2 (.mov (.c .nl))] [])
 .ret)
 .skip))
 (.seq (.reg [o0 5 (.bsl 3 1 [] []),
 mv 6 0,
 o0 7 (.app 3 1 (.s 5) (.s 6)),
 mv 2 7] [5, 6, 7])
 .ret)))⟩

theorem c_slices_Clone_int_int : compF Tryd.prog 98 = some F_slices_Clone_int_int := by kernel_rfl
abbrev n_slices_Clone_int_int : FuncId := 98

def F_utf_Runes : IFun :=
⟨27, 1, [.tmp 2, .tmp 3],
 (.seq (.reg [o0 2 (.mov (.c .nl)),
 o0 3 (.mov (.c (.bool false)))] [])
 (.seq (.reg [o0 4 (.mov (.c .nl))] [])
 (.seq (.seq (.reg [mv 7 0,
 o0 8 (.mop .rng [(.s 7)])] [7])
 (.block 0 (.loop (.seq (.reg [o0 9 (.mop .nxt [(.s 8)]),
 o0 10 (.ext (.s 9) 0)] [])
 (.seq (.cond (.s 10)
 .skip
 (.exit 0))
 (.block 1 (.seq (.reg [o0 11 (.ext (.s 9) 1),
 o0 12 (.ext (.s 9) 2),
 mv 5 11,
 mv 6 12] [11, 12])
 (.seq (.seq (.reg [mv 13 6,
 o0 14 (.bin .eql (.s 13) (.c (.int .i32 65533))),
 mv 15 14,
 mt 16 0 15,
 mt 17 5 15,
 ot 18 15 (.sslc (.s 16) (some (.s 17)) none),
 ot 19 15 (.call 106 [(.s 18), (.c (.str [239, 191, 189]))]),
 ot 20 15 (.un .not (.s 19)),
 o0 21 (.pick (.s 15) (.s 20) (.c (.bool false)))] [13, 14, 15, 16, 17, 18, 19, 20])
 (.cond (.s 21)
 (.seq (.reg [o0 2 (.mov (.c .nl)),
 o0 3 (.mov (.c (.bool false)))] [])
 .ret)
 .skip))
 (.reg [mv 22 4,
 mv 23 6,
 o0 24 (.bsl 21 1 [[(.int .i32 0)]] [(0, (.s 23))]),
 o0 25 (.app 21 1 (.s 22) (.s 24)),
 mv 4 25] [22, 23, 24, 25])))))))))
 (.seq (.reg [mv 26 4,
 mv 2 26,
 o0 3 (.mov (.c (.bool true)))] [26])
 .ret))))⟩

theorem c_utf_Runes : compF Tryd.prog 99 = some F_utf_Runes := by kernel_rfl
abbrev n_utf_Runes : FuncId := 99

def F_leb_last : IFun :=
⟨42, 2, [.tmp 4, .tmp 5, .tmp 6],
 (.seq (.reg [o0 4 (.mov (.c (.int .i64 0))),
 o0 5 (.mov (.c (.int .i64 0))),
 o0 6 (.mov (.c (.int .i64 0)))] [])
 (.seq (.seq (.reg [mv 9 1,
 o0 10 (.bin .lss (.s 9) (.c (.int .i64 1))),
 mv 11 10,
 mf 12 1 11,
 oF 13 11 (.bin .gtr (.s 12) (.c (.int .i64 64))),
 o0 14 (.pick (.s 11) (.c (.bool true)) (.s 13))] [9, 10, 11, 12, 13])
 (.cond (.s 14)
 (.seq (.reg [o0 4 (.mov (.c (.int .i64 0))),
 o0 5 (.mov (.c (.int .i64 0))),
 o0 6 (.mov (.c (.int .i64 1)))] [])
 .ret)
 .skip))
 (.seq (.reg [mv 15 1,
 o0 16 (.bin .add (.s 15) (.c (.int .i64 6))),
 o0 17 (.bin .quo (.s 16) (.c (.int .i64 7))),
 mv 7 17] [15, 16, 17])
 (.seq (.seq (.reg [mv 18 7,
 o0 19 (.mov (.c (.int .i64 0)))] [])
 (.block 0 (.loop (.seq (.reg [o0 20 (.bin .lss (.s 19) (.s 18))] [])
 (.seq (.cond (.s 20)
 .skip
 (.exit 0))
 (.seq (.block 1 (.seq (.reg [mv 21 19,
 mv 8 21] [21])
 (.seq (.seq (.reg [mv 22 8,
 mv 23 0,
 o0 24 (.len (.s 23)),
 o0 25 (.bin .geq (.s 22) (.s 24))] [22, 23, 24])
 (.cond (.s 25)
 (.seq (.reg [o0 4 (.mov (.c (.int .i64 0))),
 o0 5 (.mov (.c (.int .i64 0))),
 o0 6 (.mov (.c (.int .i64 3)))] [])
 .ret)
 .skip))
 (.seq (.seq (.reg [mv 26 0,
 mv 27 8,
 o0 28 (.iadr 1 (.s 26) (.s 27)),
 o0 29 (.load none (.s 28)),
 o0 30 (.bin .geq (.s 29) (.c (.int .u8 128)))] [26, 27, 28, 29])
 (.cond (.s 30)
 (.exit 1)
 .skip))
 (.seq (.seq (.reg [mv 31 8,
 mv 32 7,
 o0 33 (.bin .sub (.s 32) (.c (.int .i64 1))),
 o0 34 (.bin .eql (.s 31) (.s 33))] [31, 32, 33])
 (.cond (.s 34)
 (.seq (.reg [mv 35 8,
 mv 36 1,
 mv 37 8,
 o0 38 (.bin .mul (.c (.int .i64 7)) (.s 37)),
 o0 39 (.bin .sub (.s 36) (.s 38)),
 mv 4 35,
 mv 5 39,
 o0 6 (.mov (.c (.int .i64 0)))] [35, 36, 37, 38, 39])
 .ret)
 .skip))
 (.seq (.reg [mv 40 8,
 mv 4 40,
 o0 5 (.mov (.c (.int .i64 7))),
 o0 6 (.mov (.c (.int .i64 0)))] [40])
 .ret))))))
 (.reg [o0 41 (.bin .add (.s 19) (.c (.int .i64 1))),
 mv 19 41] [41])))))))
 (.seq (.reg [o0 4 (.mov (.c (.int .i64 0))),
 o0 5 (.mov (.c (.int .i64 0))),
 o0 6 (.mov (.c (.int .i64 4)))] [])
 .ret)))))⟩

theorem c_leb_last : compF Tryd.prog 104 = some F_leb_last := by kernel_rfl
abbrev n_leb_last : FuncId := 104

def F_leb_sum : IFun :=
⟨25, 2, [.tmp 4],
 (.seq (.reg [o0 4 (.mov (.c (.int .u64 0)))] [])
 (.seq (.reg [o0 5 (.mov (.c (.int .u64 0)))] [])
 (.seq (.seq (.reg [mv 7 1,
 o0 8 (.bin .add (.s 7) (.c (.int .i64 1))),
 o0 9 (.mov (.c (.int .i64 0)))] [7])
 (.block 0 (.loop (.seq (.reg [o0 10 (.bin .lss (.s 9) (.s 8))] [])
 (.seq (.cond (.s 10)
 .skip
 (.exit 0))
 (.seq (.block 1 (.seq (.reg [mv 11 9,
 mv 6 11] [11])
 (.reg [mv 12 5,
 mv 13 0,
 mv 14 6,
 o0 15 (.iadr 1 (.s 13) (.s 14)),
 o0 16 (.load none (.s 15)),
 o0 17 (.bin .and (.s 16) (.c (.int .u8 127))),
 o0 18 (.cvi .u64 (.s 17)),
 mv 19 6,
 o0 20 (.bin .mul (.c (.int .i64 7)) (.s 19)),
 o0 21 (.bin .shl (.s 18) (.s 20)),
 o0 22 (.bin .or (.s 12) (.s 21)),
 mv 5 22] [12, 13, 14, 15, 16, 17, 18, 19, 20, 21, 22])))
 (.reg [o0 23 (.bin .add (.s 9) (.c (.int .i64 1))),
 mv 9 23] [23])))))))
 (.seq (.reg [mv 24 5,
 mv 4 24] [24])
 .ret))))⟩

theorem c_leb_sum : compF Tryd.prog 105 = some F_leb_sum := by kernel_rfl
abbrev n_leb_sum : FuncId := 105

def F_strings_HasPrefix : IFun :=
⟨8, 2, [.tmp 4],
 (.seq (.reg [o0 4 (.mov (.c (.bool false)))] [])
 (.seq (.reg [mv 5 0,
 mv 6 1,
 o0 7 (.call 109 [(.s 5), (.s 6)]),
 mv 4 7] [5, 6, 7])
 .ret))⟩

theorem c_strings_HasPrefix : compF Tryd.prog 106 = some F_strings_HasPrefix := by kernel_rfl
abbrev n_strings_HasPrefix : FuncId := 106

def F_stringslite_HasPrefix : IFun :=
⟨18, 2, [.tmp 4],
 (.seq (.reg [o0 4 (.mov (.c (.bool false)))] [])
 (.seq (.reg [mv 5 0,
 o0 6 (.slen (.s 5)),
 mv 7 1,
 o0 8 (.slen (.s 7)),
 o0 9 (.bin .geq (.s 6) (.s 8)),
 mv 10 9,
 mt 11 0 10,
 mt 12 1 10,
 ot 13 10 (.slen (.s 12)),
 ot 14 10 (.sslc (.s 11) none (some (.s 13))),
 mt 15 1 10,
 ot 16 10 (.bin .eql (.s 14) (.s 15)),
 o0 17 (.pick (.s 10) (.s 16) (.c (.bool false))),
 mv 4 17] [5, 6, 7, 8, 9, 10, 11, 12, 13, 14, 15, 16, 17])
 .ret))⟩

theorem c_stringslite_HasPrefix : compF Tryd.prog 109 = some F_stringslite_HasPrefix := by kernel_rfl
abbrev n_stringslite_HasPrefix : FuncId := 109

theorem mixed : Tryd.prog.follows .mixedOrders = true := by kernel_rfl
end Go.Proofs.YtoikbadfbneahaaDoor
