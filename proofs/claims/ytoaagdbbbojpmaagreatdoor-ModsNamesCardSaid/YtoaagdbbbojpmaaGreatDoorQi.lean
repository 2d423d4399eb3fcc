/- Texts of a claim. -/
import Derived.Test.YtoaagdbbbojpmaaGreatDoorQb
import Derived.Test.YtoaagdbbbojpmaaGreatDoorProg
import Derived.KernelRfl
set_option linter.unusedVariables false
set_option linter.unusedSimpArgs false
set_option linter.unusedSectionVars false
namespace Go.Proofs.YtoaagdbbbojpmaaGreatDoor
open Go.Mw

def FX53:IFun :=
⟨81,2,[.tmp 4],
 (.seq (.reg [o0 2 (.box 65 3 (.s 0)),
 o0 3 (.box 65 3 (.s 1)),
 o0 4 (.mov (.c (.bool false)))] [])
 (.seq (.seq (.reg [o0 6 (.fadr 1 (.s 2)),
 o0 7 (.load none (.s 6)),
 o0 8 (.len (.s 7)),
 o0 9 (.bin .gtr (.s 8) (.c (.int .i64 60))),
 mv 10 9,
 oF 11 10 (.fadr 1 (.s 3)),
 oF 12 10 (.load none (.s 11)),
 oF 13 10 (.len (.s 12)),
 oF 14 10 (.bin .gtr (.s 13) (.c (.int .i64 60))),
 o0 15 (.pick (.s 10) (.c (.bool true)) (.s 14)),
 mv 16 15,
 oF 17 16 (.fadr 2 (.s 2)),
 oF 18 16 (.load none (.s 17)),
 oF 19 16 (.len (.s 18)),
 oF 20 16 (.bin .gtr (.s 19) (.c (.int .i64 60))),
 o0 21 (.pick (.s 16) (.c (.bool true)) (.s 20)),
 mv 22 21,
 oF 23 22 (.fadr 2 (.s 3)),
 oF 24 22 (.load none (.s 23)),
 oF 25 22 (.len (.s 24)),
 oF 26 22 (.bin .gtr (.s 25) (.c (.int .i64 60))),
 o0 27 (.pick (.s 22) (.c (.bool true)) (.s 26))] [6,7,8,9,10,11,12,13,14,15,16,17,18,19,20,21,22,23,24,25,26])
 (.cond (.s 27)
 (.seq (.reg [o0 28 (.call 11 []),
 mv 4 28] [28])
 .ret)
 .skip))
 (.seq (.seq (.reg [o0 5 (.mov (.c (.int .i64 0)))] [])
 (.block 0 (.loop (.seq (.seq (.reg [mv 29 5,
 o0 30 (.fadr 2 (.s 2)),
 o0 31 (.load none (.s 30)),
 o0 32 (.len (.s 31)),
 o0 33 (.bin .lss (.s 29) (.s 32)),
 mv 34 33,
 mt 35 5 34,
 ot 36 34 (.fadr 2 (.s 3)),
 ot 37 34 (.load none (.s 36)),
 ot 38 34 (.len (.s 37)),
 ot 39 34 (.bin .lss (.s 35) (.s 38)),
 o0 40 (.pick (.s 34) (.s 39) (.c (.bool false)))] [29,30,31,32,33,34,35,36,37,38,39])
 (.cond (.s 40)
 .skip
 (.exit 0)))
 (.seq (.block 1 (.seq (.reg [o0 43 (.fadr 2 (.s 2)),
 o0 44 (.load none (.s 43)),
 mv 45 5,
 o0 46 (.iadr 2 (.s 44) (.s 45)),
 o0 47 (.fadr 1 (.s 46)),
 o0 48 (.load none (.s 47)),
 o0 49 (.len (.s 48)),
 o0 50 (.bin .gtr (.s 49) (.c (.int .i64 60))),
 mv 51 50,
 oF 52 51 (.fadr 2 (.s 3)),
 oF 53 51 (.load none (.s 52)),
 mf 54 5 51,
 oF 55 51 (.iadr 2 (.s 53) (.s 54)),
 oF 56 51 (.fadr 1 (.s 55)),
 oF 57 51 (.load none (.s 56)),
 oF 58 51 (.len (.s 57)),
 oF 59 51 (.bin .gtr (.s 58) (.c (.int .i64 60))),
 o0 60 (.pick (.s 51) (.c (.bool true)) (.s 59))] [43,44,45,46,47,48,49,50,51,52,53,54,55,56,57,58,59])
 (.cond (.s 60)
 (.seq (.reg [o0 61 (.call 11 []),
 mv 4 61] [61])
 .ret)
 .skip)))
 (.reg [mv 41 5,
 o0 42 (.bin .add (.s 41) (.c (.int .i64 1))),
 mv 5 42] [41,42]))))))
 (.seq (.seq (.draw [⟨o0 62 (.load (some 3) (.s 2)),[]⟩,
 ⟨o0 63 (.load (some 3) (.s 3)),[]⟩,
 ⟨o0 64 (.call 23 [(.s 62),(.s 63)]),[0,1]⟩,
 ⟨o0 65 (.load (some 3) (.s 2)),[]⟩,
 ⟨o0 66 (.load (some 3) (.s 3)),[]⟩] [] [])
 (.seq (.reg [o0 67 (.call 24 [(.s 65),(.s 66)])] [])
 (.seq (.reg [o0 68 (.bbin .eql (.s 64) (.s 67))] [])
 (.seq (.reg [mv 69 68] [])
 (.seq (.draw [⟨ot 70 69 (.load (some 3) (.s 3)),[]⟩,
 ⟨ot 71 69 (.load (some 3) (.s 2)),[]⟩,
 ⟨ot 72 69 (.call 23 [(.s 70),(.s 71)]),[0,1]⟩,
 ⟨ot 73 69 (.load (some 3) (.s 2)),[]⟩,
 ⟨ot 74 69 (.load (some 3) (.s 3)),[]⟩] [] [])
 (.seq (.reg [ot 75 69 (.call 24 [(.s 73),(.s 74)])] [])
 (.seq (.reg [ot 76 69 (.bbin .eql (.s 72) (.s 75))] [])
 (.seq (.reg [o0 77 (.pick (.s 69) (.s 76) (.c (.bool false)))] [])
 (.seq (.reg [mv 78 77] [])
 (.seq (.reg [ot 79 78 (.call 11 [])] [])
 (.seq (.reg [o0 80 (.pick (.s 78) (.s 79) (.c (.bool false)))] [])
 (.reg [mv 4 80] [62,63,64,65,66,67,68,69,70,71,72,73,74,75,76,77,78,79,80]))))))))))))
 .ret))))⟩

theorem cX53:compF Tryz.prog 9 = some FX53:=by kernel_rfl
abbrev nX53:FuncId:=9

def FX79:IFun :=
⟨60,0,[.tmp 0],
 (.seq (.reg [o0 0 (.mov (.c (.bool false)))] [])
 (.seq (.reg [o0 5 (.build [(.int .i64 0),(.int .i64 0),(.int .i64 0),(.int .u64 0),(.int .i64 0),(.int .i64 0),(.int .i64 0),.nl,.nl] [(0,1,(.c (.int .i64 11)))]),
 o0 1 (.new 61 [(.int .i64 0),(.int .i64 0),(.int .i64 0),(.int .u64 0),(.int .i64 0),(.int .i64 0),(.int .i64 0),.nl,.nl]),
 ⟨none,.store 9 (.s 1) (.s 5),none⟩] [5])
 (.seq (.reg [o0 6 (.build [.nl,.nl] []),
 o0 7 (.bsl 71 2 [[.nl,.nl]] [(0,(.s 6))]),
 o0 8 (.build [(.int .i64 0),(.int .i64 0),(.int .i64 0),(.int .u64 0),(.int .i64 0),(.int .i64 0),(.int .i64 0),.nl,.nl] [(0,1,(.c (.int .i64 6)))]),
 o0 9 (.load (some 9) (.s 1)),
 o0 10 (.bsl 61 9 [[(.int .i64 0),(.int .i64 0),(.int .i64 0),(.int .u64 0),(.int .i64 0),(.int .i64 0),(.int .i64 0),.nl,.nl],[(.int .i64 0),(.int .i64 0),(.int .i64 0),(.int .u64 0),(.int .i64 0),(.int .i64 0),(.int .i64 0),.nl,.nl]] [(0,(.s 8)),(1,(.s 9))]),
 o0 11 (.build [(.int .i64 0),.nl,.nl] [(2,1,(.s 10))]),
 o0 12 (.bsl 52 3 [[(.int .i64 0),.nl,.nl]] [(0,(.s 11))]),
 o0 13 (.build [.nl,.nl,.nl,.nl,.nl,.nl,.nl,(.bool false),(.int .i64 0),.nl,.nl,.nl] [(0,1,(.s 7)),(2,1,(.s 12))]),
 o0 2 (.new 33 [.nl,.nl,.nl,.nl,.nl,.nl,.nl,(.bool false),(.int .i64 0),.nl,.nl,.nl]),
 ⟨none,.store 12 (.s 2) (.s 13),none⟩] [6,7,8,9,10,11,12,13])
 (.seq (.reg [o0 14 (.build [.nl,.nl,.nl,.nl,.nl,.nl,.nl,(.bool false),(.int .i64 0),.nl,.nl,.nl] []),
 o0 3 (.new 33 [.nl,.nl,.nl,.nl,.nl,.nl,.nl,(.bool false),(.int .i64 0),.nl,.nl,.nl]),
 ⟨none,.store 12 (.s 3) (.s 14),none⟩] [14])
 (.seq (.seq (.reg [o0 4 (.mov (.c (.int .i64 0)))] [])
 (.block 0 (.loop (.seq (.seq (.reg [mv 15 4,
 o0 16 (.bin .lss (.s 15) (.c (.int .i64 5)))] [15])
 (.cond (.s 16)
 .skip
 (.exit 0)))
 (.seq (.block 1 (.reg [o0 19 (.fadr 1 (.s 3)),
 o0 20 (.load none (.s 19)),
 o0 21 (.build [(.int .i64 0),(.int .i64 0),(.int .i64 0),(.bool false)] [(0,1,(.c (.int .i64 3)))]),
 o0 22 (.build [(.str []),(.str []),(.int .i64 0),(.int .i64 0),(.int .i64 0),(.int .i64 0),(.int .i64 0),(.bool false),(.int .i64 0),(.int .i64 0),(.bool false),(.int .i64 0),(.bool false)] [(2,1,(.c (.int .i64 1))),(4,4,(.s 21))]),
 o0 23 (.bsl 80 13 [[(.str []),(.str []),(.int .i64 0),(.int .i64 0),(.int .i64 0),(.int .i64 0),(.int .i64 0),(.bool false),(.int .i64 0),(.int .i64 0),(.bool false),(.int .i64 0),(.bool false)]] [(0,(.s 22))]),
 o0 24 (.app 80 13 (.s 20) (.s 23)),
 o0 25 (.fadr 1 (.s 3)),
 ⟨none,.store 1 (.s 25) (.s 24),none⟩] [19,20,21,22,23,24,25]))
 (.reg [mv 17 4,
 o0 18 (.bin .add (.s 17) (.c (.int .i64 1))),
 mv 4 18] [17,18]))))))
 (.seq (.reg [o0 26 (.load (some 12) (.s 2)),
 o0 27 (.call 16 [(.s 26)]),
 o0 28 (.build [(.int .i64 0),(.int .i64 0),(.int .i64 0),(.int .i64 0)] [(0,1,(.c (.int .i64 12))),(3,1,(.c (.int .i64 10)))]),
 o0 29 (.sbin .eql [.i,.i,.i,.i] (.s 27) (.s 28)),
 mv 30 29,
 ot 31 30 (.mks 71 2 [.nl,.nl] (.c (.int .i64 65)) (.c (.int .i64 65))),
 ot 32 30 (.build [.nl,.nl,.nl,.nl,.nl,.nl,.nl,(.bool false),(.int .i64 0),.nl,.nl,.nl] [(0,1,(.s 31))]),
 ot 33 30 (.call 16 [(.s 32)]),
 ot 34 30 (.build [(.int .i64 0),(.int .i64 0),(.int .i64 0),(.int .i64 0)] [(0,1,(.c (.int .i64 1))),(1,1,(.c (.int .i64 64))),(3,1,(.c (.int .i64 6)))]),
 ot 35 30 (.sbin .eql [.i,.i,.i,.i] (.s 33) (.s 34)),
 o0 36 (.pick (.s 30) (.s 35) (.c (.bool false))),
 mv 37 36,
 ot 38 37 (.load (some 12) (.s 2)),
 ot 39 37 (.load (some 12) (.s 2)),
 ot 40 37 (.call 12 [(.s 38),(.s 39)]),
 o0 41 (.pick (.s 37) (.s 40) (.c (.bool false))),
 mv 42 41,
 ot 43 42 (.load (some 12) (.s 2)),
 ot 44 42 (.load (some 12) (.s 3)),
 ot 45 42 (.call 12 [(.s 43),(.s 44)]),
 ot 46 42 (.un .not (.s 45)),
 o0 47 (.pick (.s 42) (.s 46) (.c (.bool false))),
 mv 48 47,
 ot 49 48 (.load (some 12) (.s 2)),
 ot 50 48 (.call 14 [(.s 49)]),
 ot 51 48 (.bin .eql (.s 50) (.c (.int .i64 2))),
 o0 52 (.pick (.s 48) (.s 51) (.c (.bool false))),
 mv 53 52,
 ot 54 53 (.load (some 12) (.s 3)),
 ot 55 53 (.call 19 [(.s 54)]),
 ot 56 53 (.fld 1 none (.s 55)),
 ot 57 53 (.len (.s 56)),
 ot 58 53 (.bin .eql (.s 57) (.c (.int .i64 5))),
 o0 59 (.pick (.s 53) (.s 58) (.c (.bool false))),
 mv 0 59] [26,27,28,29,30,31,32,33,34,35,36,37,38,39,40,41,42,43,44,45,46,47,48,49,50,51,52,53,54,55,56,57,58,59])
 .ret))))))⟩

theorem cX79:compF Tryz.prog 11 = some FX79:=by kernel_rfl
abbrev nX79:FuncId:=11

def FX108:IFun :=
⟨99,2,[.tmp 4],
 (.seq (.reg [o0 2 (.box 33 12 (.s 0)),
 o0 3 (.box 33 12 (.s 1)),
 o0 4 (.mov (.c (.bool false)))] [])
 (.seq (.seq (.reg [o0 10 (.fadr 7 (.s 2)),
 o0 11 (.load none (.s 10)),
 o0 12 (.fadr 7 (.s 3)),
 o0 13 (.load none (.s 12)),
 o0 14 (.bbin .neq (.s 11) (.s 13)),
 mv 15 14,
 oF 16 15 (.fadr 7 (.s 2)),
 oF 17 15 (.load none (.s 16)),
 mf 18 17 15,
 ot 19 18 (.fadr 8 (.s 2)),
 ot 20 18 (.load none (.s 19)),
 ot 21 18 (.fadr 8 (.s 3)),
 ot 22 18 (.load none (.s 21)),
 ot 23 18 (.bin .neq (.s 20) (.s 22)),
 oF 24 15 (.pick (.s 18) (.s 23) (.c (.bool false))),
 o0 25 (.pick (.s 15) (.c (.bool true)) (.s 24))] [10,11,12,13,14,15,16,17,18,19,20,21,22,23,24])
 (.cond (.s 25)
 (.seq (.reg [o0 4 (.mov (.c (.bool false)))] [])
 .ret)
 .skip))
 (.seq (.reg [o0 5 (.mov (.c (.fn 26 [])))] [])
 (.seq (.reg [o0 6 (.mov (.c (.fn 29 [])))] [])
 (.seq (.reg [o0 7 (.mov (.c (.fn 30 [])))] [])
 (.seq (.reg [o0 8 (.mov (.c (.fn 32 [])))] [])
 (.seq (.reg [o0 9 (.mov (.c (.fn 33 [])))] [])
 (.seq (.reg [o0 26 (.fadr 0 (.s 2)),
 o0 27 (.load none (.s 26)),
 o0 28 (.fadr 0 (.s 3)),
 o0 29 (.load none (.s 28)),
 o0 30 (.call 34 [(.s 27),(.s 29),(.c (.fn 35 []))]),
 mv 31 30,
 ot 32 31 (.fadr 1 (.s 2)),
 ot 33 31 (.load none (.s 32)),
 ot 34 31 (.fadr 1 (.s 3)),
 ot 35 31 (.load none (.s 34)),
 ot 36 31 (.call 36 [(.s 33),(.s 35),(.c (.fn 37 []))]),
 o0 37 (.pick (.s 31) (.s 36) (.c (.bool false))),
 mv 38 37,
 ot 39 38 (.fadr 2 (.s 2)),
 ot 40 38 (.load none (.s 39)),
 ot 41 38 (.fadr 2 (.s 3)),
 ot 42 38 (.load none (.s 41)),
 mt 43 5 38,
 ot 44 38 (.call 38 [(.s 40),(.s 42),(.s 43)]),
 o0 45 (.pick (.s 38) (.s 44) (.c (.bool false))),
 mv 46 45,
 ot 47 46 (.fadr 3 (.s 2)),
 ot 48 46 (.load none (.s 47)),
 ot 49 46 (.fadr 3 (.s 3)),
 ot 50 46 (.load none (.s 49)),
 ot 51 46 (.call 39 [(.s 48),(.s 50),(.c (.fn 40 []))]),
 o0 52 (.pick (.s 46) (.s 51) (.c (.bool false))),
 mv 53 52,
 ot 54 53 (.fadr 4 (.s 2)),
 ot 55 53 (.load none (.s 54)),
 ot 56 53 (.fadr 4 (.s 3)),
 ot 57 53 (.load none (.s 56)),
 ot 58 53 (.call 41 [(.s 55),(.s 57),(.c (.fn 42 []))]),
 o0 59 (.pick (.s 53) (.s 58) (.c (.bool false))),
 mv 60 59,
 ot 61 60 (.fadr 5 (.s 2)),
 ot 62 60 (.load none (.s 61)),
 ot 63 60 (.fadr 5 (.s 3)),
 ot 64 60 (.load none (.s 63)),
 mt 65 6 60,
 ot 66 60 (.call 43 [(.s 62),(.s 64),(.s 65)]),
 o0 67 (.pick (.s 60) (.s 66) (.c (.bool false))),
 mv 68 67,
 ot 69 68 (.fadr 6 (.s 2)),
 ot 70 68 (.load none (.s 69)),
 ot 71 68 (.fadr 6 (.s 3)),
 ot 72 68 (.load none (.s 71)),
 ot 73 68 (.call 44 [(.s 70),(.s 72),(.c (.fn 45 []))]),
 o0 74 (.pick (.s 68) (.s 73) (.c (.bool false))),
 mv 75 74,
 ot 76 75 (.fadr 9 (.s 2)),
 ot 77 75 (.load none (.s 76)),
 ot 78 75 (.fadr 9 (.s 3)),
 ot 79 75 (.load none (.s 78)),
 mt 80 7 75,
 ot 81 75 (.call 46 [(.s 77),(.s 79),(.s 80)]),
 o0 82 (.pick (.s 75) (.s 81) (.c (.bool false))),
 mv 83 82,
 ot 84 83 (.fadr 10 (.s 2)),
 ot 85 83 (.load none (.s 84)),
 ot 86 83 (.fadr 10 (.s 3)),
 ot 87 83 (.load none (.s 86)),
 mt 88 8 83,
 ot 89 83 (.call 47 [(.s 85),(.s 87),(.s 88)]),
 o0 90 (.pick (.s 83) (.s 89) (.c (.bool false))),
 mv 91 90,
 ot 92 91 (.fadr 11 (.s 2)),
 ot 93 91 (.load none (.s 92)),
 ot 94 91 (.fadr 11 (.s 3)),
 ot 95 91 (.load none (.s 94)),
 mt 96 9 91,
 ot 97 91 (.call 48 [(.s 93),(.s 95),(.s 96)]),
 o0 98 (.pick (.s 91) (.s 97) (.c (.bool false))),
 mv 4 98] [26,27,28,29,30,31,32,33,34,35,36,37,38,39,40,41,42,43,44,45,46,47,48,49,50,51,52,53,54,55,56,57,58,59,60,61,62,63,64,65,66,67,68,69,70,71,72,73,74,75,76,77,78,79,80,81,82,83,84,85,86,87,88,89,90,91,92,93,94,95,96,97,98])
 .ret))))))))⟩

theorem cX108:compF Tryz.prog 12 = some FX108:=by kernel_rfl
abbrev nX108:FuncId:=12

def FX86:IFun :=
⟨79,1,[.tmp 2],
 (.seq (.reg [o0 1 (.box 33 12 (.s 0)),
 o0 2 (.mov (.c (.int .i64 0)))] [])
 (.seq (.reg [o0 3 (.mov (.c (.int .i64 0)))] [])
 (.seq (.seq (.reg [o0 14 (.fadr 2 (.s 1)),
 o0 15 (.load none (.s 14)),
 o0 16 (.len (.s 15)),
 o0 17 (.mov (.c (.int .i64 0)))] [14])
 (.block 0 (.loop (.seq (.reg [o0 18 (.bin .lss (.s 17) (.s 16))] [])
 (.seq (.cond (.s 18)
 .skip
 (.exit 0))
 (.seq (.block 1 (.seq (.reg [o0 19 (.iadr 3 (.s 15) (.s 17)),
 o0 20 (.load (some 3) (.s 19)),
 o0 5 (.new 52 [(.int .i64 0),.nl,.nl]),
 ⟨none,.store 3 (.s 5) (.s 20),none⟩] [19,20])
 (.reg [mv 21 3,
 o0 22 (.fadr 2 (.s 5)),
 o0 23 (.load none (.s 22)),
 o0 24 (.len (.s 23)),
 o0 25 (.bin .add (.s 21) (.s 24)),
 mv 3 25] [21,22,23,24,25])))
 (.reg [o0 26 (.bin .add (.s 17) (.c (.int .i64 1))),
 mv 17 26] [26])))))))
 (.seq (.seq (.reg [o0 27 (.fadr 5 (.s 1)),
 o0 28 (.load none (.s 27)),
 o0 29 (.len (.s 28)),
 o0 30 (.mov (.c (.int .i64 0)))] [27])
 (.block 2 (.loop (.seq (.reg [o0 31 (.bin .lss (.s 30) (.s 29))] [])
 (.seq (.cond (.s 31)
 .skip
 (.exit 2))
 (.seq (.block 3 (.seq (.reg [o0 32 (.iadr 3 (.s 28) (.s 30)),
 o0 33 (.load (some 3) (.s 32)),
 o0 7 (.new 82 [(.int .i64 0),(.bool false),.nl]),
 ⟨none,.store 3 (.s 7) (.s 33),none⟩] [32,33])
 (.reg [mv 34 3,
 o0 35 (.fadr 2 (.s 7)),
 o0 36 (.load none (.s 35)),
 o0 37 (.len (.s 36)),
 o0 38 (.bin .add (.s 34) (.s 37)),
 mv 3 38] [34,35,36,37,38])))
 (.reg [o0 39 (.bin .add (.s 30) (.c (.int .i64 1))),
 mv 30 39] [39])))))))
 (.seq (.seq (.reg [o0 40 (.fadr 9 (.s 1)),
 o0 41 (.load none (.s 40)),
 o0 42 (.len (.s 41)),
 o0 43 (.mov (.c (.int .i64 0)))] [40])
 (.block 4 (.loop (.seq (.reg [o0 44 (.bin .lss (.s 43) (.s 42))] [])
 (.seq (.cond (.s 44)
 .skip
 (.exit 4))
 (.seq (.block 5 (.seq (.reg [o0 45 (.iadr 5 (.s 41) (.s 43)),
 o0 46 (.load (some 5) (.s 45)),
 o0 9 (.new 86 [(.int .i64 0),(.int .i64 0),.nl,(.int .i64 0),.nl]),
 ⟨none,.store 5 (.s 9) (.s 46),none⟩] [45,46])
 (.seq (.reg [mv 47 3,
 o0 48 (.fadr 2 (.s 9)),
 o0 49 (.load none (.s 48)),
 o0 50 (.len (.s 49)),
 o0 51 (.bin .add (.s 47) (.s 50)),
 mv 3 51] [47,48,49,50,51])
 (.seq (.reg [o0 52 (.fadr 4 (.s 9)),
 o0 53 (.load none (.s 52)),
 o0 54 (.len (.s 53)),
 o0 55 (.mov (.c (.int .i64 0)))] [52])
 (.block 6 (.loop (.seq (.reg [o0 56 (.bin .lss (.s 55) (.s 54))] [])
 (.seq (.cond (.s 56)
 .skip
 (.exit 6))
 (.seq (.block 7 (.seq (.reg [o0 57 (.iadr 1 (.s 53) (.s 55)),
 o0 58 (.load none (.s 57)),
 mv 11 58] [57,58])
 (.reg [mv 59 3,
 mv 60 11,
 o0 61 (.len (.s 60)),
 o0 62 (.bin .add (.s 59) (.s 61)),
 mv 3 62] [59,60,61,62])))
 (.reg [o0 63 (.bin .add (.s 55) (.c (.int .i64 1))),
 mv 55 63] [63]))))))))))
 (.reg [o0 64 (.bin .add (.s 43) (.c (.int .i64 1))),
 mv 43 64] [64])))))))
 (.seq (.seq (.reg [o0 65 (.fadr 10 (.s 1)),
 o0 66 (.load none (.s 65)),
 o0 67 (.len (.s 66)),
 o0 68 (.mov (.c (.int .i64 0)))] [65])
 (.block 8 (.loop (.seq (.reg [o0 69 (.bin .lss (.s 68) (.s 67))] [])
 (.seq (.cond (.s 69)
 .skip
 (.exit 8))
 (.seq (.block 9 (.seq (.reg [o0 70 (.iadr 4 (.s 66) (.s 68)),
 o0 71 (.load (some 4) (.s 70)),
 o0 13 (.new 89 [(.int .i64 0),(.int .i64 0),.nl,.nl]),
 ⟨none,.store 4 (.s 13) (.s 71),none⟩] [70,71])
 (.reg [mv 72 3,
 o0 73 (.fadr 2 (.s 13)),
 o0 74 (.load none (.s 73)),
 o0 75 (.len (.s 74)),
 o0 76 (.bin .add (.s 72) (.s 75)),
 mv 3 76] [72,73,74,75,76])))
 (.reg [o0 77 (.bin .add (.s 68) (.c (.int .i64 1))),
 mv 68 77] [77])))))))
 (.seq (.reg [mv 78 3,
 mv 2 78] [78])
 .ret)))))))⟩

theorem cX86:compF Tryz.prog 14 = some FX86:=by kernel_rfl
abbrev nX86:FuncId:=14

def FX87:IFun :=
⟨107,1,[.cell 2 (some 4)],
 (.seq (.reg [o0 1 (.box 33 12 (.s 0)),
 o0 2 (.new 40 [(.int .i64 0),(.int .i64 0),(.int .i64 0),(.int .i64 0)])] [])
 (.seq (.reg [o0 7 (.build [(.int .i64 0),(.int .i64 0),(.int .i64 0),(.int .i64 0)] []),
 o0 8 (.box 126 4 (.s 7)),
 mv 3 8] [7,8])
 (.seq (.reg [o0 9 (.build [(.int .i64 0),(.int .i64 0),(.int .i64 0),(.int .i64 0)] []),
 o0 4 (.new 127 [(.int .i64 0),(.int .i64 0),(.int .i64 0),(.int .i64 0)]),
 ⟨none,.store 4 (.s 4) (.s 9),none⟩] [9])
 (.seq (.seq (.reg [o0 10 (.fadr 1 (.s 1)),
 o0 11 (.load none (.s 10)),
 o0 12 (.len (.s 11)),
 o0 13 (.mov (.c (.int .i64 0)))] [10])
 (.block 0 (.loop (.seq (.reg [o0 14 (.bin .lss (.s 13) (.s 12))] [])
 (.seq (.cond (.s 14)
 .skip
 (.exit 0))
 (.seq (.block 1 (.seq (.reg [o0 15 (.iadr 13 (.s 11) (.s 13)),
 o0 16 (.load (some 13) (.s 15)),
 o0 6 (.new 80 [(.str []),(.str []),(.int .i64 0),(.int .i64 0),(.int .i64 0),(.int .i64 0),(.int .i64 0),(.bool false),(.int .i64 0),(.int .i64 0),(.bool false),(.int .i64 0),(.bool false)]),
 ⟨none,.store 13 (.s 6) (.s 16),none⟩] [15,16])
 (.seq (.reg [o0 17 (.fadr 2 (.s 6)),
 o0 18 (.load none (.s 17)),
 o0 19 (.bin .geq (.s 18) (.c (.int .i64 0))),
 mv 20 19,
 ot 21 20 (.fadr 2 (.s 6)),
 ot 22 20 (.load none (.s 21)),
 ot 23 20 (.bin .leq (.s 22) (.c (.int .i64 3))),
 o0 24 (.pick (.s 20) (.s 23) (.c (.bool false)))] [17,18,19,20,21,22,23])
 (.cond (.s 24)
 (.reg [o0 25 (.fadr 2 (.s 6)),
 o0 26 (.load none (.s 25)),
 o0 27 (.aadr 1 4 (.s 4) (.s 26)),
 o0 28 (.load none (.s 27)),
 o0 29 (.bin .add (.s 28) (.c (.int .i64 1))),
 o0 30 (.aadr 1 4 (.s 4) (.s 26)),
 ⟨none,.store 1 (.s 30) (.s 29),none⟩] [25,26,27,28,29,30])
 .skip))))
 (.reg [o0 31 (.bin .add (.s 13) (.c (.int .i64 1))),
 mv 13 31] [31])))))))
 (.seq (.reg [mv 32 3,
 o0 33 (.fadr 0 (.s 1)),
 o0 34 (.load none (.s 33)),
 o0 35 (.call 58 [(.s 32),(.c (.int .i64 1)),(.s 34),(.c (.int .i64 64)),(.c (.int .i64 0)),(.c (.fn 59 []))])] [32,33,34,35])
 (.seq (.reg [mv 36 3,
 o0 37 (.fadr 1 (.s 1)),
 o0 38 (.load none (.s 37)),
 o0 39 (.call 61 [(.s 36),(.c (.int .i64 2)),(.s 38),(.c (.int .i64 32)),(.c (.int .i64 0)),(.c (.fn 62 []))])] [36,37,38,39])
 (.seq (.reg [mv 40 3,
 o0 41 (.fadr 2 (.s 1)),
 o0 42 (.load none (.s 41)),
 o0 43 (.aadr 1 4 (.s 4) (.c (.int .i64 0))),
 o0 44 (.load none (.s 43)),
 o0 45 (.call 64 [(.s 40),(.c (.int .i64 3)),(.s 42),(.c (.int .i64 64)),(.s 44),(.c (.fn 65 []))])] [40,41,42,43,44,45])
 (.seq (.reg [mv 46 3,
 o0 47 (.fadr 3 (.s 1)),
 o0 48 (.load none (.s 47)),
 o0 49 (.aadr 1 4 (.s 4) (.c (.int .i64 1))),
 o0 50 (.load none (.s 49)),
 o0 51 (.call 67 [(.s 46),(.c (.int .i64 4)),(.s 48),(.c (.int .i64 4)),(.s 50),(.c (.fn 68 []))])] [46,47,48,49,50,51])
 (.seq (.reg [mv 52 3,
 o0 53 (.fadr 4 (.s 1)),
 o0 54 (.load none (.s 53)),
 o0 55 (.aadr 1 4 (.s 4) (.c (.int .i64 2))),
 o0 56 (.load none (.s 55)),
 o0 57 (.call 70 [(.s 52),(.c (.int .i64 5)),(.s 54),(.c (.int .i64 2)),(.s 56),(.c (.fn 71 []))])] [52,53,54,55,56,57])
 (.seq (.reg [mv 58 3,
 o0 59 (.fadr 5 (.s 1)),
 o0 60 (.load none (.s 59)),
 o0 61 (.aadr 1 4 (.s 4) (.c (.int .i64 3))),
 o0 62 (.load none (.s 61)),
 o0 63 (.call 73 [(.s 58),(.c (.int .i64 6)),(.s 60),(.c (.int .i64 32)),(.s 62),(.c (.fn 74 []))])] [58,59,60,61,62,63])
 (.seq (.reg [mv 64 3,
 o0 65 (.fadr 6 (.s 1)),
 o0 66 (.load none (.s 65)),
 o0 67 (.call 77 [(.s 64),(.c (.int .i64 7)),(.s 66),(.c (.int .i64 64)),(.c (.int .i64 0)),(.c (.fn 78 []))])] [64,65,66,67])
 (.seq (.seq (.reg [o0 68 (.fadr 7 (.s 1)),
 o0 69 (.load none (.s 68)),
 mv 70 69,
 ot 71 70 (.fadr 8 (.s 1)),
 ot 72 70 (.load none (.s 71)),
 ot 73 70 (.call 80 [(.s 72)]),
 ot 74 70 (.un .not (.s 73)),
 o0 75 (.pick (.s 70) (.s 74) (.c (.bool false)))] [68,69,70,71,72,73,74])
 (.cond (.s 75)
 (.reg [mv 76 3,
 o0 77 (.call 81 [(.s 76),(.c (.int .i64 8)),(.c (.int .i64 0)),(.c (.int .i64 0)),(.c (.int .i64 11))])] [76,77])
 .skip))
 (.seq (.reg [mv 78 3,
 o0 79 (.fadr 9 (.s 1)),
 o0 80 (.load none (.s 79)),
 o0 81 (.call 82 [(.s 78),(.c (.int .i64 9)),(.s 80),(.c (.int .i64 16)),(.c (.int .i64 0)),(.c (.fn 83 []))])] [78,79,80,81])
 (.seq (.reg [mv 82 3,
 o0 83 (.fadr 10 (.s 1)),
 o0 84 (.load none (.s 83)),
 o0 85 (.call 85 [(.s 82),(.c (.int .i64 10)),(.s 84),(.c (.int .i64 16)),(.c (.int .i64 0)),(.c (.fn 86 []))])] [82,83,84,85])
 (.seq (.reg [mv 86 3,
 o0 87 (.fadr 11 (.s 1)),
 o0 88 (.load none (.s 87)),
 o0 89 (.call 88 [(.s 86),(.c (.int .i64 11)),(.s 88),(.c (.int .i64 8)),(.c (.int .i64 0)),(.c (.fn 89 []))])] [86,87,88,89])
 (.seq (.seq (.reg [mv 90 3,
 o0 91 (.nchk (.s 90)),
 o0 92 (.fadr 0 (.s 91)),
 o0 93 (.fadr 3 (.s 92)),
 o0 94 (.load none (.s 93)),
 o0 95 (.bin .eql (.s 94) (.c (.int .i64 0)))] [90,91,92,93,94])
 (.cond (.s 95)
 (.reg [mv 96 3,
 o0 97 (.fadr 2 (.s 1)),
 o0 98 (.load none (.s 97)),
 o0 99 (.fadr 2 (.s 1)),
 o0 100 (.load none (.s 99)),
 o0 101 (.len (.s 100)),
 o0 102 (.call 64 [(.s 96),(.c (.int .i64 12)),(.s 98),(.s 101),(.c (.int .i64 0)),(.c (.fn 91 []))])] [96,97,98,99,100,101,102])
 .skip))
 (.seq (.reg [mv 103 3,
 o0 104 (.nchk (.s 103)),
 o0 105 (.fadr 0 (.s 104)),
 o0 106 (.load (some 4) (.s 105)),
 ⟨none,.store 4 (.s 2) (.s 106),none⟩] [103,104,105,106])
 .ret)))))))))))))))))⟩

theorem cX87:compF Tryz.prog 16 = some FX87:=by kernel_rfl
abbrev nX87:FuncId:=16

def FX107:IFun :=
⟨44,1,[.cell 2 (some 12)],
 (.seq (.reg [o0 1 (.box 33 12 (.s 0)),
 o0 2 (.new 33 [.nl,.nl,.nl,.nl,.nl,.nl,.nl,(.bool false),(.int .i64 0),.nl,.nl,.nl])] [])
 (.seq (.reg [o0 3 (.fadr 0 (.s 1)),
 o0 4 (.load none (.s 3)),
 o0 5 (.call 106 [(.s 4),(.c (.fn 107 []))]),
 o0 6 (.fadr 0 (.s 1)),
 ⟨none,.store 1 (.s 6) (.s 5),none⟩] [3,4,5,6])
 (.seq (.seq (.draw [⟨o0 7 (.fadr 1 (.s 1)),[]⟩,
 ⟨o0 8 (.load none (.s 7)),[0]⟩,
 ⟨o0 9 (.call 109 [(.s 8)]),[1,0]⟩,
 ⟨o0 10 (.fadr 3 (.s 1)),[]⟩,
 ⟨o0 11 (.load none (.s 10)),[3]⟩,
 ⟨o0 12 (.call 110 [(.s 11)]),[4,3,2,1,0]⟩,
 ⟨o0 13 (.fadr 4 (.s 1)),[]⟩,
 ⟨o0 14 (.load none (.s 13)),[6]⟩,
 ⟨o0 15 (.call 111 [(.s 14)]),[7,6,5,4,3,2,1,0]⟩,
 ⟨o0 16 (.fadr 6 (.s 1)),[]⟩,
 ⟨o0 17 (.load none (.s 16)),[9]⟩,
 ⟨o0 18 (.call 112 [(.s 17)]),[10,9,8,7,6,5,4,3,2,1,0]⟩,
 ⟨o0 19 (.fadr 1 (.s 1)),[0,1,2,3,4,6,7,9,10]⟩] [] [])
 (.seq (.reg [⟨none,.store 1 (.s 19) (.s 9),none⟩] [])
 (.seq (.reg [o0 20 (.fadr 3 (.s 1))] [])
 (.seq (.reg [⟨none,.store 1 (.s 20) (.s 12),none⟩] [])
 (.seq (.reg [o0 21 (.fadr 4 (.s 1))] [])
 (.seq (.reg [⟨none,.store 1 (.s 21) (.s 15),none⟩] [])
 (.seq (.reg [o0 22 (.fadr 6 (.s 1))] [])
 (.reg [⟨none,.store 1 (.s 22) (.s 18),none⟩] [7,8,9,10,11,12,13,14,15,16,17,18,19,20,21,22]))))))))
 (.seq (.reg [o0 23 (.fadr 2 (.s 1)),
 o0 24 (.load none (.s 23)),
 o0 25 (.call 113 [(.s 24),(.c (.fn 114 []))]),
 o0 26 (.fadr 2 (.s 1)),
 ⟨none,.store 1 (.s 26) (.s 25),none⟩] [23,24,25,26])
 (.seq (.reg [o0 27 (.fadr 5 (.s 1)),
 o0 28 (.load none (.s 27)),
 o0 29 (.call 116 [(.s 28),(.c (.fn 117 []))]),
 o0 30 (.fadr 5 (.s 1)),
 ⟨none,.store 1 (.s 30) (.s 29),none⟩] [27,28,29,30])
 (.seq (.reg [o0 31 (.fadr 9 (.s 1)),
 o0 32 (.load none (.s 31)),
 o0 33 (.call 118 [(.s 32),(.c (.fn 119 []))]),
 o0 34 (.fadr 9 (.s 1)),
 ⟨none,.store 1 (.s 34) (.s 33),none⟩] [31,32,33,34])
 (.seq (.reg [o0 35 (.fadr 10 (.s 1)),
 o0 36 (.load none (.s 35)),
 o0 37 (.call 121 [(.s 36),(.c (.fn 122 []))]),
 o0 38 (.fadr 10 (.s 1)),
 ⟨none,.store 1 (.s 38) (.s 37),none⟩] [35,36,37,38])
 (.seq (.reg [o0 39 (.fadr 11 (.s 1)),
 o0 40 (.load none (.s 39)),
 o0 41 (.call 124 [(.s 40),(.c (.fn 125 []))]),
 o0 42 (.fadr 11 (.s 1)),
 ⟨none,.store 1 (.s 42) (.s 41),none⟩] [39,40,41,42])
 (.seq (.reg [o0 43 (.load (some 12) (.s 1)),
 ⟨none,.store 12 (.s 2) (.s 43),none⟩] [43])
 .ret)))))))))⟩

theorem cX107:compF Tryz.prog 19 = some FX107:=by kernel_rfl
abbrev nX107:FuncId:=19

def FX57:IFun :=
⟨26,2,[.tmp 4],
 (.seq (.reg [o0 2 (.box 65 3 (.s 0)),
 o0 3 (.box 65 3 (.s 1)),
 o0 4 (.mov (.c (.bool false)))] [])
 (.seq (.reg [o0 5 (.mov (.c (.fn 134 [])))] [])
 (.seq (.reg [o0 6 (.fadr 0 (.s 2)),
 o0 7 (.load none (.s 6)),
 o0 8 (.fadr 0 (.s 3)),
 o0 9 (.load none (.s 8)),
 o0 10 (.bin .eql (.s 7) (.s 9)),
 mv 11 10,
 ot 12 11 (.fadr 1 (.s 2)),
 ot 13 11 (.load none (.s 12)),
 ot 14 11 (.fadr 1 (.s 3)),
 ot 15 11 (.load none (.s 14)),
 ot 16 11 (.call 135 [(.s 13),(.s 15),(.c (.fn 136 []))]),
 o0 17 (.pick (.s 11) (.s 16) (.c (.bool false))),
 mv 18 17,
 ot 19 18 (.fadr 2 (.s 2)),
 ot 20 18 (.load none (.s 19)),
 ot 21 18 (.fadr 2 (.s 3)),
 ot 22 18 (.load none (.s 21)),
 mt 23 5 18,
 ot 24 18 (.call 137 [(.s 20),(.s 22),(.s 23)]),
 o0 25 (.pick (.s 18) (.s 24) (.c (.bool false))),
 mv 4 25] [6,7,8,9,10,11,12,13,14,15,16,17,18,19,20,21,22,23,24,25])
 .ret)))⟩

theorem cX57:compF Tryz.prog 23 = some FX57:=by kernel_rfl
abbrev nX57:FuncId:=23

def FX54:IFun :=
⟨64,2,[.tmp 4],
 (.seq (.reg [o0 2 (.box 65 3 (.s 0)),
 o0 3 (.box 65 3 (.s 1)),
 o0 4 (.mov (.c (.bool false)))] [])
 (.seq (.seq (.reg [o0 6 (.fadr 0 (.s 2)),
 o0 7 (.load none (.s 6)),
 o0 8 (.fadr 0 (.s 3)),
 o0 9 (.load none (.s 8)),
 o0 10 (.bin .neq (.s 7) (.s 9)),
 mv 11 10,
 oF 12 11 (.fadr 1 (.s 2)),
 oF 13 11 (.load none (.s 12)),
 oF 14 11 (.fadr 1 (.s 3)),
 oF 15 11 (.load none (.s 14)),
 oF 16 11 (.call 138 [(.s 13),(.s 15)]),
 oF 17 11 (.un .not (.s 16)),
 o0 18 (.pick (.s 11) (.c (.bool true)) (.s 17)),
 mv 19 18,
 oF 20 19 (.fadr 2 (.s 2)),
 oF 21 19 (.load none (.s 20)),
 oF 22 19 (.len (.s 21)),
 oF 23 19 (.fadr 2 (.s 3)),
 oF 24 19 (.load none (.s 23)),
 oF 25 19 (.len (.s 24)),
 oF 26 19 (.bin .neq (.s 22) (.s 25)),
 o0 27 (.pick (.s 19) (.c (.bool true)) (.s 26))] [6,7,8,9,10,11,12,13,14,15,16,17,18,19,20,21,22,23,24,25,26])
 (.cond (.s 27)
 (.seq (.reg [o0 4 (.mov (.c (.bool false)))] [])
 .ret)
 .skip))
 (.seq (.seq (.reg [o0 5 (.mov (.c (.int .i64 0)))] [])
 (.block 0 (.loop (.seq (.seq (.reg [mv 28 5,
 o0 29 (.fadr 2 (.s 2)),
 o0 30 (.load none (.s 29)),
 o0 31 (.len (.s 30)),
 o0 32 (.bin .lss (.s 28) (.s 31))] [28,29,30,31])
 (.cond (.s 32)
 .skip
 (.exit 0)))
 (.seq (.block 1 (.seq (.seq (.draw [⟨o0 35 (.fadr 2 (.s 2)),[]⟩,
 ⟨o0 36 (.load none (.s 35)),[0]⟩,
 ⟨mv 37 5,[]⟩,
 ⟨o0 38 (.iadr 2 (.s 36) (.s 37)),[1,0,2]⟩,
 ⟨o0 39 (.fadr 0 (.s 38)),[3,1,0,2]⟩,
 ⟨o0 40 (.load none (.s 39)),[4,3,1,0,2]⟩,
 ⟨o0 41 (.fadr 2 (.s 3)),[]⟩,
 ⟨o0 42 (.load none (.s 41)),[6]⟩,
 ⟨mv 43 5,[]⟩,
 ⟨o0 44 (.iadr 2 (.s 42) (.s 43)),[7,6,8]⟩,
 ⟨o0 45 (.fadr 0 (.s 44)),[9,7,6,8]⟩,
 ⟨o0 46 (.load none (.s 45)),[10,9,7,6,8]⟩] [] [])
 (.seq (.reg [o0 47 (.bin .neq (.s 40) (.s 46))] [])
 (.seq (.reg [mv 48 47] [])
 (.seq (.draw [⟨oF 49 48 (.fadr 2 (.s 2)),[]⟩,
 ⟨oF 50 48 (.load none (.s 49)),[0]⟩,
 ⟨mf 51 5 48,[]⟩,
 ⟨oF 52 48 (.iadr 2 (.s 50) (.s 51)),[1,0,2]⟩,
 ⟨oF 53 48 (.fadr 1 (.s 52)),[3,1,0,2]⟩,
 ⟨oF 54 48 (.load none (.s 53)),[4,3,1,0,2]⟩,
 ⟨oF 55 48 (.fadr 2 (.s 3)),[]⟩,
 ⟨oF 56 48 (.load none (.s 55)),[6]⟩,
 ⟨mf 57 5 48,[]⟩,
 ⟨oF 58 48 (.iadr 2 (.s 56) (.s 57)),[7,6,8]⟩,
 ⟨oF 59 48 (.fadr 1 (.s 58)),[9,7,6,8]⟩,
 ⟨oF 60 48 (.load none (.s 59)),[10,9,7,6,8]⟩] [] [])
 (.seq (.reg [oF 61 48 (.call 138 [(.s 54),(.s 60)])] [])
 (.seq (.reg [oF 62 48 (.un .not (.s 61))] [])
 (.reg [o0 63 (.pick (.s 48) (.c (.bool true)) (.s 62))] [35,36,37,38,39,40,41,42,43,44,45,46,47,48,49,50,51,52,53,54,55,56,57,58,59,60,61,62])))))))
 (.cond (.s 63)
 (.seq (.reg [o0 4 (.mov (.c (.bool false)))] [])
 .ret)
 .skip)))
 (.reg [mv 33 5,
 o0 34 (.bin .add (.s 33) (.c (.int .i64 1))),
 mv 5 34] [33,34]))))))
 (.seq (.reg [o0 4 (.mov (.c (.bool true)))] [])
 .ret))))⟩

theorem cX54:compF Tryz.prog 24 = some FX54:=by kernel_rfl
abbrev nX54:FuncId:=24

def FX88:IFun :=
⟨24,2,[.tmp 4],
 (.seq (.reg [o0 2 (.box 52 3 (.s 0)),
 o0 3 (.box 52 3 (.s 1)),
 o0 4 (.mov (.c (.bool false)))] [])
 (.seq (.reg [o0 5 (.fadr 0 (.s 2)),
 o0 6 (.load none (.s 5)),
 o0 7 (.fadr 0 (.s 3)),
 o0 8 (.load none (.s 7)),
 o0 9 (.bin .eql (.s 6) (.s 8)),
 mv 10 9,
 ot 11 10 (.fadr 1 (.s 2)),
 ot 12 10 (.load none (.s 11)),
 ot 13 10 (.fadr 1 (.s 3)),
 ot 14 10 (.load none (.s 13)),
 ot 15 10 (.call 27 [(.s 12),(.s 14)]),
 o0 16 (.pick (.s 10) (.s 15) (.c (.bool false))),
 mv 17 16,
 ot 18 17 (.fadr 2 (.s 2)),
 ot 19 17 (.load none (.s 18)),
 ot 20 17 (.fadr 2 (.s 3)),
 ot 21 17 (.load none (.s 20)),
 ot 22 17 (.call 28 [(.s 19),(.s 21)]),
 o0 23 (.pick (.s 17) (.s 22) (.c (.bool false))),
 mv 4 23] [5,6,7,8,9,10,11,12,13,14,15,16,17,18,19,20,21,22,23])
 .ret))⟩

theorem cX88:compF Tryz.prog 26 = some FX88:=by kernel_rfl
abbrev nX88:FuncId:=26

def FX58:IFun :=
⟨8,2,[.tmp 4],
 (.seq (.reg [o0 4 (.mov (.c (.bool false)))] [])
 (.seq (.reg [mv 5 0,
 mv 6 1,
 o0 7 (.call 139 [(.s 5),(.s 6)]),
 mv 4 7] [5,6,7])
 .ret))⟩

theorem cX58:compF Tryz.prog 27 = some FX58:=by kernel_rfl
abbrev nX58:FuncId:=27

def FX115:IFun :=
⟨8,2,[.tmp 4],
 (.seq (.reg [o0 4 (.mov (.c (.bool false)))] [])
 (.seq (.reg [mv 5 0,
 mv 6 1,
 o0 7 (.call 140 [(.s 5),(.s 6),(.c (.fn 141 []))]),
 mv 4 7] [5,6,7])
 .ret))⟩

theorem cX115:compF Tryz.prog 28 = some FX115:=by kernel_rfl
abbrev nX115:FuncId:=28

def FX89:IFun :=
⟨17,2,[.tmp 4],
 (.seq (.reg [o0 2 (.box 82 3 (.s 0)),
 o0 3 (.box 82 3 (.s 1)),
 o0 4 (.mov (.c (.bool false)))] [])
 (.seq (.reg [o0 5 (.fadr 0 (.s 2)),
 o0 6 (.load (some 2) (.s 5)),
 o0 7 (.fadr 0 (.s 3)),
 o0 8 (.load (some 2) (.s 7)),
 o0 9 (.sbin .eql [.i,.b] (.s 6) (.s 8)),
 mv 10 9,
 ot 11 10 (.fadr 2 (.s 2)),
 ot 12 10 (.load none (.s 11)),
 ot 13 10 (.fadr 2 (.s 3)),
 ot 14 10 (.load none (.s 13)),
 ot 15 10 (.call 28 [(.s 12),(.s 14)]),
 o0 16 (.pick (.s 10) (.s 15) (.c (.bool false))),
 mv 4 16] [5,6,7,8,9,10,11,12,13,14,15,16])
 .ret))⟩

theorem cX89:compF Tryz.prog 29 = some FX89:=by kernel_rfl
abbrev nX89:FuncId:=29

def FX90:IFun :=
⟨38,2,[.tmp 4],
 (.seq (.reg [o0 2 (.box 86 5 (.s 0)),
 o0 3 (.box 86 5 (.s 1)),
 o0 4 (.mov (.c (.bool false)))] [])
 (.seq (.reg [o0 5 (.fadr 0 (.s 2)),
 o0 6 (.load none (.s 5)),
 o0 7 (.fadr 0 (.s 3)),
 o0 8 (.load none (.s 7)),
 o0 9 (.bin .eql (.s 6) (.s 8)),
 mv 10 9,
 ot 11 10 (.fadr 1 (.s 2)),
 ot 12 10 (.load none (.s 11)),
 ot 13 10 (.fadr 1 (.s 3)),
 ot 14 10 (.load none (.s 13)),
 ot 15 10 (.bin .eql (.s 12) (.s 14)),
 o0 16 (.pick (.s 10) (.s 15) (.c (.bool false))),
 mv 17 16,
 ot 18 17 (.fadr 3 (.s 2)),
 ot 19 17 (.load none (.s 18)),
 ot 20 17 (.fadr 3 (.s 3)),
 ot 21 17 (.load none (.s 20)),
 ot 22 17 (.bin .eql (.s 19) (.s 21)),
 o0 23 (.pick (.s 17) (.s 22) (.c (.bool false))),
 mv 24 23,
 ot 25 24 (.fadr 2 (.s 2)),
 ot 26 24 (.load none (.s 25)),
 ot 27 24 (.fadr 2 (.s 3)),
 ot 28 24 (.load none (.s 27)),
 ot 29 24 (.call 28 [(.s 26),(.s 28)]),
 o0 30 (.pick (.s 24) (.s 29) (.c (.bool false))),
 mv 31 30,
 ot 32 31 (.fadr 4 (.s 2)),
 ot 33 31 (.load none (.s 32)),
 ot 34 31 (.fadr 4 (.s 3)),
 ot 35 31 (.load none (.s 34)),
 ot 36 31 (.call 31 [(.s 33),(.s 35),(.c (.fn 28 []))]),
 o0 37 (.pick (.s 31) (.s 36) (.c (.bool false))),
 mv 4 37] [5,6,7,8,9,10,11,12,13,14,15,16,17,18,19,20,21,22,23,24,25,26,27,28,29,30,31,32,33,34,35,36,37])
 .ret))⟩

theorem cX90:compF Tryz.prog 30 = some FX90:=by kernel_rfl
abbrev nX90:FuncId:=30

def FX22:IFun :=
⟨30,3,[.tmp 6],
 (.seq (.reg [o0 6 (.mov (.c (.bool false)))] [])
 (.seq (.seq (.reg [mv 8 0,
 o0 9 (.len (.s 8)),
 mv 10 1,
 o0 11 (.len (.s 10)),
 o0 12 (.bin .neq (.s 9) (.s 11))] [8,9,10,11])
 (.cond (.s 12)
 (.seq (.reg [o0 6 (.mov (.c (.bool false)))] [])
 .ret)
 .skip))
 (.seq (.seq (.reg [mv 13 0,
 o0 14 (.len (.s 13)),
 o0 15 (.mov (.c (.int .i64 0)))] [13])
 (.block 0 (.loop (.seq (.reg [o0 16 (.bin .lss (.s 15) (.s 14))] [])
 (.seq (.cond (.s 16)
 .skip
 (.exit 0))
 (.seq (.block 1 (.seq (.reg [mv 17 15,
 mv 7 17] [17])
 (.seq (.seq (.draw [⟨mv 18 2,[]⟩,
 ⟨mv 19 0,[]⟩,
 ⟨mv 20 7,[]⟩,
 ⟨o0 21 (.iadr 1 (.s 19) (.s 20)),[1,2]⟩,
 ⟨o0 22 (.load none (.s 21)),[3,1,2]⟩,
 ⟨mv 23 1,[]⟩,
 ⟨mv 24 7,[]⟩,
 ⟨o0 25 (.iadr 1 (.s 23) (.s 24)),[5,6]⟩,
 ⟨o0 26 (.load none (.s 25)),[7,5,6]⟩] [] [])
 (.seq (.reg [o0 27 (.callv (.s 18) [(.s 22),(.s 26)])] [])
 (.reg [o0 28 (.un .not (.s 27))] [18,19,20,21,22,23,24,25,26,27])))
 (.cond (.s 28)
 (.seq (.reg [o0 6 (.mov (.c (.bool false)))] [])
 .ret)
 .skip))))
 (.reg [o0 29 (.bin .add (.s 15) (.c (.int .i64 1))),
 mv 15 29] [29])))))))
 (.seq (.reg [o0 6 (.mov (.c (.bool true)))] [])
 .ret))))⟩

theorem cX22:compF Tryz.prog 31 = some FX22:=by kernel_rfl
abbrev nX22:FuncId:=31

def FX91:IFun :=
⟨33,2,[.tmp 4],
 (.seq (.reg [o0 2 (.box 89 4 (.s 0)),
 o0 3 (.box 89 4 (.s 1)),
 o0 4 (.mov (.c (.bool false)))] [])
 (.seq (.reg [o0 5 (.fadr 0 (.s 2)),
 o0 6 (.load none (.s 5)),
 o0 7 (.fadr 0 (.s 3)),
 o0 8 (.load none (.s 7)),
 o0 9 (.bin .eql (.s 6) (.s 8)),
 mv 10 9,
 ot 11 10 (.fadr 1 (.s 2)),
 ot 12 10 (.load none (.s 11)),
 ot 13 10 (.fadr 1 (.s 3)),
 ot 14 10 (.load none (.s 13)),
 ot 15 10 (.bin .eql (.s 12) (.s 14)),
 o0 16 (.pick (.s 10) (.s 15) (.c (.bool false))),
 mv 17 16,
 ot 18 17 (.fadr 2 (.s 2)),
 ot 19 17 (.load none (.s 18)),
 ot 20 17 (.fadr 2 (.s 3)),
 ot 21 17 (.load none (.s 20)),
 ot 22 17 (.call 28 [(.s 19),(.s 21)]),
 o0 23 (.pick (.s 17) (.s 22) (.c (.bool false))),
 mv 24 23,
 ot 25 24 (.fadr 3 (.s 2)),
 ot 26 24 (.load none (.s 25)),
 ot 27 24 (.cvs (.s 26)),
 ot 28 24 (.fadr 3 (.s 3)),
 ot 29 24 (.load none (.s 28)),
 ot 30 24 (.cvs (.s 29)),
 ot 31 24 (.bin .eql (.s 27) (.s 30)),
 o0 32 (.pick (.s 24) (.s 31) (.c (.bool false))),
 mv 4 32] [5,6,7,8,9,10,11,12,13,14,15,16,17,18,19,20,21,22,23,24,25,26,27,28,29,30,31,32])
 .ret))⟩

theorem cX91:compF Tryz.prog 32 = some FX91:=by kernel_rfl
abbrev nX91:FuncId:=32

def FX92:IFun :=
⟨26,2,[.tmp 4],
 (.seq (.reg [o0 2 (.box 91 3 (.s 0)),
 o0 3 (.box 91 3 (.s 1)),
 o0 4 (.mov (.c (.bool false)))] [])
 (.seq (.reg [o0 5 (.fadr 0 (.s 2)),
 o0 6 (.load none (.s 5)),
 o0 7 (.fadr 0 (.s 3)),
 o0 8 (.load none (.s 7)),
 o0 9 (.bin .eql (.s 6) (.s 8)),
 mv 10 9,
 ot 11 10 (.fadr 1 (.s 2)),
 ot 12 10 (.load none (.s 11)),
 ot 13 10 (.fadr 1 (.s 3)),
 ot 14 10 (.load none (.s 13)),
 ot 15 10 (.bin .eql (.s 12) (.s 14)),
 o0 16 (.pick (.s 10) (.s 15) (.c (.bool false))),
 mv 17 16,
 ot 18 17 (.fadr 2 (.s 2)),
 ot 19 17 (.load none (.s 18)),
 ot 20 17 (.cvs (.s 19)),
 ot 21 17 (.fadr 2 (.s 3)),
 ot 22 17 (.load none (.s 21)),
 ot 23 17 (.cvs (.s 22)),
 ot 24 17 (.bin .eql (.s 20) (.s 23)),
 o0 25 (.pick (.s 17) (.s 24) (.c (.bool false))),
 mv 4 25] [5,6,7,8,9,10,11,12,13,14,15,16,17,18,19,20,21,22,23,24,25])
 .ret))⟩

theorem cX92:compF Tryz.prog 33 = some FX92:=by kernel_rfl
abbrev nX92:FuncId:=33

def FX46:IFun :=
⟨30,3,[.tmp 6],
 (.seq (.reg [o0 6 (.mov (.c (.bool false)))] [])
 (.seq (.seq (.reg [mv 8 0,
 o0 9 (.len (.s 8)),
 mv 10 1,
 o0 11 (.len (.s 10)),
 o0 12 (.bin .neq (.s 9) (.s 11))] [8,9,10,11])
 (.cond (.s 12)
 (.seq (.reg [o0 6 (.mov (.c (.bool false)))] [])
 .ret)
 .skip))
 (.seq (.seq (.reg [mv 13 0,
 o0 14 (.len (.s 13)),
 o0 15 (.mov (.c (.int .i64 0)))] [13])
 (.block 0 (.loop (.seq (.reg [o0 16 (.bin .lss (.s 15) (.s 14))] [])
 (.seq (.cond (.s 16)
 .skip
 (.exit 0))
 (.seq (.block 1 (.seq (.reg [mv 17 15,
 mv 7 17] [17])
 (.seq (.seq (.draw [⟨mv 18 2,[]⟩,
 ⟨mv 19 0,[]⟩,
 ⟨mv 20 7,[]⟩,
 ⟨o0 21 (.iadr 2 (.s 19) (.s 20)),[1,2]⟩,
 ⟨o0 22 (.load (some 2) (.s 21)),[3,1,2]⟩,
 ⟨mv 23 1,[]⟩,
 ⟨mv 24 7,[]⟩,
 ⟨o0 25 (.iadr 2 (.s 23) (.s 24)),[5,6]⟩,
 ⟨o0 26 (.load (some 2) (.s 25)),[7,5,6]⟩] [] [])
 (.seq (.reg [o0 27 (.callv (.s 18) [(.s 22),(.s 26)])] [])
 (.reg [o0 28 (.un .not (.s 27))] [18,19,20,21,22,23,24,25,26,27])))
 (.cond (.s 28)
 (.seq (.reg [o0 6 (.mov (.c (.bool false)))] [])
 .ret)
 .skip))))
 (.reg [o0 29 (.bin .add (.s 15) (.c (.int .i64 1))),
 mv 15 29] [29])))))))
 (.seq (.reg [o0 6 (.mov (.c (.bool true)))] [])
 .ret))))⟩

theorem cX46:compF Tryz.prog 34 = some FX46:=by kernel_rfl
abbrev nX46:FuncId:=34

def FX106:IFun :=
⟨17,2,[.tmp 4],
 (.seq (.reg [o0 2 (.box 71 2 (.s 0)),
 o0 3 (.box 71 2 (.s 1)),
 o0 4 (.mov (.c (.bool false)))] [])
 (.seq (.reg [o0 5 (.fadr 0 (.s 2)),
 o0 6 (.load none (.s 5)),
 o0 7 (.fadr 0 (.s 3)),
 o0 8 (.load none (.s 7)),
 o0 9 (.call 139 [(.s 6),(.s 8)]),
 mv 10 9,
 ot 11 10 (.fadr 1 (.s 2)),
 ot 12 10 (.load none (.s 11)),
 ot 13 10 (.fadr 1 (.s 3)),
 ot 14 10 (.load none (.s 13)),
 ot 15 10 (.call 139 [(.s 12),(.s 14)]),
 o0 16 (.pick (.s 10) (.s 15) (.c (.bool false))),
 mv 4 16] [5,6,7,8,9,10,11,12,13,14,15,16])
 .ret))⟩

theorem cX106:compF Tryz.prog 35 = some FX106:=by kernel_rfl
abbrev nX106:FuncId:=35

def FX25:IFun :=
⟨30,3,[.tmp 6],
 (.seq (.reg [o0 6 (.mov (.c (.bool false)))] [])
 (.seq (.seq (.reg [mv 8 0,
 o0 9 (.len (.s 8)),
 mv 10 1,
 o0 11 (.len (.s 10)),
 o0 12 (.bin .neq (.s 9) (.s 11))] [8,9,10,11])
 (.cond (.s 12)
 (.seq (.reg [o0 6 (.mov (.c (.bool false)))] [])
 .ret)
 .skip))
 (.seq (.seq (.reg [mv 13 0,
 o0 14 (.len (.s 13)),
 o0 15 (.mov (.c (.int .i64 0)))] [13])
 (.block 0 (.loop (.seq (.reg [o0 16 (.bin .lss (.s 15) (.s 14))] [])
 (.seq (.cond (.s 16)
 .skip
 (.exit 0))
 (.seq (.block 1 (.seq (.reg [mv 17 15,
 mv 7 17] [17])
 (.seq (.seq (.draw [⟨mv 18 2,[]⟩,
 ⟨mv 19 0,[]⟩,
 ⟨mv 20 7,[]⟩,
 ⟨o0 21 (.iadr 13 (.s 19) (.s 20)),[1,2]⟩,
 ⟨o0 22 (.load (some 13) (.s 21)),[3,1,2]⟩,
 ⟨mv 23 1,[]⟩,
 ⟨mv 24 7,[]⟩,
 ⟨o0 25 (.iadr 13 (.s 23) (.s 24)),[5,6]⟩,
 ⟨o0 26 (.load (some 13) (.s 25)),[7,5,6]⟩] [] [])
 (.seq (.reg [o0 27 (.callv (.s 18) [(.s 22),(.s 26)])] [])
 (.reg [o0 28 (.un .not (.s 27))] [18,19,20,21,22,23,24,25,26,27])))
 (.cond (.s 28)
 (.seq (.reg [o0 6 (.mov (.c (.bool false)))] [])
 .ret)
 .skip))))
 (.reg [o0 29 (.bin .add (.s 15) (.c (.int .i64 1))),
 mv 15 29] [29])))))))
 (.seq (.reg [o0 6 (.mov (.c (.bool true)))] [])
 .ret))))⟩

theorem cX25:compF Tryz.prog 36 = some FX25:=by kernel_rfl
abbrev nX25:FuncId:=36

def FX13:IFun :=
⟨8,2,[.tmp 4],
 (.seq (.reg [o0 2 (.box 80 13 (.s 0)),
 o0 3 (.box 80 13 (.s 1)),
 o0 4 (.mov (.c (.bool false)))] [])
 (.seq (.reg [o0 5 (.load (some 13) (.s 2)),
 o0 6 (.load (some 13) (.s 3)),
 o0 7 (.sbin .eql [.s,.s,.i,.i,.i,.i,.i,.b,.i,.i,.b,.i,.b] (.s 5) (.s 6)),
 mv 4 7] [5,6,7])
 .ret))⟩

theorem cX13:compF Tryz.prog 37 = some FX13:=by kernel_rfl
abbrev nX13:FuncId:=37

def FX43:IFun :=
⟨30,3,[.tmp 6],
 (.seq (.reg [o0 6 (.mov (.c (.bool false)))] [])
 (.seq (.seq (.reg [mv 8 0,
 o0 9 (.len (.s 8)),
 mv 10 1,
 o0 11 (.len (.s 10)),
 o0 12 (.bin .neq (.s 9) (.s 11))] [8,9,10,11])
 (.cond (.s 12)
 (.seq (.reg [o0 6 (.mov (.c (.bool false)))] [])
 .ret)
 .skip))
 (.seq (.seq (.reg [mv 13 0,
 o0 14 (.len (.s 13)),
 o0 15 (.mov (.c (.int .i64 0)))] [13])
 (.block 0 (.loop (.seq (.reg [o0 16 (.bin .lss (.s 15) (.s 14))] [])
 (.seq (.cond (.s 16)
 .skip
 (.exit 0))
 (.seq (.block 1 (.seq (.reg [mv 17 15,
 mv 7 17] [17])
 (.seq (.seq (.draw [⟨mv 18 2,[]⟩,
 ⟨mv 19 0,[]⟩,
 ⟨mv 20 7,[]⟩,
 ⟨o0 21 (.iadr 3 (.s 19) (.s 20)),[1,2]⟩,
 ⟨o0 22 (.load (some 3) (.s 21)),[3,1,2]⟩,
 ⟨mv 23 1,[]⟩,
 ⟨mv 24 7,[]⟩,
 ⟨o0 25 (.iadr 3 (.s 23) (.s 24)),[5,6]⟩,
 ⟨o0 26 (.load (some 3) (.s 25)),[7,5,6]⟩] [] [])
 (.seq (.reg [o0 27 (.callv (.s 18) [(.s 22),(.s 26)])] [])
 (.reg [o0 28 (.un .not (.s 27))] [18,19,20,21,22,23,24,25,26,27])))
 (.cond (.s 28)
 (.seq (.reg [o0 6 (.mov (.c (.bool false)))] [])
 .ret)
 .skip))))
 (.reg [o0 29 (.bin .add (.s 15) (.c (.int .i64 1))),
 mv 15 29] [29])))))))
 (.seq (.reg [o0 6 (.mov (.c (.bool true)))] [])
 .ret))))⟩

theorem cX43:compF Tryz.prog 38 = some FX43:=by kernel_rfl
abbrev nX43:FuncId:=38

def FX34:IFun :=
⟨30,3,[.tmp 6],
 (.seq (.reg [o0 6 (.mov (.c (.bool false)))] [])
 (.seq (.seq (.reg [mv 8 0,
 o0 9 (.len (.s 8)),
 mv 10 1,
 o0 11 (.len (.s 10)),
 o0 12 (.bin .neq (.s 9) (.s 11))] [8,9,10,11])
 (.cond (.s 12)
 (.seq (.reg [o0 6 (.mov (.c (.bool false)))] [])
 .ret)
 .skip))
 (.seq (.seq (.reg [mv 13 0,
 o0 14 (.len (.s 13)),
 o0 15 (.mov (.c (.int .i64 0)))] [13])
 (.block 0 (.loop (.seq (.reg [o0 16 (.bin .lss (.s 15) (.s 14))] [])
 (.seq (.cond (.s 16)
 .skip
 (.exit 0))
 (.seq (.block 1 (.seq (.reg [mv 17 15,
 mv 7 17] [17])
 (.seq (.seq (.draw [⟨mv 18 2,[]⟩,
 ⟨mv 19 0,[]⟩,
 ⟨mv 20 7,[]⟩,
 ⟨o0 21 (.iadr 4 (.s 19) (.s 20)),[1,2]⟩,
 ⟨o0 22 (.load (some 4) (.s 21)),[3,1,2]⟩,
 ⟨mv 23 1,[]⟩,
 ⟨mv 24 7,[]⟩,
 ⟨o0 25 (.iadr 4 (.s 23) (.s 24)),[5,6]⟩,
 ⟨o0 26 (.load (some 4) (.s 25)),[7,5,6]⟩] [] [])
 (.seq (.reg [o0 27 (.callv (.s 18) [(.s 22),(.s 26)])] [])
 (.reg [o0 28 (.un .not (.s 27))] [18,19,20,21,22,23,24,25,26,27])))
 (.cond (.s 28)
 (.seq (.reg [o0 6 (.mov (.c (.bool false)))] [])
 .ret)
 .skip))))
 (.reg [o0 29 (.bin .add (.s 15) (.c (.int .i64 1))),
 mv 15 29] [29])))))))
 (.seq (.reg [o0 6 (.mov (.c (.bool true)))] [])
 .ret))))⟩

theorem cX34:compF Tryz.prog 39 = some FX34:=by kernel_rfl
abbrev nX34:FuncId:=39

def FX17:IFun :=
⟨8,2,[.tmp 4],
 (.seq (.reg [o0 2 (.box 76 4 (.s 0)),
 o0 3 (.box 76 4 (.s 1)),
 o0 4 (.mov (.c (.bool false)))] [])
 (.seq (.reg [o0 5 (.load (some 4) (.s 2)),
 o0 6 (.load (some 4) (.s 3)),
 o0 7 (.sbin .eql [.i,.i,.i,.b] (.s 5) (.s 6)),
 mv 4 7] [5,6,7])
 .ret))⟩

theorem cX17:compF Tryz.prog 40 = some FX17:=by kernel_rfl
abbrev nX17:FuncId:=40

def FX26:IFun :=
⟨30,3,[.tmp 6],
 (.seq (.reg [o0 6 (.mov (.c (.bool false)))] [])
 (.seq (.seq (.reg [mv 8 0,
 o0 9 (.len (.s 8)),
 mv 10 1,
 o0 11 (.len (.s 10)),
 o0 12 (.bin .neq (.s 9) (.s 11))] [8,9,10,11])
 (.cond (.s 12)
 (.seq (.reg [o0 6 (.mov (.c (.bool false)))] [])
 .ret)
 .skip))
 (.seq (.seq (.reg [mv 13 0,
 o0 14 (.len (.s 13)),
 o0 15 (.mov (.c (.int .i64 0)))] [13])
 (.block 0 (.loop (.seq (.reg [o0 16 (.bin .lss (.s 15) (.s 14))] [])
 (.seq (.cond (.s 16)
 .skip
 (.exit 0))
 (.seq (.block 1 (.seq (.reg [mv 17 15,
 mv 7 17] [17])
 (.seq (.seq (.draw [⟨mv 18 2,[]⟩,
 ⟨mv 19 0,[]⟩,
 ⟨mv 20 7,[]⟩,
 ⟨o0 21 (.iadr 3 (.s 19) (.s 20)),[1,2]⟩,
 ⟨o0 22 (.load (some 3) (.s 21)),[3,1,2]⟩,
 ⟨mv 23 1,[]⟩,
 ⟨mv 24 7,[]⟩,
 ⟨o0 25 (.iadr 3 (.s 23) (.s 24)),[5,6]⟩,
 ⟨o0 26 (.load (some 3) (.s 25)),[7,5,6]⟩] [] [])
 (.seq (.reg [o0 27 (.callv (.s 18) [(.s 22),(.s 26)])] [])
 (.reg [o0 28 (.un .not (.s 27))] [18,19,20,21,22,23,24,25,26,27])))
 (.cond (.s 28)
 (.seq (.reg [o0 6 (.mov (.c (.bool false)))] [])
 .ret)
 .skip))))
 (.reg [o0 29 (.bin .add (.s 15) (.c (.int .i64 1))),
 mv 15 29] [29])))))))
 (.seq (.reg [o0 6 (.mov (.c (.bool true)))] [])
 .ret))))⟩

theorem cX26:compF Tryz.prog 41 = some FX26:=by kernel_rfl
abbrev nX26:FuncId:=41

def FX14:IFun :=
⟨8,2,[.tmp 4],
 (.seq (.reg [o0 2 (.box 74 3 (.s 0)),
 o0 3 (.box 74 3 (.s 1)),
 o0 4 (.mov (.c (.bool false)))] [])
 (.seq (.reg [o0 5 (.load (some 3) (.s 2)),
 o0 6 (.load (some 3) (.s 3)),
 o0 7 (.sbin .eql [.i,.i,.b] (.s 5) (.s 6)),
 mv 4 7] [5,6,7])
 .ret))⟩

theorem cX14:compF Tryz.prog 42 = some FX14:=by kernel_rfl
abbrev nX14:FuncId:=42

def FX10:IFun :=
⟨30,3,[.tmp 6],
 (.seq (.reg [o0 6 (.mov (.c (.bool false)))] [])
 (.seq (.seq (.reg [mv 8 0,
 o0 9 (.len (.s 8)),
 mv 10 1,
 o0 11 (.len (.s 10)),
 o0 12 (.bin .neq (.s 9) (.s 11))] [8,9,10,11])
 (.cond (.s 12)
 (.seq (.reg [o0 6 (.mov (.c (.bool false)))] [])
 .ret)
 .skip))
 (.seq (.seq (.reg [mv 13 0,
 o0 14 (.len (.s 13)),
 o0 15 (.mov (.c (.int .i64 0)))] [13])
 (.block 0 (.loop (.seq (.reg [o0 16 (.bin .lss (.s 15) (.s 14))] [])
 (.seq (.cond (.s 16)
 .skip
 (.exit 0))
 (.seq (.block 1 (.seq (.reg [mv 17 15,
 mv 7 17] [17])
 (.seq (.seq (.draw [⟨mv 18 2,[]⟩,
 ⟨mv 19 0,[]⟩,
 ⟨mv 20 7,[]⟩,
 ⟨o0 21 (.iadr 3 (.s 19) (.s 20)),[1,2]⟩,
 ⟨o0 22 (.load (some 3) (.s 21)),[3,1,2]⟩,
 ⟨mv 23 1,[]⟩,
 ⟨mv 24 7,[]⟩,
 ⟨o0 25 (.iadr 3 (.s 23) (.s 24)),[5,6]⟩,
 ⟨o0 26 (.load (some 3) (.s 25)),[7,5,6]⟩] [] [])
 (.seq (.reg [o0 27 (.callv (.s 18) [(.s 22),(.s 26)])] [])
 (.reg [o0 28 (.un .not (.s 27))] [18,19,20,21,22,23,24,25,26,27])))
 (.cond (.s 28)
 (.seq (.reg [o0 6 (.mov (.c (.bool false)))] [])
 .ret)
 .skip))))
 (.reg [o0 29 (.bin .add (.s 15) (.c (.int .i64 1))),
 mv 15 29] [29])))))))
 (.seq (.reg [o0 6 (.mov (.c (.bool true)))] [])
 .ret))))⟩

theorem cX10:compF Tryz.prog 43 = some FX10:=by kernel_rfl
abbrev nX10:FuncId:=43

def FX24:IFun :=
⟨30,3,[.tmp 6],
 (.seq (.reg [o0 6 (.mov (.c (.bool false)))] [])
 (.seq (.seq (.reg [mv 8 0,
 o0 9 (.len (.s 8)),
 mv 10 1,
 o0 11 (.len (.s 10)),
 o0 12 (.bin .neq (.s 9) (.s 11))] [8,9,10,11])
 (.cond (.s 12)
 (.seq (.reg [o0 6 (.mov (.c (.bool false)))] [])
 .ret)
 .skip))
 (.seq (.seq (.reg [mv 13 0,
 o0 14 (.len (.s 13)),
 o0 15 (.mov (.c (.int .i64 0)))] [13])
 (.block 0 (.loop (.seq (.reg [o0 16 (.bin .lss (.s 15) (.s 14))] [])
 (.seq (.cond (.s 16)
 .skip
 (.exit 0))
 (.seq (.block 1 (.seq (.reg [mv 17 15,
 mv 7 17] [17])
 (.seq (.seq (.draw [⟨mv 18 2,[]⟩,
 ⟨mv 19 0,[]⟩,
 ⟨mv 20 7,[]⟩,
 ⟨o0 21 (.iadr 3 (.s 19) (.s 20)),[1,2]⟩,
 ⟨o0 22 (.load (some 3) (.s 21)),[3,1,2]⟩,
 ⟨mv 23 1,[]⟩,
 ⟨mv 24 7,[]⟩,
 ⟨o0 25 (.iadr 3 (.s 23) (.s 24)),[5,6]⟩,
 ⟨o0 26 (.load (some 3) (.s 25)),[7,5,6]⟩] [] [])
 (.seq (.reg [o0 27 (.callv (.s 18) [(.s 22),(.s 26)])] [])
 (.reg [o0 28 (.un .not (.s 27))] [18,19,20,21,22,23,24,25,26,27])))
 (.cond (.s 28)
 (.seq (.reg [o0 6 (.mov (.c (.bool false)))] [])
 .ret)
 .skip))))
 (.reg [o0 29 (.bin .add (.s 15) (.c (.int .i64 1))),
 mv 15 29] [29])))))))
 (.seq (.reg [o0 6 (.mov (.c (.bool true)))] [])
 .ret))))⟩

theorem cX24:compF Tryz.prog 44 = some FX24:=by kernel_rfl
abbrev nX24:FuncId:=44

def FX12:IFun :=
⟨8,2,[.tmp 4],
 (.seq (.reg [o0 2 (.box 84 3 (.s 0)),
 o0 3 (.box 84 3 (.s 1)),
 o0 4 (.mov (.c (.bool false)))] [])
 (.seq (.reg [o0 5 (.load (some 3) (.s 2)),
 o0 6 (.load (some 3) (.s 3)),
 o0 7 (.sbin .eql [.s,.i,.i] (.s 5) (.s 6)),
 mv 4 7] [5,6,7])
 .ret))⟩

theorem cX12:compF Tryz.prog 45 = some FX12:=by kernel_rfl
abbrev nX12:FuncId:=45

def FX45:IFun :=
⟨30,3,[.tmp 6],
 (.seq (.reg [o0 6 (.mov (.c (.bool false)))] [])
 (.seq (.seq (.reg [mv 8 0,
 o0 9 (.len (.s 8)),
 mv 10 1,
 o0 11 (.len (.s 10)),
 o0 12 (.bin .neq (.s 9) (.s 11))] [8,9,10,11])
 (.cond (.s 12)
 (.seq (.reg [o0 6 (.mov (.c (.bool false)))] [])
 .ret)
 .skip))
 (.seq (.seq (.reg [mv 13 0,
 o0 14 (.len (.s 13)),
 o0 15 (.mov (.c (.int .i64 0)))] [13])
 (.block 0 (.loop (.seq (.reg [o0 16 (.bin .lss (.s 15) (.s 14))] [])
 (.seq (.cond (.s 16)
 .skip
 (.exit 0))
 (.seq (.block 1 (.seq (.reg [mv 17 15,
 mv 7 17] [17])
 (.seq (.seq (.draw [⟨mv 18 2,[]⟩,
 ⟨mv 19 0,[]⟩,
 ⟨mv 20 7,[]⟩,
 ⟨o0 21 (.iadr 5 (.s 19) (.s 20)),[1,2]⟩,
 ⟨o0 22 (.load (some 5) (.s 21)),[3,1,2]⟩,
 ⟨mv 23 1,[]⟩,
 ⟨mv 24 7,[]⟩,
 ⟨o0 25 (.iadr 5 (.s 23) (.s 24)),[5,6]⟩,
 ⟨o0 26 (.load (some 5) (.s 25)),[7,5,6]⟩] [] [])
 (.seq (.reg [o0 27 (.callv (.s 18) [(.s 22),(.s 26)])] [])
 (.reg [o0 28 (.un .not (.s 27))] [18,19,20,21,22,23,24,25,26,27])))
 (.cond (.s 28)
 (.seq (.reg [o0 6 (.mov (.c (.bool false)))] [])
 .ret)
 .skip))))
 (.reg [o0 29 (.bin .add (.s 15) (.c (.int .i64 1))),
 mv 15 29] [29])))))))
 (.seq (.reg [o0 6 (.mov (.c (.bool true)))] [])
 .ret))))⟩

theorem cX45:compF Tryz.prog 46 = some FX45:=by kernel_rfl
abbrev nX45:FuncId:=46

def FX44:IFun :=
⟨30,3,[.tmp 6],
 (.seq (.reg [o0 6 (.mov (.c (.bool false)))] [])
 (.seq (.seq (.reg [mv 8 0,
 o0 9 (.len (.s 8)),
 mv 10 1,
 o0 11 (.len (.s 10)),
 o0 12 (.bin .neq (.s 9) (.s 11))] [8,9,10,11])
 (.cond (.s 12)
 (.seq (.reg [o0 6 (.mov (.c (.bool false)))] [])
 .ret)
 .skip))
 (.seq (.seq (.reg [mv 13 0,
 o0 14 (.len (.s 13)),
 o0 15 (.mov (.c (.int .i64 0)))] [13])
 (.block 0 (.loop (.seq (.reg [o0 16 (.bin .lss (.s 15) (.s 14))] [])
 (.seq (.cond (.s 16)
 .skip
 (.exit 0))
 (.seq (.block 1 (.seq (.reg [mv 17 15,
 mv 7 17] [17])
 (.seq (.seq (.draw [⟨mv 18 2,[]⟩,
 ⟨mv 19 0,[]⟩,
 ⟨mv 20 7,[]⟩,
 ⟨o0 21 (.iadr 4 (.s 19) (.s 20)),[1,2]⟩,
 ⟨o0 22 (.load (some 4) (.s 21)),[3,1,2]⟩,
 ⟨mv 23 1,[]⟩,
 ⟨mv 24 7,[]⟩,
 ⟨o0 25 (.iadr 4 (.s 23) (.s 24)),[5,6]⟩,
 ⟨o0 26 (.load (some 4) (.s 25)),[7,5,6]⟩] [] [])
 (.seq (.reg [o0 27 (.callv (.s 18) [(.s 22),(.s 26)])] [])
 (.reg [o0 28 (.un .not (.s 27))] [18,19,20,21,22,23,24,25,26,27])))
 (.cond (.s 28)
 (.seq (.reg [o0 6 (.mov (.c (.bool false)))] [])
 .ret)
 .skip))))
 (.reg [o0 29 (.bin .add (.s 15) (.c (.int .i64 1))),
 mv 15 29] [29])))))))
 (.seq (.reg [o0 6 (.mov (.c (.bool true)))] [])
 .ret))))⟩

theorem cX44:compF Tryz.prog 47 = some FX44:=by kernel_rfl
abbrev nX44:FuncId:=47

def FX23:IFun :=
⟨30,3,[.tmp 6],
 (.seq (.reg [o0 6 (.mov (.c (.bool false)))] [])
 (.seq (.seq (.reg [mv 8 0,
 o0 9 (.len (.s 8)),
 mv 10 1,
 o0 11 (.len (.s 10)),
 o0 12 (.bin .neq (.s 9) (.s 11))] [8,9,10,11])
 (.cond (.s 12)
 (.seq (.reg [o0 6 (.mov (.c (.bool false)))] [])
 .ret)
 .skip))
 (.seq (.seq (.reg [mv 13 0,
 o0 14 (.len (.s 13)),
 o0 15 (.mov (.c (.int .i64 0)))] [13])
 (.block 0 (.loop (.seq (.reg [o0 16 (.bin .lss (.s 15) (.s 14))] [])
 (.seq (.cond (.s 16)
 .skip
 (.exit 0))
 (.seq (.block 1 (.seq (.reg [mv 17 15,
 mv 7 17] [17])
 (.seq (.seq (.draw [⟨mv 18 2,[]⟩,
 ⟨mv 19 0,[]⟩,
 ⟨mv 20 7,[]⟩,
 ⟨o0 21 (.iadr 3 (.s 19) (.s 20)),[1,2]⟩,
 ⟨o0 22 (.load (some 3) (.s 21)),[3,1,2]⟩,
 ⟨mv 23 1,[]⟩,
 ⟨mv 24 7,[]⟩,
 ⟨o0 25 (.iadr 3 (.s 23) (.s 24)),[5,6]⟩,
 ⟨o0 26 (.load (some 3) (.s 25)),[7,5,6]⟩] [] [])
 (.seq (.reg [o0 27 (.callv (.s 18) [(.s 22),(.s 26)])] [])
 (.reg [o0 28 (.un .not (.s 27))] [18,19,20,21,22,23,24,25,26,27])))
 (.cond (.s 28)
 (.seq (.reg [o0 6 (.mov (.c (.bool false)))] [])
 .ret)
 .skip))))
 (.reg [o0 29 (.bin .add (.s 15) (.c (.int .i64 1))),
 mv 15 29] [29])))))))
 (.seq (.reg [o0 6 (.mov (.c (.bool true)))] [])
 .ret))))⟩

theorem cX23:compF Tryz.prog 48 = some FX23:=by kernel_rfl
abbrev nX23:FuncId:=48

def FX42:IFun :=
⟨56,6,[],
 (.seq (.seq (.reg [mv 16 2,
 o0 17 (.len (.s 16)),
 mv 18 4,
 o0 19 (.bin .add (.s 17) (.s 18)),
 mv 20 3,
 o0 21 (.bin .gtr (.s 19) (.s 20))] [16,17,18,19,20])
 (.cond (.s 21)
 (.reg [mv 22 0,
 mv 23 1,
 mv 24 3,
 mv 25 4,
 o0 26 (.bin .sub (.s 24) (.s 25)),
 o0 27 (.mnx true (.c (.int .i64 0)) (.s 26)),
 o0 28 (.call 81 [(.s 22),(.s 23),(.s 27),(.c (.int .i64 0)),(.c (.int .i64 6))])] [22,23,24,25,26,27,28])
 .skip))
 (.seq (.reg [mv 29 2,
 o0 30 (.len (.s 29)),
 o0 31 (.mov (.c (.int .i64 0)))] [])
 (.block 0 (.loop (.seq (.reg [o0 32 (.bin .lss (.s 31) (.s 30))] [])
 (.seq (.cond (.s 32)
 .skip
 (.exit 0))
 (.seq (.block 1 (.seq (.reg [mv 33 31,
 o0 34 (.iadr 2 (.s 29) (.s 31)),
 o0 35 (.load (some 2) (.s 34)),
 o0 13 (.new 71 [.nl,.nl]),
 mv 12 33,
 ⟨none,.store 2 (.s 13) (.s 35),none⟩] [33,34,35])
 (.seq (.seq (.reg [mv 36 0,
 o0 37 (.nchk (.s 36)),
 o0 38 (.fadr 0 (.s 37)),
 o0 39 (.fadr 3 (.s 38)),
 o0 40 (.load none (.s 39)),
 o0 41 (.bin .neq (.s 40) (.c (.int .i64 0)))] [36,37,38,39,40])
 (.cond (.s 41)
 .ret
 .skip))
 (.seq (.reg [mv 43 5,
 mv 44 12,
 o0 45 (.load (some 2) (.s 13)),
 o0 46 (.callv (.s 43) [(.s 44),(.s 45)]),
 mv 42 46,
 o0 47 (.ext (.s 42) 0),
 o0 48 (.ext (.s 42) 1),
 mv 14 47,
 mv 15 48] [43,44,45,46,42,47,48])
 (.reg [mv 49 0,
 mv 50 1,
 mv 51 12,
 mv 52 14,
 mv 53 15,
 o0 54 (.call 81 [(.s 49),(.s 50),(.s 51),(.s 52),(.s 53)])] [49,50,51,52,53,54])))))
 (.reg [o0 55 (.bin .add (.s 31) (.c (.int .i64 1))),
 mv 31 55] [55]))))))))⟩

theorem cX42:compF Tryz.prog 58 = some FX42:=by kernel_rfl
abbrev nX42:FuncId:=58

def FX59:IFun :=
⟨8,2,[.tmp 4,.tmp 5],
 (.seq (.reg [o0 3 (.box 71 2 (.s 1)),
 o0 4 (.mov (.c (.int .i64 0))),
 o0 5 (.mov (.c (.int .i64 0)))] [])
 (.seq (.reg [o0 6 (.load (some 2) (.s 3)),
 o0 7 (.call 60 [(.s 6)]),
 o0 4 (.mov (.c (.int .i64 0))),
 mv 5 7] [6,7])
 .ret))⟩

theorem cX59:compF Tryz.prog 59 = some FX59:=by kernel_rfl
abbrev nX59:FuncId:=59

def FX68:IFun :=
⟨25,1,[.tmp 2],
 (.seq (.reg [o0 1 (.box 71 2 (.s 0)),
 o0 2 (.mov (.c (.int .i64 0)))] [])
 (.seq (.block 0 (.seq (.reg [o0 4 (.fadr 0 (.s 1)),
 o0 5 (.load none (.s 4)),
 o0 6 (.len (.s 5)),
 o0 7 (.bin .gtr (.s 6) (.c (.int .i64 8))),
 mv 8 7,
 oF 9 8 (.fadr 1 (.s 1)),
 oF 10 8 (.load none (.s 9)),
 oF 11 8 (.len (.s 10)),
 oF 12 8 (.bin .gtr (.s 11) (.c (.int .i64 8))),
 o0 13 (.pick (.s 8) (.c (.bool true)) (.s 12)),
 mv 3 13] [4,5,6,7,8,9,10,11,12,13])
 (.cond (.s 3)
 (.seq (.reg [o0 2 (.mov (.c (.int .i64 6)))] [])
 .ret)
 (.seq (.reg [o0 15 (.fadr 0 (.s 1)),
 o0 16 (.load none (.s 15)),
 o0 17 (.call 145 [(.s 16)]),
 o0 18 (.un .not (.s 17)),
 mv 19 18,
 oF 20 19 (.fadr 1 (.s 1)),
 oF 21 19 (.load none (.s 20)),
 oF 22 19 (.call 145 [(.s 21)]),
 oF 23 19 (.un .not (.s 22)),
 o0 24 (.pick (.s 19) (.c (.bool true)) (.s 23)),
 mv 14 24] [15,16,17,18,19,20,21,22,23,24])
 (.cond (.s 14)
 (.seq (.reg [o0 2 (.mov (.c (.int .i64 12)))] [])
 .ret)
 .skip)))))
 (.seq (.reg [o0 2 (.mov (.c (.int .i64 0)))] [])
 .ret)))⟩

theorem cX68:compF Tryz.prog 60 = some FX68:=by kernel_rfl
abbrev nX68:FuncId:=60

def FX20:IFun :=
⟨56,6,[],
 (.seq (.seq (.reg [mv 16 2,
 o0 17 (.len (.s 16)),
 mv 18 4,
 o0 19 (.bin .add (.s 17) (.s 18)),
 mv 20 3,
 o0 21 (.bin .gtr (.s 19) (.s 20))] [16,17,18,19,20])
 (.cond (.s 21)
 (.reg [mv 22 0,
 mv 23 1,
 mv 24 3,
 mv 25 4,
 o0 26 (.bin .sub (.s 24) (.s 25)),
 o0 27 (.mnx true (.c (.int .i64 0)) (.s 26)),
 o0 28 (.call 81 [(.s 22),(.s 23),(.s 27),(.c (.int .i64 0)),(.c (.int .i64 6))])] [22,23,24,25,26,27,28])
 .skip))
 (.seq (.reg [mv 29 2,
 o0 30 (.len (.s 29)),
 o0 31 (.mov (.c (.int .i64 0)))] [])
 (.block 0 (.loop (.seq (.reg [o0 32 (.bin .lss (.s 31) (.s 30))] [])
 (.seq (.cond (.s 32)
 .skip
 (.exit 0))
 (.seq (.block 1 (.seq (.reg [mv 33 31,
 o0 34 (.iadr 13 (.s 29) (.s 31)),
 o0 35 (.load (some 13) (.s 34)),
 o0 13 (.new 80 [(.str []),(.str []),(.int .i64 0),(.int .i64 0),(.int .i64 0),(.int .i64 0),(.int .i64 0),(.bool false),(.int .i64 0),(.int .i64 0),(.bool false),(.int .i64 0),(.bool false)]),
 mv 12 33,
 ⟨none,.store 13 (.s 13) (.s 35),none⟩] [33,34,35])
 (.seq (.seq (.reg [mv 36 0,
 o0 37 (.nchk (.s 36)),
 o0 38 (.fadr 0 (.s 37)),
 o0 39 (.fadr 3 (.s 38)),
 o0 40 (.load none (.s 39)),
 o0 41 (.bin .neq (.s 40) (.c (.int .i64 0)))] [36,37,38,39,40])
 (.cond (.s 41)
 .ret
 .skip))
 (.seq (.reg [mv 43 5,
 mv 44 12,
 o0 45 (.load (some 13) (.s 13)),
 o0 46 (.callv (.s 43) [(.s 44),(.s 45)]),
 mv 42 46,
 o0 47 (.ext (.s 42) 0),
 o0 48 (.ext (.s 42) 1),
 mv 14 47,
 mv 15 48] [43,44,45,46,42,47,48])
 (.reg [mv 49 0,
 mv 50 1,
 mv 51 12,
 mv 52 14,
 mv 53 15,
 o0 54 (.call 81 [(.s 49),(.s 50),(.s 51),(.s 52),(.s 53)])] [49,50,51,52,53,54])))))
 (.reg [o0 55 (.bin .add (.s 31) (.c (.int .i64 1))),
 mv 31 55] [55]))))))))⟩

theorem cX20:compF Tryz.prog 61 = some FX20:=by kernel_rfl
abbrev nX20:FuncId:=61

def FX60:IFun :=
⟨8,2,[.tmp 4,.tmp 5],
 (.seq (.reg [o0 3 (.box 80 13 (.s 1)),
 o0 4 (.mov (.c (.int .i64 0))),
 o0 5 (.mov (.c (.int .i64 0)))] [])
 (.seq (.reg [o0 6 (.load (some 13) (.s 3)),
 o0 7 (.call 63 [(.s 6)]),
 o0 4 (.mov (.c (.int .i64 0))),
 mv 5 7] [6,7])
 .ret))⟩

theorem cX60:compF Tryz.prog 62 = some FX60:=by kernel_rfl
abbrev nX60:FuncId:=62

def FX71:IFun :=
⟨52,1,[.tmp 2],
 (.seq (.reg [o0 1 (.box 80 13 (.s 0)),
 o0 2 (.mov (.c (.int .i64 0)))] [])
 (.seq (.seq (.reg [o0 5 (.fadr 0 (.s 1)),
 o0 6 (.load none (.s 5)),
 o0 7 (.call 146 [(.s 6)]),
 mv 3 7] [5,6,7])
 (.seq (.reg [mv 8 3,
 o0 9 (.bin .neq (.s 8) (.c (.int .i64 0)))] [8])
 (.cond (.s 9)
 (.seq (.reg [mv 10 3,
 mv 2 10] [10])
 .ret)
 .skip)))
 (.seq (.seq (.reg [o0 11 (.fadr 1 (.s 1)),
 o0 12 (.load none (.s 11)),
 o0 13 (.call 146 [(.s 12)]),
 mv 4 13] [11,12,13])
 (.seq (.reg [mv 14 4,
 o0 15 (.bin .neq (.s 14) (.c (.int .i64 0)))] [14])
 (.cond (.s 15)
 (.seq (.reg [mv 16 4,
 mv 2 16] [16])
 .ret)
 .skip)))
 (.seq (.seq (.seq (.reg [o0 17 (.fadr 2 (.s 1))] [])
 (.seq (.reg [o0 18 (.load none (.s 17))] [])
 (.seq (.reg [o0 19 (.bin .lss (.s 18) (.c (.int .i64 0)))] [])
 (.seq (.reg [mv 20 19] [])
 (.seq (.reg [oF 21 20 (.fadr 2 (.s 1))] [])
 (.seq (.reg [oF 22 20 (.load none (.s 21))] [])
 (.seq (.reg [oF 23 20 (.bin .gtr (.s 22) (.c (.int .i64 3)))] [])
 (.seq (.reg [o0 24 (.pick (.s 20) (.c (.bool true)) (.s 23))] [])
 (.seq (.reg [mv 25 24] [])
 (.seq (.draw [⟨oF 26 25 (.load (some 13) (.s 1)),[]⟩,
 ⟨oF 27 25 (.call 147 [(.s 26)]),[0]⟩,
 ⟨oF 28 25 (.load (some 13) (.s 1)),[]⟩] [] [])
 (.seq (.reg [oF 29 25 (.sbin .neq [.s,.s,.i,.i,.i,.i,.i,.b,.i,.i,.b,.i,.b] (.s 27) (.s 28))] [])
 (.reg [o0 30 (.pick (.s 25) (.c (.bool true)) (.s 29))] [17,18,19,20,21,22,23,24,25,26,27,28,29]))))))))))))
 (.cond (.s 30)
 (.seq (.reg [o0 2 (.mov (.c (.int .i64 1)))] [])
 .ret)
 .skip))
 (.seq (.seq (.reg [o0 31 (.fadr 2 (.s 1)),
 o0 32 (.load none (.s 31))] [31])
 (.block 0 (.seq (.reg [o0 34 (.bin .eql (.s 32) (.c (.int .i64 1))),
 mv 33 34] [34])
 (.cond (.s 33)
 (.seq (.reg [o0 35 (.fadr 4 (.s 1)),
 o0 36 (.load (some 4) (.s 35)),
 o0 37 (.call 69 [(.s 36)]),
 mv 2 37] [35,36,37])
 .ret)
 (.seq (.reg [o0 39 (.bin .eql (.s 32) (.c (.int .i64 2))),
 mv 38 39] [39])
 (.cond (.s 38)
 (.seq (.reg [o0 40 (.fadr 8 (.s 1)),
 o0 41 (.load (some 3) (.s 40)),
 o0 42 (.call 72 [(.s 41)]),
 mv 2 42] [40,41,42])
 .ret)
 (.seq (.reg [o0 44 (.bin .eql (.s 32) (.c (.int .i64 3))),
 mv 43 44] [44])
 (.cond (.s 43)
 (.seq (.reg [o0 45 (.fadr 11 (.s 1)),
 o0 46 (.load (some 2) (.s 45)),
 o0 47 (.call 75 [(.s 46)]),
 mv 2 47] [45,46,47])
 .ret)
 .skip))))))))
 (.seq (.seq (.reg [o0 48 (.fadr 3 (.s 1)),
 o0 49 (.load none (.s 48)),
 o0 50 (.call 80 [(.s 49)]),
 o0 51 (.un .not (.s 50))] [48,49,50])
 (.cond (.s 51)
 (.seq (.reg [o0 2 (.mov (.c (.int .i64 11)))] [])
 .ret)
 .skip))
 (.seq (.reg [o0 2 (.mov (.c (.int .i64 0)))] [])
 .ret)))))))⟩

theorem cX71:compF Tryz.prog 63 = some FX71:=by kernel_rfl
abbrev nX71:FuncId:=63

def FX39:IFun :=
⟨56,6,[],
 (.seq (.seq (.reg [mv 16 2,
 o0 17 (.len (.s 16)),
 mv 18 4,
 o0 19 (.bin .add (.s 17) (.s 18)),
 mv 20 3,
 o0 21 (.bin .gtr (.s 19) (.s 20))] [16,17,18,19,20])
 (.cond (.s 21)
 (.reg [mv 22 0,
 mv 23 1,
 mv 24 3,
 mv 25 4,
 o0 26 (.bin .sub (.s 24) (.s 25)),
 o0 27 (.mnx true (.c (.int .i64 0)) (.s 26)),
 o0 28 (.call 81 [(.s 22),(.s 23),(.s 27),(.c (.int .i64 0)),(.c (.int .i64 6))])] [22,23,24,25,26,27,28])
 .skip))
 (.seq (.reg [mv 29 2,
 o0 30 (.len (.s 29)),
 o0 31 (.mov (.c (.int .i64 0)))] [])
 (.block 0 (.loop (.seq (.reg [o0 32 (.bin .lss (.s 31) (.s 30))] [])
 (.seq (.cond (.s 32)
 .skip
 (.exit 0))
 (.seq (.block 1 (.seq (.reg [mv 33 31,
 o0 34 (.iadr 3 (.s 29) (.s 31)),
 o0 35 (.load (some 3) (.s 34)),
 o0 13 (.new 52 [(.int .i64 0),.nl,.nl]),
 mv 12 33,
 ⟨none,.store 3 (.s 13) (.s 35),none⟩] [33,34,35])
 (.seq (.seq (.reg [mv 36 0,
 o0 37 (.nchk (.s 36)),
 o0 38 (.fadr 0 (.s 37)),
 o0 39 (.fadr 3 (.s 38)),
 o0 40 (.load none (.s 39)),
 o0 41 (.bin .neq (.s 40) (.c (.int .i64 0)))] [36,37,38,39,40])
 (.cond (.s 41)
 .ret
 .skip))
 (.seq (.reg [mv 43 5,
 mv 44 12,
 o0 45 (.load (some 3) (.s 13)),
 o0 46 (.callv (.s 43) [(.s 44),(.s 45)]),
 mv 42 46,
 o0 47 (.ext (.s 42) 0),
 o0 48 (.ext (.s 42) 1),
 mv 14 47,
 mv 15 48] [43,44,45,46,42,47,48])
 (.reg [mv 49 0,
 mv 50 1,
 mv 51 12,
 mv 52 14,
 mv 53 15,
 o0 54 (.call 81 [(.s 49),(.s 50),(.s 51),(.s 52),(.s 53)])] [49,50,51,52,53,54])))))
 (.reg [o0 55 (.bin .add (.s 31) (.c (.int .i64 1))),
 mv 31 55] [55]))))))))⟩

theorem cX39:compF Tryz.prog 64 = some FX39:=by kernel_rfl
abbrev nX39:FuncId:=64

def FX61:IFun :=
⟨8,2,[.tmp 4,.tmp 5],
 (.seq (.reg [o0 3 (.box 52 3 (.s 1)),
 o0 4 (.mov (.c (.int .i64 0))),
 o0 5 (.mov (.c (.int .i64 0)))] [])
 (.seq (.reg [o0 6 (.load (some 3) (.s 3)),
 o0 7 (.call 66 [(.s 6)]),
 o0 4 (.mov (.c (.int .i64 0))),
 mv 5 7] [6,7])
 .ret))⟩

theorem cX61:compF Tryz.prog 65 = some FX61:=by kernel_rfl
abbrev nX61:FuncId:=65

def FX111:IFun :=
⟨18,1,[.tmp 2],
 (.seq (.reg [o0 1 (.box 52 3 (.s 0)),
 o0 2 (.mov (.c (.int .i64 0)))] [])
 (.seq (.block 0 (.seq (.reg [o0 4 (.fadr 0 (.s 1)),
 o0 5 (.load none (.s 4)),
 o0 6 (.call 80 [(.s 5)]),
 o0 7 (.un .not (.s 6)),
 mv 3 7] [4,5,6,7])
 (.cond (.s 3)
 (.seq (.reg [o0 2 (.mov (.c (.int .i64 11)))] [])
 .ret)
 (.seq (.reg [o0 9 (.fadr 1 (.s 1)),
 o0 10 (.load none (.s 9)),
 o0 11 (.len (.s 10)),
 o0 12 (.bin .gtr (.s 11) (.c (.int .i64 64))),
 mv 8 12] [9,10,11,12])
 (.cond (.s 8)
 (.seq (.reg [o0 2 (.mov (.c (.int .i64 6)))] [])
 .ret)
 (.seq (.reg [o0 14 (.fadr 1 (.s 1)),
 o0 15 (.load none (.s 14)),
 o0 16 (.call 145 [(.s 15)]),
 o0 17 (.un .not (.s 16)),
 mv 13 17] [14,15,16,17])
 (.cond (.s 13)
 (.seq (.reg [o0 2 (.mov (.c (.int .i64 12)))] [])
 .ret)
 .skip)))))))
 (.seq (.reg [o0 2 (.mov (.c (.int .i64 0)))] [])
 .ret)))⟩

theorem cX111:compF Tryz.prog 66 = some FX111:=by kernel_rfl
abbrev nX111:FuncId:=66

def FX32:IFun :=
⟨56,6,[],
 (.seq (.seq (.reg [mv 16 2,
 o0 17 (.len (.s 16)),
 mv 18 4,
 o0 19 (.bin .add (.s 17) (.s 18)),
 mv 20 3,
 o0 21 (.bin .gtr (.s 19) (.s 20))] [16,17,18,19,20])
 (.cond (.s 21)
 (.reg [mv 22 0,
 mv 23 1,
 mv 24 3,
 mv 25 4,
 o0 26 (.bin .sub (.s 24) (.s 25)),
 o0 27 (.mnx true (.c (.int .i64 0)) (.s 26)),
 o0 28 (.call 81 [(.s 22),(.s 23),(.s 27),(.c (.int .i64 0)),(.c (.int .i64 6))])] [22,23,24,25,26,27,28])
 .skip))
 (.seq (.reg [mv 29 2,
 o0 30 (.len (.s 29)),
 o0 31 (.mov (.c (.int .i64 0)))] [])
 (.block 0 (.loop (.seq (.reg [o0 32 (.bin .lss (.s 31) (.s 30))] [])
 (.seq (.cond (.s 32)
 .skip
 (.exit 0))
 (.seq (.block 1 (.seq (.reg [mv 33 31,
 o0 34 (.iadr 4 (.s 29) (.s 31)),
 o0 35 (.load (some 4) (.s 34)),
 o0 13 (.new 76 [(.int .i64 0),(.int .i64 0),(.int .i64 0),(.bool false)]),
 mv 12 33,
 ⟨none,.store 4 (.s 13) (.s 35),none⟩] [33,34,35])
 (.seq (.seq (.reg [mv 36 0,
 o0 37 (.nchk (.s 36)),
 o0 38 (.fadr 0 (.s 37)),
 o0 39 (.fadr 3 (.s 38)),
 o0 40 (.load none (.s 39)),
 o0 41 (.bin .neq (.s 40) (.c (.int .i64 0)))] [36,37,38,39,40])
 (.cond (.s 41)
 .ret
 .skip))
 (.seq (.reg [mv 43 5,
 mv 44 12,
 o0 45 (.load (some 4) (.s 13)),
 o0 46 (.callv (.s 43) [(.s 44),(.s 45)]),
 mv 42 46,
 o0 47 (.ext (.s 42) 0),
 o0 48 (.ext (.s 42) 1),
 mv 14 47,
 mv 15 48] [43,44,45,46,42,47,48])
 (.reg [mv 49 0,
 mv 50 1,
 mv 51 12,
 mv 52 14,
 mv 53 15,
 o0 54 (.call 81 [(.s 49),(.s 50),(.s 51),(.s 52),(.s 53)])] [49,50,51,52,53,54])))))
 (.reg [o0 55 (.bin .add (.s 31) (.c (.int .i64 1))),
 mv 31 55] [55]))))))))⟩

theorem cX32:compF Tryz.prog 67 = some FX32:=by kernel_rfl
abbrev nX32:FuncId:=67

def FX62:IFun :=
⟨8,2,[.tmp 4,.tmp 5],
 (.seq (.reg [o0 3 (.box 76 4 (.s 1)),
 o0 4 (.mov (.c (.int .i64 0))),
 o0 5 (.mov (.c (.int .i64 0)))] [])
 (.seq (.reg [o0 6 (.load (some 4) (.s 3)),
 o0 7 (.call 69 [(.s 6)]),
 o0 4 (.mov (.c (.int .i64 0))),
 mv 5 7] [6,7])
 .ret))⟩

theorem cX62:compF Tryz.prog 68 = some FX62:=by kernel_rfl
abbrev nX62:FuncId:=68

def FX104:IFun :=
⟨13,1,[.tmp 2],
 (.seq (.reg [o0 1 (.box 76 4 (.s 0)),
 o0 2 (.mov (.c (.int .i64 0)))] [])
 (.seq (.block 0 (.seq (.reg [o0 4 (.fadr 0 (.s 1)),
 o0 5 (.load none (.s 4)),
 o0 6 (.call 148 [(.s 5)]),
 o0 7 (.un .not (.s 6)),
 mv 3 7] [4,5,6,7])
 (.cond (.s 3)
 (.seq (.reg [o0 2 (.mov (.c (.int .i64 12)))] [])
 .ret)
 (.seq (.reg [o0 9 (.fadr 1 (.s 1)),
 o0 10 (.load (some 3) (.s 9)),
 o0 11 (.call 149 [(.s 10),(.c (.int .i64 1024))]),
 o0 12 (.un .not (.s 11)),
 mv 8 12] [9,10,11,12])
 (.cond (.s 8)
 (.seq (.reg [o0 2 (.mov (.c (.int .i64 20)))] [])
 .ret)
 .skip)))))
 (.seq (.reg [o0 2 (.mov (.c (.int .i64 0)))] [])
 .ret)))⟩

theorem cX104:compF Tryz.prog 69 = some FX104:=by kernel_rfl
abbrev nX104:FuncId:=69

def FX21:IFun :=
⟨56,6,[],
 (.seq (.seq (.reg [mv 16 2,
 o0 17 (.len (.s 16)),
 mv 18 4,
 o0 19 (.bin .add (.s 17) (.s 18)),
 mv 20 3,
 o0 21 (.bin .gtr (.s 19) (.s 20))] [16,17,18,19,20])
 (.cond (.s 21)
 (.reg [mv 22 0,
 mv 23 1,
 mv 24 3,
 mv 25 4,
 o0 26 (.bin .sub (.s 24) (.s 25)),
 o0 27 (.mnx true (.c (.int .i64 0)) (.s 26)),
 o0 28 (.call 81 [(.s 22),(.s 23),(.s 27),(.c (.int .i64 0)),(.c (.int .i64 6))])] [22,23,24,25,26,27,28])
 .skip))
 (.seq (.reg [mv 29 2,
 o0 30 (.len (.s 29)),
 o0 31 (.mov (.c (.int .i64 0)))] [])
 (.block 0 (.loop (.seq (.reg [o0 32 (.bin .lss (.s 31) (.s 30))] [])
 (.seq (.cond (.s 32)
 .skip
 (.exit 0))
 (.seq (.block 1 (.seq (.reg [mv 33 31,
 o0 34 (.iadr 3 (.s 29) (.s 31)),
 o0 35 (.load (some 3) (.s 34)),
 o0 13 (.new 74 [(.int .i64 0),(.int .i64 0),(.bool false)]),
 mv 12 33,
 ⟨none,.store 3 (.s 13) (.s 35),none⟩] [33,34,35])
 (.seq (.seq (.reg [mv 36 0,
 o0 37 (.nchk (.s 36)),
 o0 38 (.fadr 0 (.s 37)),
 o0 39 (.fadr 3 (.s 38)),
 o0 40 (.load none (.s 39)),
 o0 41 (.bin .neq (.s 40) (.c (.int .i64 0)))] [36,37,38,39,40])
 (.cond (.s 41)
 .ret
 .skip))
 (.seq (.reg [mv 43 5,
 mv 44 12,
 o0 45 (.load (some 3) (.s 13)),
 o0 46 (.callv (.s 43) [(.s 44),(.s 45)]),
 mv 42 46,
 o0 47 (.ext (.s 42) 0),
 o0 48 (.ext (.s 42) 1),
 mv 14 47,
 mv 15 48] [43,44,45,46,42,47,48])
 (.reg [mv 49 0,
 mv 50 1,
 mv 51 12,
 mv 52 14,
 mv 53 15,
 o0 54 (.call 81 [(.s 49),(.s 50),(.s 51),(.s 52),(.s 53)])] [49,50,51,52,53,54])))))
 (.reg [o0 55 (.bin .add (.s 31) (.c (.int .i64 1))),
 mv 31 55] [55]))))))))⟩

theorem cX21:compF Tryz.prog 70 = some FX21:=by kernel_rfl
abbrev nX21:FuncId:=70

def FX63:IFun :=
⟨8,2,[.tmp 4,.tmp 5],
 (.seq (.reg [o0 3 (.box 74 3 (.s 1)),
 o0 4 (.mov (.c (.int .i64 0))),
 o0 5 (.mov (.c (.int .i64 0)))] [])
 (.seq (.reg [o0 6 (.load (some 3) (.s 3)),
 o0 7 (.call 72 [(.s 6)]),
 o0 4 (.mov (.c (.int .i64 0))),
 mv 5 7] [6,7])
 .ret))⟩

theorem cX63:compF Tryz.prog 71 = some FX63:=by kernel_rfl
abbrev nX63:FuncId:=71

def FX97:IFun :=
⟨6,1,[.tmp 2],
 (.seq (.reg [o0 1 (.box 74 3 (.s 0)),
 o0 2 (.mov (.c (.int .i64 0)))] [])
 (.seq (.seq (.reg [o0 3 (.load (some 3) (.s 1)),
 o0 4 (.call 149 [(.s 3),(.c (.int .i64 256))]),
 o0 5 (.un .not (.s 4))] [3,4])
 (.cond (.s 5)
 (.seq (.reg [o0 2 (.mov (.c (.int .i64 20)))] [])
 .ret)
 .skip))
 (.seq (.reg [o0 2 (.mov (.c (.int .i64 0)))] [])
 .ret)))⟩

theorem cX97:compF Tryz.prog 72 = some FX97:=by kernel_rfl
abbrev nX97:FuncId:=72

def FX9:IFun :=
⟨56,6,[],
 (.seq (.seq (.reg [mv 16 2,
 o0 17 (.len (.s 16)),
 mv 18 4,
 o0 19 (.bin .add (.s 17) (.s 18)),
 mv 20 3,
 o0 21 (.bin .gtr (.s 19) (.s 20))] [16,17,18,19,20])
 (.cond (.s 21)
 (.reg [mv 22 0,
 mv 23 1,
 mv 24 3,
 mv 25 4,
 o0 26 (.bin .sub (.s 24) (.s 25)),
 o0 27 (.mnx true (.c (.int .i64 0)) (.s 26)),
 o0 28 (.call 81 [(.s 22),(.s 23),(.s 27),(.c (.int .i64 0)),(.c (.int .i64 6))])] [22,23,24,25,26,27,28])
 .skip))
 (.seq (.reg [mv 29 2,
 o0 30 (.len (.s 29)),
 o0 31 (.mov (.c (.int .i64 0)))] [])
 (.block 0 (.loop (.seq (.reg [o0 32 (.bin .lss (.s 31) (.s 30))] [])
 (.seq (.cond (.s 32)
 .skip
 (.exit 0))
 (.seq (.block 1 (.seq (.reg [mv 33 31,
 o0 34 (.iadr 3 (.s 29) (.s 31)),
 o0 35 (.load (some 3) (.s 34)),
 o0 13 (.new 82 [(.int .i64 0),(.bool false),.nl]),
 mv 12 33,
 ⟨none,.store 3 (.s 13) (.s 35),none⟩] [33,34,35])
 (.seq (.seq (.reg [mv 36 0,
 o0 37 (.nchk (.s 36)),
 o0 38 (.fadr 0 (.s 37)),
 o0 39 (.fadr 3 (.s 38)),
 o0 40 (.load none (.s 39)),
 o0 41 (.bin .neq (.s 40) (.c (.int .i64 0)))] [36,37,38,39,40])
 (.cond (.s 41)
 .ret
 .skip))
 (.seq (.reg [mv 43 5,
 mv 44 12,
 o0 45 (.load (some 3) (.s 13)),
 o0 46 (.callv (.s 43) [(.s 44),(.s 45)]),
 mv 42 46,
 o0 47 (.ext (.s 42) 0),
 o0 48 (.ext (.s 42) 1),
 mv 14 47,
 mv 15 48] [43,44,45,46,42,47,48])
 (.reg [mv 49 0,
 mv 50 1,
 mv 51 12,
 mv 52 14,
 mv 53 15,
 o0 54 (.call 81 [(.s 49),(.s 50),(.s 51),(.s 52),(.s 53)])] [49,50,51,52,53,54])))))
 (.reg [o0 55 (.bin .add (.s 31) (.c (.int .i64 1))),
 mv 31 55] [55]))))))))⟩

theorem cX9:compF Tryz.prog 73 = some FX9:=by kernel_rfl
abbrev nX9:FuncId:=73

def FX64:IFun :=
⟨18,2,[.tmp 4,.tmp 5],
 (.seq (.reg [o0 3 (.box 82 3 (.s 1)),
 o0 4 (.mov (.c (.int .i64 0))),
 o0 5 (.mov (.c (.int .i64 0)))] [])
 (.seq (.seq (.reg [o0 7 (.fadr 0 (.s 3)),
 o0 8 (.load (some 2) (.s 7)),
 o0 9 (.call 75 [(.s 8)]),
 mv 6 9] [7,8,9])
 (.seq (.reg [mv 10 6,
 o0 11 (.bin .neq (.s 10) (.c (.int .i64 0)))] [10])
 (.cond (.s 11)
 (.seq (.reg [mv 12 6,
 o0 4 (.mov (.c (.int .i64 0))),
 mv 5 12] [12])
 .ret)
 .skip)))
 (.seq (.reg [o0 13 (.fadr 2 (.s 3)),
 o0 14 (.load none (.s 13)),
 o0 15 (.call 76 [(.s 14)]),
 o0 16 (.ext (.s 15) 0),
 o0 17 (.ext (.s 15) 1),
 mv 4 16,
 mv 5 17] [13,14,15,16,17])
 .ret)))⟩

theorem cX64:compF Tryz.prog 74 = some FX64:=by kernel_rfl
abbrev nX64:FuncId:=74

def FX96:IFun :=
⟨7,1,[.tmp 2],
 (.seq (.reg [o0 1 (.box 78 2 (.s 0)),
 o0 2 (.mov (.c (.int .i64 0)))] [])
 (.seq (.seq (.reg [o0 3 (.fadr 0 (.s 1)),
 o0 4 (.load none (.s 3)),
 o0 5 (.call 150 [(.s 4)]),
 o0 6 (.un .not (.s 5))] [3,4,5])
 (.cond (.s 6)
 (.seq (.reg [o0 2 (.mov (.c (.int .i64 12)))] [])
 .ret)
 .skip))
 (.seq (.reg [o0 2 (.mov (.c (.int .i64 0)))] [])
 .ret)))⟩

theorem cX96:compF Tryz.prog 75 = some FX96:=by kernel_rfl
abbrev nX96:FuncId:=75

def FX121:IFun :=
⟨28,1,[.tmp 2,.tmp 3],
 (.seq (.reg [o0 2 (.mov (.c (.int .i64 0))),
 o0 3 (.mov (.c (.int .i64 0)))] [])
 (.seq (.seq (.reg [mv 6 0,
 o0 7 (.len (.s 6)),
 o0 8 (.bin .gtr (.s 7) (.c (.int .i64 2048)))] [6,7])
 (.cond (.s 8)
 (.seq (.reg [o0 2 (.mov (.c (.int .i64 2048))),
 o0 3 (.mov (.c (.int .i64 6)))] [])
 .ret)
 .skip))
 (.seq (.seq (.reg [mv 9 0,
 o0 10 (.len (.s 9)),
 o0 11 (.mov (.c (.int .i64 0)))] [])
 (.block 0 (.loop (.seq (.reg [o0 12 (.bin .lss (.s 11) (.s 10))] [])
 (.seq (.cond (.s 12)
 .skip
 (.exit 0))
 (.seq (.block 1 (.seq (.reg [mv 13 11,
 o0 14 (.iadr 9 (.s 9) (.s 11)),
 o0 15 (.load (some 9) (.s 14)),
 o0 5 (.new 61 [(.int .i64 0),(.int .i64 0),(.int .i64 0),(.int .u64 0),(.int .i64 0),(.int .i64 0),(.int .i64 0),.nl,.nl]),
 mv 4 13,
 ⟨none,.store 9 (.s 5) (.s 15),none⟩] [13,14,15])
 (.block 2 (.seq (.reg [o0 17 (.load (some 9) (.s 5)),
 o0 18 (.call 151 [(.s 17)]),
 o0 19 (.un .not (.s 18)),
 mv 16 19] [17,18,19])
 (.cond (.s 16)
 (.seq (.reg [mv 20 4,
 mv 2 20,
 o0 3 (.mov (.c (.int .i64 10)))] [20])
 .ret)
 (.seq (.reg [o0 22 (.fadr 8 (.s 5)),
 o0 23 (.load none (.s 22)),
 o0 24 (.len (.s 23)),
 o0 25 (.bin .gtr (.s 24) (.c (.int .i64 64))),
 mv 21 25] [22,23,24,25])
 (.cond (.s 21)
 (.seq (.reg [mv 26 4,
 mv 2 26,
 o0 3 (.mov (.c (.int .i64 6)))] [26])
 .ret)
 .skip)))))))
 (.reg [o0 27 (.bin .add (.s 11) (.c (.int .i64 1))),
 mv 11 27] [27])))))))
 (.seq (.reg [o0 2 (.mov (.c (.int .i64 0))),
 o0 3 (.mov (.c (.int .i64 0)))] [])
 .ret))))⟩

theorem cX121:compF Tryz.prog 76 = some FX121:=by kernel_rfl
abbrev nX121:FuncId:=76

def FX19:IFun :=
⟨56,6,[],
 (.seq (.seq (.reg [mv 16 2,
 o0 17 (.len (.s 16)),
 mv 18 4,
 o0 19 (.bin .add (.s 17) (.s 18)),
 mv 20 3,
 o0 21 (.bin .gtr (.s 19) (.s 20))] [16,17,18,19,20])
 (.cond (.s 21)
 (.reg [mv 22 0,
 mv 23 1,
 mv 24 3,
 mv 25 4,
 o0 26 (.bin .sub (.s 24) (.s 25)),
 o0 27 (.mnx true (.c (.int .i64 0)) (.s 26)),
 o0 28 (.call 81 [(.s 22),(.s 23),(.s 27),(.c (.int .i64 0)),(.c (.int .i64 6))])] [22,23,24,25,26,27,28])
 .skip))
 (.seq (.reg [mv 29 2,
 o0 30 (.len (.s 29)),
 o0 31 (.mov (.c (.int .i64 0)))] [])
 (.block 0 (.loop (.seq (.reg [o0 32 (.bin .lss (.s 31) (.s 30))] [])
 (.seq (.cond (.s 32)
 .skip
 (.exit 0))
 (.seq (.block 1 (.seq (.reg [mv 33 31,
 o0 34 (.iadr 3 (.s 29) (.s 31)),
 o0 35 (.load (some 3) (.s 34)),
 o0 13 (.new 84 [(.str []),(.int .i64 0),(.int .i64 0)]),
 mv 12 33,
 ⟨none,.store 3 (.s 13) (.s 35),none⟩] [33,34,35])
 (.seq (.seq (.reg [mv 36 0,
 o0 37 (.nchk (.s 36)),
 o0 38 (.fadr 0 (.s 37)),
 o0 39 (.fadr 3 (.s 38)),
 o0 40 (.load none (.s 39)),
 o0 41 (.bin .neq (.s 40) (.c (.int .i64 0)))] [36,37,38,39,40])
 (.cond (.s 41)
 .ret
 .skip))
 (.seq (.reg [mv 43 5,
 mv 44 12,
 o0 45 (.load (some 3) (.s 13)),
 o0 46 (.callv (.s 43) [(.s 44),(.s 45)]),
 mv 42 46,
 o0 47 (.ext (.s 42) 0),
 o0 48 (.ext (.s 42) 1),
 mv 14 47,
 mv 15 48] [43,44,45,46,42,47,48])
 (.reg [mv 49 0,
 mv 50 1,
 mv 51 12,
 mv 52 14,
 mv 53 15,
 o0 54 (.call 81 [(.s 49),(.s 50),(.s 51),(.s 52),(.s 53)])] [49,50,51,52,53,54])))))
 (.reg [o0 55 (.bin .add (.s 31) (.c (.int .i64 1))),
 mv 31 55] [55]))))))))⟩

theorem cX19:compF Tryz.prog 77 = some FX19:=by kernel_rfl
abbrev nX19:FuncId:=77

def FX65:IFun :=
⟨8,2,[.tmp 4,.tmp 5],
 (.seq (.reg [o0 3 (.box 84 3 (.s 1)),
 o0 4 (.mov (.c (.int .i64 0))),
 o0 5 (.mov (.c (.int .i64 0)))] [])
 (.seq (.reg [o0 6 (.load (some 3) (.s 3)),
 o0 7 (.call 79 [(.s 6)]),
 o0 4 (.mov (.c (.int .i64 0))),
 mv 5 7] [6,7])
 .ret))⟩

theorem cX65:compF Tryz.prog 78 = some FX65:=by kernel_rfl
abbrev nX65:FuncId:=78

def FX95:IFun :=
⟨24,1,[.tmp 2],
 (.seq (.reg [o0 1 (.box 84 3 (.s 0)),
 o0 2 (.mov (.c (.int .i64 0)))] [])
 (.seq (.seq (.reg [o0 4 (.fadr 0 (.s 1)),
 o0 5 (.load none (.s 4)),
 o0 6 (.call 146 [(.s 5)]),
 mv 3 6] [4,5,6])
 (.seq (.reg [mv 7 3,
 o0 8 (.bin .neq (.s 7) (.c (.int .i64 0)))] [7])
 (.cond (.s 8)
 (.seq (.reg [mv 9 3,
 mv 2 9] [9])
 .ret)
 .skip)))
 (.seq (.block 0 (.seq (.reg [o0 11 (.fadr 1 (.s 1)),
 o0 12 (.load none (.s 11)),
 o0 13 (.bin .lss (.s 12) (.c (.int .i64 0))),
 mv 14 13,
 oF 15 14 (.fadr 1 (.s 1)),
 oF 16 14 (.load none (.s 15)),
 oF 17 14 (.bin .gtr (.s 16) (.c (.int .i64 3))),
 o0 18 (.pick (.s 14) (.c (.bool true)) (.s 17)),
 mv 10 18] [11,12,13,14,15,16,17,18])
 (.cond (.s 10)
 (.seq (.reg [o0 2 (.mov (.c (.int .i64 1)))] [])
 .ret)
 (.seq (.reg [o0 20 (.fadr 2 (.s 1)),
 o0 21 (.load none (.s 20)),
 o0 22 (.call 80 [(.s 21)]),
 o0 23 (.un .not (.s 22)),
 mv 19 23] [20,21,22,23])
 (.cond (.s 19)
 (.seq (.reg [o0 2 (.mov (.c (.int .i64 11)))] [])
 .ret)
 .skip)))))
 (.seq (.reg [o0 2 (.mov (.c (.int .i64 0)))] [])
 .ret))))⟩

theorem cX95:compF Tryz.prog 79 = some FX95:=by kernel_rfl
abbrev nX95:FuncId:=79

def FX103:IFun :=
⟨9,1,[.tmp 2],
 (.seq (.reg [o0 2 (.mov (.c (.bool false)))] [])
 (.seq (.reg [mv 3 0,
 o0 4 (.bin .geq (.s 3) (.c (.int .i64 0))),
 mv 5 4,
 mt 6 0 5,
 ot 7 5 (.bin .lss (.s 6) (.c (.int .i64 4294967296))),
 o0 8 (.pick (.s 5) (.s 7) (.c (.bool false))),
 mv 2 8] [3,4,5,6,7,8])
 .ret))⟩

theorem cX103:compF Tryz.prog 80 = some FX103:=by kernel_rfl
abbrev nX103:FuncId:=80

def FX49:IFun :=
⟨28,5,[],
 (.seq (.reg [mv 10 0,
 o0 11 (.nchk (.s 10)),
 o0 12 (.fadr 0 (.s 11)),
 o0 13 (.fadr 3 (.s 12)),
 o0 14 (.load none (.s 13)),
 o0 15 (.bin .eql (.s 14) (.c (.int .i64 0))),
 mv 16 15,
 mt 17 4 16,
 ot 18 16 (.bin .neq (.s 17) (.c (.int .i64 0))),
 o0 19 (.pick (.s 16) (.s 18) (.c (.bool false)))] [10,11,12,13,14,15,16,17,18])
 (.cond (.s 19)
 (.reg [mv 20 0,
 mv 21 1,
 mv 22 2,
 mv 23 3,
 mv 24 4,
 o0 25 (.build [(.int .i64 0),(.int .i64 0),(.int .i64 0),(.int .i64 0)] [(0,1,(.s 21)),(1,1,(.s 22)),(2,1,(.s 23)),(3,1,(.s 24))]),
 o0 26 (.nchk (.s 20)),
 o0 27 (.fadr 0 (.s 26)),
 ⟨none,.store 4 (.s 27) (.s 25),none⟩] [20,21,22,23,24,25,26,27])
 .skip))⟩

theorem cX49:compF Tryz.prog 81 = some FX49:=by kernel_rfl
abbrev nX49:FuncId:=81

def FX41:IFun :=
⟨56,6,[],
 (.seq (.seq (.reg [mv 16 2,
 o0 17 (.len (.s 16)),
 mv 18 4,
 o0 19 (.bin .add (.s 17) (.s 18)),
 mv 20 3,
 o0 21 (.bin .gtr (.s 19) (.s 20))] [16,17,18,19,20])
 (.cond (.s 21)
 (.reg [mv 22 0,
 mv 23 1,
 mv 24 3,
 mv 25 4,
 o0 26 (.bin .sub (.s 24) (.s 25)),
 o0 27 (.mnx true (.c (.int .i64 0)) (.s 26)),
 o0 28 (.call 81 [(.s 22),(.s 23),(.s 27),(.c (.int .i64 0)),(.c (.int .i64 6))])] [22,23,24,25,26,27,28])
 .skip))
 (.seq (.reg [mv 29 2,
 o0 30 (.len (.s 29)),
 o0 31 (.mov (.c (.int .i64 0)))] [])
 (.block 0 (.loop (.seq (.reg [o0 32 (.bin .lss (.s 31) (.s 30))] [])
 (.seq (.cond (.s 32)
 .skip
 (.exit 0))
 (.seq (.block 1 (.seq (.reg [mv 33 31,
 o0 34 (.iadr 5 (.s 29) (.s 31)),
 o0 35 (.load (some 5) (.s 34)),
 o0 13 (.new 86 [(.int .i64 0),(.int .i64 0),.nl,(.int .i64 0),.nl]),
 mv 12 33,
 ⟨none,.store 5 (.s 13) (.s 35),none⟩] [33,34,35])
 (.seq (.seq (.reg [mv 36 0,
 o0 37 (.nchk (.s 36)),
 o0 38 (.fadr 0 (.s 37)),
 o0 39 (.fadr 3 (.s 38)),
 o0 40 (.load none (.s 39)),
 o0 41 (.bin .neq (.s 40) (.c (.int .i64 0)))] [36,37,38,39,40])
 (.cond (.s 41)
 .ret
 .skip))
 (.seq (.reg [mv 43 5,
 mv 44 12,
 o0 45 (.load (some 5) (.s 13)),
 o0 46 (.callv (.s 43) [(.s 44),(.s 45)]),
 mv 42 46,
 o0 47 (.ext (.s 42) 0),
 o0 48 (.ext (.s 42) 1),
 mv 14 47,
 mv 15 48] [43,44,45,46,42,47,48])
 (.reg [mv 49 0,
 mv 50 1,
 mv 51 12,
 mv 52 14,
 mv 53 15,
 o0 54 (.call 81 [(.s 49),(.s 50),(.s 51),(.s 52),(.s 53)])] [49,50,51,52,53,54])))))
 (.reg [o0 55 (.bin .add (.s 31) (.c (.int .i64 1))),
 mv 31 55] [55]))))))))⟩

theorem cX41:compF Tryz.prog 82 = some FX41:=by kernel_rfl
abbrev nX41:FuncId:=82

def FX66:IFun :=
⟨10,2,[.tmp 4,.tmp 5],
 (.seq (.reg [o0 3 (.box 86 5 (.s 1)),
 o0 4 (.mov (.c (.int .i64 0))),
 o0 5 (.mov (.c (.int .i64 0)))] [])
 (.seq (.reg [o0 6 (.load (some 5) (.s 3)),
 o0 7 (.call 84 [(.s 6)]),
 o0 8 (.ext (.s 7) 0),
 o0 9 (.ext (.s 7) 1),
 mv 4 8,
 mv 5 9] [6,7,8,9])
 .ret))⟩

theorem cX66:compF Tryz.prog 83 = some FX66:=by kernel_rfl
abbrev nX66:FuncId:=83

def FX113:IFun :=
⟨69,1,[.tmp 2,.tmp 3],
 (.seq (.reg [o0 1 (.box 86 5 (.s 0)),
 o0 2 (.mov (.c (.int .i64 0))),
 o0 3 (.mov (.c (.int .i64 0)))] [])
 (.seq (.block 0 (.seq (.reg [o0 9 (.fadr 0 (.s 1)),
 o0 10 (.load none (.s 9)),
 o0 11 (.bin .lss (.s 10) (.c (.int .i64 0))),
 mv 12 11,
 oF 13 12 (.fadr 0 (.s 1)),
 oF 14 12 (.load none (.s 13)),
 oF 15 12 (.bin .gtr (.s 14) (.c (.int .i64 2))),
 o0 16 (.pick (.s 12) (.c (.bool true)) (.s 15)),
 mv 17 16,
 oF 18 17 (.fadr 0 (.s 1)),
 oF 19 17 (.load none (.s 18)),
 oF 20 17 (.bin .neq (.s 19) (.c (.int .i64 0))),
 mf 21 20 17,
 ot 22 21 (.fadr 1 (.s 1)),
 ot 23 21 (.load none (.s 22)),
 ot 24 21 (.bin .neq (.s 23) (.c (.int .i64 0))),
 mt 25 24 21,
 oF 26 25 (.fadr 2 (.s 1)),
 oF 27 25 (.load none (.s 26)),
 oF 28 25 (.len (.s 27)),
 oF 29 25 (.bin .gtr (.s 28) (.c (.int .i64 0))),
 ot 30 21 (.pick (.s 25) (.c (.bool true)) (.s 29)),
 oF 31 17 (.pick (.s 21) (.s 30) (.c (.bool false))),
 o0 32 (.pick (.s 17) (.c (.bool true)) (.s 31)),
 mv 8 32] [9,10,11,12,13,14,15,16,17,18,19,20,21,22,23,24,25,26,27,28,29,30,31,32])
 (.cond (.s 8)
 (.seq (.reg [o0 2 (.mov (.c (.int .i64 0))),
 o0 3 (.mov (.c (.int .i64 1)))] [])
 .ret)
 (.seq (.reg [o0 34 (.fadr 1 (.s 1)),
 o0 35 (.load none (.s 34)),
 o0 36 (.call 80 [(.s 35)]),
 o0 37 (.un .not (.s 36)),
 mv 33 37] [34,35,36,37])
 (.cond (.s 33)
 (.seq (.reg [o0 2 (.mov (.c (.int .i64 0))),
 o0 3 (.mov (.c (.int .i64 11)))] [])
 .ret)
 (.seq (.reg [o0 39 (.fadr 3 (.s 1)),
 o0 40 (.load none (.s 39)),
 o0 41 (.call 148 [(.s 40)]),
 o0 42 (.un .not (.s 41)),
 mv 38 42] [39,40,41,42])
 (.cond (.s 38)
 (.seq (.reg [o0 2 (.mov (.c (.int .i64 0))),
 o0 3 (.mov (.c (.int .i64 12)))] [])
 .ret)
 (.seq (.reg [o0 44 (.fadr 4 (.s 1)),
 o0 45 (.load none (.s 44)),
 o0 46 (.len (.s 45)),
 o0 47 (.bin .gtr (.s 46) (.c (.int .i64 256))),
 mv 43 47] [44,45,46,47])
 (.cond (.s 43)
 (.seq (.reg [o0 2 (.mov (.c (.int .i64 0))),
 o0 3 (.mov (.c (.int .i64 6)))] [])
 .ret)
 .skip)))))))))
 (.seq (.seq (.reg [o0 48 (.fadr 2 (.s 1)),
 o0 49 (.load none (.s 48)),
 o0 50 (.bsl 50 1 [[.nl]] [(0,(.s 49))]),
 o0 51 (.fadr 4 (.s 1)),
 o0 52 (.load none (.s 51)),
 o0 53 (.app 50 1 (.s 50) (.s 52)),
 o0 54 (.len (.s 53)),
 o0 55 (.mov (.c (.int .i64 0)))] [48,49,50,51,52])
 (.block 1 (.loop (.seq (.reg [o0 56 (.bin .lss (.s 55) (.s 54))] [])
 (.seq (.cond (.s 56)
 .skip
 (.exit 1))
 (.seq (.block 2 (.seq (.reg [o0 57 (.iadr 1 (.s 53) (.s 55)),
 o0 58 (.load none (.s 57)),
 mv 5 58] [57,58])
 (.seq (.reg [mv 60 5,
 o0 61 (.call 76 [(.s 60)]),
 mv 59 61,
 o0 62 (.ext (.s 59) 0),
 o0 63 (.ext (.s 59) 1),
 mv 6 62,
 mv 7 63] [60,61,59,62,63])
 (.seq (.reg [mv 64 7,
 o0 65 (.bin .neq (.s 64) (.c (.int .i64 0)))] [64])
 (.cond (.s 65)
 (.seq (.reg [mv 66 6,
 mv 67 7,
 mv 2 66,
 mv 3 67] [66,67])
 .ret)
 .skip)))))
 (.reg [o0 68 (.bin .add (.s 55) (.c (.int .i64 1))),
 mv 55 68] [68])))))))
 (.seq (.reg [o0 2 (.mov (.c (.int .i64 0))),
 o0 3 (.mov (.c (.int .i64 0)))] [])
 .ret))))⟩

theorem cX113:compF Tryz.prog 84 = some FX113:=by kernel_rfl
abbrev nX113:FuncId:=84

def FX40:IFun :=
⟨56,6,[],
 (.seq (.seq (.reg [mv 16 2,
 o0 17 (.len (.s 16)),
 mv 18 4,
 o0 19 (.bin .add (.s 17) (.s 18)),
 mv 20 3,
 o0 21 (.bin .gtr (.s 19) (.s 20))] [16,17,18,19,20])
 (.cond (.s 21)
 (.reg [mv 22 0,
 mv 23 1,
 mv 24 3,
 mv 25 4,
 o0 26 (.bin .sub (.s 24) (.s 25)),
 o0 27 (.mnx true (.c (.int .i64 0)) (.s 26)),
 o0 28 (.call 81 [(.s 22),(.s 23),(.s 27),(.c (.int .i64 0)),(.c (.int .i64 6))])] [22,23,24,25,26,27,28])
 .skip))
 (.seq (.reg [mv 29 2,
 o0 30 (.len (.s 29)),
 o0 31 (.mov (.c (.int .i64 0)))] [])
 (.block 0 (.loop (.seq (.reg [o0 32 (.bin .lss (.s 31) (.s 30))] [])
 (.seq (.cond (.s 32)
 .skip
 (.exit 0))
 (.seq (.block 1 (.seq (.reg [mv 33 31,
 o0 34 (.iadr 4 (.s 29) (.s 31)),
 o0 35 (.load (some 4) (.s 34)),
 o0 13 (.new 89 [(.int .i64 0),(.int .i64 0),.nl,.nl]),
 mv 12 33,
 ⟨none,.store 4 (.s 13) (.s 35),none⟩] [33,34,35])
 (.seq (.seq (.reg [mv 36 0,
 o0 37 (.nchk (.s 36)),
 o0 38 (.fadr 0 (.s 37)),
 o0 39 (.fadr 3 (.s 38)),
 o0 40 (.load none (.s 39)),
 o0 41 (.bin .neq (.s 40) (.c (.int .i64 0)))] [36,37,38,39,40])
 (.cond (.s 41)
 .ret
 .skip))
 (.seq (.reg [mv 43 5,
 mv 44 12,
 o0 45 (.load (some 4) (.s 13)),
 o0 46 (.callv (.s 43) [(.s 44),(.s 45)]),
 mv 42 46,
 o0 47 (.ext (.s 42) 0),
 o0 48 (.ext (.s 42) 1),
 mv 14 47,
 mv 15 48] [43,44,45,46,42,47,48])
 (.reg [mv 49 0,
 mv 50 1,
 mv 51 12,
 mv 52 14,
 mv 53 15,
 o0 54 (.call 81 [(.s 49),(.s 50),(.s 51),(.s 52),(.s 53)])] [49,50,51,52,53,54])))))
 (.reg [o0 55 (.bin .add (.s 31) (.c (.int .i64 1))),
 mv 31 55] [55]))))))))⟩

theorem cX40:compF Tryz.prog 85 = some FX40:=by kernel_rfl
abbrev nX40:FuncId:=85

def FX67:IFun :=
⟨10,2,[.tmp 4,.tmp 5],
 (.seq (.reg [o0 3 (.box 89 4 (.s 1)),
 o0 4 (.mov (.c (.int .i64 0))),
 o0 5 (.mov (.c (.int .i64 0)))] [])
 (.seq (.reg [o0 6 (.load (some 4) (.s 3)),
 o0 7 (.call 87 [(.s 6)]),
 o0 8 (.ext (.s 7) 0),
 o0 9 (.ext (.s 7) 1),
 mv 4 8,
 mv 5 9] [6,7,8,9])
 .ret))⟩

theorem cX67:compF Tryz.prog 86 = some FX67:=by kernel_rfl
abbrev nX67:FuncId:=86

def FX112:IFun :=
⟨39,1,[.tmp 2,.tmp 3],
 (.seq (.reg [o0 1 (.box 89 4 (.s 0)),
 o0 2 (.mov (.c (.int .i64 0))),
 o0 3 (.mov (.c (.int .i64 0)))] [])
 (.seq (.block 0 (.seq (.reg [o0 5 (.fadr 0 (.s 1)),
 o0 6 (.load none (.s 5)),
 o0 7 (.bin .neq (.s 6) (.c (.int .i64 0))),
 mv 8 7,
 ot 9 8 (.fadr 0 (.s 1)),
 ot 10 8 (.load none (.s 9)),
 ot 11 8 (.bin .neq (.s 10) (.c (.int .i64 1))),
 mt 12 11 8,
 oF 13 12 (.fadr 1 (.s 1)),
 oF 14 12 (.load none (.s 13)),
 oF 15 12 (.bin .neq (.s 14) (.c (.int .i64 0))),
 ot 16 8 (.pick (.s 12) (.c (.bool true)) (.s 15)),
 mt 17 16 8,
 oF 18 17 (.fadr 2 (.s 1)),
 oF 19 17 (.load none (.s 18)),
 oF 20 17 (.len (.s 19)),
 oF 21 17 (.bin .gtr (.s 20) (.c (.int .i64 0))),
 ot 22 8 (.pick (.s 17) (.c (.bool true)) (.s 21)),
 o0 23 (.pick (.s 8) (.s 22) (.c (.bool false))),
 mv 4 23] [5,6,7,8,9,10,11,12,13,14,15,16,17,18,19,20,21,22,23])
 (.cond (.s 4)
 (.seq (.reg [o0 2 (.mov (.c (.int .i64 0))),
 o0 3 (.mov (.c (.int .i64 1)))] [])
 .ret)
 (.seq (.reg [o0 25 (.fadr 1 (.s 1)),
 o0 26 (.load none (.s 25)),
 o0 27 (.call 80 [(.s 26)]),
 o0 28 (.un .not (.s 27)),
 mv 24 28] [25,26,27,28])
 (.cond (.s 24)
 (.seq (.reg [o0 2 (.mov (.c (.int .i64 0))),
 o0 3 (.mov (.c (.int .i64 11)))] [])
 .ret)
 (.seq (.reg [o0 30 (.fadr 3 (.s 1)),
 o0 31 (.load none (.s 30)),
 o0 32 (.len (.s 31)),
 o0 33 (.bin .gtr (.s 32) (.c (.int .i64 4096))),
 mv 29 33] [30,31,32,33])
 (.cond (.s 29)
 (.seq (.reg [o0 2 (.mov (.c (.int .i64 0))),
 o0 3 (.mov (.c (.int .i64 6)))] [])
 .ret)
 .skip)))))))
 (.seq (.reg [o0 34 (.fadr 2 (.s 1)),
 o0 35 (.load none (.s 34)),
 o0 36 (.call 76 [(.s 35)]),
 o0 37 (.ext (.s 36) 0),
 o0 38 (.ext (.s 36) 1),
 mv 2 37,
 mv 3 38] [34,35,36,37,38])
 .ret)))⟩

theorem cX112:compF Tryz.prog 87 = some FX112:=by kernel_rfl
abbrev nX112:FuncId:=87

def FX18:IFun :=
⟨56,6,[],
 (.seq (.seq (.reg [mv 16 2,
 o0 17 (.len (.s 16)),
 mv 18 4,
 o0 19 (.bin .add (.s 17) (.s 18)),
 mv 20 3,
 o0 21 (.bin .gtr (.s 19) (.s 20))] [16,17,18,19,20])
 (.cond (.s 21)
 (.reg [mv 22 0,
 mv 23 1,
 mv 24 3,
 mv 25 4,
 o0 26 (.bin .sub (.s 24) (.s 25)),
 o0 27 (.mnx true (.c (.int .i64 0)) (.s 26)),
 o0 28 (.call 81 [(.s 22),(.s 23),(.s 27),(.c (.int .i64 0)),(.c (.int .i64 6))])] [22,23,24,25,26,27,28])
 .skip))
 (.seq (.reg [mv 29 2,
 o0 30 (.len (.s 29)),
 o0 31 (.mov (.c (.int .i64 0)))] [])
 (.block 0 (.loop (.seq (.reg [o0 32 (.bin .lss (.s 31) (.s 30))] [])
 (.seq (.cond (.s 32)
 .skip
 (.exit 0))
 (.seq (.block 1 (.seq (.reg [mv 33 31,
 o0 34 (.iadr 3 (.s 29) (.s 31)),
 o0 35 (.load (some 3) (.s 34)),
 o0 13 (.new 91 [(.int .i64 0),(.str []),.nl]),
 mv 12 33,
 ⟨none,.store 3 (.s 13) (.s 35),none⟩] [33,34,35])
 (.seq (.seq (.reg [mv 36 0,
 o0 37 (.nchk (.s 36)),
 o0 38 (.fadr 0 (.s 37)),
 o0 39 (.fadr 3 (.s 38)),
 o0 40 (.load none (.s 39)),
 o0 41 (.bin .neq (.s 40) (.c (.int .i64 0)))] [36,37,38,39,40])
 (.cond (.s 41)
 .ret
 .skip))
 (.seq (.reg [mv 43 5,
 mv 44 12,
 o0 45 (.load (some 3) (.s 13)),
 o0 46 (.callv (.s 43) [(.s 44),(.s 45)]),
 mv 42 46,
 o0 47 (.ext (.s 42) 0),
 o0 48 (.ext (.s 42) 1),
 mv 14 47,
 mv 15 48] [43,44,45,46,42,47,48])
 (.reg [mv 49 0,
 mv 50 1,
 mv 51 12,
 mv 52 14,
 mv 53 15,
 o0 54 (.call 81 [(.s 49),(.s 50),(.s 51),(.s 52),(.s 53)])] [49,50,51,52,53,54])))))
 (.reg [o0 55 (.bin .add (.s 31) (.c (.int .i64 1))),
 mv 31 55] [55]))))))))⟩

theorem cX18:compF Tryz.prog 88 = some FX18:=by kernel_rfl
abbrev nX18:FuncId:=88

def FX55:IFun :=
⟨8,2,[.tmp 4,.tmp 5],
 (.seq (.reg [o0 3 (.box 91 3 (.s 1)),
 o0 4 (.mov (.c (.int .i64 0))),
 o0 5 (.mov (.c (.int .i64 0)))] [])
 (.seq (.reg [o0 6 (.load (some 3) (.s 3)),
 o0 7 (.call 90 [(.s 6)]),
 o0 4 (.mov (.c (.int .i64 0))),
 mv 5 7] [6,7])
 .ret))⟩

theorem cX55:compF Tryz.prog 89 = some FX55:=by kernel_rfl
abbrev nX55:FuncId:=89

def FX94:IFun :=
⟨25,1,[.tmp 2],
 (.seq (.reg [o0 1 (.box 91 3 (.s 0)),
 o0 2 (.mov (.c (.int .i64 0)))] [])
 (.seq (.reg [o0 4 (.fadr 1 (.s 1)),
 o0 5 (.load none (.s 4)),
 o0 6 (.call 146 [(.s 5)]),
 mv 3 6] [4,5,6])
 (.seq (.block 0 (.seq (.reg [mv 8 3,
 o0 9 (.bin .neq (.s 8) (.c (.int .i64 0))),
 mv 7 9] [8,9])
 (.cond (.s 7)
 (.seq (.reg [mv 10 3,
 mv 2 10] [10])
 .ret)
 (.seq (.reg [o0 12 (.fadr 2 (.s 1)),
 o0 13 (.load none (.s 12)),
 o0 14 (.len (.s 13)),
 o0 15 (.bin .gtr (.s 14) (.c (.int .i64 4096))),
 mv 11 15] [12,13,14,15])
 (.cond (.s 11)
 (.seq (.reg [o0 2 (.mov (.c (.int .i64 6)))] [])
 .ret)
 (.seq (.reg [o0 17 (.fadr 0 (.s 1)),
 o0 18 (.load none (.s 17)),
 o0 19 (.bin .lss (.s 18) (.c (.int .i64 0))),
 mv 20 19,
 oF 21 20 (.fadr 0 (.s 1)),
 oF 22 20 (.load none (.s 21)),
 oF 23 20 (.bin .gtr (.s 22) (.c (.int .i64 12))),
 o0 24 (.pick (.s 20) (.c (.bool true)) (.s 23)),
 mv 16 24] [17,18,19,20,21,22,23,24])
 (.cond (.s 16)
 (.seq (.reg [o0 2 (.mov (.c (.int .i64 1)))] [])
 .ret)
 .skip)))))))
 (.seq (.reg [o0 2 (.mov (.c (.int .i64 0)))] [])
 .ret))))⟩

theorem cX94:compF Tryz.prog 90 = some FX94:=by kernel_rfl
abbrev nX94:FuncId:=90

def FX56:IFun :=
⟨11,2,[.tmp 4,.tmp 5],
 (.seq (.reg [o0 3 (.box 52 3 (.s 1)),
 o0 4 (.mov (.c (.int .i64 0))),
 o0 5 (.mov (.c (.int .i64 0)))] [])
 (.seq (.reg [o0 6 (.fadr 2 (.s 3)),
 o0 7 (.load none (.s 6)),
 o0 8 (.call 76 [(.s 7)]),
 o0 9 (.ext (.s 8) 0),
 o0 10 (.ext (.s 8) 1),
 mv 4 9,
 mv 5 10] [6,7,8,9,10])
 .ret))⟩

theorem cX56:compF Tryz.prog 91 = some FX56:=by kernel_rfl
abbrev nX56:FuncId:=91

def FX38:IFun :=
⟨22,2,[.tmp 4],
 (.seq (.reg [o0 4 (.mov (.c .nl))] [])
 (.seq (.reg [o0 5 (.mov (.c .nl))] [])
 (.seq (.seq (.reg [mv 8 0,
 o0 9 (.len (.s 8)),
 o0 10 (.mov (.c (.int .i64 0)))] [])
 (.block 0 (.loop (.seq (.reg [o0 11 (.bin .lss (.s 10) (.s 9))] [])
 (.seq (.cond (.s 11)
 .skip
 (.exit 0))
 (.seq (.block 1 (.seq (.reg [o0 12 (.iadr 2 (.s 8) (.s 10)),
 o0 13 (.load (some 2) (.s 12)),
 o0 7 (.new 71 [.nl,.nl]),
 ⟨none,.store 2 (.s 7) (.s 13),none⟩] [12,13])
 (.reg [mv 14 5,
 mv 15 1,
 o0 16 (.load (some 2) (.s 7)),
 o0 17 (.callv (.s 15) [(.s 16)]),
 o0 18 (.bsl 71 2 [[.nl,.nl]] [(0,(.s 17))]),
 o0 19 (.app 71 2 (.s 14) (.s 18)),
 mv 5 19] [14,15,16,17,18,19])))
 (.reg [o0 20 (.bin .add (.s 10) (.c (.int .i64 1))),
 mv 10 20] [20])))))))
 (.seq (.reg [mv 21 5,
 mv 4 21] [21])
 .ret))))⟩

theorem cX38:compF Tryz.prog 106 = some FX38:=by kernel_rfl
abbrev nX38:FuncId:=106

def FX80:IFun :=
⟨10,1,[.cell 2 (some 2)],
 (.seq (.reg [o0 1 (.box 71 2 (.s 0)),
 o0 2 (.new 71 [.nl,.nl])] [])
 (.seq (.seq (.draw [⟨o0 3 (.fadr 0 (.s 1)),[]⟩,
 ⟨o0 4 (.load none (.s 3)),[0]⟩,
 ⟨o0 5 (.call 108 [(.s 4)]),[1,0]⟩,
 ⟨o0 6 (.fadr 1 (.s 1)),[]⟩,
 ⟨o0 7 (.load none (.s 6)),[3]⟩] [] [])
 (.seq (.reg [o0 8 (.call 108 [(.s 7)])] [])
 (.seq (.reg [o0 9 (.build [.nl,.nl] [(0,1,(.s 5)),(1,1,(.s 8))])] [])
 (.reg [⟨none,.store 2 (.s 2) (.s 9),none⟩] [3,4,5,6,7,8,9]))))
 .ret))⟩

theorem cX80:compF Tryz.prog 107 = some FX80:=by kernel_rfl
abbrev nX80:FuncId:=107

def FX6:IFun :=
⟨8,1,[.tmp 2],
 (.seq (.reg [o0 2 (.mov (.c .nl))] [])
 (.seq (.seq (.reg [mv 3 0,
 o0 4 (.snl false (.s 3))] [3])
 (.cond (.s 4)
 (.seq (.reg [o0 2 (.mov (.c .nl))] [])
 .ret)
 .skip))
 (.seq (.reg [o0 5 (.bsl 56 1 [] []),
 mv 6 0,
 o0 7 (.app 56 1 (.s 5) (.s 6)),
 mv 2 7] [5,6,7])
 .ret)))⟩

theorem cX6:compF Tryz.prog 108 = some FX6:=by kernel_rfl
abbrev nX6:FuncId:=108

def FX2:IFun :=
⟨8,1,[.tmp 2],
 (.seq (.reg [o0 2 (.mov (.c .nl))] [])
 (.seq (.seq (.reg [mv 3 0,
 o0 4 (.snl false (.s 3))] [3])
 (.cond (.s 4)
 (.seq (.reg [o0 2 (.mov (.c .nl))] [])
 .ret)
 .skip))
 (.seq (.reg [o0 5 (.bsl 80 13 [] []),
 mv 6 0,
 o0 7 (.app 80 13 (.s 5) (.s 6)),
 mv 2 7] [5,6,7])
 .ret)))⟩

theorem cX2:compF Tryz.prog 109 = some FX2:=by kernel_rfl
abbrev nX2:FuncId:=109

def FX4:IFun :=
⟨8,1,[.tmp 2],
 (.seq (.reg [o0 2 (.mov (.c .nl))] [])
 (.seq (.seq (.reg [mv 3 0,
 o0 4 (.snl false (.s 3))] [3])
 (.cond (.s 4)
 (.seq (.reg [o0 2 (.mov (.c .nl))] [])
 .ret)
 .skip))
 (.seq (.reg [o0 5 (.bsl 76 4 [] []),
 mv 6 0,
 o0 7 (.app 76 4 (.s 5) (.s 6)),
 mv 2 7] [5,6,7])
 .ret)))⟩

theorem cX4:compF Tryz.prog 110 = some FX4:=by kernel_rfl
abbrev nX4:FuncId:=110

def FX3:IFun :=
⟨8,1,[.tmp 2],
 (.seq (.reg [o0 2 (.mov (.c .nl))] [])
 (.seq (.seq (.reg [mv 3 0,
 o0 4 (.snl false (.s 3))] [3])
 (.cond (.s 4)
 (.seq (.reg [o0 2 (.mov (.c .nl))] [])
 .ret)
 .skip))
 (.seq (.reg [o0 5 (.bsl 74 3 [] []),
 mv 6 0,
 o0 7 (.app 74 3 (.s 5) (.s 6)),
 mv 2 7] [5,6,7])
 .ret)))⟩

theorem cX3:compF Tryz.prog 111 = some FX3:=by kernel_rfl
abbrev nX3:FuncId:=111

def FX1:IFun :=
⟨8,1,[.tmp 2],
 (.seq (.reg [o0 2 (.mov (.c .nl))] [])
 (.seq (.seq (.reg [mv 3 0,
 o0 4 (.snl false (.s 3))] [3])
 (.cond (.s 4)
 (.seq (.reg [o0 2 (.mov (.c .nl))] [])
 .ret)
 .skip))
 (.seq (.reg [o0 5 (.bsl 84 3 [] []),
 mv 6 0,
 o0 7 (.app 84 3 (.s 5) (.s 6)),
 mv 2 7] [5,6,7])
 .ret)))⟩

theorem cX1:compF Tryz.prog 112 = some FX1:=by kernel_rfl
abbrev nX1:FuncId:=112

def FX35:IFun :=
⟨22,2,[.tmp 4],
 (.seq (.reg [o0 4 (.mov (.c .nl))] [])
 (.seq (.reg [o0 5 (.mov (.c .nl))] [])
 (.seq (.seq (.reg [mv 8 0,
 o0 9 (.len (.s 8)),
 o0 10 (.mov (.c (.int .i64 0)))] [])
 (.block 0 (.loop (.seq (.reg [o0 11 (.bin .lss (.s 10) (.s 9))] [])
 (.seq (.cond (.s 11)
 .skip
 (.exit 0))
 (.seq (.block 1 (.seq (.reg [o0 12 (.iadr 3 (.s 8) (.s 10)),
 o0 13 (.load (some 3) (.s 12)),
 o0 7 (.new 52 [(.int .i64 0),.nl,.nl]),
 ⟨none,.store 3 (.s 7) (.s 13),none⟩] [12,13])
 (.reg [mv 14 5,
 mv 15 1,
 o0 16 (.load (some 3) (.s 7)),
 o0 17 (.callv (.s 15) [(.s 16)]),
 o0 18 (.bsl 52 3 [[(.int .i64 0),.nl,.nl]] [(0,(.s 17))]),
 o0 19 (.app 52 3 (.s 14) (.s 18)),
 mv 5 19] [14,15,16,17,18,19])))
 (.reg [o0 20 (.bin .add (.s 10) (.c (.int .i64 1))),
 mv 10 20] [20])))))))
 (.seq (.reg [mv 21 5,
 mv 4 21] [21])
 .ret))))⟩

theorem cX35:compF Tryz.prog 113 = some FX35:=by kernel_rfl
abbrev nX35:FuncId:=113

def FX81:IFun :=
⟨12,1,[.cell 2 (some 3)],
 (.seq (.reg [o0 1 (.box 52 3 (.s 0)),
 o0 2 (.new 52 [(.int .i64 0),.nl,.nl])] [])
 (.seq (.seq (.draw [⟨o0 3 (.fadr 0 (.s 1)),[]⟩,
 ⟨o0 4 (.load none (.s 3)),[0]⟩,
 ⟨o0 5 (.fadr 1 (.s 1)),[]⟩,
 ⟨o0 6 (.load none (.s 5)),[2]⟩,
 ⟨o0 7 (.call 108 [(.s 6)]),[3,2]⟩,
 ⟨o0 8 (.fadr 2 (.s 1)),[]⟩,
 ⟨o0 9 (.load none (.s 8)),[5]⟩,
 ⟨o0 10 (.call 115 [(.s 9)]),[6,5,4,3,2]⟩] [] [])
 (.seq (.reg [o0 11 (.build [(.int .i64 0),.nl,.nl] [(0,1,(.s 4)),(1,1,(.s 7)),(2,1,(.s 10))])] [])
 (.reg [⟨none,.store 3 (.s 2) (.s 11),none⟩] [3,4,5,6,7,8,9,10,11])))
 .ret))⟩

theorem cX81:compF Tryz.prog 114 = some FX81:=by kernel_rfl
abbrev nX81:FuncId:=114

def FX110:IFun :=
⟨5,1,[.tmp 2],
 (.seq (.reg [o0 2 (.mov (.c .nl))] [])
 (.seq (.reg [mv 3 0,
 o0 4 (.call 164 [(.s 3),(.c (.fn 165 []))]),
 mv 2 4] [3,4])
 .ret))⟩

theorem cX110:compF Tryz.prog 115 = some FX110:=by kernel_rfl
abbrev nX110:FuncId:=115

def FX8:IFun :=
⟨22,2,[.tmp 4],
 (.seq (.reg [o0 4 (.mov (.c .nl))] [])
 (.seq (.reg [o0 5 (.mov (.c .nl))] [])
 (.seq (.seq (.reg [mv 8 0,
 o0 9 (.len (.s 8)),
 o0 10 (.mov (.c (.int .i64 0)))] [])
 (.block 0 (.loop (.seq (.reg [o0 11 (.bin .lss (.s 10) (.s 9))] [])
 (.seq (.cond (.s 11)
 .skip
 (.exit 0))
 (.seq (.block 1 (.seq (.reg [o0 12 (.iadr 3 (.s 8) (.s 10)),
 o0 13 (.load (some 3) (.s 12)),
 o0 7 (.new 82 [(.int .i64 0),(.bool false),.nl]),
 ⟨none,.store 3 (.s 7) (.s 13),none⟩] [12,13])
 (.reg [mv 14 5,
 mv 15 1,
 o0 16 (.load (some 3) (.s 7)),
 o0 17 (.callv (.s 15) [(.s 16)]),
 o0 18 (.bsl 82 3 [[(.int .i64 0),(.bool false),.nl]] [(0,(.s 17))]),
 o0 19 (.app 82 3 (.s 14) (.s 18)),
 mv 5 19] [14,15,16,17,18,19])))
 (.reg [o0 20 (.bin .add (.s 10) (.c (.int .i64 1))),
 mv 10 20] [20])))))))
 (.seq (.reg [mv 21 5,
 mv 4 21] [21])
 .ret))))⟩

theorem cX8:compF Tryz.prog 116 = some FX8:=by kernel_rfl
abbrev nX8:FuncId:=116

def FX82:IFun :=
⟨9,1,[.cell 2 (some 3)],
 (.seq (.reg [o0 1 (.box 82 3 (.s 0)),
 o0 2 (.new 82 [(.int .i64 0),(.bool false),.nl])] [])
 (.seq (.seq (.draw [⟨o0 3 (.fadr 0 (.s 1)),[]⟩,
 ⟨o0 4 (.load (some 2) (.s 3)),[0]⟩,
 ⟨o0 5 (.fadr 2 (.s 1)),[]⟩,
 ⟨o0 6 (.load none (.s 5)),[2]⟩,
 ⟨o0 7 (.call 115 [(.s 6)]),[3,2]⟩] [] [])
 (.seq (.reg [o0 8 (.build [(.int .i64 0),(.bool false),.nl] [(0,2,(.s 4)),(2,1,(.s 7))])] [])
 (.reg [⟨none,.store 3 (.s 2) (.s 8),none⟩] [3,4,5,6,7,8])))
 .ret))⟩

theorem cX82:compF Tryz.prog 117 = some FX82:=by kernel_rfl
abbrev nX82:FuncId:=117

def FX37:IFun :=
⟨22,2,[.tmp 4],
 (.seq (.reg [o0 4 (.mov (.c .nl))] [])
 (.seq (.reg [o0 5 (.mov (.c .nl))] [])
 (.seq (.seq (.reg [mv 8 0,
 o0 9 (.len (.s 8)),
 o0 10 (.mov (.c (.int .i64 0)))] [])
 (.block 0 (.loop (.seq (.reg [o0 11 (.bin .lss (.s 10) (.s 9))] [])
 (.seq (.cond (.s 11)
 .skip
 (.exit 0))
 (.seq (.block 1 (.seq (.reg [o0 12 (.iadr 5 (.s 8) (.s 10)),
 o0 13 (.load (some 5) (.s 12)),
 o0 7 (.new 86 [(.int .i64 0),(.int .i64 0),.nl,(.int .i64 0),.nl]),
 ⟨none,.store 5 (.s 7) (.s 13),none⟩] [12,13])
 (.reg [mv 14 5,
 mv 15 1,
 o0 16 (.load (some 5) (.s 7)),
 o0 17 (.callv (.s 15) [(.s 16)]),
 o0 18 (.bsl 86 5 [[(.int .i64 0),(.int .i64 0),.nl,(.int .i64 0),.nl]] [(0,(.s 17))]),
 o0 19 (.app 86 5 (.s 14) (.s 18)),
 mv 5 19] [14,15,16,17,18,19])))
 (.reg [o0 20 (.bin .add (.s 10) (.c (.int .i64 1))),
 mv 10 20] [20])))))))
 (.seq (.reg [mv 21 5,
 mv 4 21] [21])
 .ret))))⟩

theorem cX37:compF Tryz.prog 118 = some FX37:=by kernel_rfl
abbrev nX37:FuncId:=118

def FX83:IFun :=
⟨12,1,[.cell 2 (some 5)],
 (.seq (.reg [o0 1 (.box 86 5 (.s 0)),
 o0 2 (.new 86 [(.int .i64 0),(.int .i64 0),.nl,(.int .i64 0),.nl])] [])
 (.seq (.seq (.draw [⟨o0 3 (.fadr 2 (.s 1)),[]⟩,
 ⟨o0 4 (.load none (.s 3)),[0]⟩,
 ⟨o0 5 (.call 115 [(.s 4)]),[1,0]⟩,
 ⟨o0 6 (.fadr 4 (.s 1)),[]⟩,
 ⟨o0 7 (.load none (.s 6)),[3]⟩] [] [])
 (.seq (.draw [⟨o0 8 (.call 120 [(.s 7),(.c (.fn 115 []))]),[]⟩,
 ⟨o0 9 (.fadr 2 (.s 1)),[]⟩] [] [])
 (.seq (.reg [⟨none,.store 1 (.s 9) (.s 5),none⟩] [])
 (.seq (.reg [o0 10 (.fadr 4 (.s 1))] [])
 (.reg [⟨none,.store 1 (.s 10) (.s 8),none⟩] [3,4,5,6,7,8,9,10])))))
 (.seq (.reg [o0 11 (.load (some 5) (.s 1)),
 ⟨none,.store 5 (.s 2) (.s 11),none⟩] [11])
 .ret)))⟩

theorem cX83:compF Tryz.prog 119 = some FX83:=by kernel_rfl
abbrev nX83:FuncId:=119

def FX15:IFun :=
⟨22,2,[.tmp 4],
 (.seq (.reg [o0 4 (.mov (.c .nl))] [])
 (.seq (.reg [o0 5 (.mov (.c .nl))] [])
 (.seq (.seq (.reg [mv 8 0,
 o0 9 (.len (.s 8)),
 o0 10 (.mov (.c (.int .i64 0)))] [])
 (.block 0 (.loop (.seq (.reg [o0 11 (.bin .lss (.s 10) (.s 9))] [])
 (.seq (.cond (.s 11)
 .skip
 (.exit 0))
 (.seq (.block 1 (.seq (.reg [o0 12 (.iadr 1 (.s 8) (.s 10)),
 o0 13 (.load none (.s 12)),
 mv 7 13] [12,13])
 (.reg [mv 14 5,
 mv 15 1,
 mv 16 7,
 o0 17 (.callv (.s 15) [(.s 16)]),
 o0 18 (.bsl 50 1 [[.nl]] [(0,(.s 17))]),
 o0 19 (.app 50 1 (.s 14) (.s 18)),
 mv 5 19] [14,15,16,17,18,19])))
 (.reg [o0 20 (.bin .add (.s 10) (.c (.int .i64 1))),
 mv 10 20] [20])))))))
 (.seq (.reg [mv 21 5,
 mv 4 21] [21])
 .ret))))⟩

theorem cX15:compF Tryz.prog 120 = some FX15:=by kernel_rfl
abbrev nX15:FuncId:=120

def FX36:IFun :=
⟨22,2,[.tmp 4],
 (.seq (.reg [o0 4 (.mov (.c .nl))] [])
 (.seq (.reg [o0 5 (.mov (.c .nl))] [])
 (.seq (.seq (.reg [mv 8 0,
 o0 9 (.len (.s 8)),
 o0 10 (.mov (.c (.int .i64 0)))] [])
 (.block 0 (.loop (.seq (.reg [o0 11 (.bin .lss (.s 10) (.s 9))] [])
 (.seq (.cond (.s 11)
 .skip
 (.exit 0))
 (.seq (.block 1 (.seq (.reg [o0 12 (.iadr 4 (.s 8) (.s 10)),
 o0 13 (.load (some 4) (.s 12)),
 o0 7 (.new 89 [(.int .i64 0),(.int .i64 0),.nl,.nl]),
 ⟨none,.store 4 (.s 7) (.s 13),none⟩] [12,13])
 (.reg [mv 14 5,
 mv 15 1,
 o0 16 (.load (some 4) (.s 7)),
 o0 17 (.callv (.s 15) [(.s 16)]),
 o0 18 (.bsl 89 4 [[(.int .i64 0),(.int .i64 0),.nl,.nl]] [(0,(.s 17))]),
 o0 19 (.app 89 4 (.s 14) (.s 18)),
 mv 5 19] [14,15,16,17,18,19])))
 (.reg [o0 20 (.bin .add (.s 10) (.c (.int .i64 1))),
 mv 10 20] [20])))))))
 (.seq (.reg [mv 21 5,
 mv 4 21] [21])
 .ret))))⟩

theorem cX36:compF Tryz.prog 121 = some FX36:=by kernel_rfl
abbrev nX36:FuncId:=121

def FX84:IFun :=
⟨12,1,[.cell 2 (some 4)],
 (.seq (.reg [o0 1 (.box 89 4 (.s 0)),
 o0 2 (.new 89 [(.int .i64 0),(.int .i64 0),.nl,.nl])] [])
 (.seq (.seq (.draw [⟨o0 3 (.fadr 2 (.s 1)),[]⟩,
 ⟨o0 4 (.load none (.s 3)),[0]⟩,
 ⟨o0 5 (.call 115 [(.s 4)]),[1,0]⟩,
 ⟨o0 6 (.fadr 3 (.s 1)),[]⟩,
 ⟨o0 7 (.load none (.s 6)),[3]⟩] [] [])
 (.seq (.draw [⟨o0 8 (.call 123 [(.s 7)]),[]⟩,
 ⟨o0 9 (.fadr 2 (.s 1)),[]⟩] [] [])
 (.seq (.reg [⟨none,.store 1 (.s 9) (.s 5),none⟩] [])
 (.seq (.reg [o0 10 (.fadr 3 (.s 1))] [])
 (.reg [⟨none,.store 1 (.s 10) (.s 8),none⟩] [3,4,5,6,7,8,9,10])))))
 (.seq (.reg [o0 11 (.load (some 4) (.s 1)),
 ⟨none,.store 4 (.s 2) (.s 11),none⟩] [11])
 .ret)))⟩

theorem cX84:compF Tryz.prog 122 = some FX84:=by kernel_rfl
abbrev nX84:FuncId:=122

def FX11:IFun :=
⟨8,1,[.tmp 2],
 (.seq (.reg [o0 2 (.mov (.c .nl))] [])
 (.seq (.seq (.reg [mv 3 0,
 o0 4 (.snl false (.s 3))] [3])
 (.cond (.s 4)
 (.seq (.reg [o0 2 (.mov (.c .nl))] [])
 .ret)
 .skip))
 (.seq (.reg [o0 5 (.bsl 5 1 [] []),
 mv 6 0,
 o0 7 (.app 5 1 (.s 5) (.s 6)),
 mv 2 7] [5,6,7])
 .ret)))⟩

theorem cX11:compF Tryz.prog 123 = some FX11:=by kernel_rfl
abbrev nX11:FuncId:=123

def FX16:IFun :=
⟨22,2,[.tmp 4],
 (.seq (.reg [o0 4 (.mov (.c .nl))] [])
 (.seq (.reg [o0 5 (.mov (.c .nl))] [])
 (.seq (.seq (.reg [mv 8 0,
 o0 9 (.len (.s 8)),
 o0 10 (.mov (.c (.int .i64 0)))] [])
 (.block 0 (.loop (.seq (.reg [o0 11 (.bin .lss (.s 10) (.s 9))] [])
 (.seq (.cond (.s 11)
 .skip
 (.exit 0))
 (.seq (.block 1 (.seq (.reg [o0 12 (.iadr 3 (.s 8) (.s 10)),
 o0 13 (.load (some 3) (.s 12)),
 o0 7 (.new 91 [(.int .i64 0),(.str []),.nl]),
 ⟨none,.store 3 (.s 7) (.s 13),none⟩] [12,13])
 (.reg [mv 14 5,
 mv 15 1,
 o0 16 (.load (some 3) (.s 7)),
 o0 17 (.callv (.s 15) [(.s 16)]),
 o0 18 (.bsl 91 3 [[(.int .i64 0),(.str []),.nl]] [(0,(.s 17))]),
 o0 19 (.app 91 3 (.s 14) (.s 18)),
 mv 5 19] [14,15,16,17,18,19])))
 (.reg [o0 20 (.bin .add (.s 10) (.c (.int .i64 1))),
 mv 10 20] [20])))))))
 (.seq (.reg [mv 21 5,
 mv 4 21] [21])
 .ret))))⟩

theorem cX16:compF Tryz.prog 124 = some FX16:=by kernel_rfl
abbrev nX16:FuncId:=124

def FX85:IFun :=
⟨8,1,[.cell 2 (some 3)],
 (.seq (.reg [o0 1 (.box 91 3 (.s 0)),
 o0 2 (.new 91 [(.int .i64 0),(.str []),.nl])] [])
 (.seq (.reg [o0 3 (.fadr 2 (.s 1)),
 o0 4 (.load none (.s 3)),
 o0 5 (.call 123 [(.s 4)]),
 o0 6 (.fadr 2 (.s 1)),
 ⟨none,.store 1 (.s 6) (.s 5),none⟩] [3,4,5,6])
 (.seq (.reg [o0 7 (.load (some 3) (.s 1)),
 ⟨none,.store 3 (.s 2) (.s 7),none⟩] [7])
 .ret)))⟩

theorem cX85:compF Tryz.prog 125 = some FX85:=by kernel_rfl
abbrev nX85:FuncId:=125

def FX50:IFun :=
⟨17,2,[.tmp 4],
 (.seq (.reg [o0 2 (.box 67 2 (.s 0)),
 o0 3 (.box 67 2 (.s 1)),
 o0 4 (.mov (.c (.bool false)))] [])
 (.seq (.reg [o0 5 (.fadr 0 (.s 2)),
 o0 6 (.load none (.s 5)),
 o0 7 (.fadr 0 (.s 3)),
 o0 8 (.load none (.s 7)),
 o0 9 (.bin .eql (.s 6) (.s 8)),
 mv 10 9,
 ot 11 10 (.fadr 1 (.s 2)),
 ot 12 10 (.load none (.s 11)),
 ot 13 10 (.fadr 1 (.s 3)),
 ot 14 10 (.load none (.s 13)),
 ot 15 10 (.call 135 [(.s 12),(.s 14),(.c (.fn 136 []))]),
 o0 16 (.pick (.s 10) (.s 15) (.c (.bool false))),
 mv 4 16] [5,6,7,8,9,10,11,12,13,14,15,16])
 .ret))⟩

theorem cX50:compF Tryz.prog 134 = some FX50:=by kernel_rfl
abbrev nX50:FuncId:=134

def FX47:IFun :=
⟨30,3,[.tmp 6],
 (.seq (.reg [o0 6 (.mov (.c (.bool false)))] [])
 (.seq (.seq (.reg [mv 8 0,
 o0 9 (.len (.s 8)),
 mv 10 1,
 o0 11 (.len (.s 10)),
 o0 12 (.bin .neq (.s 9) (.s 11))] [8,9,10,11])
 (.cond (.s 12)
 (.seq (.reg [o0 6 (.mov (.c (.bool false)))] [])
 .ret)
 .skip))
 (.seq (.seq (.reg [mv 13 0,
 o0 14 (.len (.s 13)),
 o0 15 (.mov (.c (.int .i64 0)))] [13])
 (.block 0 (.loop (.seq (.reg [o0 16 (.bin .lss (.s 15) (.s 14))] [])
 (.seq (.cond (.s 16)
 .skip
 (.exit 0))
 (.seq (.block 1 (.seq (.reg [mv 17 15,
 mv 7 17] [17])
 (.seq (.seq (.draw [⟨mv 18 2,[]⟩,
 ⟨mv 19 0,[]⟩,
 ⟨mv 20 7,[]⟩,
 ⟨o0 21 (.iadr 2 (.s 19) (.s 20)),[1,2]⟩,
 ⟨o0 22 (.load (some 2) (.s 21)),[3,1,2]⟩,
 ⟨mv 23 1,[]⟩,
 ⟨mv 24 7,[]⟩,
 ⟨o0 25 (.iadr 2 (.s 23) (.s 24)),[5,6]⟩,
 ⟨o0 26 (.load (some 2) (.s 25)),[7,5,6]⟩] [] [])
 (.seq (.reg [o0 27 (.callv (.s 18) [(.s 22),(.s 26)])] [])
 (.reg [o0 28 (.un .not (.s 27))] [18,19,20,21,22,23,24,25,26,27])))
 (.cond (.s 28)
 (.seq (.reg [o0 6 (.mov (.c (.bool false)))] [])
 .ret)
 .skip))))
 (.reg [o0 29 (.bin .add (.s 15) (.c (.int .i64 1))),
 mv 15 29] [29])))))))
 (.seq (.reg [o0 6 (.mov (.c (.bool true)))] [])
 .ret))))⟩

theorem cX47:compF Tryz.prog 135 = some FX47:=by kernel_rfl
abbrev nX47:FuncId:=135

def FX31:IFun :=
⟨8,2,[.tmp 4],
 (.seq (.reg [o0 2 (.box 193 2 (.s 0)),
 o0 3 (.box 193 2 (.s 1)),
 o0 4 (.mov (.c (.bool false)))] [])
 (.seq (.reg [o0 5 (.load (some 2) (.s 2)),
 o0 6 (.load (some 2) (.s 3)),
 o0 7 (.sbin .eql [.i,.s] (.s 5) (.s 6)),
 mv 4 7] [5,6,7])
 .ret))⟩

theorem cX31:compF Tryz.prog 136 = some FX31:=by kernel_rfl
abbrev nX31:FuncId:=136

def FX27:IFun :=
⟨30,3,[.tmp 6],
 (.seq (.reg [o0 6 (.mov (.c (.bool false)))] [])
 (.seq (.seq (.reg [mv 8 0,
 o0 9 (.len (.s 8)),
 mv 10 1,
 o0 11 (.len (.s 10)),
 o0 12 (.bin .neq (.s 9) (.s 11))] [8,9,10,11])
 (.cond (.s 12)
 (.seq (.reg [o0 6 (.mov (.c (.bool false)))] [])
 .ret)
 .skip))
 (.seq (.seq (.reg [mv 13 0,
 o0 14 (.len (.s 13)),
 o0 15 (.mov (.c (.int .i64 0)))] [13])
 (.block 0 (.loop (.seq (.reg [o0 16 (.bin .lss (.s 15) (.s 14))] [])
 (.seq (.cond (.s 16)
 .skip
 (.exit 0))
 (.seq (.block 1 (.seq (.reg [mv 17 15,
 mv 7 17] [17])
 (.seq (.seq (.draw [⟨mv 18 2,[]⟩,
 ⟨mv 19 0,[]⟩,
 ⟨mv 20 7,[]⟩,
 ⟨o0 21 (.iadr 2 (.s 19) (.s 20)),[1,2]⟩,
 ⟨o0 22 (.load (some 2) (.s 21)),[3,1,2]⟩,
 ⟨mv 23 1,[]⟩,
 ⟨mv 24 7,[]⟩,
 ⟨o0 25 (.iadr 2 (.s 23) (.s 24)),[5,6]⟩,
 ⟨o0 26 (.load (some 2) (.s 25)),[7,5,6]⟩] [] [])
 (.seq (.reg [o0 27 (.callv (.s 18) [(.s 22),(.s 26)])] [])
 (.reg [o0 28 (.un .not (.s 27))] [18,19,20,21,22,23,24,25,26,27])))
 (.cond (.s 28)
 (.seq (.reg [o0 6 (.mov (.c (.bool false)))] [])
 .ret)
 .skip))))
 (.reg [o0 29 (.bin .add (.s 15) (.c (.int .i64 1))),
 mv 15 29] [29])))))))
 (.seq (.reg [o0 6 (.mov (.c (.bool true)))] [])
 .ret))))⟩

theorem cX27:compF Tryz.prog 137 = some FX27:=by kernel_rfl
abbrev nX27:FuncId:=137

def FX102:IFun :=
⟨26,2,[.tmp 4],
 (.seq (.reg [o0 4 (.mov (.c (.bool false)))] [])
 (.seq (.seq (.reg [mv 6 0,
 o0 7 (.len (.s 6)),
 mv 8 1,
 o0 9 (.len (.s 8)),
 o0 10 (.bin .neq (.s 7) (.s 9))] [6,7,8,9])
 (.cond (.s 10)
 (.seq (.reg [o0 4 (.mov (.c (.bool false)))] [])
 .ret)
 .skip))
 (.seq (.seq (.reg [o0 5 (.mov (.c (.int .i64 0)))] [])
 (.block 0 (.loop (.seq (.seq (.reg [mv 11 5,
 mv 12 0,
 o0 13 (.len (.s 12)),
 o0 14 (.bin .lss (.s 11) (.s 13))] [11,12,13])
 (.cond (.s 14)
 .skip
 (.exit 0)))
 (.seq (.block 1 (.seq (.seq (.draw [⟨mv 17 0,[]⟩,
 ⟨mv 18 5,[]⟩,
 ⟨o0 19 (.iadr 2 (.s 17) (.s 18)),[0,1]⟩,
 ⟨o0 20 (.load (some 2) (.s 19)),[2,0,1]⟩,
 ⟨mv 21 1,[]⟩,
 ⟨mv 22 5,[]⟩,
 ⟨o0 23 (.iadr 2 (.s 21) (.s 22)),[4,5]⟩,
 ⟨o0 24 (.load (some 2) (.s 23)),[6,4,5]⟩] [] [])
 (.reg [o0 25 (.sbin .neq [.i,.s] (.s 20) (.s 24))] [17,18,19,20,21,22,23,24]))
 (.cond (.s 25)
 (.seq (.reg [o0 4 (.mov (.c (.bool false)))] [])
 .ret)
 .skip)))
 (.reg [mv 15 5,
 o0 16 (.bin .add (.s 15) (.c (.int .i64 1))),
 mv 5 16] [15,16]))))))
 (.seq (.reg [o0 4 (.mov (.c (.bool true)))] [])
 .ret))))⟩

theorem cX102:compF Tryz.prog 138 = some FX102:=by kernel_rfl
abbrev nX102:FuncId:=138

def FX48:IFun :=
⟨26,2,[.tmp 4],
 (.seq (.reg [o0 4 (.mov (.c (.bool false)))] [])
 (.seq (.seq (.reg [mv 7 0,
 o0 8 (.len (.s 7)),
 mv 9 1,
 o0 10 (.len (.s 9)),
 o0 11 (.bin .neq (.s 8) (.s 10))] [7,8,9,10])
 (.cond (.s 11)
 (.seq (.reg [o0 4 (.mov (.c (.bool false)))] [])
 .ret)
 .skip))
 (.seq (.seq (.reg [mv 12 0,
 o0 13 (.len (.s 12)),
 o0 14 (.mov (.c (.int .i64 0)))] [])
 (.block 0 (.loop (.seq (.reg [o0 15 (.bin .lss (.s 14) (.s 13))] [])
 (.seq (.cond (.s 15)
 .skip
 (.exit 0))
 (.seq (.block 1 (.seq (.reg [mv 16 14,
 o0 17 (.iadr 1 (.s 12) (.s 14)),
 o0 18 (.load none (.s 17)),
 mv 5 16,
 mv 6 18] [16,17,18])
 (.seq (.reg [mv 19 6,
 mv 20 1,
 mv 21 5,
 o0 22 (.iadr 1 (.s 20) (.s 21)),
 o0 23 (.load none (.s 22)),
 o0 24 (.bin .neq (.s 19) (.s 23))] [19,20,21,22,23])
 (.cond (.s 24)
 (.seq (.reg [o0 4 (.mov (.c (.bool false)))] [])
 .ret)
 .skip))))
 (.reg [o0 25 (.bin .add (.s 14) (.c (.int .i64 1))),
 mv 14 25] [25])))))))
 (.seq (.reg [o0 4 (.mov (.c (.bool true)))] [])
 .ret))))⟩

theorem cX48:compF Tryz.prog 139 = some FX48:=by kernel_rfl
abbrev nX48:FuncId:=139

def FX33:IFun :=
⟨30,3,[.tmp 6],
 (.seq (.reg [o0 6 (.mov (.c (.bool false)))] [])
 (.seq (.seq (.reg [mv 8 0,
 o0 9 (.len (.s 8)),
 mv 10 1,
 o0 11 (.len (.s 10)),
 o0 12 (.bin .neq (.s 9) (.s 11))] [8,9,10,11])
 (.cond (.s 12)
 (.seq (.reg [o0 6 (.mov (.c (.bool false)))] [])
 .ret)
 .skip))
 (.seq (.seq (.reg [mv 13 0,
 o0 14 (.len (.s 13)),
 o0 15 (.mov (.c (.int .i64 0)))] [13])
 (.block 0 (.loop (.seq (.reg [o0 16 (.bin .lss (.s 15) (.s 14))] [])
 (.seq (.cond (.s 16)
 .skip
 (.exit 0))
 (.seq (.block 1 (.seq (.reg [mv 17 15,
 mv 7 17] [17])
 (.seq (.seq (.draw [⟨mv 18 2,[]⟩,
 ⟨mv 19 0,[]⟩,
 ⟨mv 20 7,[]⟩,
 ⟨o0 21 (.iadr 9 (.s 19) (.s 20)),[1,2]⟩,
 ⟨o0 22 (.load (some 9) (.s 21)),[3,1,2]⟩,
 ⟨mv 23 1,[]⟩,
 ⟨mv 24 7,[]⟩,
 ⟨o0 25 (.iadr 9 (.s 23) (.s 24)),[5,6]⟩,
 ⟨o0 26 (.load (some 9) (.s 25)),[7,5,6]⟩] [] [])
 (.seq (.reg [o0 27 (.callv (.s 18) [(.s 22),(.s 26)])] [])
 (.reg [o0 28 (.un .not (.s 27))] [18,19,20,21,22,23,24,25,26,27])))
 (.cond (.s 28)
 (.seq (.reg [o0 6 (.mov (.c (.bool false)))] [])
 .ret)
 .skip))))
 (.reg [o0 29 (.bin .add (.s 15) (.c (.int .i64 1))),
 mv 15 29] [29])))))))
 (.seq (.reg [o0 6 (.mov (.c (.bool true)))] [])
 .ret))))⟩

theorem cX33:compF Tryz.prog 140 = some FX33:=by kernel_rfl
abbrev nX33:FuncId:=140

def FX99:IFun :=
⟨52,2,[.tmp 4],
 (.seq (.reg [o0 2 (.box 61 9 (.s 0)),
 o0 3 (.box 61 9 (.s 1)),
 o0 4 (.mov (.c (.bool false)))] [])
 (.seq (.reg [o0 5 (.fadr 0 (.s 2)),
 o0 6 (.load none (.s 5)),
 o0 7 (.fadr 0 (.s 3)),
 o0 8 (.load none (.s 7)),
 o0 9 (.bin .eql (.s 6) (.s 8)),
 mv 10 9,
 ot 11 10 (.fadr 1 (.s 2)),
 ot 12 10 (.load none (.s 11)),
 ot 13 10 (.fadr 1 (.s 3)),
 ot 14 10 (.load none (.s 13)),
 ot 15 10 (.bin .eql (.s 12) (.s 14)),
 o0 16 (.pick (.s 10) (.s 15) (.c (.bool false))),
 mv 17 16,
 ot 18 17 (.fadr 2 (.s 2)),
 ot 19 17 (.load none (.s 18)),
 ot 20 17 (.fadr 2 (.s 3)),
 ot 21 17 (.load none (.s 20)),
 ot 22 17 (.bin .eql (.s 19) (.s 21)),
 o0 23 (.pick (.s 17) (.s 22) (.c (.bool false))),
 mv 24 23,
 ot 25 24 (.fadr 3 (.s 2)),
 ot 26 24 (.load none (.s 25)),
 ot 27 24 (.fadr 3 (.s 3)),
 ot 28 24 (.load none (.s 27)),
 ot 29 24 (.bin .eql (.s 26) (.s 28)),
 o0 30 (.pick (.s 24) (.s 29) (.c (.bool false))),
 mv 31 30,
 ot 32 31 (.fadr 4 (.s 2)),
 ot 33 31 (.load (some 3) (.s 32)),
 ot 34 31 (.fadr 4 (.s 3)),
 ot 35 31 (.load (some 3) (.s 34)),
 ot 36 31 (.sbin .eql [.i,.i,.i] (.s 33) (.s 35)),
 o0 37 (.pick (.s 31) (.s 36) (.c (.bool false))),
 mv 38 37,
 ot 39 38 (.fadr 7 (.s 2)),
 ot 40 38 (.load none (.s 39)),
 ot 41 38 (.fadr 7 (.s 3)),
 ot 42 38 (.load none (.s 41)),
 ot 43 38 (.call 168 [(.s 40),(.s 42)]),
 o0 44 (.pick (.s 38) (.s 43) (.c (.bool false))),
 mv 45 44,
 ot 46 45 (.fadr 8 (.s 2)),
 ot 47 45 (.load none (.s 46)),
 ot 48 45 (.fadr 8 (.s 3)),
 ot 49 45 (.load none (.s 48)),
 ot 50 45 (.call 169 [(.s 47),(.s 49)]),
 o0 51 (.pick (.s 45) (.s 50) (.c (.bool false))),
 mv 4 51] [5,6,7,8,9,10,11,12,13,14,15,16,17,18,19,20,21,22,23,24,25,26,27,28,29,30,31,32,33,34,35,36,37,38,39,40,41,42,43,44,45,46,47,48,49,50,51])
 .ret))⟩

theorem cX99:compF Tryz.prog 141 = some FX99:=by kernel_rfl
abbrev nX99:FuncId:=141

def FX116:IFun :=
⟨6,1,[.tmp 2],
 (.seq (.reg [o0 2 (.mov (.c (.bool false)))] [])
 (.seq (.reg [mv 3 0,
 o0 4 (.call 171 [(.s 3),(.c (.fn 172 []))]),
 o0 5 (.un .not (.s 4)),
 mv 2 5] [3,4,5])
 .ret))⟩

theorem cX116:compF Tryz.prog 145 = some FX116:=by kernel_rfl
abbrev nX116:FuncId:=145

def FX114:IFun :=
⟨11,1,[.tmp 2],
 (.seq (.reg [o0 2 (.mov (.c (.int .i64 0)))] [])
 (.seq (.block 0 (.seq (.reg [mv 4 0,
 o0 5 (.slen (.s 4)),
 o0 6 (.bin .gtr (.s 5) (.c (.int .i64 64))),
 mv 3 6] [4,5,6])
 (.cond (.s 3)
 (.seq (.reg [o0 2 (.mov (.c (.int .i64 6)))] [])
 .ret)
 (.seq (.reg [mv 8 0,
 o0 9 (.call 173 [(.s 8)]),
 o0 10 (.un .not (.s 9)),
 mv 7 10] [8,9,10])
 (.cond (.s 7)
 (.seq (.reg [o0 2 (.mov (.c (.int .i64 9)))] [])
 .ret)
 .skip)))))
 (.seq (.reg [o0 2 (.mov (.c (.int .i64 0)))] [])
 .ret)))⟩

theorem cX114:compF Tryz.prog 146 = some FX114:=by kernel_rfl
abbrev nX114:FuncId:=146

def FX109:IFun :=
⟨34,1,[.cell 2 (some 13)],
 (.seq (.reg [o0 1 (.box 80 13 (.s 0)),
 o0 2 (.new 80 [(.str []),(.str []),(.int .i64 0),(.int .i64 0),(.int .i64 0),(.int .i64 0),(.int .i64 0),(.bool false),(.int .i64 0),(.int .i64 0),(.bool false),(.int .i64 0),(.bool false)])] [])
 (.seq (.reg [o0 4 (.fadr 0 (.s 1)),
 o0 5 (.load none (.s 4)),
 o0 6 (.fadr 1 (.s 1)),
 o0 7 (.load none (.s 6)),
 o0 8 (.fadr 2 (.s 1)),
 o0 9 (.load none (.s 8)),
 o0 10 (.build [(.str []),(.str []),(.int .i64 0),(.int .i64 0),(.int .i64 0),(.int .i64 0),(.int .i64 0),(.bool false),(.int .i64 0),(.int .i64 0),(.bool false),(.int .i64 0),(.bool false)] [(0,1,(.s 5)),(1,1,(.s 7)),(2,1,(.s 9))]),
 o0 3 (.new 80 [(.str []),(.str []),(.int .i64 0),(.int .i64 0),(.int .i64 0),(.int .i64 0),(.int .i64 0),(.bool false),(.int .i64 0),(.int .i64 0),(.bool false),(.int .i64 0),(.bool false)]),
 ⟨none,.store 13 (.s 3) (.s 10),none⟩] [4,5,6,7,8,9,10])
 (.seq (.seq (.reg [o0 11 (.fadr 2 (.s 1)),
 o0 12 (.load none (.s 11))] [11])
 (.block 0 (.seq (.reg [o0 14 (.bin .eql (.s 12) (.c (.int .i64 0))),
 mv 13 14] [14])
 (.cond (.s 13)
 (.reg [o0 15 (.fadr 3 (.s 1)),
 o0 16 (.load none (.s 15)),
 o0 17 (.fadr 3 (.s 3)),
 ⟨none,.store 1 (.s 17) (.s 16),none⟩] [15,16,17])
 (.seq (.reg [o0 19 (.bin .eql (.s 12) (.c (.int .i64 1))),
 mv 18 19] [19])
 (.cond (.s 18)
 (.reg [o0 20 (.fadr 4 (.s 1)),
 o0 21 (.load (some 4) (.s 20)),
 o0 22 (.fadr 4 (.s 3)),
 ⟨none,.store 4 (.s 22) (.s 21),none⟩] [20,21,22])
 (.seq (.reg [o0 24 (.bin .eql (.s 12) (.c (.int .i64 2))),
 mv 23 24] [24])
 (.cond (.s 23)
 (.reg [o0 25 (.fadr 8 (.s 1)),
 o0 26 (.load (some 3) (.s 25)),
 o0 27 (.fadr 8 (.s 3)),
 ⟨none,.store 3 (.s 27) (.s 26),none⟩] [25,26,27])
 (.seq (.reg [o0 29 (.bin .eql (.s 12) (.c (.int .i64 3))),
 mv 28 29] [29])
 (.cond (.s 28)
 (.reg [o0 30 (.fadr 11 (.s 1)),
 o0 31 (.load (some 2) (.s 30)),
 o0 32 (.fadr 11 (.s 3)),
 ⟨none,.store 2 (.s 32) (.s 31),none⟩] [30,31,32])
 .skip))))))))))
 (.seq (.reg [o0 33 (.load (some 13) (.s 3)),
 ⟨none,.store 13 (.s 2) (.s 33),none⟩] [33])
 .ret))))⟩

theorem cX109:compF Tryz.prog 147 = some FX109:=by kernel_rfl
abbrev nX109:FuncId:=147

def FX119:IFun :=
⟨9,1,[.tmp 2],
 (.seq (.reg [o0 2 (.mov (.c (.bool false)))] [])
 (.seq (.reg [mv 3 0,
 o0 4 (.bin .eql (.s 3) (.c (.int .i64 3))),
 mv 5 4,
 mf 6 0 5,
 oF 7 5 (.bin .eql (.s 6) (.c (.int .i64 4))),
 o0 8 (.pick (.s 5) (.c (.bool true)) (.s 7)),
 mv 2 8] [3,4,5,6,7,8])
 .ret))⟩

theorem cX119:compF Tryz.prog 148 = some FX119:=by kernel_rfl
abbrev nX119:FuncId:=148

def FX78:IFun :=
⟨31,2,[.tmp 4],
 (.seq (.reg [o0 2 (.box 74 3 (.s 0)),
 o0 4 (.mov (.c (.bool false)))] [])
 (.seq (.seq (.reg [o0 5 (.fadr 0 (.s 2)),
 o0 6 (.load none (.s 5)),
 o0 7 (.bin .lss (.s 6) (.c (.int .i64 0))),
 mv 8 7,
 oF 9 8 (.fadr 0 (.s 2)),
 oF 10 8 (.load none (.s 9)),
 mf 11 1 8,
 oF 12 8 (.bin .gtr (.s 10) (.s 11)),
 o0 13 (.pick (.s 8) (.c (.bool true)) (.s 12))] [5,6,7,8,9,10,11,12])
 (.cond (.s 13)
 (.seq (.reg [o0 4 (.mov (.c (.bool false)))] [])
 .ret)
 .skip))
 (.seq (.seq (.reg [o0 14 (.fadr 2 (.s 2)),
 o0 15 (.load none (.s 14)),
 o0 16 (.un .not (.s 15))] [14,15])
 (.cond (.s 16)
 (.seq (.reg [o0 17 (.fadr 1 (.s 2)),
 o0 18 (.load none (.s 17)),
 o0 19 (.bin .eql (.s 18) (.c (.int .i64 0))),
 mv 4 19] [17,18,19])
 .ret)
 .skip))
 (.seq (.reg [o0 20 (.fadr 0 (.s 2)),
 o0 21 (.load none (.s 20)),
 o0 22 (.fadr 1 (.s 2)),
 o0 23 (.load none (.s 22)),
 o0 24 (.bin .leq (.s 21) (.s 23)),
 mv 25 24,
 ot 26 25 (.fadr 1 (.s 2)),
 ot 27 25 (.load none (.s 26)),
 mt 28 1 25,
 ot 29 25 (.bin .leq (.s 27) (.s 28)),
 o0 30 (.pick (.s 25) (.s 29) (.c (.bool false))),
 mv 4 30] [20,21,22,23,24,25,26,27,28,29,30])
 .ret))))⟩

theorem cX78:compF Tryz.prog 149 = some FX78:=by kernel_rfl
abbrev nX78:FuncId:=149

def FX120:IFun :=
⟨9,1,[.tmp 2],
 (.seq (.reg [o0 2 (.mov (.c (.bool false)))] [])
 (.seq (.reg [mv 3 0,
 o0 4 (.call 174 [(.s 3)]),
 mv 5 4,
 mf 6 0 5,
 oF 7 5 (.call 148 [(.s 6)]),
 o0 8 (.pick (.s 5) (.c (.bool true)) (.s 7)),
 mv 2 8] [3,4,5,6,7,8])
 .ret))⟩

theorem cX120:compF Tryz.prog 150 = some FX120:=by kernel_rfl
abbrev nX120:FuncId:=150

def FX73:IFun :=
⟨143,1,[.tmp 2],
 (.seq (.reg [o0 1 (.box 61 9 (.s 0)),
 o0 2 (.mov (.c (.bool false)))] [])
 (.seq (.reg [o0 9 (.fadr 0 (.s 1)),
 o0 10 (.load none (.s 9)),
 o0 11 (.call 175 [(.s 10)]),
 mv 3 11] [9,10,11])
 (.seq (.reg [mv 13 3,
 o0 14 (.call 176 [(.s 13)]),
 mv 12 14,
 o0 15 (.ext (.s 12) 0),
 o0 16 (.ext (.s 12) 1),
 o0 17 (.ext (.s 12) 2),
 mv 4 15,
 mv 5 16,
 mv 6 17] [13,14,12,15,16,17])
 (.seq (.seq (.reg [o0 18 (.fadr 0 (.s 1)),
 o0 19 (.load none (.s 18)),
 o0 20 (.call 177 [(.s 19)]),
 o0 21 (.un .not (.s 20)),
 mv 22 21,
 mf 23 4 22,
 oF 24 22 (.un .not (.s 23)),
 mf 25 24 22,
 ot 26 25 (.fadr 1 (.s 1)),
 ot 27 25 (.load none (.s 26)),
 ot 28 25 (.bin .neq (.s 27) (.c (.int .i64 0))),
 oF 29 22 (.pick (.s 25) (.s 28) (.c (.bool false))),
 o0 30 (.pick (.s 22) (.c (.bool true)) (.s 29)),
 mv 31 30,
 mf 32 5 31,
 oF 33 31 (.un .not (.s 32)),
 mf 34 33 31,
 ot 35 34 (.fadr 2 (.s 1)),
 ot 36 34 (.load none (.s 35)),
 ot 37 34 (.bin .neq (.s 36) (.c (.int .i64 0))),
 oF 38 31 (.pick (.s 34) (.s 37) (.c (.bool false))),
 o0 39 (.pick (.s 31) (.c (.bool true)) (.s 38)),
 mv 40 39,
 mf 41 6 40,
 oF 42 40 (.un .not (.s 41)),
 mf 43 42 40,
 ot 44 43 (.fadr 3 (.s 1)),
 ot 45 43 (.load none (.s 44)),
 ot 46 43 (.bin .neq (.s 45) (.c (.int .u64 0))),
 oF 47 40 (.pick (.s 43) (.s 46) (.c (.bool false))),
 o0 48 (.pick (.s 40) (.c (.bool true)) (.s 47)),
 mv 49 48,
 oF 50 49 (.fadr 1 (.s 1)),
 oF 51 49 (.load none (.s 50)),
 oF 52 49 (.call 178 [(.s 51)]),
 oF 53 49 (.un .not (.s 52)),
 o0 54 (.pick (.s 49) (.c (.bool true)) (.s 53)),
 mv 55 54,
 oF 56 55 (.fadr 2 (.s 1)),
 oF 57 55 (.load none (.s 56)),
 oF 58 55 (.call 178 [(.s 57)]),
 oF 59 55 (.un .not (.s 58)),
 o0 60 (.pick (.s 55) (.c (.bool true)) (.s 59))] [18,19,20,21,22,23,24,25,26,27,28,29,30,31,32,33,34,35,36,37,38,39,40,41,42,43,44,45,46,47,48,49,50,51,52,53,54,55,56,57,58,59])
 (.cond (.s 60)
 (.seq (.reg [o0 2 (.mov (.c (.bool false)))] [])
 .ret)
 .skip))
 (.seq (.seq (.reg [mv 61 3,
 o0 62 (.bin .neq (.s 61) (.c (.int .i64 19))),
 mv 63 62,
 ot 64 63 (.fadr 3 (.s 1)),
 ot 65 63 (.load none (.s 64)),
 ot 66 63 (.bin .geq (.s 65) (.c (.int .u64 4294967296))),
 o0 67 (.pick (.s 63) (.s 66) (.c (.bool false))),
 mv 68 67,
 mf 69 3 68,
 oF 70 68 (.bin .neq (.s 69) (.c (.int .i64 1))),
 mf 71 70 68,
 ot 72 71 (.fadr 4 (.s 1)),
 ot 73 71 (.load (some 3) (.s 72)),
 ot 74 71 (.build [(.int .i64 0),(.int .i64 0),(.int .i64 0)] []),
 ot 75 71 (.sbin .neq [.i,.i,.i] (.s 73) (.s 74)),
 oF 76 68 (.pick (.s 71) (.s 75) (.c (.bool false))),
 o0 77 (.pick (.s 68) (.c (.bool true)) (.s 76)),
 mv 78 77,
 mf 79 3 78,
 oF 80 78 (.bin .neq (.s 79) (.c (.int .i64 6))),
 mf 81 80 78,
 ot 82 81 (.fadr 7 (.s 1)),
 ot 83 81 (.load none (.s 82)),
 ot 84 81 (.len (.s 83)),
 ot 85 81 (.bin .gtr (.s 84) (.c (.int .i64 0))),
 oF 86 78 (.pick (.s 81) (.s 85) (.c (.bool false))),
 o0 87 (.pick (.s 78) (.c (.bool true)) (.s 86)),
 mv 88 87,
 mf 89 3 88,
 oF 90 88 (.bin .neq (.s 89) (.c (.int .i64 3))),
 mf 91 90 88,
 ot 92 91 (.fadr 8 (.s 1)),
 ot 93 91 (.load none (.s 92)),
 ot 94 91 (.len (.s 93)),
 ot 95 91 (.bin .gtr (.s 94) (.c (.int .i64 0))),
 oF 96 88 (.pick (.s 91) (.s 95) (.c (.bool false))),
 o0 97 (.pick (.s 88) (.c (.bool true)) (.s 96))] [61,62,63,64,65,66,67,68,69,70,71,72,73,74,75,76,77,78,79,80,81,82,83,84,85,86,87,88,89,90,91,92,93,94,95,96])
 (.cond (.s 97)
 (.seq (.reg [o0 2 (.mov (.c (.bool false)))] [])
 .ret)
 .skip))
 (.seq (.seq (.reg [mv 98 3] [])
 (.block 0 (.seq (.reg [o0 100 (.bin .eql (.s 98) (.c (.int .i64 1))),
 mv 99 100] [100])
 (.cond (.s 99)
 (.seq (.reg [o0 101 (.fadr 4 (.s 1)),
 o0 102 (.load (some 3) (.s 101)),
 o0 103 (.call 179 [(.s 102)]),
 mv 2 103] [101,102,103])
 .ret)
 (.seq (.reg [o0 105 (.bin .eql (.s 98) (.c (.int .i64 6))),
 mv 104 105] [105])
 (.cond (.s 104)
 (.seq (.reg [o0 106 (.fadr 7 (.s 1)),
 o0 107 (.load none (.s 106)),
 o0 108 (.len (.s 107)),
 o0 109 (.bin .eql (.s 108) (.c (.int .i64 1))),
 mv 110 109,
 ot 111 110 (.fadr 7 (.s 1)),
 ot 112 110 (.load none (.s 111)),
 ot 113 110 (.iadr 1 (.s 112) (.c (.int .i64 0))),
 ot 114 110 (.load none (.s 113)),
 ot 115 110 (.call 180 [(.s 114)]),
 o0 116 (.pick (.s 110) (.s 115) (.c (.bool false))),
 mv 2 116] [106,107,108,109,110,111,112,113,114,115,116])
 .ret)
 (.seq (.reg [o0 118 (.bin .eql (.s 98) (.c (.int .i64 17))),
 mv 117 118] [118])
 (.cond (.s 117)
 (.seq (.reg [o0 119 (.fadr 1 (.s 1)),
 o0 120 (.load none (.s 119)),
 o0 121 (.bin .leq (.s 120) (.c (.int .i64 63))),
 mv 2 121] [119,120,121])
 .ret)
 (.seq (.reg [o0 123 (.bin .eql (.s 98) (.c (.int .i64 20))),
 mv 122 123] [123])
 (.cond (.s 122)
 (.seq (.reg [o0 124 (.fadr 1 (.s 1)),
 o0 125 (.load none (.s 124)),
 o0 126 (.bin .eql (.s 125) (.c (.int .i64 3))),
 mv 127 126,
 oF 128 127 (.fadr 1 (.s 1)),
 oF 129 127 (.load none (.s 128)),
 oF 130 127 (.bin .eql (.s 129) (.c (.int .i64 4))),
 o0 131 (.pick (.s 127) (.c (.bool true)) (.s 130)),
 mv 2 131] [124,125,126,127,128,129,130,131])
 .ret)
 .skip))))))))))
 (.seq (.seq (.reg [o0 132 (.fadr 8 (.s 1)),
 o0 133 (.load none (.s 132)),
 o0 134 (.len (.s 133)),
 o0 135 (.mov (.c (.int .i64 0)))] [132])
 (.block 1 (.loop (.seq (.reg [o0 136 (.bin .lss (.s 135) (.s 134))] [])
 (.seq (.cond (.s 136)
 .skip
 (.exit 1))
 (.seq (.block 2 (.seq (.reg [o0 137 (.iadr 1 (.s 133) (.s 135)),
 o0 138 (.load none (.s 137)),
 mv 8 138] [137,138])
 (.seq (.reg [mv 139 8,
 o0 140 (.call 178 [(.s 139)]),
 o0 141 (.un .not (.s 140))] [139,140])
 (.cond (.s 141)
 (.seq (.reg [o0 2 (.mov (.c (.bool false)))] [])
 .ret)
 .skip))))
 (.reg [o0 142 (.bin .add (.s 135) (.c (.int .i64 1))),
 mv 135 142] [142])))))))
 (.seq (.reg [o0 2 (.mov (.c (.bool true)))] [])
 .ret))))))))⟩

theorem cX73:compF Tryz.prog 151 = some FX73:=by kernel_rfl
abbrev nX73:FuncId:=151

def FX30:IFun :=
⟨22,2,[.tmp 4],
 (.seq (.reg [o0 4 (.mov (.c .nl))] [])
 (.seq (.reg [o0 5 (.mov (.c .nl))] [])
 (.seq (.seq (.reg [mv 8 0,
 o0 9 (.len (.s 8)),
 o0 10 (.mov (.c (.int .i64 0)))] [])
 (.block 0 (.loop (.seq (.reg [o0 11 (.bin .lss (.s 10) (.s 9))] [])
 (.seq (.cond (.s 11)
 .skip
 (.exit 0))
 (.seq (.block 1 (.seq (.reg [o0 12 (.iadr 9 (.s 8) (.s 10)),
 o0 13 (.load (some 9) (.s 12)),
 o0 7 (.new 61 [(.int .i64 0),(.int .i64 0),(.int .i64 0),(.int .u64 0),(.int .i64 0),(.int .i64 0),(.int .i64 0),.nl,.nl]),
 ⟨none,.store 9 (.s 7) (.s 13),none⟩] [12,13])
 (.reg [mv 14 5,
 mv 15 1,
 o0 16 (.load (some 9) (.s 7)),
 o0 17 (.callv (.s 15) [(.s 16)]),
 o0 18 (.bsl 61 9 [[(.int .i64 0),(.int .i64 0),(.int .i64 0),(.int .u64 0),(.int .i64 0),(.int .i64 0),(.int .i64 0),.nl,.nl]] [(0,(.s 17))]),
 o0 19 (.app 61 9 (.s 14) (.s 18)),
 mv 5 19] [14,15,16,17,18,19])))
 (.reg [o0 20 (.bin .add (.s 10) (.c (.int .i64 1))),
 mv 10 20] [20])))))))
 (.seq (.reg [mv 21 5,
 mv 4 21] [21])
 .ret))))⟩

theorem cX30:compF Tryz.prog 164 = some FX30:=by kernel_rfl
abbrev nX30:FuncId:=164

def FX93:IFun :=
⟨12,1,[.cell 2 (some 9)],
 (.seq (.reg [o0 1 (.box 61 9 (.s 0)),
 o0 2 (.new 61 [(.int .i64 0),(.int .i64 0),(.int .i64 0),(.int .u64 0),(.int .i64 0),(.int .i64 0),(.int .i64 0),.nl,.nl])] [])
 (.seq (.seq (.draw [⟨o0 3 (.fadr 7 (.s 1)),[]⟩,
 ⟨o0 4 (.load none (.s 3)),[0]⟩,
 ⟨o0 5 (.call 108 [(.s 4)]),[1,0]⟩,
 ⟨o0 6 (.fadr 8 (.s 1)),[]⟩,
 ⟨o0 7 (.load none (.s 6)),[3]⟩] [] [])
 (.seq (.draw [⟨o0 8 (.call 166 [(.s 7)]),[]⟩,
 ⟨o0 9 (.fadr 7 (.s 1)),[]⟩] [] [])
 (.seq (.reg [⟨none,.store 1 (.s 9) (.s 5),none⟩] [])
 (.seq (.reg [o0 10 (.fadr 8 (.s 1))] [])
 (.reg [⟨none,.store 1 (.s 10) (.s 8),none⟩] [3,4,5,6,7,8,9,10])))))
 (.seq (.reg [o0 11 (.load (some 9) (.s 1)),
 ⟨none,.store 9 (.s 2) (.s 11),none⟩] [11])
 .ret)))⟩

theorem cX93:compF Tryz.prog 165 = some FX93:=by kernel_rfl
abbrev nX93:FuncId:=165

def FX28:IFun :=
⟨8,1,[.tmp 2],
 (.seq (.reg [o0 2 (.mov (.c .nl))] [])
 (.seq (.seq (.reg [mv 3 0,
 o0 4 (.snl false (.s 3))] [3])
 (.cond (.s 4)
 (.seq (.reg [o0 2 (.mov (.c .nl))] [])
 .ret)
 .skip))
 (.seq (.reg [o0 5 (.bsl 3 1 [] []),
 mv 6 0,
 o0 7 (.app 3 1 (.s 5) (.s 6)),
 mv 2 7] [5,6,7])
 .ret)))⟩

theorem cX28:compF Tryz.prog 166 = some FX28:=by kernel_rfl
abbrev nX28:FuncId:=166

def FX7:IFun :=
⟨26,2,[.tmp 4],
 (.seq (.reg [o0 4 (.mov (.c (.bool false)))] [])
 (.seq (.seq (.reg [mv 6 0,
 o0 7 (.len (.s 6)),
 mv 8 1,
 o0 9 (.len (.s 8)),
 o0 10 (.bin .neq (.s 7) (.s 9))] [6,7,8,9])
 (.cond (.s 10)
 (.seq (.reg [o0 4 (.mov (.c (.bool false)))] [])
 .ret)
 .skip))
 (.seq (.seq (.reg [mv 11 0,
 o0 12 (.len (.s 11)),
 o0 13 (.mov (.c (.int .i64 0)))] [11])
 (.block 0 (.loop (.seq (.reg [o0 14 (.bin .lss (.s 13) (.s 12))] [])
 (.seq (.cond (.s 14)
 .skip
 (.exit 0))
 (.seq (.block 1 (.seq (.reg [mv 15 13,
 mv 5 15] [15])
 (.seq (.seq (.draw [⟨mv 16 0,[]⟩,
 ⟨mv 17 5,[]⟩,
 ⟨o0 18 (.iadr 1 (.s 16) (.s 17)),[0,1]⟩,
 ⟨o0 19 (.load none (.s 18)),[2,0,1]⟩,
 ⟨mv 20 1,[]⟩,
 ⟨mv 21 5,[]⟩,
 ⟨o0 22 (.iadr 1 (.s 20) (.s 21)),[4,5]⟩,
 ⟨o0 23 (.load none (.s 22)),[6,4,5]⟩] [] [])
 (.reg [o0 24 (.bin .neq (.s 19) (.s 23))] [16,17,18,19,20,21,22,23]))
 (.cond (.s 24)
 (.seq (.reg [o0 4 (.mov (.c (.bool false)))] [])
 .ret)
 .skip))))
 (.reg [o0 25 (.bin .add (.s 13) (.c (.int .i64 1))),
 mv 13 25] [25])))))))
 (.seq (.reg [o0 4 (.mov (.c (.bool true)))] [])
 .ret))))⟩

theorem cX7:compF Tryz.prog 168 = some FX7:=by kernel_rfl
abbrev nX7:FuncId:=168

def FX29:IFun :=
⟨26,2,[.tmp 4],
 (.seq (.reg [o0 4 (.mov (.c (.bool false)))] [])
 (.seq (.seq (.reg [mv 6 0,
 o0 7 (.len (.s 6)),
 mv 8 1,
 o0 9 (.len (.s 8)),
 o0 10 (.bin .neq (.s 7) (.s 9))] [6,7,8,9])
 (.cond (.s 10)
 (.seq (.reg [o0 4 (.mov (.c (.bool false)))] [])
 .ret)
 .skip))
 (.seq (.seq (.reg [mv 11 0,
 o0 12 (.len (.s 11)),
 o0 13 (.mov (.c (.int .i64 0)))] [11])
 (.block 0 (.loop (.seq (.reg [o0 14 (.bin .lss (.s 13) (.s 12))] [])
 (.seq (.cond (.s 14)
 .skip
 (.exit 0))
 (.seq (.block 1 (.seq (.reg [mv 15 13,
 mv 5 15] [15])
 (.seq (.seq (.draw [⟨mv 16 0,[]⟩,
 ⟨mv 17 5,[]⟩,
 ⟨o0 18 (.iadr 1 (.s 16) (.s 17)),[0,1]⟩,
 ⟨o0 19 (.load none (.s 18)),[2,0,1]⟩,
 ⟨mv 20 1,[]⟩,
 ⟨mv 21 5,[]⟩,
 ⟨o0 22 (.iadr 1 (.s 20) (.s 21)),[4,5]⟩,
 ⟨o0 23 (.load none (.s 22)),[6,4,5]⟩] [] [])
 (.reg [o0 24 (.bin .neq (.s 19) (.s 23))] [16,17,18,19,20,21,22,23]))
 (.cond (.s 24)
 (.seq (.reg [o0 4 (.mov (.c (.bool false)))] [])
 .ret)
 .skip))))
 (.reg [o0 25 (.bin .add (.s 13) (.c (.int .i64 1))),
 mv 13 25] [25])))))))
 (.seq (.reg [o0 4 (.mov (.c (.bool true)))] [])
 .ret))))⟩

theorem cX29:compF Tryz.prog 169 = some FX29:=by kernel_rfl
abbrev nX29:FuncId:=169

def FX0:IFun :=
⟨9,2,[.tmp 4],
 (.seq (.reg [o0 4 (.mov (.c (.bool false)))] [])
 (.seq (.reg [mv 5 0,
 mv 6 1,
 o0 7 (.call 186 [(.s 5),(.s 6)]),
 o0 8 (.bin .geq (.s 7) (.c (.int .i64 0))),
 mv 4 8] [5,6,7,8])
 .ret))⟩

theorem cX0:compF Tryz.prog 171 = some FX0:=by kernel_rfl
abbrev nX0:FuncId:=171

def FX98:IFun :=
⟨6,1,[.tmp 2],
 (.seq (.reg [o0 2 (.mov (.c (.bool false)))] [])
 (.seq (.reg [mv 3 0,
 o0 4 (.call 150 [(.s 3)]),
 o0 5 (.un .not (.s 4)),
 mv 2 5] [3,4,5])
 .ret))⟩

theorem cX98:compF Tryz.prog 172 = some FX98:=by kernel_rfl
abbrev nX98:FuncId:=172

def FX51:IFun :=
⟨169,1,[.tmp 2],
 (.seq (.reg [o0 2 (.mov (.c (.bool false)))] [])
 (.seq (.block 0 (.loop (.seq (.seq (.reg [mv 7 0,
 o0 8 (.slen (.s 7)),
 o0 9 (.bin .gtr (.s 8) (.c (.int .i64 0)))] [7,8])
 (.cond (.s 9)
 .skip
 (.exit 0)))
 (.block 1 (.seq (.reg [mv 10 0,
 o0 11 (.sidx (.s 10) (.c (.int .i64 0))),
 mv 3 11] [10,11])
 (.seq (.seq (.reg [mv 12 3,
 o0 13 (.bin .lss (.s 12) (.c (.int .u8 128)))] [12])
 (.cond (.s 13)
 (.seq (.reg [mv 14 0,
 o0 15 (.sslc (.s 14) (some (.c (.int .i64 1))) none),
 mv 0 15] [14,15])
 (.seq (.seq (.reg [mv 16 0,
 o0 17 (.slen (.s 16)),
 o0 18 (.bin .gtr (.s 17) (.c (.int .i64 8))),
 mv 19 18,
 mt 20 0 19,
 ot 21 19 (.call 187 [(.s 20)]),
 ot 22 19 (.bin .and (.s 21) (.c (.int .u64 9259542123273814144))),
 ot 23 19 (.bin .eql (.s 22) (.c (.int .u64 0))),
 o0 24 (.pick (.s 19) (.s 23) (.c (.bool false)))] [16,17,18,19,20,21,22,23])
 (.cond (.s 24)
 (.seq (.reg [mv 25 0,
 o0 26 (.sslc (.s 25) (some (.c (.int .i64 8))) none),
 mv 0 26] [25,26])
 (.seq (.seq (.reg [mv 27 0] [])
 (.seq (.reg [o0 28 (.slen (.s 27))] [])
 (.seq (.reg [o0 29 (.bin .gtr (.s 28) (.c (.int .i64 16)))] [])
 (.seq (.reg [mv 30 29] [])
 (.seq (.draw [⟨mt 31 0 30,[]⟩,
 ⟨ot 32 30 (.call 187 [(.s 31)]),[0]⟩,
 ⟨mt 33 0 30,[]⟩,
 ⟨ot 34 30 (.sslc (.s 33) (some (.c (.int .i64 8))) none),[2]⟩] [] [])
 (.seq (.reg [ot 35 30 (.call 187 [(.s 34)])] [])
 (.seq (.reg [ot 36 30 (.bin .or (.s 32) (.s 35))] [])
 (.seq (.reg [ot 37 30 (.bin .and (.s 36) (.c (.int .u64 9259542123273814144)))] [])
 (.seq (.reg [ot 38 30 (.bin .eql (.s 37) (.c (.int .u64 0)))] [])
 (.reg [o0 39 (.pick (.s 30) (.s 38) (.c (.bool false)))] [27,28,29,30,31,32,33,34,35,36,37,38]))))))))))
 (.cond (.s 39)
 (.seq (.reg [mv 40 0,
 o0 41 (.sslc (.s 40) (some (.c (.int .i64 16))) none),
 mv 0 41] [40,41])
 (.block 2 (.loop (.seq (.seq (.seq (.reg [mv 42 0] [])
 (.seq (.reg [o0 43 (.slen (.s 42))] [])
 (.seq (.reg [o0 44 (.bin .gtr (.s 43) (.c (.int .i64 32)))] [])
 (.seq (.reg [mv 45 44] [])
 (.seq (.draw [⟨mt 46 0 45,[]⟩,
 ⟨ot 47 45 (.call 187 [(.s 46)]),[0]⟩,
 ⟨mt 48 0 45,[]⟩,
 ⟨ot 49 45 (.sslc (.s 48) (some (.c (.int .i64 8))) none),[2]⟩,
 ⟨ot 50 45 (.call 187 [(.s 49)]),[3,2,1,0]⟩,
 ⟨ot 51 45 (.bin .or (.s 47) (.s 50)),[1,0,4,3,2]⟩,
 ⟨mt 52 0 45,[]⟩,
 ⟨ot 53 45 (.sslc (.s 52) (some (.c (.int .i64 16))) none),[6]⟩,
 ⟨ot 54 45 (.call 187 [(.s 53)]),[7,6,4,3,2,1,0]⟩,
 ⟨mt 55 0 45,[]⟩,
 ⟨ot 56 45 (.sslc (.s 55) (some (.c (.int .i64 24))) none),[9]⟩,
 ⟨ot 57 45 (.call 187 [(.s 56)]),[10,9,8,7,6,4,3,2,1,0]⟩,
 ⟨ot 58 45 (.bin .or (.s 54) (.s 57)),[8,7,6,4,3,2,1,0,11,10,9]⟩] [] [])
 (.seq (.reg [ot 59 45 (.bin .or (.s 51) (.s 58))] [])
 (.seq (.reg [ot 60 45 (.bin .and (.s 59) (.c (.int .u64 9259542123273814144)))] [])
 (.seq (.reg [ot 61 45 (.bin .eql (.s 60) (.c (.int .u64 0)))] [])
 (.reg [o0 62 (.pick (.s 45) (.s 61) (.c (.bool false)))] [42,43,44,45,46,47,48,49,50,51,52,53,54,55,56,57,58,59,60,61])))))))))
 (.cond (.s 62)
 .skip
 (.exit 2)))
 (.block 3 (.reg [mv 63 0,
 o0 64 (.sslc (.s 63) (some (.c (.int .i64 32))) none),
 mv 0 64] [63,64]))))))
 .skip)))
 .skip))
 (.exit 1)))
 .skip))
 (.seq (.reg [mv 65 3,
 o0 66 (.aadr 1 256 (.s 1000000) (.s 65)),
 o0 67 (.load none (.s 66)),
 mv 4 67] [65,66,67])
 (.seq (.reg [mv 68 4,
 o0 69 (.bin .and (.s 68) (.c (.int .u8 7))),
 o0 70 (.cvi .i64 (.s 69)),
 mv 5 70] [68,69,70])
 (.seq (.reg [mv 71 4,
 o0 72 (.bin .shr (.s 71) (.c (.int .u64 4))),
 o0 73 (.aadr 2 16 (.s 1000001) (.s 72)),
 o0 74 (.load (some 2) (.s 73)),
 o0 6 (.new 230 [(.int .u8 0),(.int .u8 0)]),
 ⟨none,.store 2 (.s 6) (.s 74),none⟩] [71,72,73,74])
 (.seq (.reg [mv 75 5] [])
 (.block 4 (.seq (.reg [o0 77 (.bin .eql (.s 75) (.c (.int .i64 2))),
 mv 76 77] [77])
 (.cond (.s 76)
 (.seq (.seq (.seq (.reg [mv 78 0] [])
 (.seq (.reg [o0 79 (.slen (.s 78))] [])
 (.seq (.reg [o0 80 (.bin .lss (.s 79) (.c (.int .i64 2)))] [])
 (.seq (.reg [mv 81 80] [])
 (.seq (.draw [⟨mf 82 0 81,[]⟩,
 ⟨oF 83 81 (.sidx (.s 82) (.c (.int .i64 1))),[0]⟩,
 ⟨oF 84 81 (.fadr 0 (.s 6)),[]⟩,
 ⟨oF 85 81 (.load none (.s 84)),[2]⟩] [] [])
 (.seq (.reg [oF 86 81 (.bin .lss (.s 83) (.s 85))] [])
 (.seq (.reg [o0 87 (.pick (.s 81) (.c (.bool true)) (.s 86))] [])
 (.seq (.reg [mv 88 87] [])
 (.seq (.draw [⟨oF 89 88 (.fadr 1 (.s 6)),[]⟩,
 ⟨oF 90 88 (.load none (.s 89)),[0]⟩,
 ⟨mf 91 0 88,[]⟩,
 ⟨oF 92 88 (.sidx (.s 91) (.c (.int .i64 1))),[2]⟩] [] [])
 (.seq (.reg [oF 93 88 (.bin .lss (.s 90) (.s 92))] [])
 (.reg [o0 94 (.pick (.s 88) (.c (.bool true)) (.s 93))] [78,79,80,81,82,83,84,85,86,87,88,89,90,91,92,93])))))))))))
 (.cond (.s 94)
 (.seq (.reg [o0 2 (.mov (.c (.bool false)))] [])
 .ret)
 .skip))
 (.reg [mv 95 0,
 o0 96 (.sslc (.s 95) (some (.c (.int .i64 2))) none),
 mv 0 96] [95,96]))
 (.seq (.reg [o0 98 (.bin .eql (.s 75) (.c (.int .i64 3))),
 mv 97 98] [98])
 (.cond (.s 97)
 (.seq (.seq (.seq (.reg [mv 99 0] [])
 (.seq (.reg [o0 100 (.slen (.s 99))] [])
 (.seq (.reg [o0 101 (.bin .lss (.s 100) (.c (.int .i64 3)))] [])
 (.seq (.reg [mv 102 101] [])
 (.seq (.draw [⟨mf 103 0 102,[]⟩,
 ⟨oF 104 102 (.sidx (.s 103) (.c (.int .i64 1))),[0]⟩,
 ⟨oF 105 102 (.fadr 0 (.s 6)),[]⟩,
 ⟨oF 106 102 (.load none (.s 105)),[2]⟩] [] [])
 (.seq (.reg [oF 107 102 (.bin .lss (.s 104) (.s 106))] [])
 (.seq (.reg [o0 108 (.pick (.s 102) (.c (.bool true)) (.s 107))] [])
 (.seq (.reg [mv 109 108] [])
 (.seq (.draw [⟨oF 110 109 (.fadr 1 (.s 6)),[]⟩,
 ⟨oF 111 109 (.load none (.s 110)),[0]⟩,
 ⟨mf 112 0 109,[]⟩,
 ⟨oF 113 109 (.sidx (.s 112) (.c (.int .i64 1))),[2]⟩] [] [])
 (.seq (.reg [oF 114 109 (.bin .lss (.s 111) (.s 113))] [])
 (.seq (.reg [o0 115 (.pick (.s 109) (.c (.bool true)) (.s 114))] [])
 (.seq (.reg [mv 116 115] [])
 (.seq (.reg [mf 117 0 116] [])
 (.seq (.reg [oF 118 116 (.sidx (.s 117) (.c (.int .i64 2)))] [])
 (.seq (.reg [oF 119 116 (.bin .lss (.s 118) (.c (.int .u8 128)))] [])
 (.seq (.reg [o0 120 (.pick (.s 116) (.c (.bool true)) (.s 119))] [])
 (.seq (.reg [mv 121 120] [])
 (.seq (.reg [mf 122 0 121] [])
 (.seq (.reg [oF 123 121 (.sidx (.s 122) (.c (.int .i64 2)))] [])
 (.seq (.reg [oF 124 121 (.bin .lss (.c (.int .u8 191)) (.s 123))] [])
 (.reg [o0 125 (.pick (.s 121) (.c (.bool true)) (.s 124))] [99,100,101,102,103,104,105,106,107,108,109,110,111,112,113,114,115,116,117,118,119,120,121,122,123,124])))))))))))))))))))))
 (.cond (.s 125)
 (.seq (.reg [o0 2 (.mov (.c (.bool false)))] [])
 .ret)
 .skip))
 (.reg [mv 126 0,
 o0 127 (.sslc (.s 126) (some (.c (.int .i64 3))) none),
 mv 0 127] [126,127]))
 (.seq (.reg [o0 129 (.bin .eql (.s 75) (.c (.int .i64 4))),
 mv 128 129] [129])
 (.cond (.s 128)
 (.seq (.seq (.seq (.reg [mv 130 0] [])
 (.seq (.reg [o0 131 (.slen (.s 130))] [])
 (.seq (.reg [o0 132 (.bin .lss (.s 131) (.c (.int .i64 4)))] [])
 (.seq (.reg [mv 133 132] [])
 (.seq (.draw [⟨mf 134 0 133,[]⟩,
 ⟨oF 135 133 (.sidx (.s 134) (.c (.int .i64 1))),[0]⟩,
 ⟨oF 136 133 (.fadr 0 (.s 6)),[]⟩,
 ⟨oF 137 133 (.load none (.s 136)),[2]⟩] [] [])
 (.seq (.reg [oF 138 133 (.bin .lss (.s 135) (.s 137))] [])
 (.seq (.reg [o0 139 (.pick (.s 133) (.c (.bool true)) (.s 138))] [])
 (.seq (.reg [mv 140 139] [])
 (.seq (.draw [⟨oF 141 140 (.fadr 1 (.s 6)),[]⟩,
 ⟨oF 142 140 (.load none (.s 141)),[0]⟩,
 ⟨mf 143 0 140,[]⟩,
 ⟨oF 144 140 (.sidx (.s 143) (.c (.int .i64 1))),[2]⟩] [] [])
 (.seq (.reg [oF 145 140 (.bin .lss (.s 142) (.s 144))] [])
 (.seq (.reg [o0 146 (.pick (.s 140) (.c (.bool true)) (.s 145))] [])
 (.seq (.reg [mv 147 146] [])
 (.seq (.reg [mf 148 0 147] [])
 (.seq (.reg [oF 149 147 (.sidx (.s 148) (.c (.int .i64 2)))] [])
 (.seq (.reg [oF 150 147 (.bin .lss (.s 149) (.c (.int .u8 128)))] [])
 (.seq (.reg [o0 151 (.pick (.s 147) (.c (.bool true)) (.s 150))] [])
 (.seq (.reg [mv 152 151] [])
 (.seq (.reg [mf 153 0 152] [])
 (.seq (.reg [oF 154 152 (.sidx (.s 153) (.c (.int .i64 2)))] [])
 (.seq (.reg [oF 155 152 (.bin .lss (.c (.int .u8 191)) (.s 154))] [])
 (.seq (.reg [o0 156 (.pick (.s 152) (.c (.bool true)) (.s 155))] [])
 (.seq (.reg [mv 157 156] [])
 (.seq (.reg [mf 158 0 157] [])
 (.seq (.reg [oF 159 157 (.sidx (.s 158) (.c (.int .i64 3)))] [])
 (.seq (.reg [oF 160 157 (.bin .lss (.s 159) (.c (.int .u8 128)))] [])
 (.seq (.reg [o0 161 (.pick (.s 157) (.c (.bool true)) (.s 160))] [])
 (.seq (.reg [mv 162 161] [])
 (.seq (.reg [mf 163 0 162] [])
 (.seq (.reg [oF 164 162 (.sidx (.s 163) (.c (.int .i64 3)))] [])
 (.seq (.reg [oF 165 162 (.bin .lss (.c (.int .u8 191)) (.s 164))] [])
 (.reg [o0 166 (.pick (.s 162) (.c (.bool true)) (.s 165))] [130,131,132,133,134,135,136,137,138,139,140,141,142,143,144,145,146,147,148,149,150,151,152,153,154,155,156,157,158,159,160,161,162,163,164,165])))))))))))))))))))))))))))))))
 (.cond (.s 166)
 (.seq (.reg [o0 2 (.mov (.c (.bool false)))] [])
 .ret)
 .skip))
 (.reg [mv 167 0,
 o0 168 (.sslc (.s 167) (some (.c (.int .i64 4))) none),
 mv 0 168] [167,168]))
 (.seq (.reg [o0 2 (.mov (.c (.bool false)))] [])
 .ret))))))))))))))))))
 (.seq (.reg [o0 2 (.mov (.c (.bool true)))] [])
 .ret)))⟩

theorem cX51:compF Tryz.prog 173 = some FX51:=by kernel_rfl
abbrev nX51:FuncId:=173

def FX118:IFun :=
⟨9,1,[.tmp 2],
 (.seq (.reg [o0 2 (.mov (.c (.bool false)))] [])
 (.seq (.reg [mv 3 0,
 o0 4 (.bin .eql (.s 3) (.c (.int .i64 1))),
 mv 5 4,
 mf 6 0 5,
 oF 7 5 (.bin .eql (.s 6) (.c (.int .i64 2))),
 o0 8 (.pick (.s 5) (.c (.bool true)) (.s 7)),
 mv 2 8] [3,4,5,6,7,8])
 .ret))⟩

theorem cX118:compF Tryz.prog 174 = some FX118:=by kernel_rfl
abbrev nX118:FuncId:=174

def FX117:IFun :=
⟨38,1,[.tmp 2],
 (.seq (.reg [o0 2 (.mov (.c (.int .i64 0)))] [])
 (.seq (.seq (.reg [mv 3 0] [])
 (.block 0 (.seq (.seq (.reg [o0 5 (.bin .eql (.s 3) (.c (.int .i64 2))),
 mv 4 5] [5])
 (.cond (.s 4)
 .skip
 (.seq (.reg [o0 6 (.bin .eql (.s 3) (.c (.int .i64 3))),
 mv 4 6] [6])
 (.cond (.s 4)
 .skip
 (.reg [o0 7 (.bin .eql (.s 3) (.c (.int .i64 4))),
 mv 4 7] [7])))))
 (.cond (.s 4)
 (.seq (.reg [o0 2 (.mov (.c (.int .i64 1)))] [])
 .ret)
 (.seq (.seq (.reg [o0 9 (.bin .eql (.s 3) (.c (.int .i64 12))),
 mv 8 9] [9])
 (.cond (.s 8)
 .skip
 (.reg [o0 10 (.bin .eql (.s 3) (.c (.int .i64 13))),
 mv 8 10] [10])))
 (.cond (.s 8)
 (.seq (.reg [o0 2 (.mov (.c (.int .i64 2)))] [])
 .ret)
 (.seq (.reg [o0 12 (.bin .eql (.s 3) (.c (.int .i64 14))),
 mv 11 12] [12])
 (.cond (.s 11)
 (.seq (.reg [o0 2 (.mov (.c (.int .i64 3)))] [])
 .ret)
 (.seq (.seq (.reg [o0 14 (.bin .eql (.s 3) (.c (.int .i64 16))),
 mv 13 14] [14])
 (.cond (.s 13)
 .skip
 (.reg [o0 15 (.bin .eql (.s 3) (.c (.int .i64 210))),
 mv 13 15] [15])))
 (.cond (.s 13)
 (.seq (.reg [o0 2 (.mov (.c (.int .i64 4)))] [])
 .ret)
 (.seq (.reg [o0 17 (.bin .eql (.s 3) (.c (.int .i64 17))),
 mv 16 17] [17])
 (.cond (.s 16)
 (.seq (.reg [o0 2 (.mov (.c (.int .i64 5)))] [])
 .ret)
 (.seq (.reg [o0 19 (.bin .eql (.s 3) (.c (.int .i64 28))),
 mv 18 19] [19])
 (.cond (.s 18)
 (.seq (.reg [o0 2 (.mov (.c (.int .i64 6)))] [])
 .ret)
 (.seq (.seq (.reg [o0 21 (.bin .eql (.s 3) (.c (.int .i64 32))),
 mv 20 21] [21])
 (.cond (.s 20)
 .skip
 (.seq (.reg [o0 22 (.bin .eql (.s 3) (.c (.int .i64 33))),
 mv 20 22] [22])
 (.cond (.s 20)
 .skip
 (.reg [o0 23 (.bin .eql (.s 3) (.c (.int .i64 34))),
 mv 20 23] [23])))))
 (.cond (.s 20)
 (.seq (.reg [o0 2 (.mov (.c (.int .i64 7)))] [])
 .ret)
 (.seq (.seq (.reg [o0 25 (.bin .eql (.s 3) (.c (.int .i64 35))),
 mv 24 25] [25])
 (.cond (.s 24)
 .skip
 (.reg [o0 26 (.bin .eql (.s 3) (.c (.int .i64 36))),
 mv 24 26] [26])))
 (.cond (.s 24)
 (.seq (.reg [o0 2 (.mov (.c (.int .i64 8)))] [])
 .ret)
 (.seq (.reg [o0 28 (.bin .eql (.s 3) (.c (.int .i64 65))),
 mv 27 28] [28])
 (.cond (.s 27)
 (.seq (.reg [o0 2 (.mov (.c (.int .i64 18)))] [])
 .ret)
 (.seq (.reg [o0 30 (.bin .eql (.s 3) (.c (.int .i64 66))),
 mv 29 30] [30])
 (.cond (.s 29)
 (.seq (.reg [o0 2 (.mov (.c (.int .i64 19)))] [])
 .ret)
 (.seq (.reg [o0 32 (.bin .eql (.s 3) (.c (.int .i64 208))),
 mv 31 32] [32])
 (.cond (.s 31)
 (.seq (.reg [o0 2 (.mov (.c (.int .i64 20)))] [])
 .ret)
 .skip))))))))))))))))))))))))
 (.seq (.seq (.reg [mv 33 0,
 o0 34 (.call 188 [(.s 33)]),
 o0 35 (.bin .gtr (.s 34) (.c (.int .i64 0)))] [33,34])
 (.cond (.s 35)
 (.seq (.reg [o0 2 (.mov (.c (.int .i64 17)))] [])
 .ret)
 .skip))
 (.seq (.reg [mv 36 0,
 o0 37 (.call 189 [(.s 36)]),
 mv 2 37] [36,37])
 .ret))))⟩

theorem cX117:compF Tryz.prog 175 = some FX117:=by kernel_rfl
abbrev nX117:FuncId:=175

def FX101:IFun :=
⟨29,1,[.tmp 2,.tmp 3,.tmp 4],
 (.seq (.reg [o0 2 (.mov (.c (.bool false))),
 o0 3 (.mov (.c (.bool false))),
 o0 4 (.mov (.c (.bool false)))] [])
 (.seq (.seq (.reg [mv 5 0] [])
 (.block 0 (.seq (.seq (.reg [o0 7 (.bin .eql (.s 5) (.c (.int .i64 2))),
 mv 6 7] [7])
 (.cond (.s 6)
 .skip
 (.seq (.reg [o0 8 (.bin .eql (.s 5) (.c (.int .i64 3))),
 mv 6 8] [8])
 (.cond (.s 6)
 .skip
 (.seq (.reg [o0 9 (.bin .eql (.s 5) (.c (.int .i64 4))),
 mv 6 9] [9])
 (.cond (.s 6)
 .skip
 (.seq (.reg [o0 10 (.bin .eql (.s 5) (.c (.int .i64 7))),
 mv 6 10] [10])
 (.cond (.s 6)
 .skip
 (.seq (.reg [o0 11 (.bin .eql (.s 5) (.c (.int .i64 8))),
 mv 6 11] [11])
 (.cond (.s 6)
 .skip
 (.seq (.reg [o0 12 (.bin .eql (.s 5) (.c (.int .i64 9))),
 mv 6 12] [12])
 (.cond (.s 6)
 .skip
 (.seq (.reg [o0 13 (.bin .eql (.s 5) (.c (.int .i64 12))),
 mv 6 13] [13])
 (.cond (.s 6)
 .skip
 (.seq (.reg [o0 14 (.bin .eql (.s 5) (.c (.int .i64 16))),
 mv 6 14] [14])
 (.cond (.s 6)
 .skip
 (.reg [o0 15 (.bin .eql (.s 5) (.c (.int .i64 20))),
 mv 6 15] [15])))))))))))))))))
 (.cond (.s 6)
 (.seq (.reg [o0 2 (.mov (.c (.bool true))),
 o0 3 (.mov (.c (.bool false))),
 o0 4 (.mov (.c (.bool false)))] [])
 .ret)
 (.seq (.seq (.reg [o0 17 (.bin .eql (.s 5) (.c (.int .i64 5))),
 mv 16 17] [17])
 (.cond (.s 16)
 .skip
 (.seq (.reg [o0 18 (.bin .eql (.s 5) (.c (.int .i64 10))),
 mv 16 18] [18])
 (.cond (.s 16)
 .skip
 (.seq (.reg [o0 19 (.bin .eql (.s 5) (.c (.int .i64 11))),
 mv 16 19] [19])
 (.cond (.s 16)
 .skip
 (.seq (.reg [o0 20 (.bin .eql (.s 5) (.c (.int .i64 14))),
 mv 16 20] [20])
 (.cond (.s 16)
 .skip
 (.reg [o0 21 (.bin .eql (.s 5) (.c (.int .i64 15))),
 mv 16 21] [21])))))))))
 (.cond (.s 16)
 (.seq (.reg [o0 2 (.mov (.c (.bool true))),
 o0 3 (.mov (.c (.bool true))),
 o0 4 (.mov (.c (.bool false)))] [])
 .ret)
 (.seq (.reg [o0 23 (.bin .eql (.s 5) (.c (.int .i64 13))),
 mv 22 23] [23])
 (.cond (.s 22)
 (.seq (.reg [o0 2 (.mov (.c (.bool false))),
 o0 3 (.mov (.c (.bool true))),
 o0 4 (.mov (.c (.bool false)))] [])
 .ret)
 (.seq (.reg [o0 25 (.bin .eql (.s 5) (.c (.int .i64 17))),
 mv 24 25] [25])
 (.cond (.s 24)
 (.seq (.reg [o0 2 (.mov (.c (.bool true))),
 o0 3 (.mov (.c (.bool true))),
 o0 4 (.mov (.c (.bool true)))] [])
 .ret)
 (.seq (.seq (.reg [o0 27 (.bin .eql (.s 5) (.c (.int .i64 18))),
 mv 26 27] [27])
 (.cond (.s 26)
 .skip
 (.reg [o0 28 (.bin .eql (.s 5) (.c (.int .i64 19))),
 mv 26 28] [28])))
 (.cond (.s 26)
 (.seq (.reg [o0 2 (.mov (.c (.bool false))),
 o0 3 (.mov (.c (.bool false))),
 o0 4 (.mov (.c (.bool true)))] [])
 .ret)
 .skip))))))))))))
 (.seq (.reg [o0 2 (.mov (.c (.bool false))),
 o0 3 (.mov (.c (.bool false))),
 o0 4 (.mov (.c (.bool false)))] [])
 .ret)))⟩

theorem cX101:compF Tryz.prog 176 = some FX101:=by kernel_rfl
abbrev nX101:FuncId:=176

def FX72:IFun :=
⟨6,1,[.tmp 2],
 (.seq (.reg [o0 2 (.mov (.c (.bool false)))] [])
 (.seq (.reg [mv 3 0,
 o0 4 (.call 190 [(.s 3)]),
 o0 5 (.bin .neq (.s 4) (.c (.str []))),
 mv 2 5] [3,4,5])
 .ret))⟩

theorem cX72:compF Tryz.prog 177 = some FX72:=by kernel_rfl
abbrev nX72:FuncId:=177

def FX76:IFun :=
⟨9,1,[.tmp 2],
 (.seq (.reg [o0 2 (.mov (.c (.bool false)))] [])
 (.seq (.reg [mv 3 0,
 o0 4 (.bin .geq (.s 3) (.c (.int .i64 0))),
 mv 5 4,
 mt 6 0 5,
 ot 7 5 (.bin .lss (.s 6) (.c (.int .i64 4294967296))),
 o0 8 (.pick (.s 5) (.s 7) (.c (.bool false))),
 mv 2 8] [3,4,5,6,7,8])
 .ret))⟩

theorem cX76:compF Tryz.prog 178 = some FX76:=by kernel_rfl
abbrev nX76:FuncId:=178

def FX75:IFun :=
⟨30,1,[.tmp 2],
 (.seq (.reg [o0 1 (.box 58 3 (.s 0)),
 o0 2 (.mov (.c (.bool false)))] [])
 (.seq (.seq (.reg [o0 3 (.fadr 0 (.s 1)),
 o0 4 (.load none (.s 3))] [3])
 (.block 0 (.seq (.reg [o0 6 (.bin .eql (.s 4) (.c (.int .i64 0))),
 mv 5 6] [6])
 (.cond (.s 5)
 (.seq (.reg [o0 7 (.load (some 3) (.s 1)),
 o0 8 (.build [(.int .i64 0),(.int .i64 0),(.int .i64 0)] []),
 o0 9 (.sbin .eql [.i,.i,.i] (.s 7) (.s 8)),
 mv 2 9] [7,8,9])
 .ret)
 (.seq (.reg [o0 11 (.bin .eql (.s 4) (.c (.int .i64 1))),
 mv 10 11] [11])
 (.cond (.s 10)
 (.seq (.reg [o0 12 (.fadr 1 (.s 1)),
 o0 13 (.load none (.s 12)),
 o0 14 (.call 180 [(.s 13)]),
 mv 15 14,
 ot 16 15 (.fadr 2 (.s 1)),
 ot 17 15 (.load none (.s 16)),
 ot 18 15 (.bin .eql (.s 17) (.c (.int .i64 0))),
 o0 19 (.pick (.s 15) (.s 18) (.c (.bool false))),
 mv 2 19] [12,13,14,15,16,17,18,19])
 .ret)
 (.seq (.reg [o0 21 (.bin .eql (.s 4) (.c (.int .i64 2))),
 mv 20 21] [21])
 (.cond (.s 20)
 (.seq (.reg [o0 22 (.fadr 1 (.s 1)),
 o0 23 (.load none (.s 22)),
 o0 24 (.bin .eql (.s 23) (.c (.int .i64 0))),
 mv 25 24,
 ot 26 25 (.fadr 2 (.s 1)),
 ot 27 25 (.load none (.s 26)),
 ot 28 25 (.call 178 [(.s 27)]),
 o0 29 (.pick (.s 25) (.s 28) (.c (.bool false))),
 mv 2 29] [22,23,24,25,26,27,28,29])
 .ret)
 .skip))))))))
 (.seq (.reg [o0 2 (.mov (.c (.bool false)))] [])
 .ret)))⟩

theorem cX75:compF Tryz.prog 179 = some FX75:=by kernel_rfl
abbrev nX75:FuncId:=179

def FX105:IFun :=
⟨9,1,[.tmp 2],
 (.seq (.reg [o0 2 (.mov (.c (.bool false)))] [])
 (.seq (.reg [mv 3 0,
 o0 4 (.bin .geq (.s 3) (.c (.int .i64 1))),
 mv 5 4,
 mt 6 0 5,
 ot 7 5 (.bin .leq (.s 6) (.c (.int .i64 4))),
 o0 8 (.pick (.s 5) (.s 7) (.c (.bool false))),
 mv 2 8] [3,4,5,6,7,8])
 .ret))⟩

theorem cX105:compF Tryz.prog 180 = some FX105:=by kernel_rfl
abbrev nX105:FuncId:=180

def FX5:IFun :=
⟨19,2,[.tmp 4],
 (.seq (.reg [o0 4 (.mov (.c (.int .i64 0)))] [])
 (.seq (.seq (.reg [mv 6 0,
 o0 7 (.len (.s 6)),
 o0 8 (.mov (.c (.int .i64 0)))] [6])
 (.block 0 (.loop (.seq (.reg [o0 9 (.bin .lss (.s 8) (.s 7))] [])
 (.seq (.cond (.s 9)
 .skip
 (.exit 0))
 (.seq (.block 1 (.seq (.reg [mv 10 8,
 mv 5 10] [10])
 (.seq (.reg [mv 11 1,
 mv 12 0,
 mv 13 5,
 o0 14 (.iadr 1 (.s 12) (.s 13)),
 o0 15 (.load none (.s 14)),
 o0 16 (.callv (.s 11) [(.s 15)])] [11,12,13,14,15])
 (.cond (.s 16)
 (.seq (.reg [mv 17 5,
 mv 4 17] [17])
 .ret)
 .skip))))
 (.reg [o0 18 (.bin .add (.s 8) (.c (.int .i64 1))),
 mv 8 18] [18])))))))
 (.seq (.reg [o0 4 (.mov (.c (.int .i64 (-1))))] [])
 .ret)))⟩

theorem cX5:compF Tryz.prog 186 = some FX5:=by kernel_rfl
abbrev nX5:FuncId:=186

def FX52:IFun :=
⟨59,1,[.tmp 2],
 (.seq (.reg [o0 2 (.mov (.c (.int .u64 0)))] [])
 (.seq (.cond (.c (.bool false))
 (.seq (.seq (.draw [⟨mv 3 0,[]⟩,
 ⟨o0 4 (.sidx (.s 3) (.c (.int .i64 0))),[0]⟩,
 ⟨o0 5 (.cvi .u64 (.s 4)),[1,0]⟩,
 ⟨mv 6 0,[]⟩,
 ⟨o0 7 (.sidx (.s 6) (.c (.int .i64 1))),[3]⟩,
 ⟨o0 8 (.cvi .u64 (.s 7)),[4,3]⟩,
 ⟨o0 9 (.bin .shl (.s 8) (.c (.int .u64 8))),[5,4,3]⟩,
 ⟨o0 10 (.bin .or (.s 5) (.s 9)),[2,1,0,6,5,4,3]⟩,
 ⟨mv 11 0,[]⟩,
 ⟨o0 12 (.sidx (.s 11) (.c (.int .i64 2))),[8]⟩,
 ⟨o0 13 (.cvi .u64 (.s 12)),[9,8]⟩,
 ⟨o0 14 (.bin .shl (.s 13) (.c (.int .u64 16))),[10,9,8]⟩,
 ⟨o0 15 (.bin .or (.s 10) (.s 14)),[7,2,1,0,6,5,4,3,11,10,9,8]⟩,
 ⟨mv 16 0,[]⟩,
 ⟨o0 17 (.sidx (.s 16) (.c (.int .i64 3))),[13]⟩,
 ⟨o0 18 (.cvi .u64 (.s 17)),[14,13]⟩,
 ⟨o0 19 (.bin .shl (.s 18) (.c (.int .u64 24))),[15,14,13]⟩] [] [])
 (.seq (.reg [o0 20 (.bin .or (.s 15) (.s 19))] [])
 (.reg [mv 2 20] [3,4,5,6,7,8,9,10,11,12,13,14,15,16,17,18,19,20])))
 .ret)
 .skip)
 (.seq (.seq (.draw [⟨mv 21 0,[]⟩,
 ⟨o0 22 (.sidx (.s 21) (.c (.int .i64 0))),[0]⟩,
 ⟨o0 23 (.cvi .u64 (.s 22)),[1,0]⟩,
 ⟨mv 24 0,[]⟩,
 ⟨o0 25 (.sidx (.s 24) (.c (.int .i64 1))),[3]⟩,
 ⟨o0 26 (.cvi .u64 (.s 25)),[4,3]⟩,
 ⟨o0 27 (.bin .shl (.s 26) (.c (.int .u64 8))),[5,4,3]⟩,
 ⟨o0 28 (.bin .or (.s 23) (.s 27)),[2,1,0,6,5,4,3]⟩,
 ⟨mv 29 0,[]⟩,
 ⟨o0 30 (.sidx (.s 29) (.c (.int .i64 2))),[8]⟩,
 ⟨o0 31 (.cvi .u64 (.s 30)),[9,8]⟩,
 ⟨o0 32 (.bin .shl (.s 31) (.c (.int .u64 16))),[10,9,8]⟩,
 ⟨o0 33 (.bin .or (.s 28) (.s 32)),[7,2,1,0,6,5,4,3,11,10,9,8]⟩,
 ⟨mv 34 0,[]⟩,
 ⟨o0 35 (.sidx (.s 34) (.c (.int .i64 3))),[13]⟩,
 ⟨o0 36 (.cvi .u64 (.s 35)),[14,13]⟩,
 ⟨o0 37 (.bin .shl (.s 36) (.c (.int .u64 24))),[15,14,13]⟩,
 ⟨o0 38 (.bin .or (.s 33) (.s 37)),[12,7,2,1,0,6,5,4,3,11,10,9,8,16,15,14,13]⟩,
 ⟨mv 39 0,[]⟩,
 ⟨o0 40 (.sidx (.s 39) (.c (.int .i64 4))),[18]⟩,
 ⟨o0 41 (.cvi .u64 (.s 40)),[19,18]⟩,
 ⟨o0 42 (.bin .shl (.s 41) (.c (.int .u64 32))),[20,19,18]⟩,
 ⟨o0 43 (.bin .or (.s 38) (.s 42)),[17,12,7,2,1,0,6,5,4,3,11,10,9,8,16,15,14,13,21,20,19,18]⟩,
 ⟨mv 44 0,[]⟩,
 ⟨o0 45 (.sidx (.s 44) (.c (.int .i64 5))),[23]⟩,
 ⟨o0 46 (.cvi .u64 (.s 45)),[24,23]⟩,
 ⟨o0 47 (.bin .shl (.s 46) (.c (.int .u64 40))),[25,24,23]⟩,
 ⟨o0 48 (.bin .or (.s 43) (.s 47)),[22,17,12,7,2,1,0,6,5,4,3,11,10,9,8,16,15,14,13,21,20,19,18,26,25,24,23]⟩,
 ⟨mv 49 0,[]⟩,
 ⟨o0 50 (.sidx (.s 49) (.c (.int .i64 6))),[28]⟩,
 ⟨o0 51 (.cvi .u64 (.s 50)),[29,28]⟩,
 ⟨o0 52 (.bin .shl (.s 51) (.c (.int .u64 48))),[30,29,28]⟩,
 ⟨o0 53 (.bin .or (.s 48) (.s 52)),[27,22,17,12,7,2,1,0,6,5,4,3,11,10,9,8,16,15,14,13,21,20,19,18,26,25,24,23,31,30,29,28]⟩,
 ⟨mv 54 0,[]⟩,
 ⟨o0 55 (.sidx (.s 54) (.c (.int .i64 7))),[33]⟩,
 ⟨o0 56 (.cvi .u64 (.s 55)),[34,33]⟩,
 ⟨o0 57 (.bin .shl (.s 56) (.c (.int .u64 56))),[35,34,33]⟩] [] [])
 (.seq (.reg [o0 58 (.bin .or (.s 53) (.s 57))] [])
 (.reg [mv 2 58] [21,22,23,24,25,26,27,28,29,30,31,32,33,34,35,36,37,38,39,40,41,42,43,44,45,46,47,48,49,50,51,52,53,54,55,56,57,58])))
 .ret)))⟩

theorem cX52:compF Tryz.prog 187 = some FX52:=by kernel_rfl
abbrev nX52:FuncId:=187

def FX74:IFun :=
⟨31,1,[.tmp 2],
 (.seq (.reg [o0 2 (.mov (.c (.int .i64 0)))] [])
 (.seq (.seq (.reg [mv 6 0,
 o0 7 (.call 198 [(.s 6)]),
 o0 8 (.un .not (.s 7))] [6,7])
 (.cond (.s 8)
 (.seq (.reg [o0 2 (.mov (.c (.int .i64 0)))] [])
 .ret)
 .skip))
 (.seq (.reg [mv 9 0,
 o0 10 (.call 190 [(.s 9)]),
 mv 3 10] [9,10])
 (.seq (.seq (.reg [o0 11 (.bsl 3 1 [[(.int .i64 0)],[(.int .i64 0)],[(.int .i64 0)]] [(0,(.c (.int .i64 8))),(1,(.c (.int .i64 16))),(2,(.c (.int .i64 32)))]),
 o0 12 (.len (.s 11)),
 o0 13 (.mov (.c (.int .i64 0)))] [])
 (.block 0 (.loop (.seq (.reg [o0 14 (.bin .lss (.s 13) (.s 12))] [])
 (.seq (.cond (.s 14)
 .skip
 (.exit 0))
 (.seq (.block 1 (.seq (.reg [o0 15 (.iadr 1 (.s 11) (.s 13)),
 o0 16 (.load none (.s 15)),
 mv 5 16] [15,16])
 (.seq (.seq (.draw [⟨mv 17 3,[]⟩,
 ⟨o0 18 (.sslc (.s 17) (some (.c (.int .i64 4))) none),[0]⟩,
 ⟨o0 19 (.bsl 9 1 [[(.str [])],[(.str [])],[(.str [])]] [(0,(.c (.str [56]))),(1,(.c (.str [49,54]))),(2,(.c (.str [51,50])))]),[]⟩,
 ⟨mv 20 5,[]⟩,
 ⟨o0 21 (.bin .quo (.s 20) (.c (.int .i64 16))),[3]⟩,
 ⟨o0 22 (.iadr 1 (.s 19) (.s 21)),[2,4,3]⟩,
 ⟨o0 23 (.load none (.s 22)),[5,2,4,3]⟩] [(19,2)] [])
 (.reg [o0 24 (.call 199 [(.s 18),(.s 23)])] [17,18,19,20,21,22,23]))
 (.cond (.s 24)
 (.seq (.reg [mv 25 5,
 o0 26 (.bin .quo (.s 25) (.c (.int .i64 8))),
 mv 2 26] [25,26])
 .ret)
 .skip))))
 (.reg [o0 27 (.bin .add (.s 13) (.c (.int .i64 1))),
 mv 13 27] [27])))))))
 (.seq (.seq (.reg [mv 28 3,
 o0 29 (.sslc (.s 28) none (some (.c (.int .i64 3)))),
 o0 30 (.bin .eql (.s 29) (.c (.str [105,51,50])))] [28,29])
 (.cond (.s 30)
 (.seq (.reg [o0 2 (.mov (.c (.int .i64 4)))] [])
 .ret)
 .skip))
 (.seq (.reg [o0 2 (.mov (.c (.int .i64 8)))] [])
 .ret))))))⟩

theorem cX74:compF Tryz.prog 188 = some FX74:=by kernel_rfl
abbrev nX74:FuncId:=188

def FX70:IFun :=
⟨26,1,[.tmp 2],
 (.seq (.reg [o0 2 (.mov (.c (.int .i64 0)))] [])
 (.seq (.seq (.reg [mv 3 0] [])
 (.block 0 (.seq (.seq (.reg [o0 5 (.bin .eql (.s 3) (.c (.int .i64 37))),
 mv 4 5] [5])
 (.cond (.s 4)
 .skip
 (.seq (.reg [o0 6 (.bin .eql (.s 3) (.c (.int .i64 38))),
 mv 4 6] [6])
 (.cond (.s 4)
 .skip
 (.seq (.reg [o0 7 (.bin .eql (.s 3) (.c (.int .i64 64528))),
 mv 4 7] [7])
 (.cond (.s 4)
 .skip
 (.seq (.reg [o0 8 (.bin .eql (.s 3) (.c (.int .i64 64527))),
 mv 4 8] [8])
 (.cond (.s 4)
 .skip
 (.reg [o0 9 (.bin .eql (.s 3) (.c (.int .i64 64529))),
 mv 4 9] [9])))))))))
 (.cond (.s 4)
 (.seq (.reg [o0 2 (.mov (.c (.int .i64 9)))] [])
 .ret)
 (.seq (.reg [o0 11 (.bin .eql (.s 3) (.c (.int .i64 64526))),
 mv 10 11] [11])
 (.cond (.s 10)
 (.seq (.reg [o0 2 (.mov (.c (.int .i64 10)))] [])
 .ret)
 (.seq (.reg [o0 13 (.bin .eql (.s 3) (.c (.int .i64 64524))),
 mv 12 13] [13])
 (.cond (.s 12)
 (.seq (.reg [o0 2 (.mov (.c (.int .i64 11)))] [])
 .ret)
 (.seq (.reg [o0 15 (.bin .eql (.s 3) (.c (.int .i64 64525))),
 mv 14 15] [15])
 (.cond (.s 14)
 (.seq (.reg [o0 2 (.mov (.c (.int .i64 12)))] [])
 .ret)
 (.seq (.seq (.reg [o0 17 (.bin .eql (.s 3) (.c (.int .i64 63))),
 mv 16 17] [17])
 (.cond (.s 16)
 .skip
 (.seq (.reg [o0 18 (.bin .eql (.s 3) (.c (.int .i64 64))),
 mv 16 18] [18])
 (.cond (.s 16)
 .skip
 (.reg [o0 19 (.bin .eql (.s 3) (.c (.int .i64 64523))),
 mv 16 19] [19])))))
 (.cond (.s 16)
 (.seq (.reg [o0 2 (.mov (.c (.int .i64 13)))] [])
 .ret)
 (.seq (.reg [o0 21 (.bin .eql (.s 3) (.c (.int .i64 64522))),
 mv 20 21] [21])
 (.cond (.s 20)
 (.seq (.reg [o0 2 (.mov (.c (.int .i64 14)))] [])
 .ret)
 (.seq (.reg [o0 23 (.bin .eql (.s 3) (.c (.int .i64 64520))),
 mv 22 23] [23])
 (.cond (.s 22)
 (.seq (.reg [o0 2 (.mov (.c (.int .i64 15)))] [])
 .ret)
 (.seq (.reg [o0 25 (.bin .eql (.s 3) (.c (.int .i64 64521))),
 mv 24 25] [25])
 (.cond (.s 24)
 (.seq (.reg [o0 2 (.mov (.c (.int .i64 16)))] [])
 .ret)
 .skip))))))))))))))))))
 (.seq (.reg [o0 2 (.mov (.c (.int .i64 0)))] [])
 .ret)))⟩

theorem cX70:compF Tryz.prog 189 = some FX70:=by kernel_rfl
abbrev nX70:FuncId:=189

def FX69:IFun :=
⟨13,1,[.tmp 2],
 (.seq (.reg [o0 2 (.mov (.c (.bool false)))] [])
 (.seq (.reg [mv 3 0,
 o0 4 (.bin .geq (.s 3) (.c (.int .i64 40))),
 mv 5 4,
 mt 6 0 5,
 ot 7 5 (.bin .leq (.s 6) (.c (.int .i64 62))),
 o0 8 (.pick (.s 5) (.s 7) (.c (.bool false))),
 mv 9 8,
 mt 10 0 9,
 ot 11 9 (.call 177 [(.s 10)]),
 o0 12 (.pick (.s 9) (.s 11) (.c (.bool false))),
 mv 2 12] [3,4,5,6,7,8,9,10,11,12])
 .ret))⟩

theorem cX69:compF Tryz.prog 198 = some FX69:=by kernel_rfl
abbrev nX69:FuncId:=198

abbrev n_strings_Contains:FuncId:=199

def FX77:IFun :=
⟨1,0,[.tmp 0],
 (.seq (.reg [o0 0 (.mov (.c .nf))] [])
 (.seq (.reg [o0 0 (.mov (.c (.fn 203 [])))] [])
 .ret))⟩

theorem cX77:compF Tryz.prog 200 = some FX77:=by kernel_rfl
abbrev nX77:FuncId:=200

def FX100:IFun :=
⟨26,0,[.tmp 0],
 (.seq (.reg [o0 0 (.mov (.c .nl))] [])
 (.seq (.reg [o0 1 (.build [(.int .i64 0),(.str []),(.str [])] [(0,1,(.c (.int .i64 0))),(1,1,(.c (.str []))),(2,1,(.c (.str [117,110,114,101,97,99,104,97,98,108,101,32,110,111,112,32,98,108,111,99,107,32,108,111,111,112,32,105,102,32,101,108,115,101])))]),
 o0 2 (.build [(.int .i64 0),(.str []),(.str [])] [(0,1,(.c (.int .i64 11))),(1,1,(.c (.str []))),(2,1,(.c (.str [101,110,100,32,98,114,32,98,114,95,105,102,32,98,114,95,116,97,98,108,101,32,114,101,116,117,114,110,32,99,97,108,108,32,99,97,108,108,95,105,110,100,105,114,101,99,116])))]),
 o0 3 (.build [(.int .i64 0),(.str []),(.str [])] [(0,1,(.c (.int .i64 26))),(1,1,(.c (.str []))),(2,1,(.c (.str [100,114,111,112,32,115,101,108,101,99,116,32,115,101,108,101,99,116])))]),
 o0 4 (.build [(.int .i64 0),(.str []),(.str [])] [(0,1,(.c (.int .i64 32))),(1,1,(.c (.str [108,111,99,97,108,46]))),(2,1,(.c (.str [103,101,116,32,115,101,116,32,116,101,101])))]),
 o0 5 (.build [(.int .i64 0),(.str []),(.str [])] [(0,1,(.c (.int .i64 35))),(1,1,(.c (.str [103,108,111,98,97,108,46]))),(2,1,(.c (.str [103,101,116,32,115,101,116])))]),
 o0 6 (.build [(.int .i64 0),(.str []),(.str [])] [(0,1,(.c (.int .i64 37))),(1,1,(.c (.str [116,97,98,108,101,46]))),(2,1,(.c (.str [103,101,116,32,115,101,116])))]),
 o0 7 (.build [(.int .i64 0),(.str []),(.str [])] [(0,1,(.c (.int .i64 40))),(1,1,(.c (.str []))),(2,1,(.c (.str [105,51,50,46,108,111,97,100,32,105,54,52,46,108,111,97,100])))]),
 o0 8 (.build [(.int .i64 0),(.str []),(.str [])] [(0,1,(.c (.int .i64 44))),(1,1,(.c (.str [105,51,50,46]))),(2,1,(.c (.str [108,111,97,100,56,95,115,32,108,111,97,100,56,95,117,32,108,111,97,100,49,54,95,115,32,108,111,97,100,49,54,95,117])))]),
 o0 9 (.build [(.int .i64 0),(.str []),(.str [])] [(0,1,(.c (.int .i64 48))),(1,1,(.c (.str [105,54,52,46]))),(2,1,(.c (.str [108,111,97,100,56,95,115,32,108,111,97,100,56,95,117,32,108,111,97,100,49,54,95,115,32,108,111,97,100,49,54,95,117,32,108,111,97,100,51,50,95,115,32,108,111,97,100,51,50,95,117])))]),
 o0 10 (.build [(.int .i64 0),(.str []),(.str [])] [(0,1,(.c (.int .i64 54))),(1,1,(.c (.str []))),(2,1,(.c (.str [105,51,50,46,115,116,111,114,101,32,105,54,52,46,115,116,111,114,101])))]),
 o0 11 (.build [(.int .i64 0),(.str []),(.str [])] [(0,1,(.c (.int .i64 58))),(1,1,(.c (.str [105,51,50,46]))),(2,1,(.c (.str [115,116,111,114,101,56,32,115,116,111,114,101,49,54])))]),
 o0 12 (.build [(.int .i64 0),(.str []),(.str [])] [(0,1,(.c (.int .i64 60))),(1,1,(.c (.str [105,54,52,46]))),(2,1,(.c (.str [115,116,111,114,101,56,32,115,116,111,114,101,49,54,32,115,116,111,114,101,51,50])))]),
 o0 13 (.build [(.int .i64 0),(.str []),(.str [])] [(0,1,(.c (.int .i64 63))),(1,1,(.c (.str [109,101,109,111,114,121,46]))),(2,1,(.c (.str [115,105,122,101,32,103,114,111,119])))]),
 o0 14 (.build [(.int .i64 0),(.str []),(.str [])] [(0,1,(.c (.int .i64 65))),(1,1,(.c (.str []))),(2,1,(.c (.str [105,51,50,46,99,111,110,115,116,32,105,54,52,46,99,111,110,115,116])))]),
 o0 15 (.build [(.int .i64 0),(.str []),(.str [])] [(0,1,(.c (.int .i64 69))),(1,1,(.c (.str [105,51,50,46]))),(2,1,(.c (.str [101,113,122,32,101,113,32,110,101,32,108,116,95,115,32,108,116,95,117,32,103,116,95,115,32,103,116,95,117,32,108,101,95,115,32,108,101,95,117,32,103,101,95,115,32,103,101,95,117])))]),
 o0 16 (.build [(.int .i64 0),(.str []),(.str [])] [(0,1,(.c (.int .i64 80))),(1,1,(.c (.str [105,54,52,46]))),(2,1,(.c (.str [101,113,122,32,101,113,32,110,101,32,108,116,95,115,32,108,116,95,117,32,103,116,95,115,32,103,116,95,117,32,108,101,95,115,32,108,101,95,117,32,103,101,95,115,32,103,101,95,117])))]),
 o0 17 (.build [(.int .i64 0),(.str []),(.str [])] [(0,1,(.c (.int .i64 103))),(1,1,(.c (.str [105,51,50,46]))),(2,1,(.c (.str [99,108,122,32,99,116,122,32,112,111,112,99,110,116,32,97,100,100,32,115,117,98,32,109,117,108,32,100,105,118,95,115,32,100,105,118,95,117,32,114,101,109,95,115,32,114,101,109,95,117,32,97,110,100,32,111,114,32,120,111,114,32,115,104,108,32,115,104,114,95,115,32,115,104,114,95,117,32,114,111,116,108,32,114,111,116,114])))]),
 o0 18 (.build [(.int .i64 0),(.str []),(.str [])] [(0,1,(.c (.int .i64 121))),(1,1,(.c (.str [105,54,52,46]))),(2,1,(.c (.str [99,108,122,32,99,116,122,32,112,111,112,99,110,116,32,97,100,100,32,115,117,98,32,109,117,108,32,100,105,118,95,115,32,100,105,118,95,117,32,114,101,109,95,115,32,114,101,109,95,117,32,97,110,100,32,111,114,32,120,111,114,32,115,104,108,32,115,104,114,95,115,32,115,104,114,95,117,32,114,111,116,108,32,114,111,116,114])))]),
 o0 19 (.build [(.int .i64 0),(.str []),(.str [])] [(0,1,(.c (.int .i64 167))),(1,1,(.c (.str []))),(2,1,(.c (.str [105,51,50,46,119,114,97,112,95,105,54,52])))]),
 o0 20 (.build [(.int .i64 0),(.str []),(.str [])] [(0,1,(.c (.int .i64 172))),(1,1,(.c (.str [105,54,52,46]))),(2,1,(.c (.str [101,120,116,101,110,100,95,105,51,50,95,115,32,101,120,116,101,110,100,95,105,51,50,95,117])))]),
 o0 21 (.build [(.int .i64 0),(.str []),(.str [])] [(0,1,(.c (.int .i64 192))),(1,1,(.c (.str [105,51,50,46]))),(2,1,(.c (.str [101,120,116,101,110,100,56,95,115,32,101,120,116,101,110,100,49,54,95,115])))]),
 o0 22 (.build [(.int .i64 0),(.str []),(.str [])] [(0,1,(.c (.int .i64 194))),(1,1,(.c (.str [105,54,52,46]))),(2,1,(.c (.str [101,120,116,101,110,100,56,95,115,32,101,120,116,101,110,100,49,54,95,115,32,101,120,116,101,110,100,51,50,95,115])))]),
 o0 23 (.build [(.int .i64 0),(.str []),(.str [])] [(0,1,(.c (.int .i64 208))),(1,1,(.c (.str [114,101,102,46]))),(2,1,(.c (.str [110,117,108,108,32,105,115,95,110,117,108,108,32,102,117,110,99])))]),
 o0 24 (.build [(.int .i64 0),(.str []),(.str [])] [(0,1,(.c (.int .i64 64520))),(1,1,(.c (.str []))),(2,1,(.c (.str [109,101,109,111,114,121,46,105,110,105,116,32,100,97,116,97,46,100,114,111,112,32,109,101,109,111,114,121,46,99,111,112,121,32,109,101,109,111,114,121,46,102,105,108,108,32,116,97,98,108,101,46,105,110,105,116,32,101,108,101,109,46,100,114,111,112,32,116,97,98,108,101,46,99,111,112,121,32,116,97,98,108,101,46,103,114,111,119,32,116,97,98,108,101,46,115,105,122,101,32,116,97,98,108,101,46,102,105,108,108])))]),
 o0 25 (.bsl 251 3 [[(.int .i64 0),(.str []),(.str [])],[(.int .i64 0),(.str []),(.str [])],[(.int .i64 0),(.str []),(.str [])],[(.int .i64 0),(.str []),(.str [])],[(.int .i64 0),(.str []),(.str [])],[(.int .i64 0),(.str []),(.str [])],[(.int .i64 0),(.str []),(.str [])],[(.int .i64 0),(.str []),(.str [])],[(.int .i64 0),(.str []),(.str [])],[(.int .i64 0),(.str []),(.str [])],[(.int .i64 0),(.str []),(.str [])],[(.int .i64 0),(.str []),(.str [])],[(.int .i64 0),(.str []),(.str [])],[(.int .i64 0),(.str []),(.str [])],[(.int .i64 0),(.str []),(.str [])],[(.int .i64 0),(.str []),(.str [])],[(.int .i64 0),(.str []),(.str [])],[(.int .i64 0),(.str []),(.str [])],[(.int .i64 0),(.str []),(.str [])],[(.int .i64 0),(.str []),(.str [])],[(.int .i64 0),(.str []),(.str [])],[(.int .i64 0),(.str []),(.str [])],[(.int .i64 0),(.str []),(.str [])],[(.int .i64 0),(.str []),(.str [])]] [(0,(.s 1)),(1,(.s 2)),(2,(.s 3)),(3,(.s 4)),(4,(.s 5)),(5,(.s 6)),(6,(.s 7)),(7,(.s 8)),(8,(.s 9)),(9,(.s 10)),(10,(.s 11)),(11,(.s 12)),(12,(.s 13)),(13,(.s 14)),(14,(.s 15)),(15,(.s 16)),(16,(.s 17)),(17,(.s 18)),(18,(.s 19)),(19,(.s 20)),(20,(.s 21)),(21,(.s 22)),(22,(.s 23)),(23,(.s 24))]),
 mv 0 25] [1,2,3,4,5,6,7,8,9,10,11,12,13,14,15,16,17,18,19,20,21,22,23,24,25])
 .ret))⟩

theorem cX100:compF Tryz.prog 204 = some FX100:=by kernel_rfl
abbrev nX100:FuncId:=204

abbrev n_strings_Fields:FuncId:=205

theorem mixed:Tryz.prog.follows .mixedOrders = true:=by kernel_rfl
end Go.Proofs.YtoaagdbbbojpmaaGreatDoor
