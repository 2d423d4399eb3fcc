/- Texts of a claim. -/
import Derived.Test.YtoikbadfbneahaaGreatDoorQb
import Derived.Test.YtoikbadfbneahaaGreatDoorProg
import Derived.KernelRfl
set_option linter.unusedVariables false
set_option linter.unusedSimpArgs false
set_option linter.unusedSectionVars false
namespace Go.Proofs.YtoikbadfbneahaaGreatDoor
open Go.Mw

def FX11:IFun :=
⟨80,2,[.tmp 4],
 (.seq (.reg [o0 2 (.box 44 12 (.s 0)),
 o0 3 (.box 25 3 (.s 1)),
 o0 4 (.mov (.c (.bool false)))] [])
 (.seq (.seq (.reg [o0 15 (.load (some 3) (.s 3)),
 o0 16 (.call 6 [(.s 15)]),
 o0 17 (.un .not (.s 16)),
 mv 18 17,
 oF 19 18 (.load (some 12) (.s 2)),
 oF 20 18 (.call 12 [(.s 19)]),
 oF 21 18 (.un .not (.s 20)),
 o0 22 (.pick (.s 18) (.c (.bool true)) (.s 21)),
 mv 23 22,
 oF 24 23 (.fadr 11 (.s 2)),
 oF 25 23 (.load none (.s 24)),
 oF 26 23 (.len (.s 25)),
 oF 27 23 (.bin .gtr (.s 26) (.c (.int .i64 30))),
 o0 28 (.pick (.s 23) (.c (.bool true)) (.s 27))] [15,16,17,18,19,20,21,22,23,24,25,26,27])
 (.cond (.s 28)
 (.seq (.reg [o0 29 (.call 7 []),
 mv 4 29] [29])
 .ret)
 .skip))
 (.seq (.reg [o0 31 (.load (some 12) (.s 2)),
 o0 32 (.call 17 [(.s 31)]),
 mv 30 32,
 o0 33 (.ext (.s 30) 0),
 o0 34 (.ext (.s 30) 1),
 o0 35 (.ext (.s 30) 2),
 o0 5 (.new 25 [(.str []),.nl,.nl]),
 ⟨none,.store 3 (.s 5) (.s 33),none⟩,
 mv 6 34,
 mv 7 35] [31,32,30,33,34,35])
 (.seq (.reg [o0 37 (.load (some 12) (.s 2)),
 o0 38 (.call 18 [(.s 37)]),
 mv 36 38,
 o0 39 (.ext (.s 36) 0),
 o0 40 (.ext (.s 36) 1),
 o0 41 (.ext (.s 36) 2),
 o0 8 (.new 25 [(.str []),.nl,.nl]),
 ⟨none,.store 3 (.s 8) (.s 39),none⟩,
 mv 9 40,
 mv 10 41] [37,38,36,39,40,41])
 (.seq (.reg [o0 43 (.load (some 12) (.s 2)),
 o0 44 (.load (some 3) (.s 3)),
 o0 45 (.call 14 [(.s 43),(.s 44)]),
 mv 42 45,
 o0 46 (.ext (.s 42) 0),
 o0 47 (.ext (.s 42) 1),
 o0 11 (.new 44 [.nl,.nl,.nl,.nl,.nl,.nl,.nl,(.bool false),(.int .i64 0),.nl,.nl,.nl]),
 ⟨none,.store 12 (.s 11) (.s 46),none⟩,
 mv 12 47] [43,44,45,42,46,47])
 (.seq (.reg [o0 49 (.load (some 12) (.s 2)),
 o0 50 (.load (some 3) (.s 3)),
 o0 51 (.call 19 [(.s 49),(.s 50)]),
 mv 48 51,
 o0 52 (.ext (.s 48) 0),
 o0 53 (.ext (.s 48) 1),
 o0 13 (.new 44 [.nl,.nl,.nl,.nl,.nl,.nl,.nl,(.bool false),(.int .i64 0),.nl,.nl,.nl]),
 ⟨none,.store 12 (.s 13) (.s 52),none⟩,
 mv 14 53] [49,50,51,48,52,53])
 (.seq (.reg [o0 54 (.load (some 3) (.s 5)),
 o0 55 (.load (some 3) (.s 8)),
 o0 56 (.call 20 [(.s 54),(.s 55)]),
 mv 57 56,
 mt 58 6 57,
 mt 59 9 57,
 ot 60 57 (.bbin .eql (.s 58) (.s 59)),
 o0 61 (.pick (.s 57) (.s 60) (.c (.bool false))),
 mv 62 61,
 mt 63 7 62,
 mt 64 10 62,
 ot 65 62 (.bin .eql (.s 63) (.s 64)),
 o0 66 (.pick (.s 62) (.s 65) (.c (.bool false))),
 mv 67 66,
 ot 68 67 (.load (some 12) (.s 11)),
 ot 69 67 (.load (some 12) (.s 13)),
 ot 70 67 (.call 15 [(.s 68),(.s 69)]),
 o0 71 (.pick (.s 67) (.s 70) (.c (.bool false))),
 mv 72 71,
 mt 73 12 72,
 mt 74 14 72,
 ot 75 72 (.bin .eql (.s 73) (.s 74)),
 o0 76 (.pick (.s 72) (.s 75) (.c (.bool false))),
 mv 77 76,
 ot 78 77 (.call 7 []),
 o0 79 (.pick (.s 77) (.s 78) (.c (.bool false))),
 mv 4 79] [54,55,56,57,58,59,60,61,62,63,64,65,66,67,68,69,70,71,72,73,74,75,76,77,78,79])
 .ret)))))))⟩

theorem cX11:compF Tryz.prog 5 = some FX11:=by kernel_rfl
abbrev nX11:FuncId:=5

def FX131:IFun :=
⟨44,1,[.tmp 2],
 (.seq (.reg [o0 1 (.box 25 3 (.s 0)),
 o0 2 (.mov (.c (.bool false)))] [])
 (.seq (.reg [o0 5 (.fadr 1 (.s 1)),
 o0 6 (.load none (.s 5)),
 o0 7 (.len (.s 6)),
 o0 8 (.fadr 0 (.s 1)),
 o0 9 (.load none (.s 8)),
 o0 10 (.slen (.s 9)),
 o0 11 (.bin .add (.s 7) (.s 10)),
 mv 3 11] [5,6,7,8,9,10,11])
 (.seq (.seq (.reg [o0 4 (.mov (.c (.int .i64 0)))] [])
 (.block 0 (.loop (.seq (.seq (.reg [mv 12 4,
 o0 13 (.fadr 2 (.s 1)),
 o0 14 (.load none (.s 13)),
 o0 15 (.len (.s 14)),
 o0 16 (.bin .lss (.s 12) (.s 15)),
 mv 17 16,
 mt 18 4 17,
 ot 19 17 (.bin .lss (.s 18) (.c (.int .i64 100))),
 o0 20 (.pick (.s 17) (.s 19) (.c (.bool false))),
 mv 21 20,
 mt 22 3 21,
 ot 23 21 (.bin .leq (.s 22) (.c (.int .i64 400))),
 o0 24 (.pick (.s 21) (.s 23) (.c (.bool false)))] [12,13,14,15,16,17,18,19,20,21,22,23])
 (.cond (.s 24)
 .skip
 (.exit 0)))
 (.seq (.block 1 (.reg [mv 27 3,
 o0 28 (.fadr 2 (.s 1)),
 o0 29 (.load none (.s 28)),
 mv 30 4,
 o0 31 (.iadr 2 (.s 29) (.s 30)),
 o0 32 (.fadr 1 (.s 31)),
 o0 33 (.load none (.s 32)),
 o0 34 (.len (.s 33)),
 o0 35 (.bin .add (.s 27) (.s 34)),
 mv 3 35] [27,28,29,30,31,32,33,34,35]))
 (.reg [mv 25 4,
 o0 26 (.bin .add (.s 25) (.c (.int .i64 1))),
 mv 4 26] [25,26]))))))
 (.seq (.reg [o0 36 (.fadr 2 (.s 1)),
 o0 37 (.load none (.s 36)),
 o0 38 (.len (.s 37)),
 o0 39 (.bin .leq (.s 38) (.c (.int .i64 90))),
 mv 40 39,
 mt 41 3 40,
 ot 42 40 (.bin .leq (.s 41) (.c (.int .i64 400))),
 o0 43 (.pick (.s 40) (.s 42) (.c (.bool false))),
 mv 2 43] [36,37,38,39,40,41,42,43])
 .ret))))⟩

theorem cX131:compF Tryz.prog 6 = some FX131:=by kernel_rfl
abbrev nX131:FuncId:=6

def FX82:IFun :=
⟨59,0,[.tmp 0],
 (.seq (.reg [o0 0 (.mov (.c (.bool false)))] [])
 (.seq (.reg [o0 8 (.build [(.str []),.nl,.nl] [(0,1,(.c (.str [109])))]),
 o0 1 (.new 25 [(.str []),.nl,.nl]),
 ⟨none,.store 3 (.s 1) (.s 8),none⟩] [8])
 (.seq (.reg [o0 10 (.load (some 3) (.s 1)),
 o0 11 (.call 8 [(.s 10)]),
 mv 9 11,
 o0 12 (.ext (.s 9) 0),
 o0 13 (.ext (.s 9) 1),
 mv 2 12,
 mv 3 13] [10,11,9,12,13])
 (.seq (.reg [o0 15 (.bsl 5 1 [[(.int .u8 0)],[(.int .u8 0)],[(.int .u8 0)],[(.int .u8 0)],[(.int .u8 0)],[(.int .u8 0)]] [(0,(.c (.int .u8 1))),(1,(.c (.int .u8 4))),(2,(.c (.int .u8 1))),(3,(.c (.int .u8 3))),(4,(.c (.int .u8 1))),(5,(.c (.int .u8 102)))]),
 o0 16 (.call 21 [(.s 15)]),
 mv 14 16,
 o0 17 (.ext (.s 14) 0),
 o0 18 (.ext (.s 14) 1),
 o0 4 (.new 25 [(.str []),.nl,.nl]),
 ⟨none,.store 3 (.s 4) (.s 17),none⟩,
 mv 5 18] [15,16,14,17,18])
 (.seq (.reg [o0 20 (.build [.nl,.nl,.nl,.nl,.nl,.nl,.nl,(.bool false),(.int .i64 0),.nl,.nl,.nl] []),
 o0 21 (.load (some 3) (.s 1)),
 o0 22 (.call 14 [(.s 20),(.s 21)]),
 mv 19 22,
 o0 23 (.ext (.s 19) 0),
 o0 24 (.ext (.s 19) 1),
 o0 6 (.new 44 [.nl,.nl,.nl,.nl,.nl,.nl,.nl,(.bool false),(.int .i64 0),.nl,.nl,.nl]),
 ⟨none,.store 12 (.s 6) (.s 23),none⟩,
 mv 7 24] [20,21,22,19,23,24])
 (.seq (.reg [mv 25 2,
 o0 26 (.cvs (.s 25)),
 o0 27 (.bin .eql (.s 26) (.c (.str [0,2,1,109]))),
 mv 28 27,
 mt 29 3 28,
 ot 30 28 (.bin .eql (.s 29) (.c (.int .i64 0))),
 o0 31 (.pick (.s 28) (.s 30) (.c (.bool false))),
 mv 32 31,
 mt 33 5 32,
 ot 34 32 (.bin .eql (.s 33) (.c (.int .i64 0))),
 o0 35 (.pick (.s 32) (.s 34) (.c (.bool false))),
 mv 36 35,
 ot 37 36 (.load (some 3) (.s 4)),
 ot 38 36 (.call 22 [(.s 37),(.c (.int .i64 3))]),
 ot 39 36 (.bin .eql (.s 38) (.c (.str [102]))),
 o0 40 (.pick (.s 36) (.s 39) (.c (.bool false))),
 mv 41 40,
 mt 42 7 41,
 ot 43 41 (.bin .eql (.s 42) (.c (.int .i64 0))),
 o0 44 (.pick (.s 41) (.s 43) (.c (.bool false))),
 mv 45 44,
 ot 46 45 (.fadr 11 (.s 6)),
 ot 47 45 (.load none (.s 46)),
 ot 48 45 (.len (.s 47)),
 ot 49 45 (.bin .eql (.s 48) (.c (.int .i64 1))),
 o0 50 (.pick (.s 45) (.s 49) (.c (.bool false))),
 mv 51 50,
 ot 52 51 (.fadr 11 (.s 6)),
 ot 53 51 (.load none (.s 52)),
 ot 54 51 (.iadr 3 (.s 53) (.c (.int .i64 0))),
 ot 55 51 (.fadr 1 (.s 54)),
 ot 56 51 (.load none (.s 55)),
 ot 57 51 (.bin .eql (.s 56) (.c (.str [110,97,109,101]))),
 o0 58 (.pick (.s 51) (.s 57) (.c (.bool false))),
 mv 0 58] [25,26,27,28,29,30,31,32,33,34,35,36,37,38,39,40,41,42,43,44,45,46,47,48,49,50,51,52,53,54,55,56,57,58])
 .ret))))))⟩

theorem cX82:compF Tryz.prog 7 = some FX82:=by kernel_rfl
abbrev nX82:FuncId:=7

def FX72:IFun :=
⟨38,1,[.tmp 2,.tmp 3],
 (.seq (.reg [o0 1 (.box 25 3 (.s 0)),
 o0 2 (.mov (.c .nl)),
 o0 3 (.mov (.c (.int .i64 0)))] [])
 (.seq (.seq (.reg [o0 7 (.load (some 3) (.s 1)),
 o0 8 (.call 10 [(.s 7)]),
 mv 4 8] [7,8])
 (.seq (.reg [mv 9 4,
 o0 10 (.bin .neq (.s 9) (.c (.int .i64 0)))] [9])
 (.cond (.s 10)
 (.seq (.reg [mv 11 4,
 o0 2 (.mov (.c .nl)),
 mv 3 11] [11])
 .ret)
 .skip)))
 (.seq (.reg [o0 12 (.call 23 []),
 o0 5 (.new 61 [.np]),
 ⟨none,.store 1 (.s 5) (.s 12),none⟩] [12])
 (.seq (.reg [o0 13 (.mkf 24 [(.s 5)]),
 mv 6 13] [13])
 (.seq (.seq (.reg [o0 14 (.fadr 0 (.s 1)),
 o0 15 (.load none (.s 14)),
 o0 16 (.bin .neq (.s 15) (.c (.str [])))] [14,15])
 (.cond (.s 16)
 (.reg [mv 17 6,
 o0 18 (.mkf 27 [(.s 1)]),
 o0 19 (.callv (.s 17) [(.c (.int .u8 0)),(.s 18)])] [17,18,19])
 .skip))
 (.seq (.seq (.reg [o0 20 (.fadr 1 (.s 1)),
 o0 21 (.load none (.s 20)),
 o0 22 (.len (.s 21)),
 o0 23 (.bin .gtr (.s 22) (.c (.int .i64 0)))] [20,21,22])
 (.cond (.s 23)
 (.reg [mv 24 6,
 o0 25 (.mkf 29 [(.s 1)]),
 o0 26 (.callv (.s 24) [(.c (.int .u8 1)),(.s 25)])] [24,25,26])
 .skip))
 (.seq (.seq (.reg [o0 27 (.fadr 2 (.s 1)),
 o0 28 (.load none (.s 27)),
 o0 29 (.len (.s 28)),
 o0 30 (.bin .gtr (.s 29) (.c (.int .i64 0)))] [27,28,29])
 (.cond (.s 30)
 (.reg [mv 31 6,
 o0 32 (.mkf 31 [(.s 1)]),
 o0 33 (.callv (.s 31) [(.c (.int .u8 2)),(.s 32)])] [31,32,33])
 .skip))
 (.seq (.reg [o0 34 (.load none (.s 5)),
 o0 35 (.call 33 [(.s 34)]),
 o0 36 (.ext (.s 35) 0),
 o0 37 (.ext (.s 35) 1),
 mv 2 36,
 mv 3 37] [34,35,36,37])
 .ret))))))))⟩

theorem cX72:compF Tryz.prog 8 = some FX72:=by kernel_rfl
abbrev nX72:FuncId:=8

def FX68:IFun :=
⟨74,1,[.tmp 2,.tmp 3],
 (.seq (.reg [o0 1 (.box 25 3 (.s 0)),
 o0 2 (.mov (.c .nl)),
 o0 3 (.mov (.c (.int .i64 0)))] [])
 (.seq (.seq (.reg [o0 8 (.load (some 3) (.s 1)),
 o0 9 (.call 11 [(.s 8)]),
 mv 4 9] [8,9])
 (.seq (.reg [mv 10 4,
 o0 11 (.bin .neq (.s 10) (.c (.int .i64 0)))] [10])
 (.cond (.s 11)
 (.seq (.reg [mv 12 4,
 o0 2 (.mov (.c .nl)),
 mv 3 12] [12])
 .ret)
 .skip)))
 (.seq (.reg [o0 13 (.build [.nl,(.int .i64 0)] []),
 o0 5 (.new 71 [.nl,(.int .i64 0)]),
 ⟨none,.store 2 (.s 5) (.s 13),none⟩] [13])
 (.seq (.seq (.reg [o0 14 (.fadr 0 (.s 1)),
 o0 15 (.load none (.s 14)),
 o0 16 (.bin .neq (.s 15) (.c (.str [])))] [14,15])
 (.cond (.s 16)
 (.seq (.draw [⟨o0 17 (.load (some 2) (.s 5)),[]⟩,
 ⟨o0 18 (.call 35 [(.s 17),(.c (.int .u8 0))]),[0]⟩,
 ⟨o0 19 (.build [.nl,(.int .i64 0)] []),[]⟩,
 ⟨o0 20 (.fadr 0 (.s 1)),[]⟩,
 ⟨o0 21 (.load none (.s 20)),[3]⟩] [] [])
 (.seq (.reg [o0 22 (.call 36 [(.s 19),(.s 21)])] [])
 (.seq (.reg [o0 23 (.call 34 [(.s 18),(.s 22)])] [])
 (.reg [⟨none,.store 2 (.s 5) (.s 23),none⟩] [17,18,19,20,21,22,23]))))
 .skip))
 (.seq (.seq (.reg [o0 24 (.fadr 1 (.s 1)),
 o0 25 (.load none (.s 24)),
 o0 26 (.len (.s 25)),
 o0 27 (.bin .gtr (.s 26) (.c (.int .i64 0)))] [24,25,26])
 (.cond (.s 27)
 (.seq (.draw [⟨o0 28 (.load (some 2) (.s 5)),[]⟩,
 ⟨o0 29 (.call 35 [(.s 28),(.c (.int .u8 1))]),[0]⟩,
 ⟨o0 30 (.build [.nl,(.int .i64 0)] []),[]⟩,
 ⟨o0 31 (.fadr 1 (.s 1)),[]⟩,
 ⟨o0 32 (.load none (.s 31)),[3]⟩] [] [])
 (.seq (.reg [o0 33 (.call 37 [(.s 30),(.s 32)])] [])
 (.seq (.reg [o0 34 (.call 34 [(.s 29),(.s 33)])] [])
 (.reg [⟨none,.store 2 (.s 5) (.s 34),none⟩] [28,29,30,31,32,33,34]))))
 .skip))
 (.seq (.seq (.reg [o0 35 (.fadr 2 (.s 1)),
 o0 36 (.load none (.s 35)),
 o0 37 (.len (.s 36)),
 o0 38 (.bin .gtr (.s 37) (.c (.int .i64 0)))] [35,36,37])
 (.cond (.s 38)
 (.seq (.reg [o0 39 (.build [.nl,(.int .i64 0)] []),
 o0 40 (.fadr 2 (.s 1)),
 o0 41 (.load none (.s 40)),
 o0 42 (.len (.s 41)),
 o0 43 (.call 38 [(.s 39),(.s 42)]),
 o0 6 (.new 71 [.nl,(.int .i64 0)]),
 ⟨none,.store 2 (.s 6) (.s 43),none⟩] [39,40,41,42,43])
 (.seq (.seq (.reg [o0 7 (.mov (.c (.int .i64 0)))] [])
 (.block 0 (.loop (.seq (.seq (.reg [mv 44 7,
 o0 45 (.fadr 2 (.s 1)),
 o0 46 (.load none (.s 45)),
 o0 47 (.len (.s 46)),
 o0 48 (.bin .lss (.s 44) (.s 47))] [44,45,46,47])
 (.cond (.s 48)
 .skip
 (.exit 0)))
 (.seq (.block 1 (.seq (.draw [⟨o0 51 (.load (some 2) (.s 6)),[]⟩,
 ⟨o0 52 (.fadr 2 (.s 1)),[]⟩,
 ⟨o0 53 (.load none (.s 52)),[1]⟩,
 ⟨mv 54 7,[]⟩,
 ⟨o0 55 (.iadr 2 (.s 53) (.s 54)),[2,1,3]⟩,
 ⟨o0 56 (.fadr 0 (.s 55)),[4,2,1,3]⟩,
 ⟨o0 57 (.load none (.s 56)),[5,4,2,1,3]⟩,
 ⟨o0 58 (.call 38 [(.s 51),(.s 57)]),[0,6,5,4,2,1,3]⟩,
 ⟨o0 59 (.fadr 2 (.s 1)),[]⟩,
 ⟨o0 60 (.load none (.s 59)),[8]⟩,
 ⟨mv 61 7,[]⟩,
 ⟨o0 62 (.iadr 2 (.s 60) (.s 61)),[9,8,10]⟩,
 ⟨o0 63 (.fadr 1 (.s 62)),[11,9,8,10]⟩,
 ⟨o0 64 (.load none (.s 63)),[12,11,9,8,10]⟩] [] [])
 (.seq (.reg [o0 65 (.call 37 [(.s 58),(.s 64)])] [])
 (.reg [⟨none,.store 2 (.s 6) (.s 65),none⟩] [51,52,53,54,55,56,57,58,59,60,61,62,63,64,65]))))
 (.reg [mv 49 7,
 o0 50 (.bin .add (.s 49) (.c (.int .i64 1))),
 mv 7 50] [49,50]))))))
 (.seq (.draw [⟨o0 66 (.load (some 2) (.s 5)),[]⟩,
 ⟨o0 67 (.call 35 [(.s 66),(.c (.int .u8 2))]),[0]⟩,
 ⟨o0 68 (.load (some 2) (.s 6)),[]⟩] [] [])
 (.seq (.reg [o0 69 (.call 34 [(.s 67),(.s 68)])] [])
 (.reg [⟨none,.store 2 (.s 5) (.s 69),none⟩] [66,67,68,69])))))
 .skip))
 (.seq (.reg [o0 70 (.load (some 2) (.s 5)),
 o0 71 (.call 39 [(.s 70)]),
 o0 72 (.ext (.s 71) 0),
 o0 73 (.ext (.s 71) 1),
 mv 2 72,
 mv 3 73] [70,71,72,73])
 .ret)))))))⟩

theorem cX68:compF Tryz.prog 9 = some FX68:=by kernel_rfl
abbrev nX68:FuncId:=9

def FX90:IFun :=
⟨91,1,[.tmp 2],
 (.seq (.reg [o0 1 (.box 25 3 (.s 0)),
 o0 2 (.mov (.c (.int .i64 0)))] [])
 (.seq (.seq (.reg [o0 16 (.fadr 0 (.s 1)),
 o0 17 (.load none (.s 16)),
 o0 18 (.call 40 [(.s 17)]),
 mv 3 18] [16,17,18])
 (.seq (.reg [mv 19 3,
 o0 20 (.bin .neq (.s 19) (.c (.int .i64 0)))] [19])
 (.cond (.s 20)
 (.seq (.reg [mv 21 3,
 mv 2 21] [21])
 .ret)
 .skip)))
 (.seq (.seq (.reg [o0 22 (.fadr 1 (.s 1)),
 o0 23 (.load none (.s 22)),
 o0 24 (.call 41 [(.s 23),(.c (.int .i64 64))]),
 mv 4 24] [22,23,24])
 (.seq (.reg [mv 25 4,
 o0 26 (.bin .neq (.s 25) (.c (.int .i64 0)))] [25])
 (.cond (.s 26)
 (.seq (.reg [mv 27 4,
 mv 2 27] [27])
 .ret)
 .skip)))
 (.seq (.seq (.reg [o0 28 (.fadr 2 (.s 1)),
 o0 29 (.load none (.s 28)),
 o0 30 (.len (.s 29)),
 o0 31 (.bin .gtr (.s 30) (.c (.int .i64 64)))] [28,29,30])
 (.cond (.s 31)
 (.seq (.reg [o0 2 (.mov (.c (.int .i64 6)))] [])
 .ret)
 .skip))
 (.seq (.seq (.reg [o0 32 (.fadr 2 (.s 1)),
 o0 33 (.load none (.s 32)),
 o0 34 (.len (.s 33)),
 o0 35 (.mov (.c (.int .i64 0)))] [32])
 (.block 0 (.loop (.seq (.reg [o0 36 (.bin .lss (.s 35) (.s 34))] [])
 (.seq (.cond (.s 36)
 .skip
 (.exit 0))
 (.seq (.block 1 (.seq (.reg [o0 37 (.iadr 2 (.s 33) (.s 35)),
 o0 38 (.load (some 2) (.s 37)),
 o0 6 (.new 55 [(.int .i64 0),.nl]),
 ⟨none,.store 2 (.s 6) (.s 38),none⟩] [37,38])
 (.seq (.reg [o0 39 (.fadr 1 (.s 6)),
 o0 40 (.load none (.s 39)),
 o0 41 (.call 41 [(.s 40),(.c (.int .i64 72))]),
 mv 7 41] [39,40,41])
 (.seq (.reg [mv 42 7,
 o0 43 (.bin .neq (.s 42) (.c (.int .i64 0)))] [42])
 (.cond (.s 43)
 (.seq (.reg [mv 44 7,
 mv 2 44] [44])
 .ret)
 .skip)))))
 (.reg [o0 45 (.bin .add (.s 35) (.c (.int .i64 1))),
 mv 35 45] [45])))))))
 (.seq (.reg [o0 46 (.load (some 3) (.s 1)),
 o0 47 (.call 42 [(.s 46)]),
 mv 8 47] [46,47])
 (.seq (.seq (.reg [mv 48 8,
 o0 49 (.len (.s 48)),
 o0 50 (.mov (.c (.int .i64 0)))] [])
 (.block 2 (.loop (.seq (.reg [o0 51 (.bin .lss (.s 50) (.s 49))] [])
 (.seq (.cond (.s 51)
 .skip
 (.exit 2))
 (.seq (.block 3 (.seq (.reg [o0 52 (.iadr 1 (.s 48) (.s 50)),
 o0 53 (.load none (.s 52)),
 mv 10 53] [52,53])
 (.seq (.reg [mv 54 10,
 o0 55 (.len (.s 54)),
 o0 56 (.mov (.c (.int .i64 0)))] [])
 (.block 4 (.loop (.seq (.reg [o0 57 (.bin .lss (.s 56) (.s 55))] [])
 (.seq (.cond (.s 57)
 .skip
 (.exit 4))
 (.seq (.block 5 (.seq (.reg [o0 58 (.iadr 1 (.s 54) (.s 56)),
 o0 59 (.load none (.s 58)),
 mv 12 59] [58,59])
 (.seq (.reg [mv 60 12,
 o0 61 (.bin .lss (.s 60) (.c (.int .i64 0))),
 mv 62 61,
 mf 63 12 62,
 oF 64 62 (.bin .geq (.s 63) (.c (.int .i64 4294967296))),
 o0 65 (.pick (.s 62) (.c (.bool true)) (.s 64))] [60,61,62,63,64])
 (.cond (.s 65)
 (.seq (.reg [o0 2 (.mov (.c (.int .i64 1)))] [])
 .ret)
 .skip))))
 (.reg [o0 66 (.bin .add (.s 56) (.c (.int .i64 1))),
 mv 56 66] [66])))))))))
 (.reg [o0 67 (.bin .add (.s 50) (.c (.int .i64 1))),
 mv 50 67] [67])))))))
 (.seq (.seq (.reg [mv 68 8,
 o0 69 (.len (.s 68)),
 o0 70 (.mov (.c (.int .i64 0)))] [])
 (.block 6 (.loop (.seq (.reg [o0 71 (.bin .lss (.s 70) (.s 69))] [])
 (.seq (.cond (.s 71)
 .skip
 (.exit 6))
 (.seq (.block 7 (.seq (.reg [o0 72 (.iadr 1 (.s 68) (.s 70)),
 o0 73 (.load none (.s 72)),
 mv 14 73] [72,73])
 (.seq (.reg [o0 15 (.mov (.c (.int .i64 1)))] [])
 (.block 8 (.loop (.seq (.seq (.reg [mv 74 15,
 mv 75 14,
 o0 76 (.len (.s 75)),
 o0 77 (.bin .lss (.s 74) (.s 76))] [74,75,76])
 (.cond (.s 77)
 .skip
 (.exit 8)))
 (.seq (.block 9 (.seq (.seq (.draw [⟨mv 80 14,[]⟩,
 ⟨mv 81 15,[]⟩,
 ⟨o0 82 (.iadr 1 (.s 80) (.s 81)),[0,1]⟩,
 ⟨o0 83 (.load none (.s 82)),[2,0,1]⟩,
 ⟨mv 84 14,[]⟩,
 ⟨mv 85 15,[]⟩,
 ⟨o0 86 (.bin .sub (.s 85) (.c (.int .i64 1))),[5]⟩,
 ⟨o0 87 (.iadr 1 (.s 84) (.s 86)),[4,6,5]⟩,
 ⟨o0 88 (.load none (.s 87)),[7,4,6,5]⟩] [] [])
 (.reg [o0 89 (.bin .leq (.s 83) (.s 88))] [80,81,82,83,84,85,86,87,88]))
 (.cond (.s 89)
 (.seq (.reg [o0 2 (.mov (.c (.int .i64 7)))] [])
 .ret)
 .skip)))
 (.reg [mv 78 15,
 o0 79 (.bin .add (.s 78) (.c (.int .i64 1))),
 mv 15 79] [78,79]))))))))
 (.reg [o0 90 (.bin .add (.s 70) (.c (.int .i64 1))),
 mv 70 90] [90])))))))
 (.seq (.reg [o0 2 (.mov (.c (.int .i64 0)))] [])
 .ret)))))))))⟩

theorem cX90:compF Tryz.prog 10 = some FX90:=by kernel_rfl
abbrev nX90:FuncId:=10

def FX84:IFun :=
⟨67,1,[.tmp 2],
 (.seq (.reg [o0 1 (.box 25 3 (.s 0)),
 o0 2 (.mov (.c (.int .i64 0)))] [])
 (.seq (.seq (.reg [o0 7 (.load (some 3) (.s 1)),
 o0 8 (.call 43 [(.s 7)]),
 mv 3 8] [7,8])
 (.seq (.reg [mv 9 3,
 o0 10 (.bin .neq (.s 9) (.c (.int .i64 0)))] [9])
 (.cond (.s 10)
 (.seq (.reg [mv 11 3,
 mv 2 11] [11])
 .ret)
 .skip)))
 (.seq (.reg [o0 12 (.fadr 1 (.s 1)),
 o0 13 (.load none (.s 12)),
 o0 14 (.call 45 [(.s 13)]),
 o0 15 (.call 44 [(.s 14)]),
 mv 16 15,
 ot 17 16 (.fadr 2 (.s 1)),
 ot 18 16 (.load none (.s 17)),
 ot 19 16 (.call 46 [(.s 18)]),
 ot 20 16 (.call 44 [(.s 19)]),
 o0 21 (.pick (.s 16) (.s 20) (.c (.bool false))),
 mv 4 21] [12,13,14,15,16,17,18,19,20,21])
 (.seq (.reg [o0 22 (.fadr 1 (.s 1)),
 o0 23 (.load none (.s 22)),
 o0 24 (.call 45 [(.s 23)]),
 o0 25 (.call 47 [(.s 24)]),
 mv 26 25,
 ot 27 26 (.fadr 2 (.s 1)),
 ot 28 26 (.load none (.s 27)),
 ot 29 26 (.call 46 [(.s 28)]),
 ot 30 26 (.call 47 [(.s 29)]),
 o0 31 (.pick (.s 26) (.s 30) (.c (.bool false))),
 mv 5 31] [22,23,24,25,26,27,28,29,30,31])
 (.seq (.seq (.reg [o0 6 (.mov (.c (.int .i64 0)))] [])
 (.block 0 (.loop (.seq (.seq (.reg [mv 32 6,
 o0 33 (.fadr 2 (.s 1)),
 o0 34 (.load none (.s 33)),
 o0 35 (.len (.s 34)),
 o0 36 (.bin .lss (.s 32) (.s 35))] [32,33,34,35])
 (.cond (.s 36)
 .skip
 (.exit 0)))
 (.seq (.block 1 (.seq (.reg [mv 39 4,
 mv 40 39,
 ot 41 40 (.fadr 2 (.s 1)),
 ot 42 40 (.load none (.s 41)),
 mt 43 6 40,
 ot 44 40 (.iadr 2 (.s 42) (.s 43)),
 ot 45 40 (.fadr 1 (.s 44)),
 ot 46 40 (.load none (.s 45)),
 ot 47 40 (.call 45 [(.s 46)]),
 ot 48 40 (.call 44 [(.s 47)]),
 o0 49 (.pick (.s 40) (.s 48) (.c (.bool false))),
 mv 4 49] [39,40,41,42,43,44,45,46,47,48,49])
 (.reg [mv 50 5,
 mv 51 50,
 ot 52 51 (.fadr 2 (.s 1)),
 ot 53 51 (.load none (.s 52)),
 mt 54 6 51,
 ot 55 51 (.iadr 2 (.s 53) (.s 54)),
 ot 56 51 (.fadr 1 (.s 55)),
 ot 57 51 (.load none (.s 56)),
 ot 58 51 (.call 45 [(.s 57)]),
 ot 59 51 (.call 47 [(.s 58)]),
 o0 60 (.pick (.s 51) (.s 59) (.c (.bool false))),
 mv 5 60] [50,51,52,53,54,55,56,57,58,59,60])))
 (.reg [mv 37 6,
 o0 38 (.bin .add (.s 37) (.c (.int .i64 1))),
 mv 6 38] [37,38]))))))
 (.seq (.block 2 (.seq (.reg [mv 62 4,
 o0 63 (.un .not (.s 62)),
 mv 61 63] [62,63])
 (.cond (.s 61)
 (.seq (.reg [o0 2 (.mov (.c (.int .i64 1)))] [])
 .ret)
 (.seq (.reg [mv 65 5,
 o0 66 (.un .not (.s 65)),
 mv 64 66] [65,66])
 (.cond (.s 64)
 (.seq (.reg [o0 2 (.mov (.c (.int .i64 7)))] [])
 .ret)
 .skip)))))
 (.seq (.reg [o0 2 (.mov (.c (.int .i64 0)))] [])
 .ret)))))))⟩

theorem cX84:compF Tryz.prog 11 = some FX84:=by kernel_rfl
abbrev nX84:FuncId:=11

def FX125:IFun :=
⟨85,1,[.tmp 2],
 (.seq (.reg [o0 1 (.box 44 12 (.s 0)),
 o0 2 (.mov (.c (.bool false)))] [])
 (.seq (.reg [o0 3 (.mov (.c (.int .i64 0)))] [])
 (.seq (.seq (.reg [o0 4 (.mov (.c (.int .i64 0)))] [])
 (.block 0 (.loop (.seq (.seq (.reg [mv 5 4,
 o0 6 (.fadr 9 (.s 1)),
 o0 7 (.load none (.s 6)),
 o0 8 (.len (.s 7)),
 o0 9 (.bin .lss (.s 5) (.s 8)),
 mv 10 9,
 mt 11 4 10,
 ot 12 10 (.bin .lss (.s 11) (.c (.int .i64 100))),
 o0 13 (.pick (.s 10) (.s 12) (.c (.bool false))),
 mv 14 13,
 mt 15 3 14,
 ot 16 14 (.bin .leq (.s 15) (.c (.int .i64 500))),
 o0 17 (.pick (.s 14) (.s 16) (.c (.bool false)))] [5,6,7,8,9,10,11,12,13,14,15,16])
 (.cond (.s 17)
 .skip
 (.exit 0)))
 (.seq (.block 1 (.reg [mv 20 3,
 o0 21 (.fadr 9 (.s 1)),
 o0 22 (.load none (.s 21)),
 mv 23 4,
 o0 24 (.iadr 5 (.s 22) (.s 23)),
 o0 25 (.fadr 4 (.s 24)),
 o0 26 (.load none (.s 25)),
 o0 27 (.len (.s 26)),
 o0 28 (.bin .add (.s 20) (.s 27)),
 mv 3 28] [20,21,22,23,24,25,26,27,28]))
 (.reg [mv 18 4,
 o0 19 (.bin .add (.s 18) (.c (.int .i64 1))),
 mv 4 19] [18,19]))))))
 (.seq (.reg [mv 29 3,
 o0 30 (.bin .leq (.s 29) (.c (.int .i64 500))),
 mv 31 30,
 ot 32 31 (.fadr 0 (.s 1)),
 ot 33 31 (.load none (.s 32)),
 ot 34 31 (.len (.s 33)),
 ot 35 31 (.bin .leq (.s 34) (.c (.int .i64 100))),
 o0 36 (.pick (.s 31) (.s 35) (.c (.bool false))),
 mv 37 36,
 ot 38 37 (.fadr 1 (.s 1)),
 ot 39 37 (.load none (.s 38)),
 ot 40 37 (.len (.s 39)),
 ot 41 37 (.bin .leq (.s 40) (.c (.int .i64 100))),
 o0 42 (.pick (.s 37) (.s 41) (.c (.bool false))),
 mv 43 42,
 ot 44 43 (.fadr 2 (.s 1)),
 ot 45 43 (.load none (.s 44)),
 ot 46 43 (.len (.s 45)),
 ot 47 43 (.bin .leq (.s 46) (.c (.int .i64 100))),
 o0 48 (.pick (.s 43) (.s 47) (.c (.bool false))),
 mv 49 48,
 ot 50 49 (.fadr 3 (.s 1)),
 ot 51 49 (.load none (.s 50)),
 ot 52 49 (.len (.s 51)),
 ot 53 49 (.bin .leq (.s 52) (.c (.int .i64 50))),
 o0 54 (.pick (.s 49) (.s 53) (.c (.bool false))),
 mv 55 54,
 ot 56 55 (.fadr 4 (.s 1)),
 ot 57 55 (.load none (.s 56)),
 ot 58 55 (.len (.s 57)),
 ot 59 55 (.bin .leq (.s 58) (.c (.int .i64 50))),
 o0 60 (.pick (.s 55) (.s 59) (.c (.bool false))),
 mv 61 60,
 ot 62 61 (.fadr 5 (.s 1)),
 ot 63 61 (.load none (.s 62)),
 ot 64 61 (.len (.s 63)),
 ot 65 61 (.bin .leq (.s 64) (.c (.int .i64 100))),
 o0 66 (.pick (.s 61) (.s 65) (.c (.bool false))),
 mv 67 66,
 ot 68 67 (.fadr 6 (.s 1)),
 ot 69 67 (.load none (.s 68)),
 ot 70 67 (.len (.s 69)),
 ot 71 67 (.bin .leq (.s 70) (.c (.int .i64 200))),
 o0 72 (.pick (.s 67) (.s 71) (.c (.bool false))),
 mv 73 72,
 ot 74 73 (.fadr 9 (.s 1)),
 ot 75 73 (.load none (.s 74)),
 ot 76 73 (.len (.s 75)),
 ot 77 73 (.bin .leq (.s 76) (.c (.int .i64 50))),
 o0 78 (.pick (.s 73) (.s 77) (.c (.bool false))),
 mv 79 78,
 ot 80 79 (.fadr 10 (.s 1)),
 ot 81 79 (.load none (.s 80)),
 ot 82 79 (.len (.s 81)),
 ot 83 79 (.bin .leq (.s 82) (.c (.int .i64 50))),
 o0 84 (.pick (.s 79) (.s 83) (.c (.bool false))),
 mv 2 84] [29,30,31,32,33,34,35,36,37,38,39,40,41,42,43,44,45,46,47,48,49,50,51,52,53,54,55,56,57,58,59,60,61,62,63,64,65,66,67,68,69,70,71,72,73,74,75,76,77,78,79,80,81,82,83,84])
 .ret))))⟩

theorem cX125:compF Tryz.prog 12 = some FX125:=by kernel_rfl
abbrev nX125:FuncId:=12

def FX97:IFun :=
⟨60,2,[.cell 4 (some 12),.tmp 5],
 (.seq (.reg [o0 2 (.box 44 12 (.s 0)),
 o0 3 (.box 25 3 (.s 1)),
 o0 4 (.new 44 [.nl,.nl,.nl,.nl,.nl,.nl,.nl,(.bool false),(.int .i64 0),.nl,.nl,.nl]),
 o0 5 (.mov (.c (.int .i64 0)))] [])
 (.seq (.reg [o0 13 (.load (some 3) (.s 3)),
 o0 14 (.call 8 [(.s 13)]),
 mv 12 14,
 o0 15 (.ext (.s 12) 0),
 o0 16 (.ext (.s 12) 1),
 mv 6 15,
 mv 7 16] [13,14,12,15,16])
 (.seq (.seq (.reg [mv 17 7,
 o0 18 (.bin .neq (.s 17) (.c (.int .i64 0)))] [17])
 (.cond (.s 18)
 (.seq (.reg [o0 19 (.build [.nl,.nl,.nl,.nl,.nl,.nl,.nl,(.bool false),(.int .i64 0),.nl,.nl,.nl] []),
 mv 20 7,
 ⟨none,.store 12 (.s 4) (.s 19),none⟩,
 mv 5 20] [19,20])
 .ret)
 .skip))
 (.seq (.reg [o0 21 (.load (some 12) (.s 2)),
 o0 22 (.call 48 [(.s 21)]),
 o0 8 (.new 44 [.nl,.nl,.nl,.nl,.nl,.nl,.nl,(.bool false),(.int .i64 0),.nl,.nl,.nl]),
 ⟨none,.store 12 (.s 8) (.s 22),none⟩] [21,22])
 (.seq (.reg [o0 9 (.mov (.c .nl))] [])
 (.seq (.seq (.reg [o0 23 (.fadr 11 (.s 8)),
 o0 24 (.load none (.s 23)),
 o0 25 (.len (.s 24)),
 o0 26 (.mov (.c (.int .i64 0)))] [23])
 (.block 0 (.loop (.seq (.reg [o0 27 (.bin .lss (.s 26) (.s 25))] [])
 (.seq (.cond (.s 27)
 .skip
 (.exit 0))
 (.seq (.block 1 (.seq (.reg [o0 28 (.iadr 3 (.s 24) (.s 26)),
 o0 29 (.load (some 3) (.s 28)),
 o0 11 (.new 60 [(.int .i64 0),(.str []),.nl]),
 ⟨none,.store 3 (.s 11) (.s 29),none⟩] [28,29])
 (.seq (.reg [o0 30 (.fadr 1 (.s 11)),
 o0 31 (.load none (.s 30)),
 o0 32 (.bin .neq (.s 31) (.c (.str [110,97,109,101])))] [30,31])
 (.cond (.s 32)
 (.reg [mv 33 9,
 o0 34 (.load (some 3) (.s 11)),
 o0 35 (.bsl 60 3 [[(.int .i64 0),(.str []),.nl]] [(0,(.s 34))]),
 o0 36 (.app 60 3 (.s 33) (.s 35)),
 mv 9 36] [33,34,35,36])
 .skip))))
 (.reg [o0 37 (.bin .add (.s 26) (.c (.int .i64 1))),
 mv 26 37] [37])))))))
 (.seq (.seq (.reg [mv 38 6,
 o0 39 (.len (.s 38)),
 o0 40 (.bin .gtr (.s 39) (.c (.int .i64 0)))] [38,39])
 (.cond (.s 40)
 (.seq (.seq (.reg [mv 41 6,
 o0 42 (.len (.s 41)),
 o0 43 (.bin .gtr (.s 42) (.c (.int .i64 4096))),
 mv 44 43,
 mf 45 9 44,
 oF 46 44 (.len (.s 45)),
 oF 47 44 (.bin .geq (.s 46) (.c (.int .i64 8))),
 o0 48 (.pick (.s 44) (.c (.bool true)) (.s 47))] [41,42,43,44,45,46,47])
 (.cond (.s 48)
 (.seq (.reg [o0 49 (.build [.nl,.nl,.nl,.nl,.nl,.nl,.nl,(.bool false),(.int .i64 0),.nl,.nl,.nl] []),
 ⟨none,.store 12 (.s 4) (.s 49),none⟩,
 o0 5 (.mov (.c (.int .i64 6)))] [49])
 .ret)
 .skip))
 (.reg [mv 50 9,
 o0 51 (.load (some 12) (.s 2)),
 o0 52 (.call 49 [(.s 51)]),
 mv 53 6,
 o0 54 (.build [(.int .i64 0),(.str []),.nl] [(0,1,(.s 52)),(1,1,(.c (.str [110,97,109,101]))),(2,1,(.s 53))]),
 o0 55 (.bsl 60 3 [[(.int .i64 0),(.str []),.nl]] [(0,(.s 54))]),
 o0 56 (.app 60 3 (.s 50) (.s 55)),
 mv 9 56] [50,51,52,53,54,55,56]))
 .skip))
 (.seq (.reg [mv 57 9,
 o0 58 (.fadr 11 (.s 8)),
 ⟨none,.store 1 (.s 58) (.s 57),none⟩] [57,58])
 (.seq (.reg [o0 59 (.load (some 12) (.s 8)),
 ⟨none,.store 12 (.s 4) (.s 59),none⟩,
 o0 5 (.mov (.c (.int .i64 0)))] [59])
 .ret)))))))))⟩

theorem cX97:compF Tryz.prog 14 = some FX97:=by kernel_rfl
abbrev nX97:FuncId:=14

def FX107:IFun :=
⟨80,2,[.tmp 4],
 (.seq (.reg [o0 2 (.box 44 12 (.s 0)),
 o0 3 (.box 44 12 (.s 1)),
 o0 4 (.mov (.c (.bool false)))] [])
 (.seq (.seq (.reg [o0 5 (.fadr 7 (.s 2)),
 o0 6 (.load none (.s 5)),
 o0 7 (.fadr 7 (.s 3)),
 o0 8 (.load none (.s 7)),
 o0 9 (.bbin .neq (.s 6) (.s 8)),
 mv 10 9,
 oF 11 10 (.fadr 7 (.s 2)),
 oF 12 10 (.load none (.s 11)),
 mf 13 12 10,
 ot 14 13 (.fadr 8 (.s 2)),
 ot 15 13 (.load none (.s 14)),
 ot 16 13 (.fadr 8 (.s 3)),
 ot 17 13 (.load none (.s 16)),
 ot 18 13 (.bin .neq (.s 15) (.s 17)),
 oF 19 10 (.pick (.s 13) (.s 18) (.c (.bool false))),
 o0 20 (.pick (.s 10) (.c (.bool true)) (.s 19))] [5,6,7,8,9,10,11,12,13,14,15,16,17,18,19])
 (.cond (.s 20)
 (.seq (.reg [o0 4 (.mov (.c (.bool false)))] [])
 .ret)
 .skip))
 (.seq (.reg [o0 21 (.fadr 0 (.s 2)),
 o0 22 (.load none (.s 21)),
 o0 23 (.fadr 0 (.s 3)),
 o0 24 (.load none (.s 23)),
 o0 25 (.call 50 [(.s 22),(.s 24)]),
 mv 26 25,
 ot 27 26 (.fadr 1 (.s 2)),
 ot 28 26 (.load none (.s 27)),
 ot 29 26 (.fadr 1 (.s 3)),
 ot 30 26 (.load none (.s 29)),
 ot 31 26 (.call 51 [(.s 28),(.s 30)]),
 o0 32 (.pick (.s 26) (.s 31) (.c (.bool false))),
 mv 33 32,
 ot 34 33 (.fadr 2 (.s 2)),
 ot 35 33 (.load none (.s 34)),
 ot 36 33 (.fadr 2 (.s 3)),
 ot 37 33 (.load none (.s 36)),
 ot 38 33 (.call 52 [(.s 35),(.s 37)]),
 o0 39 (.pick (.s 33) (.s 38) (.c (.bool false))),
 mv 40 39,
 ot 41 40 (.load (some 12) (.s 2)),
 ot 42 40 (.load (some 12) (.s 3)),
 ot 43 40 (.call 53 [(.s 41),(.s 42)]),
 o0 44 (.pick (.s 40) (.s 43) (.c (.bool false))),
 mv 45 44,
 ot 46 45 (.fadr 5 (.s 2)),
 ot 47 45 (.load none (.s 46)),
 ot 48 45 (.fadr 5 (.s 3)),
 ot 49 45 (.load none (.s 48)),
 ot 50 45 (.call 54 [(.s 47),(.s 49)]),
 o0 51 (.pick (.s 45) (.s 50) (.c (.bool false))),
 mv 52 51,
 ot 53 52 (.fadr 6 (.s 2)),
 ot 54 52 (.load none (.s 53)),
 ot 55 52 (.fadr 6 (.s 3)),
 ot 56 52 (.load none (.s 55)),
 ot 57 52 (.call 55 [(.s 54),(.s 56)]),
 o0 58 (.pick (.s 52) (.s 57) (.c (.bool false))),
 mv 59 58,
 ot 60 59 (.fadr 9 (.s 2)),
 ot 61 59 (.load none (.s 60)),
 ot 62 59 (.fadr 9 (.s 3)),
 ot 63 59 (.load none (.s 62)),
 ot 64 59 (.call 56 [(.s 61),(.s 63)]),
 o0 65 (.pick (.s 59) (.s 64) (.c (.bool false))),
 mv 66 65,
 ot 67 66 (.fadr 10 (.s 2)),
 ot 68 66 (.load none (.s 67)),
 ot 69 66 (.fadr 10 (.s 3)),
 ot 70 66 (.load none (.s 69)),
 ot 71 66 (.call 57 [(.s 68),(.s 70)]),
 o0 72 (.pick (.s 66) (.s 71) (.c (.bool false))),
 mv 73 72,
 ot 74 73 (.fadr 11 (.s 2)),
 ot 75 73 (.load none (.s 74)),
 ot 76 73 (.fadr 11 (.s 3)),
 ot 77 73 (.load none (.s 76)),
 ot 78 73 (.call 58 [(.s 75),(.s 77)]),
 o0 79 (.pick (.s 73) (.s 78) (.c (.bool false))),
 mv 4 79] [21,22,23,24,25,26,27,28,29,30,31,32,33,34,35,36,37,38,39,40,41,42,43,44,45,46,47,48,49,50,51,52,53,54,55,56,57,58,59,60,61,62,63,64,65,66,67,68,69,70,71,72,73,74,75,76,77,78,79])
 .ret)))⟩

theorem cX107:compF Tryz.prog 15 = some FX107:=by kernel_rfl
abbrev nX107:FuncId:=15

def FX134:IFun :=
⟨29,1,[.cell 2 (some 3),.tmp 3,.tmp 4],
 (.seq (.reg [o0 1 (.box 44 12 (.s 0)),
 o0 2 (.new 25 [(.str []),.nl,.nl]),
 o0 3 (.mov (.c (.bool false))),
 o0 4 (.mov (.c (.int .i64 0)))] [])
 (.seq (.seq (.reg [o0 9 (.fadr 11 (.s 1)),
 o0 10 (.load none (.s 9)),
 o0 11 (.len (.s 10)),
 o0 12 (.mov (.c (.int .i64 0)))] [9])
 (.block 0 (.loop (.seq (.reg [o0 13 (.bin .lss (.s 12) (.s 11))] [])
 (.seq (.cond (.s 13)
 .skip
 (.exit 0))
 (.seq (.block 1 (.seq (.reg [o0 14 (.iadr 3 (.s 10) (.s 12)),
 o0 15 (.load (some 3) (.s 14)),
 o0 6 (.new 60 [(.int .i64 0),(.str []),.nl]),
 ⟨none,.store 3 (.s 6) (.s 15),none⟩] [14,15])
 (.seq (.reg [o0 16 (.fadr 1 (.s 6)),
 o0 17 (.load none (.s 16)),
 o0 18 (.bin .eql (.s 17) (.c (.str [110,97,109,101])))] [16,17])
 (.cond (.s 18)
 (.seq (.reg [o0 20 (.fadr 2 (.s 6)),
 o0 21 (.load none (.s 20)),
 o0 22 (.call 21 [(.s 21)]),
 mv 19 22,
 o0 23 (.ext (.s 19) 0),
 o0 24 (.ext (.s 19) 1),
 o0 7 (.new 25 [(.str []),.nl,.nl]),
 ⟨none,.store 3 (.s 7) (.s 23),none⟩,
 mv 8 24] [20,21,22,19,23,24])
 (.seq (.reg [o0 25 (.load (some 3) (.s 7)),
 mv 26 8,
 ⟨none,.store 3 (.s 2) (.s 25),none⟩,
 o0 3 (.mov (.c (.bool true))),
 mv 4 26] [25,26])
 .ret))
 .skip))))
 (.reg [o0 27 (.bin .add (.s 12) (.c (.int .i64 1))),
 mv 12 27] [27])))))))
 (.seq (.reg [o0 28 (.build [(.str []),.nl,.nl] []),
 ⟨none,.store 3 (.s 2) (.s 28),none⟩,
 o0 3 (.mov (.c (.bool false))),
 o0 4 (.mov (.c (.int .i64 0)))] [28])
 .ret)))⟩

theorem cX134:compF Tryz.prog 17 = some FX134:=by kernel_rfl
abbrev nX134:FuncId:=17

def FX135:IFun :=
⟨35,1,[.cell 2 (some 3),.tmp 3,.tmp 4],
 (.seq (.reg [o0 1 (.box 44 12 (.s 0)),
 o0 2 (.new 25 [(.str []),.nl,.nl]),
 o0 3 (.mov (.c (.bool false))),
 o0 4 (.mov (.c (.int .i64 0)))] [])
 (.seq (.seq (.reg [o0 5 (.mov (.c (.int .i64 0)))] [])
 (.block 0 (.loop (.seq (.seq (.reg [mv 8 5,
 o0 9 (.fadr 11 (.s 1)),
 o0 10 (.load none (.s 9)),
 o0 11 (.len (.s 10)),
 o0 12 (.bin .lss (.s 8) (.s 11))] [8,9,10,11])
 (.cond (.s 12)
 .skip
 (.exit 0)))
 (.seq (.block 1 (.seq (.reg [o0 15 (.fadr 11 (.s 1)),
 o0 16 (.load none (.s 15)),
 mv 17 5,
 o0 18 (.iadr 3 (.s 16) (.s 17)),
 o0 19 (.fadr 1 (.s 18)),
 o0 20 (.load none (.s 19)),
 o0 21 (.bin .eql (.s 20) (.c (.str [110,97,109,101])))] [15,16,17,18,19,20])
 (.cond (.s 21)
 (.seq (.reg [o0 23 (.fadr 11 (.s 1)),
 o0 24 (.load none (.s 23)),
 mv 25 5,
 o0 26 (.iadr 3 (.s 24) (.s 25)),
 o0 27 (.fadr 2 (.s 26)),
 o0 28 (.load none (.s 27)),
 o0 29 (.call 67 [(.s 28)]),
 mv 22 29,
 o0 30 (.ext (.s 22) 0),
 o0 31 (.ext (.s 22) 1),
 o0 6 (.new 25 [(.str []),.nl,.nl]),
 ⟨none,.store 3 (.s 6) (.s 30),none⟩,
 mv 7 31] [23,24,25,26,27,28,29,22,30,31])
 (.seq (.reg [o0 32 (.load (some 3) (.s 6)),
 mv 33 7,
 ⟨none,.store 3 (.s 2) (.s 32),none⟩,
 o0 3 (.mov (.c (.bool true))),
 mv 4 33] [32,33])
 .ret))
 .skip)))
 (.reg [mv 13 5,
 o0 14 (.bin .add (.s 13) (.c (.int .i64 1))),
 mv 5 14] [13,14]))))))
 (.seq (.reg [o0 34 (.build [(.str []),.nl,.nl] []),
 ⟨none,.store 3 (.s 2) (.s 34),none⟩,
 o0 3 (.mov (.c (.bool false))),
 o0 4 (.mov (.c (.int .i64 0)))] [34])
 .ret)))⟩

theorem cX135:compF Tryz.prog 18 = some FX135:=by kernel_rfl
abbrev nX135:FuncId:=18

def FX108:IFun :=
⟨63,2,[.cell 4 (some 12),.tmp 5],
 (.seq (.reg [o0 2 (.box 44 12 (.s 0)),
 o0 3 (.box 25 3 (.s 1)),
 o0 4 (.new 44 [.nl,.nl,.nl,.nl,.nl,.nl,.nl,(.bool false),(.int .i64 0),.nl,.nl,.nl]),
 o0 5 (.mov (.c (.int .i64 0)))] [])
 (.seq (.reg [o0 11 (.load (some 3) (.s 3)),
 o0 12 (.call 9 [(.s 11)]),
 mv 10 12,
 o0 13 (.ext (.s 10) 0),
 o0 14 (.ext (.s 10) 1),
 mv 6 13,
 mv 7 14] [11,12,10,13,14])
 (.seq (.seq (.reg [mv 15 7,
 o0 16 (.bin .neq (.s 15) (.c (.int .i64 0)))] [15])
 (.cond (.s 16)
 (.seq (.reg [o0 17 (.build [.nl,.nl,.nl,.nl,.nl,.nl,.nl,(.bool false),(.int .i64 0),.nl,.nl,.nl] []),
 mv 18 7,
 ⟨none,.store 12 (.s 4) (.s 17),none⟩,
 mv 5 18] [17,18])
 .ret)
 .skip))
 (.seq (.reg [o0 8 (.mov (.c .nl))] [])
 (.seq (.seq (.reg [o0 9 (.mov (.c (.int .i64 0)))] [])
 (.block 0 (.loop (.seq (.seq (.reg [mv 19 9,
 o0 20 (.fadr 11 (.s 2)),
 o0 21 (.load none (.s 20)),
 o0 22 (.len (.s 21)),
 o0 23 (.bin .lss (.s 19) (.s 22))] [19,20,21,22])
 (.cond (.s 23)
 .skip
 (.exit 0)))
 (.seq (.block 1 (.seq (.reg [o0 26 (.fadr 11 (.s 2)),
 o0 27 (.load none (.s 26)),
 mv 28 9,
 o0 29 (.iadr 3 (.s 27) (.s 28)),
 o0 30 (.fadr 1 (.s 29)),
 o0 31 (.load none (.s 30)),
 o0 32 (.bin .neq (.s 31) (.c (.str [110,97,109,101])))] [26,27,28,29,30,31])
 (.cond (.s 32)
 (.reg [mv 33 8,
 o0 34 (.fadr 11 (.s 2)),
 o0 35 (.load none (.s 34)),
 mv 36 9,
 o0 37 (.iadr 3 (.s 35) (.s 36)),
 o0 38 (.load (some 3) (.s 37)),
 o0 39 (.bsl 60 3 [[(.int .i64 0),(.str []),.nl]] [(0,(.s 38))]),
 o0 40 (.app 60 3 (.s 33) (.s 39)),
 mv 8 40] [33,34,35,36,37,38,39,40])
 .skip)))
 (.reg [mv 24 9,
 o0 25 (.bin .add (.s 24) (.c (.int .i64 1))),
 mv 9 25] [24,25]))))))
 (.seq (.seq (.reg [mv 41 6,
 o0 42 (.len (.s 41)),
 o0 43 (.bin .gtr (.s 42) (.c (.int .i64 0)))] [41,42])
 (.cond (.s 43)
 (.seq (.seq (.reg [mv 44 6,
 o0 45 (.len (.s 44)),
 o0 46 (.bin .gtr (.s 45) (.c (.int .i64 4096))),
 mv 47 46,
 mf 48 8 47,
 oF 49 47 (.len (.s 48)),
 oF 50 47 (.bin .geq (.s 49) (.c (.int .i64 8))),
 o0 51 (.pick (.s 47) (.c (.bool true)) (.s 50))] [44,45,46,47,48,49,50])
 (.cond (.s 51)
 (.seq (.reg [o0 52 (.build [.nl,.nl,.nl,.nl,.nl,.nl,.nl,(.bool false),(.int .i64 0),.nl,.nl,.nl] []),
 ⟨none,.store 12 (.s 4) (.s 52),none⟩,
 o0 5 (.mov (.c (.int .i64 6)))] [52])
 .ret)
 .skip))
 (.reg [mv 53 8,
 o0 54 (.load (some 12) (.s 2)),
 o0 55 (.call 68 [(.s 54)]),
 mv 56 6,
 o0 57 (.build [(.int .i64 0),(.str []),.nl] [(0,1,(.s 55)),(1,1,(.c (.str [110,97,109,101]))),(2,1,(.s 56))]),
 o0 58 (.bsl 60 3 [[(.int .i64 0),(.str []),.nl]] [(0,(.s 57))]),
 o0 59 (.app 60 3 (.s 53) (.s 58)),
 mv 8 59] [53,54,55,56,57,58,59]))
 .skip))
 (.seq (.reg [mv 60 8,
 o0 61 (.fadr 11 (.s 2)),
 ⟨none,.store 1 (.s 61) (.s 60),none⟩] [60,61])
 (.seq (.reg [o0 62 (.load (some 12) (.s 2)),
 ⟨none,.store 12 (.s 4) (.s 62),none⟩,
 o0 5 (.mov (.c (.int .i64 0)))] [62])
 .ret))))))))⟩

theorem cX108:compF Tryz.prog 19 = some FX108:=by kernel_rfl
abbrev nX108:FuncId:=19

def FX47:IFun :=
⟨64,2,[.tmp 4],
 (.seq (.reg [o0 2 (.box 25 3 (.s 0)),
 o0 3 (.box 25 3 (.s 1)),
 o0 4 (.mov (.c (.bool false)))] [])
 (.seq (.seq (.reg [o0 6 (.fadr 0 (.s 2)),
 o0 7 (.load none (.s 6)),
 o0 8 (.fadr 0 (.s 3)),
 o0 9 (.load none (.s 8)),
 o0 10 (.bin .neq (.s 7) (.s 9)),
 mv 11 10,
 oF 12 11 (.fadr 1 (.s 2)),
 oF 13 11 (.load none (.s 12)),
 oF 14 11 (.fadr 1 (.s 3)),
 oF 15 11 (.load none (.s 14)),
 oF 16 11 (.call 69 [(.s 13),(.s 15)]),
 oF 17 11 (.un .not (.s 16)),
 o0 18 (.pick (.s 11) (.c (.bool true)) (.s 17)),
 mv 19 18,
 oF 20 19 (.fadr 2 (.s 2)),
 oF 21 19 (.load none (.s 20)),
 oF 22 19 (.len (.s 21)),
 oF 23 19 (.fadr 2 (.s 3)),
 oF 24 19 (.load none (.s 23)),
 oF 25 19 (.len (.s 24)),
 oF 26 19 (.bin .neq (.s 22) (.s 25)),
 o0 27 (.pick (.s 19) (.c (.bool true)) (.s 26))] [6,7,8,9,10,11,12,13,14,15,16,17,18,19,20,21,22,23,24,25,26])
 (.cond (.s 27)
 (.seq (.reg [o0 4 (.mov (.c (.bool false)))] [])
 .ret)
 .skip))
 (.seq (.seq (.reg [o0 5 (.mov (.c (.int .i64 0)))] [])
 (.block 0 (.loop (.seq (.seq (.reg [mv 28 5,
 o0 29 (.fadr 2 (.s 2)),
 o0 30 (.load none (.s 29)),
 o0 31 (.len (.s 30)),
 o0 32 (.bin .lss (.s 28) (.s 31))] [28,29,30,31])
 (.cond (.s 32)
 .skip
 (.exit 0)))
 (.seq (.block 1 (.seq (.seq (.draw [⟨o0 35 (.fadr 2 (.s 2)),[]⟩,
 ⟨o0 36 (.load none (.s 35)),[0]⟩,
 ⟨mv 37 5,[]⟩,
 ⟨o0 38 (.iadr 2 (.s 36) (.s 37)),[1,0,2]⟩,
 ⟨o0 39 (.fadr 0 (.s 38)),[3,1,0,2]⟩,
 ⟨o0 40 (.load none (.s 39)),[4,3,1,0,2]⟩,
 ⟨o0 41 (.fadr 2 (.s 3)),[]⟩,
 ⟨o0 42 (.load none (.s 41)),[6]⟩,
 ⟨mv 43 5,[]⟩,
 ⟨o0 44 (.iadr 2 (.s 42) (.s 43)),[7,6,8]⟩,
 ⟨o0 45 (.fadr 0 (.s 44)),[9,7,6,8]⟩,
 ⟨o0 46 (.load none (.s 45)),[10,9,7,6,8]⟩] [] [])
 (.seq (.reg [o0 47 (.bin .neq (.s 40) (.s 46))] [])
 (.seq (.reg [mv 48 47] [])
 (.seq (.draw [⟨oF 49 48 (.fadr 2 (.s 2)),[]⟩,
 ⟨oF 50 48 (.load none (.s 49)),[0]⟩,
 ⟨mf 51 5 48,[]⟩,
 ⟨oF 52 48 (.iadr 2 (.s 50) (.s 51)),[1,0,2]⟩,
 ⟨oF 53 48 (.fadr 1 (.s 52)),[3,1,0,2]⟩,
 ⟨oF 54 48 (.load none (.s 53)),[4,3,1,0,2]⟩,
 ⟨oF 55 48 (.fadr 2 (.s 3)),[]⟩,
 ⟨oF 56 48 (.load none (.s 55)),[6]⟩,
 ⟨mf 57 5 48,[]⟩,
 ⟨oF 58 48 (.iadr 2 (.s 56) (.s 57)),[7,6,8]⟩,
 ⟨oF 59 48 (.fadr 1 (.s 58)),[9,7,6,8]⟩,
 ⟨oF 60 48 (.load none (.s 59)),[10,9,7,6,8]⟩] [] [])
 (.seq (.reg [oF 61 48 (.call 69 [(.s 54),(.s 60)])] [])
 (.seq (.reg [oF 62 48 (.un .not (.s 61))] [])
 (.reg [o0 63 (.pick (.s 48) (.c (.bool true)) (.s 62))] [35,36,37,38,39,40,41,42,43,44,45,46,47,48,49,50,51,52,53,54,55,56,57,58,59,60,61,62])))))))
 (.cond (.s 63)
 (.seq (.reg [o0 4 (.mov (.c (.bool false)))] [])
 .ret)
 .skip)))
 (.reg [mv 33 5,
 o0 34 (.bin .add (.s 33) (.c (.int .i64 1))),
 mv 5 34] [33,34]))))))
 (.seq (.reg [o0 4 (.mov (.c (.bool true)))] [])
 .ret))))⟩

theorem cX47:compF Tryz.prog 20 = some FX47:=by kernel_rfl
abbrev nX47:FuncId:=20

def FX67:IFun :=
⟨51,1,[.cell 2 (some 3),.tmp 3],
 (.seq (.reg [o0 2 (.new 25 [(.str []),.nl,.nl]),
 o0 3 (.mov (.c (.int .i64 0)))] [])
 (.seq (.reg [mv 10 0,
 o0 11 (.call 70 [(.s 10)]),
 mv 4 11] [10,11])
 (.seq (.reg [o0 5 (.new 25 [(.str []),.nl,.nl])] [])
 (.seq (.reg [o0 6 (.mov (.c (.int .i64 (-1))))] [])
 (.seq (.block 0 (.loop (.seq (.seq (.reg [mv 12 4,
 o0 13 (.call 71 [(.s 12)]),
 o0 14 (.bin .gtr (.s 13) (.c (.int .i64 0)))] [12,13])
 (.cond (.s 14)
 .skip
 (.exit 0)))
 (.block 1 (.seq (.reg [mv 15 4,
 o0 16 (.call 72 [(.s 15)]),
 o0 17 (.cvi .i64 (.s 16)),
 mv 7 17] [15,16,17])
 (.seq (.seq (.reg [mv 18 7,
 o0 19 (.bin .gtr (.s 18) (.c (.int .i64 2)))] [18])
 (.cond (.s 19)
 (.seq (.reg [o0 20 (.build [(.str []),.nl,.nl] []),
 ⟨none,.store 3 (.s 2) (.s 20),none⟩,
 o0 3 (.mov (.c (.int .i64 4)))] [20])
 .ret)
 .skip))
 (.seq (.seq (.reg [mv 21 7,
 mv 22 6,
 o0 23 (.bin .leq (.s 21) (.s 22))] [21,22])
 (.cond (.s 23)
 (.seq (.reg [o0 24 (.build [(.str []),.nl,.nl] []),
 ⟨none,.store 3 (.s 2) (.s 24),none⟩,
 o0 3 (.mov (.c (.int .i64 7)))] [24])
 .ret)
 .skip))
 (.seq (.reg [mv 25 7,
 mv 6 25] [25])
 (.seq (.reg [mv 26 4,
 mv 27 4,
 o0 28 (.call 74 [(.s 27)]),
 o0 29 (.call 73 [(.s 26),(.s 28)]),
 mv 8 29] [26,27,28,29])
 (.seq (.seq (.reg [mv 30 7] [])
 (.block 2 (.seq (.reg [o0 35 (.bin .eql (.s 30) (.c (.int .i64 0))),
 mv 34 35] [35])
 (.cond (.s 34)
 (.reg [mv 36 8,
 o0 37 (.call 75 [(.s 36)]),
 o0 38 (.fadr 0 (.s 5)),
 ⟨none,.store 1 (.s 38) (.s 37),none⟩] [36,37,38])
 (.seq (.reg [o0 40 (.bin .eql (.s 30) (.c (.int .i64 1))),
 mv 39 40] [40])
 (.cond (.s 39)
 (.reg [mv 41 8,
 o0 42 (.call 76 [(.s 41),(.c (.int .i64 64))]),
 o0 43 (.fadr 1 (.s 5)),
 ⟨none,.store 1 (.s 43) (.s 42),none⟩] [41,42,43])
 (.reg [mv 31 8,
 o0 32 (.call 77 [(.s 31)]),
 o0 33 (.fadr 2 (.s 5)),
 ⟨none,.store 1 (.s 33) (.s 32),none⟩] [31,32,33])))))))
 (.seq (.reg [mv 44 8,
 o0 45 (.call 78 [(.s 44)]),
 mv 9 45] [44,45])
 (.seq (.reg [mv 46 9,
 o0 47 (.bin .neq (.s 46) (.c (.int .i64 0)))] [46])
 (.cond (.s 47)
 (.seq (.reg [o0 48 (.build [(.str []),.nl,.nl] []),
 mv 49 9,
 ⟨none,.store 3 (.s 2) (.s 48),none⟩,
 mv 3 49] [48,49])
 .ret)
 .skip)))))))))))))
 (.seq (.reg [o0 50 (.load (some 3) (.s 5)),
 ⟨none,.store 3 (.s 2) (.s 50),none⟩,
 o0 3 (.mov (.c (.int .i64 0)))] [50])
 .ret))))))⟩

theorem cX67:compF Tryz.prog 21 = some FX67:=by kernel_rfl
abbrev nX67:FuncId:=21

def FX103:IFun :=
⟨9,2,[.tmp 4],
 (.seq (.reg [o0 2 (.box 25 3 (.s 0)),
 o0 4 (.mov (.c (.str [])))] [])
 (.seq (.reg [o0 5 (.fadr 1 (.s 2)),
 o0 6 (.load none (.s 5)),
 mv 7 1,
 o0 8 (.call 79 [(.s 6),(.s 7)]),
 mv 4 8] [5,6,7,8])
 .ret))⟩

theorem cX103:compF Tryz.prog 22 = some FX103:=by kernel_rfl
abbrev nX103:FuncId:=22

def FX128:IFun :=
⟨3,0,[.tmp 0],
 (.seq (.reg [o0 0 (.mov (.c .np))] [])
 (.seq (.reg [o0 1 (.build [(.bool false),.nl,(.int .i64 0)] [(0,1,(.c (.bool true)))]),
 o0 2 (.box 124 3 (.s 1)),
 mv 0 2] [1,2])
 .ret))⟩

theorem cX128:compF Tryz.prog 23 = some FX128:=by kernel_rfl
abbrev nX128:FuncId:=23

def FX51:IFun :=
⟨16,3,[],
 (.seq (.reg [o0 6 (.call 23 []),
 mv 5 6] [6])
 (.seq (.reg [mv 7 1,
 mv 8 5,
 o0 9 (.callv (.s 7) [(.s 8)])] [7,8,9])
 (.seq (.reg [o0 10 (.load none (.s 2)),
 mv 11 0,
 o0 12 (.call 25 [(.s 10),(.s 11)])] [10,11,12])
 (.reg [o0 13 (.load none (.s 2)),
 mv 14 5,
 o0 15 (.call 26 [(.s 13),(.s 14)])] [13,14,15]))))⟩

theorem cX51:compF Tryz.prog 24 = some FX51:=by kernel_rfl
abbrev nX51:FuncId:=24

def FX28:IFun :=
⟨8,2,[],
 (.reg [mv 4 0,
 mv 5 1,
 o0 6 (.bsl 5 1 [[(.int .u8 0)]] [(0,(.s 5))]),
 o0 7 (.call 80 [(.s 4),(.s 6)])] [4,5,6,7])⟩

theorem cX28:compF Tryz.prog 25 = some FX28:=by kernel_rfl
abbrev nX28:FuncId:=25

def FX20:IFun :=
⟨39,2,[],
 (.seq (.seq (.reg [mv 5 1,
 o0 6 (.pbin .eql (.s 5) (.c .np)),
 mv 7 6,
 mf 8 1 7,
 oF 9 7 (.nchk (.s 8)),
 oF 10 7 (.fadr 0 (.s 9)),
 oF 11 7 (.load none (.s 10)),
 oF 12 7 (.un .not (.s 11)),
 o0 13 (.pick (.s 7) (.c (.bool true)) (.s 12))] [5,6,7,8,9,10,11,12])
 (.cond (.s 13)
 (.seq (.reg [mv 14 0,
 o0 15 (.call 81 [(.s 14),(.c (.int .i64 2))])] [14,15])
 .ret)
 .skip))
 (.seq (.seq (.reg [mv 16 1,
 o0 17 (.nchk (.s 16)),
 o0 18 (.fadr 2 (.s 17)),
 o0 19 (.load none (.s 18)),
 o0 20 (.bin .neq (.s 19) (.c (.int .i64 0)))] [16,17,18,19])
 (.cond (.s 20)
 (.seq (.reg [mv 21 0,
 mv 22 1,
 o0 23 (.nchk (.s 22)),
 o0 24 (.fadr 2 (.s 23)),
 o0 25 (.load none (.s 24)),
 o0 26 (.call 81 [(.s 21),(.s 25)])] [21,22,23,24,25,26])
 .ret)
 .skip))
 (.seq (.reg [mv 27 1,
 o0 28 (.nchk (.s 27)),
 o0 29 (.fadr 1 (.s 28)),
 o0 30 (.load none (.s 29)),
 o0 31 (.app 5 1 (.c .nl) (.s 30)),
 mv 4 31] [27,28,29,30,31])
 (.seq (.reg [mv 32 0,
 mv 33 4,
 o0 34 (.len (.s 33)),
 o0 35 (.call 32 [(.s 32),(.s 34)])] [32,33,34,35])
 (.reg [mv 36 0,
 mv 37 4,
 o0 38 (.call 80 [(.s 36),(.s 37)])] [36,37,38])))))⟩

theorem cX20:compF Tryz.prog 26 = some FX20:=by kernel_rfl
abbrev nX20:FuncId:=26

def FX56:IFun :=
⟨7,2,[],
 (.reg [mv 3 0,
 o0 4 (.fadr 0 (.s 1)),
 o0 5 (.load none (.s 4)),
 o0 6 (.call 28 [(.s 3),(.s 5)])] [3,4,5,6])⟩

theorem cX56:compF Tryz.prog 27 = some FX56:=by kernel_rfl
abbrev nX56:FuncId:=27

def FX18:IFun :=
⟨24,2,[],
 (.block 0 (.seq (.reg [mv 13 1,
 o0 14 (.call 82 [(.s 13)]),
 o0 15 (.un .not (.s 14)),
 mv 12 15] [13,14,15])
 (.cond (.s 12)
 (.reg [mv 16 0,
 o0 17 (.call 81 [(.s 16),(.c (.int .i64 9))])] [16,17])
 (.seq (.reg [mv 19 1,
 o0 20 (.slen (.s 19)),
 o0 21 (.bin .gtr (.s 20) (.c (.int .i64 64))),
 mv 18 21] [19,20,21])
 (.cond (.s 18)
 (.reg [mv 22 0,
 o0 23 (.call 81 [(.s 22),(.c (.int .i64 6))])] [22,23])
 (.seq (.reg [mv 4 0,
 mv 5 1,
 o0 6 (.slen (.s 5)),
 o0 7 (.call 32 [(.s 4),(.s 6)])] [4,5,6,7])
 (.reg [mv 8 0,
 mv 9 1,
 o0 10 (.cvb 5 (.s 9)),
 o0 11 (.call 80 [(.s 8),(.s 10)])] [8,9,10,11])))))))⟩

theorem cX18:compF Tryz.prog 28 = some FX18:=by kernel_rfl
abbrev nX18:FuncId:=28

def FX57:IFun :=
⟨7,2,[],
 (.reg [mv 3 0,
 o0 4 (.fadr 1 (.s 1)),
 o0 5 (.load none (.s 4)),
 o0 6 (.call 30 [(.s 3),(.s 5)])] [3,4,5,6])⟩

theorem cX57:compF Tryz.prog 29 = some FX57:=by kernel_rfl
abbrev nX57:FuncId:=29

def FX123:IFun :=
⟨25,2,[],
 (.seq (.reg [mv 6 0,
 mv 7 1,
 o0 8 (.len (.s 7)),
 o0 9 (.call 32 [(.s 6),(.s 8)])] [6,7,8,9])
 (.seq (.reg [mv 10 1,
 o0 11 (.len (.s 10)),
 o0 12 (.mov (.c (.int .i64 0)))] [])
 (.block 0 (.loop (.seq (.reg [o0 13 (.bin .lss (.s 12) (.s 11))] [])
 (.seq (.cond (.s 13)
 .skip
 (.exit 0))
 (.seq (.block 1 (.seq (.reg [o0 14 (.iadr 2 (.s 10) (.s 12)),
 o0 15 (.load (some 2) (.s 14)),
 o0 5 (.new 129 [(.int .i64 0),(.str [])]),
 ⟨none,.store 2 (.s 5) (.s 15),none⟩] [14,15])
 (.seq (.reg [mv 16 0,
 o0 17 (.fadr 0 (.s 5)),
 o0 18 (.load none (.s 17)),
 o0 19 (.call 32 [(.s 16),(.s 18)])] [16,17,18,19])
 (.reg [mv 20 0,
 o0 21 (.fadr 1 (.s 5)),
 o0 22 (.load none (.s 21)),
 o0 23 (.call 28 [(.s 20),(.s 22)])] [20,21,22,23]))))
 (.reg [o0 24 (.bin .add (.s 12) (.c (.int .i64 1))),
 mv 12 24] [24]))))))))⟩

theorem cX123:compF Tryz.prog 30 = some FX123:=by kernel_rfl
abbrev nX123:FuncId:=30

def FX55:IFun :=
⟨26,2,[],
 (.seq (.reg [mv 5 0,
 o0 6 (.fadr 2 (.s 1)),
 o0 7 (.load none (.s 6)),
 o0 8 (.len (.s 7)),
 o0 9 (.call 32 [(.s 5),(.s 8)])] [5,6,7,8,9])
 (.seq (.reg [o0 10 (.fadr 2 (.s 1)),
 o0 11 (.load none (.s 10)),
 o0 12 (.len (.s 11)),
 o0 13 (.mov (.c (.int .i64 0)))] [10])
 (.block 0 (.loop (.seq (.reg [o0 14 (.bin .lss (.s 13) (.s 12))] [])
 (.seq (.cond (.s 14)
 .skip
 (.exit 0))
 (.seq (.block 1 (.seq (.reg [o0 15 (.iadr 2 (.s 11) (.s 13)),
 o0 16 (.load (some 2) (.s 15)),
 o0 4 (.new 55 [(.int .i64 0),.nl]),
 ⟨none,.store 2 (.s 4) (.s 16),none⟩] [15,16])
 (.seq (.reg [mv 17 0,
 o0 18 (.fadr 0 (.s 4)),
 o0 19 (.load none (.s 18)),
 o0 20 (.call 32 [(.s 17),(.s 19)])] [17,18,19,20])
 (.reg [mv 21 0,
 o0 22 (.fadr 1 (.s 4)),
 o0 23 (.load none (.s 22)),
 o0 24 (.call 30 [(.s 21),(.s 23)])] [21,22,23,24]))))
 (.reg [o0 25 (.bin .add (.s 13) (.c (.int .i64 1))),
 mv 13 25] [25]))))))))⟩

theorem cX55:compF Tryz.prog 31 = some FX55:=by kernel_rfl
abbrev nX55:FuncId:=31

def FX32:IFun :=
⟨17,2,[],
 (.seq (.seq (.reg [mv 4 1,
 o0 5 (.bin .lss (.s 4) (.c (.int .i64 0))),
 mv 6 5,
 mf 7 1 6,
 oF 8 6 (.bin .gtr (.s 7) (.c (.int .i64 4294967295))),
 o0 9 (.pick (.s 6) (.c (.bool true)) (.s 8))] [4,5,6,7,8])
 (.cond (.s 9)
 (.seq (.reg [mv 10 0,
 o0 11 (.call 81 [(.s 10),(.c (.int .i64 1))])] [10,11])
 .ret)
 .skip))
 (.reg [mv 12 0,
 mv 13 1,
 o0 14 (.cvi .u64 (.s 13)),
 o0 15 (.call 83 [(.c .nl),(.s 14)]),
 o0 16 (.call 80 [(.s 12),(.s 15)])] [12,13,14,15,16]))⟩

theorem cX32:compF Tryz.prog 32 = some FX32:=by kernel_rfl
abbrev nX32:FuncId:=32

def FX19:IFun :=
⟨29,1,[.tmp 2,.tmp 3],
 (.seq (.reg [o0 2 (.mov (.c .nl)),
 o0 3 (.mov (.c (.int .i64 0)))] [])
 (.seq (.block 0 (.seq (.reg [mv 5 0,
 o0 6 (.pbin .eql (.s 5) (.c .np)),
 mv 7 6,
 mf 8 0 7,
 oF 9 7 (.nchk (.s 8)),
 oF 10 7 (.fadr 0 (.s 9)),
 oF 11 7 (.load none (.s 10)),
 oF 12 7 (.un .not (.s 11)),
 o0 13 (.pick (.s 7) (.c (.bool true)) (.s 12)),
 mv 4 13] [5,6,7,8,9,10,11,12,13])
 (.cond (.s 4)
 (.seq (.reg [o0 2 (.mov (.c .nl)),
 o0 3 (.mov (.c (.int .i64 2)))] [])
 .ret)
 (.seq (.reg [mv 15 0,
 o0 16 (.nchk (.s 15)),
 o0 17 (.fadr 2 (.s 16)),
 o0 18 (.load none (.s 17)),
 o0 19 (.bin .neq (.s 18) (.c (.int .i64 0))),
 mv 14 19] [15,16,17,18,19])
 (.cond (.s 14)
 (.seq (.seq (.draw [⟨mv 20 0,[]⟩,
 ⟨o0 21 (.nchk (.s 20)),[0]⟩,
 ⟨o0 22 (.fadr 2 (.s 21)),[1,0]⟩,
 ⟨o0 23 (.load none (.s 22)),[2,1,0]⟩,
 ⟨o0 2 (.mov (.c .nl)),[]⟩] [] [])
 (.reg [mv 3 23] [20,21,22,23]))
 .ret)
 .skip)))))
 (.seq (.reg [mv 24 0,
 o0 25 (.nchk (.s 24)),
 o0 26 (.fadr 1 (.s 25)),
 o0 27 (.load none (.s 26)),
 o0 28 (.app 5 1 (.c .nl) (.s 27)),
 mv 2 28,
 o0 3 (.mov (.c (.int .i64 0)))] [24,25,26,27,28])
 .ret)))⟩

theorem cX19:compF Tryz.prog 33 = some FX19:=by kernel_rfl
abbrev nX19:FuncId:=33

def FX65:IFun :=
⟨20,2,[.cell 4 (some 2)],
 (.seq (.reg [o0 2 (.box 71 2 (.s 0)),
 o0 3 (.box 71 2 (.s 1)),
 o0 4 (.new 71 [.nl,(.int .i64 0)])] [])
 (.seq (.seq (.reg [o0 5 (.fadr 1 (.s 3)),
 o0 6 (.load none (.s 5)),
 o0 7 (.bin .neq (.s 6) (.c (.int .i64 0)))] [5,6])
 (.cond (.s 7)
 (.seq (.reg [o0 8 (.load (some 2) (.s 2)),
 o0 9 (.fadr 1 (.s 3)),
 o0 10 (.load none (.s 9)),
 o0 11 (.call 84 [(.s 8),(.s 10)]),
 ⟨none,.store 2 (.s 4) (.s 11),none⟩] [8,9,10,11])
 .ret)
 .skip))
 (.seq (.seq (.draw [⟨o0 12 (.load (some 2) (.s 2)),[]⟩,
 ⟨o0 13 (.fadr 0 (.s 3)),[]⟩,
 ⟨o0 14 (.load none (.s 13)),[1]⟩,
 ⟨o0 15 (.len (.s 14)),[2,1]⟩,
 ⟨o0 16 (.call 38 [(.s 12),(.s 15)]),[0,3,2,1]⟩,
 ⟨o0 17 (.fadr 0 (.s 3)),[]⟩,
 ⟨o0 18 (.load none (.s 17)),[5]⟩] [] [])
 (.seq (.reg [o0 19 (.call 85 [(.s 16),(.s 18)])] [])
 (.reg [⟨none,.store 2 (.s 4) (.s 19),none⟩] [12,13,14,15,16,17,18,19])))
 .ret)))⟩

theorem cX65:compF Tryz.prog 34 = some FX65:=by kernel_rfl
abbrev nX65:FuncId:=34

def FX61:IFun :=
⟨9,2,[.cell 4 (some 2)],
 (.seq (.reg [o0 2 (.box 71 2 (.s 0)),
 o0 4 (.new 71 [.nl,(.int .i64 0)])] [])
 (.seq (.reg [o0 5 (.load (some 2) (.s 2)),
 mv 6 1,
 o0 7 (.bsl 5 1 [[(.int .u8 0)]] [(0,(.s 6))]),
 o0 8 (.call 85 [(.s 5),(.s 7)]),
 ⟨none,.store 2 (.s 4) (.s 8),none⟩] [5,6,7,8])
 .ret))⟩

theorem cX61:compF Tryz.prog 35 = some FX61:=by kernel_rfl
abbrev nX61:FuncId:=35

def FX60:IFun :=
⟨22,2,[.cell 4 (some 2)],
 (.seq (.reg [o0 2 (.box 71 2 (.s 0)),
 o0 4 (.new 71 [.nl,(.int .i64 0)])] [])
 (.seq (.seq (.reg [mv 5 1,
 o0 6 (.call 82 [(.s 5)]),
 o0 7 (.un .not (.s 6))] [5,6])
 (.cond (.s 7)
 (.seq (.reg [o0 8 (.load (some 2) (.s 2)),
 o0 9 (.call 84 [(.s 8),(.c (.int .i64 9))]),
 ⟨none,.store 2 (.s 4) (.s 9),none⟩] [8,9])
 .ret)
 .skip))
 (.seq (.seq (.reg [mv 10 1,
 o0 11 (.slen (.s 10)),
 o0 12 (.bin .gtr (.s 11) (.c (.int .i64 64)))] [10,11])
 (.cond (.s 12)
 (.seq (.reg [o0 13 (.load (some 2) (.s 2)),
 o0 14 (.call 84 [(.s 13),(.c (.int .i64 6))]),
 ⟨none,.store 2 (.s 4) (.s 14),none⟩] [13,14])
 .ret)
 .skip))
 (.seq (.reg [o0 15 (.load (some 2) (.s 2)),
 mv 16 1,
 o0 17 (.slen (.s 16)),
 o0 18 (.call 38 [(.s 15),(.s 17)]),
 mv 19 1,
 o0 20 (.cvb 5 (.s 19)),
 o0 21 (.call 85 [(.s 18),(.s 20)]),
 ⟨none,.store 2 (.s 4) (.s 21),none⟩] [15,16,17,18,19,20,21])
 .ret))))⟩

theorem cX60:compF Tryz.prog 36 = some FX60:=by kernel_rfl
abbrev nX60:FuncId:=36

def FX80:IFun :=
⟨30,2,[.cell 4 (some 2)],
 (.seq (.reg [o0 2 (.box 71 2 (.s 0)),
 o0 4 (.new 71 [.nl,(.int .i64 0)])] [])
 (.seq (.reg [o0 6 (.load (some 2) (.s 2)),
 mv 7 1,
 o0 8 (.len (.s 7)),
 o0 9 (.call 38 [(.s 6),(.s 8)]),
 ⟨none,.store 2 (.s 2) (.s 9),none⟩] [6,7,8,9])
 (.seq (.seq (.reg [o0 5 (.mov (.c (.int .i64 0)))] [])
 (.block 0 (.loop (.seq (.seq (.reg [mv 10 5,
 mv 11 1,
 o0 12 (.len (.s 11)),
 o0 13 (.bin .lss (.s 10) (.s 12))] [10,11,12])
 (.cond (.s 13)
 .skip
 (.exit 0)))
 (.seq (.block 1 (.seq (.draw [⟨o0 16 (.load (some 2) (.s 2)),[]⟩,
 ⟨mv 17 1,[]⟩,
 ⟨mv 18 5,[]⟩,
 ⟨o0 19 (.iadr 2 (.s 17) (.s 18)),[1,2]⟩,
 ⟨o0 20 (.fadr 0 (.s 19)),[3,1,2]⟩,
 ⟨o0 21 (.load none (.s 20)),[4,3,1,2]⟩,
 ⟨o0 22 (.call 38 [(.s 16),(.s 21)]),[0,5,4,3,1,2]⟩,
 ⟨mv 23 1,[]⟩,
 ⟨mv 24 5,[]⟩,
 ⟨o0 25 (.iadr 2 (.s 23) (.s 24)),[7,8]⟩,
 ⟨o0 26 (.fadr 1 (.s 25)),[9,7,8]⟩,
 ⟨o0 27 (.load none (.s 26)),[10,9,7,8]⟩] [] [])
 (.seq (.reg [o0 28 (.call 36 [(.s 22),(.s 27)])] [])
 (.reg [⟨none,.store 2 (.s 2) (.s 28),none⟩] [16,17,18,19,20,21,22,23,24,25,26,27,28]))))
 (.reg [mv 14 5,
 o0 15 (.bin .add (.s 14) (.c (.int .i64 1))),
 mv 5 15] [14,15]))))))
 (.seq (.reg [o0 29 (.load (some 2) (.s 2)),
 ⟨none,.store 2 (.s 4) (.s 29),none⟩] [29])
 .ret))))⟩

theorem cX80:compF Tryz.prog 37 = some FX80:=by kernel_rfl
abbrev nX80:FuncId:=37

def FX71:IFun :=
⟨18,2,[.cell 4 (some 2)],
 (.seq (.reg [o0 2 (.box 71 2 (.s 0)),
 o0 4 (.new 71 [.nl,(.int .i64 0)])] [])
 (.seq (.seq (.reg [mv 5 1,
 o0 6 (.bin .lss (.s 5) (.c (.int .i64 0))),
 mv 7 6,
 mf 8 1 7,
 oF 9 7 (.bin .geq (.s 8) (.c (.int .i64 4294967296))),
 o0 10 (.pick (.s 7) (.c (.bool true)) (.s 9))] [5,6,7,8,9])
 (.cond (.s 10)
 (.seq (.reg [o0 11 (.load (some 2) (.s 2)),
 o0 12 (.call 84 [(.s 11),(.c (.int .i64 1))]),
 ⟨none,.store 2 (.s 4) (.s 12),none⟩] [11,12])
 .ret)
 .skip))
 (.seq (.seq (.draw [⟨o0 13 (.load (some 2) (.s 2)),[]⟩,
 ⟨mv 14 1,[]⟩,
 ⟨o0 15 (.cvi .u64 (.s 14)),[1]⟩,
 ⟨o0 16 (.call 86 [(.c .nl),(.s 15)]),[2,1]⟩] [] [])
 (.seq (.reg [o0 17 (.call 85 [(.s 13),(.s 16)])] [])
 (.reg [⟨none,.store 2 (.s 4) (.s 17),none⟩] [13,14,15,16,17])))
 .ret)))⟩

theorem cX71:compF Tryz.prog 38 = some FX71:=by kernel_rfl
abbrev nX71:FuncId:=38

def FX96:IFun :=
⟨11,1,[.tmp 2,.tmp 3],
 (.seq (.reg [o0 1 (.box 71 2 (.s 0)),
 o0 2 (.mov (.c .nl)),
 o0 3 (.mov (.c (.int .i64 0)))] [])
 (.seq (.seq (.reg [o0 4 (.fadr 1 (.s 1)),
 o0 5 (.load none (.s 4)),
 o0 6 (.bin .neq (.s 5) (.c (.int .i64 0)))] [4,5])
 (.cond (.s 6)
 (.seq (.seq (.draw [⟨o0 7 (.fadr 1 (.s 1)),[]⟩,
 ⟨o0 8 (.load none (.s 7)),[0]⟩,
 ⟨o0 2 (.mov (.c .nl)),[]⟩] [] [])
 (.reg [mv 3 8] [7,8]))
 .ret)
 .skip))
 (.seq (.reg [o0 9 (.fadr 0 (.s 1)),
 o0 10 (.load none (.s 9)),
 mv 2 10,
 o0 3 (.mov (.c (.int .i64 0)))] [9,10])
 .ret)))⟩

theorem cX96:compF Tryz.prog 39 = some FX96:=by kernel_rfl
abbrev nX96:FuncId:=39

def FX105:IFun :=
⟨11,1,[.tmp 2],
 (.seq (.reg [o0 2 (.mov (.c (.int .i64 0)))] [])
 (.seq (.block 0 (.seq (.reg [mv 4 0,
 o0 5 (.call 87 [(.s 4)]),
 o0 6 (.un .not (.s 5)),
 mv 3 6] [4,5,6])
 (.cond (.s 3)
 (.seq (.reg [o0 2 (.mov (.c (.int .i64 9)))] [])
 .ret)
 (.seq (.reg [mv 8 0,
 o0 9 (.slen (.s 8)),
 o0 10 (.bin .gtr (.s 9) (.c (.int .i64 64))),
 mv 7 10] [8,9,10])
 (.cond (.s 7)
 (.seq (.reg [o0 2 (.mov (.c (.int .i64 6)))] [])
 .ret)
 .skip)))))
 (.seq (.reg [o0 2 (.mov (.c (.int .i64 0)))] [])
 .ret)))⟩

theorem cX105:compF Tryz.prog 40 = some FX105:=by kernel_rfl
abbrev nX105:FuncId:=40

def FX86:IFun :=
⟨25,2,[.tmp 4],
 (.seq (.reg [o0 4 (.mov (.c (.int .i64 0)))] [])
 (.seq (.seq (.reg [mv 8 0,
 o0 9 (.len (.s 8)),
 mv 10 1,
 o0 11 (.bin .gtr (.s 9) (.s 10))] [8,9,10])
 (.cond (.s 11)
 (.seq (.reg [o0 4 (.mov (.c (.int .i64 6)))] [])
 .ret)
 .skip))
 (.seq (.seq (.reg [mv 12 0,
 o0 13 (.len (.s 12)),
 o0 14 (.mov (.c (.int .i64 0)))] [])
 (.block 0 (.loop (.seq (.reg [o0 15 (.bin .lss (.s 14) (.s 13))] [])
 (.seq (.cond (.s 15)
 .skip
 (.exit 0))
 (.seq (.block 1 (.seq (.reg [o0 16 (.iadr 2 (.s 12) (.s 14)),
 o0 17 (.load (some 2) (.s 16)),
 o0 6 (.new 129 [(.int .i64 0),(.str [])]),
 ⟨none,.store 2 (.s 6) (.s 17),none⟩] [16,17])
 (.seq (.reg [o0 18 (.fadr 1 (.s 6)),
 o0 19 (.load none (.s 18)),
 o0 20 (.call 40 [(.s 19)]),
 mv 7 20] [18,19,20])
 (.seq (.reg [mv 21 7,
 o0 22 (.bin .neq (.s 21) (.c (.int .i64 0)))] [21])
 (.cond (.s 22)
 (.seq (.reg [mv 23 7,
 mv 4 23] [23])
 .ret)
 .skip)))))
 (.reg [o0 24 (.bin .add (.s 14) (.c (.int .i64 1))),
 mv 14 24] [24])))))))
 (.seq (.reg [o0 4 (.mov (.c (.int .i64 0)))] [])
 .ret))))⟩

theorem cX86:compF Tryz.prog 41 = some FX86:=by kernel_rfl
abbrev nX86:FuncId:=41

def FX129:IFun :=
⟨42,1,[.tmp 2],
 (.seq (.reg [o0 1 (.box 25 3 (.s 0)),
 o0 2 (.mov (.c .nl))] [])
 (.seq (.reg [o0 3 (.mov (.c .nl))] [])
 (.seq (.seq (.reg [o0 9 (.fadr 2 (.s 1)),
 o0 10 (.load none (.s 9)),
 o0 11 (.len (.s 10)),
 o0 12 (.mov (.c (.int .i64 0)))] [9])
 (.block 0 (.loop (.seq (.reg [o0 13 (.bin .lss (.s 12) (.s 11))] [])
 (.seq (.cond (.s 13)
 .skip
 (.exit 0))
 (.seq (.block 1 (.seq (.reg [o0 14 (.iadr 2 (.s 10) (.s 12)),
 o0 15 (.load (some 2) (.s 14)),
 o0 5 (.new 55 [(.int .i64 0),.nl]),
 ⟨none,.store 2 (.s 5) (.s 15),none⟩] [14,15])
 (.reg [mv 16 3,
 o0 17 (.fadr 0 (.s 5)),
 o0 18 (.load none (.s 17)),
 o0 19 (.bsl 3 1 [[(.int .i64 0)]] [(0,(.s 18))]),
 o0 20 (.app 3 1 (.s 16) (.s 19)),
 mv 3 20] [16,17,18,19,20])))
 (.reg [o0 21 (.bin .add (.s 12) (.c (.int .i64 1))),
 mv 12 21] [21])))))))
 (.seq (.reg [o0 22 (.fadr 1 (.s 1)),
 o0 23 (.load none (.s 22)),
 o0 24 (.call 88 [(.s 23)]),
 mv 25 3,
 o0 26 (.bsl 82 1 [[.nl],[.nl]] [(0,(.s 24)),(1,(.s 25))]),
 mv 6 26] [22,23,24,25,26])
 (.seq (.seq (.reg [o0 27 (.fadr 2 (.s 1)),
 o0 28 (.load none (.s 27)),
 o0 29 (.len (.s 28)),
 o0 30 (.mov (.c (.int .i64 0)))] [27])
 (.block 2 (.loop (.seq (.reg [o0 31 (.bin .lss (.s 30) (.s 29))] [])
 (.seq (.cond (.s 31)
 .skip
 (.exit 2))
 (.seq (.block 3 (.seq (.reg [o0 32 (.iadr 2 (.s 28) (.s 30)),
 o0 33 (.load (some 2) (.s 32)),
 o0 8 (.new 55 [(.int .i64 0),.nl]),
 ⟨none,.store 2 (.s 8) (.s 33),none⟩] [32,33])
 (.reg [mv 34 6,
 o0 35 (.fadr 1 (.s 8)),
 o0 36 (.load none (.s 35)),
 o0 37 (.call 88 [(.s 36)]),
 o0 38 (.bsl 82 1 [[.nl]] [(0,(.s 37))]),
 o0 39 (.app 82 1 (.s 34) (.s 38)),
 mv 6 39] [34,35,36,37,38,39])))
 (.reg [o0 40 (.bin .add (.s 30) (.c (.int .i64 1))),
 mv 30 40] [40])))))))
 (.seq (.reg [mv 41 6,
 mv 2 41] [41])
 .ret))))))⟩

theorem cX129:compF Tryz.prog 42 = some FX129:=by kernel_rfl
abbrev nX129:FuncId:=42

def FX121:IFun :=
⟨40,1,[.tmp 2],
 (.seq (.reg [o0 1 (.box 25 3 (.s 0)),
 o0 2 (.mov (.c (.int .i64 0)))] [])
 (.seq (.seq (.reg [o0 7 (.fadr 0 (.s 1)),
 o0 8 (.load none (.s 7)),
 o0 9 (.call 89 [(.s 8)]),
 mv 3 9] [7,8,9])
 (.seq (.reg [mv 10 3,
 o0 11 (.bin .neq (.s 10) (.c (.int .i64 0)))] [10])
 (.cond (.s 11)
 (.seq (.reg [mv 12 3,
 mv 2 12] [12])
 .ret)
 .skip)))
 (.seq (.seq (.reg [o0 13 (.fadr 1 (.s 1)),
 o0 14 (.load none (.s 13)),
 o0 15 (.call 90 [(.s 14),(.c (.int .i64 64))]),
 mv 4 15] [13,14,15])
 (.seq (.reg [mv 16 4,
 o0 17 (.bin .neq (.s 16) (.c (.int .i64 0)))] [16])
 (.cond (.s 17)
 (.seq (.reg [mv 18 4,
 mv 2 18] [18])
 .ret)
 .skip)))
 (.seq (.seq (.reg [o0 19 (.fadr 2 (.s 1)),
 o0 20 (.load none (.s 19)),
 o0 21 (.len (.s 20)),
 o0 22 (.bin .gtr (.s 21) (.c (.int .i64 64)))] [19,20,21])
 (.cond (.s 22)
 (.seq (.reg [o0 2 (.mov (.c (.int .i64 6)))] [])
 .ret)
 .skip))
 (.seq (.seq (.reg [o0 5 (.mov (.c (.int .i64 0)))] [])
 (.block 0 (.loop (.seq (.seq (.reg [mv 23 5,
 o0 24 (.fadr 2 (.s 1)),
 o0 25 (.load none (.s 24)),
 o0 26 (.len (.s 25)),
 o0 27 (.bin .lss (.s 23) (.s 26))] [23,24,25,26])
 (.cond (.s 27)
 .skip
 (.exit 0)))
 (.seq (.block 1 (.seq (.reg [o0 30 (.fadr 2 (.s 1)),
 o0 31 (.load none (.s 30)),
 mv 32 5,
 o0 33 (.iadr 2 (.s 31) (.s 32)),
 o0 34 (.fadr 1 (.s 33)),
 o0 35 (.load none (.s 34)),
 o0 36 (.call 90 [(.s 35),(.c (.int .i64 72))]),
 mv 6 36] [30,31,32,33,34,35,36])
 (.seq (.reg [mv 37 6,
 o0 38 (.bin .neq (.s 37) (.c (.int .i64 0)))] [37])
 (.cond (.s 38)
 (.seq (.reg [mv 39 6,
 mv 2 39] [39])
 .ret)
 .skip))))
 (.reg [mv 28 5,
 o0 29 (.bin .add (.s 28) (.c (.int .i64 1))),
 mv 5 29] [28,29]))))))
 (.seq (.reg [o0 2 (.mov (.c (.int .i64 0)))] [])
 .ret))))))⟩

theorem cX121:compF Tryz.prog 43 = some FX121:=by kernel_rfl
abbrev nX121:FuncId:=43

def FX70:IFun :=
⟨22,1,[.tmp 2],
 (.seq (.reg [o0 2 (.mov (.c (.bool false)))] [])
 (.seq (.seq (.reg [o0 3 (.mov (.c (.int .i64 0)))] [])
 (.block 0 (.loop (.seq (.seq (.reg [mv 4 3,
 mv 5 0,
 o0 6 (.len (.s 5)),
 o0 7 (.bin .lss (.s 4) (.s 6))] [4,5,6])
 (.cond (.s 7)
 .skip
 (.exit 0)))
 (.seq (.block 1 (.seq (.reg [mv 10 0,
 mv 11 3,
 o0 12 (.iadr 1 (.s 10) (.s 11)),
 o0 13 (.load none (.s 12)),
 o0 14 (.bin .lss (.s 13) (.c (.int .i64 0))),
 mv 15 14,
 mf 16 0 15,
 mf 17 3 15,
 oF 18 15 (.iadr 1 (.s 16) (.s 17)),
 oF 19 15 (.load none (.s 18)),
 oF 20 15 (.bin .geq (.s 19) (.c (.int .i64 4294967296))),
 o0 21 (.pick (.s 15) (.c (.bool true)) (.s 20))] [10,11,12,13,14,15,16,17,18,19,20])
 (.cond (.s 21)
 (.seq (.reg [o0 2 (.mov (.c (.bool false)))] [])
 .ret)
 .skip)))
 (.reg [mv 8 3,
 o0 9 (.bin .add (.s 8) (.c (.int .i64 1))),
 mv 3 9] [8,9]))))))
 (.seq (.reg [o0 2 (.mov (.c (.bool true)))] [])
 .ret)))⟩

theorem cX70:compF Tryz.prog 44 = some FX70:=by kernel_rfl
abbrev nX70:FuncId:=44

def FX63:IFun :=
⟨20,1,[.tmp 2],
 (.seq (.reg [o0 2 (.mov (.c .nl))] [])
 (.seq (.reg [o0 3 (.mov (.c .nl))] [])
 (.seq (.seq (.reg [o0 4 (.mov (.c (.int .i64 0)))] [])
 (.block 0 (.loop (.seq (.seq (.reg [mv 5 4,
 mv 6 0,
 o0 7 (.len (.s 6)),
 o0 8 (.bin .lss (.s 5) (.s 7))] [5,6,7])
 (.cond (.s 8)
 .skip
 (.exit 0)))
 (.seq (.block 1 (.reg [mv 11 3,
 mv 12 0,
 mv 13 4,
 o0 14 (.iadr 2 (.s 12) (.s 13)),
 o0 15 (.fadr 0 (.s 14)),
 o0 16 (.load none (.s 15)),
 o0 17 (.bsl 3 1 [[(.int .i64 0)]] [(0,(.s 16))]),
 o0 18 (.app 3 1 (.s 11) (.s 17)),
 mv 3 18] [11,12,13,14,15,16,17,18]))
 (.reg [mv 9 4,
 o0 10 (.bin .add (.s 9) (.c (.int .i64 1))),
 mv 4 10] [9,10]))))))
 (.seq (.reg [mv 19 3,
 mv 2 19] [19])
 .ret))))⟩

theorem cX63:compF Tryz.prog 45 = some FX63:=by kernel_rfl
abbrev nX63:FuncId:=45

def FX79:IFun :=
⟨20,1,[.tmp 2],
 (.seq (.reg [o0 2 (.mov (.c .nl))] [])
 (.seq (.reg [o0 3 (.mov (.c .nl))] [])
 (.seq (.seq (.reg [o0 4 (.mov (.c (.int .i64 0)))] [])
 (.block 0 (.loop (.seq (.seq (.reg [mv 5 4,
 mv 6 0,
 o0 7 (.len (.s 6)),
 o0 8 (.bin .lss (.s 5) (.s 7))] [5,6,7])
 (.cond (.s 8)
 .skip
 (.exit 0)))
 (.seq (.block 1 (.reg [mv 11 3,
 mv 12 0,
 mv 13 4,
 o0 14 (.iadr 2 (.s 12) (.s 13)),
 o0 15 (.fadr 0 (.s 14)),
 o0 16 (.load none (.s 15)),
 o0 17 (.bsl 3 1 [[(.int .i64 0)]] [(0,(.s 16))]),
 o0 18 (.app 3 1 (.s 11) (.s 17)),
 mv 3 18] [11,12,13,14,15,16,17,18]))
 (.reg [mv 9 4,
 o0 10 (.bin .add (.s 9) (.c (.int .i64 1))),
 mv 4 10] [9,10]))))))
 (.seq (.reg [mv 19 3,
 mv 2 19] [19])
 .ret))))⟩

theorem cX79:compF Tryz.prog 46 = some FX79:=by kernel_rfl
abbrev nX79:FuncId:=46

def FX98:IFun :=
⟨20,1,[.tmp 2],
 (.seq (.reg [o0 2 (.mov (.c (.bool false)))] [])
 (.seq (.seq (.reg [o0 3 (.mov (.c (.int .i64 1)))] [])
 (.block 0 (.loop (.seq (.seq (.reg [mv 4 3,
 mv 5 0,
 o0 6 (.len (.s 5)),
 o0 7 (.bin .lss (.s 4) (.s 6))] [4,5,6])
 (.cond (.s 7)
 .skip
 (.exit 0)))
 (.seq (.block 1 (.seq (.seq (.draw [⟨mv 10 0,[]⟩,
 ⟨mv 11 3,[]⟩,
 ⟨o0 12 (.iadr 1 (.s 10) (.s 11)),[0,1]⟩,
 ⟨o0 13 (.load none (.s 12)),[2,0,1]⟩,
 ⟨mv 14 0,[]⟩,
 ⟨mv 15 3,[]⟩,
 ⟨o0 16 (.bin .sub (.s 15) (.c (.int .i64 1))),[5]⟩,
 ⟨o0 17 (.iadr 1 (.s 14) (.s 16)),[4,6,5]⟩,
 ⟨o0 18 (.load none (.s 17)),[7,4,6,5]⟩] [] [])
 (.reg [o0 19 (.bin .leq (.s 13) (.s 18))] [10,11,12,13,14,15,16,17,18]))
 (.cond (.s 19)
 (.seq (.reg [o0 2 (.mov (.c (.bool false)))] [])
 .ret)
 .skip)))
 (.reg [mv 8 3,
 o0 9 (.bin .add (.s 8) (.c (.int .i64 1))),
 mv 3 9] [8,9]))))))
 (.seq (.reg [o0 2 (.mov (.c (.bool true)))] [])
 .ret)))⟩

theorem cX98:compF Tryz.prog 47 = some FX98:=by kernel_rfl
abbrev nX98:FuncId:=47

def FX127:IFun :=
⟨44,1,[.cell 2 (some 12)],
 (.seq (.reg [o0 1 (.box 44 12 (.s 0)),
 o0 2 (.new 44 [.nl,.nl,.nl,.nl,.nl,.nl,.nl,(.bool false),(.int .i64 0),.nl,.nl,.nl])] [])
 (.seq (.reg [o0 3 (.fadr 0 (.s 1)),
 o0 4 (.load none (.s 3)),
 o0 5 (.call 91 [(.s 4),(.c (.fn 92 []))]),
 o0 6 (.fadr 0 (.s 1)),
 ⟨none,.store 1 (.s 6) (.s 5),none⟩] [3,4,5,6])
 (.seq (.seq (.draw [⟨o0 7 (.fadr 1 (.s 1)),[]⟩,
 ⟨o0 8 (.load none (.s 7)),[0]⟩,
 ⟨o0 9 (.call 94 [(.s 8)]),[1,0]⟩,
 ⟨o0 10 (.fadr 3 (.s 1)),[]⟩,
 ⟨o0 11 (.load none (.s 10)),[3]⟩,
 ⟨o0 12 (.call 95 [(.s 11)]),[4,3,2,1,0]⟩,
 ⟨o0 13 (.fadr 4 (.s 1)),[]⟩,
 ⟨o0 14 (.load none (.s 13)),[6]⟩,
 ⟨o0 15 (.call 96 [(.s 14)]),[7,6,5,4,3,2,1,0]⟩,
 ⟨o0 16 (.fadr 6 (.s 1)),[]⟩,
 ⟨o0 17 (.load none (.s 16)),[9]⟩,
 ⟨o0 18 (.call 97 [(.s 17)]),[10,9,8,7,6,5,4,3,2,1,0]⟩,
 ⟨o0 19 (.fadr 1 (.s 1)),[0,1,2,3,4,6,7,9,10]⟩] [] [])
 (.seq (.reg [⟨none,.store 1 (.s 19) (.s 9),none⟩] [])
 (.seq (.reg [o0 20 (.fadr 3 (.s 1))] [])
 (.seq (.reg [⟨none,.store 1 (.s 20) (.s 12),none⟩] [])
 (.seq (.reg [o0 21 (.fadr 4 (.s 1))] [])
 (.seq (.reg [⟨none,.store 1 (.s 21) (.s 15),none⟩] [])
 (.seq (.reg [o0 22 (.fadr 6 (.s 1))] [])
 (.reg [⟨none,.store 1 (.s 22) (.s 18),none⟩] [7,8,9,10,11,12,13,14,15,16,17,18,19,20,21,22]))))))))
 (.seq (.reg [o0 23 (.fadr 2 (.s 1)),
 o0 24 (.load none (.s 23)),
 o0 25 (.call 98 [(.s 24),(.c (.fn 99 []))]),
 o0 26 (.fadr 2 (.s 1)),
 ⟨none,.store 1 (.s 26) (.s 25),none⟩] [23,24,25,26])
 (.seq (.reg [o0 27 (.fadr 5 (.s 1)),
 o0 28 (.load none (.s 27)),
 o0 29 (.call 101 [(.s 28),(.c (.fn 102 []))]),
 o0 30 (.fadr 5 (.s 1)),
 ⟨none,.store 1 (.s 30) (.s 29),none⟩] [27,28,29,30])
 (.seq (.reg [o0 31 (.fadr 9 (.s 1)),
 o0 32 (.load none (.s 31)),
 o0 33 (.call 103 [(.s 32),(.c (.fn 104 []))]),
 o0 34 (.fadr 9 (.s 1)),
 ⟨none,.store 1 (.s 34) (.s 33),none⟩] [31,32,33,34])
 (.seq (.reg [o0 35 (.fadr 10 (.s 1)),
 o0 36 (.load none (.s 35)),
 o0 37 (.call 106 [(.s 36),(.c (.fn 107 []))]),
 o0 38 (.fadr 10 (.s 1)),
 ⟨none,.store 1 (.s 38) (.s 37),none⟩] [35,36,37,38])
 (.seq (.reg [o0 39 (.fadr 11 (.s 1)),
 o0 40 (.load none (.s 39)),
 o0 41 (.call 109 [(.s 40),(.c (.fn 110 []))]),
 o0 42 (.fadr 11 (.s 1)),
 ⟨none,.store 1 (.s 42) (.s 41),none⟩] [39,40,41,42])
 (.seq (.reg [o0 43 (.load (some 12) (.s 1)),
 ⟨none,.store 12 (.s 2) (.s 43),none⟩] [43])
 .ret)))))))))⟩

theorem cX127:compF Tryz.prog 48 = some FX127:=by kernel_rfl
abbrev nX127:FuncId:=48

def FX114:IFun :=
⟨64,1,[.tmp 2],
 (.seq (.reg [o0 1 (.box 44 12 (.s 0)),
 o0 2 (.mov (.c (.int .i64 0)))] [])
 (.seq (.seq (.reg [o0 5 (.fadr 10 (.s 1)),
 o0 6 (.load none (.s 5)),
 o0 7 (.len (.s 6)),
 o0 8 (.bin .gtr (.s 7) (.c (.int .i64 0))),
 o0 9 (.build [(.bool false),(.int .i64 0)] [(0,1,(.s 8)),(1,1,(.c (.int .i64 12)))]),
 o0 10 (.fadr 2 (.s 1)),
 o0 11 (.load none (.s 10)),
 o0 12 (.len (.s 11)),
 o0 13 (.bin .gtr (.s 12) (.c (.int .i64 0))),
 o0 14 (.build [(.bool false),(.int .i64 0)] [(0,1,(.s 13)),(1,1,(.c (.int .i64 11)))]),
 o0 15 (.fadr 9 (.s 1)),
 o0 16 (.load none (.s 15)),
 o0 17 (.len (.s 16)),
 o0 18 (.bin .gtr (.s 17) (.c (.int .i64 0))),
 o0 19 (.build [(.bool false),(.int .i64 0)] [(0,1,(.s 18)),(1,1,(.c (.int .i64 9)))]),
 o0 20 (.fadr 7 (.s 1)),
 o0 21 (.load none (.s 20)),
 o0 22 (.build [(.bool false),(.int .i64 0)] [(0,1,(.s 21)),(1,1,(.c (.int .i64 8)))]),
 o0 23 (.fadr 6 (.s 1)),
 o0 24 (.load none (.s 23)),
 o0 25 (.len (.s 24)),
 o0 26 (.bin .gtr (.s 25) (.c (.int .i64 0))),
 o0 27 (.build [(.bool false),(.int .i64 0)] [(0,1,(.s 26)),(1,1,(.c (.int .i64 7)))]),
 o0 28 (.fadr 5 (.s 1)),
 o0 29 (.load none (.s 28)),
 o0 30 (.len (.s 29)),
 o0 31 (.bin .gtr (.s 30) (.c (.int .i64 0))),
 o0 32 (.build [(.bool false),(.int .i64 0)] [(0,1,(.s 31)),(1,1,(.c (.int .i64 6)))]),
 o0 33 (.fadr 4 (.s 1)),
 o0 34 (.load none (.s 33)),
 o0 35 (.len (.s 34)),
 o0 36 (.bin .gtr (.s 35) (.c (.int .i64 0))),
 o0 37 (.build [(.bool false),(.int .i64 0)] [(0,1,(.s 36)),(1,1,(.c (.int .i64 5)))]),
 o0 38 (.fadr 3 (.s 1)),
 o0 39 (.load none (.s 38)),
 o0 40 (.len (.s 39)),
 o0 41 (.bin .gtr (.s 40) (.c (.int .i64 0))),
 o0 42 (.build [(.bool false),(.int .i64 0)] [(0,1,(.s 41)),(1,1,(.c (.int .i64 4)))]),
 o0 43 (.fadr 1 (.s 1)),
 o0 44 (.load none (.s 43)),
 o0 45 (.len (.s 44)),
 o0 46 (.bin .gtr (.s 45) (.c (.int .i64 0))),
 o0 47 (.build [(.bool false),(.int .i64 0)] [(0,1,(.s 46)),(1,1,(.c (.int .i64 2)))]),
 o0 48 (.fadr 0 (.s 1)),
 o0 49 (.load none (.s 48)),
 o0 50 (.len (.s 49)),
 o0 51 (.bin .gtr (.s 50) (.c (.int .i64 0))),
 o0 52 (.build [(.bool false),(.int .i64 0)] [(0,1,(.s 51)),(1,1,(.c (.int .i64 1)))]),
 o0 53 (.bsl 174 2 [[(.bool false),(.int .i64 0)],[(.bool false),(.int .i64 0)],[(.bool false),(.int .i64 0)],[(.bool false),(.int .i64 0)],[(.bool false),(.int .i64 0)],[(.bool false),(.int .i64 0)],[(.bool false),(.int .i64 0)],[(.bool false),(.int .i64 0)],[(.bool false),(.int .i64 0)],[(.bool false),(.int .i64 0)]] [(0,(.s 9)),(1,(.s 14)),(2,(.s 19)),(3,(.s 22)),(4,(.s 27)),(5,(.s 32)),(6,(.s 37)),(7,(.s 42)),(8,(.s 47)),(9,(.s 52))]),
 o0 54 (.len (.s 53)),
 o0 55 (.mov (.c (.int .i64 0)))] [5,6,7,8,9,10,11,12,13,14,15,16,17,18,19,20,21,22,23,24,25,26,27,28,29,30,31,32,33,34,35,36,37,38,39,40,41,42,43,44,45,46,47,48,49,50,51,52])
 (.block 0 (.loop (.seq (.reg [o0 56 (.bin .lss (.s 55) (.s 54))] [])
 (.seq (.cond (.s 56)
 .skip
 (.exit 0))
 (.seq (.block 1 (.seq (.reg [o0 57 (.iadr 2 (.s 53) (.s 55)),
 o0 58 (.load (some 2) (.s 57)),
 o0 4 (.new 174 [(.bool false),(.int .i64 0)]),
 ⟨none,.store 2 (.s 4) (.s 58),none⟩] [57,58])
 (.seq (.reg [o0 59 (.fadr 0 (.s 4)),
 o0 60 (.load none (.s 59))] [59])
 (.cond (.s 60)
 (.seq (.reg [o0 61 (.fadr 1 (.s 4)),
 o0 62 (.load none (.s 61)),
 mv 2 62] [61,62])
 .ret)
 .skip))))
 (.reg [o0 63 (.bin .add (.s 55) (.c (.int .i64 1))),
 mv 55 63] [63])))))))
 (.seq (.reg [o0 2 (.mov (.c (.int .i64 0)))] [])
 .ret)))⟩

theorem cX114:compF Tryz.prog 49 = some FX114:=by kernel_rfl
abbrev nX114:FuncId:=49

def FX50:IFun :=
⟨27,2,[.tmp 4],
 (.seq (.reg [o0 4 (.mov (.c (.bool false)))] [])
 (.seq (.seq (.reg [mv 6 0,
 o0 7 (.len (.s 6)),
 mv 8 1,
 o0 9 (.len (.s 8)),
 o0 10 (.bin .neq (.s 7) (.s 9))] [6,7,8,9])
 (.cond (.s 10)
 (.seq (.reg [o0 4 (.mov (.c (.bool false)))] [])
 .ret)
 .skip))
 (.seq (.seq (.reg [o0 5 (.mov (.c (.int .i64 0)))] [])
 (.block 0 (.loop (.seq (.seq (.reg [mv 11 5,
 mv 12 0,
 o0 13 (.len (.s 12)),
 o0 14 (.bin .lss (.s 11) (.s 13))] [11,12,13])
 (.cond (.s 14)
 .skip
 (.exit 0)))
 (.seq (.block 1 (.seq (.seq (.draw [⟨mv 17 0,[]⟩,
 ⟨mv 18 5,[]⟩,
 ⟨o0 19 (.iadr 2 (.s 17) (.s 18)),[0,1]⟩,
 ⟨o0 20 (.load (some 2) (.s 19)),[2,0,1]⟩,
 ⟨mv 21 1,[]⟩,
 ⟨mv 22 5,[]⟩,
 ⟨o0 23 (.iadr 2 (.s 21) (.s 22)),[4,5]⟩,
 ⟨o0 24 (.load (some 2) (.s 23)),[6,4,5]⟩] [] [])
 (.seq (.reg [o0 25 (.call 111 [(.s 20),(.s 24)])] [])
 (.reg [o0 26 (.un .not (.s 25))] [17,18,19,20,21,22,23,24,25])))
 (.cond (.s 26)
 (.seq (.reg [o0 4 (.mov (.c (.bool false)))] [])
 .ret)
 .skip)))
 (.reg [mv 15 5,
 o0 16 (.bin .add (.s 15) (.c (.int .i64 1))),
 mv 5 16] [15,16]))))))
 (.seq (.reg [o0 4 (.mov (.c (.bool true)))] [])
 .ret))))⟩

theorem cX50:compF Tryz.prog 50 = some FX50:=by kernel_rfl
abbrev nX50:FuncId:=50

def FX39:IFun :=
⟨26,2,[.tmp 4],
 (.seq (.reg [o0 4 (.mov (.c (.bool false)))] [])
 (.seq (.seq (.reg [mv 6 0,
 o0 7 (.len (.s 6)),
 mv 8 1,
 o0 9 (.len (.s 8)),
 o0 10 (.bin .neq (.s 7) (.s 9))] [6,7,8,9])
 (.cond (.s 10)
 (.seq (.reg [o0 4 (.mov (.c (.bool false)))] [])
 .ret)
 .skip))
 (.seq (.seq (.reg [o0 5 (.mov (.c (.int .i64 0)))] [])
 (.block 0 (.loop (.seq (.seq (.reg [mv 11 5,
 mv 12 0,
 o0 13 (.len (.s 12)),
 o0 14 (.bin .lss (.s 11) (.s 13))] [11,12,13])
 (.cond (.s 14)
 .skip
 (.exit 0)))
 (.seq (.block 1 (.seq (.seq (.draw [⟨mv 17 0,[]⟩,
 ⟨mv 18 5,[]⟩,
 ⟨o0 19 (.iadr 13 (.s 17) (.s 18)),[0,1]⟩,
 ⟨o0 20 (.load (some 13) (.s 19)),[2,0,1]⟩,
 ⟨mv 21 1,[]⟩,
 ⟨mv 22 5,[]⟩,
 ⟨o0 23 (.iadr 13 (.s 21) (.s 22)),[4,5]⟩,
 ⟨o0 24 (.load (some 13) (.s 23)),[6,4,5]⟩] [] [])
 (.reg [o0 25 (.sbin .neq [.s,.s,.i,.i,.i,.i,.i,.b,.i,.i,.b,.i,.b] (.s 20) (.s 24))] [17,18,19,20,21,22,23,24]))
 (.cond (.s 25)
 (.seq (.reg [o0 4 (.mov (.c (.bool false)))] [])
 .ret)
 .skip)))
 (.reg [mv 15 5,
 o0 16 (.bin .add (.s 15) (.c (.int .i64 1))),
 mv 5 16] [15,16]))))))
 (.seq (.reg [o0 4 (.mov (.c (.bool true)))] [])
 .ret))))⟩

theorem cX39:compF Tryz.prog 51 = some FX39:=by kernel_rfl
abbrev nX39:FuncId:=51

def FX46:IFun :=
⟨56,2,[.tmp 4],
 (.seq (.reg [o0 4 (.mov (.c (.bool false)))] [])
 (.seq (.seq (.reg [mv 6 0,
 o0 7 (.len (.s 6)),
 mv 8 1,
 o0 9 (.len (.s 8)),
 o0 10 (.bin .neq (.s 7) (.s 9))] [6,7,8,9])
 (.cond (.s 10)
 (.seq (.reg [o0 4 (.mov (.c (.bool false)))] [])
 .ret)
 .skip))
 (.seq (.seq (.reg [o0 5 (.mov (.c (.int .i64 0)))] [])
 (.block 0 (.loop (.seq (.seq (.reg [mv 11 5,
 mv 12 0,
 o0 13 (.len (.s 12)),
 o0 14 (.bin .lss (.s 11) (.s 13))] [11,12,13])
 (.cond (.s 14)
 .skip
 (.exit 0)))
 (.seq (.block 1 (.seq (.seq (.draw [⟨mv 17 0,[]⟩,
 ⟨mv 18 5,[]⟩,
 ⟨o0 19 (.iadr 3 (.s 17) (.s 18)),[0,1]⟩,
 ⟨o0 20 (.fadr 0 (.s 19)),[2,0,1]⟩,
 ⟨o0 21 (.load none (.s 20)),[3,2,0,1]⟩,
 ⟨mv 22 1,[]⟩,
 ⟨mv 23 5,[]⟩,
 ⟨o0 24 (.iadr 3 (.s 22) (.s 23)),[5,6]⟩,
 ⟨o0 25 (.fadr 0 (.s 24)),[7,5,6]⟩,
 ⟨o0 26 (.load none (.s 25)),[8,7,5,6]⟩] [] [])
 (.seq (.reg [o0 27 (.bin .neq (.s 21) (.s 26))] [])
 (.seq (.reg [mv 28 27] [])
 (.seq (.draw [⟨mf 29 0 28,[]⟩,
 ⟨mf 30 5 28,[]⟩,
 ⟨oF 31 28 (.iadr 3 (.s 29) (.s 30)),[0,1]⟩,
 ⟨oF 32 28 (.fadr 1 (.s 31)),[2,0,1]⟩,
 ⟨oF 33 28 (.load none (.s 32)),[3,2,0,1]⟩,
 ⟨mf 34 1 28,[]⟩,
 ⟨mf 35 5 28,[]⟩,
 ⟨oF 36 28 (.iadr 3 (.s 34) (.s 35)),[5,6]⟩,
 ⟨oF 37 28 (.fadr 1 (.s 36)),[7,5,6]⟩,
 ⟨oF 38 28 (.load none (.s 37)),[8,7,5,6]⟩] [] [])
 (.seq (.reg [oF 39 28 (.call 112 [(.s 33),(.s 38)])] [])
 (.seq (.reg [oF 40 28 (.un .not (.s 39))] [])
 (.seq (.reg [o0 41 (.pick (.s 28) (.c (.bool true)) (.s 40))] [])
 (.seq (.reg [mv 42 41] [])
 (.seq (.draw [⟨mf 43 0 42,[]⟩,
 ⟨mf 44 5 42,[]⟩,
 ⟨oF 45 42 (.iadr 3 (.s 43) (.s 44)),[0,1]⟩,
 ⟨oF 46 42 (.fadr 2 (.s 45)),[2,0,1]⟩,
 ⟨oF 47 42 (.load none (.s 46)),[3,2,0,1]⟩,
 ⟨mf 48 1 42,[]⟩,
 ⟨mf 49 5 42,[]⟩,
 ⟨oF 50 42 (.iadr 3 (.s 48) (.s 49)),[5,6]⟩,
 ⟨oF 51 42 (.fadr 2 (.s 50)),[7,5,6]⟩,
 ⟨oF 52 42 (.load none (.s 51)),[8,7,5,6]⟩] [] [])
 (.seq (.reg [oF 53 42 (.call 113 [(.s 47),(.s 52)])] [])
 (.seq (.reg [oF 54 42 (.un .not (.s 53))] [])
 (.reg [o0 55 (.pick (.s 42) (.c (.bool true)) (.s 54))] [17,18,19,20,21,22,23,24,25,26,27,28,29,30,31,32,33,34,35,36,37,38,39,40,41,42,43,44,45,46,47,48,49,50,51,52,53,54]))))))))))))
 (.cond (.s 55)
 (.seq (.reg [o0 4 (.mov (.c (.bool false)))] [])
 .ret)
 .skip)))
 (.reg [mv 15 5,
 o0 16 (.bin .add (.s 15) (.c (.int .i64 1))),
 mv 5 16] [15,16]))))))
 (.seq (.reg [o0 4 (.mov (.c (.bool true)))] [])
 .ret))))⟩

theorem cX46:compF Tryz.prog 52 = some FX46:=by kernel_rfl
abbrev nX46:FuncId:=52

def FX45:IFun :=
⟨59,2,[.tmp 4],
 (.seq (.reg [o0 2 (.box 44 12 (.s 0)),
 o0 3 (.box 44 12 (.s 1)),
 o0 4 (.mov (.c (.bool false)))] [])
 (.seq (.seq (.reg [o0 7 (.fadr 3 (.s 2)),
 o0 8 (.load none (.s 7)),
 o0 9 (.len (.s 8)),
 o0 10 (.fadr 3 (.s 3)),
 o0 11 (.load none (.s 10)),
 o0 12 (.len (.s 11)),
 o0 13 (.bin .neq (.s 9) (.s 12)),
 mv 14 13,
 oF 15 14 (.fadr 4 (.s 2)),
 oF 16 14 (.load none (.s 15)),
 oF 17 14 (.len (.s 16)),
 oF 18 14 (.fadr 4 (.s 3)),
 oF 19 14 (.load none (.s 18)),
 oF 20 14 (.len (.s 19)),
 oF 21 14 (.bin .neq (.s 17) (.s 20)),
 o0 22 (.pick (.s 14) (.c (.bool true)) (.s 21))] [7,8,9,10,11,12,13,14,15,16,17,18,19,20,21])
 (.cond (.s 22)
 (.seq (.reg [o0 4 (.mov (.c (.bool false)))] [])
 .ret)
 .skip))
 (.seq (.seq (.reg [o0 5 (.mov (.c (.int .i64 0)))] [])
 (.block 0 (.loop (.seq (.seq (.reg [mv 23 5,
 o0 24 (.fadr 3 (.s 2)),
 o0 25 (.load none (.s 24)),
 o0 26 (.len (.s 25)),
 o0 27 (.bin .lss (.s 23) (.s 26))] [23,24,25,26])
 (.cond (.s 27)
 .skip
 (.exit 0)))
 (.seq (.block 1 (.seq (.seq (.draw [⟨o0 30 (.fadr 3 (.s 2)),[]⟩,
 ⟨o0 31 (.load none (.s 30)),[0]⟩,
 ⟨mv 32 5,[]⟩,
 ⟨o0 33 (.iadr 4 (.s 31) (.s 32)),[1,0,2]⟩,
 ⟨o0 34 (.load (some 4) (.s 33)),[3,1,0,2]⟩,
 ⟨o0 35 (.fadr 3 (.s 3)),[]⟩,
 ⟨o0 36 (.load none (.s 35)),[5]⟩,
 ⟨mv 37 5,[]⟩,
 ⟨o0 38 (.iadr 4 (.s 36) (.s 37)),[6,5,7]⟩,
 ⟨o0 39 (.load (some 4) (.s 38)),[8,6,5,7]⟩] [] [])
 (.reg [o0 40 (.sbin .neq [.i,.i,.i,.b] (.s 34) (.s 39))] [30,31,32,33,34,35,36,37,38,39]))
 (.cond (.s 40)
 (.seq (.reg [o0 4 (.mov (.c (.bool false)))] [])
 .ret)
 .skip)))
 (.reg [mv 28 5,
 o0 29 (.bin .add (.s 28) (.c (.int .i64 1))),
 mv 5 29] [28,29]))))))
 (.seq (.seq (.reg [o0 6 (.mov (.c (.int .i64 0)))] [])
 (.block 2 (.loop (.seq (.seq (.reg [mv 41 6,
 o0 42 (.fadr 4 (.s 2)),
 o0 43 (.load none (.s 42)),
 o0 44 (.len (.s 43)),
 o0 45 (.bin .lss (.s 41) (.s 44))] [41,42,43,44])
 (.cond (.s 45)
 .skip
 (.exit 2)))
 (.seq (.block 3 (.seq (.seq (.draw [⟨o0 48 (.fadr 4 (.s 2)),[]⟩,
 ⟨o0 49 (.load none (.s 48)),[0]⟩,
 ⟨mv 50 6,[]⟩,
 ⟨o0 51 (.iadr 3 (.s 49) (.s 50)),[1,0,2]⟩,
 ⟨o0 52 (.load (some 3) (.s 51)),[3,1,0,2]⟩,
 ⟨o0 53 (.fadr 4 (.s 3)),[]⟩,
 ⟨o0 54 (.load none (.s 53)),[5]⟩,
 ⟨mv 55 6,[]⟩,
 ⟨o0 56 (.iadr 3 (.s 54) (.s 55)),[6,5,7]⟩,
 ⟨o0 57 (.load (some 3) (.s 56)),[8,6,5,7]⟩] [] [])
 (.reg [o0 58 (.sbin .neq [.i,.i,.b] (.s 52) (.s 57))] [48,49,50,51,52,53,54,55,56,57]))
 (.cond (.s 58)
 (.seq (.reg [o0 4 (.mov (.c (.bool false)))] [])
 .ret)
 .skip)))
 (.reg [mv 46 6,
 o0 47 (.bin .add (.s 46) (.c (.int .i64 1))),
 mv 6 47] [46,47]))))))
 (.seq (.reg [o0 4 (.mov (.c (.bool true)))] [])
 .ret)))))⟩

theorem cX45:compF Tryz.prog 53 = some FX45:=by kernel_rfl
abbrev nX45:FuncId:=53

def FX40:IFun :=
⟨42,2,[.tmp 4],
 (.seq (.reg [o0 4 (.mov (.c (.bool false)))] [])
 (.seq (.seq (.reg [mv 6 0,
 o0 7 (.len (.s 6)),
 mv 8 1,
 o0 9 (.len (.s 8)),
 o0 10 (.bin .neq (.s 7) (.s 9))] [6,7,8,9])
 (.cond (.s 10)
 (.seq (.reg [o0 4 (.mov (.c (.bool false)))] [])
 .ret)
 .skip))
 (.seq (.seq (.reg [o0 5 (.mov (.c (.int .i64 0)))] [])
 (.block 0 (.loop (.seq (.seq (.reg [mv 11 5,
 mv 12 0,
 o0 13 (.len (.s 12)),
 o0 14 (.bin .lss (.s 11) (.s 13))] [11,12,13])
 (.cond (.s 14)
 .skip
 (.exit 0)))
 (.seq (.block 1 (.seq (.seq (.draw [⟨mv 17 0,[]⟩,
 ⟨mv 18 5,[]⟩,
 ⟨o0 19 (.iadr 3 (.s 17) (.s 18)),[0,1]⟩,
 ⟨o0 20 (.fadr 0 (.s 19)),[2,0,1]⟩,
 ⟨o0 21 (.load (some 2) (.s 20)),[3,2,0,1]⟩,
 ⟨mv 22 1,[]⟩,
 ⟨mv 23 5,[]⟩,
 ⟨o0 24 (.iadr 3 (.s 22) (.s 23)),[5,6]⟩,
 ⟨o0 25 (.fadr 0 (.s 24)),[7,5,6]⟩,
 ⟨o0 26 (.load (some 2) (.s 25)),[8,7,5,6]⟩] [] [])
 (.seq (.reg [o0 27 (.sbin .neq [.i,.b] (.s 21) (.s 26))] [])
 (.seq (.reg [mv 28 27] [])
 (.seq (.draw [⟨mf 29 0 28,[]⟩,
 ⟨mf 30 5 28,[]⟩,
 ⟨oF 31 28 (.iadr 3 (.s 29) (.s 30)),[0,1]⟩,
 ⟨oF 32 28 (.fadr 2 (.s 31)),[2,0,1]⟩,
 ⟨oF 33 28 (.load none (.s 32)),[3,2,0,1]⟩,
 ⟨mf 34 1 28,[]⟩,
 ⟨mf 35 5 28,[]⟩,
 ⟨oF 36 28 (.iadr 3 (.s 34) (.s 35)),[5,6]⟩,
 ⟨oF 37 28 (.fadr 2 (.s 36)),[7,5,6]⟩,
 ⟨oF 38 28 (.load none (.s 37)),[8,7,5,6]⟩] [] [])
 (.seq (.reg [oF 39 28 (.call 113 [(.s 33),(.s 38)])] [])
 (.seq (.reg [oF 40 28 (.un .not (.s 39))] [])
 (.reg [o0 41 (.pick (.s 28) (.c (.bool true)) (.s 40))] [17,18,19,20,21,22,23,24,25,26,27,28,29,30,31,32,33,34,35,36,37,38,39,40])))))))
 (.cond (.s 41)
 (.seq (.reg [o0 4 (.mov (.c (.bool false)))] [])
 .ret)
 .skip)))
 (.reg [mv 15 5,
 o0 16 (.bin .add (.s 15) (.c (.int .i64 1))),
 mv 5 16] [15,16]))))))
 (.seq (.reg [o0 4 (.mov (.c (.bool true)))] [])
 .ret))))⟩

theorem cX40:compF Tryz.prog 54 = some FX40:=by kernel_rfl
abbrev nX40:FuncId:=54

def FX36:IFun :=
⟨26,2,[.tmp 4],
 (.seq (.reg [o0 4 (.mov (.c (.bool false)))] [])
 (.seq (.seq (.reg [mv 6 0,
 o0 7 (.len (.s 6)),
 mv 8 1,
 o0 9 (.len (.s 8)),
 o0 10 (.bin .neq (.s 7) (.s 9))] [6,7,8,9])
 (.cond (.s 10)
 (.seq (.reg [o0 4 (.mov (.c (.bool false)))] [])
 .ret)
 .skip))
 (.seq (.seq (.reg [o0 5 (.mov (.c (.int .i64 0)))] [])
 (.block 0 (.loop (.seq (.seq (.reg [mv 11 5,
 mv 12 0,
 o0 13 (.len (.s 12)),
 o0 14 (.bin .lss (.s 11) (.s 13))] [11,12,13])
 (.cond (.s 14)
 .skip
 (.exit 0)))
 (.seq (.block 1 (.seq (.seq (.draw [⟨mv 17 0,[]⟩,
 ⟨mv 18 5,[]⟩,
 ⟨o0 19 (.iadr 3 (.s 17) (.s 18)),[0,1]⟩,
 ⟨o0 20 (.load (some 3) (.s 19)),[2,0,1]⟩,
 ⟨mv 21 1,[]⟩,
 ⟨mv 22 5,[]⟩,
 ⟨o0 23 (.iadr 3 (.s 21) (.s 22)),[4,5]⟩,
 ⟨o0 24 (.load (some 3) (.s 23)),[6,4,5]⟩] [] [])
 (.reg [o0 25 (.sbin .neq [.s,.i,.i] (.s 20) (.s 24))] [17,18,19,20,21,22,23,24]))
 (.cond (.s 25)
 (.seq (.reg [o0 4 (.mov (.c (.bool false)))] [])
 .ret)
 .skip)))
 (.reg [mv 15 5,
 o0 16 (.bin .add (.s 15) (.c (.int .i64 1))),
 mv 5 16] [15,16]))))))
 (.seq (.reg [o0 4 (.mov (.c (.bool true)))] [])
 .ret))))⟩

theorem cX36:compF Tryz.prog 55 = some FX36:=by kernel_rfl
abbrev nX36:FuncId:=55

def FX48:IFun :=
⟨83,2,[.tmp 4],
 (.seq (.reg [o0 4 (.mov (.c (.bool false)))] [])
 (.seq (.seq (.reg [mv 9 0,
 o0 10 (.len (.s 9)),
 mv 11 1,
 o0 12 (.len (.s 11)),
 o0 13 (.bin .neq (.s 10) (.s 12))] [9,10,11,12])
 (.cond (.s 13)
 (.seq (.reg [o0 4 (.mov (.c (.bool false)))] [])
 .ret)
 .skip))
 (.seq (.seq (.reg [o0 5 (.mov (.c (.int .i64 0)))] [])
 (.block 0 (.loop (.seq (.seq (.reg [mv 14 5,
 mv 15 0,
 o0 16 (.len (.s 15)),
 o0 17 (.bin .lss (.s 14) (.s 16))] [14,15,16])
 (.cond (.s 17)
 .skip
 (.exit 0)))
 (.seq (.block 1 (.seq (.seq (.draw [⟨mv 20 0,[]⟩,
 ⟨mv 21 5,[]⟩,
 ⟨o0 22 (.iadr 5 (.s 20) (.s 21)),[0,1]⟩,
 ⟨o0 23 (.load (some 5) (.s 22)),[2,0,1]⟩,
 ⟨mv 24 1,[]⟩,
 ⟨mv 25 5,[]⟩,
 ⟨o0 26 (.iadr 5 (.s 24) (.s 25)),[4,5]⟩,
 ⟨o0 27 (.load (some 5) (.s 26)),[6,4,5]⟩,
 ⟨o0 6 (.new 90 [(.int .i64 0),(.int .i64 0),.nl,(.int .i64 0),.nl]),[]⟩,
 ⟨o0 7 (.new 90 [(.int .i64 0),(.int .i64 0),.nl,(.int .i64 0),.nl]),[]⟩,
 ⟨⟨none,.store 5 (.s 6) (.s 23),none⟩,[8,3,2,0,1,9]⟩] [(6,8),(7,9)] [])
 (.reg [⟨none,.store 5 (.s 7) (.s 27),none⟩] [20,21,22,23,24,25,26,27]))
 (.seq (.seq (.reg [o0 28 (.fadr 0 (.s 6)),
 o0 29 (.load none (.s 28)),
 o0 30 (.fadr 0 (.s 7)),
 o0 31 (.load none (.s 30)),
 o0 32 (.bin .neq (.s 29) (.s 31)),
 mv 33 32,
 oF 34 33 (.fadr 1 (.s 6)),
 oF 35 33 (.load none (.s 34)),
 oF 36 33 (.fadr 1 (.s 7)),
 oF 37 33 (.load none (.s 36)),
 oF 38 33 (.bin .neq (.s 35) (.s 37)),
 o0 39 (.pick (.s 33) (.c (.bool true)) (.s 38)),
 mv 40 39,
 oF 41 40 (.fadr 3 (.s 6)),
 oF 42 40 (.load none (.s 41)),
 oF 43 40 (.fadr 3 (.s 7)),
 oF 44 40 (.load none (.s 43)),
 oF 45 40 (.bin .neq (.s 42) (.s 44)),
 o0 46 (.pick (.s 40) (.c (.bool true)) (.s 45)),
 mv 47 46,
 oF 48 47 (.fadr 2 (.s 6)),
 oF 49 47 (.load none (.s 48)),
 oF 50 47 (.fadr 2 (.s 7)),
 oF 51 47 (.load none (.s 50)),
 oF 52 47 (.call 113 [(.s 49),(.s 51)]),
 oF 53 47 (.un .not (.s 52)),
 o0 54 (.pick (.s 47) (.c (.bool true)) (.s 53)),
 mv 55 54,
 oF 56 55 (.fadr 4 (.s 6)),
 oF 57 55 (.load none (.s 56)),
 oF 58 55 (.len (.s 57)),
 oF 59 55 (.fadr 4 (.s 7)),
 oF 60 55 (.load none (.s 59)),
 oF 61 55 (.len (.s 60)),
 oF 62 55 (.bin .neq (.s 58) (.s 61)),
 o0 63 (.pick (.s 55) (.c (.bool true)) (.s 62))] [28,29,30,31,32,33,34,35,36,37,38,39,40,41,42,43,44,45,46,47,48,49,50,51,52,53,54,55,56,57,58,59,60,61,62])
 (.cond (.s 63)
 (.seq (.reg [o0 4 (.mov (.c (.bool false)))] [])
 .ret)
 .skip))
 (.seq (.reg [o0 8 (.mov (.c (.int .i64 0)))] [])
 (.block 2 (.loop (.seq (.seq (.reg [mv 64 8,
 o0 65 (.fadr 4 (.s 6)),
 o0 66 (.load none (.s 65)),
 o0 67 (.len (.s 66)),
 o0 68 (.bin .lss (.s 64) (.s 67))] [64,65,66,67])
 (.cond (.s 68)
 .skip
 (.exit 2)))
 (.seq (.block 3 (.seq (.seq (.draw [⟨o0 71 (.fadr 4 (.s 6)),[]⟩,
 ⟨o0 72 (.load none (.s 71)),[0]⟩,
 ⟨mv 73 8,[]⟩,
 ⟨o0 74 (.iadr 1 (.s 72) (.s 73)),[1,0,2]⟩,
 ⟨o0 75 (.load none (.s 74)),[3,1,0,2]⟩,
 ⟨o0 76 (.fadr 4 (.s 7)),[]⟩,
 ⟨o0 77 (.load none (.s 76)),[5]⟩,
 ⟨mv 78 8,[]⟩,
 ⟨o0 79 (.iadr 1 (.s 77) (.s 78)),[6,5,7]⟩,
 ⟨o0 80 (.load none (.s 79)),[8,6,5,7]⟩] [] [])
 (.seq (.reg [o0 81 (.call 113 [(.s 75),(.s 80)])] [])
 (.reg [o0 82 (.un .not (.s 81))] [71,72,73,74,75,76,77,78,79,80,81])))
 (.cond (.s 82)
 (.seq (.reg [o0 4 (.mov (.c (.bool false)))] [])
 .ret)
 .skip)))
 (.reg [mv 69 8,
 o0 70 (.bin .add (.s 69) (.c (.int .i64 1))),
 mv 8 70] [69,70])))))))))
 (.reg [mv 18 5,
 o0 19 (.bin .add (.s 18) (.c (.int .i64 1))),
 mv 5 19] [18,19]))))))
 (.seq (.reg [o0 4 (.mov (.c (.bool true)))] [])
 .ret))))⟩

theorem cX48:compF Tryz.prog 56 = some FX48:=by kernel_rfl
abbrev nX48:FuncId:=56

def FX49:IFun :=
⟨56,2,[.tmp 4],
 (.seq (.reg [o0 4 (.mov (.c (.bool false)))] [])
 (.seq (.seq (.reg [mv 8 0,
 o0 9 (.len (.s 8)),
 mv 10 1,
 o0 11 (.len (.s 10)),
 o0 12 (.bin .neq (.s 9) (.s 11))] [8,9,10,11])
 (.cond (.s 12)
 (.seq (.reg [o0 4 (.mov (.c (.bool false)))] [])
 .ret)
 .skip))
 (.seq (.seq (.reg [o0 5 (.mov (.c (.int .i64 0)))] [])
 (.block 0 (.loop (.seq (.seq (.reg [mv 13 5,
 mv 14 0,
 o0 15 (.len (.s 14)),
 o0 16 (.bin .lss (.s 13) (.s 15))] [13,14,15])
 (.cond (.s 16)
 .skip
 (.exit 0)))
 (.seq (.block 1 (.seq (.seq (.draw [⟨mv 19 0,[]⟩,
 ⟨mv 20 5,[]⟩,
 ⟨o0 21 (.iadr 4 (.s 19) (.s 20)),[0,1]⟩,
 ⟨o0 22 (.load (some 4) (.s 21)),[2,0,1]⟩,
 ⟨mv 23 1,[]⟩,
 ⟨mv 24 5,[]⟩,
 ⟨o0 25 (.iadr 4 (.s 23) (.s 24)),[4,5]⟩,
 ⟨o0 26 (.load (some 4) (.s 25)),[6,4,5]⟩,
 ⟨o0 6 (.new 169 [(.int .i64 0),(.int .i64 0),.nl,.nl]),[]⟩,
 ⟨o0 7 (.new 169 [(.int .i64 0),(.int .i64 0),.nl,.nl]),[]⟩,
 ⟨⟨none,.store 4 (.s 6) (.s 22),none⟩,[8,3,2,0,1,9]⟩] [(6,8),(7,9)] [])
 (.reg [⟨none,.store 4 (.s 7) (.s 26),none⟩] [19,20,21,22,23,24,25,26]))
 (.seq (.reg [o0 27 (.fadr 0 (.s 6)),
 o0 28 (.load none (.s 27)),
 o0 29 (.fadr 0 (.s 7)),
 o0 30 (.load none (.s 29)),
 o0 31 (.bin .neq (.s 28) (.s 30)),
 mv 32 31,
 oF 33 32 (.fadr 1 (.s 6)),
 oF 34 32 (.load none (.s 33)),
 oF 35 32 (.fadr 1 (.s 7)),
 oF 36 32 (.load none (.s 35)),
 oF 37 32 (.bin .neq (.s 34) (.s 36)),
 o0 38 (.pick (.s 32) (.c (.bool true)) (.s 37)),
 mv 39 38,
 oF 40 39 (.fadr 2 (.s 6)),
 oF 41 39 (.load none (.s 40)),
 oF 42 39 (.fadr 2 (.s 7)),
 oF 43 39 (.load none (.s 42)),
 oF 44 39 (.call 113 [(.s 41),(.s 43)]),
 oF 45 39 (.un .not (.s 44)),
 o0 46 (.pick (.s 39) (.c (.bool true)) (.s 45)),
 mv 47 46,
 oF 48 47 (.fadr 3 (.s 6)),
 oF 49 47 (.load none (.s 48)),
 oF 50 47 (.cvs (.s 49)),
 oF 51 47 (.fadr 3 (.s 7)),
 oF 52 47 (.load none (.s 51)),
 oF 53 47 (.cvs (.s 52)),
 oF 54 47 (.bin .neq (.s 50) (.s 53)),
 o0 55 (.pick (.s 47) (.c (.bool true)) (.s 54))] [27,28,29,30,31,32,33,34,35,36,37,38,39,40,41,42,43,44,45,46,47,48,49,50,51,52,53,54])
 (.cond (.s 55)
 (.seq (.reg [o0 4 (.mov (.c (.bool false)))] [])
 .ret)
 .skip))))
 (.reg [mv 17 5,
 o0 18 (.bin .add (.s 17) (.c (.int .i64 1))),
 mv 5 18] [17,18]))))))
 (.seq (.reg [o0 4 (.mov (.c (.bool true)))] [])
 .ret))))⟩

theorem cX49:compF Tryz.prog 57 = some FX49:=by kernel_rfl
abbrev nX49:FuncId:=57

def FX38:IFun :=
⟨56,2,[.tmp 4],
 (.seq (.reg [o0 4 (.mov (.c (.bool false)))] [])
 (.seq (.seq (.reg [mv 6 0,
 o0 7 (.len (.s 6)),
 mv 8 1,
 o0 9 (.len (.s 8)),
 o0 10 (.bin .neq (.s 7) (.s 9))] [6,7,8,9])
 (.cond (.s 10)
 (.seq (.reg [o0 4 (.mov (.c (.bool false)))] [])
 .ret)
 .skip))
 (.seq (.seq (.reg [o0 5 (.mov (.c (.int .i64 0)))] [])
 (.block 0 (.loop (.seq (.seq (.reg [mv 11 5,
 mv 12 0,
 o0 13 (.len (.s 12)),
 o0 14 (.bin .lss (.s 11) (.s 13))] [11,12,13])
 (.cond (.s 14)
 .skip
 (.exit 0)))
 (.seq (.block 1 (.seq (.seq (.draw [⟨mv 17 0,[]⟩,
 ⟨mv 18 5,[]⟩,
 ⟨o0 19 (.iadr 3 (.s 17) (.s 18)),[0,1]⟩,
 ⟨o0 20 (.fadr 0 (.s 19)),[2,0,1]⟩,
 ⟨o0 21 (.load none (.s 20)),[3,2,0,1]⟩,
 ⟨mv 22 1,[]⟩,
 ⟨mv 23 5,[]⟩,
 ⟨o0 24 (.iadr 3 (.s 22) (.s 23)),[5,6]⟩,
 ⟨o0 25 (.fadr 0 (.s 24)),[7,5,6]⟩,
 ⟨o0 26 (.load none (.s 25)),[8,7,5,6]⟩] [] [])
 (.seq (.reg [o0 27 (.bin .neq (.s 21) (.s 26))] [])
 (.seq (.reg [mv 28 27] [])
 (.seq (.draw [⟨mf 29 0 28,[]⟩,
 ⟨mf 30 5 28,[]⟩,
 ⟨oF 31 28 (.iadr 3 (.s 29) (.s 30)),[0,1]⟩,
 ⟨oF 32 28 (.fadr 1 (.s 31)),[2,0,1]⟩,
 ⟨oF 33 28 (.load none (.s 32)),[3,2,0,1]⟩,
 ⟨mf 34 1 28,[]⟩,
 ⟨mf 35 5 28,[]⟩,
 ⟨oF 36 28 (.iadr 3 (.s 34) (.s 35)),[5,6]⟩,
 ⟨oF 37 28 (.fadr 1 (.s 36)),[7,5,6]⟩,
 ⟨oF 38 28 (.load none (.s 37)),[8,7,5,6]⟩] [] [])
 (.seq (.reg [oF 39 28 (.bin .neq (.s 33) (.s 38))] [])
 (.seq (.reg [o0 40 (.pick (.s 28) (.c (.bool true)) (.s 39))] [])
 (.seq (.reg [mv 41 40] [])
 (.seq (.draw [⟨mf 42 0 41,[]⟩,
 ⟨mf 43 5 41,[]⟩,
 ⟨oF 44 41 (.iadr 3 (.s 42) (.s 43)),[0,1]⟩,
 ⟨oF 45 41 (.fadr 2 (.s 44)),[2,0,1]⟩,
 ⟨oF 46 41 (.load none (.s 45)),[3,2,0,1]⟩,
 ⟨oF 47 41 (.cvs (.s 46)),[4,3,2,0,1]⟩,
 ⟨mf 48 1 41,[]⟩,
 ⟨mf 49 5 41,[]⟩,
 ⟨oF 50 41 (.iadr 3 (.s 48) (.s 49)),[6,7]⟩,
 ⟨oF 51 41 (.fadr 2 (.s 50)),[8,6,7]⟩,
 ⟨oF 52 41 (.load none (.s 51)),[9,8,6,7]⟩,
 ⟨oF 53 41 (.cvs (.s 52)),[10,9,8,6,7]⟩] [] [])
 (.seq (.reg [oF 54 41 (.bin .neq (.s 47) (.s 53))] [])
 (.reg [o0 55 (.pick (.s 41) (.c (.bool true)) (.s 54))] [17,18,19,20,21,22,23,24,25,26,27,28,29,30,31,32,33,34,35,36,37,38,39,40,41,42,43,44,45,46,47,48,49,50,51,52,53,54]))))))))))
 (.cond (.s 55)
 (.seq (.reg [o0 4 (.mov (.c (.bool false)))] [])
 .ret)
 .skip)))
 (.reg [mv 15 5,
 o0 16 (.bin .add (.s 15) (.c (.int .i64 1))),
 mv 5 16] [15,16]))))))
 (.seq (.reg [o0 4 (.mov (.c (.bool true)))] [])
 .ret))))⟩

theorem cX38:compF Tryz.prog 58 = some FX38:=by kernel_rfl
abbrev nX38:FuncId:=58

def FX73:IFun :=
⟨65,1,[.cell 2 (some 3),.tmp 3],
 (.seq (.reg [o0 2 (.new 25 [(.str []),.nl,.nl]),
 o0 3 (.mov (.c (.int .i64 0)))] [])
 (.seq (.reg [mv 13 0,
 o0 14 (.call 138 [(.s 13)]),
 o0 4 (.new 193 [.nl,(.int .i64 0),(.int .i64 0)]),
 ⟨none,.store 3 (.s 4) (.s 14),none⟩] [13,14])
 (.seq (.reg [o0 15 (.build [(.str []),.nl,.nl] []),
 o0 5 (.new 25 [(.str []),.nl,.nl]),
 ⟨none,.store 3 (.s 5) (.s 15),none⟩] [15])
 (.seq (.reg [o0 6 (.mov (.c (.int .i64 (-1))))] [])
 (.seq (.block 0 (.loop (.seq (.seq (.reg [o0 16 (.load (some 3) (.s 4)),
 o0 17 (.call 139 [(.s 16)]),
 o0 18 (.bin .gtr (.s 17) (.c (.int .i64 0)))] [16,17])
 (.cond (.s 18)
 .skip
 (.exit 0)))
 (.block 1 (.seq (.reg [o0 20 (.load (some 3) (.s 4)),
 o0 21 (.call 140 [(.s 20)]),
 mv 19 21,
 o0 22 (.ext (.s 19) 0),
 o0 23 (.ext (.s 19) 1),
 o0 7 (.new 193 [.nl,(.int .i64 0),(.int .i64 0)]),
 ⟨none,.store 3 (.s 7) (.s 22),none⟩,
 mv 8 23] [20,21,19,22,23])
 (.seq (.seq (.reg [mv 24 8,
 o0 25 (.bin .gtr (.s 24) (.c (.int .u8 2)))] [24])
 (.cond (.s 25)
 (.seq (.reg [o0 26 (.build [(.str []),.nl,.nl] []),
 ⟨none,.store 3 (.s 2) (.s 26),none⟩,
 o0 3 (.mov (.c (.int .i64 4)))] [26])
 .ret)
 .skip))
 (.seq (.seq (.reg [mv 27 8,
 o0 28 (.cvi .i64 (.s 27)),
 mv 29 6,
 o0 30 (.bin .leq (.s 28) (.s 29))] [27,28,29])
 (.cond (.s 30)
 (.seq (.reg [o0 31 (.build [(.str []),.nl,.nl] []),
 ⟨none,.store 3 (.s 2) (.s 31),none⟩,
 o0 3 (.mov (.c (.int .i64 7)))] [31])
 .ret)
 .skip))
 (.seq (.reg [mv 32 8,
 o0 33 (.cvi .i64 (.s 32)),
 mv 6 33] [32,33])
 (.seq (.reg [o0 35 (.load (some 3) (.s 7)),
 o0 36 (.call 141 [(.s 35)]),
 mv 34 36,
 o0 37 (.ext (.s 34) 0),
 o0 38 (.ext (.s 34) 1),
 ⟨none,.store 3 (.s 7) (.s 37),none⟩,
 mv 9 38] [35,36,34,37,38])
 (.seq (.reg [o0 40 (.load (some 3) (.s 7)),
 mv 41 9,
 o0 42 (.call 142 [(.s 40),(.s 41)]),
 mv 39 42,
 o0 43 (.ext (.s 39) 0),
 o0 44 (.ext (.s 39) 1),
 o0 10 (.new 193 [.nl,(.int .i64 0),(.int .i64 0)]),
 ⟨none,.store 3 (.s 7) (.s 43),none⟩,
 ⟨none,.store 3 (.s 10) (.s 44),none⟩] [40,41,42,39,43,44])
 (.seq (.seq (.reg [o0 45 (.fadr 2 (.s 7)),
 o0 46 (.load none (.s 45)),
 o0 47 (.bin .neq (.s 46) (.c (.int .i64 0)))] [45,46])
 (.cond (.s 47)
 (.seq (.seq (.draw [⟨o0 48 (.build [(.str []),.nl,.nl] []),[]⟩,
 ⟨o0 49 (.fadr 2 (.s 7)),[]⟩,
 ⟨o0 50 (.load none (.s 49)),[1]⟩,
 ⟨⟨none,.store 3 (.s 2) (.s 48),none⟩,[0]⟩] [] [])
 (.reg [mv 3 50] [48,49,50]))
 .ret)
 .skip))
 (.seq (.reg [o0 52 (.load (some 3) (.s 5)),
 mv 53 8,
 o0 54 (.load (some 3) (.s 10)),
 o0 55 (.call 143 [(.s 52),(.s 53),(.s 54)]),
 mv 51 55,
 o0 56 (.ext (.s 51) 0),
 o0 57 (.ext (.s 51) 1),
 o0 11 (.new 25 [(.str []),.nl,.nl]),
 ⟨none,.store 3 (.s 11) (.s 56),none⟩,
 mv 12 57] [52,53,54,55,51,56,57])
 (.seq (.seq (.reg [mv 58 12,
 o0 59 (.bin .neq (.s 58) (.c (.int .i64 0)))] [58])
 (.cond (.s 59)
 (.seq (.reg [o0 60 (.build [(.str []),.nl,.nl] []),
 mv 61 12,
 ⟨none,.store 3 (.s 2) (.s 60),none⟩,
 mv 3 61] [60,61])
 .ret)
 .skip))
 (.seq (.draw [⟨o0 62 (.load (some 3) (.s 7)),[]⟩,
 ⟨o0 63 (.load (some 3) (.s 11)),[]⟩,
 ⟨⟨none,.store 3 (.s 4) (.s 62),none⟩,[0]⟩] [] [])
 (.reg [⟨none,.store 3 (.s 5) (.s 63),none⟩] [62,63])))))))))))))))
 (.seq (.reg [o0 64 (.load (some 3) (.s 5)),
 ⟨none,.store 3 (.s 2) (.s 64),none⟩,
 o0 3 (.mov (.c (.int .i64 0)))] [64])
 .ret))))))⟩

theorem cX73:compF Tryz.prog 67 = some FX73:=by kernel_rfl
abbrev nX73:FuncId:=67

def FX112:IFun :=
⟨51,1,[.tmp 2],
 (.seq (.reg [o0 1 (.box 44 12 (.s 0)),
 o0 2 (.mov (.c (.int .i64 0)))] [])
 (.seq (.block 0 (.seq (.reg [o0 4 (.fadr 10 (.s 1)),
 o0 5 (.load none (.s 4)),
 o0 6 (.len (.s 5)),
 o0 7 (.bin .gtr (.s 6) (.c (.int .i64 0))),
 mv 3 7] [4,5,6,7])
 (.cond (.s 3)
 (.seq (.reg [o0 2 (.mov (.c (.int .i64 12)))] [])
 .ret)
 (.seq (.reg [o0 9 (.fadr 2 (.s 1)),
 o0 10 (.load none (.s 9)),
 o0 11 (.len (.s 10)),
 o0 12 (.bin .gtr (.s 11) (.c (.int .i64 0))),
 mv 8 12] [9,10,11,12])
 (.cond (.s 8)
 (.seq (.reg [o0 2 (.mov (.c (.int .i64 11)))] [])
 .ret)
 (.seq (.reg [o0 14 (.fadr 9 (.s 1)),
 o0 15 (.load none (.s 14)),
 o0 16 (.len (.s 15)),
 o0 17 (.bin .gtr (.s 16) (.c (.int .i64 0))),
 mv 13 17] [14,15,16,17])
 (.cond (.s 13)
 (.seq (.reg [o0 2 (.mov (.c (.int .i64 9)))] [])
 .ret)
 (.seq (.reg [o0 19 (.fadr 7 (.s 1)),
 o0 20 (.load none (.s 19)),
 mv 18 20] [19,20])
 (.cond (.s 18)
 (.seq (.reg [o0 2 (.mov (.c (.int .i64 8)))] [])
 .ret)
 (.seq (.reg [o0 22 (.fadr 6 (.s 1)),
 o0 23 (.load none (.s 22)),
 o0 24 (.len (.s 23)),
 o0 25 (.bin .gtr (.s 24) (.c (.int .i64 0))),
 mv 21 25] [22,23,24,25])
 (.cond (.s 21)
 (.seq (.reg [o0 2 (.mov (.c (.int .i64 7)))] [])
 .ret)
 (.seq (.reg [o0 27 (.fadr 5 (.s 1)),
 o0 28 (.load none (.s 27)),
 o0 29 (.len (.s 28)),
 o0 30 (.bin .gtr (.s 29) (.c (.int .i64 0))),
 mv 26 30] [27,28,29,30])
 (.cond (.s 26)
 (.seq (.reg [o0 2 (.mov (.c (.int .i64 6)))] [])
 .ret)
 (.seq (.reg [o0 32 (.fadr 4 (.s 1)),
 o0 33 (.load none (.s 32)),
 o0 34 (.len (.s 33)),
 o0 35 (.bin .gtr (.s 34) (.c (.int .i64 0))),
 mv 31 35] [32,33,34,35])
 (.cond (.s 31)
 (.seq (.reg [o0 2 (.mov (.c (.int .i64 5)))] [])
 .ret)
 (.seq (.reg [o0 37 (.fadr 3 (.s 1)),
 o0 38 (.load none (.s 37)),
 o0 39 (.len (.s 38)),
 o0 40 (.bin .gtr (.s 39) (.c (.int .i64 0))),
 mv 36 40] [37,38,39,40])
 (.cond (.s 36)
 (.seq (.reg [o0 2 (.mov (.c (.int .i64 4)))] [])
 .ret)
 (.seq (.reg [o0 42 (.fadr 1 (.s 1)),
 o0 43 (.load none (.s 42)),
 o0 44 (.len (.s 43)),
 o0 45 (.bin .gtr (.s 44) (.c (.int .i64 0))),
 mv 41 45] [42,43,44,45])
 (.cond (.s 41)
 (.seq (.reg [o0 2 (.mov (.c (.int .i64 2)))] [])
 .ret)
 (.seq (.reg [o0 47 (.fadr 0 (.s 1)),
 o0 48 (.load none (.s 47)),
 o0 49 (.len (.s 48)),
 o0 50 (.bin .gtr (.s 49) (.c (.int .i64 0))),
 mv 46 50] [47,48,49,50])
 (.cond (.s 46)
 (.seq (.reg [o0 2 (.mov (.c (.int .i64 1)))] [])
 .ret)
 .skip)))))))))))))))))))))
 (.seq (.reg [o0 2 (.mov (.c (.int .i64 0)))] [])
 .ret)))⟩

theorem cX112:compF Tryz.prog 68 = some FX112:=by kernel_rfl
abbrev nX112:FuncId:=68

def FX85:IFun :=
⟨26,2,[.tmp 4],
 (.seq (.reg [o0 4 (.mov (.c (.bool false)))] [])
 (.seq (.seq (.reg [mv 6 0,
 o0 7 (.len (.s 6)),
 mv 8 1,
 o0 9 (.len (.s 8)),
 o0 10 (.bin .neq (.s 7) (.s 9))] [6,7,8,9])
 (.cond (.s 10)
 (.seq (.reg [o0 4 (.mov (.c (.bool false)))] [])
 .ret)
 .skip))
 (.seq (.seq (.reg [o0 5 (.mov (.c (.int .i64 0)))] [])
 (.block 0 (.loop (.seq (.seq (.reg [mv 11 5,
 mv 12 0,
 o0 13 (.len (.s 12)),
 o0 14 (.bin .lss (.s 11) (.s 13))] [11,12,13])
 (.cond (.s 14)
 .skip
 (.exit 0)))
 (.seq (.block 1 (.seq (.seq (.draw [⟨mv 17 0,[]⟩,
 ⟨mv 18 5,[]⟩,
 ⟨o0 19 (.iadr 2 (.s 17) (.s 18)),[0,1]⟩,
 ⟨o0 20 (.load (some 2) (.s 19)),[2,0,1]⟩,
 ⟨mv 21 1,[]⟩,
 ⟨mv 22 5,[]⟩,
 ⟨o0 23 (.iadr 2 (.s 21) (.s 22)),[4,5]⟩,
 ⟨o0 24 (.load (some 2) (.s 23)),[6,4,5]⟩] [] [])
 (.reg [o0 25 (.sbin .neq [.i,.s] (.s 20) (.s 24))] [17,18,19,20,21,22,23,24]))
 (.cond (.s 25)
 (.seq (.reg [o0 4 (.mov (.c (.bool false)))] [])
 .ret)
 .skip)))
 (.reg [mv 15 5,
 o0 16 (.bin .add (.s 15) (.c (.int .i64 1))),
 mv 5 16] [15,16]))))))
 (.seq (.reg [o0 4 (.mov (.c (.bool true)))] [])
 .ret))))⟩

theorem cX85:compF Tryz.prog 69 = some FX85:=by kernel_rfl
abbrev nX85:FuncId:=69

def FX101:IFun :=
⟨7,1,[.tmp 2],
 (.seq (.reg [o0 2 (.mov (.c .np))] [])
 (.seq (.reg [mv 3 0,
 o0 4 (.app 5 1 (.c .nl) (.s 3)),
 o0 5 (.build [(.bool false),.nl,(.int .i64 0),(.int .i64 0)] [(0,1,(.c (.bool true))),(1,1,(.s 4))]),
 o0 6 (.box 204 4 (.s 5)),
 mv 2 6] [3,4,5,6])
 .ret))⟩

theorem cX101:compF Tryz.prog 70 = some FX101:=by kernel_rfl
abbrev nX101:FuncId:=70

def FX25:IFun :=
⟨16,1,[.tmp 2],
 (.seq (.reg [o0 2 (.mov (.c (.int .i64 0)))] [])
 (.seq (.seq (.reg [mv 3 0,
 o0 4 (.call 144 [(.s 3)]),
 o0 5 (.un .not (.s 4))] [3,4])
 (.cond (.s 5)
 (.seq (.reg [o0 2 (.mov (.c (.int .i64 0)))] [])
 .ret)
 .skip))
 (.seq (.seq (.draw [⟨mv 6 0,[]⟩,
 ⟨o0 7 (.nchk (.s 6)),[0]⟩,
 ⟨o0 8 (.fadr 1 (.s 7)),[1,0]⟩,
 ⟨o0 9 (.load none (.s 8)),[2,1,0]⟩,
 ⟨o0 10 (.len (.s 9)),[3,2,1,0]⟩,
 ⟨mv 11 0,[]⟩,
 ⟨o0 12 (.nchk (.s 11)),[5]⟩,
 ⟨o0 13 (.fadr 2 (.s 12)),[6,5]⟩,
 ⟨o0 14 (.load none (.s 13)),[7,6,5]⟩] [] [])
 (.seq (.reg [o0 15 (.bin .sub (.s 10) (.s 14))] [])
 (.reg [mv 2 15] [6,7,8,9,10,11,12,13,14,15])))
 .ret)))⟩

theorem cX25:compF Tryz.prog 71 = some FX25:=by kernel_rfl
abbrev nX25:FuncId:=71

def FX21:IFun :=
⟨12,1,[.tmp 2],
 (.seq (.reg [o0 2 (.mov (.c (.int .u8 0)))] [])
 (.seq (.seq (.reg [mv 4 0,
 o0 5 (.call 145 [(.s 4),(.c (.int .i64 1))]),
 mv 3 5] [4,5])
 (.seq (.reg [mv 6 3,
 o0 7 (.len (.s 6)),
 o0 8 (.bin .eql (.s 7) (.c (.int .i64 1)))] [6,7])
 (.cond (.s 8)
 (.seq (.reg [mv 9 3,
 o0 10 (.iadr 1 (.s 9) (.c (.int .i64 0))),
 o0 11 (.load none (.s 10)),
 mv 2 11] [9,10,11])
 .ret)
 .skip)))
 (.seq (.reg [o0 2 (.mov (.c (.int .u8 0)))] [])
 .ret)))⟩

theorem cX21:compF Tryz.prog 72 = some FX21:=by kernel_rfl
abbrev nX21:FuncId:=72

def FX34:IFun :=
⟨25,2,[.tmp 4],
 (.seq (.reg [o0 4 (.mov (.c .np))] [])
 (.seq (.seq (.reg [mv 6 0,
 o0 7 (.pbin .eql (.s 6) (.c .np)),
 mv 8 7,
 mf 9 0 8,
 oF 10 8 (.nchk (.s 9)),
 oF 11 8 (.fadr 0 (.s 10)),
 oF 12 8 (.load none (.s 11)),
 oF 13 8 (.un .not (.s 12)),
 o0 14 (.pick (.s 8) (.c (.bool true)) (.s 13))] [6,7,8,9,10,11,12,13])
 (.cond (.s 14)
 (.seq (.reg [o0 4 (.mov (.c .np))] [])
 .ret)
 .skip))
 (.seq (.reg [mv 15 0,
 mv 16 1,
 o0 17 (.call 145 [(.s 15),(.s 16)]),
 mv 5 17] [15,16,17])
 (.seq (.reg [mv 18 5,
 mv 19 0,
 o0 20 (.nchk (.s 19)),
 o0 21 (.fadr 3 (.s 20)),
 o0 22 (.load none (.s 21)),
 o0 23 (.build [(.bool false),.nl,(.int .i64 0),(.int .i64 0)] [(0,1,(.c (.bool true))),(1,1,(.s 18)),(3,1,(.s 22))]),
 o0 24 (.box 204 4 (.s 23)),
 mv 4 24] [18,19,20,21,22,23,24])
 .ret))))⟩

theorem cX34:compF Tryz.prog 73 = some FX34:=by kernel_rfl
abbrev nX34:FuncId:=73

def FX37:IFun :=
⟨6,1,[.tmp 2],
 (.seq (.reg [o0 2 (.mov (.c (.int .i64 0)))] [])
 (.seq (.reg [mv 3 0,
 o0 4 (.call 146 [(.s 3),(.c (.int .i64 32))]),
 o0 5 (.cvi .i64 (.s 4)),
 mv 2 5] [3,4,5])
 .ret))⟩

theorem cX37:compF Tryz.prog 74 = some FX37:=by kernel_rfl
abbrev nX37:FuncId:=74

def FX22:IFun :=
⟨39,1,[.tmp 2],
 (.seq (.reg [o0 2 (.mov (.c (.str [])))] [])
 (.seq (.seq (.reg [mv 5 0,
 o0 6 (.call 144 [(.s 5)]),
 o0 7 (.un .not (.s 6))] [5,6])
 (.cond (.s 7)
 (.seq (.reg [o0 2 (.mov (.c (.str [])))] [])
 .ret)
 .skip))
 (.seq (.reg [mv 8 0,
 o0 9 (.nchk (.s 8)),
 o0 10 (.fadr 2 (.s 9)),
 o0 11 (.load none (.s 10)),
 mv 3 11] [8,9,10,11])
 (.seq (.reg [mv 12 0,
 mv 13 0,
 o0 14 (.call 147 [(.s 13),(.c (.int .i64 64))]),
 o0 15 (.call 145 [(.s 12),(.s 14)]),
 o0 16 (.cvs (.s 15)),
 mv 4 16] [12,13,14,15,16])
 (.seq (.seq (.reg [mv 17 0,
 o0 18 (.nchk (.s 17)),
 o0 19 (.fadr 3 (.s 18)),
 o0 20 (.load none (.s 19)),
 o0 21 (.bin .eql (.s 20) (.c (.int .i64 0))),
 mv 22 21,
 mt 23 4 22,
 ot 24 22 (.call 82 [(.s 23)]),
 ot 25 22 (.un .not (.s 24)),
 o0 26 (.pick (.s 22) (.s 25) (.c (.bool false)))] [17,18,19,20,21,22,23,24,25])
 (.cond (.s 26)
 (.reg [mv 27 0,
 o0 28 (.call 148 [(.s 27),(.c (.int .i64 9))])] [27,28])
 .skip))
 (.seq (.seq (.reg [mv 29 0,
 o0 30 (.nchk (.s 29)),
 o0 31 (.fadr 3 (.s 30)),
 o0 32 (.load none (.s 31)),
 o0 33 (.bin .neq (.s 32) (.c (.int .i64 0)))] [29,30,31,32])
 (.cond (.s 33)
 (.seq (.reg [mv 34 0,
 mv 35 3,
 o0 36 (.nchk (.s 34)),
 o0 37 (.fadr 2 (.s 36)),
 ⟨none,.store 1 (.s 37) (.s 35),none⟩] [34,35,36,37])
 (.seq (.reg [o0 2 (.mov (.c (.str [])))] [])
 .ret))
 .skip))
 (.seq (.reg [mv 38 4,
 mv 2 38] [38])
 .ret)))))))⟩

theorem cX22:compF Tryz.prog 75 = some FX22:=by kernel_rfl
abbrev nX22:FuncId:=75

def FX126:IFun :=
⟨48,2,[.tmp 4],
 (.seq (.reg [o0 4 (.mov (.c .nl))] [])
 (.seq (.reg [o0 5 (.mov (.c .nl))] [])
 (.seq (.seq (.reg [mv 8 0,
 mv 9 1,
 o0 10 (.call 147 [(.s 8),(.s 9)]),
 mv 6 10] [8,9,10])
 (.block 0 (.loop (.seq (.seq (.reg [mv 11 6,
 o0 12 (.bin .gtr (.s 11) (.c (.int .i64 0))),
 mv 13 12,
 mt 14 0 13,
 ot 15 13 (.call 149 [(.s 14)]),
 ot 16 13 (.bin .eql (.s 15) (.c (.int .i64 0))),
 o0 17 (.pick (.s 13) (.s 16) (.c (.bool false)))] [11,12,13,14,15,16])
 (.cond (.s 17)
 .skip
 (.exit 0)))
 (.seq (.block 1 (.seq (.reg [mv 20 0,
 o0 21 (.call 74 [(.s 20)]),
 o0 22 (.build [(.int .i64 0),(.str [])] [(0,1,(.s 21))]),
 o0 7 (.new 129 [(.int .i64 0),(.str [])]),
 ⟨none,.store 2 (.s 7) (.s 22),none⟩] [20,21,22])
 (.seq (.reg [mv 23 0,
 o0 24 (.call 75 [(.s 23)]),
 o0 25 (.fadr 1 (.s 7)),
 ⟨none,.store 1 (.s 25) (.s 24),none⟩] [23,24,25])
 (.seq (.seq (.seq (.reg [mv 26 5] [])
 (.seq (.reg [o0 27 (.len (.s 26))] [])
 (.seq (.reg [o0 28 (.bin .gtr (.s 27) (.c (.int .i64 0)))] [])
 (.seq (.reg [mv 29 28] [])
 (.seq (.draw [⟨ot 30 29 (.fadr 0 (.s 7)),[]⟩,
 ⟨ot 31 29 (.load none (.s 30)),[0]⟩,
 ⟨mt 32 5 29,[]⟩,
 ⟨mt 33 5 29,[]⟩,
 ⟨ot 34 29 (.len (.s 33)),[3]⟩,
 ⟨ot 35 29 (.bin .sub (.s 34) (.c (.int .i64 1))),[4,3]⟩,
 ⟨ot 36 29 (.iadr 2 (.s 32) (.s 35)),[2,5,4,3]⟩,
 ⟨ot 37 29 (.fadr 0 (.s 36)),[6,2,5,4,3]⟩,
 ⟨ot 38 29 (.load none (.s 37)),[7,6,2,5,4,3]⟩] [] [])
 (.seq (.reg [ot 39 29 (.bin .leq (.s 31) (.s 38))] [])
 (.reg [o0 40 (.pick (.s 29) (.s 39) (.c (.bool false)))] [26,27,28,29,30,31,32,33,34,35,36,37,38,39])))))))
 (.cond (.s 40)
 (.reg [mv 41 0,
 o0 42 (.call 148 [(.s 41),(.c (.int .i64 7))])] [41,42])
 .skip))
 (.reg [mv 43 5,
 o0 44 (.load (some 2) (.s 7)),
 o0 45 (.bsl 129 2 [[(.int .i64 0),(.str [])]] [(0,(.s 44))]),
 o0 46 (.app 129 2 (.s 43) (.s 45)),
 mv 5 46] [43,44,45,46])))))
 (.reg [mv 18 6,
 o0 19 (.bin .sub (.s 18) (.c (.int .i64 1))),
 mv 6 19] [18,19]))))))
 (.seq (.reg [mv 47 5,
 mv 4 47] [47])
 .ret))))⟩

theorem cX126:compF Tryz.prog 76 = some FX126:=by kernel_rfl
abbrev nX126:FuncId:=76

def FX66:IFun :=
⟨45,1,[.tmp 2],
 (.seq (.reg [o0 2 (.mov (.c .nl))] [])
 (.seq (.reg [o0 3 (.mov (.c .nl))] [])
 (.seq (.seq (.reg [mv 6 0,
 o0 7 (.call 147 [(.s 6),(.c (.int .i64 64))]),
 mv 4 7] [6,7])
 (.block 0 (.loop (.seq (.seq (.reg [mv 8 4,
 o0 9 (.bin .gtr (.s 8) (.c (.int .i64 0))),
 mv 10 9,
 mt 11 0 10,
 ot 12 10 (.call 149 [(.s 11)]),
 ot 13 10 (.bin .eql (.s 12) (.c (.int .i64 0))),
 o0 14 (.pick (.s 10) (.s 13) (.c (.bool false)))] [8,9,10,11,12,13])
 (.cond (.s 14)
 .skip
 (.exit 0)))
 (.seq (.block 1 (.seq (.reg [mv 17 0,
 o0 18 (.call 74 [(.s 17)]),
 o0 19 (.build [(.int .i64 0),.nl] [(0,1,(.s 18))]),
 o0 5 (.new 55 [(.int .i64 0),.nl]),
 ⟨none,.store 2 (.s 5) (.s 19),none⟩] [17,18,19])
 (.seq (.seq (.seq (.reg [mv 20 3] [])
 (.seq (.reg [o0 21 (.len (.s 20))] [])
 (.seq (.reg [o0 22 (.bin .gtr (.s 21) (.c (.int .i64 0)))] [])
 (.seq (.reg [mv 23 22] [])
 (.seq (.draw [⟨ot 24 23 (.fadr 0 (.s 5)),[]⟩,
 ⟨ot 25 23 (.load none (.s 24)),[0]⟩,
 ⟨mt 26 3 23,[]⟩,
 ⟨mt 27 3 23,[]⟩,
 ⟨ot 28 23 (.len (.s 27)),[3]⟩,
 ⟨ot 29 23 (.bin .sub (.s 28) (.c (.int .i64 1))),[4,3]⟩,
 ⟨ot 30 23 (.iadr 2 (.s 26) (.s 29)),[2,5,4,3]⟩,
 ⟨ot 31 23 (.fadr 0 (.s 30)),[6,2,5,4,3]⟩,
 ⟨ot 32 23 (.load none (.s 31)),[7,6,2,5,4,3]⟩] [] [])
 (.seq (.reg [ot 33 23 (.bin .leq (.s 25) (.s 32))] [])
 (.reg [o0 34 (.pick (.s 23) (.s 33) (.c (.bool false)))] [20,21,22,23,24,25,26,27,28,29,30,31,32,33])))))))
 (.cond (.s 34)
 (.reg [mv 35 0,
 o0 36 (.call 148 [(.s 35),(.c (.int .i64 7))])] [35,36])
 .skip))
 (.seq (.reg [mv 37 0,
 o0 38 (.call 76 [(.s 37),(.c (.int .i64 72))]),
 o0 39 (.fadr 1 (.s 5)),
 ⟨none,.store 1 (.s 39) (.s 38),none⟩] [37,38,39])
 (.reg [mv 40 3,
 o0 41 (.load (some 2) (.s 5)),
 o0 42 (.bsl 55 2 [[(.int .i64 0),.nl]] [(0,(.s 41))]),
 o0 43 (.app 55 2 (.s 40) (.s 42)),
 mv 3 43] [40,41,42,43])))))
 (.reg [mv 15 4,
 o0 16 (.bin .sub (.s 15) (.c (.int .i64 1))),
 mv 4 16] [15,16]))))))
 (.seq (.reg [mv 44 3,
 mv 2 44] [44])
 .ret))))⟩

theorem cX66:compF Tryz.prog 77 = some FX66:=by kernel_rfl
abbrev nX66:FuncId:=77

def FX41:IFun :=
⟨21,1,[.tmp 2],
 (.seq (.reg [o0 2 (.mov (.c (.int .i64 0)))] [])
 (.seq (.seq (.reg [mv 4 0,
 o0 5 (.call 149 [(.s 4)]),
 mv 3 5] [4,5])
 (.seq (.seq (.reg [mv 6 3] [])
 (.seq (.reg [o0 7 (.bin .neq (.s 6) (.c (.int .i64 0)))] [])
 (.seq (.reg [mv 8 7] [])
 (.seq (.draw [⟨mf 9 0 8,[]⟩,
 ⟨oF 10 8 (.nchk (.s 9)),[0]⟩,
 ⟨oF 11 8 (.fadr 2 (.s 10)),[1,0]⟩,
 ⟨oF 12 8 (.load none (.s 11)),[2,1,0]⟩,
 ⟨mf 13 0 8,[]⟩,
 ⟨oF 14 8 (.nchk (.s 13)),[4]⟩,
 ⟨oF 15 8 (.fadr 1 (.s 14)),[5,4]⟩,
 ⟨oF 16 8 (.load none (.s 15)),[6,5,4]⟩,
 ⟨oF 17 8 (.len (.s 16)),[7,6,5,4]⟩] [] [])
 (.seq (.reg [oF 18 8 (.bin .eql (.s 12) (.s 17))] [])
 (.reg [o0 19 (.pick (.s 8) (.c (.bool true)) (.s 18))] [6,7,8,9,10,11,12,13,14,15,16,17,18]))))))
 (.cond (.s 19)
 (.seq (.reg [mv 20 3,
 mv 2 20] [20])
 .ret)
 .skip)))
 (.seq (.reg [o0 2 (.mov (.c (.int .i64 5)))] [])
 .ret)))⟩

theorem cX41:compF Tryz.prog 78 = some FX41:=by kernel_rfl
abbrev nX41:FuncId:=78

def FX93:IFun :=
⟨22,2,[.tmp 4],
 (.seq (.reg [o0 4 (.mov (.c (.str [])))] [])
 (.seq (.seq (.reg [mv 7 0,
 o0 8 (.len (.s 7)),
 o0 9 (.mov (.c (.int .i64 0)))] [])
 (.block 0 (.loop (.seq (.reg [o0 10 (.bin .lss (.s 9) (.s 8))] [])
 (.seq (.cond (.s 10)
 .skip
 (.exit 0))
 (.seq (.block 1 (.seq (.reg [o0 11 (.iadr 2 (.s 7) (.s 9)),
 o0 12 (.load (some 2) (.s 11)),
 o0 6 (.new 129 [(.int .i64 0),(.str [])]),
 ⟨none,.store 2 (.s 6) (.s 12),none⟩] [11,12])
 (.seq (.reg [o0 13 (.load (some 2) (.s 6)),
 mv 14 1,
 o0 15 (.fadr 1 (.s 6)),
 o0 16 (.load none (.s 15)),
 o0 17 (.build [(.int .i64 0),(.str [])] [(0,1,(.s 14)),(1,1,(.s 16))]),
 o0 18 (.sbin .eql [.i,.s] (.s 13) (.s 17))] [13,14,15,16,17])
 (.cond (.s 18)
 (.seq (.reg [o0 19 (.fadr 1 (.s 6)),
 o0 20 (.load none (.s 19)),
 mv 4 20] [19,20])
 .ret)
 .skip))))
 (.reg [o0 21 (.bin .add (.s 9) (.c (.int .i64 1))),
 mv 9 21] [21])))))))
 (.seq (.reg [o0 4 (.mov (.c (.str [])))] [])
 .ret)))⟩

theorem cX93:compF Tryz.prog 79 = some FX93:=by kernel_rfl
abbrev nX93:FuncId:=79

def FX13:IFun :=
⟨15,2,[],
 (.seq (.reg [mv 4 0,
 o0 5 (.call 150 [(.s 4)])] [4])
 (.cond (.s 5)
 (.reg [mv 6 0,
 mv 7 0,
 o0 8 (.nchk (.s 7)),
 o0 9 (.fadr 1 (.s 8)),
 o0 10 (.load none (.s 9)),
 mv 11 1,
 o0 12 (.app 5 1 (.s 10) (.s 11)),
 o0 13 (.nchk (.s 6)),
 o0 14 (.fadr 1 (.s 13)),
 ⟨none,.store 1 (.s 14) (.s 12),none⟩] [6,7,8,9,10,11,12,13,14])
 .skip))⟩

theorem cX13:compF Tryz.prog 80 = some FX13:=by kernel_rfl
abbrev nX13:FuncId:=80

def FX23:IFun :=
⟨10,2,[],
 (.seq (.reg [mv 4 0,
 o0 5 (.call 150 [(.s 4)])] [4])
 (.cond (.s 5)
 (.reg [mv 6 0,
 mv 7 1,
 o0 8 (.nchk (.s 6)),
 o0 9 (.fadr 2 (.s 8)),
 ⟨none,.store 1 (.s 9) (.s 7),none⟩] [6,7,8,9])
 .skip))⟩

theorem cX23:compF Tryz.prog 81 = some FX23:=by kernel_rfl
abbrev nX23:FuncId:=81

def FX43:IFun :=
⟨169,1,[.tmp 2],
 (.seq (.reg [o0 2 (.mov (.c (.bool false)))] [])
 (.seq (.block 0 (.loop (.seq (.seq (.reg [mv 7 0,
 o0 8 (.slen (.s 7)),
 o0 9 (.bin .gtr (.s 8) (.c (.int .i64 0)))] [7,8])
 (.cond (.s 9)
 .skip
 (.exit 0)))
 (.block 1 (.seq (.reg [mv 10 0,
 o0 11 (.sidx (.s 10) (.c (.int .i64 0))),
 mv 3 11] [10,11])
 (.seq (.seq (.reg [mv 12 3,
 o0 13 (.bin .lss (.s 12) (.c (.int .u8 128)))] [12])
 (.cond (.s 13)
 (.seq (.reg [mv 14 0,
 o0 15 (.sslc (.s 14) (some (.c (.int .i64 1))) none),
 mv 0 15] [14,15])
 (.seq (.seq (.reg [mv 16 0,
 o0 17 (.slen (.s 16)),
 o0 18 (.bin .gtr (.s 17) (.c (.int .i64 8))),
 mv 19 18,
 mt 20 0 19,
 ot 21 19 (.call 151 [(.s 20)]),
 ot 22 19 (.bin .and (.s 21) (.c (.int .u64 9259542123273814144))),
 ot 23 19 (.bin .eql (.s 22) (.c (.int .u64 0))),
 o0 24 (.pick (.s 19) (.s 23) (.c (.bool false)))] [16,17,18,19,20,21,22,23])
 (.cond (.s 24)
 (.seq (.reg [mv 25 0,
 o0 26 (.sslc (.s 25) (some (.c (.int .i64 8))) none),
 mv 0 26] [25,26])
 (.seq (.seq (.reg [mv 27 0] [])
 (.seq (.reg [o0 28 (.slen (.s 27))] [])
 (.seq (.reg [o0 29 (.bin .gtr (.s 28) (.c (.int .i64 16)))] [])
 (.seq (.reg [mv 30 29] [])
 (.seq (.draw [⟨mt 31 0 30,[]⟩,
 ⟨ot 32 30 (.call 151 [(.s 31)]),[0]⟩,
 ⟨mt 33 0 30,[]⟩,
 ⟨ot 34 30 (.sslc (.s 33) (some (.c (.int .i64 8))) none),[2]⟩] [] [])
 (.seq (.reg [ot 35 30 (.call 151 [(.s 34)])] [])
 (.seq (.reg [ot 36 30 (.bin .or (.s 32) (.s 35))] [])
 (.seq (.reg [ot 37 30 (.bin .and (.s 36) (.c (.int .u64 9259542123273814144)))] [])
 (.seq (.reg [ot 38 30 (.bin .eql (.s 37) (.c (.int .u64 0)))] [])
 (.reg [o0 39 (.pick (.s 30) (.s 38) (.c (.bool false)))] [27,28,29,30,31,32,33,34,35,36,37,38]))))))))))
 (.cond (.s 39)
 (.seq (.reg [mv 40 0,
 o0 41 (.sslc (.s 40) (some (.c (.int .i64 16))) none),
 mv 0 41] [40,41])
 (.block 2 (.loop (.seq (.seq (.seq (.reg [mv 42 0] [])
 (.seq (.reg [o0 43 (.slen (.s 42))] [])
 (.seq (.reg [o0 44 (.bin .gtr (.s 43) (.c (.int .i64 32)))] [])
 (.seq (.reg [mv 45 44] [])
 (.seq (.draw [⟨mt 46 0 45,[]⟩,
 ⟨ot 47 45 (.call 151 [(.s 46)]),[0]⟩,
 ⟨mt 48 0 45,[]⟩,
 ⟨ot 49 45 (.sslc (.s 48) (some (.c (.int .i64 8))) none),[2]⟩,
 ⟨ot 50 45 (.call 151 [(.s 49)]),[3,2,1,0]⟩,
 ⟨ot 51 45 (.bin .or (.s 47) (.s 50)),[1,0,4,3,2]⟩,
 ⟨mt 52 0 45,[]⟩,
 ⟨ot 53 45 (.sslc (.s 52) (some (.c (.int .i64 16))) none),[6]⟩,
 ⟨ot 54 45 (.call 151 [(.s 53)]),[7,6,4,3,2,1,0]⟩,
 ⟨mt 55 0 45,[]⟩,
 ⟨ot 56 45 (.sslc (.s 55) (some (.c (.int .i64 24))) none),[9]⟩,
 ⟨ot 57 45 (.call 151 [(.s 56)]),[10,9,8,7,6,4,3,2,1,0]⟩,
 ⟨ot 58 45 (.bin .or (.s 54) (.s 57)),[8,7,6,4,3,2,1,0,11,10,9]⟩] [] [])
 (.seq (.reg [ot 59 45 (.bin .or (.s 51) (.s 58))] [])
 (.seq (.reg [ot 60 45 (.bin .and (.s 59) (.c (.int .u64 9259542123273814144)))] [])
 (.seq (.reg [ot 61 45 (.bin .eql (.s 60) (.c (.int .u64 0)))] [])
 (.reg [o0 62 (.pick (.s 45) (.s 61) (.c (.bool false)))] [42,43,44,45,46,47,48,49,50,51,52,53,54,55,56,57,58,59,60,61])))))))))
 (.cond (.s 62)
 .skip
 (.exit 2)))
 (.block 3 (.reg [mv 63 0,
 o0 64 (.sslc (.s 63) (some (.c (.int .i64 32))) none),
 mv 0 64] [63,64]))))))
 .skip)))
 .skip))
 (.exit 1)))
 .skip))
 (.seq (.reg [mv 65 3,
 o0 66 (.aadr 1 256 (.s 1000000) (.s 65)),
 o0 67 (.load none (.s 66)),
 mv 4 67] [65,66,67])
 (.seq (.reg [mv 68 4,
 o0 69 (.bin .and (.s 68) (.c (.int .u8 7))),
 o0 70 (.cvi .i64 (.s 69)),
 mv 5 70] [68,69,70])
 (.seq (.reg [mv 71 4,
 o0 72 (.bin .shr (.s 71) (.c (.int .u64 4))),
 o0 73 (.aadr 2 16 (.s 1000001) (.s 72)),
 o0 74 (.load (some 2) (.s 73)),
 o0 6 (.new 210 [(.int .u8 0),(.int .u8 0)]),
 ⟨none,.store 2 (.s 6) (.s 74),none⟩] [71,72,73,74])
 (.seq (.reg [mv 75 5] [])
 (.block 4 (.seq (.reg [o0 77 (.bin .eql (.s 75) (.c (.int .i64 2))),
 mv 76 77] [77])
 (.cond (.s 76)
 (.seq (.seq (.seq (.reg [mv 78 0] [])
 (.seq (.reg [o0 79 (.slen (.s 78))] [])
 (.seq (.reg [o0 80 (.bin .lss (.s 79) (.c (.int .i64 2)))] [])
 (.seq (.reg [mv 81 80] [])
 (.seq (.draw [⟨mf 82 0 81,[]⟩,
 ⟨oF 83 81 (.sidx (.s 82) (.c (.int .i64 1))),[0]⟩,
 ⟨oF 84 81 (.fadr 0 (.s 6)),[]⟩,
 ⟨oF 85 81 (.load none (.s 84)),[2]⟩] [] [])
 (.seq (.reg [oF 86 81 (.bin .lss (.s 83) (.s 85))] [])
 (.seq (.reg [o0 87 (.pick (.s 81) (.c (.bool true)) (.s 86))] [])
 (.seq (.reg [mv 88 87] [])
 (.seq (.draw [⟨oF 89 88 (.fadr 1 (.s 6)),[]⟩,
 ⟨oF 90 88 (.load none (.s 89)),[0]⟩,
 ⟨mf 91 0 88,[]⟩,
 ⟨oF 92 88 (.sidx (.s 91) (.c (.int .i64 1))),[2]⟩] [] [])
 (.seq (.reg [oF 93 88 (.bin .lss (.s 90) (.s 92))] [])
 (.reg [o0 94 (.pick (.s 88) (.c (.bool true)) (.s 93))] [78,79,80,81,82,83,84,85,86,87,88,89,90,91,92,93])))))))))))
 (.cond (.s 94)
 (.seq (.reg [o0 2 (.mov (.c (.bool false)))] [])
 .ret)
 .skip))
 (.reg [mv 95 0,
 o0 96 (.sslc (.s 95) (some (.c (.int .i64 2))) none),
 mv 0 96] [95,96]))
 (.seq (.reg [o0 98 (.bin .eql (.s 75) (.c (.int .i64 3))),
 mv 97 98] [98])
 (.cond (.s 97)
 (.seq (.seq (.seq (.reg [mv 99 0] [])
 (.seq (.reg [o0 100 (.slen (.s 99))] [])
 (.seq (.reg [o0 101 (.bin .lss (.s 100) (.c (.int .i64 3)))] [])
 (.seq (.reg [mv 102 101] [])
 (.seq (.draw [⟨mf 103 0 102,[]⟩,
 ⟨oF 104 102 (.sidx (.s 103) (.c (.int .i64 1))),[0]⟩,
 ⟨oF 105 102 (.fadr 0 (.s 6)),[]⟩,
 ⟨oF 106 102 (.load none (.s 105)),[2]⟩] [] [])
 (.seq (.reg [oF 107 102 (.bin .lss (.s 104) (.s 106))] [])
 (.seq (.reg [o0 108 (.pick (.s 102) (.c (.bool true)) (.s 107))] [])
 (.seq (.reg [mv 109 108] [])
 (.seq (.draw [⟨oF 110 109 (.fadr 1 (.s 6)),[]⟩,
 ⟨oF 111 109 (.load none (.s 110)),[0]⟩,
 ⟨mf 112 0 109,[]⟩,
 ⟨oF 113 109 (.sidx (.s 112) (.c (.int .i64 1))),[2]⟩] [] [])
 (.seq (.reg [oF 114 109 (.bin .lss (.s 111) (.s 113))] [])
 (.seq (.reg [o0 115 (.pick (.s 109) (.c (.bool true)) (.s 114))] [])
 (.seq (.reg [mv 116 115] [])
 (.seq (.reg [mf 117 0 116] [])
 (.seq (.reg [oF 118 116 (.sidx (.s 117) (.c (.int .i64 2)))] [])
 (.seq (.reg [oF 119 116 (.bin .lss (.s 118) (.c (.int .u8 128)))] [])
 (.seq (.reg [o0 120 (.pick (.s 116) (.c (.bool true)) (.s 119))] [])
 (.seq (.reg [mv 121 120] [])
 (.seq (.reg [mf 122 0 121] [])
 (.seq (.reg [oF 123 121 (.sidx (.s 122) (.c (.int .i64 2)))] [])
 (.seq (.reg [oF 124 121 (.bin .lss (.c (.int .u8 191)) (.s 123))] [])
 (.reg [o0 125 (.pick (.s 121) (.c (.bool true)) (.s 124))] [99,100,101,102,103,104,105,106,107,108,109,110,111,112,113,114,115,116,117,118,119,120,121,122,123,124])))))))))))))))))))))
 (.cond (.s 125)
 (.seq (.reg [o0 2 (.mov (.c (.bool false)))] [])
 .ret)
 .skip))
 (.reg [mv 126 0,
 o0 127 (.sslc (.s 126) (some (.c (.int .i64 3))) none),
 mv 0 127] [126,127]))
 (.seq (.reg [o0 129 (.bin .eql (.s 75) (.c (.int .i64 4))),
 mv 128 129] [129])
 (.cond (.s 128)
 (.seq (.seq (.seq (.reg [mv 130 0] [])
 (.seq (.reg [o0 131 (.slen (.s 130))] [])
 (.seq (.reg [o0 132 (.bin .lss (.s 131) (.c (.int .i64 4)))] [])
 (.seq (.reg [mv 133 132] [])
 (.seq (.draw [⟨mf 134 0 133,[]⟩,
 ⟨oF 135 133 (.sidx (.s 134) (.c (.int .i64 1))),[0]⟩,
 ⟨oF 136 133 (.fadr 0 (.s 6)),[]⟩,
 ⟨oF 137 133 (.load none (.s 136)),[2]⟩] [] [])
 (.seq (.reg [oF 138 133 (.bin .lss (.s 135) (.s 137))] [])
 (.seq (.reg [o0 139 (.pick (.s 133) (.c (.bool true)) (.s 138))] [])
 (.seq (.reg [mv 140 139] [])
 (.seq (.draw [⟨oF 141 140 (.fadr 1 (.s 6)),[]⟩,
 ⟨oF 142 140 (.load none (.s 141)),[0]⟩,
 ⟨mf 143 0 140,[]⟩,
 ⟨oF 144 140 (.sidx (.s 143) (.c (.int .i64 1))),[2]⟩] [] [])
 (.seq (.reg [oF 145 140 (.bin .lss (.s 142) (.s 144))] [])
 (.seq (.reg [o0 146 (.pick (.s 140) (.c (.bool true)) (.s 145))] [])
 (.seq (.reg [mv 147 146] [])
 (.seq (.reg [mf 148 0 147] [])
 (.seq (.reg [oF 149 147 (.sidx (.s 148) (.c (.int .i64 2)))] [])
 (.seq (.reg [oF 150 147 (.bin .lss (.s 149) (.c (.int .u8 128)))] [])
 (.seq (.reg [o0 151 (.pick (.s 147) (.c (.bool true)) (.s 150))] [])
 (.seq (.reg [mv 152 151] [])
 (.seq (.reg [mf 153 0 152] [])
 (.seq (.reg [oF 154 152 (.sidx (.s 153) (.c (.int .i64 2)))] [])
 (.seq (.reg [oF 155 152 (.bin .lss (.c (.int .u8 191)) (.s 154))] [])
 (.seq (.reg [o0 156 (.pick (.s 152) (.c (.bool true)) (.s 155))] [])
 (.seq (.reg [mv 157 156] [])
 (.seq (.reg [mf 158 0 157] [])
 (.seq (.reg [oF 159 157 (.sidx (.s 158) (.c (.int .i64 3)))] [])
 (.seq (.reg [oF 160 157 (.bin .lss (.s 159) (.c (.int .u8 128)))] [])
 (.seq (.reg [o0 161 (.pick (.s 157) (.c (.bool true)) (.s 160))] [])
 (.seq (.reg [mv 162 161] [])
 (.seq (.reg [mf 163 0 162] [])
 (.seq (.reg [oF 164 162 (.sidx (.s 163) (.c (.int .i64 3)))] [])
 (.seq (.reg [oF 165 162 (.bin .lss (.c (.int .u8 191)) (.s 164))] [])
 (.reg [o0 166 (.pick (.s 162) (.c (.bool true)) (.s 165))] [130,131,132,133,134,135,136,137,138,139,140,141,142,143,144,145,146,147,148,149,150,151,152,153,154,155,156,157,158,159,160,161,162,163,164,165])))))))))))))))))))))))))))))))
 (.cond (.s 166)
 (.seq (.reg [o0 2 (.mov (.c (.bool false)))] [])
 .ret)
 .skip))
 (.reg [mv 167 0,
 o0 168 (.sslc (.s 167) (some (.c (.int .i64 4))) none),
 mv 0 168] [167,168]))
 (.seq (.reg [o0 2 (.mov (.c (.bool false)))] [])
 .ret))))))))))))))))))
 (.seq (.reg [o0 2 (.mov (.c (.bool true)))] [])
 .ret)))⟩

theorem cX43:compF Tryz.prog 82 = some FX43:=by kernel_rfl
abbrev nX43:FuncId:=82

def FX133:IFun :=
⟨24,2,[.tmp 4],
 (.seq (.reg [o0 4 (.mov (.c .nl))] [])
 (.seq (.reg [o0 6 (.bsl 5 1 [] []),
 mv 7 0,
 o0 8 (.app 5 1 (.s 6) (.s 7)),
 mv 5 8] [6,7,8])
 (.seq (.block 0 (.loop (.seq (.seq (.reg [mv 9 1,
 o0 10 (.bin .geq (.s 9) (.c (.int .u64 128)))] [9])
 (.cond (.s 10)
 .skip
 (.exit 0)))
 (.block 1 (.seq (.reg [mv 11 5,
 mv 12 1,
 o0 13 (.cvi .u8 (.s 12)),
 o0 14 (.bin .or (.s 13) (.c (.int .u8 128))),
 o0 15 (.bsl 5 1 [[(.int .u8 0)]] [(0,(.s 14))]),
 o0 16 (.app 5 1 (.s 11) (.s 15)),
 mv 5 16] [11,12,13,14,15,16])
 (.reg [mv 17 1,
 o0 18 (.bin .shr (.s 17) (.c (.int .u64 7))),
 mv 1 18] [17,18]))))))
 (.seq (.reg [mv 19 5,
 mv 20 1,
 o0 21 (.cvi .u8 (.s 20)),
 o0 22 (.bsl 5 1 [[(.int .u8 0)]] [(0,(.s 21))]),
 o0 23 (.app 5 1 (.s 19) (.s 22)),
 mv 4 23] [19,20,21,22,23])
 .ret))))⟩

theorem cX133:compF Tryz.prog 83 = some FX133:=by kernel_rfl
abbrev nX133:FuncId:=83

def FX59:IFun :=
⟨11,2,[.cell 4 (some 2)],
 (.seq (.reg [o0 2 (.box 71 2 (.s 0)),
 o0 4 (.new 71 [.nl,(.int .i64 0)])] [])
 (.seq (.seq (.reg [o0 5 (.fadr 1 (.s 2)),
 o0 6 (.load none (.s 5)),
 o0 7 (.bin .eql (.s 6) (.c (.int .i64 0)))] [5,6])
 (.cond (.s 7)
 (.reg [mv 8 1,
 o0 9 (.fadr 1 (.s 2)),
 ⟨none,.store 1 (.s 9) (.s 8),none⟩] [8,9])
 .skip))
 (.seq (.reg [o0 10 (.load (some 2) (.s 2)),
 ⟨none,.store 2 (.s 4) (.s 10),none⟩] [10])
 .ret)))⟩

theorem cX59:compF Tryz.prog 84 = some FX59:=by kernel_rfl
abbrev nX59:FuncId:=84

def FX53:IFun :=
⟨17,2,[.cell 4 (some 2)],
 (.seq (.reg [o0 2 (.box 71 2 (.s 0)),
 o0 4 (.new 71 [.nl,(.int .i64 0)])] [])
 (.seq (.seq (.reg [o0 5 (.fadr 1 (.s 2)),
 o0 6 (.load none (.s 5)),
 o0 7 (.bin .neq (.s 6) (.c (.int .i64 0)))] [5,6])
 (.cond (.s 7)
 (.seq (.reg [o0 8 (.load (some 2) (.s 2)),
 ⟨none,.store 2 (.s 4) (.s 8),none⟩] [8])
 .ret)
 .skip))
 (.seq (.reg [o0 9 (.bsl 5 1 [] []),
 o0 10 (.fadr 0 (.s 2)),
 o0 11 (.load none (.s 10)),
 o0 12 (.app 5 1 (.s 9) (.s 11)),
 mv 13 1,
 o0 14 (.app 5 1 (.s 12) (.s 13)),
 o0 15 (.fadr 0 (.s 2)),
 ⟨none,.store 1 (.s 15) (.s 14),none⟩] [9,10,11,12,13,14,15])
 (.seq (.reg [o0 16 (.load (some 2) (.s 2)),
 ⟨none,.store 2 (.s 4) (.s 16),none⟩] [16])
 .ret))))⟩

theorem cX53:compF Tryz.prog 85 = some FX53:=by kernel_rfl
abbrev nX53:FuncId:=85

def FX109:IFun :=
⟨25,2,[.tmp 4],
 (.seq (.reg [o0 4 (.mov (.c .nl))] [])
 (.seq (.reg [o0 6 (.bsl 5 1 [] []),
 mv 7 0,
 o0 8 (.app 5 1 (.s 6) (.s 7)),
 mv 5 8] [6,7,8])
 (.seq (.block 0 (.loop (.seq (.seq (.reg [mv 9 1,
 o0 10 (.bin .geq (.s 9) (.c (.int .u64 128)))] [9])
 (.cond (.s 10)
 .skip
 (.exit 0)))
 (.block 1 (.seq (.reg [mv 11 5,
 mv 12 1,
 o0 13 (.bin .rem (.s 12) (.c (.int .u64 128))),
 o0 14 (.cvi .u8 (.s 13)),
 o0 15 (.bin .add (.s 14) (.c (.int .u8 128))),
 o0 16 (.bsl 5 1 [[(.int .u8 0)]] [(0,(.s 15))]),
 o0 17 (.app 5 1 (.s 11) (.s 16)),
 mv 5 17] [11,12,13,14,15,16,17])
 (.reg [mv 18 1,
 o0 19 (.bin .quo (.s 18) (.c (.int .u64 128))),
 mv 1 19] [18,19]))))))
 (.seq (.reg [mv 20 5,
 mv 21 1,
 o0 22 (.cvi .u8 (.s 21)),
 o0 23 (.bsl 5 1 [[(.int .u8 0)]] [(0,(.s 22))]),
 o0 24 (.app 5 1 (.s 20) (.s 23)),
 mv 4 24] [20,21,22,23,24])
 .ret))))⟩

theorem cX109:compF Tryz.prog 86 = some FX109:=by kernel_rfl
abbrev nX109:FuncId:=86

def FX120:IFun :=
⟨11,1,[.tmp 2],
 (.seq (.reg [o0 2 (.mov (.c (.bool false)))] [])
 (.seq (.reg [mv 6 0,
 o0 7 (.call 152 [(.s 6)]),
 mv 5 7,
 o0 8 (.ext (.s 5) 0),
 o0 9 (.ext (.s 5) 1),
 mv 3 8,
 mv 4 9] [6,7,5,8,9,3])
 (.seq (.reg [mv 10 4,
 mv 2 10] [10])
 .ret)))⟩

theorem cX120:compF Tryz.prog 87 = some FX120:=by kernel_rfl
abbrev nX120:FuncId:=87

def FX64:IFun :=
⟨19,1,[.tmp 2],
 (.seq (.reg [o0 2 (.mov (.c .nl))] [])
 (.seq (.reg [o0 3 (.mov (.c .nl))] [])
 (.seq (.seq (.reg [mv 6 0,
 o0 7 (.len (.s 6)),
 o0 8 (.mov (.c (.int .i64 0)))] [])
 (.block 0 (.loop (.seq (.reg [o0 9 (.bin .lss (.s 8) (.s 7))] [])
 (.seq (.cond (.s 9)
 .skip
 (.exit 0))
 (.seq (.block 1 (.seq (.reg [o0 10 (.iadr 2 (.s 6) (.s 8)),
 o0 11 (.load (some 2) (.s 10)),
 o0 5 (.new 129 [(.int .i64 0),(.str [])]),
 ⟨none,.store 2 (.s 5) (.s 11),none⟩] [10,11])
 (.reg [mv 12 3,
 o0 13 (.fadr 0 (.s 5)),
 o0 14 (.load none (.s 13)),
 o0 15 (.bsl 3 1 [[(.int .i64 0)]] [(0,(.s 14))]),
 o0 16 (.app 3 1 (.s 12) (.s 15)),
 mv 3 16] [12,13,14,15,16])))
 (.reg [o0 17 (.bin .add (.s 8) (.c (.int .i64 1))),
 mv 8 17] [17])))))))
 (.seq (.reg [mv 18 3,
 mv 2 18] [18])
 .ret))))⟩

theorem cX64:compF Tryz.prog 88 = some FX64:=by kernel_rfl
abbrev nX64:FuncId:=88

def FX106:IFun :=
⟨11,1,[.tmp 2],
 (.seq (.reg [o0 2 (.mov (.c (.int .i64 0)))] [])
 (.seq (.block 0 (.seq (.reg [mv 4 0,
 o0 5 (.call 153 [(.s 4)]),
 o0 6 (.un .not (.s 5)),
 mv 3 6] [4,5,6])
 (.cond (.s 3)
 (.seq (.reg [o0 2 (.mov (.c (.int .i64 9)))] [])
 .ret)
 (.seq (.reg [mv 8 0,
 o0 9 (.slen (.s 8)),
 o0 10 (.bin .gtr (.s 9) (.c (.int .i64 64))),
 mv 7 10] [8,9,10])
 (.cond (.s 7)
 (.seq (.reg [o0 2 (.mov (.c (.int .i64 6)))] [])
 .ret)
 .skip)))))
 (.seq (.reg [o0 2 (.mov (.c (.int .i64 0)))] [])
 .ret)))⟩

theorem cX106:compF Tryz.prog 89 = some FX106:=by kernel_rfl
abbrev nX106:FuncId:=89

def FX89:IFun :=
⟨26,2,[.tmp 4],
 (.seq (.reg [o0 4 (.mov (.c (.int .i64 0)))] [])
 (.seq (.seq (.reg [mv 7 0,
 o0 8 (.len (.s 7)),
 mv 9 1,
 o0 10 (.bin .gtr (.s 8) (.s 9))] [7,8,9])
 (.cond (.s 10)
 (.seq (.reg [o0 4 (.mov (.c (.int .i64 6)))] [])
 .ret)
 .skip))
 (.seq (.seq (.reg [o0 5 (.mov (.c (.int .i64 0)))] [])
 (.block 0 (.loop (.seq (.seq (.reg [mv 11 5,
 mv 12 0,
 o0 13 (.len (.s 12)),
 o0 14 (.bin .lss (.s 11) (.s 13))] [11,12,13])
 (.cond (.s 14)
 .skip
 (.exit 0)))
 (.seq (.block 1 (.seq (.reg [mv 17 0,
 mv 18 5,
 o0 19 (.iadr 2 (.s 17) (.s 18)),
 o0 20 (.fadr 1 (.s 19)),
 o0 21 (.load none (.s 20)),
 o0 22 (.call 89 [(.s 21)]),
 mv 6 22] [17,18,19,20,21,22])
 (.seq (.reg [mv 23 6,
 o0 24 (.bin .neq (.s 23) (.c (.int .i64 0)))] [23])
 (.cond (.s 24)
 (.seq (.reg [mv 25 6,
 mv 4 25] [25])
 .ret)
 .skip))))
 (.reg [mv 15 5,
 o0 16 (.bin .add (.s 15) (.c (.int .i64 1))),
 mv 5 16] [15,16]))))))
 (.seq (.reg [o0 4 (.mov (.c (.int .i64 0)))] [])
 .ret))))⟩

theorem cX89:compF Tryz.prog 90 = some FX89:=by kernel_rfl
abbrev nX89:FuncId:=90

def FX27:IFun :=
⟨22,2,[.tmp 4],
 (.seq (.reg [o0 4 (.mov (.c .nl))] [])
 (.seq (.reg [o0 5 (.mov (.c .nl))] [])
 (.seq (.seq (.reg [mv 8 0,
 o0 9 (.len (.s 8)),
 o0 10 (.mov (.c (.int .i64 0)))] [])
 (.block 0 (.loop (.seq (.reg [o0 11 (.bin .lss (.s 10) (.s 9))] [])
 (.seq (.cond (.s 11)
 .skip
 (.exit 0))
 (.seq (.block 1 (.seq (.reg [o0 12 (.iadr 2 (.s 8) (.s 10)),
 o0 13 (.load (some 2) (.s 12)),
 o0 7 (.new 137 [.nl,.nl]),
 ⟨none,.store 2 (.s 7) (.s 13),none⟩] [12,13])
 (.reg [mv 14 5,
 mv 15 1,
 o0 16 (.load (some 2) (.s 7)),
 o0 17 (.callv (.s 15) [(.s 16)]),
 o0 18 (.bsl 137 2 [[.nl,.nl]] [(0,(.s 17))]),
 o0 19 (.app 137 2 (.s 14) (.s 18)),
 mv 5 19] [14,15,16,17,18,19])))
 (.reg [o0 20 (.bin .add (.s 10) (.c (.int .i64 1))),
 mv 10 20] [20])))))))
 (.seq (.reg [mv 21 5,
 mv 4 21] [21])
 .ret))))⟩

theorem cX27:compF Tryz.prog 91 = some FX27:=by kernel_rfl
abbrev nX27:FuncId:=91

def FX81:IFun :=
⟨10,1,[.cell 2 (some 2)],
 (.seq (.reg [o0 1 (.box 137 2 (.s 0)),
 o0 2 (.new 137 [.nl,.nl])] [])
 (.seq (.seq (.draw [⟨o0 3 (.fadr 0 (.s 1)),[]⟩,
 ⟨o0 4 (.load none (.s 3)),[0]⟩,
 ⟨o0 5 (.call 93 [(.s 4)]),[1,0]⟩,
 ⟨o0 6 (.fadr 1 (.s 1)),[]⟩,
 ⟨o0 7 (.load none (.s 6)),[3]⟩] [] [])
 (.seq (.reg [o0 8 (.call 93 [(.s 7)])] [])
 (.seq (.reg [o0 9 (.build [.nl,.nl] [(0,1,(.s 5)),(1,1,(.s 8))])] [])
 (.reg [⟨none,.store 2 (.s 2) (.s 9),none⟩] [3,4,5,6,7,8,9]))))
 .ret))⟩

theorem cX81:compF Tryz.prog 92 = some FX81:=by kernel_rfl
abbrev nX81:FuncId:=92

def FX4:IFun :=
⟨8,1,[.tmp 2],
 (.seq (.reg [o0 2 (.mov (.c .nl))] [])
 (.seq (.seq (.reg [mv 3 0,
 o0 4 (.snl false (.s 3))] [3])
 (.cond (.s 4)
 (.seq (.reg [o0 2 (.mov (.c .nl))] [])
 .ret)
 .skip))
 (.seq (.reg [o0 5 (.bsl 87 1 [] []),
 mv 6 0,
 o0 7 (.app 87 1 (.s 5) (.s 6)),
 mv 2 7] [5,6,7])
 .ret)))⟩

theorem cX4:compF Tryz.prog 93 = some FX4:=by kernel_rfl
abbrev nX4:FuncId:=93

def FX1:IFun :=
⟨8,1,[.tmp 2],
 (.seq (.reg [o0 2 (.mov (.c .nl))] [])
 (.seq (.seq (.reg [mv 3 0,
 o0 4 (.snl false (.s 3))] [3])
 (.cond (.s 4)
 (.seq (.reg [o0 2 (.mov (.c .nl))] [])
 .ret)
 .skip))
 (.seq (.reg [o0 5 (.bsl 149 13 [] []),
 mv 6 0,
 o0 7 (.app 149 13 (.s 5) (.s 6)),
 mv 2 7] [5,6,7])
 .ret)))⟩

theorem cX1:compF Tryz.prog 94 = some FX1:=by kernel_rfl
abbrev nX1:FuncId:=94

def FX3:IFun :=
⟨8,1,[.tmp 2],
 (.seq (.reg [o0 2 (.mov (.c .nl))] [])
 (.seq (.seq (.reg [mv 3 0,
 o0 4 (.snl false (.s 3))] [3])
 (.cond (.s 4)
 (.seq (.reg [o0 2 (.mov (.c .nl))] [])
 .ret)
 .skip))
 (.seq (.reg [o0 5 (.bsl 145 4 [] []),
 mv 6 0,
 o0 7 (.app 145 4 (.s 5) (.s 6)),
 mv 2 7] [5,6,7])
 .ret)))⟩

theorem cX3:compF Tryz.prog 95 = some FX3:=by kernel_rfl
abbrev nX3:FuncId:=95

def FX0:IFun :=
⟨8,1,[.tmp 2],
 (.seq (.reg [o0 2 (.mov (.c .nl))] [])
 (.seq (.seq (.reg [mv 3 0,
 o0 4 (.snl false (.s 3))] [3])
 (.cond (.s 4)
 (.seq (.reg [o0 2 (.mov (.c .nl))] [])
 .ret)
 .skip))
 (.seq (.reg [o0 5 (.bsl 143 3 [] []),
 mv 6 0,
 o0 7 (.app 143 3 (.s 5) (.s 6)),
 mv 2 7] [5,6,7])
 .ret)))⟩

theorem cX0:compF Tryz.prog 96 = some FX0:=by kernel_rfl
abbrev nX0:FuncId:=96

def FX2:IFun :=
⟨8,1,[.tmp 2],
 (.seq (.reg [o0 2 (.mov (.c .nl))] [])
 (.seq (.seq (.reg [mv 3 0,
 o0 4 (.snl false (.s 3))] [3])
 (.cond (.s 4)
 (.seq (.reg [o0 2 (.mov (.c .nl))] [])
 .ret)
 .skip))
 (.seq (.reg [o0 5 (.bsl 154 3 [] []),
 mv 6 0,
 o0 7 (.app 154 3 (.s 5) (.s 6)),
 mv 2 7] [5,6,7])
 .ret)))⟩

theorem cX2:compF Tryz.prog 97 = some FX2:=by kernel_rfl
abbrev nX2:FuncId:=97

def FX30:IFun :=
⟨22,2,[.tmp 4],
 (.seq (.reg [o0 4 (.mov (.c .nl))] [])
 (.seq (.reg [o0 5 (.mov (.c .nl))] [])
 (.seq (.seq (.reg [mv 8 0,
 o0 9 (.len (.s 8)),
 o0 10 (.mov (.c (.int .i64 0)))] [])
 (.block 0 (.loop (.seq (.reg [o0 11 (.bin .lss (.s 10) (.s 9))] [])
 (.seq (.cond (.s 11)
 .skip
 (.exit 0))
 (.seq (.block 1 (.seq (.reg [o0 12 (.iadr 3 (.s 8) (.s 10)),
 o0 13 (.load (some 3) (.s 12)),
 o0 7 (.new 157 [(.int .i64 0),.nl,.nl]),
 ⟨none,.store 3 (.s 7) (.s 13),none⟩] [12,13])
 (.reg [mv 14 5,
 mv 15 1,
 o0 16 (.load (some 3) (.s 7)),
 o0 17 (.callv (.s 15) [(.s 16)]),
 o0 18 (.bsl 157 3 [[(.int .i64 0),.nl,.nl]] [(0,(.s 17))]),
 o0 19 (.app 157 3 (.s 14) (.s 18)),
 mv 5 19] [14,15,16,17,18,19])))
 (.reg [o0 20 (.bin .add (.s 10) (.c (.int .i64 1))),
 mv 10 20] [20])))))))
 (.seq (.reg [mv 21 5,
 mv 4 21] [21])
 .ret))))⟩

theorem cX30:compF Tryz.prog 98 = some FX30:=by kernel_rfl
abbrev nX30:FuncId:=98

def FX77:IFun :=
⟨12,1,[.cell 2 (some 3)],
 (.seq (.reg [o0 1 (.box 157 3 (.s 0)),
 o0 2 (.new 157 [(.int .i64 0),.nl,.nl])] [])
 (.seq (.seq (.draw [⟨o0 3 (.fadr 0 (.s 1)),[]⟩,
 ⟨o0 4 (.load none (.s 3)),[0]⟩,
 ⟨o0 5 (.fadr 1 (.s 1)),[]⟩,
 ⟨o0 6 (.load none (.s 5)),[2]⟩,
 ⟨o0 7 (.call 93 [(.s 6)]),[3,2]⟩,
 ⟨o0 8 (.fadr 2 (.s 1)),[]⟩,
 ⟨o0 9 (.load none (.s 8)),[5]⟩,
 ⟨o0 10 (.call 100 [(.s 9)]),[6,5,4,3,2]⟩] [] [])
 (.seq (.reg [o0 11 (.build [(.int .i64 0),.nl,.nl] [(0,1,(.s 4)),(1,1,(.s 7)),(2,1,(.s 10))])] [])
 (.reg [⟨none,.store 3 (.s 2) (.s 11),none⟩] [3,4,5,6,7,8,9,10,11])))
 .ret))⟩

theorem cX77:compF Tryz.prog 99 = some FX77:=by kernel_rfl
abbrev nX77:FuncId:=99

def FX130:IFun :=
⟨5,1,[.tmp 2],
 (.seq (.reg [o0 2 (.mov (.c .nl))] [])
 (.seq (.reg [mv 3 0,
 o0 4 (.call 154 [(.s 3),(.c (.fn 155 []))]),
 mv 2 4] [3,4])
 .ret))⟩

theorem cX130:compF Tryz.prog 100 = some FX130:=by kernel_rfl
abbrev nX130:FuncId:=100

def FX5:IFun :=
⟨22,2,[.tmp 4],
 (.seq (.reg [o0 4 (.mov (.c .nl))] [])
 (.seq (.reg [o0 5 (.mov (.c .nl))] [])
 (.seq (.seq (.reg [mv 8 0,
 o0 9 (.len (.s 8)),
 o0 10 (.mov (.c (.int .i64 0)))] [])
 (.block 0 (.loop (.seq (.reg [o0 11 (.bin .lss (.s 10) (.s 9))] [])
 (.seq (.cond (.s 11)
 .skip
 (.exit 0))
 (.seq (.block 1 (.seq (.reg [o0 12 (.iadr 3 (.s 8) (.s 10)),
 o0 13 (.load (some 3) (.s 12)),
 o0 7 (.new 162 [(.int .i64 0),(.bool false),.nl]),
 ⟨none,.store 3 (.s 7) (.s 13),none⟩] [12,13])
 (.reg [mv 14 5,
 mv 15 1,
 o0 16 (.load (some 3) (.s 7)),
 o0 17 (.callv (.s 15) [(.s 16)]),
 o0 18 (.bsl 162 3 [[(.int .i64 0),(.bool false),.nl]] [(0,(.s 17))]),
 o0 19 (.app 162 3 (.s 14) (.s 18)),
 mv 5 19] [14,15,16,17,18,19])))
 (.reg [o0 20 (.bin .add (.s 10) (.c (.int .i64 1))),
 mv 10 20] [20])))))))
 (.seq (.reg [mv 21 5,
 mv 4 21] [21])
 .ret))))⟩

theorem cX5:compF Tryz.prog 101 = some FX5:=by kernel_rfl
abbrev nX5:FuncId:=101

def FX88:IFun :=
⟨9,1,[.cell 2 (some 3)],
 (.seq (.reg [o0 1 (.box 162 3 (.s 0)),
 o0 2 (.new 162 [(.int .i64 0),(.bool false),.nl])] [])
 (.seq (.seq (.draw [⟨o0 3 (.fadr 0 (.s 1)),[]⟩,
 ⟨o0 4 (.load (some 2) (.s 3)),[0]⟩,
 ⟨o0 5 (.fadr 2 (.s 1)),[]⟩,
 ⟨o0 6 (.load none (.s 5)),[2]⟩,
 ⟨o0 7 (.call 100 [(.s 6)]),[3,2]⟩] [] [])
 (.seq (.reg [o0 8 (.build [(.int .i64 0),(.bool false),.nl] [(0,2,(.s 4)),(2,1,(.s 7))])] [])
 (.reg [⟨none,.store 3 (.s 2) (.s 8),none⟩] [3,4,5,6,7,8])))
 .ret))⟩

theorem cX88:compF Tryz.prog 102 = some FX88:=by kernel_rfl
abbrev nX88:FuncId:=102

def FX31:IFun :=
⟨22,2,[.tmp 4],
 (.seq (.reg [o0 4 (.mov (.c .nl))] [])
 (.seq (.reg [o0 5 (.mov (.c .nl))] [])
 (.seq (.seq (.reg [mv 8 0,
 o0 9 (.len (.s 8)),
 o0 10 (.mov (.c (.int .i64 0)))] [])
 (.block 0 (.loop (.seq (.reg [o0 11 (.bin .lss (.s 10) (.s 9))] [])
 (.seq (.cond (.s 11)
 .skip
 (.exit 0))
 (.seq (.block 1 (.seq (.reg [o0 12 (.iadr 5 (.s 8) (.s 10)),
 o0 13 (.load (some 5) (.s 12)),
 o0 7 (.new 90 [(.int .i64 0),(.int .i64 0),.nl,(.int .i64 0),.nl]),
 ⟨none,.store 5 (.s 7) (.s 13),none⟩] [12,13])
 (.reg [mv 14 5,
 mv 15 1,
 o0 16 (.load (some 5) (.s 7)),
 o0 17 (.callv (.s 15) [(.s 16)]),
 o0 18 (.bsl 90 5 [[(.int .i64 0),(.int .i64 0),.nl,(.int .i64 0),.nl]] [(0,(.s 17))]),
 o0 19 (.app 90 5 (.s 14) (.s 18)),
 mv 5 19] [14,15,16,17,18,19])))
 (.reg [o0 20 (.bin .add (.s 10) (.c (.int .i64 1))),
 mv 10 20] [20])))))))
 (.seq (.reg [mv 21 5,
 mv 4 21] [21])
 .ret))))⟩

theorem cX31:compF Tryz.prog 103 = some FX31:=by kernel_rfl
abbrev nX31:FuncId:=103

def FX87:IFun :=
⟨12,1,[.cell 2 (some 5)],
 (.seq (.reg [o0 1 (.box 90 5 (.s 0)),
 o0 2 (.new 90 [(.int .i64 0),(.int .i64 0),.nl,(.int .i64 0),.nl])] [])
 (.seq (.seq (.draw [⟨o0 3 (.fadr 2 (.s 1)),[]⟩,
 ⟨o0 4 (.load none (.s 3)),[0]⟩,
 ⟨o0 5 (.call 100 [(.s 4)]),[1,0]⟩,
 ⟨o0 6 (.fadr 4 (.s 1)),[]⟩,
 ⟨o0 7 (.load none (.s 6)),[3]⟩] [] [])
 (.seq (.draw [⟨o0 8 (.call 105 [(.s 7),(.c (.fn 100 []))]),[]⟩,
 ⟨o0 9 (.fadr 2 (.s 1)),[]⟩] [] [])
 (.seq (.reg [⟨none,.store 1 (.s 9) (.s 5),none⟩] [])
 (.seq (.reg [o0 10 (.fadr 4 (.s 1))] [])
 (.reg [⟨none,.store 1 (.s 10) (.s 8),none⟩] [3,4,5,6,7,8,9,10])))))
 (.seq (.reg [o0 11 (.load (some 5) (.s 1)),
 ⟨none,.store 5 (.s 2) (.s 11),none⟩] [11])
 .ret)))⟩

theorem cX87:compF Tryz.prog 104 = some FX87:=by kernel_rfl
abbrev nX87:FuncId:=104

def FX9:IFun :=
⟨22,2,[.tmp 4],
 (.seq (.reg [o0 4 (.mov (.c .nl))] [])
 (.seq (.reg [o0 5 (.mov (.c .nl))] [])
 (.seq (.seq (.reg [mv 8 0,
 o0 9 (.len (.s 8)),
 o0 10 (.mov (.c (.int .i64 0)))] [])
 (.block 0 (.loop (.seq (.reg [o0 11 (.bin .lss (.s 10) (.s 9))] [])
 (.seq (.cond (.s 11)
 .skip
 (.exit 0))
 (.seq (.block 1 (.seq (.reg [o0 12 (.iadr 1 (.s 8) (.s 10)),
 o0 13 (.load none (.s 12)),
 mv 7 13] [12,13])
 (.reg [mv 14 5,
 mv 15 1,
 mv 16 7,
 o0 17 (.callv (.s 15) [(.s 16)]),
 o0 18 (.bsl 86 1 [[.nl]] [(0,(.s 17))]),
 o0 19 (.app 86 1 (.s 14) (.s 18)),
 mv 5 19] [14,15,16,17,18,19])))
 (.reg [o0 20 (.bin .add (.s 10) (.c (.int .i64 1))),
 mv 10 20] [20])))))))
 (.seq (.reg [mv 21 5,
 mv 4 21] [21])
 .ret))))⟩

theorem cX9:compF Tryz.prog 105 = some FX9:=by kernel_rfl
abbrev nX9:FuncId:=105

def FX24:IFun :=
⟨22,2,[.tmp 4],
 (.seq (.reg [o0 4 (.mov (.c .nl))] [])
 (.seq (.reg [o0 5 (.mov (.c .nl))] [])
 (.seq (.seq (.reg [mv 8 0,
 o0 9 (.len (.s 8)),
 o0 10 (.mov (.c (.int .i64 0)))] [])
 (.block 0 (.loop (.seq (.reg [o0 11 (.bin .lss (.s 10) (.s 9))] [])
 (.seq (.cond (.s 11)
 .skip
 (.exit 0))
 (.seq (.block 1 (.seq (.reg [o0 12 (.iadr 4 (.s 8) (.s 10)),
 o0 13 (.load (some 4) (.s 12)),
 o0 7 (.new 169 [(.int .i64 0),(.int .i64 0),.nl,.nl]),
 ⟨none,.store 4 (.s 7) (.s 13),none⟩] [12,13])
 (.reg [mv 14 5,
 mv 15 1,
 o0 16 (.load (some 4) (.s 7)),
 o0 17 (.callv (.s 15) [(.s 16)]),
 o0 18 (.bsl 169 4 [[(.int .i64 0),(.int .i64 0),.nl,.nl]] [(0,(.s 17))]),
 o0 19 (.app 169 4 (.s 14) (.s 18)),
 mv 5 19] [14,15,16,17,18,19])))
 (.reg [o0 20 (.bin .add (.s 10) (.c (.int .i64 1))),
 mv 10 20] [20])))))))
 (.seq (.reg [mv 21 5,
 mv 4 21] [21])
 .ret))))⟩

theorem cX24:compF Tryz.prog 106 = some FX24:=by kernel_rfl
abbrev nX24:FuncId:=106

def FX91:IFun :=
⟨12,1,[.cell 2 (some 4)],
 (.seq (.reg [o0 1 (.box 169 4 (.s 0)),
 o0 2 (.new 169 [(.int .i64 0),(.int .i64 0),.nl,.nl])] [])
 (.seq (.seq (.draw [⟨o0 3 (.fadr 2 (.s 1)),[]⟩,
 ⟨o0 4 (.load none (.s 3)),[0]⟩,
 ⟨o0 5 (.call 100 [(.s 4)]),[1,0]⟩,
 ⟨o0 6 (.fadr 3 (.s 1)),[]⟩,
 ⟨o0 7 (.load none (.s 6)),[3]⟩] [] [])
 (.seq (.draw [⟨o0 8 (.call 108 [(.s 7)]),[]⟩,
 ⟨o0 9 (.fadr 2 (.s 1)),[]⟩] [] [])
 (.seq (.reg [⟨none,.store 1 (.s 9) (.s 5),none⟩] [])
 (.seq (.reg [o0 10 (.fadr 3 (.s 1))] [])
 (.reg [⟨none,.store 1 (.s 10) (.s 8),none⟩] [3,4,5,6,7,8,9,10])))))
 (.seq (.reg [o0 11 (.load (some 4) (.s 1)),
 ⟨none,.store 4 (.s 2) (.s 11),none⟩] [11])
 .ret)))⟩

theorem cX91:compF Tryz.prog 107 = some FX91:=by kernel_rfl
abbrev nX91:FuncId:=107

def FX6:IFun :=
⟨8,1,[.tmp 2],
 (.seq (.reg [o0 2 (.mov (.c .nl))] [])
 (.seq (.seq (.reg [mv 3 0,
 o0 4 (.snl false (.s 3))] [3])
 (.cond (.s 4)
 (.seq (.reg [o0 2 (.mov (.c .nl))] [])
 .ret)
 .skip))
 (.seq (.reg [o0 5 (.bsl 5 1 [] []),
 mv 6 0,
 o0 7 (.app 5 1 (.s 5) (.s 6)),
 mv 2 7] [5,6,7])
 .ret)))⟩

theorem cX6:compF Tryz.prog 108 = some FX6:=by kernel_rfl
abbrev nX6:FuncId:=108

def FX10:IFun :=
⟨22,2,[.tmp 4],
 (.seq (.reg [o0 4 (.mov (.c .nl))] [])
 (.seq (.reg [o0 5 (.mov (.c .nl))] [])
 (.seq (.seq (.reg [mv 8 0,
 o0 9 (.len (.s 8)),
 o0 10 (.mov (.c (.int .i64 0)))] [])
 (.block 0 (.loop (.seq (.reg [o0 11 (.bin .lss (.s 10) (.s 9))] [])
 (.seq (.cond (.s 11)
 .skip
 (.exit 0))
 (.seq (.block 1 (.seq (.reg [o0 12 (.iadr 3 (.s 8) (.s 10)),
 o0 13 (.load (some 3) (.s 12)),
 o0 7 (.new 60 [(.int .i64 0),(.str []),.nl]),
 ⟨none,.store 3 (.s 7) (.s 13),none⟩] [12,13])
 (.reg [mv 14 5,
 mv 15 1,
 o0 16 (.load (some 3) (.s 7)),
 o0 17 (.callv (.s 15) [(.s 16)]),
 o0 18 (.bsl 60 3 [[(.int .i64 0),(.str []),.nl]] [(0,(.s 17))]),
 o0 19 (.app 60 3 (.s 14) (.s 18)),
 mv 5 19] [14,15,16,17,18,19])))
 (.reg [o0 20 (.bin .add (.s 10) (.c (.int .i64 1))),
 mv 10 20] [20])))))))
 (.seq (.reg [mv 21 5,
 mv 4 21] [21])
 .ret))))⟩

theorem cX10:compF Tryz.prog 109 = some FX10:=by kernel_rfl
abbrev nX10:FuncId:=109

def FX92:IFun :=
⟨8,1,[.cell 2 (some 3)],
 (.seq (.reg [o0 1 (.box 60 3 (.s 0)),
 o0 2 (.new 60 [(.int .i64 0),(.str []),.nl])] [])
 (.seq (.reg [o0 3 (.fadr 2 (.s 1)),
 o0 4 (.load none (.s 3)),
 o0 5 (.call 108 [(.s 4)]),
 o0 6 (.fadr 2 (.s 1)),
 ⟨none,.store 1 (.s 6) (.s 5),none⟩] [3,4,5,6])
 (.seq (.reg [o0 7 (.load (some 3) (.s 1)),
 ⟨none,.store 3 (.s 2) (.s 7),none⟩] [7])
 .ret)))⟩

theorem cX92:compF Tryz.prog 110 = some FX92:=by kernel_rfl
abbrev nX92:FuncId:=110

def FX94:IFun :=
⟨17,2,[.tmp 4],
 (.seq (.reg [o0 2 (.box 137 2 (.s 0)),
 o0 3 (.box 137 2 (.s 1)),
 o0 4 (.mov (.c (.bool false)))] [])
 (.seq (.reg [o0 5 (.fadr 0 (.s 2)),
 o0 6 (.load none (.s 5)),
 o0 7 (.fadr 0 (.s 3)),
 o0 8 (.load none (.s 7)),
 o0 9 (.call 112 [(.s 6),(.s 8)]),
 mv 10 9,
 ot 11 10 (.fadr 1 (.s 2)),
 ot 12 10 (.load none (.s 11)),
 ot 13 10 (.fadr 1 (.s 3)),
 ot 14 10 (.load none (.s 13)),
 ot 15 10 (.call 112 [(.s 12),(.s 14)]),
 o0 16 (.pick (.s 10) (.s 15) (.c (.bool false))),
 mv 4 16] [5,6,7,8,9,10,11,12,13,14,15,16])
 .ret))⟩

theorem cX94:compF Tryz.prog 111 = some FX94:=by kernel_rfl
abbrev nX94:FuncId:=111

def FX52:IFun :=
⟨26,2,[.tmp 4],
 (.seq (.reg [o0 4 (.mov (.c (.bool false)))] [])
 (.seq (.seq (.reg [mv 6 0,
 o0 7 (.len (.s 6)),
 mv 8 1,
 o0 9 (.len (.s 8)),
 o0 10 (.bin .neq (.s 7) (.s 9))] [6,7,8,9])
 (.cond (.s 10)
 (.seq (.reg [o0 4 (.mov (.c (.bool false)))] [])
 .ret)
 .skip))
 (.seq (.seq (.reg [o0 5 (.mov (.c (.int .i64 0)))] [])
 (.block 0 (.loop (.seq (.seq (.reg [mv 11 5,
 mv 12 0,
 o0 13 (.len (.s 12)),
 o0 14 (.bin .lss (.s 11) (.s 13))] [11,12,13])
 (.cond (.s 14)
 .skip
 (.exit 0)))
 (.seq (.block 1 (.seq (.seq (.draw [⟨mv 17 0,[]⟩,
 ⟨mv 18 5,[]⟩,
 ⟨o0 19 (.iadr 1 (.s 17) (.s 18)),[0,1]⟩,
 ⟨o0 20 (.load none (.s 19)),[2,0,1]⟩,
 ⟨mv 21 1,[]⟩,
 ⟨mv 22 5,[]⟩,
 ⟨o0 23 (.iadr 1 (.s 21) (.s 22)),[4,5]⟩,
 ⟨o0 24 (.load none (.s 23)),[6,4,5]⟩] [] [])
 (.reg [o0 25 (.bin .neq (.s 20) (.s 24))] [17,18,19,20,21,22,23,24]))
 (.cond (.s 25)
 (.seq (.reg [o0 4 (.mov (.c (.bool false)))] [])
 .ret)
 .skip)))
 (.reg [mv 15 5,
 o0 16 (.bin .add (.s 15) (.c (.int .i64 1))),
 mv 5 16] [15,16]))))))
 (.seq (.reg [o0 4 (.mov (.c (.bool true)))] [])
 .ret))))⟩

theorem cX52:compF Tryz.prog 112 = some FX52:=by kernel_rfl
abbrev nX52:FuncId:=112

def FX62:IFun :=
⟨27,2,[.tmp 4],
 (.seq (.reg [o0 4 (.mov (.c (.bool false)))] [])
 (.seq (.seq (.reg [mv 6 0,
 o0 7 (.len (.s 6)),
 mv 8 1,
 o0 9 (.len (.s 8)),
 o0 10 (.bin .neq (.s 7) (.s 9))] [6,7,8,9])
 (.cond (.s 10)
 (.seq (.reg [o0 4 (.mov (.c (.bool false)))] [])
 .ret)
 .skip))
 (.seq (.seq (.reg [o0 5 (.mov (.c (.int .i64 0)))] [])
 (.block 0 (.loop (.seq (.seq (.reg [mv 11 5,
 mv 12 0,
 o0 13 (.len (.s 12)),
 o0 14 (.bin .lss (.s 11) (.s 13))] [11,12,13])
 (.cond (.s 14)
 .skip
 (.exit 0)))
 (.seq (.block 1 (.seq (.seq (.draw [⟨mv 17 0,[]⟩,
 ⟨mv 18 5,[]⟩,
 ⟨o0 19 (.iadr 9 (.s 17) (.s 18)),[0,1]⟩,
 ⟨o0 20 (.load (some 9) (.s 19)),[2,0,1]⟩,
 ⟨mv 21 1,[]⟩,
 ⟨mv 22 5,[]⟩,
 ⟨o0 23 (.iadr 9 (.s 21) (.s 22)),[4,5]⟩,
 ⟨o0 24 (.load (some 9) (.s 23)),[6,4,5]⟩] [] [])
 (.seq (.reg [o0 25 (.call 157 [(.s 20),(.s 24)])] [])
 (.reg [o0 26 (.un .not (.s 25))] [17,18,19,20,21,22,23,24,25])))
 (.cond (.s 26)
 (.seq (.reg [o0 4 (.mov (.c (.bool false)))] [])
 .ret)
 .skip)))
 (.reg [mv 15 5,
 o0 16 (.bin .add (.s 15) (.c (.int .i64 1))),
 mv 5 16] [15,16]))))))
 (.seq (.reg [o0 4 (.mov (.c (.bool true)))] [])
 .ret))))⟩

theorem cX62:compF Tryz.prog 113 = some FX62:=by kernel_rfl
abbrev nX62:FuncId:=113

def FX110:IFun :=
⟨5,1,[.cell 2 (some 3)],
 (.seq (.reg [o0 2 (.new 193 [.nl,(.int .i64 0),(.int .i64 0)])] [])
 (.seq (.reg [mv 3 0,
 o0 4 (.build [.nl,(.int .i64 0),(.int .i64 0)] [(0,1,(.s 3))]),
 ⟨none,.store 3 (.s 2) (.s 4),none⟩] [3,4])
 .ret))⟩

theorem cX110:compF Tryz.prog 138 = some FX110:=by kernel_rfl
abbrev nX110:FuncId:=138

def FX95:IFun :=
⟨12,1,[.tmp 2],
 (.seq (.reg [o0 1 (.box 193 3 (.s 0)),
 o0 2 (.mov (.c (.int .i64 0)))] [])
 (.seq (.seq (.reg [o0 3 (.fadr 2 (.s 1)),
 o0 4 (.load none (.s 3)),
 o0 5 (.bin .neq (.s 4) (.c (.int .i64 0)))] [3,4])
 (.cond (.s 5)
 (.seq (.reg [o0 2 (.mov (.c (.int .i64 0)))] [])
 .ret)
 .skip))
 (.seq (.reg [o0 6 (.fadr 0 (.s 1)),
 o0 7 (.load none (.s 6)),
 o0 8 (.len (.s 7)),
 o0 9 (.fadr 1 (.s 1)),
 o0 10 (.load none (.s 9)),
 o0 11 (.bin .sub (.s 8) (.s 10)),
 mv 2 11] [6,7,8,9,10,11])
 .ret)))⟩

theorem cX95:compF Tryz.prog 139 = some FX95:=by kernel_rfl
abbrev nX95:FuncId:=139

def FX116:IFun :=
⟨19,1,[.cell 2 (some 3),.tmp 3],
 (.seq (.reg [o0 1 (.box 193 3 (.s 0)),
 o0 2 (.new 193 [.nl,(.int .i64 0),(.int .i64 0)]),
 o0 3 (.mov (.c (.int .u8 0)))] [])
 (.seq (.reg [o0 7 (.load (some 3) (.s 1)),
 o0 8 (.call 182 [(.s 7),(.c (.int .i64 1))]),
 mv 6 8,
 o0 9 (.ext (.s 6) 0),
 o0 10 (.ext (.s 6) 1),
 o0 4 (.new 193 [.nl,(.int .i64 0),(.int .i64 0)]),
 ⟨none,.store 3 (.s 4) (.s 9),none⟩,
 mv 5 10] [7,8,6,9,10])
 (.seq (.seq (.reg [mv 11 5,
 o0 12 (.len (.s 11)),
 o0 13 (.bin .eql (.s 12) (.c (.int .i64 0)))] [11,12])
 (.cond (.s 13)
 (.seq (.reg [o0 14 (.load (some 3) (.s 4)),
 ⟨none,.store 3 (.s 2) (.s 14),none⟩,
 o0 3 (.mov (.c (.int .u8 0)))] [14])
 .ret)
 .skip))
 (.seq (.seq (.draw [⟨o0 15 (.load (some 3) (.s 4)),[]⟩,
 ⟨mv 16 5,[]⟩,
 ⟨o0 17 (.iadr 1 (.s 16) (.c (.int .i64 0))),[1]⟩,
 ⟨o0 18 (.load none (.s 17)),[2,1]⟩,
 ⟨⟨none,.store 3 (.s 2) (.s 15),none⟩,[0]⟩] [] [])
 (.reg [mv 3 18] [15,16,17,18]))
 .ret))))⟩

theorem cX116:compF Tryz.prog 140 = some FX116:=by kernel_rfl
abbrev nX116:FuncId:=140

def FX118:IFun :=
⟨14,1,[.cell 2 (some 3),.tmp 3],
 (.seq (.reg [o0 1 (.box 193 3 (.s 0)),
 o0 2 (.new 193 [.nl,(.int .i64 0),(.int .i64 0)]),
 o0 3 (.mov (.c (.int .i64 0)))] [])
 (.seq (.reg [o0 7 (.load (some 3) (.s 1)),
 o0 8 (.call 183 [(.s 7),(.c (.int .i64 32))]),
 mv 6 8,
 o0 9 (.ext (.s 6) 0),
 o0 10 (.ext (.s 6) 1),
 o0 4 (.new 193 [.nl,(.int .i64 0),(.int .i64 0)]),
 ⟨none,.store 3 (.s 4) (.s 9),none⟩,
 mv 5 10] [7,8,6,9,10])
 (.seq (.reg [o0 11 (.load (some 3) (.s 4)),
 mv 12 5,
 o0 13 (.cvi .i64 (.s 12)),
 ⟨none,.store 3 (.s 2) (.s 11),none⟩,
 mv 3 13] [11,12,13])
 .ret)))⟩

theorem cX118:compF Tryz.prog 141 = some FX118:=by kernel_rfl
abbrev nX118:FuncId:=141

def FX122:IFun :=
⟨19,2,[.cell 4 (some 3),.cell 5 (some 3)],
 (.seq (.reg [o0 2 (.box 193 3 (.s 0)),
 o0 4 (.new 193 [.nl,(.int .i64 0),(.int .i64 0)]),
 o0 5 (.new 193 [.nl,(.int .i64 0),(.int .i64 0)])] [])
 (.seq (.reg [o0 9 (.load (some 3) (.s 2)),
 mv 10 1,
 o0 11 (.call 182 [(.s 9),(.s 10)]),
 mv 8 11,
 o0 12 (.ext (.s 8) 0),
 o0 13 (.ext (.s 8) 1),
 o0 6 (.new 193 [.nl,(.int .i64 0),(.int .i64 0)]),
 ⟨none,.store 3 (.s 6) (.s 12),none⟩,
 mv 7 13] [9,10,11,8,12,13])
 (.seq (.seq (.draw [⟨o0 14 (.load (some 3) (.s 6)),[]⟩,
 ⟨mv 15 7,[]⟩,
 ⟨o0 16 (.fadr 2 (.s 6)),[]⟩,
 ⟨o0 17 (.load none (.s 16)),[2]⟩,
 ⟨o0 18 (.build [.nl,(.int .i64 0),(.int .i64 0)] [(0,1,(.s 15)),(2,1,(.s 17))]),[1,3,2]⟩,
 ⟨⟨none,.store 3 (.s 4) (.s 14),none⟩,[0]⟩] [] [])
 (.reg [⟨none,.store 3 (.s 5) (.s 18),none⟩] [14,15,16,17,18]))
 .ret)))⟩

theorem cX122:compF Tryz.prog 142 = some FX122:=by kernel_rfl
abbrev nX122:FuncId:=142

def FX117:IFun :=
⟨48,3,[.cell 6 (some 3),.tmp 7],
 (.seq (.reg [o0 3 (.box 25 3 (.s 0)),
 o0 5 (.box 193 3 (.s 2)),
 o0 6 (.new 25 [(.str []),.nl,.nl]),
 o0 7 (.mov (.c (.int .i64 0)))] [])
 (.seq (.seq (.reg [mv 14 1] [])
 (.block 0 (.seq (.reg [o0 16 (.bin .eql (.s 14) (.c (.int .u8 0))),
 mv 15 16] [16])
 (.cond (.s 15)
 (.seq (.reg [o0 18 (.load (some 3) (.s 5)),
 o0 19 (.call 184 [(.s 18)]),
 mv 17 19,
 o0 20 (.ext (.s 17) 0),
 o0 21 (.ext (.s 17) 1),
 o0 8 (.new 193 [.nl,(.int .i64 0),(.int .i64 0)]),
 ⟨none,.store 3 (.s 8) (.s 20),none⟩,
 mv 9 21] [18,19,17,20,21])
 (.reg [o0 22 (.load (some 3) (.s 8)),
 mv 23 9,
 ⟨none,.store 3 (.s 5) (.s 22),none⟩,
 o0 24 (.fadr 0 (.s 3)),
 ⟨none,.store 1 (.s 24) (.s 23),none⟩] [22,23,24]))
 (.seq (.reg [o0 26 (.bin .eql (.s 14) (.c (.int .u8 1))),
 mv 25 26] [26])
 (.cond (.s 25)
 (.seq (.reg [o0 28 (.load (some 3) (.s 5)),
 o0 29 (.call 185 [(.s 28),(.c (.int .i64 64))]),
 mv 27 29,
 o0 30 (.ext (.s 27) 0),
 o0 31 (.ext (.s 27) 1),
 o0 10 (.new 193 [.nl,(.int .i64 0),(.int .i64 0)]),
 ⟨none,.store 3 (.s 10) (.s 30),none⟩,
 mv 11 31] [28,29,27,30,31])
 (.reg [o0 32 (.load (some 3) (.s 10)),
 mv 33 11,
 ⟨none,.store 3 (.s 5) (.s 32),none⟩,
 o0 34 (.fadr 1 (.s 3)),
 ⟨none,.store 1 (.s 34) (.s 33),none⟩] [32,33,34]))
 (.seq (.reg [o0 36 (.bin .eql (.s 14) (.c (.int .u8 2))),
 mv 35 36] [36])
 (.cond (.s 35)
 (.seq (.reg [o0 38 (.load (some 3) (.s 5)),
 o0 39 (.call 186 [(.s 38)]),
 mv 37 39,
 o0 40 (.ext (.s 37) 0),
 o0 41 (.ext (.s 37) 1),
 o0 12 (.new 193 [.nl,(.int .i64 0),(.int .i64 0)]),
 ⟨none,.store 3 (.s 12) (.s 40),none⟩,
 mv 13 41] [38,39,37,40,41])
 (.reg [o0 42 (.load (some 3) (.s 12)),
 mv 43 13,
 ⟨none,.store 3 (.s 5) (.s 42),none⟩,
 o0 44 (.fadr 2 (.s 3)),
 ⟨none,.store 1 (.s 44) (.s 43),none⟩] [42,43,44]))
 .skip))))))))
 (.seq (.seq (.draw [⟨o0 45 (.load (some 3) (.s 3)),[]⟩,
 ⟨o0 46 (.load (some 3) (.s 5)),[]⟩,
 ⟨o0 47 (.call 187 [(.s 46)]),[1]⟩] [] [])
 (.seq (.reg [⟨none,.store 3 (.s 6) (.s 45),none⟩] [])
 (.reg [mv 7 47] [45,46,47])))
 .ret)))⟩

theorem cX117:compF Tryz.prog 143 = some FX117:=by kernel_rfl
abbrev nX117:FuncId:=143

def FX16:IFun :=
⟨18,1,[.tmp 2],
 (.seq (.reg [o0 2 (.mov (.c (.bool false)))] [])
 (.seq (.reg [mv 3 0,
 o0 4 (.pbin .neq (.s 3) (.c .np)),
 mv 5 4,
 mt 6 0 5,
 ot 7 5 (.nchk (.s 6)),
 ot 8 5 (.fadr 0 (.s 7)),
 ot 9 5 (.load none (.s 8)),
 o0 10 (.pick (.s 5) (.s 9) (.c (.bool false))),
 mv 11 10,
 mt 12 0 11,
 ot 13 11 (.nchk (.s 12)),
 ot 14 11 (.fadr 3 (.s 13)),
 ot 15 11 (.load none (.s 14)),
 ot 16 11 (.bin .eql (.s 15) (.c (.int .i64 0))),
 o0 17 (.pick (.s 11) (.s 16) (.c (.bool false))),
 mv 2 17] [3,4,5,6,7,8,9,10,11,12,13,14,15,16,17])
 .ret))⟩

theorem cX16:compF Tryz.prog 144 = some FX16:=by kernel_rfl
abbrev nX16:FuncId:=144

def FX29:IFun :=
⟨33,2,[.tmp 4],
 (.seq (.reg [o0 4 (.mov (.c .nl))] [])
 (.seq (.block 0 (.seq (.reg [mv 6 0,
 o0 7 (.call 144 [(.s 6)]),
 o0 8 (.un .not (.s 7)),
 mv 5 8] [6,7,8])
 (.cond (.s 5)
 (.seq (.reg [o0 4 (.mov (.c .nl))] [])
 .ret)
 (.seq (.reg [mv 10 1,
 o0 11 (.bin .lss (.s 10) (.c (.int .i64 0))),
 mv 9 11] [10,11])
 (.cond (.s 9)
 (.seq (.reg [mv 12 0,
 o0 13 (.call 148 [(.s 12),(.c (.int .i64 1))])] [12,13])
 (.seq (.reg [o0 4 (.mov (.c .nl))] [])
 .ret))
 (.seq (.seq (.draw [⟨mv 15 1,[]⟩,
 ⟨mv 16 0,[]⟩,
 ⟨o0 17 (.nchk (.s 16)),[1]⟩,
 ⟨o0 18 (.fadr 1 (.s 17)),[2,1]⟩,
 ⟨o0 19 (.load none (.s 18)),[3,2,1]⟩,
 ⟨o0 20 (.len (.s 19)),[4,3,2,1]⟩,
 ⟨mv 21 0,[]⟩,
 ⟨o0 22 (.nchk (.s 21)),[6]⟩,
 ⟨o0 23 (.fadr 2 (.s 22)),[7,6]⟩,
 ⟨o0 24 (.load none (.s 23)),[8,7,6]⟩,
 ⟨o0 25 (.bin .sub (.s 20) (.s 24)),[5,4,3,2,1,9,8,7,6]⟩] [] [])
 (.seq (.reg [o0 26 (.bin .gtr (.s 15) (.s 25))] [])
 (.reg [mv 14 26] [15,16,17,18,19,20,21,22,23,24,25,26])))
 (.cond (.s 14)
 (.seq (.reg [mv 27 0,
 o0 28 (.call 148 [(.s 27),(.c (.int .i64 3))])] [27,28])
 (.seq (.reg [o0 4 (.mov (.c .nl))] [])
 .ret))
 .skip)))))))
 (.seq (.reg [mv 29 0,
 mv 30 1,
 o0 31 (.call 188 [(.s 29),(.s 30)]),
 o0 32 (.app 5 1 (.c .nl) (.s 31)),
 mv 4 32] [29,30,31,32])
 .ret)))⟩

theorem cX29:compF Tryz.prog 145 = some FX29:=by kernel_rfl
abbrev nX29:FuncId:=145

def FX7:IFun :=
⟨40,2,[.tmp 4],
 (.seq (.reg [o0 4 (.mov (.c (.int .u64 0)))] [])
 (.seq (.seq (.reg [mv 8 0,
 o0 9 (.call 144 [(.s 8)]),
 o0 10 (.un .not (.s 9))] [8,9])
 (.cond (.s 10)
 (.seq (.reg [o0 4 (.mov (.c (.int .u64 0)))] [])
 .ret)
 .skip))
 (.seq (.seq (.draw [⟨mv 12 0,[]⟩,
 ⟨o0 13 (.nchk (.s 12)),[0]⟩,
 ⟨o0 14 (.fadr 1 (.s 13)),[1,0]⟩,
 ⟨o0 15 (.load none (.s 14)),[2,1,0]⟩,
 ⟨mv 16 0,[]⟩,
 ⟨o0 17 (.nchk (.s 16)),[4]⟩,
 ⟨o0 18 (.fadr 2 (.s 17)),[5,4]⟩,
 ⟨o0 19 (.load none (.s 18)),[6,5,4]⟩,
 ⟨o0 20 (.slc 1 (.s 15) (some (.s 19)) none none),[3,2,1,0,7,6,5,4]⟩,
 ⟨mv 21 1,[]⟩] [] [])
 (.seq (.reg [o0 22 (.call 189 [(.s 20),(.s 21)])] [])
 (.seq (.reg [mv 11 22] [])
 (.seq (.draw [⟨o0 23 (.ext (.s 11) 0),[]⟩,
 ⟨o0 24 (.ext (.s 11) 1),[]⟩,
 ⟨o0 25 (.ext (.s 11) 2),[]⟩,
 ⟨mv 5 23,[0]⟩,
 ⟨mv 6 24,[1,3,0]⟩] [] [])
 (.reg [mv 7 25] [12,13,14,15,16,17,18,19,20,21,22,11,23,24,25])))))
 (.seq (.seq (.reg [mv 26 7,
 o0 27 (.bin .neq (.s 26) (.c (.int .i64 0)))] [26])
 (.cond (.s 27)
 (.seq (.reg [mv 28 0,
 mv 29 7,
 o0 30 (.call 148 [(.s 28),(.s 29)])] [28,29,30])
 (.seq (.reg [o0 4 (.mov (.c (.int .u64 0)))] [])
 .ret))
 .skip))
 (.seq (.reg [mv 31 0,
 o0 32 (.nchk (.s 31)),
 o0 33 (.fadr 2 (.s 32)),
 o0 34 (.load none (.s 33)),
 mv 35 6,
 o0 36 (.bin .add (.s 34) (.s 35)),
 o0 37 (.nchk (.s 31)),
 o0 38 (.fadr 2 (.s 37)),
 ⟨none,.store 1 (.s 38) (.s 36),none⟩] [31,32,33,34,35,36,37,38])
 (.seq (.reg [mv 39 5,
 mv 4 39] [39])
 .ret))))))⟩

theorem cX7:compF Tryz.prog 146 = some FX7:=by kernel_rfl
abbrev nX7:FuncId:=146

def FX17:IFun :=
⟨33,2,[.tmp 4],
 (.seq (.reg [o0 4 (.mov (.c (.int .i64 0)))] [])
 (.seq (.seq (.reg [mv 7 0,
 o0 8 (.call 144 [(.s 7)]),
 o0 9 (.un .not (.s 8))] [7,8])
 (.cond (.s 9)
 (.seq (.reg [o0 4 (.mov (.c (.int .i64 0)))] [])
 .ret)
 .skip))
 (.seq (.reg [mv 10 0,
 o0 11 (.nchk (.s 10)),
 o0 12 (.fadr 2 (.s 11)),
 o0 13 (.load none (.s 12)),
 mv 5 13] [10,11,12,13])
 (.seq (.reg [mv 14 0,
 o0 15 (.call 74 [(.s 14)]),
 mv 6 15] [14,15])
 (.seq (.seq (.reg [mv 16 0,
 o0 17 (.nchk (.s 16)),
 o0 18 (.fadr 3 (.s 17)),
 o0 19 (.load none (.s 18)),
 o0 20 (.bin .eql (.s 19) (.c (.int .i64 0))),
 mv 21 20,
 mt 22 6 21,
 mt 23 1 21,
 ot 24 21 (.bin .gtr (.s 22) (.s 23)),
 o0 25 (.pick (.s 21) (.s 24) (.c (.bool false)))] [16,17,18,19,20,21,22,23,24])
 (.cond (.s 25)
 (.seq (.reg [mv 26 0,
 mv 27 5,
 o0 28 (.nchk (.s 26)),
 o0 29 (.fadr 2 (.s 28)),
 ⟨none,.store 1 (.s 29) (.s 27),none⟩] [26,27,28,29])
 (.seq (.reg [mv 30 0,
 o0 31 (.call 148 [(.s 30),(.c (.int .i64 6))])] [30,31])
 (.seq (.reg [o0 4 (.mov (.c (.int .i64 0)))] [])
 .ret)))
 .skip))
 (.seq (.reg [mv 32 6,
 mv 4 32] [32])
 .ret))))))⟩

theorem cX17:compF Tryz.prog 147 = some FX17:=by kernel_rfl
abbrev nX17:FuncId:=147

def FX26:IFun :=
⟨10,2,[],
 (.seq (.reg [mv 4 0,
 o0 5 (.call 144 [(.s 4)])] [4])
 (.cond (.s 5)
 (.reg [mv 6 0,
 mv 7 1,
 o0 8 (.nchk (.s 6)),
 o0 9 (.fadr 3 (.s 8)),
 ⟨none,.store 1 (.s 9) (.s 7),none⟩] [6,7,8,9])
 .skip))⟩

theorem cX26:compF Tryz.prog 148 = some FX26:=by kernel_rfl
abbrev nX26:FuncId:=148

def FX42:IFun :=
⟨16,1,[.tmp 2],
 (.seq (.reg [o0 2 (.mov (.c (.int .i64 0)))] [])
 (.seq (.seq (.reg [mv 3 0,
 o0 4 (.pbin .eql (.s 3) (.c .np)),
 mv 5 4,
 mf 6 0 5,
 oF 7 5 (.nchk (.s 6)),
 oF 8 5 (.fadr 0 (.s 7)),
 oF 9 5 (.load none (.s 8)),
 oF 10 5 (.un .not (.s 9)),
 o0 11 (.pick (.s 5) (.c (.bool true)) (.s 10))] [3,4,5,6,7,8,9,10])
 (.cond (.s 11)
 (.seq (.reg [o0 2 (.mov (.c (.int .i64 2)))] [])
 .ret)
 .skip))
 (.seq (.reg [mv 12 0,
 o0 13 (.nchk (.s 12)),
 o0 14 (.fadr 3 (.s 13)),
 o0 15 (.load none (.s 14)),
 mv 2 15] [12,13,14,15])
 .ret)))⟩

theorem cX42:compF Tryz.prog 149 = some FX42:=by kernel_rfl
abbrev nX42:FuncId:=149

def FX15:IFun :=
⟨18,1,[.tmp 2],
 (.seq (.reg [o0 2 (.mov (.c (.bool false)))] [])
 (.seq (.reg [mv 3 0,
 o0 4 (.pbin .neq (.s 3) (.c .np)),
 mv 5 4,
 mt 6 0 5,
 ot 7 5 (.nchk (.s 6)),
 ot 8 5 (.fadr 0 (.s 7)),
 ot 9 5 (.load none (.s 8)),
 o0 10 (.pick (.s 5) (.s 9) (.c (.bool false))),
 mv 11 10,
 mt 12 0 11,
 ot 13 11 (.nchk (.s 12)),
 ot 14 11 (.fadr 2 (.s 13)),
 ot 15 11 (.load none (.s 14)),
 ot 16 11 (.bin .eql (.s 15) (.c (.int .i64 0))),
 o0 17 (.pick (.s 11) (.s 16) (.c (.bool false))),
 mv 2 17] [3,4,5,6,7,8,9,10,11,12,13,14,15,16,17])
 .ret))⟩

theorem cX15:compF Tryz.prog 150 = some FX15:=by kernel_rfl
abbrev nX15:FuncId:=150

def FX44:IFun :=
⟨59,1,[.tmp 2],
 (.seq (.reg [o0 2 (.mov (.c (.int .u64 0)))] [])
 (.seq (.cond (.c (.bool false))
 (.seq (.seq (.draw [⟨mv 3 0,[]⟩,
 ⟨o0 4 (.sidx (.s 3) (.c (.int .i64 0))),[0]⟩,
 ⟨o0 5 (.cvi .u64 (.s 4)),[1,0]⟩,
 ⟨mv 6 0,[]⟩,
 ⟨o0 7 (.sidx (.s 6) (.c (.int .i64 1))),[3]⟩,
 ⟨o0 8 (.cvi .u64 (.s 7)),[4,3]⟩,
 ⟨o0 9 (.bin .shl (.s 8) (.c (.int .u64 8))),[5,4,3]⟩,
 ⟨o0 10 (.bin .or (.s 5) (.s 9)),[2,1,0,6,5,4,3]⟩,
 ⟨mv 11 0,[]⟩,
 ⟨o0 12 (.sidx (.s 11) (.c (.int .i64 2))),[8]⟩,
 ⟨o0 13 (.cvi .u64 (.s 12)),[9,8]⟩,
 ⟨o0 14 (.bin .shl (.s 13) (.c (.int .u64 16))),[10,9,8]⟩,
 ⟨o0 15 (.bin .or (.s 10) (.s 14)),[7,2,1,0,6,5,4,3,11,10,9,8]⟩,
 ⟨mv 16 0,[]⟩,
 ⟨o0 17 (.sidx (.s 16) (.c (.int .i64 3))),[13]⟩,
 ⟨o0 18 (.cvi .u64 (.s 17)),[14,13]⟩,
 ⟨o0 19 (.bin .shl (.s 18) (.c (.int .u64 24))),[15,14,13]⟩] [] [])
 (.seq (.reg [o0 20 (.bin .or (.s 15) (.s 19))] [])
 (.reg [mv 2 20] [3,4,5,6,7,8,9,10,11,12,13,14,15,16,17,18,19,20])))
 .ret)
 .skip)
 (.seq (.seq (.draw [⟨mv 21 0,[]⟩,
 ⟨o0 22 (.sidx (.s 21) (.c (.int .i64 0))),[0]⟩,
 ⟨o0 23 (.cvi .u64 (.s 22)),[1,0]⟩,
 ⟨mv 24 0,[]⟩,
 ⟨o0 25 (.sidx (.s 24) (.c (.int .i64 1))),[3]⟩,
 ⟨o0 26 (.cvi .u64 (.s 25)),[4,3]⟩,
 ⟨o0 27 (.bin .shl (.s 26) (.c (.int .u64 8))),[5,4,3]⟩,
 ⟨o0 28 (.bin .or (.s 23) (.s 27)),[2,1,0,6,5,4,3]⟩,
 ⟨mv 29 0,[]⟩,
 ⟨o0 30 (.sidx (.s 29) (.c (.int .i64 2))),[8]⟩,
 ⟨o0 31 (.cvi .u64 (.s 30)),[9,8]⟩,
 ⟨o0 32 (.bin .shl (.s 31) (.c (.int .u64 16))),[10,9,8]⟩,
 ⟨o0 33 (.bin .or (.s 28) (.s 32)),[7,2,1,0,6,5,4,3,11,10,9,8]⟩,
 ⟨mv 34 0,[]⟩,
 ⟨o0 35 (.sidx (.s 34) (.c (.int .i64 3))),[13]⟩,
 ⟨o0 36 (.cvi .u64 (.s 35)),[14,13]⟩,
 ⟨o0 37 (.bin .shl (.s 36) (.c (.int .u64 24))),[15,14,13]⟩,
 ⟨o0 38 (.bin .or (.s 33) (.s 37)),[12,7,2,1,0,6,5,4,3,11,10,9,8,16,15,14,13]⟩,
 ⟨mv 39 0,[]⟩,
 ⟨o0 40 (.sidx (.s 39) (.c (.int .i64 4))),[18]⟩,
 ⟨o0 41 (.cvi .u64 (.s 40)),[19,18]⟩,
 ⟨o0 42 (.bin .shl (.s 41) (.c (.int .u64 32))),[20,19,18]⟩,
 ⟨o0 43 (.bin .or (.s 38) (.s 42)),[17,12,7,2,1,0,6,5,4,3,11,10,9,8,16,15,14,13,21,20,19,18]⟩,
 ⟨mv 44 0,[]⟩,
 ⟨o0 45 (.sidx (.s 44) (.c (.int .i64 5))),[23]⟩,
 ⟨o0 46 (.cvi .u64 (.s 45)),[24,23]⟩,
 ⟨o0 47 (.bin .shl (.s 46) (.c (.int .u64 40))),[25,24,23]⟩,
 ⟨o0 48 (.bin .or (.s 43) (.s 47)),[22,17,12,7,2,1,0,6,5,4,3,11,10,9,8,16,15,14,13,21,20,19,18,26,25,24,23]⟩,
 ⟨mv 49 0,[]⟩,
 ⟨o0 50 (.sidx (.s 49) (.c (.int .i64 6))),[28]⟩,
 ⟨o0 51 (.cvi .u64 (.s 50)),[29,28]⟩,
 ⟨o0 52 (.bin .shl (.s 51) (.c (.int .u64 48))),[30,29,28]⟩,
 ⟨o0 53 (.bin .or (.s 48) (.s 52)),[27,22,17,12,7,2,1,0,6,5,4,3,11,10,9,8,16,15,14,13,21,20,19,18,26,25,24,23,31,30,29,28]⟩,
 ⟨mv 54 0,[]⟩,
 ⟨o0 55 (.sidx (.s 54) (.c (.int .i64 7))),[33]⟩,
 ⟨o0 56 (.cvi .u64 (.s 55)),[34,33]⟩,
 ⟨o0 57 (.bin .shl (.s 56) (.c (.int .u64 56))),[35,34,33]⟩] [] [])
 (.seq (.reg [o0 58 (.bin .or (.s 53) (.s 57))] [])
 (.reg [mv 2 58] [21,22,23,24,25,26,27,28,29,30,31,32,33,34,35,36,37,38,39,40,41,42,43,44,45,46,47,48,49,50,51,52,53,54,55,56,57,58])))
 .ret)))⟩

theorem cX44:compF Tryz.prog 151 = some FX44:=by kernel_rfl
abbrev nX44:FuncId:=151

def FX119:IFun :=
⟨27,1,[.tmp 2,.tmp 3],
 (.seq (.reg [o0 2 (.mov (.c .nl)),
 o0 3 (.mov (.c (.bool false)))] [])
 (.seq (.reg [o0 4 (.mov (.c .nl))] [])
 (.seq (.seq (.reg [mv 7 0,
 o0 8 (.mop .rng [(.s 7)])] [7])
 (.block 0 (.loop (.seq (.reg [o0 9 (.mop .nxt [(.s 8)]),
 o0 10 (.ext (.s 9) 0)] [])
 (.seq (.cond (.s 10)
 .skip
 (.exit 0))
 (.block 1 (.seq (.reg [o0 11 (.ext (.s 9) 1),
 o0 12 (.ext (.s 9) 2),
 mv 5 11,
 mv 6 12] [11,12])
 (.seq (.seq (.reg [mv 13 6,
 o0 14 (.bin .eql (.s 13) (.c (.int .i32 65533))),
 mv 15 14,
 mt 16 0 15,
 mt 17 5 15,
 ot 18 15 (.sslc (.s 16) (some (.s 17)) none),
 ot 19 15 (.call 190 [(.s 18),(.c (.str [239,191,189]))]),
 ot 20 15 (.un .not (.s 19)),
 o0 21 (.pick (.s 15) (.s 20) (.c (.bool false)))] [13,14,15,16,17,18,19,20])
 (.cond (.s 21)
 (.seq (.reg [o0 2 (.mov (.c .nl)),
 o0 3 (.mov (.c (.bool false)))] [])
 .ret)
 .skip))
 (.reg [mv 22 4,
 mv 23 6,
 o0 24 (.bsl 21 1 [[(.int .i32 0)]] [(0,(.s 23))]),
 o0 25 (.app 21 1 (.s 22) (.s 24)),
 mv 4 25] [22,23,24,25])))))))))
 (.seq (.reg [mv 26 4,
 mv 2 26,
 o0 3 (.mov (.c (.bool true)))] [26])
 .ret))))⟩

theorem cX119:compF Tryz.prog 152 = some FX119:=by kernel_rfl
abbrev nX119:FuncId:=152

def FX75:IFun :=
⟨11,1,[.tmp 2],
 (.seq (.reg [o0 2 (.mov (.c (.bool false)))] [])
 (.seq (.reg [mv 6 0,
 o0 7 (.call 191 [(.s 6)]),
 mv 5 7,
 o0 8 (.ext (.s 5) 0),
 o0 9 (.ext (.s 5) 1),
 mv 3 8,
 mv 4 9] [6,7,5,8,9,3])
 (.seq (.reg [mv 10 4,
 mv 2 10] [10])
 .ret)))⟩

theorem cX75:compF Tryz.prog 153 = some FX75:=by kernel_rfl
abbrev nX75:FuncId:=153

def FX14:IFun :=
⟨22,2,[.tmp 4],
 (.seq (.reg [o0 4 (.mov (.c .nl))] [])
 (.seq (.reg [o0 5 (.mov (.c .nl))] [])
 (.seq (.seq (.reg [mv 8 0,
 o0 9 (.len (.s 8)),
 o0 10 (.mov (.c (.int .i64 0)))] [])
 (.block 0 (.loop (.seq (.reg [o0 11 (.bin .lss (.s 10) (.s 9))] [])
 (.seq (.cond (.s 11)
 .skip
 (.exit 0))
 (.seq (.block 1 (.seq (.reg [o0 12 (.iadr 9 (.s 8) (.s 10)),
 o0 13 (.load (some 9) (.s 12)),
 o0 7 (.new 221 [(.int .i64 0),(.int .i64 0),(.int .i64 0),(.int .u64 0),(.int .i64 0),(.int .i64 0),(.int .i64 0),.nl,.nl]),
 ⟨none,.store 9 (.s 7) (.s 13),none⟩] [12,13])
 (.reg [mv 14 5,
 mv 15 1,
 o0 16 (.load (some 9) (.s 7)),
 o0 17 (.callv (.s 15) [(.s 16)]),
 o0 18 (.bsl 221 9 [[(.int .i64 0),(.int .i64 0),(.int .i64 0),(.int .u64 0),(.int .i64 0),(.int .i64 0),(.int .i64 0),.nl,.nl]] [(0,(.s 17))]),
 o0 19 (.app 221 9 (.s 14) (.s 18)),
 mv 5 19] [14,15,16,17,18,19])))
 (.reg [o0 20 (.bin .add (.s 10) (.c (.int .i64 1))),
 mv 10 20] [20])))))))
 (.seq (.reg [mv 21 5,
 mv 4 21] [21])
 .ret))))⟩

theorem cX14:compF Tryz.prog 154 = some FX14:=by kernel_rfl
abbrev nX14:FuncId:=154

def FX83:IFun :=
⟨12,1,[.cell 2 (some 9)],
 (.seq (.reg [o0 1 (.box 221 9 (.s 0)),
 o0 2 (.new 221 [(.int .i64 0),(.int .i64 0),(.int .i64 0),(.int .u64 0),(.int .i64 0),(.int .i64 0),(.int .i64 0),.nl,.nl])] [])
 (.seq (.seq (.draw [⟨o0 3 (.fadr 7 (.s 1)),[]⟩,
 ⟨o0 4 (.load none (.s 3)),[0]⟩,
 ⟨o0 5 (.call 93 [(.s 4)]),[1,0]⟩,
 ⟨o0 6 (.fadr 8 (.s 1)),[]⟩,
 ⟨o0 7 (.load none (.s 6)),[3]⟩] [] [])
 (.seq (.draw [⟨o0 8 (.call 156 [(.s 7)]),[]⟩,
 ⟨o0 9 (.fadr 7 (.s 1)),[]⟩] [] [])
 (.seq (.reg [⟨none,.store 1 (.s 9) (.s 5),none⟩] [])
 (.seq (.reg [o0 10 (.fadr 8 (.s 1))] [])
 (.reg [⟨none,.store 1 (.s 10) (.s 8),none⟩] [3,4,5,6,7,8,9,10])))))
 (.seq (.reg [o0 11 (.load (some 9) (.s 1)),
 ⟨none,.store 9 (.s 2) (.s 11),none⟩] [11])
 .ret)))⟩

theorem cX83:compF Tryz.prog 155 = some FX83:=by kernel_rfl
abbrev nX83:FuncId:=155

def FX12:IFun :=
⟨8,1,[.tmp 2],
 (.seq (.reg [o0 2 (.mov (.c .nl))] [])
 (.seq (.seq (.reg [mv 3 0,
 o0 4 (.snl false (.s 3))] [3])
 (.cond (.s 4)
 (.seq (.reg [o0 2 (.mov (.c .nl))] [])
 .ret)
 .skip))
 (.seq (.reg [o0 5 (.bsl 3 1 [] []),
 mv 6 0,
 o0 7 (.app 3 1 (.s 5) (.s 6)),
 mv 2 7] [5,6,7])
 .ret)))⟩

theorem cX12:compF Tryz.prog 156 = some FX12:=by kernel_rfl
abbrev nX12:FuncId:=156

def FX100:IFun :=
⟨94,2,[.tmp 4],
 (.seq (.reg [o0 2 (.box 221 9 (.s 0)),
 o0 3 (.box 221 9 (.s 1)),
 o0 4 (.mov (.c (.bool false)))] [])
 (.seq (.seq (.reg [o0 7 (.fadr 0 (.s 2)),
 o0 8 (.load none (.s 7)),
 o0 9 (.fadr 0 (.s 3)),
 o0 10 (.load none (.s 9)),
 o0 11 (.bin .neq (.s 8) (.s 10)),
 mv 12 11,
 oF 13 12 (.fadr 1 (.s 2)),
 oF 14 12 (.load none (.s 13)),
 oF 15 12 (.fadr 1 (.s 3)),
 oF 16 12 (.load none (.s 15)),
 oF 17 12 (.bin .neq (.s 14) (.s 16)),
 o0 18 (.pick (.s 12) (.c (.bool true)) (.s 17)),
 mv 19 18,
 oF 20 19 (.fadr 2 (.s 2)),
 oF 21 19 (.load none (.s 20)),
 oF 22 19 (.fadr 2 (.s 3)),
 oF 23 19 (.load none (.s 22)),
 oF 24 19 (.bin .neq (.s 21) (.s 23)),
 o0 25 (.pick (.s 19) (.c (.bool true)) (.s 24)),
 mv 26 25,
 oF 27 26 (.fadr 3 (.s 2)),
 oF 28 26 (.load none (.s 27)),
 oF 29 26 (.fadr 3 (.s 3)),
 oF 30 26 (.load none (.s 29)),
 oF 31 26 (.bin .neq (.s 28) (.s 30)),
 o0 32 (.pick (.s 26) (.c (.bool true)) (.s 31)),
 mv 33 32,
 oF 34 33 (.fadr 4 (.s 2)),
 oF 35 33 (.load (some 3) (.s 34)),
 oF 36 33 (.fadr 4 (.s 3)),
 oF 37 33 (.load (some 3) (.s 36)),
 oF 38 33 (.sbin .neq [.i,.i,.i] (.s 35) (.s 37)),
 o0 39 (.pick (.s 33) (.c (.bool true)) (.s 38)),
 mv 40 39,
 oF 41 40 (.fadr 7 (.s 2)),
 oF 42 40 (.load none (.s 41)),
 oF 43 40 (.len (.s 42)),
 oF 44 40 (.fadr 7 (.s 3)),
 oF 45 40 (.load none (.s 44)),
 oF 46 40 (.len (.s 45)),
 oF 47 40 (.bin .neq (.s 43) (.s 46)),
 o0 48 (.pick (.s 40) (.c (.bool true)) (.s 47)),
 mv 49 48,
 oF 50 49 (.fadr 8 (.s 2)),
 oF 51 49 (.load none (.s 50)),
 oF 52 49 (.len (.s 51)),
 oF 53 49 (.fadr 8 (.s 3)),
 oF 54 49 (.load none (.s 53)),
 oF 55 49 (.len (.s 54)),
 oF 56 49 (.bin .neq (.s 52) (.s 55)),
 o0 57 (.pick (.s 49) (.c (.bool true)) (.s 56))] [7,8,9,10,11,12,13,14,15,16,17,18,19,20,21,22,23,24,25,26,27,28,29,30,31,32,33,34,35,36,37,38,39,40,41,42,43,44,45,46,47,48,49,50,51,52,53,54,55,56])
 (.cond (.s 57)
 (.seq (.reg [o0 4 (.mov (.c (.bool false)))] [])
 .ret)
 .skip))
 (.seq (.seq (.reg [o0 5 (.mov (.c (.int .i64 0)))] [])
 (.block 0 (.loop (.seq (.seq (.reg [mv 58 5,
 o0 59 (.fadr 7 (.s 2)),
 o0 60 (.load none (.s 59)),
 o0 61 (.len (.s 60)),
 o0 62 (.bin .lss (.s 58) (.s 61))] [58,59,60,61])
 (.cond (.s 62)
 .skip
 (.exit 0)))
 (.seq (.block 1 (.seq (.seq (.draw [⟨o0 65 (.fadr 7 (.s 2)),[]⟩,
 ⟨o0 66 (.load none (.s 65)),[0]⟩,
 ⟨mv 67 5,[]⟩,
 ⟨o0 68 (.iadr 1 (.s 66) (.s 67)),[1,0,2]⟩,
 ⟨o0 69 (.load none (.s 68)),[3,1,0,2]⟩,
 ⟨o0 70 (.fadr 7 (.s 3)),[]⟩,
 ⟨o0 71 (.load none (.s 70)),[5]⟩,
 ⟨mv 72 5,[]⟩,
 ⟨o0 73 (.iadr 1 (.s 71) (.s 72)),[6,5,7]⟩,
 ⟨o0 74 (.load none (.s 73)),[8,6,5,7]⟩] [] [])
 (.reg [o0 75 (.bin .neq (.s 69) (.s 74))] [65,66,67,68,69,70,71,72,73,74]))
 (.cond (.s 75)
 (.seq (.reg [o0 4 (.mov (.c (.bool false)))] [])
 .ret)
 .skip)))
 (.reg [mv 63 5,
 o0 64 (.bin .add (.s 63) (.c (.int .i64 1))),
 mv 5 64] [63,64]))))))
 (.seq (.seq (.reg [o0 6 (.mov (.c (.int .i64 0)))] [])
 (.block 2 (.loop (.seq (.seq (.reg [mv 76 6,
 o0 77 (.fadr 8 (.s 2)),
 o0 78 (.load none (.s 77)),
 o0 79 (.len (.s 78)),
 o0 80 (.bin .lss (.s 76) (.s 79))] [76,77,78,79])
 (.cond (.s 80)
 .skip
 (.exit 2)))
 (.seq (.block 3 (.seq (.seq (.draw [⟨o0 83 (.fadr 8 (.s 2)),[]⟩,
 ⟨o0 84 (.load none (.s 83)),[0]⟩,
 ⟨mv 85 6,[]⟩,
 ⟨o0 86 (.iadr 1 (.s 84) (.s 85)),[1,0,2]⟩,
 ⟨o0 87 (.load none (.s 86)),[3,1,0,2]⟩,
 ⟨o0 88 (.fadr 8 (.s 3)),[]⟩,
 ⟨o0 89 (.load none (.s 88)),[5]⟩,
 ⟨mv 90 6,[]⟩,
 ⟨o0 91 (.iadr 1 (.s 89) (.s 90)),[6,5,7]⟩,
 ⟨o0 92 (.load none (.s 91)),[8,6,5,7]⟩] [] [])
 (.reg [o0 93 (.bin .neq (.s 87) (.s 92))] [83,84,85,86,87,88,89,90,91,92]))
 (.cond (.s 93)
 (.seq (.reg [o0 4 (.mov (.c (.bool false)))] [])
 .ret)
 .skip)))
 (.reg [mv 81 6,
 o0 82 (.bin .add (.s 81) (.c (.int .i64 1))),
 mv 6 82] [81,82]))))))
 (.seq (.reg [o0 4 (.mov (.c (.bool true)))] [])
 .ret)))))⟩

theorem cX100:compF Tryz.prog 157 = some FX100:=by kernel_rfl
abbrev nX100:FuncId:=157

def FX99:IFun :=
⟨42,2,[.cell 4 (some 3),.tmp 5],
 (.seq (.reg [o0 2 (.box 193 3 (.s 0)),
 o0 4 (.new 193 [.nl,(.int .i64 0),(.int .i64 0)]),
 o0 5 (.mov (.c .nl))] [])
 (.seq (.block 0 (.seq (.reg [o0 8 (.fadr 2 (.s 2)),
 o0 9 (.load none (.s 8)),
 o0 10 (.bin .neq (.s 9) (.c (.int .i64 0))),
 mv 7 10] [8,9,10])
 (.cond (.s 7)
 (.seq (.reg [o0 11 (.load (some 3) (.s 2)),
 ⟨none,.store 3 (.s 4) (.s 11),none⟩,
 o0 5 (.mov (.c .nl))] [11])
 .ret)
 (.seq (.reg [mv 13 1,
 o0 14 (.bin .lss (.s 13) (.c (.int .i64 0))),
 mv 12 14] [13,14])
 (.cond (.s 12)
 (.seq (.reg [o0 15 (.load (some 3) (.s 2)),
 o0 16 (.call 205 [(.s 15),(.c (.int .i64 1))]),
 ⟨none,.store 3 (.s 4) (.s 16),none⟩,
 o0 5 (.mov (.c .nl))] [15,16])
 .ret)
 (.seq (.reg [mv 18 1,
 o0 19 (.load (some 3) (.s 2)),
 o0 20 (.call 139 [(.s 19)]),
 o0 21 (.bin .gtr (.s 18) (.s 20)),
 mv 17 21] [18,19,20,21])
 (.cond (.s 17)
 (.seq (.reg [o0 22 (.load (some 3) (.s 2)),
 o0 23 (.call 205 [(.s 22),(.c (.int .i64 3))]),
 ⟨none,.store 3 (.s 4) (.s 23),none⟩,
 o0 5 (.mov (.c .nl))] [22,23])
 .ret)
 .skip)))))))
 (.seq (.reg [o0 24 (.bsl 5 1 [] []),
 o0 25 (.fadr 0 (.s 2)),
 o0 26 (.load none (.s 25)),
 o0 27 (.fadr 1 (.s 2)),
 o0 28 (.load none (.s 27)),
 o0 29 (.fadr 1 (.s 2)),
 o0 30 (.load none (.s 29)),
 mv 31 1,
 o0 32 (.bin .add (.s 30) (.s 31)),
 o0 33 (.slc 1 (.s 26) (some (.s 28)) (some (.s 32)) none),
 o0 34 (.app 5 1 (.s 24) (.s 33)),
 mv 6 34] [24,25,26,27,28,29,30,31,32,33,34])
 (.seq (.reg [o0 35 (.fadr 1 (.s 2)),
 o0 36 (.load none (.s 35)),
 mv 37 1,
 o0 38 (.bin .add (.s 36) (.s 37)),
 o0 39 (.fadr 1 (.s 2)),
 ⟨none,.store 1 (.s 39) (.s 38),none⟩] [35,36,37,38,39])
 (.seq (.reg [o0 40 (.load (some 3) (.s 2)),
 mv 41 6,
 ⟨none,.store 3 (.s 4) (.s 40),none⟩,
 mv 5 41] [40,41])
 .ret)))))⟩

theorem cX99:compF Tryz.prog 182 = some FX99:=by kernel_rfl
abbrev nX99:FuncId:=182

def FX58:IFun :=
⟨36,2,[.cell 4 (some 3),.tmp 5],
 (.seq (.reg [o0 2 (.box 193 3 (.s 0)),
 o0 4 (.new 193 [.nl,(.int .i64 0),(.int .i64 0)]),
 o0 5 (.mov (.c (.int .u64 0)))] [])
 (.seq (.seq (.reg [o0 9 (.fadr 2 (.s 2)),
 o0 10 (.load none (.s 9)),
 o0 11 (.bin .neq (.s 10) (.c (.int .i64 0)))] [9,10])
 (.cond (.s 11)
 (.seq (.reg [o0 12 (.load (some 3) (.s 2)),
 ⟨none,.store 3 (.s 4) (.s 12),none⟩,
 o0 5 (.mov (.c (.int .u64 0)))] [12])
 .ret)
 .skip))
 (.seq (.reg [o0 14 (.fadr 0 (.s 2)),
 o0 15 (.load none (.s 14)),
 o0 16 (.fadr 1 (.s 2)),
 o0 17 (.load none (.s 16)),
 o0 18 (.slc 1 (.s 15) (some (.s 17)) none none),
 mv 19 1,
 o0 20 (.call 206 [(.s 18),(.s 19)]),
 mv 13 20,
 o0 21 (.ext (.s 13) 0),
 o0 22 (.ext (.s 13) 1),
 o0 23 (.ext (.s 13) 2),
 mv 6 21,
 mv 7 22,
 mv 8 23] [14,15,16,17,18,19,20,13,21,22,23])
 (.seq (.seq (.reg [mv 24 8,
 o0 25 (.bin .neq (.s 24) (.c (.int .i64 0)))] [24])
 (.cond (.s 25)
 (.seq (.reg [o0 26 (.load (some 3) (.s 2)),
 mv 27 8,
 o0 28 (.call 205 [(.s 26),(.s 27)]),
 ⟨none,.store 3 (.s 4) (.s 28),none⟩,
 o0 5 (.mov (.c (.int .u64 0)))] [26,27,28])
 .ret)
 .skip))
 (.seq (.reg [o0 29 (.fadr 1 (.s 2)),
 o0 30 (.load none (.s 29)),
 mv 31 7,
 o0 32 (.bin .add (.s 30) (.s 31)),
 o0 33 (.fadr 1 (.s 2)),
 ⟨none,.store 1 (.s 33) (.s 32),none⟩] [29,30,31,32,33])
 (.seq (.reg [o0 34 (.load (some 3) (.s 2)),
 mv 35 6,
 ⟨none,.store 3 (.s 4) (.s 34),none⟩,
 mv 5 35] [34,35])
 .ret))))))⟩

theorem cX58:compF Tryz.prog 183 = some FX58:=by kernel_rfl
abbrev nX58:FuncId:=183

def FX104:IFun :=
⟨37,1,[.cell 2 (some 3),.tmp 3],
 (.seq (.reg [o0 1 (.box 193 3 (.s 0)),
 o0 2 (.new 193 [.nl,(.int .i64 0),(.int .i64 0)]),
 o0 3 (.mov (.c (.str [])))] [])
 (.seq (.reg [o0 8 (.load (some 3) (.s 1)),
 o0 9 (.call 207 [(.s 8),(.c (.int .i64 64))]),
 mv 7 9,
 o0 10 (.ext (.s 7) 0),
 o0 11 (.ext (.s 7) 1),
 o0 4 (.new 193 [.nl,(.int .i64 0),(.int .i64 0)]),
 ⟨none,.store 3 (.s 4) (.s 10),none⟩,
 mv 5 11] [8,9,7,10,11])
 (.seq (.reg [o0 13 (.load (some 3) (.s 4)),
 mv 14 5,
 o0 15 (.call 182 [(.s 13),(.s 14)]),
 mv 12 15,
 o0 16 (.ext (.s 12) 0),
 o0 17 (.ext (.s 12) 1),
 ⟨none,.store 3 (.s 4) (.s 16),none⟩,
 mv 6 17] [13,14,15,12,16,17])
 (.seq (.seq (.reg [o0 18 (.fadr 2 (.s 4)),
 o0 19 (.load none (.s 18)),
 o0 20 (.bin .eql (.s 19) (.c (.int .i64 0))),
 mv 21 20,
 mt 22 6 21,
 ot 23 21 (.call 208 [(.s 22)]),
 ot 24 21 (.un .not (.s 23)),
 o0 25 (.pick (.s 21) (.s 24) (.c (.bool false)))] [18,19,20,21,22,23,24])
 (.cond (.s 25)
 (.reg [o0 26 (.fadr 2 (.s 4)),
 ⟨none,.store 1 (.s 26) (.c (.int .i64 9)),none⟩] [26])
 .skip))
 (.seq (.seq (.reg [o0 27 (.fadr 2 (.s 4)),
 o0 28 (.load none (.s 27)),
 o0 29 (.bin .neq (.s 28) (.c (.int .i64 0)))] [27,28])
 (.cond (.s 29)
 (.seq (.reg [o0 30 (.load (some 3) (.s 1)),
 o0 31 (.fadr 2 (.s 4)),
 o0 32 (.load none (.s 31)),
 o0 33 (.call 205 [(.s 30),(.s 32)]),
 ⟨none,.store 3 (.s 2) (.s 33),none⟩,
 o0 3 (.mov (.c (.str [])))] [30,31,32,33])
 .ret)
 .skip))
 (.seq (.seq (.draw [⟨o0 34 (.load (some 3) (.s 4)),[]⟩,
 ⟨mv 35 6,[]⟩,
 ⟨o0 36 (.cvs (.s 35)),[1]⟩,
 ⟨⟨none,.store 3 (.s 2) (.s 34),none⟩,[0]⟩] [] [])
 (.reg [mv 3 36] [34,35,36]))
 .ret))))))⟩

theorem cX104:compF Tryz.prog 184 = some FX104:=by kernel_rfl
abbrev nX104:FuncId:=184

def FX111:IFun :=
⟨68,2,[.cell 4 (some 3),.tmp 5],
 (.seq (.reg [o0 2 (.box 193 3 (.s 0)),
 o0 4 (.new 193 [.nl,(.int .i64 0),(.int .i64 0)]),
 o0 5 (.mov (.c .nl))] [])
 (.seq (.reg [o0 13 (.load (some 3) (.s 2)),
 mv 14 1,
 o0 15 (.call 207 [(.s 13),(.s 14)]),
 mv 12 15,
 o0 16 (.ext (.s 12) 0),
 o0 17 (.ext (.s 12) 1),
 ⟨none,.store 3 (.s 2) (.s 16),none⟩,
 mv 6 17] [13,14,15,12,16,17])
 (.seq (.reg [o0 7 (.mov (.c .nl))] [])
 (.seq (.seq (.reg [o0 8 (.mov (.c (.int .i64 0)))] [])
 (.block 0 (.loop (.seq (.seq (.reg [mv 18 8,
 mv 19 6,
 o0 20 (.bin .lss (.s 18) (.s 19)),
 mv 21 20,
 ot 22 21 (.fadr 2 (.s 2)),
 ot 23 21 (.load none (.s 22)),
 ot 24 21 (.bin .eql (.s 23) (.c (.int .i64 0))),
 o0 25 (.pick (.s 21) (.s 24) (.c (.bool false)))] [18,19,20,21,22,23,24])
 (.cond (.s 25)
 .skip
 (.exit 0)))
 (.seq (.block 1 (.seq (.reg [o0 29 (.load (some 3) (.s 2)),
 o0 30 (.call 141 [(.s 29)]),
 mv 28 30,
 o0 31 (.ext (.s 28) 0),
 o0 32 (.ext (.s 28) 1),
 o0 9 (.new 193 [.nl,(.int .i64 0),(.int .i64 0)]),
 ⟨none,.store 3 (.s 9) (.s 31),none⟩,
 mv 10 32] [29,30,28,31,32])
 (.seq (.reg [o0 34 (.load (some 3) (.s 9)),
 o0 35 (.call 184 [(.s 34)]),
 mv 33 35,
 o0 36 (.ext (.s 33) 0),
 o0 37 (.ext (.s 33) 1),
 ⟨none,.store 3 (.s 9) (.s 36),none⟩,
 mv 11 37] [34,35,33,36,37])
 (.seq (.seq (.reg [o0 38 (.fadr 2 (.s 9)),
 o0 39 (.load none (.s 38)),
 o0 40 (.bin .eql (.s 39) (.c (.int .i64 0))),
 mv 41 40,
 mt 42 7 41,
 ot 43 41 (.len (.s 42)),
 ot 44 41 (.bin .gtr (.s 43) (.c (.int .i64 0))),
 o0 45 (.pick (.s 41) (.s 44) (.c (.bool false))),
 mv 46 45,
 mt 47 10 46,
 mt 48 7 46,
 mt 49 7 46,
 ot 50 46 (.len (.s 49)),
 ot 51 46 (.bin .sub (.s 50) (.c (.int .i64 1))),
 ot 52 46 (.iadr 2 (.s 48) (.s 51)),
 ot 53 46 (.fadr 0 (.s 52)),
 ot 54 46 (.load none (.s 53)),
 ot 55 46 (.bin .leq (.s 47) (.s 54)),
 o0 56 (.pick (.s 46) (.s 55) (.c (.bool false)))] [38,39,40,41,42,43,44,45,46,47,48,49,50,51,52,53,54,55])
 (.cond (.s 56)
 (.reg [o0 57 (.load (some 3) (.s 9)),
 o0 58 (.call 205 [(.s 57),(.c (.int .i64 7))]),
 ⟨none,.store 3 (.s 9) (.s 58),none⟩] [57,58])
 .skip))
 (.seq (.draw [⟨o0 59 (.load (some 3) (.s 9)),[]⟩,
 ⟨mv 60 7,[]⟩,
 ⟨mv 61 10,[]⟩,
 ⟨mv 62 11,[]⟩,
 ⟨o0 63 (.build [(.int .i64 0),(.str [])] [(0,1,(.s 61)),(1,1,(.s 62))]),[2,3]⟩,
 ⟨o0 64 (.bsl 129 2 [[(.int .i64 0),(.str [])]] [(0,(.s 63))]),[4,2,3]⟩,
 ⟨o0 65 (.app 129 2 (.s 60) (.s 64)),[1,5,4,2,3]⟩] [(64,5),(65,6)] [])
 (.seq (.reg [⟨none,.store 3 (.s 2) (.s 59),none⟩] [])
 (.reg [mv 7 65] [59,60,61,62,63,64,65])))))))
 (.reg [mv 26 8,
 o0 27 (.bin .add (.s 26) (.c (.int .i64 1))),
 mv 8 27] [26,27]))))))
 (.seq (.reg [o0 66 (.load (some 3) (.s 2)),
 mv 67 7,
 ⟨none,.store 3 (.s 4) (.s 66),none⟩,
 mv 5 67] [66,67])
 .ret)))))⟩

theorem cX111:compF Tryz.prog 185 = some FX111:=by kernel_rfl
abbrev nX111:FuncId:=185

def FX69:IFun :=
⟨65,1,[.cell 2 (some 3),.tmp 3],
 (.seq (.reg [o0 1 (.box 193 3 (.s 0)),
 o0 2 (.new 193 [.nl,(.int .i64 0),(.int .i64 0)]),
 o0 3 (.mov (.c .nl))] [])
 (.seq (.reg [o0 11 (.load (some 3) (.s 1)),
 o0 12 (.call 207 [(.s 11),(.c (.int .i64 64))]),
 mv 10 12,
 o0 13 (.ext (.s 10) 0),
 o0 14 (.ext (.s 10) 1),
 ⟨none,.store 3 (.s 1) (.s 13),none⟩,
 mv 4 14] [11,12,10,13,14])
 (.seq (.reg [o0 5 (.mov (.c .nl))] [])
 (.seq (.seq (.reg [o0 6 (.mov (.c (.int .i64 0)))] [])
 (.block 0 (.loop (.seq (.seq (.reg [mv 15 6,
 mv 16 4,
 o0 17 (.bin .lss (.s 15) (.s 16)),
 mv 18 17,
 ot 19 18 (.fadr 2 (.s 1)),
 ot 20 18 (.load none (.s 19)),
 ot 21 18 (.bin .eql (.s 20) (.c (.int .i64 0))),
 o0 22 (.pick (.s 18) (.s 21) (.c (.bool false)))] [15,16,17,18,19,20,21])
 (.cond (.s 22)
 .skip
 (.exit 0)))
 (.seq (.block 1 (.seq (.reg [o0 26 (.load (some 3) (.s 1)),
 o0 27 (.call 141 [(.s 26)]),
 mv 25 27,
 o0 28 (.ext (.s 25) 0),
 o0 29 (.ext (.s 25) 1),
 o0 7 (.new 193 [.nl,(.int .i64 0),(.int .i64 0)]),
 ⟨none,.store 3 (.s 7) (.s 28),none⟩,
 mv 8 29] [26,27,25,28,29])
 (.seq (.seq (.reg [o0 30 (.fadr 2 (.s 7)),
 o0 31 (.load none (.s 30)),
 o0 32 (.bin .eql (.s 31) (.c (.int .i64 0))),
 mv 33 32,
 mt 34 5 33,
 ot 35 33 (.len (.s 34)),
 ot 36 33 (.bin .gtr (.s 35) (.c (.int .i64 0))),
 o0 37 (.pick (.s 33) (.s 36) (.c (.bool false))),
 mv 38 37,
 mt 39 8 38,
 mt 40 5 38,
 mt 41 5 38,
 ot 42 38 (.len (.s 41)),
 ot 43 38 (.bin .sub (.s 42) (.c (.int .i64 1))),
 ot 44 38 (.iadr 2 (.s 40) (.s 43)),
 ot 45 38 (.fadr 0 (.s 44)),
 ot 46 38 (.load none (.s 45)),
 ot 47 38 (.bin .leq (.s 39) (.s 46)),
 o0 48 (.pick (.s 38) (.s 47) (.c (.bool false)))] [30,31,32,33,34,35,36,37,38,39,40,41,42,43,44,45,46,47])
 (.cond (.s 48)
 (.reg [o0 49 (.load (some 3) (.s 7)),
 o0 50 (.call 205 [(.s 49),(.c (.int .i64 7))]),
 ⟨none,.store 3 (.s 7) (.s 50),none⟩] [49,50])
 .skip))
 (.seq (.reg [o0 52 (.load (some 3) (.s 7)),
 o0 53 (.call 185 [(.s 52),(.c (.int .i64 72))]),
 mv 51 53,
 o0 54 (.ext (.s 51) 0),
 o0 55 (.ext (.s 51) 1),
 ⟨none,.store 3 (.s 7) (.s 54),none⟩,
 mv 9 55] [52,53,51,54,55])
 (.seq (.draw [⟨o0 56 (.load (some 3) (.s 7)),[]⟩,
 ⟨mv 57 5,[]⟩,
 ⟨mv 58 8,[]⟩,
 ⟨mv 59 9,[]⟩,
 ⟨o0 60 (.build [(.int .i64 0),.nl] [(0,1,(.s 58)),(1,1,(.s 59))]),[2,3]⟩,
 ⟨o0 61 (.bsl 55 2 [[(.int .i64 0),.nl]] [(0,(.s 60))]),[4,2,3]⟩,
 ⟨o0 62 (.app 55 2 (.s 57) (.s 61)),[1,5,4,2,3]⟩] [(61,5),(62,6)] [])
 (.seq (.reg [⟨none,.store 3 (.s 1) (.s 56),none⟩] [])
 (.reg [mv 5 62] [56,57,58,59,60,61,62])))))))
 (.reg [mv 23 6,
 o0 24 (.bin .add (.s 23) (.c (.int .i64 1))),
 mv 6 24] [23,24]))))))
 (.seq (.reg [o0 63 (.load (some 3) (.s 1)),
 mv 64 5,
 ⟨none,.store 3 (.s 2) (.s 63),none⟩,
 mv 3 64] [63,64])
 .ret)))))⟩

theorem cX69:compF Tryz.prog 186 = some FX69:=by kernel_rfl
abbrev nX69:FuncId:=186

def FX124:IFun :=
⟨13,1,[.tmp 2],
 (.seq (.reg [o0 1 (.box 193 3 (.s 0)),
 o0 2 (.mov (.c (.int .i64 0)))] [])
 (.seq (.seq (.reg [o0 3 (.fadr 2 (.s 1)),
 o0 4 (.load none (.s 3)),
 o0 5 (.bin .eql (.s 4) (.c (.int .i64 0))),
 mv 6 5,
 ot 7 6 (.load (some 3) (.s 1)),
 ot 8 6 (.call 139 [(.s 7)]),
 ot 9 6 (.bin .gtr (.s 8) (.c (.int .i64 0))),
 o0 10 (.pick (.s 6) (.s 9) (.c (.bool false)))] [3,4,5,6,7,8,9])
 (.cond (.s 10)
 (.seq (.reg [o0 2 (.mov (.c (.int .i64 5)))] [])
 .ret)
 .skip))
 (.seq (.reg [o0 11 (.fadr 2 (.s 1)),
 o0 12 (.load none (.s 11)),
 mv 2 12] [11,12])
 .ret)))⟩

theorem cX124:compF Tryz.prog 187 = some FX124:=by kernel_rfl
abbrev nX124:FuncId:=187

def FX33:IFun :=
⟨29,2,[.tmp 4],
 (.seq (.reg [o0 4 (.mov (.c .nl))] [])
 (.seq (.reg [mv 7 0,
 o0 8 (.nchk (.s 7)),
 o0 9 (.fadr 2 (.s 8)),
 o0 10 (.load none (.s 9)),
 mv 11 1,
 o0 12 (.bin .add (.s 10) (.s 11)),
 mv 5 12] [7,8,9,10,11,12])
 (.seq (.seq (.draw [⟨mv 13 0,[]⟩,
 ⟨o0 14 (.nchk (.s 13)),[0]⟩,
 ⟨o0 15 (.fadr 1 (.s 14)),[1,0]⟩,
 ⟨o0 16 (.load none (.s 15)),[2,1,0]⟩,
 ⟨mv 17 0,[]⟩,
 ⟨o0 18 (.nchk (.s 17)),[4]⟩,
 ⟨o0 19 (.fadr 2 (.s 18)),[5,4]⟩,
 ⟨o0 20 (.load none (.s 19)),[6,5,4]⟩,
 ⟨mv 21 5,[]⟩,
 ⟨mv 22 5,[]⟩] [] [])
 (.seq (.reg [o0 23 (.slc 1 (.s 16) (some (.s 20)) (some (.s 21)) (some (.s 22)))] [])
 (.reg [mv 6 23] [13,14,15,16,17,18,19,20,21,22,23])))
 (.seq (.reg [mv 24 0,
 mv 25 5,
 o0 26 (.nchk (.s 24)),
 o0 27 (.fadr 2 (.s 26)),
 ⟨none,.store 1 (.s 27) (.s 25),none⟩] [24,25,26,27])
 (.seq (.reg [mv 28 6,
 mv 4 28] [28])
 .ret)))))⟩

theorem cX33:compF Tryz.prog 188 = some FX33:=by kernel_rfl
abbrev nX33:FuncId:=188

def F_leb_U:IFun :=
⟨32,2,[.tmp 4,.tmp 5,.tmp 6],
 (.seq (.reg [o0 4 (.mov (.c (.int .u64 0))),
 o0 5 (.mov (.c (.int .i64 0))),
 o0 6 (.mov (.c (.int .i64 0)))] [])
 (.seq (.reg [mv 11 0,
 mv 12 1,
 o0 13 (.call 209 [(.s 11),(.s 12)]),
 mv 10 13,
 o0 14 (.ext (.s 10) 0),
 o0 15 (.ext (.s 10) 1),
 o0 16 (.ext (.s 10) 2),
 mv 7 14,
 mv 8 15,
 mv 9 16] [11,12,13,10,14,15,16])
 (.seq (.seq (.reg [mv 17 9,
 o0 18 (.bin .neq (.s 17) (.c (.int .i64 0)))] [17])
 (.cond (.s 18)
 (.seq (.reg [mv 19 9,
 o0 4 (.mov (.c (.int .u64 0))),
 o0 5 (.mov (.c (.int .i64 0))),
 mv 6 19] [19])
 .ret)
 .skip))
 (.seq (.seq (.reg [mv 20 0,
 mv 21 7,
 o0 22 (.iadr 1 (.s 20) (.s 21)),
 o0 23 (.load none (.s 22)),
 mv 24 8,
 o0 25 (.bin .shr (.s 23) (.s 24)),
 o0 26 (.bin .neq (.s 25) (.c (.int .u8 0)))] [20,21,22,23,24,25])
 (.cond (.s 26)
 (.seq (.reg [o0 4 (.mov (.c (.int .u64 0))),
 o0 5 (.mov (.c (.int .i64 0))),
 o0 6 (.mov (.c (.int .i64 4)))] [])
 .ret)
 .skip))
 (.seq (.reg [mv 27 0,
 mv 28 7,
 o0 29 (.call 210 [(.s 27),(.s 28)]),
 mv 30 7,
 o0 31 (.bin .add (.s 30) (.c (.int .i64 1))),
 mv 4 29,
 mv 5 31,
 o0 6 (.mov (.c (.int .i64 0)))] [27,28,29,30,31])
 .ret)))))⟩

theorem c_leb_U:compF Tryz.prog 189 = some F_leb_U:=by kernel_rfl
abbrev n_leb_U:FuncId:=189

def FX35:IFun :=
⟨8,2,[.tmp 4],
 (.seq (.reg [o0 4 (.mov (.c (.bool false)))] [])
 (.seq (.reg [mv 5 0,
 mv 6 1,
 o0 7 (.call 211 [(.s 5),(.s 6)]),
 mv 4 7] [5,6,7])
 .ret))⟩

theorem cX35:compF Tryz.prog 190 = some FX35:=by kernel_rfl
abbrev nX35:FuncId:=190

def FX74:IFun :=
⟨29,1,[.tmp 2,.tmp 3],
 (.seq (.reg [o0 2 (.mov (.c .nl)),
 o0 3 (.mov (.c (.bool false)))] [])
 (.seq (.reg [o0 4 (.mov (.c .nl))] [])
 (.seq (.seq (.reg [o0 5 (.mov (.c (.int .i64 0)))] [])
 (.block 0 (.loop (.seq (.seq (.reg [mv 8 5,
 mv 9 0,
 o0 10 (.slen (.s 9)),
 o0 11 (.bin .lss (.s 8) (.s 10))] [8,9,10])
 (.cond (.s 11)
 .skip
 (.exit 0)))
 (.block 1 (.seq (.reg [mv 13 0,
 mv 14 5,
 o0 15 (.call 212 [(.s 13),(.s 14)]),
 mv 12 15,
 o0 16 (.ext (.s 12) 0),
 o0 17 (.ext (.s 12) 1),
 mv 6 16,
 mv 7 17] [13,14,15,12,16,17])
 (.seq (.seq (.reg [mv 18 7,
 o0 19 (.bin .eql (.s 18) (.c (.int .i64 0)))] [18])
 (.cond (.s 19)
 (.seq (.reg [o0 2 (.mov (.c .nl)),
 o0 3 (.mov (.c (.bool false)))] [])
 .ret)
 .skip))
 (.seq (.reg [mv 20 4,
 mv 21 6,
 o0 22 (.cvi .i32 (.s 21)),
 o0 23 (.bsl 21 1 [[(.int .i32 0)]] [(0,(.s 22))]),
 o0 24 (.app 21 1 (.s 20) (.s 23)),
 mv 4 24] [20,21,22,23,24])
 (.reg [mv 25 5,
 mv 26 7,
 o0 27 (.bin .add (.s 25) (.s 26)),
 mv 5 27] [25,26,27])))))))))
 (.seq (.reg [mv 28 4,
 mv 2 28,
 o0 3 (.mov (.c (.bool true)))] [28])
 .ret))))⟩

theorem cX74:compF Tryz.prog 191 = some FX74:=by kernel_rfl
abbrev nX74:FuncId:=191

def FX115:IFun :=
⟨11,2,[.cell 4 (some 3)],
 (.seq (.reg [o0 2 (.box 193 3 (.s 0)),
 o0 4 (.new 193 [.nl,(.int .i64 0),(.int .i64 0)])] [])
 (.seq (.seq (.reg [o0 5 (.fadr 2 (.s 2)),
 o0 6 (.load none (.s 5)),
 o0 7 (.bin .eql (.s 6) (.c (.int .i64 0)))] [5,6])
 (.cond (.s 7)
 (.reg [mv 8 1,
 o0 9 (.fadr 2 (.s 2)),
 ⟨none,.store 1 (.s 9) (.s 8),none⟩] [8,9])
 .skip))
 (.seq (.reg [o0 10 (.load (some 3) (.s 2)),
 ⟨none,.store 3 (.s 4) (.s 10),none⟩] [10])
 .ret)))⟩

theorem cX115:compF Tryz.prog 205 = some FX115:=by kernel_rfl
abbrev nX115:FuncId:=205

def FX138:IFun :=
⟨56,2,[.tmp 4,.tmp 5,.tmp 6],
 (.seq (.reg [o0 4 (.mov (.c (.int .u64 0))),
 o0 5 (.mov (.c (.int .i64 0))),
 o0 6 (.mov (.c (.int .i64 0)))] [])
 (.seq (.reg [mv 13 0,
 mv 14 1,
 o0 15 (.call 223 [(.s 13),(.s 14)]),
 mv 12 15,
 o0 16 (.ext (.s 12) 0),
 o0 17 (.ext (.s 12) 1),
 mv 7 16,
 mv 8 17] [13,14,15,12,16,17])
 (.seq (.seq (.reg [mv 18 8,
 o0 19 (.bin .neq (.s 18) (.c (.int .i64 0)))] [18])
 (.cond (.s 19)
 (.seq (.reg [mv 20 8,
 o0 4 (.mov (.c (.int .u64 0))),
 o0 5 (.mov (.c (.int .i64 0))),
 mv 6 20] [20])
 .ret)
 .skip))
 (.seq (.reg [mv 21 1,
 mv 22 7,
 o0 23 (.bin .sub (.s 22) (.c (.int .i64 1))),
 o0 24 (.bin .mul (.c (.int .i64 7)) (.s 23)),
 o0 25 (.bin .sub (.s 21) (.s 24)),
 mv 9 25] [21,22,23,24,25])
 (.seq (.seq (.reg [mv 26 9,
 o0 27 (.bin .lss (.s 26) (.c (.int .i64 7))),
 mv 28 27,
 mt 29 0 28,
 mt 30 7 28,
 ot 31 28 (.bin .sub (.s 30) (.c (.int .i64 1))),
 ot 32 28 (.iadr 1 (.s 29) (.s 31)),
 ot 33 28 (.load none (.s 32)),
 ot 34 28 (.cvi .i64 (.s 33)),
 mt 35 9 28,
 ot 36 28 (.bin .shr (.s 34) (.s 35)),
 ot 37 28 (.bin .neq (.s 36) (.c (.int .i64 0))),
 o0 38 (.pick (.s 28) (.s 37) (.c (.bool false)))] [26,27,28,29,30,31,32,33,34,35,36,37])
 (.cond (.s 38)
 (.seq (.reg [o0 4 (.mov (.c (.int .u64 0))),
 o0 5 (.mov (.c (.int .i64 0))),
 o0 6 (.mov (.c (.int .i64 4)))] [])
 .ret)
 .skip))
 (.seq (.reg [o0 10 (.mov (.c (.int .u64 0)))] [])
 (.seq (.seq (.reg [mv 39 7,
 o0 40 (.bin .sub (.s 39) (.c (.int .i64 1))),
 mv 11 40] [39,40])
 (.block 0 (.loop (.seq (.seq (.reg [mv 41 11,
 o0 42 (.bin .geq (.s 41) (.c (.int .i64 0)))] [41])
 (.cond (.s 42)
 .skip
 (.exit 0)))
 (.seq (.block 1 (.reg [mv 45 10,
 o0 46 (.bin .mul (.s 45) (.c (.int .u64 128))),
 mv 47 0,
 mv 48 11,
 o0 49 (.iadr 1 (.s 47) (.s 48)),
 o0 50 (.load none (.s 49)),
 o0 51 (.bin .rem (.s 50) (.c (.int .u8 128))),
 o0 52 (.cvi .u64 (.s 51)),
 o0 53 (.bin .add (.s 46) (.s 52)),
 mv 10 53] [45,46,47,48,49,50,51,52,53]))
 (.reg [mv 43 11,
 o0 44 (.bin .sub (.s 43) (.c (.int .i64 1))),
 mv 11 44] [43,44]))))))
 (.seq (.reg [mv 54 10,
 mv 55 7,
 mv 4 54,
 mv 5 55,
 o0 6 (.mov (.c (.int .i64 0)))] [54,55])
 .ret))))))))⟩

theorem cX138:compF Tryz.prog 206 = some FX138:=by kernel_rfl
abbrev nX138:FuncId:=206

def FX78:IFun :=
⟨25,2,[.cell 4 (some 3),.tmp 5],
 (.seq (.reg [o0 2 (.box 193 3 (.s 0)),
 o0 4 (.new 193 [.nl,(.int .i64 0),(.int .i64 0)]),
 o0 5 (.mov (.c (.int .i64 0)))] [])
 (.seq (.reg [o0 9 (.load (some 3) (.s 2)),
 o0 10 (.call 141 [(.s 9)]),
 mv 8 10,
 o0 11 (.ext (.s 8) 0),
 o0 12 (.ext (.s 8) 1),
 o0 6 (.new 193 [.nl,(.int .i64 0),(.int .i64 0)]),
 ⟨none,.store 3 (.s 6) (.s 11),none⟩,
 mv 7 12] [9,10,8,11,12])
 (.seq (.seq (.reg [o0 13 (.fadr 2 (.s 6)),
 o0 14 (.load none (.s 13)),
 o0 15 (.bin .eql (.s 14) (.c (.int .i64 0))),
 mv 16 15,
 mt 17 7 16,
 mt 18 1 16,
 ot 19 16 (.bin .gtr (.s 17) (.s 18)),
 o0 20 (.pick (.s 16) (.s 19) (.c (.bool false)))] [13,14,15,16,17,18,19])
 (.cond (.s 20)
 (.seq (.reg [o0 21 (.load (some 3) (.s 2)),
 o0 22 (.call 205 [(.s 21),(.c (.int .i64 6))]),
 ⟨none,.store 3 (.s 4) (.s 22),none⟩,
 o0 5 (.mov (.c (.int .i64 0)))] [21,22])
 .ret)
 .skip))
 (.seq (.reg [o0 23 (.load (some 3) (.s 6)),
 mv 24 7,
 ⟨none,.store 3 (.s 4) (.s 23),none⟩,
 mv 5 24] [23,24])
 .ret))))⟩

theorem cX78:compF Tryz.prog 207 = some FX78:=by kernel_rfl
abbrev nX78:FuncId:=207

def FX102:IFun :=
⟨188,1,[.tmp 2],
 (.seq (.reg [o0 2 (.mov (.c (.bool false)))] [])
 (.seq (.reg [mv 7 0,
 mv 8 0,
 o0 9 (.len (.s 8)),
 mv 10 0,
 o0 11 (.len (.s 10)),
 o0 12 (.slc 1 (.s 7) none (some (.s 9)) (some (.s 11))),
 mv 0 12] [7,8,9,10,11,12])
 (.seq (.block 0 (.loop (.seq (.seq (.reg [mv 13 0,
 o0 14 (.len (.s 13)),
 o0 15 (.bin .gtr (.s 14) (.c (.int .i64 0)))] [13,14])
 (.cond (.s 15)
 .skip
 (.exit 0)))
 (.block 1 (.seq (.reg [mv 16 0,
 o0 17 (.iadr 1 (.s 16) (.c (.int .i64 0))),
 o0 18 (.load none (.s 17)),
 mv 3 18] [16,17,18])
 (.seq (.seq (.reg [mv 19 3,
 o0 20 (.bin .lss (.s 19) (.c (.int .u8 128)))] [19])
 (.cond (.s 20)
 (.seq (.reg [mv 21 0,
 o0 22 (.slc 1 (.s 21) (some (.c (.int .i64 1))) none none),
 mv 0 22] [21,22])
 (.seq (.seq (.reg [mv 23 0,
 o0 24 (.len (.s 23)),
 o0 25 (.bin .gtr (.s 24) (.c (.int .i64 8))),
 mv 26 25,
 mt 27 0 26,
 ot 28 26 (.call 224 [(.s 27)]),
 ot 29 26 (.bin .and (.s 28) (.c (.int .u64 9259542123273814144))),
 ot 30 26 (.bin .eql (.s 29) (.c (.int .u64 0))),
 o0 31 (.pick (.s 26) (.s 30) (.c (.bool false)))] [23,24,25,26,27,28,29,30])
 (.cond (.s 31)
 (.seq (.reg [mv 32 0,
 o0 33 (.slc 1 (.s 32) (some (.c (.int .i64 8))) none none),
 mv 0 33] [32,33])
 (.seq (.seq (.reg [mv 34 0] [])
 (.seq (.reg [o0 35 (.len (.s 34))] [])
 (.seq (.reg [o0 36 (.bin .gtr (.s 35) (.c (.int .i64 16)))] [])
 (.seq (.reg [mv 37 36] [])
 (.seq (.draw [⟨mt 38 0 37,[]⟩,
 ⟨ot 39 37 (.call 224 [(.s 38)]),[0]⟩,
 ⟨mt 40 0 37,[]⟩,
 ⟨ot 41 37 (.slc 1 (.s 40) (some (.c (.int .i64 8))) none none),[2]⟩] [] [])
 (.seq (.reg [ot 42 37 (.call 224 [(.s 41)])] [])
 (.seq (.reg [ot 43 37 (.bin .or (.s 39) (.s 42))] [])
 (.seq (.reg [ot 44 37 (.bin .and (.s 43) (.c (.int .u64 9259542123273814144)))] [])
 (.seq (.reg [ot 45 37 (.bin .eql (.s 44) (.c (.int .u64 0)))] [])
 (.reg [o0 46 (.pick (.s 37) (.s 45) (.c (.bool false)))] [34,35,36,37,38,39,40,41,42,43,44,45]))))))))))
 (.cond (.s 46)
 (.seq (.reg [mv 47 0,
 o0 48 (.slc 1 (.s 47) (some (.c (.int .i64 16))) none none),
 mv 0 48] [47,48])
 (.block 2 (.loop (.seq (.seq (.seq (.reg [mv 49 0] [])
 (.seq (.reg [o0 50 (.len (.s 49))] [])
 (.seq (.reg [o0 51 (.bin .gtr (.s 50) (.c (.int .i64 32)))] [])
 (.seq (.reg [mv 52 51] [])
 (.seq (.draw [⟨mt 53 0 52,[]⟩,
 ⟨ot 54 52 (.call 224 [(.s 53)]),[0]⟩,
 ⟨mt 55 0 52,[]⟩,
 ⟨ot 56 52 (.slc 1 (.s 55) (some (.c (.int .i64 8))) none none),[2]⟩,
 ⟨ot 57 52 (.call 224 [(.s 56)]),[3,2,1,0]⟩,
 ⟨ot 58 52 (.bin .or (.s 54) (.s 57)),[1,0,4,3,2]⟩,
 ⟨mt 59 0 52,[]⟩,
 ⟨ot 60 52 (.slc 1 (.s 59) (some (.c (.int .i64 16))) none none),[6]⟩,
 ⟨ot 61 52 (.call 224 [(.s 60)]),[7,6,4,3,2,1,0]⟩,
 ⟨mt 62 0 52,[]⟩,
 ⟨ot 63 52 (.slc 1 (.s 62) (some (.c (.int .i64 24))) none none),[9]⟩,
 ⟨ot 64 52 (.call 224 [(.s 63)]),[10,9,8,7,6,4,3,2,1,0]⟩,
 ⟨ot 65 52 (.bin .or (.s 61) (.s 64)),[8,7,6,4,3,2,1,0,11,10,9]⟩] [] [])
 (.seq (.reg [ot 66 52 (.bin .or (.s 58) (.s 65))] [])
 (.seq (.reg [ot 67 52 (.bin .and (.s 66) (.c (.int .u64 9259542123273814144)))] [])
 (.seq (.reg [ot 68 52 (.bin .eql (.s 67) (.c (.int .u64 0)))] [])
 (.reg [o0 69 (.pick (.s 52) (.s 68) (.c (.bool false)))] [49,50,51,52,53,54,55,56,57,58,59,60,61,62,63,64,65,66,67,68])))))))))
 (.cond (.s 69)
 .skip
 (.exit 2)))
 (.block 3 (.reg [mv 70 0,
 o0 71 (.slc 1 (.s 70) (some (.c (.int .i64 32))) none none),
 mv 0 71] [70,71]))))))
 .skip)))
 .skip))
 (.exit 1)))
 .skip))
 (.seq (.reg [mv 72 3,
 o0 73 (.aadr 1 256 (.s 1000000) (.s 72)),
 o0 74 (.load none (.s 73)),
 mv 4 74] [72,73,74])
 (.seq (.reg [mv 75 4,
 o0 76 (.bin .and (.s 75) (.c (.int .u8 7))),
 o0 77 (.cvi .i64 (.s 76)),
 mv 5 77] [75,76,77])
 (.seq (.reg [mv 78 4,
 o0 79 (.bin .shr (.s 78) (.c (.int .u64 4))),
 o0 80 (.aadr 2 16 (.s 1000001) (.s 79)),
 o0 81 (.load (some 2) (.s 80)),
 o0 6 (.new 210 [(.int .u8 0),(.int .u8 0)]),
 ⟨none,.store 2 (.s 6) (.s 81),none⟩] [78,79,80,81])
 (.seq (.reg [mv 82 5] [])
 (.block 4 (.seq (.reg [o0 84 (.bin .eql (.s 82) (.c (.int .i64 2))),
 mv 83 84] [84])
 (.cond (.s 83)
 (.seq (.seq (.seq (.reg [mv 85 0] [])
 (.seq (.reg [o0 86 (.len (.s 85))] [])
 (.seq (.reg [o0 87 (.bin .lss (.s 86) (.c (.int .i64 2)))] [])
 (.seq (.reg [mv 88 87] [])
 (.seq (.draw [⟨mf 89 0 88,[]⟩,
 ⟨oF 90 88 (.iadr 1 (.s 89) (.c (.int .i64 1))),[0]⟩,
 ⟨oF 91 88 (.load none (.s 90)),[1,0]⟩,
 ⟨oF 92 88 (.fadr 0 (.s 6)),[]⟩,
 ⟨oF 93 88 (.load none (.s 92)),[3]⟩] [] [])
 (.seq (.reg [oF 94 88 (.bin .lss (.s 91) (.s 93))] [])
 (.seq (.reg [o0 95 (.pick (.s 88) (.c (.bool true)) (.s 94))] [])
 (.seq (.reg [mv 96 95] [])
 (.seq (.draw [⟨oF 97 96 (.fadr 1 (.s 6)),[]⟩,
 ⟨oF 98 96 (.load none (.s 97)),[0]⟩,
 ⟨mf 99 0 96,[]⟩,
 ⟨oF 100 96 (.iadr 1 (.s 99) (.c (.int .i64 1))),[2]⟩,
 ⟨oF 101 96 (.load none (.s 100)),[3,2]⟩] [] [])
 (.seq (.reg [oF 102 96 (.bin .lss (.s 98) (.s 101))] [])
 (.reg [o0 103 (.pick (.s 96) (.c (.bool true)) (.s 102))] [85,86,87,88,89,90,91,92,93,94,95,96,97,98,99,100,101,102])))))))))))
 (.cond (.s 103)
 (.seq (.reg [o0 2 (.mov (.c (.bool false)))] [])
 .ret)
 .skip))
 (.reg [mv 104 0,
 o0 105 (.slc 1 (.s 104) (some (.c (.int .i64 2))) none none),
 mv 0 105] [104,105]))
 (.seq (.reg [o0 107 (.bin .eql (.s 82) (.c (.int .i64 3))),
 mv 106 107] [107])
 (.cond (.s 106)
 (.seq (.seq (.seq (.reg [mv 108 0] [])
 (.seq (.reg [o0 109 (.len (.s 108))] [])
 (.seq (.reg [o0 110 (.bin .lss (.s 109) (.c (.int .i64 3)))] [])
 (.seq (.reg [mv 111 110] [])
 (.seq (.draw [⟨mf 112 0 111,[]⟩,
 ⟨oF 113 111 (.iadr 1 (.s 112) (.c (.int .i64 1))),[0]⟩,
 ⟨oF 114 111 (.load none (.s 113)),[1,0]⟩,
 ⟨oF 115 111 (.fadr 0 (.s 6)),[]⟩,
 ⟨oF 116 111 (.load none (.s 115)),[3]⟩] [] [])
 (.seq (.reg [oF 117 111 (.bin .lss (.s 114) (.s 116))] [])
 (.seq (.reg [o0 118 (.pick (.s 111) (.c (.bool true)) (.s 117))] [])
 (.seq (.reg [mv 119 118] [])
 (.seq (.draw [⟨oF 120 119 (.fadr 1 (.s 6)),[]⟩,
 ⟨oF 121 119 (.load none (.s 120)),[0]⟩,
 ⟨mf 122 0 119,[]⟩,
 ⟨oF 123 119 (.iadr 1 (.s 122) (.c (.int .i64 1))),[2]⟩,
 ⟨oF 124 119 (.load none (.s 123)),[3,2]⟩] [] [])
 (.seq (.reg [oF 125 119 (.bin .lss (.s 121) (.s 124))] [])
 (.seq (.reg [o0 126 (.pick (.s 119) (.c (.bool true)) (.s 125))] [])
 (.seq (.reg [mv 127 126] [])
 (.seq (.reg [mf 128 0 127] [])
 (.seq (.reg [oF 129 127 (.iadr 1 (.s 128) (.c (.int .i64 2)))] [])
 (.seq (.reg [oF 130 127 (.load none (.s 129))] [])
 (.seq (.reg [oF 131 127 (.bin .lss (.s 130) (.c (.int .u8 128)))] [])
 (.seq (.reg [o0 132 (.pick (.s 127) (.c (.bool true)) (.s 131))] [])
 (.seq (.reg [mv 133 132] [])
 (.seq (.reg [mf 134 0 133] [])
 (.seq (.reg [oF 135 133 (.iadr 1 (.s 134) (.c (.int .i64 2)))] [])
 (.seq (.reg [oF 136 133 (.load none (.s 135))] [])
 (.seq (.reg [oF 137 133 (.bin .lss (.c (.int .u8 191)) (.s 136))] [])
 (.reg [o0 138 (.pick (.s 133) (.c (.bool true)) (.s 137))] [108,109,110,111,112,113,114,115,116,117,118,119,120,121,122,123,124,125,126,127,128,129,130,131,132,133,134,135,136,137])))))))))))))))))))))))
 (.cond (.s 138)
 (.seq (.reg [o0 2 (.mov (.c (.bool false)))] [])
 .ret)
 .skip))
 (.reg [mv 139 0,
 o0 140 (.slc 1 (.s 139) (some (.c (.int .i64 3))) none none),
 mv 0 140] [139,140]))
 (.seq (.reg [o0 142 (.bin .eql (.s 82) (.c (.int .i64 4))),
 mv 141 142] [142])
 (.cond (.s 141)
 (.seq (.seq (.seq (.reg [mv 143 0] [])
 (.seq (.reg [o0 144 (.len (.s 143))] [])
 (.seq (.reg [o0 145 (.bin .lss (.s 144) (.c (.int .i64 4)))] [])
 (.seq (.reg [mv 146 145] [])
 (.seq (.draw [⟨mf 147 0 146,[]⟩,
 ⟨oF 148 146 (.iadr 1 (.s 147) (.c (.int .i64 1))),[0]⟩,
 ⟨oF 149 146 (.load none (.s 148)),[1,0]⟩,
 ⟨oF 150 146 (.fadr 0 (.s 6)),[]⟩,
 ⟨oF 151 146 (.load none (.s 150)),[3]⟩] [] [])
 (.seq (.reg [oF 152 146 (.bin .lss (.s 149) (.s 151))] [])
 (.seq (.reg [o0 153 (.pick (.s 146) (.c (.bool true)) (.s 152))] [])
 (.seq (.reg [mv 154 153] [])
 (.seq (.draw [⟨oF 155 154 (.fadr 1 (.s 6)),[]⟩,
 ⟨oF 156 154 (.load none (.s 155)),[0]⟩,
 ⟨mf 157 0 154,[]⟩,
 ⟨oF 158 154 (.iadr 1 (.s 157) (.c (.int .i64 1))),[2]⟩,
 ⟨oF 159 154 (.load none (.s 158)),[3,2]⟩] [] [])
 (.seq (.reg [oF 160 154 (.bin .lss (.s 156) (.s 159))] [])
 (.seq (.reg [o0 161 (.pick (.s 154) (.c (.bool true)) (.s 160))] [])
 (.seq (.reg [mv 162 161] [])
 (.seq (.reg [mf 163 0 162] [])
 (.seq (.reg [oF 164 162 (.iadr 1 (.s 163) (.c (.int .i64 2)))] [])
 (.seq (.reg [oF 165 162 (.load none (.s 164))] [])
 (.seq (.reg [oF 166 162 (.bin .lss (.s 165) (.c (.int .u8 128)))] [])
 (.seq (.reg [o0 167 (.pick (.s 162) (.c (.bool true)) (.s 166))] [])
 (.seq (.reg [mv 168 167] [])
 (.seq (.reg [mf 169 0 168] [])
 (.seq (.reg [oF 170 168 (.iadr 1 (.s 169) (.c (.int .i64 2)))] [])
 (.seq (.reg [oF 171 168 (.load none (.s 170))] [])
 (.seq (.reg [oF 172 168 (.bin .lss (.c (.int .u8 191)) (.s 171))] [])
 (.seq (.reg [o0 173 (.pick (.s 168) (.c (.bool true)) (.s 172))] [])
 (.seq (.reg [mv 174 173] [])
 (.seq (.reg [mf 175 0 174] [])
 (.seq (.reg [oF 176 174 (.iadr 1 (.s 175) (.c (.int .i64 3)))] [])
 (.seq (.reg [oF 177 174 (.load none (.s 176))] [])
 (.seq (.reg [oF 178 174 (.bin .lss (.s 177) (.c (.int .u8 128)))] [])
 (.seq (.reg [o0 179 (.pick (.s 174) (.c (.bool true)) (.s 178))] [])
 (.seq (.reg [mv 180 179] [])
 (.seq (.reg [mf 181 0 180] [])
 (.seq (.reg [oF 182 180 (.iadr 1 (.s 181) (.c (.int .i64 3)))] [])
 (.seq (.reg [oF 183 180 (.load none (.s 182))] [])
 (.seq (.reg [oF 184 180 (.bin .lss (.c (.int .u8 191)) (.s 183))] [])
 (.reg [o0 185 (.pick (.s 180) (.c (.bool true)) (.s 184))] [143,144,145,146,147,148,149,150,151,152,153,154,155,156,157,158,159,160,161,162,163,164,165,166,167,168,169,170,171,172,173,174,175,176,177,178,179,180,181,182,183,184])))))))))))))))))))))))))))))))))))
 (.cond (.s 185)
 (.seq (.reg [o0 2 (.mov (.c (.bool false)))] [])
 .ret)
 .skip))
 (.reg [mv 186 0,
 o0 187 (.slc 1 (.s 186) (some (.c (.int .i64 4))) none none),
 mv 0 187] [186,187]))
 (.seq (.reg [o0 2 (.mov (.c (.bool false)))] [])
 .ret))))))))))))))))))
 (.seq (.reg [o0 2 (.mov (.c (.bool true)))] [])
 .ret))))⟩

theorem cX102:compF Tryz.prog 208 = some FX102:=by kernel_rfl
abbrev nX102:FuncId:=208

def FX132:IFun :=
⟨42,2,[.tmp 4,.tmp 5,.tmp 6],
 (.seq (.reg [o0 4 (.mov (.c (.int .i64 0))),
 o0 5 (.mov (.c (.int .i64 0))),
 o0 6 (.mov (.c (.int .i64 0)))] [])
 (.seq (.seq (.reg [mv 9 1,
 o0 10 (.bin .lss (.s 9) (.c (.int .i64 1))),
 mv 11 10,
 mf 12 1 11,
 oF 13 11 (.bin .gtr (.s 12) (.c (.int .i64 64))),
 o0 14 (.pick (.s 11) (.c (.bool true)) (.s 13))] [9,10,11,12,13])
 (.cond (.s 14)
 (.seq (.reg [o0 4 (.mov (.c (.int .i64 0))),
 o0 5 (.mov (.c (.int .i64 0))),
 o0 6 (.mov (.c (.int .i64 1)))] [])
 .ret)
 .skip))
 (.seq (.reg [mv 15 1,
 o0 16 (.bin .add (.s 15) (.c (.int .i64 6))),
 o0 17 (.bin .quo (.s 16) (.c (.int .i64 7))),
 mv 7 17] [15,16,17])
 (.seq (.seq (.reg [mv 18 7,
 o0 19 (.mov (.c (.int .i64 0)))] [])
 (.block 0 (.loop (.seq (.reg [o0 20 (.bin .lss (.s 19) (.s 18))] [])
 (.seq (.cond (.s 20)
 .skip
 (.exit 0))
 (.seq (.block 1 (.seq (.reg [mv 21 19,
 mv 8 21] [21])
 (.seq (.seq (.reg [mv 22 8,
 mv 23 0,
 o0 24 (.len (.s 23)),
 o0 25 (.bin .geq (.s 22) (.s 24))] [22,23,24])
 (.cond (.s 25)
 (.seq (.reg [o0 4 (.mov (.c (.int .i64 0))),
 o0 5 (.mov (.c (.int .i64 0))),
 o0 6 (.mov (.c (.int .i64 3)))] [])
 .ret)
 .skip))
 (.seq (.seq (.reg [mv 26 0,
 mv 27 8,
 o0 28 (.iadr 1 (.s 26) (.s 27)),
 o0 29 (.load none (.s 28)),
 o0 30 (.bin .geq (.s 29) (.c (.int .u8 128)))] [26,27,28,29])
 (.cond (.s 30)
 (.exit 1)
 .skip))
 (.seq (.seq (.reg [mv 31 8,
 mv 32 7,
 o0 33 (.bin .sub (.s 32) (.c (.int .i64 1))),
 o0 34 (.bin .eql (.s 31) (.s 33))] [31,32,33])
 (.cond (.s 34)
 (.seq (.reg [mv 35 8,
 mv 36 1,
 mv 37 8,
 o0 38 (.bin .mul (.c (.int .i64 7)) (.s 37)),
 o0 39 (.bin .sub (.s 36) (.s 38)),
 mv 4 35,
 mv 5 39,
 o0 6 (.mov (.c (.int .i64 0)))] [35,36,37,38,39])
 .ret)
 .skip))
 (.seq (.reg [mv 40 8,
 mv 4 40,
 o0 5 (.mov (.c (.int .i64 7))),
 o0 6 (.mov (.c (.int .i64 0)))] [40])
 .ret))))))
 (.reg [o0 41 (.bin .add (.s 19) (.c (.int .i64 1))),
 mv 19 41] [41])))))))
 (.seq (.reg [o0 4 (.mov (.c (.int .i64 0))),
 o0 5 (.mov (.c (.int .i64 0))),
 o0 6 (.mov (.c (.int .i64 4)))] [])
 .ret)))))⟩

theorem cX132:compF Tryz.prog 209 = some FX132:=by kernel_rfl
abbrev nX132:FuncId:=209

def FX137:IFun :=
⟨25,2,[.tmp 4],
 (.seq (.reg [o0 4 (.mov (.c (.int .u64 0)))] [])
 (.seq (.reg [o0 5 (.mov (.c (.int .u64 0)))] [])
 (.seq (.seq (.reg [mv 7 1,
 o0 8 (.bin .add (.s 7) (.c (.int .i64 1))),
 o0 9 (.mov (.c (.int .i64 0)))] [7])
 (.block 0 (.loop (.seq (.reg [o0 10 (.bin .lss (.s 9) (.s 8))] [])
 (.seq (.cond (.s 10)
 .skip
 (.exit 0))
 (.seq (.block 1 (.seq (.reg [mv 11 9,
 mv 6 11] [11])
 (.reg [mv 12 5,
 mv 13 0,
 mv 14 6,
 o0 15 (.iadr 1 (.s 13) (.s 14)),
 o0 16 (.load none (.s 15)),
 o0 17 (.bin .and (.s 16) (.c (.int .u8 127))),
 o0 18 (.cvi .u64 (.s 17)),
 mv 19 6,
 o0 20 (.bin .mul (.c (.int .i64 7)) (.s 19)),
 o0 21 (.bin .shl (.s 18) (.s 20)),
 o0 22 (.bin .or (.s 12) (.s 21)),
 mv 5 22] [12,13,14,15,16,17,18,19,20,21,22])))
 (.reg [o0 23 (.bin .add (.s 9) (.c (.int .i64 1))),
 mv 9 23] [23])))))))
 (.seq (.reg [mv 24 5,
 mv 4 24] [24])
 .ret))))⟩

theorem cX137:compF Tryz.prog 210 = some FX137:=by kernel_rfl
abbrev nX137:FuncId:=210

def FX8:IFun :=
⟨18,2,[.tmp 4],
 (.seq (.reg [o0 4 (.mov (.c (.bool false)))] [])
 (.seq (.reg [mv 5 0,
 o0 6 (.slen (.s 5)),
 mv 7 1,
 o0 8 (.slen (.s 7)),
 o0 9 (.bin .geq (.s 6) (.s 8)),
 mv 10 9,
 mt 11 0 10,
 mt 12 1 10,
 ot 13 10 (.slen (.s 12)),
 ot 14 10 (.sslc (.s 11) none (some (.s 13))),
 mt 15 1 10,
 ot 16 10 (.bin .eql (.s 14) (.s 15)),
 o0 17 (.pick (.s 10) (.s 16) (.c (.bool false))),
 mv 4 17] [5,6,7,8,9,10,11,12,13,14,15,16,17])
 .ret))⟩

theorem cX8:compF Tryz.prog 211 = some FX8:=by kernel_rfl
abbrev nX8:FuncId:=211

def FX76:IFun :=
⟨85,2,[.tmp 4,.tmp 5],
 (.seq (.reg [o0 4 (.mov (.c (.int .i64 0))),
 o0 5 (.mov (.c (.int .i64 0)))] [])
 (.seq (.reg [mv 12 0,
 mv 13 1,
 o0 14 (.sidx (.s 12) (.s 13)),
 o0 15 (.cvi .i64 (.s 14)),
 mv 6 15] [12,13,14,15])
 (.seq (.seq (.reg [mv 16 6,
 o0 17 (.bin .lss (.s 16) (.c (.int .i64 128)))] [16])
 (.cond (.s 17)
 (.seq (.reg [mv 18 6,
 mv 4 18,
 o0 5 (.mov (.c (.int .i64 1)))] [18])
 .ret)
 .skip))
 (.seq (.reg [o0 7 (.mov (.c (.int .i64 0)))] [])
 (.seq (.reg [o0 8 (.mov (.c (.int .i64 0)))] [])
 (.seq (.reg [o0 9 (.mov (.c (.int .i64 0)))] [])
 (.seq (.seq (.reg [mv 19 6,
 o0 20 (.bin .geq (.s 19) (.c (.int .i64 192))),
 mv 21 20,
 mt 22 6 21,
 ot 23 21 (.bin .lss (.s 22) (.c (.int .i64 224))),
 o0 24 (.pick (.s 21) (.s 23) (.c (.bool false)))] [19,20,21,22,23])
 (.cond (.s 24)
 (.seq (.reg [o0 7 (.mov (.c (.int .i64 2)))] [])
 (.seq (.reg [o0 8 (.mov (.c (.int .i64 128)))] [])
 (.reg [mv 25 6,
 o0 26 (.bin .sub (.s 25) (.c (.int .i64 192))),
 mv 9 26] [25,26])))
 (.seq (.reg [mv 27 6,
 o0 28 (.bin .geq (.s 27) (.c (.int .i64 224))),
 mv 29 28,
 mt 30 6 29,
 ot 31 29 (.bin .lss (.s 30) (.c (.int .i64 240))),
 o0 32 (.pick (.s 29) (.s 31) (.c (.bool false)))] [27,28,29,30,31])
 (.cond (.s 32)
 (.seq (.reg [o0 7 (.mov (.c (.int .i64 3)))] [])
 (.seq (.reg [o0 8 (.mov (.c (.int .i64 2048)))] [])
 (.reg [mv 33 6,
 o0 34 (.bin .sub (.s 33) (.c (.int .i64 224))),
 mv 9 34] [33,34])))
 (.seq (.reg [mv 35 6,
 o0 36 (.bin .geq (.s 35) (.c (.int .i64 240))),
 mv 37 36,
 mt 38 6 37,
 ot 39 37 (.bin .lss (.s 38) (.c (.int .i64 248))),
 o0 40 (.pick (.s 37) (.s 39) (.c (.bool false)))] [35,36,37,38,39])
 (.cond (.s 40)
 (.seq (.reg [o0 7 (.mov (.c (.int .i64 4)))] [])
 (.seq (.reg [o0 8 (.mov (.c (.int .i64 65536)))] [])
 (.reg [mv 41 6,
 o0 42 (.bin .sub (.s 41) (.c (.int .i64 240))),
 mv 9 42] [41,42])))
 .skip))))))
 (.seq (.seq (.reg [mv 43 7,
 o0 44 (.bin .eql (.s 43) (.c (.int .i64 0))),
 mv 45 44,
 mf 46 1 45,
 mf 47 7 45,
 oF 48 45 (.bin .add (.s 46) (.s 47)),
 mf 49 0 45,
 oF 50 45 (.slen (.s 49)),
 oF 51 45 (.bin .gtr (.s 48) (.s 50)),
 o0 52 (.pick (.s 45) (.c (.bool true)) (.s 51))] [43,44,45,46,47,48,49,50,51])
 (.cond (.s 52)
 (.seq (.reg [o0 4 (.mov (.c (.int .i64 0))),
 o0 5 (.mov (.c (.int .i64 0)))] [])
 .ret)
 .skip))
 (.seq (.seq (.reg [o0 10 (.mov (.c (.int .i64 1)))] [])
 (.block 0 (.loop (.seq (.seq (.reg [mv 53 10,
 mv 54 7,
 o0 55 (.bin .lss (.s 53) (.s 54))] [53,54])
 (.cond (.s 55)
 .skip
 (.exit 0)))
 (.seq (.block 1 (.seq (.reg [mv 58 0,
 mv 59 1,
 mv 60 10,
 o0 61 (.bin .add (.s 59) (.s 60)),
 o0 62 (.sidx (.s 58) (.s 61)),
 o0 63 (.cvi .i64 (.s 62)),
 mv 11 63] [58,59,60,61,62,63])
 (.seq (.seq (.reg [mv 64 11,
 o0 65 (.bin .lss (.s 64) (.c (.int .i64 128))),
 mv 66 65,
 mf 67 11 66,
 oF 68 66 (.bin .geq (.s 67) (.c (.int .i64 192))),
 o0 69 (.pick (.s 66) (.c (.bool true)) (.s 68))] [64,65,66,67,68])
 (.cond (.s 69)
 (.seq (.reg [o0 4 (.mov (.c (.int .i64 0))),
 o0 5 (.mov (.c (.int .i64 0)))] [])
 .ret)
 .skip))
 (.reg [mv 70 9,
 o0 71 (.bin .mul (.s 70) (.c (.int .i64 64))),
 mv 72 11,
 o0 73 (.bin .add (.s 71) (.s 72)),
 o0 74 (.bin .sub (.s 73) (.c (.int .i64 128))),
 mv 9 74] [70,71,72,73,74]))))
 (.reg [mv 56 10,
 o0 57 (.bin .add (.s 56) (.c (.int .i64 1))),
 mv 10 57] [56,57]))))))
 (.seq (.seq (.reg [mv 75 9,
 mv 76 8,
 o0 77 (.bin .lss (.s 75) (.s 76)),
 mv 78 77,
 mf 79 9 78,
 oF 80 78 (.call 225 [(.s 79)]),
 oF 81 78 (.un .not (.s 80)),
 o0 82 (.pick (.s 78) (.c (.bool true)) (.s 81))] [75,76,77,78,79,80,81])
 (.cond (.s 82)
 (.seq (.reg [o0 4 (.mov (.c (.int .i64 0))),
 o0 5 (.mov (.c (.int .i64 0)))] [])
 .ret)
 .skip))
 (.seq (.reg [mv 83 9,
 mv 84 7,
 mv 4 83,
 mv 5 84] [83,84])
 .ret)))))))))))⟩

theorem cX76:compF Tryz.prog 212 = some FX76:=by kernel_rfl
abbrev nX76:FuncId:=212

def FX113:IFun :=
⟨39,2,[.tmp 4,.tmp 5],
 (.seq (.reg [o0 4 (.mov (.c (.int .i64 0))),
 o0 5 (.mov (.c (.int .i64 0)))] [])
 (.seq (.seq (.reg [mv 8 1,
 o0 9 (.bin .lss (.s 8) (.c (.int .i64 1))),
 mv 10 9,
 mf 11 1 10,
 oF 12 10 (.bin .gtr (.s 11) (.c (.int .i64 64))),
 o0 13 (.pick (.s 10) (.c (.bool true)) (.s 12))] [8,9,10,11,12])
 (.cond (.s 13)
 (.seq (.reg [o0 4 (.mov (.c (.int .i64 0))),
 o0 5 (.mov (.c (.int .i64 1)))] [])
 .ret)
 .skip))
 (.seq (.reg [mv 14 1,
 o0 15 (.bin .add (.s 14) (.c (.int .i64 6))),
 o0 16 (.bin .quo (.s 15) (.c (.int .i64 7))),
 mv 6 16] [14,15,16])
 (.seq (.seq (.reg [o0 7 (.mov (.c (.int .i64 0)))] [])
 (.block 0 (.loop (.seq (.seq (.reg [mv 17 7,
 mv 18 0,
 o0 19 (.len (.s 18)),
 o0 20 (.bin .lss (.s 17) (.s 19)),
 mv 21 20,
 mt 22 7 21,
 mt 23 6 21,
 ot 24 21 (.bin .lss (.s 22) (.s 23)),
 o0 25 (.pick (.s 21) (.s 24) (.c (.bool false)))] [17,18,19,20,21,22,23,24])
 (.cond (.s 25)
 .skip
 (.exit 0)))
 (.seq (.block 1 (.seq (.reg [mv 28 0,
 mv 29 7,
 o0 30 (.iadr 1 (.s 28) (.s 29)),
 o0 31 (.load none (.s 30)),
 o0 32 (.bin .lss (.s 31) (.c (.int .u8 128)))] [28,29,30,31])
 (.cond (.s 32)
 (.seq (.reg [mv 33 7,
 o0 34 (.bin .add (.s 33) (.c (.int .i64 1))),
 mv 4 34,
 o0 5 (.mov (.c (.int .i64 0)))] [33,34])
 .ret)
 .skip)))
 (.reg [mv 26 7,
 o0 27 (.bin .add (.s 26) (.c (.int .i64 1))),
 mv 7 27] [26,27]))))))
 (.seq (.seq (.reg [mv 35 0,
 o0 36 (.len (.s 35)),
 mv 37 6,
 o0 38 (.bin .lss (.s 36) (.s 37))] [35,36,37])
 (.cond (.s 38)
 (.seq (.reg [o0 4 (.mov (.c (.int .i64 0))),
 o0 5 (.mov (.c (.int .i64 3)))] [])
 .ret)
 .skip))
 (.seq (.reg [o0 4 (.mov (.c (.int .i64 0))),
 o0 5 (.mov (.c (.int .i64 4)))] [])
 .ret))))))⟩

theorem cX113:compF Tryz.prog 223 = some FX113:=by kernel_rfl
abbrev nX113:FuncId:=223

def FX54:IFun :=
⟨71,1,[.tmp 2],
 (.seq (.reg [o0 2 (.mov (.c (.int .u64 0)))] [])
 (.seq (.cond (.c (.bool false))
 (.seq (.seq (.draw [⟨mv 3 0,[]⟩,
 ⟨o0 4 (.iadr 1 (.s 3) (.c (.int .i64 0))),[0]⟩,
 ⟨o0 5 (.load none (.s 4)),[1,0]⟩,
 ⟨o0 6 (.cvi .u64 (.s 5)),[2,1,0]⟩,
 ⟨mv 7 0,[]⟩,
 ⟨o0 8 (.iadr 1 (.s 7) (.c (.int .i64 1))),[4]⟩,
 ⟨o0 9 (.load none (.s 8)),[5,4]⟩,
 ⟨o0 10 (.cvi .u64 (.s 9)),[6,5,4]⟩,
 ⟨o0 11 (.bin .shl (.s 10) (.c (.int .u64 8))),[7,6,5,4]⟩,
 ⟨o0 12 (.bin .or (.s 6) (.s 11)),[3,2,1,0,8,7,6,5,4]⟩,
 ⟨mv 13 0,[]⟩,
 ⟨o0 14 (.iadr 1 (.s 13) (.c (.int .i64 2))),[10]⟩,
 ⟨o0 15 (.load none (.s 14)),[11,10]⟩,
 ⟨o0 16 (.cvi .u64 (.s 15)),[12,11,10]⟩,
 ⟨o0 17 (.bin .shl (.s 16) (.c (.int .u64 16))),[13,12,11,10]⟩,
 ⟨o0 18 (.bin .or (.s 12) (.s 17)),[9,3,2,1,0,8,7,6,5,4,14,13,12,11,10]⟩,
 ⟨mv 19 0,[]⟩,
 ⟨o0 20 (.iadr 1 (.s 19) (.c (.int .i64 3))),[16]⟩,
 ⟨o0 21 (.load none (.s 20)),[17,16]⟩,
 ⟨o0 22 (.cvi .u64 (.s 21)),[18,17,16]⟩,
 ⟨o0 23 (.bin .shl (.s 22) (.c (.int .u64 24))),[19,18,17,16]⟩] [] [])
 (.seq (.reg [o0 24 (.bin .or (.s 18) (.s 23))] [])
 (.reg [mv 2 24] [3,4,5,6,7,8,9,10,11,12,13,14,15,16,17,18,19,20,21,22,23,24])))
 .ret)
 .skip)
 (.seq (.seq (.draw [⟨mv 25 0,[]⟩,
 ⟨o0 26 (.iadr 1 (.s 25) (.c (.int .i64 0))),[0]⟩,
 ⟨o0 27 (.load none (.s 26)),[1,0]⟩,
 ⟨o0 28 (.cvi .u64 (.s 27)),[2,1,0]⟩,
 ⟨mv 29 0,[]⟩,
 ⟨o0 30 (.iadr 1 (.s 29) (.c (.int .i64 1))),[4]⟩,
 ⟨o0 31 (.load none (.s 30)),[5,4]⟩,
 ⟨o0 32 (.cvi .u64 (.s 31)),[6,5,4]⟩,
 ⟨o0 33 (.bin .shl (.s 32) (.c (.int .u64 8))),[7,6,5,4]⟩,
 ⟨o0 34 (.bin .or (.s 28) (.s 33)),[3,2,1,0,8,7,6,5,4]⟩,
 ⟨mv 35 0,[]⟩,
 ⟨o0 36 (.iadr 1 (.s 35) (.c (.int .i64 2))),[10]⟩,
 ⟨o0 37 (.load none (.s 36)),[11,10]⟩,
 ⟨o0 38 (.cvi .u64 (.s 37)),[12,11,10]⟩,
 ⟨o0 39 (.bin .shl (.s 38) (.c (.int .u64 16))),[13,12,11,10]⟩,
 ⟨o0 40 (.bin .or (.s 34) (.s 39)),[9,3,2,1,0,8,7,6,5,4,14,13,12,11,10]⟩,
 ⟨mv 41 0,[]⟩,
 ⟨o0 42 (.iadr 1 (.s 41) (.c (.int .i64 3))),[16]⟩,
 ⟨o0 43 (.load none (.s 42)),[17,16]⟩,
 ⟨o0 44 (.cvi .u64 (.s 43)),[18,17,16]⟩,
 ⟨o0 45 (.bin .shl (.s 44) (.c (.int .u64 24))),[19,18,17,16]⟩,
 ⟨o0 46 (.bin .or (.s 40) (.s 45)),[15,9,3,2,1,0,8,7,6,5,4,14,13,12,11,10,20,19,18,17,16]⟩,
 ⟨mv 47 0,[]⟩,
 ⟨o0 48 (.iadr 1 (.s 47) (.c (.int .i64 4))),[22]⟩,
 ⟨o0 49 (.load none (.s 48)),[23,22]⟩,
 ⟨o0 50 (.cvi .u64 (.s 49)),[24,23,22]⟩,
 ⟨o0 51 (.bin .shl (.s 50) (.c (.int .u64 32))),[25,24,23,22]⟩,
 ⟨o0 52 (.bin .or (.s 46) (.s 51)),[21,15,9,3,2,1,0,8,7,6,5,4,14,13,12,11,10,20,19,18,17,16,26,25,24,23,22]⟩,
 ⟨mv 53 0,[]⟩,
 ⟨o0 54 (.iadr 1 (.s 53) (.c (.int .i64 5))),[28]⟩,
 ⟨o0 55 (.load none (.s 54)),[29,28]⟩,
 ⟨o0 56 (.cvi .u64 (.s 55)),[30,29,28]⟩,
 ⟨o0 57 (.bin .shl (.s 56) (.c (.int .u64 40))),[31,30,29,28]⟩,
 ⟨o0 58 (.bin .or (.s 52) (.s 57)),[27,21,15,9,3,2,1,0,8,7,6,5,4,14,13,12,11,10,20,19,18,17,16,26,25,24,23,22,32,31,30,29,28]⟩,
 ⟨mv 59 0,[]⟩,
 ⟨o0 60 (.iadr 1 (.s 59) (.c (.int .i64 6))),[34]⟩,
 ⟨o0 61 (.load none (.s 60)),[35,34]⟩,
 ⟨o0 62 (.cvi .u64 (.s 61)),[36,35,34]⟩,
 ⟨o0 63 (.bin .shl (.s 62) (.c (.int .u64 48))),[37,36,35,34]⟩,
 ⟨o0 64 (.bin .or (.s 58) (.s 63)),[33,27,21,15,9,3,2,1,0,8,7,6,5,4,14,13,12,11,10,20,19,18,17,16,26,25,24,23,22,32,31,30,29,28,38,37,36,35,34]⟩,
 ⟨mv 65 0,[]⟩,
 ⟨o0 66 (.iadr 1 (.s 65) (.c (.int .i64 7))),[40]⟩,
 ⟨o0 67 (.load none (.s 66)),[41,40]⟩,
 ⟨o0 68 (.cvi .u64 (.s 67)),[42,41,40]⟩,
 ⟨o0 69 (.bin .shl (.s 68) (.c (.int .u64 56))),[43,42,41,40]⟩] [] [])
 (.seq (.reg [o0 70 (.bin .or (.s 64) (.s 69))] [])
 (.reg [mv 2 70] [25,26,27,28,29,30,31,32,33,34,35,36,37,38,39,40,41,42,43,44,45,46,47,48,49,50,51,52,53,54,55,56,57,58,59,60,61,62,63,64,65,66,67,68,69,70])))
 .ret)))⟩

theorem cX54:compF Tryz.prog 224 = some FX54:=by kernel_rfl
abbrev nX54:FuncId:=224

def FX136:IFun :=
⟨17,1,[.tmp 2],
 (.seq (.reg [o0 2 (.mov (.c (.bool false)))] [])
 (.seq (.reg [mv 3 0,
 o0 4 (.bin .geq (.s 3) (.c (.int .i64 0))),
 mv 5 4,
 mt 6 0 5,
 ot 7 5 (.bin .lss (.s 6) (.c (.int .i64 55296))),
 o0 8 (.pick (.s 5) (.s 7) (.c (.bool false))),
 mv 9 8,
 mf 10 0 9,
 oF 11 9 (.bin .gtr (.s 10) (.c (.int .i64 57343))),
 mf 12 11 9,
 mt 13 0 12,
 ot 14 12 (.bin .leq (.s 13) (.c (.int .i64 1114111))),
 oF 15 9 (.pick (.s 12) (.s 14) (.c (.bool false))),
 o0 16 (.pick (.s 9) (.c (.bool true)) (.s 15)),
 mv 2 16] [3,4,5,6,7,8,9,10,11,12,13,14,15,16])
 .ret))⟩

theorem cX136:compF Tryz.prog 225 = some FX136:=by kernel_rfl
abbrev nX136:FuncId:=225

theorem mixed:Tryz.prog.follows .mixedOrders = true:=by kernel_rfl
end Go.Proofs.YtoikbadfbneahaaGreatDoor
