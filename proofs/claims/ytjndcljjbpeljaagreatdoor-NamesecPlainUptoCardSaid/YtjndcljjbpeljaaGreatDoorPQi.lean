import Derived.Test.YtjndcljjbpeljaaGreatDoorPQb
import Derived.Test.YtjndcljjbpeljaaGreatDoorProg
import Derived.KernelRfl
set_option linter.all false
namespace Go.Proofs.YtjndcljjbpeljaaGreatDoor
open Go.Mw
def Mi:aH :=
⟨91,2,[.tmp 4],
 (sr [o0 2 (.box 33 12 (.s 0)),
 o0 3 (.box 37 3 (.s 1)),
 mB 4 false] []
 (.seq (sr [lS 13 3 3,
 c1 14 4 13,
 uN 15 14,
 mv 16 15,
 oF 17 16 (.load (some 12) (.s 2)),
 oF 18 16 (.call 5 [(.s 17)]),
 oF 19 16 (.un .not (.s 18)),
 pT 20 16 19,
 mv 21 20,
 oF 22 21 (fd 11 2),
 oF 23 21 (ld 22),
 oF 24 21 (.len (.s 23)),
 oF 25 21 (.bin .gtr (.s 24) (iC 30)),
 pT 26 21 25,
 mv 27 26,
 oF 28 27 (.load (some 12) (.s 2)),
 oF 29 27 (.call 6 [(.s 28)]),
 oF 30 27 (.un .not (.s 29)),
 pT 31 27 30] [13,14,15,16,17,18,19,20,21,22,23,24,25,26,27,28,29,30]
 (.cond (.s 31)
 (sr [c0 32 7,
 mv 4 32] [32]
 .ret)
 .skip))
 (sr [lS 34 12 2,
 lS 35 3 3,
 c2 36 8 34 35,
 mv 33 36,
 xt 37 33 0,
 xt 38 33 1,
 o0 5 (.new 33 [.nl,.nl,.nl,.nl,.nl,.nl,.nl,(.bool false),(.int .i64 0),.nl,.nl,.nl]),
 sT 12 5 37,
 mv 6 38] [34,35,36,33,37,38]
 (.seq (sr [mv 39 6,
 bI 40 .neq 39 0] [39]
 (.cond (.s 40)
 (sr [lS 41 12 5,
 o0 42 (.build [.nl,.nl,.nl,.nl,.nl,.nl,.nl,(.bool false),(.int .i64 0),.nl,.nl,.nl] []),
 c2 43 9 41 42,
 mv 44 43,
 ot 45 44 (.call 7 []),
 pF 46 44 45,
 mv 4 46] [41,42,43,44,45,46]
 .ret)
 .skip))
 (.seq (sr [lS 47 12 5,
 c1 48 6 47,
 uN 49 48] [47,48]
 (.cond (.s 49)
 (sr [lS 51 12 5,
 c1 52 10 51,
 mv 50 52,
 xt 53 50 0,
 xt 54 50 1,
 mv 7 53,
 mv 8 54] [51,52,50,53,54]
 (sr [mv 55 8,
 bI 56 .eql 55 6,
 mv 57 56,
 mt 58 7 57,
 ot 59 57 (.len (.s 58)),
 ot 60 57 (.bin .eql (.s 59) (iC 0)),
 pF 61 57 60,
 mv 62 61,
 ot 63 62 (.call 7 []),
 pF 64 62 63,
 mv 4 64] [55,56,57,58,59,60,61,62,63,64]
 .ret))
 .skip))
 (.seq (.reg [lS 66 12 5,
 o0 67 (.build [(.str []),.nl,.nl] []),
 c2 68 8 66 67,
 mv 65 68,
 xt 69 65 0,
 xt 70 65 1,
 o0 9 (.new 33 [.nl,.nl,.nl,.nl,.nl,.nl,.nl,(.bool false),(.int .i64 0),.nl,.nl,.nl]),
 sT 12 9 69,
 mv 10 70] [66,67,68,65,69,70])
 (.seq (.reg [lS 72 12 2,
 o0 73 (.build [(.str []),.nl,.nl] []),
 c2 74 8 72 73,
 mv 71 74,
 xt 75 71 0,
 xt 76 71 1,
 o0 11 (.new 33 [.nl,.nl,.nl,.nl,.nl,.nl,.nl,(.bool false),(.int .i64 0),.nl,.nl,.nl]),
 sT 12 11 75,
 mv 12 76] [72,73,74,71,75,76])
 (sr [mv 77 10,
 bI 78 .eql 77 0,
 mv 79 78,
 mt 80 12 79,
 ot 81 79 (.bin .eql (.s 80) (iC 0)),
 pF 82 79 81,
 mv 83 82,
 ot 84 83 (.load (some 12) (.s 9)),
 ot 85 83 (.load (some 12) (.s 11)),
 ot 86 83 (.call 9 [(.s 84),(.s 85)]),
 pF 87 83 86,
 mv 88 87,
 ot 89 88 (.call 7 []),
 pF 90 88 89,
 mv 4 90] [77,78,79,80,81,82,83,84,85,86,87,88,89,90]
 .ret))))))))⟩
theorem W1:ax Tryz.prog 3=some Mi:=by kernel_rfl
abbrev YR:FuncId:=3
def jx:aH :=
⟨38,1,[.tmp 2,.tmp 3],
 (sr [o0 1 (.box 37 3 (.s 0)),
 o0 2 (.mov (.c .nl)),
 mI 3 0] []
 (.seq (sr [lS 7 3 1,
 c1 8 34 7,
 mv 4 8] [7,8]
 (sr [mv 9 4,
 bI 10 .neq 9 0] [9]
 (.cond (.s 10)
 (sr [mv 11 4,
 o0 2 (.mov (.c .nl)),
 mv 3 11] [11]
 .ret)
 .skip)))
 (sr [c0 12 35,
 o0 5 (.new 88 [.np]),
 sT 1 5 12] [12]
 (sr [o0 13 (.mkf 36 [(.s 5)]),
 mv 6 13] [13]
 (.seq (sr [fa 14 0 1,
 lo 15 14,
 o0 16 (.bin .neq (.s 15) (.c (.str [])))] [14,15]
 (.cond (.s 16)
 (.reg [mv 17 6,
 o0 18 (.mkf 39 [(.s 1)]),
 o0 19 (.callv (.s 17) [(.c (.int .u8 0)),(.s 18)])] [17,18,19])
 .skip))
 (.seq (sr [fa 20 1 1,
 lo 21 20,
 ln 22 21,
 bI 23 .gtr 22 0] [20,21,22]
 (.cond (.s 23)
 (.reg [mv 24 6,
 o0 25 (.mkf 41 [(.s 1)]),
 o0 26 (.callv (.s 24) [(.c (.int .u8 1)),(.s 25)])] [24,25,26])
 .skip))
 (.seq (sr [fa 27 2 1,
 lo 28 27,
 ln 29 28,
 bI 30 .gtr 29 0] [27,28,29]
 (.cond (.s 30)
 (.reg [mv 31 6,
 o0 32 (.mkf 43 [(.s 1)]),
 o0 33 (.callv (.s 31) [(.c (.int .u8 2)),(.s 32)])] [31,32,33])
 .skip))
 (sr [lo 34 5,
 c1 35 45 34,
 xt 36 35 0,
 xt 37 35 1,
 mv 2 36,
 mv 3 37] [34,35,36,37]
 .ret))))))))⟩
theorem sN:ax Tryz.prog 11=some jx:=by kernel_rfl
abbrev tn:FuncId:=11
def BJ:aH :=
⟨9,2,[.tmp 4],
 (sr [o0 2 (.box 37 3 (.s 0)),
 o0 4 (.mov (.c (.str [])))] []
 (sr [fa 5 1 2,
 lo 6 5,
 mv 7 1,
 c2 8 55 6 7,
 mv 4 8] [5,6,7,8]
 .ret))⟩
theorem R4:ax Tryz.prog 13=some BJ:=by kernel_rfl
abbrev T8:FuncId:=13
def B5:aH :=
⟨44,1,[.cell 2 (some 12)],
 (sr [o0 1 (.box 33 12 (.s 0)),
 o0 2 (.new 33 [.nl,.nl,.nl,.nl,.nl,.nl,.nl,(.bool false),(.int .i64 0),.nl,.nl,.nl])] []
 (.seq (.reg [fa 3 0 1,
 lo 4 3,
 o0 5 (.call 56 [(.s 4),(.c (.fn 57 []))]),
 fa 6 0 1,
 sT 1 6 5] [3,4,5,6])
 (.seq (.seq (.draw [⟨fa 7 1 1,[]⟩,
 ⟨lo 8 7,[0]⟩,
 ⟨c1 9 59 8,[1,0]⟩,
 ⟨fa 10 3 1,[]⟩,
 ⟨lo 11 10,[3]⟩,
 ⟨c1 12 60 11,[4,3,2,1,0]⟩,
 ⟨fa 13 4 1,[]⟩,
 ⟨lo 14 13,[6]⟩,
 ⟨c1 15 61 14,[7,6,5,4,3,2,1,0]⟩,
 ⟨fa 16 6 1,[]⟩,
 ⟨lo 17 16,[9]⟩,
 ⟨c1 18 62 17,[10,9,8,7,6,5,4,3,2,1,0]⟩,
 ⟨fa 19 1 1,[0,1,2,3,4,6,7,9,10]⟩] [] [])
 (sr [sT 1 19 9] []
 (sr [fa 20 3 1] []
 (sr [sT 1 20 12] []
 (sr [fa 21 4 1] []
 (sr [sT 1 21 15] []
 (sr [fa 22 6 1] []
 (.reg [sT 1 22 18] [7,8,9,10,11,12,13,14,15,16,17,18,19,20,21,22]))))))))
 (.seq (.reg [fa 23 2 1,
 lo 24 23,
 o0 25 (.call 63 [(.s 24),(.c (.fn 64 []))]),
 fa 26 2 1,
 sT 1 26 25] [23,24,25,26])
 (.seq (.reg [fa 27 5 1,
 lo 28 27,
 o0 29 (.call 66 [(.s 28),(.c (.fn 67 []))]),
 fa 30 5 1,
 sT 1 30 29] [27,28,29,30])
 (.seq (.reg [fa 31 9 1,
 lo 32 31,
 o0 33 (.call 68 [(.s 32),(.c (.fn 69 []))]),
 fa 34 9 1,
 sT 1 34 33] [31,32,33,34])
 (.seq (.reg [fa 35 10 1,
 lo 36 35,
 o0 37 (.call 71 [(.s 36),(.c (.fn 72 []))]),
 fa 38 10 1,
 sT 1 38 37] [35,36,37,38])
 (.seq (.reg [fa 39 11 1,
 lo 40 39,
 o0 41 (.call 74 [(.s 40),(.c (.fn 75 []))]),
 fa 42 11 1,
 sT 1 42 41] [39,40,41,42])
 (sr [lS 43 12 1,
 sT 12 2 43] [43]
 .ret)))))))))⟩
theorem Sy:ax Tryz.prog 14=some B5:=by kernel_rfl
abbrev UA:FuncId:=14
def Cn:aH :=
⟨59,2,[.tmp 4],
 (sr [o0 2 (.box 33 12 (.s 0)),
 o0 3 (.box 33 12 (.s 1)),
 mB 4 false] []
 (.seq (sr [fa 7 3 2,
 lo 8 7,
 ln 9 8,
 fa 10 3 3,
 lo 11 10,
 ln 12 11,
 bS 13 .neq 9 12,
 mv 14 13,
 oF 15 14 (fd 4 2),
 oF 16 14 (ld 15),
 oF 17 14 (.len (.s 16)),
 oF 18 14 (fd 4 3),
 oF 19 14 (ld 18),
 oF 20 14 (.len (.s 19)),
 oF 21 14 (.bin .neq (.s 17) (.s 20)),
 pT 22 14 21] [7,8,9,10,11,12,13,14,15,16,17,18,19,20,21]
 (.cond (.s 22)
 (sr [mB 4 false] []
 .ret)
 .skip))
 (.seq (sr [mI 5 0] []
 (.block 0 (.loop (.seq (sr [mv 23 5,
 fa 24 3 2,
 lo 25 24,
 ln 26 25,
 bS 27 .lss 23 26] [23,24,25,26]
 (.cond (.s 27)
 .skip
 (.exit 0)))
 (.seq (.block 1 (.seq (.seq (.draw [⟨fa 30 3 2,[]⟩,
 ⟨lo 31 30,[0]⟩,
 ⟨mv 32 5,[]⟩,
 ⟨ia 33 4 31 32,[1,0,2]⟩,
 ⟨lS 34 4 33,[3,1,0,2]⟩,
 ⟨fa 35 3 3,[]⟩,
 ⟨lo 36 35,[5]⟩,
 ⟨mv 37 5,[]⟩,
 ⟨ia 38 4 36 37,[6,5,7]⟩,
 ⟨lS 39 4 38,[8,6,5,7]⟩] [] [])
 (.reg [o0 40 (.sbin .neq [.i,.i,.i,.b] (.s 34) (.s 39))] [30,31,32,33,34,35,36,37,38,39]))
 (.cond (.s 40)
 (sr [mB 4 false] []
 .ret)
 .skip)))
 (.reg [mv 28 5,
 bI 29 .add 28 1,
 mv 5 29] [28,29]))))))
 (.seq (sr [mI 6 0] []
 (.block 2 (.loop (.seq (sr [mv 41 6,
 fa 42 4 2,
 lo 43 42,
 ln 44 43,
 bS 45 .lss 41 44] [41,42,43,44]
 (.cond (.s 45)
 .skip
 (.exit 2)))
 (.seq (.block 3 (.seq (.seq (.draw [⟨fa 48 4 2,[]⟩,
 ⟨lo 49 48,[0]⟩,
 ⟨mv 50 6,[]⟩,
 ⟨ia 51 3 49 50,[1,0,2]⟩,
 ⟨lS 52 3 51,[3,1,0,2]⟩,
 ⟨fa 53 4 3,[]⟩,
 ⟨lo 54 53,[5]⟩,
 ⟨mv 55 6,[]⟩,
 ⟨ia 56 3 54 55,[6,5,7]⟩,
 ⟨lS 57 3 56,[8,6,5,7]⟩] [] [])
 (.reg [o0 58 (.sbin .neq [.i,.i,.b] (.s 52) (.s 57))] [48,49,50,51,52,53,54,55,56,57]))
 (.cond (.s 58)
 (sr [mB 4 false] []
 .ret)
 .skip)))
 (.reg [mv 46 6,
 bI 47 .add 46 1,
 mv 6 47] [46,47]))))))
 (sr [mB 4 true] []
 .ret)))))⟩
theorem Xj:ax Tryz.prog 19=some Cn:=by kernel_rfl
abbrev Y_:FuncId:=19
def GY:aH :=
⟨56,2,[.tmp 4],
 (sr [mB 4 false] []
 (.seq (sr [mv 6 0,
 ln 7 6,
 mv 8 1,
 ln 9 8,
 bS 10 .neq 7 9] [6,7,8,9]
 (.cond (.s 10)
 (sr [mB 4 false] []
 .ret)
 .skip))
 (.seq (sr [mI 5 0] []
 (.block 0 (.loop (.seq (sr [mv 11 5,
 mv 12 0,
 ln 13 12,
 bS 14 .lss 11 13] [11,12,13]
 (.cond (.s 14)
 .skip
 (.exit 0)))
 (.seq (.block 1 (.seq (.seq (.draw [⟨mv 17 0,[]⟩,
 ⟨mv 18 5,[]⟩,
 ⟨ia 19 3 17 18,[0,1]⟩,
 ⟨fa 20 0 19,[2,0,1]⟩,
 ⟨lo 21 20,[3,2,0,1]⟩,
 ⟨mv 22 1,[]⟩,
 ⟨mv 23 5,[]⟩,
 ⟨ia 24 3 22 23,[5,6]⟩,
 ⟨fa 25 0 24,[7,5,6]⟩,
 ⟨lo 26 25,[8,7,5,6]⟩] [] [])
 (sr [bS 27 .neq 21 26] []
 (sr [mv 28 27] []
 (.seq (.draw [⟨mf 29 0 28,[]⟩,
 ⟨mf 30 5 28,[]⟩,
 ⟨oF 31 28 (.iadr 3 (.s 29) (.s 30)),[0,1]⟩,
 ⟨oF 32 28 (fd 1 31),[2,0,1]⟩,
 ⟨oF 33 28 (ld 32),[3,2,0,1]⟩,
 ⟨mf 34 1 28,[]⟩,
 ⟨mf 35 5 28,[]⟩,
 ⟨oF 36 28 (.iadr 3 (.s 34) (.s 35)),[5,6]⟩,
 ⟨oF 37 28 (fd 1 36),[7,5,6]⟩,
 ⟨oF 38 28 (ld 37),[8,7,5,6]⟩] [] [])
 (sr [oF 39 28 (.bin .neq (.s 33) (.s 38))] []
 (sr [pT 40 28 39] []
 (sr [mv 41 40] []
 (.seq (.draw [⟨mf 42 0 41,[]⟩,
 ⟨mf 43 5 41,[]⟩,
 ⟨oF 44 41 (.iadr 3 (.s 42) (.s 43)),[0,1]⟩,
 ⟨oF 45 41 (fd 2 44),[2,0,1]⟩,
 ⟨oF 46 41 (ld 45),[3,2,0,1]⟩,
 ⟨oF 47 41 (.cvs (.s 46)),[4,3,2,0,1]⟩,
 ⟨mf 48 1 41,[]⟩,
 ⟨mf 49 5 41,[]⟩,
 ⟨oF 50 41 (.iadr 3 (.s 48) (.s 49)),[6,7]⟩,
 ⟨oF 51 41 (fd 2 50),[8,6,7]⟩,
 ⟨oF 52 41 (ld 51),[9,8,6,7]⟩,
 ⟨oF 53 41 (.cvs (.s 52)),[10,9,8,6,7]⟩] [] [])
 (sr [oF 54 41 (.bin .neq (.s 47) (.s 53))] []
 (.reg [pT 55 41 54] [17,18,19,20,21,22,23,24,25,26,27,28,29,30,31,32,33,34,35,36,37,38,39,40,41,42,43,44,45,46,47,48,49,50,51,52,53,54]))))))))))
 (.cond (.s 55)
 (sr [mB 4 false] []
 .ret)
 .skip)))
 (.reg [mv 15 5,
 bI 16 .add 15 1,
 mv 5 16] [15,16]))))))
 (sr [mB 4 true] []
 .ret))))⟩
theorem Xb:ax Tryz.prog 24=some GY:=by kernel_rfl
abbrev Y2:FuncId:=24
def MR:aH :=
⟨44,1,[.tmp 2],
 (sr [o0 1 (.box 33 12 (.s 0)),
 mB 2 false] []
 (sr [lS 6 12 1,
 c1 7 29 6,
 mv 3 7] [6,7]
 (.seq (sr [mI 4 0] []
 (.block 0 (.loop (.seq (sr [mv 8 4,
 fa 9 11 1,
 lo 10 9,
 ln 11 10,
 bS 12 .lss 8 11] [8,9,10,11]
 (.cond (.s 12)
 .skip
 (.exit 0)))
 (.seq (.block 1 (sr [fa 15 11 1,
 lo 16 15,
 mv 17 4,
 ia 18 3 16 17,
 fa 19 0 18,
 lo 20 19,
 mv 5 20] [15,16,17,18,19,20]
 (sr [mv 21 5,
 bI 22 .neq 21 0,
 mv 23 22,
 mt 24 3 23,
 mt 25 5 23,
 ot 26 23 (.call 93 [(.s 24),(.s 25)]),
 ot 27 23 (.un .not (.s 26)),
 pF 28 23 27,
 mv 29 28,
 mf 30 4 29,
 oF 31 29 (.bin .gtr (.s 30) (iC 0)),
 mf 32 31 29,
 mt 33 5 32,
 ot 34 32 (fd 11 1),
 ot 35 32 (ld 34),
 mt 36 4 32,
 ot 37 32 (.bin .sub (.s 36) (iC 1)),
 ot 38 32 (.iadr 3 (.s 35) (.s 37)),
 ot 39 32 (fd 0 38),
 ot 40 32 (ld 39),
 ot 41 32 (.bin .lss (.s 33) (.s 40)),
 oF 42 29 (.pick (.s 32) (.s 41) (bC false)),
 pT 43 29 42] [21,22,23,24,25,26,27,28,29,30,31,32,33,34,35,36,37,38,39,40,41,42]
 (.cond (.s 43)
 (sr [mB 2 false] []
 .ret)
 .skip))))
 (.reg [mv 13 4,
 bI 14 .add 13 1,
 mv 4 14] [13,14]))))))
 (sr [mB 2 true] []
 .ret))))⟩
theorem XO:ax Tryz.prog 27=some MR:=by kernel_rfl
abbrev Zy:FuncId:=27
def xN:aH :=
⟨11,1,[.tmp 2,.tmp 3],
 (sr [o0 1 (.box 81 2 (.s 0)),
 o0 2 (.mov (.c .nl)),
 mI 3 0] []
 (.seq (sr [fa 4 1 1,
 lo 5 4,
 bI 6 .neq 5 0] [4,5]
 (.cond (.s 6)
 (.seq (.seq (.draw [⟨fa 7 1 1,[]⟩,
 ⟨lo 8 7,[0]⟩,
 ⟨o0 2 (.mov (.c .nl)),[]⟩] [] [])
 (.reg [mv 3 8] [7,8]))
 .ret)
 .skip))
 (sr [fa 9 0 1,
 lo 10 9,
 mv 2 10,
 mI 3 0] [9,10]
 .ret)))⟩
theorem Sc:ax Tryz.prog 30=some xN:=by kernel_rfl
abbrev Uf:FuncId:=30
def Ci:aH :=
⟨13,1,[.tmp 2],
 (sr [mI 2 0] []
 (.seq (sr [mI 3 1] []
 (.block 0 (.loop (.seq (sr [mv 4 3,
 bI 5 .leq 4 12] [4]
 (.cond (.s 5)
 .skip
 (.exit 0)))
 (.seq (.block 1 (sr [mv 8 3,
 c1 9 102 8,
 mv 10 0,
 bS 11 .eql 9 10] [8,9,10]
 (.cond (.s 11)
 (sr [mv 12 3,
 mv 2 12] [12]
 .ret)
 .skip)))
 (.reg [mv 6 3,
 bI 7 .add 6 1,
 mv 3 7] [6,7]))))))
 (sr [mI 2 0] []
 .ret)))⟩
theorem SS:ax Tryz.prog 32=some Ci:=by kernel_rfl
abbrev US:FuncId:=32
def BZ:aH :=
⟨88,1,[.tmp 2,.tmp 3],
 (sr [o0 2 (.mov (.c .nl)),
 mI 3 0] []
 (sr [o0 9 (.build [.nl,(.int .i64 0)] []),
 c0 10 104,
 c2 11 103 9 10,
 o0 4 (.new 81 [.nl,(.int .i64 0)]),
 sT 2 4 11] [9,10,11]
 (sr [mI 5 0] []
 (.seq (sr [mI 6 0] []
 (.block 0 (.loop (.seq (sr [mv 12 6,
 mv 13 0,
 ln 14 13,
 bS 15 .lss 12 14] [12,13,14]
 (.cond (.s 15)
 .skip
 (.exit 0)))
 (.seq (.block 1 (.seq (.reg [mv 18 0,
 mv 19 6,
 ia 20 3 18 19,
 lS 21 3 20,
 o0 7 (.new 85 [(.int .i64 0),(.str []),.nl]),
 sT 3 7 21] [18,19,20,21])
 (.seq (sr [fa 22 0 7,
 lo 23 22,
 bI 24 .lss 23 0,
 mv 25 24,
 oF 26 25 (fd 0 7),
 oF 27 25 (ld 26),
 oF 28 25 (.bin .gtr (.s 27) (iC 12)),
 pT 29 25 28,
 mv 30 29,
 oF 31 30 (fd 0 7),
 oF 32 30 (ld 31),
 oF 33 30 (.bin .neq (.s 32) (iC 0)),
 mf 34 33 30,
 ot 35 34 (fd 1 7),
 ot 36 34 (ld 35),
 ot 37 34 (.bin .neq (.s 36) (.c (.str []))),
 oF 38 30 (.pick (.s 34) (.s 37) (bC false)),
 pT 39 30 38] [22,23,24,25,26,27,28,29,30,31,32,33,34,35,36,37,38]
 (.cond (.s 39)
 (sr [o0 2 (.mov (.c .nl)),
 mI 3 4] []
 .ret)
 .skip))
 (.seq (sr [fa 40 0 7,
 lo 41 40,
 bI 42 .neq 41 0,
 mv 43 42,
 ot 44 43 (fd 0 7),
 ot 45 43 (ld 44),
 ot 46 43 (.call 102 [(.s 45)]),
 mt 47 5 43,
 ot 48 43 (.bin .leq (.s 46) (.s 47)),
 pF 49 43 48] [40,41,42,43,44,45,46,47,48]
 (.cond (.s 49)
 (sr [o0 2 (.mov (.c .nl)),
 mI 3 7] []
 .ret)
 .skip))
 (sr [mv 50 5,
 fa 51 0 7,
 lo 52 51,
 c1 53 102 52,
 o0 54 (.mnx true (.s 50) (.s 53)),
 mv 5 54] [50,51,52,53,54]
 (sr [o0 55 (.build [.nl,(.int .i64 0)] []),
 o0 8 (.new 81 [.nl,(.int .i64 0)]),
 sT 2 8 55] [55]
 (.seq (sr [fa 56 0 7,
 lo 57 56,
 bI 58 .eql 57 0] [56,57]
 (.cond (.s 58)
 (.reg [lS 59 2 8,
 fa 60 1 7,
 lo 61 60,
 c2 62 105 59 61,
 sT 2 8 62] [59,60,61,62])
 .skip))
 (.seq (sr [fa 63 1 8,
 lo 64 63,
 bI 65 .neq 64 0] [63,64]
 (.cond (.s 65)
 (.seq (.seq (.draw [⟨fa 66 1 8,[]⟩,
 ⟨lo 67 66,[0]⟩,
 ⟨o0 2 (.mov (.c .nl)),[]⟩] [] [])
 (.reg [mv 3 67] [66,67]))
 .ret)
 .skip))
 (sr [lS 68 2 8,
 fa 69 2 7,
 lo 70 69,
 c2 71 103 68 70,
 sT 2 8 71] [68,69,70,71]
 (sr [lS 72 2 4,
 fa 73 0 7,
 lo 74 73,
 o0 75 (.cvi .u8 (.s 74)),
 c2 76 106 72 75,
 sT 2 4 76] [72,73,74,75,76]
 (.reg [lS 77 2 4,
 lS 78 2 8,
 c2 79 107 77 78,
 sT 2 4 79] [77,78,79])))))))))))
 (.reg [mv 16 6,
 bI 17 .add 16 1,
 mv 6 17] [16,17]))))))
 (.seq (sr [fa 80 0 4,
 lo 81 80,
 ln 82 81,
 bI 83 .gtr 82 262144] [80,81,82]
 (.cond (.s 83)
 (sr [o0 2 (.mov (.c .nl)),
 mI 3 6] []
 .ret)
 .skip))
 (.seq (.seq (.draw [⟨fa 84 0 4,[]⟩,
 ⟨lo 85 84,[0]⟩,
 ⟨fa 86 1 4,[]⟩,
 ⟨lo 87 86,[2]⟩,
 ⟨mv 2 85,[1,0]⟩] [] [])
 (.reg [mv 3 87] [84,85,86,87]))
 .ret))))))⟩
theorem Sr:ax Tryz.prog 33=some BZ:=by kernel_rfl
abbrev Uu:FuncId:=33
def Mu:aH :=
⟨7,2,[],
 (.reg [mv 3 0,
 fa 4 0 1,
 lo 5 4,
 c2 6 40 3 5] [3,4,5,6])⟩
theorem Xp:ax Tryz.prog 39=some Mu:=by kernel_rfl
abbrev Zf:FuncId:=39
def Mh:aH :=
⟨24,2,[],
 (.block 0 (sr [mv 13 1,
 c1 14 113 13,
 uN 15 14,
 mv 12 15] [13,14,15]
 (.cond (.s 12)
 (.reg [mv 16 0,
 o0 17 (.call 112 [(.s 16),(iC 9)])] [16,17])
 (sr [mv 19 1,
 o0 20 (.slen (.s 19)),
 bI 21 .gtr 20 64,
 mv 18 21] [19,20,21]
 (.cond (.s 18)
 (.reg [mv 22 0,
 o0 23 (.call 112 [(.s 22),(iC 6)])] [22,23])
 (sr [mv 4 0,
 mv 5 1,
 o0 6 (.slen (.s 5)),
 c2 7 44 4 6] [4,5,6,7]
 (.reg [mv 8 0,
 mv 9 1,
 o0 10 (.cvb 5 (.s 9)),
 c2 11 111 8 10] [8,9,10,11])))))))⟩
theorem WZ:ax Tryz.prog 40=some Mh:=by kernel_rfl
abbrev UU:FuncId:=40
def Cm:aH :=
⟨17,2,[],
 (.seq (sr [mv 4 1,
 bI 5 .lss 4 0,
 mv 6 5,
 mf 7 1 6,
 oF 8 6 (.bin .gtr (.s 7) (iC 4294967295)),
 pT 9 6 8] [4,5,6,7,8]
 (.cond (.s 9)
 (sr [mv 10 0,
 o0 11 (.call 112 [(.s 10),(iC 1)])] [10,11]
 .ret)
 .skip))
 (.reg [mv 12 0,
 mv 13 1,
 o0 14 (.cvi .u64 (.s 13)),
 o0 15 (.call 114 [(.c .nl),(.s 14)]),
 c2 16 111 12 15] [12,13,14,15,16]))⟩
theorem Xa:ax Tryz.prog 44=some Cm:=by kernel_rfl
abbrev UV:FuncId:=44
def Mb:aH :=
⟨16,1,[.tmp 2],
 (sr [mI 2 0] []
 (.seq (sr [mv 3 0,
 c1 4 115 3,
 uN 5 4] [3,4]
 (.cond (.s 5)
 (sr [mI 2 0] []
 .ret)
 .skip))
 (.seq (.seq (.draw [⟨mv 6 0,[]⟩,
 ⟨nk 7 6,[0]⟩,
 ⟨fa 8 1 7,[1,0]⟩,
 ⟨lo 9 8,[2,1,0]⟩,
 ⟨ln 10 9,[3,2,1,0]⟩,
 ⟨mv 11 0,[]⟩,
 ⟨nk 12 11,[5]⟩,
 ⟨fa 13 2 12,[6,5]⟩,
 ⟨lo 14 13,[7,6,5]⟩] [] [])
 (sr [bS 15 .sub 10 14] []
 (.reg [mv 2 15] [6,7,8,9,10,11,12,13,14,15])))
 .ret)))⟩
theorem WT:ax Tryz.prog 47=some Mb:=by kernel_rfl
abbrev YK:FuncId:=47
def Mp:aH :=
⟨6,1,[.tmp 2],
 (sr [mI 2 0] []
 (sr [mv 3 0,
 o0 4 (.call 117 [(.s 3),(iC 32)]),
 o0 5 (.cvi .i64 (.s 4)),
 mv 2 5] [3,4,5]
 .ret))⟩
theorem W9:ax Tryz.prog 50=some Mp:=by kernel_rfl
abbrev Y0:FuncId:=50
def MU:aH :=
⟨45,1,[.tmp 2],
 (sr [o0 2 (.mov (.c .nl))] []
 (sr [o0 3 (.mov (.c .nl))] []
 (.seq (sr [mv 6 0,
 o0 7 (.call 118 [(.s 6),(iC 64)]),
 mv 4 7] [6,7]
 (.block 0 (.loop (.seq (sr [mv 8 4,
 bI 9 .gtr 8 0,
 mv 10 9,
 mt 11 0 10,
 ot 12 10 (.call 120 [(.s 11)]),
 ot 13 10 (.bin .eql (.s 12) (iC 0)),
 pF 14 10 13] [8,9,10,11,12,13]
 (.cond (.s 14)
 .skip
 (.exit 0)))
 (.seq (.block 1 (sr [mv 17 0,
 c1 18 50 17,
 o0 19 (.build [(.int .i64 0),.nl] [(0,1,(.s 18))]),
 o0 5 (.new 50 [(.int .i64 0),.nl]),
 sT 2 5 19] [17,18,19]
 (.seq (.seq (sr [mv 20 3] []
 (sr [ln 21 20] []
 (sr [bI 22 .gtr 21 0] []
 (sr [mv 23 22] []
 (.seq (.draw [⟨ot 24 23 (fd 0 5),[]⟩,
 ⟨ot 25 23 (ld 24),[0]⟩,
 ⟨mt 26 3 23,[]⟩,
 ⟨mt 27 3 23,[]⟩,
 ⟨ot 28 23 (.len (.s 27)),[3]⟩,
 ⟨ot 29 23 (.bin .sub (.s 28) (iC 1)),[4,3]⟩,
 ⟨ot 30 23 (.iadr 2 (.s 26) (.s 29)),[2,5,4,3]⟩,
 ⟨ot 31 23 (fd 0 30),[6,2,5,4,3]⟩,
 ⟨ot 32 23 (ld 31),[7,6,2,5,4,3]⟩] [] [])
 (sr [ot 33 23 (.bin .leq (.s 25) (.s 32))] []
 (.reg [pF 34 23 33] [20,21,22,23,24,25,26,27,28,29,30,31,32,33])))))))
 (.cond (.s 34)
 (.reg [mv 35 0,
 o0 36 (.call 119 [(.s 35),(iC 7)])] [35,36])
 .skip))
 (sr [mv 37 0,
 o0 38 (.call 52 [(.s 37),(iC 72)]),
 fa 39 1 5,
 sT 1 39 38] [37,38,39]
 (.reg [mv 40 3,
 lS 41 2 5,
 o0 42 (.bsl 50 2 [[(.int .i64 0),.nl]] [(0,(.s 41))]),
 o0 43 (.app 50 2 (.s 40) (.s 42)),
 mv 3 43] [40,41,42,43])))))
 (.reg [mv 15 4,
 bI 16 .sub 15 1,
 mv 4 16] [15,16]))))))
 (sr [mv 44 3,
 mv 2 44] [44]
 .ret))))⟩
theorem XS:ax Tryz.prog 53=some MU:=by kernel_rfl
abbrev ZC:FuncId:=53
def Wm:aH :=
⟨8,1,[.tmp 2],
 (sr [o0 2 (.mov (.c .nl))] []
 (.seq (sr [mv 3 0,
 o0 4 (.snl false (.s 3))] [3]
 (.cond (.s 4)
 (sr [o0 2 (.mov (.c .nl))] []
 .ret)
 .skip))
 (sr [o0 5 (.bsl 52 1 [] []),
 mv 6 0,
 o0 7 (.app 52 1 (.s 5) (.s 6)),
 mv 2 7] [5,6,7]
 .ret)))⟩
theorem cX4:ax Tryz.prog 58=some Wm:=by kernel_rfl
abbrev nX4:FuncId:=58
def Wj:aH :=
⟨8,1,[.tmp 2],
 (sr [o0 2 (.mov (.c .nl))] []
 (.seq (sr [mv 3 0,
 o0 4 (.snl false (.s 3))] [3]
 (.cond (.s 4)
 (sr [o0 2 (.mov (.c .nl))] []
 .ret)
 .skip))
 (sr [o0 5 (.bsl 116 3 [] []),
 mv 6 0,
 o0 7 (.app 116 3 (.s 5) (.s 6)),
 mv 2 7] [5,6,7]
 .ret)))⟩
theorem cX2:ax Tryz.prog 61=some Wj:=by kernel_rfl
abbrev nX2:FuncId:=61
def B6:aH :=
⟨5,1,[.tmp 2],
 (sr [o0 2 (.mov (.c .nl))] []
 (.seq (.reg [mv 3 0,
 o0 4 (.call 121 [(.s 3),(.c (.fn 122 []))]),
 mv 2 4] [3,4])
 .ret))⟩
theorem Sz:ax Tryz.prog 65=some B6:=by kernel_rfl
abbrev EW:FuncId:=65
def Bp:aH :=
⟨9,1,[.cell 2 (some 3)],
 (sr [o0 1 (.box 135 3 (.s 0)),
 o0 2 (.new 135 [(.int .i64 0),(.bool false),.nl])] []
 (.seq (.seq (.draw [⟨fa 3 0 1,[]⟩,
 ⟨lS 4 2 3,[0]⟩,
 ⟨fa 5 2 1,[]⟩,
 ⟨lo 6 5,[2]⟩,
 ⟨c1 7 65 6,[3,2]⟩] [] [])
 (sr [o0 8 (.build [(.int .i64 0),(.bool false),.nl] [(0,2,(.s 4)),(2,1,(.s 7))])] []
 (.reg [sT 3 2 8] [3,4,5,6,7,8])))
 .ret))⟩
theorem Rw:ax Tryz.prog 67=some Bp:=by kernel_rfl
abbrev ER:FuncId:=67
def Wq:aH :=
⟨22,2,[.tmp 4],
 (sr [o0 4 (.mov (.c .nl))] []
 (sr [o0 5 (.mov (.c .nl))] []
 (.seq (sr [mv 8 0,
 ln 9 8,
 mI 10 0] []
 (.block 0 (.loop (sr [bS 11 .lss 10 9] []
 (.seq (.cond (.s 11)
 .skip
 (.exit 0))
 (.seq (.block 1 (sr [ia 12 1 8 10,
 lo 13 12,
 mv 7 13] [12,13]
 (.reg [mv 14 5,
 mv 15 1,
 mv 16 7,
 o0 17 (.callv (.s 15) [(.s 16)]),
 o0 18 (.bsl 51 1 [[.nl]] [(0,(.s 17))]),
 o0 19 (.app 51 1 (.s 14) (.s 18)),
 mv 5 19] [14,15,16,17,18,19])))
 (.reg [bI 20 .add 10 1,
 mv 10 20] [20])))))))
 (sr [mv 21 5,
 mv 4 21] [21]
 .ret))))⟩
theorem cX9:ax Tryz.prog 70=some Wq:=by kernel_rfl
abbrev nX9:FuncId:=70
def L5:aH :=
⟨22,2,[.tmp 4],
 (sr [o0 4 (.mov (.c .nl))] []
 (sr [o0 5 (.mov (.c .nl))] []
 (.seq (sr [mv 8 0,
 ln 9 8,
 mI 10 0] []
 (.block 0 (.loop (sr [bS 11 .lss 10 9] []
 (.seq (.cond (.s 11)
 .skip
 (.exit 0))
 (.seq (.block 1 (.seq (.reg [ia 12 3 8 10,
 lS 13 3 12,
 o0 7 (.new 61 [(.int .i64 0),(.str []),.nl]),
 sT 3 7 13] [12,13])
 (.reg [mv 14 5,
 mv 15 1,
 lS 16 3 7,
 o0 17 (.callv (.s 15) [(.s 16)]),
 o0 18 (.bsl 61 3 [[(.int .i64 0),(.str []),.nl]] [(0,(.s 17))]),
 o0 19 (.app 61 3 (.s 14) (.s 18)),
 mv 5 19] [14,15,16,17,18,19])))
 (.reg [bI 20 .add 10 1,
 mv 10 20] [20])))))))
 (sr [mv 21 5,
 mv 4 21] [21]
 .ret))))⟩
theorem WJ:ax Tryz.prog 74=some L5:=by kernel_rfl
abbrev YC:FuncId:=74
def BD:aH :=
⟨51,1,[.cell 2 (some 4)],
 (sr [o0 1 (.box 33 12 (.s 0)),
 o0 2 (.new 73 [(.int .i64 0),(.int .i64 0),(.int .i64 0),(.int .i64 0)])] []
 (sr [fa 6 0 1,
 lo 7 6,
 ln 8 7,
 o0 9 (.call 125 [(iC 1),(.s 8),(iC 64)]),
 o0 3 (.new 73 [(.int .i64 0),(.int .i64 0),(.int .i64 0),(.int .i64 0)]),
 sT 4 3 9] [6,7,8,9]
 (.seq (sr [mI 4 0] []
 (.block 0 (.loop (.seq (sr [mv 10 4,
 fa 11 0 1,
 lo 12 11,
 ln 13 12,
 bS 14 .lss 10 13,
 mv 15 14,
 ot 16 15 (.load (some 4) (.s 3)),
 ot 17 15 (.call 91 [(.s 16)]),
 pF 18 15 17] [10,11,12,13,14,15,16,17]
 (.cond (.s 18)
 .skip
 (.exit 0)))
 (.seq (.block 1 (sr [fa 21 0 1,
 lo 22 21,
 mv 23 4,
 ia 24 2 22 23,
 lS 25 2 24,
 o0 5 (.new 110 [.nl,.nl]),
 sT 2 5 25] [21,22,23,24,25]
 (sr [fa 26 0 5,
 lo 27 26,
 ln 28 27,
 bI 29 .gtr 28 8,
 mv 30 29,
 oF 31 30 (fd 1 5),
 oF 32 30 (ld 31),
 oF 33 30 (.len (.s 32)),
 oF 34 30 (.bin .gtr (.s 33) (iC 8)),
 pT 35 30 34] [26,27,28,29,30,31,32,33,34]
 (.cond (.s 35)
 (.reg [mv 36 4,
 o0 37 (.call 126 [(iC 1),(.s 36),(iC 6)]),
 sT 4 3 37] [36,37])
 (sr [fa 38 0 5,
 lo 39 38,
 c1 40 127 39,
 uN 41 40,
 mv 42 41,
 oF 43 42 (fd 1 5),
 oF 44 42 (ld 43),
 oF 45 42 (.call 127 [(.s 44)]),
 oF 46 42 (.un .not (.s 45)),
 pT 47 42 46] [38,39,40,41,42,43,44,45,46]
 (.cond (.s 47)
 (.reg [mv 48 4,
 o0 49 (.call 126 [(iC 1),(.s 48),(iC 12)]),
 sT 4 3 49] [48,49])
 .skip))))))
 (.reg [mv 19 4,
 bI 20 .add 19 1,
 mv 4 20] [19,20]))))))
 (sr [lS 50 4 3,
 sT 4 2 50] [50]
 .ret))))⟩
theorem RU:ax Tryz.prog 79=some BD:=by kernel_rfl
abbrev TZ:FuncId:=79
def MM:aH :=
⟨56,1,[.cell 2 (some 4)],
 (sr [o0 1 (.box 33 12 (.s 0)),
 o0 2 (.new 73 [(.int .i64 0),(.int .i64 0),(.int .i64 0),(.int .i64 0)])] []
 (sr [fa 6 6 1,
 lo 7 6,
 ln 8 7,
 o0 9 (.call 125 [(iC 7),(.s 8),(iC 64)]),
 o0 3 (.new 73 [(.int .i64 0),(.int .i64 0),(.int .i64 0),(.int .i64 0)]),
 sT 4 3 9] [6,7,8,9]
 (.seq (sr [mI 4 0] []
 (.block 0 (.loop (.seq (sr [mv 10 4,
 fa 11 6 1,
 lo 12 11,
 ln 13 12,
 bS 14 .lss 10 13,
 mv 15 14,
 ot 16 15 (.load (some 4) (.s 3)),
 ot 17 15 (.call 91 [(.s 16)]),
 pF 18 15 17] [10,11,12,13,14,15,16,17]
 (.cond (.s 18)
 .skip
 (.exit 0)))
 (.seq (.block 1 (.seq (.reg [fa 21 6 1,
 lo 22 21,
 mv 23 4,
 ia 24 3 22 23,
 lS 25 3 24,
 o0 5 (.new 127 [(.str []),(.int .i64 0),(.int .i64 0)]),
 sT 3 5 25] [21,22,23,24,25])
 (sr [mv 26 4,
 fa 27 0 5,
 lo 28 27,
 c1 29 128 28,
 o0 30 (.call 126 [(iC 7),(.s 26),(.s 29)]),
 sT 4 3 30] [26,27,28,29,30]
 (.seq (sr [lS 31 4 3,
 c1 32 91 31,
 mv 33 32,
 ot 34 33 (fd 1 5),
 ot 35 33 (ld 34),
 ot 36 33 (.bin .lss (.s 35) (iC 0)),
 mt 37 36 33,
 oF 38 37 (fd 1 5),
 oF 39 37 (ld 38),
 oF 40 37 (.bin .gtr (.s 39) (iC 3)),
 ot 41 33 (.pick (.s 37) (bC true) (.s 40)),
 pF 42 33 41] [31,32,33,34,35,36,37,38,39,40,41]
 (.cond (.s 42)
 (.reg [mv 43 4,
 o0 44 (.call 126 [(iC 7),(.s 43),(iC 1)]),
 sT 4 3 44] [43,44])
 .skip))
 (sr [lS 45 4 3,
 c1 46 91 45,
 mv 47 46,
 ot 48 47 (fd 2 5),
 ot 49 47 (ld 48),
 ot 50 47 (.call 131 [(.s 49)]),
 ot 51 47 (.un .not (.s 50)),
 pF 52 47 51] [45,46,47,48,49,50,51]
 (.cond (.s 52)
 (.reg [mv 53 4,
 o0 54 (.call 126 [(iC 7),(.s 53),(iC 11)]),
 sT 4 3 54] [53,54])
 .skip))))))
 (.reg [mv 19 4,
 bI 20 .add 19 1,
 mv 4 20] [19,20]))))))
 (sr [lS 55 4 3,
 sT 4 2 55] [55]
 .ret))))⟩
theorem XJ:ax Tryz.prog 85=some MM:=by kernel_rfl
abbrev Zt:FuncId:=85
def M1:aH :=
⟨26,1,[.cell 2 (some 4)],
 (sr [o0 1 (.box 33 12 (.s 0)),
 o0 2 (.new 73 [(.int .i64 0),(.int .i64 0),(.int .i64 0),(.int .i64 0)])] []
 (sr [o0 5 (.build [(.int .i64 0),(.int .i64 0),(.int .i64 0),(.int .i64 0)] []),
 o0 3 (.new 73 [(.int .i64 0),(.int .i64 0),(.int .i64 0),(.int .i64 0)]),
 sT 4 3 5] [5]
 (.seq (sr [mI 4 0] []
 (.block 0 (.loop (.seq (sr [mv 6 4,
 fa 7 2 1,
 lo 8 7,
 ln 9 8,
 bS 10 .lss 6 9,
 mv 11 10,
 ot 12 11 (.load (some 4) (.s 3)),
 ot 13 11 (.call 91 [(.s 12)]),
 pF 14 11 13] [6,7,8,9,10,11,12,13]
 (.cond (.s 14)
 .skip
 (.exit 0)))
 (.seq (.block 1 (.reg [mv 17 4,
 fa 18 2 1,
 lo 19 18,
 mv 20 4,
 ia 21 3 19 20,
 fa 22 2 21,
 lo 23 22,
 o0 24 (.call 135 [(iC 12),(.s 17),(.s 23)]),
 sT 4 3 24] [17,18,19,20,21,22,23,24]))
 (.reg [mv 15 4,
 bI 16 .add 15 1,
 mv 4 16] [15,16]))))))
 (sr [lS 25 4 3,
 sT 4 2 25] [25]
 .ret))))⟩
theorem X2:ax Tryz.prog 90=some M1:=by kernel_rfl
abbrev ZJ:FuncId:=90
def BE:aH :=
⟨71,1,[.tmp 2,.tmp 3],
 (sr [mI 2 0,
 mI 3 0] []
 (.seq (sr [mI 4 0] []
 (.block 0 (.loop (.seq (sr [mv 7 4,
 mv 8 0,
 ln 9 8,
 bS 10 .lss 7 9] [7,8,9]
 (.cond (.s 10)
 .skip
 (.exit 0)))
 (.seq (.block 1 (sr [mv 13 0,
 mv 14 4,
 c2 15 137 13 14,
 mv 5 15] [13,14,15]
 (.seq (sr [mv 16 5,
 ln 17 16,
 bI 18 .eql 17 0] [16,17]
 (.cond (.s 18)
 (sr [mv 19 4,
 mv 2 19,
 mI 3 16] [19]
 .ret)
 .skip))
 (sr [mv 20 5,
 mv 21 5,
 ln 22 21,
 bI 23 .sub 22 1,
 ia 24 1 20 23,
 lo 25 24,
 mv 6 25] [20,21,22,23,24,25]
 (.seq (sr [mv 26 0,
 mv 27 4,
 ia 28 9 26 27,
 fa 29 0 28,
 lo 30 29,
 bI 31 .eql 30 5,
 mv 32 31,
 mt 33 6 32,
 ot 34 32 (.bin .lss (.s 33) (iC 0)),
 mt 35 34 32,
 mf 36 0 35,
 mf 37 6 35,
 oF 38 35 (.iadr 9 (.s 36) (.s 37)),
 oF 39 35 (fd 0 38),
 oF 40 35 (ld 39),
 oF 41 35 (.bin .neq (.s 40) (iC 4)),
 ot 42 32 (.pick (.s 35) (bC true) (.s 41)),
 mt 43 42 32,
 mf 44 0 43,
 mf 45 6 43,
 mf 46 4 43,
 oF 47 43 (.call 138 [(.s 44),(.s 45),(.s 46)]),
 ot 48 32 (.pick (.s 43) (bC true) (.s 47)),
 pF 49 32 48] [26,27,28,29,30,31,32,33,34,35,36,37,38,39,40,41,42,43,44,45,46,47,48]
 (.cond (.s 49)
 (sr [mv 50 4,
 mv 2 50,
 mI 3 16] [50]
 .ret)
 .skip))
 (sr [mv 51 0,
 mv 52 4,
 ia 53 9 51 52,
 fa 54 0 53,
 lo 55 54,
 c1 56 139 55,
 mv 57 56,
 mt 58 5 57,
 ot 59 57 (.len (.s 58)),
 ot 60 57 (.bin .geq (.s 59) (iC 32)),
 pF 61 57 60] [51,52,53,54,55,56,57,58,59,60]
 (.cond (.s 61)
 (sr [mv 62 4,
 mv 2 62,
 mI 3 6] [62]
 .ret)
 .skip)))))))
 (.reg [mv 11 4,
 bI 12 .add 11 1,
 mv 4 12] [11,12]))))))
 (.seq (sr [mv 63 0,
 mv 64 0,
 ln 65 64,
 c2 66 137 63 65,
 ln 67 66,
 bI 68 .gtr 67 0] [63,64,65,66,67]
 (.cond (.s 68)
 (sr [mv 69 0,
 ln 70 69,
 mv 2 70,
 mI 3 3] [69,70]
 .ret)
 .skip))
 (sr [mI 2 0,
 mI 3 0] []
 .ret))))⟩
theorem RV:ax Tryz.prog 92=some BE:=by kernel_rfl
abbrev T0:FuncId:=92
def iY:aH :=
⟨125,2,[.cell 4 (some 2)],
 (sr [o0 2 (.box 33 12 (.s 0)),
 o0 4 (.new 81 [.nl,(.int .i64 0)])] []
 (sr [o0 5 (.new 81 [.nl,(.int .i64 0)])] []
 (.seq (sr [mv 10 1] []
 (.block 0 (sr [bI 31 .eql 10 7,
 mv 30 31] [31]
 (.cond (.s 30)
 (sr [lS 32 2 5,
 fa 33 6 2,
 lo 34 33,
 ln 35 34,
 c2 36 94 32 35,
 sT 2 5 36] [32,33,34,35,36]
 (sr [mI 6 0] []
 (.block 3 (.loop (.seq (sr [mv 37 6,
 fa 38 6 2,
 lo 39 38,
 ln 40 39,
 bS 41 .lss 37 40] [37,38,39,40]
 (.cond (.s 41)
 .skip
 (.exit 3)))
 (.seq (.block 4 (.seq (.seq (.draw [⟨lS 44 2 5,[]⟩,
 ⟨fa 45 6 2,[]⟩,
 ⟨lo 46 45,[1]⟩,
 ⟨mv 47 6,[]⟩,
 ⟨ia 48 3 46 47,[2,1,3]⟩,
 ⟨fa 49 0 48,[4,2,1,3]⟩,
 ⟨lo 50 49,[5,4,2,1,3]⟩,
 ⟨c2 51 105 44 50,[0,6,5,4,2,1,3]⟩,
 ⟨fa 52 6 2,[]⟩,
 ⟨lo 53 52,[8]⟩,
 ⟨mv 54 6,[]⟩,
 ⟨ia 55 3 53 54,[9,8,10]⟩,
 ⟨fa 56 1 55,[11,9,8,10]⟩,
 ⟨lo 57 56,[12,11,9,8,10]⟩,
 ⟨o0 58 (.cvi .u8 (.s 57)),[13,12,11,9,8,10]⟩] [] [])
 (sr [c2 59 106 51 58] []
 (.reg [sT 2 5 59] [44,45,46,47,48,49,50,51,52,53,54,55,56,57,58,59])))
 (.seq (.draw [⟨lS 60 2 5,[]⟩,
 ⟨fa 61 6 2,[]⟩,
 ⟨lo 62 61,[1]⟩,
 ⟨mv 63 6,[]⟩,
 ⟨ia 64 3 62 63,[2,1,3]⟩,
 ⟨fa 65 2 64,[4,2,1,3]⟩,
 ⟨lo 66 65,[5,4,2,1,3]⟩] [] [])
 (sr [c2 67 94 60 66] []
 (.reg [sT 2 5 67] [60,61,62,63,64,65,66,67])))))
 (.reg [mv 42 6,
 bI 43 .add 42 1,
 mv 6 43] [42,43])))))))
 (sr [bI 69 .eql 10 8,
 mv 68 69] [69]
 (.cond (.s 68)
 (.reg [lS 70 2 5,
 fa 71 8 2,
 lo 72 71,
 c2 73 94 70 72,
 sT 2 5 73] [70,71,72,73])
 (sr [bI 75 .eql 10 9,
 mv 74 75] [75]
 (.cond (.s 74)
 (sr [lS 76 2 5,
 fa 77 9 2,
 lo 78 77,
 ln 79 78,
 c2 80 94 76 79,
 sT 2 5 80] [76,77,78,79,80]
 (sr [mI 7 0] []
 (.block 5 (.loop (.seq (sr [mv 81 7,
 fa 82 9 2,
 lo 83 82,
 ln 84 83,
 bS 85 .lss 81 84] [81,82,83,84]
 (.cond (.s 85)
 .skip
 (.exit 5)))
 (.seq (.block 6 (.seq (.draw [⟨lS 88 2 5,[]⟩,
 ⟨fa 89 9 2,[]⟩,
 ⟨lo 90 89,[1]⟩,
 ⟨mv 91 7,[]⟩,
 ⟨ia 92 5 90 91,[2,1,3]⟩,
 ⟨lS 93 5 92,[4,2,1,3]⟩] [] [])
 (sr [c2 94 148 88 93] []
 (.reg [sT 2 5 94] [88,89,90,91,92,93,94]))))
 (.reg [mv 86 7,
 bI 87 .add 86 1,
 mv 7 87] [86,87])))))))
 (sr [bI 96 .eql 10 10,
 mv 95 96] [96]
 (.cond (.s 95)
 (.reg [lS 97 2 5,
 fa 98 10 2,
 lo 99 98,
 ln 100 99,
 c2 101 94 97 100,
 sT 2 5 101] [97,98,99,100,101])
 (sr [bI 103 .eql 10 11,
 mv 102 103] [103]
 (.cond (.s 102)
 (sr [lS 104 2 5,
 fa 105 2 2,
 lo 106 105,
 ln 107 106,
 c2 108 94 104 107,
 sT 2 5 108] [104,105,106,107,108]
 (sr [mI 8 0] []
 (.block 7 (.loop (.seq (sr [mv 109 8,
 fa 110 2 2,
 lo 111 110,
 ln 112 111,
 bS 113 .lss 109 112] [109,110,111,112]
 (.cond (.s 113)
 .skip
 (.exit 7)))
 (.seq (.block 8 (.seq (.draw [⟨lS 116 2 5,[]⟩,
 ⟨fa 117 2 2,[]⟩,
 ⟨lo 118 117,[1]⟩,
 ⟨mv 119 8,[]⟩,
 ⟨ia 120 3 118 119,[2,1,3]⟩,
 ⟨lS 121 3 120,[4,2,1,3]⟩,
 ⟨c1 122 149 121,[5,4,2,1,3]⟩] [] [])
 (sr [c2 123 107 116 122] []
 (.reg [sT 2 5 123] [116,117,118,119,120,121,122,123]))))
 (.reg [mv 114 8,
 bI 115 .add 114 1,
 mv 8 115] [114,115])))))))
 (sr [lS 11 2 5,
 fa 12 10 2,
 lo 13 12,
 ln 14 13,
 c2 15 94 11 14,
 sT 2 5 15] [11,12,13,14,15]
 (sr [mI 9 0] []
 (.block 1 (.loop (.seq (sr [mv 16 9,
 fa 17 10 2,
 lo 18 17,
 ln 19 18,
 bS 20 .lss 16 19] [16,17,18,19]
 (.cond (.s 20)
 .skip
 (.exit 1)))
 (.seq (.block 2 (.seq (.draw [⟨lS 23 2 5,[]⟩,
 ⟨fa 24 10 2,[]⟩,
 ⟨lo 25 24,[1]⟩,
 ⟨mv 26 9,[]⟩,
 ⟨ia 27 4 25 26,[2,1,3]⟩,
 ⟨lS 28 4 27,[4,2,1,3]⟩] [] [])
 (sr [c2 29 150 23 28] []
 (.reg [sT 2 5 29] [23,24,25,26,27,28,29]))))
 (.reg [mv 21 9,
 bI 22 .add 21 1,
 mv 9 22] [21,22])))))))))))))))))))
 (sr [lS 124 2 5,
 sT 2 4 124] [124]
 .ret))))⟩
theorem rn:ax Tryz.prog 101=some iY:=by kernel_rfl
abbrev nZ:FuncId:=101
def Ma:aH :=
⟨10,2,[],
 (sr [mv 4 0,
 c1 5 115 4] [4]
 (.cond (.s 5)
 (.reg [mv 6 0,
 mv 7 1,
 nk 8 6,
 fa 9 3 8,
 sT 1 9 7] [6,7,8,9])
 .skip))⟩
theorem WS:ax Tryz.prog 119=some Ma:=by kernel_rfl
abbrev UK:FuncId:=119
def L9:aH :=
⟨22,2,[.tmp 4],
 (sr [o0 4 (.mov (.c .nl))] []
 (sr [o0 5 (.mov (.c .nl))] []
 (.seq (sr [mv 8 0,
 ln 9 8,
 mI 10 0] []
 (.block 0 (.loop (sr [bS 11 .lss 10 9] []
 (.seq (.cond (.s 11)
 .skip
 (.exit 0))
 (.seq (.block 1 (sr [ia 12 9 8 10,
 lS 13 9 12,
 o0 7 (.new 192 [(.int .i64 0),(.int .i64 0),(.int .i64 0),(.int .u64 0),(.int .i64 0),(.int .i64 0),(.int .i64 0),.nl,.nl]),
 sT 9 7 13] [12,13]
 (.reg [mv 14 5,
 mv 15 1,
 lS 16 9 7,
 o0 17 (.callv (.s 15) [(.s 16)]),
 o0 18 (.bsl 192 9 [[(.int .i64 0),(.int .i64 0),(.int .i64 0),(.int .u64 0),(.int .i64 0),(.int .i64 0),(.int .i64 0),.nl,.nl]] [(0,(.s 17))]),
 o0 19 (.app 192 9 (.s 14) (.s 18)),
 mv 5 19] [14,15,16,17,18,19])))
 (.reg [bI 20 .add 10 1,
 mv 10 20] [20])))))))
 (sr [mv 21 5,
 mv 4 21] [21]
 .ret))))⟩
theorem WQ:ax Tryz.prog 121=some L9:=by kernel_rfl
abbrev YI:FuncId:=121
def xO:aH :=
⟨15,3,[.cell 6 (some 4)],
 (sr [o0 6 (.new 73 [(.int .i64 0),(.int .i64 0),(.int .i64 0),(.int .i64 0)])] []
 (.seq (sr [mv 7 1,
 mv 8 2,
 bS 9 .gtr 7 8] [7,8]
 (.cond (.s 9)
 (sr [mv 10 0,
 mv 11 2,
 o0 12 (.mnx true (.s 11) (iC 0)),
 o0 13 (.call 126 [(.s 10),(.s 12),(iC 6)]),
 sT 4 6 13] [10,11,12,13]
 .ret)
 .skip))
 (sr [o0 14 (.build [(.int .i64 0),(.int .i64 0),(.int .i64 0),(.int .i64 0)] []),
 sT 4 6 14] [14]
 .ret)))⟩
theorem Sl:ax Tryz.prog 125=some xO:=by kernel_rfl
abbrev Uo:FuncId:=125
def BX:aH :=
⟨16,1,[.tmp 2],
 (sr [mB 2 false] []
 (.seq (sr [mI 3 0] []
 (.block 0 (.loop (.seq (sr [mv 4 3,
 mv 5 0,
 ln 6 5,
 bS 7 .lss 4 6] [4,5,6]
 (.cond (.s 7)
 .skip
 (.exit 0)))
 (.seq (.block 1 (sr [mv 10 0,
 mv 11 3,
 ia 12 1 10 11,
 lo 13 12,
 c1 14 157 13,
 uN 15 14] [10,11,12,13,14]
 (.cond (.s 15)
 (sr [mB 2 false] []
 .ret)
 .skip)))
 (.reg [mv 8 3,
 bI 9 .add 8 1,
 mv 3 9] [8,9]))))))
 (sr [mB 2 true] []
 .ret)))⟩
theorem Sp:ax Tryz.prog 127=some BX:=by kernel_rfl
abbrev Us:FuncId:=127
def Mz:aH :=
⟨25,2,[.tmp 4],
 (sr [o0 2 (.box 33 12 (.s 0)),
 mI 4 0] []
 (sr [mI 5 0] []
 (.seq (sr [mI 6 0] []
 (.block 0 (.loop (.seq (sr [mv 7 6,
 fa 8 1 2,
 lo 9 8,
 ln 10 9,
 bS 11 .lss 7 10] [7,8,9,10]
 (.cond (.s 11)
 .skip
 (.exit 0)))
 (.seq (.block 1 (sr [fa 14 1 2,
 lo 15 14,
 mv 16 6,
 ia 17 13 15 16,
 fa 18 2 17,
 lo 19 18,
 mv 20 1,
 bS 21 .eql 19 20] [14,15,16,17,18,19,20]
 (.cond (.s 21)
 (.reg [mv 22 5,
 bI 23 .add 22 1,
 mv 5 23] [22,23])
 .skip)))
 (.reg [mv 12 6,
 bI 13 .add 12 1,
 mv 6 13] [12,13]))))))
 (sr [mv 24 5,
 mv 4 24] [24]
 .ret))))⟩
theorem Xv:ax Tryz.prog 130=some Mz:=by kernel_rfl
abbrev Zk:FuncId:=130
def uh:aH :=
⟨9,1,[.tmp 2],
 (sr [mB 2 false] []
 (sr [mv 3 0,
 bI 4 .geq 3 0,
 mv 5 4,
 mt 6 0 5,
 ot 7 5 (.bin .leq (.s 6) (iC 4294967295)),
 pF 8 5 7,
 mv 2 8] [3,4,5,6,7,8]
 .ret))⟩
theorem RN:ax Tryz.prog 131=some uh:=by kernel_rfl
abbrev TT:FuncId:=131
def BC:aH :=
⟨11,1,[.tmp 2],
 (sr [o0 1 (.box 118 4 (.s 0)),
 mI 2 0] []
 (.seq (sr [fa 3 0 1,
 lo 4 3,
 c1 5 144 4,
 uN 6 5] [3,4,5]
 (.cond (.s 6)
 (sr [mI 2 12] []
 .ret)
 .skip))
 (.seq (sr [fa 7 1 1,
 lS 8 3 7,
 o0 9 (.call 159 [(.s 8),(iC 1024)]),
 uN 10 9] [7,8,9]
 (.cond (.s 10)
 (sr [mI 2 20] []
 .ret)
 .skip))
 (sr [mI 2 0] []
 .ret))))⟩
theorem RT:ax Tryz.prog 132=some BC:=by kernel_rfl
abbrev TY:FuncId:=132
def Cb:aH :=
⟨6,1,[.tmp 2],
 (sr [o0 1 (.box 116 3 (.s 0)),
 mI 2 0] []
 (.seq (sr [lS 3 3 1,
 o0 4 (.call 159 [(.s 3),(iC 256)]),
 uN 5 4] [3,4]
 (.cond (.s 5)
 (sr [mI 2 20] []
 .ret)
 .skip))
 (sr [mI 2 0] []
 .ret)))⟩
theorem SH:ax Tryz.prog 133=some Cb:=by kernel_rfl
abbrev UH:FuncId:=133
def xS:aH :=
⟨42,3,[.cell 6 (some 4)],
 (sr [o0 6 (.new 73 [(.int .i64 0),(.int .i64 0),(.int .i64 0),(.int .i64 0)])] []
 (.seq (sr [mv 8 2,
 ln 9 8,
 bI 10 .gtr 9 2048] [8,9]
 (.cond (.s 10)
 (sr [mv 11 0,
 mv 12 1,
 o0 13 (.build [(.int .i64 0),(.int .i64 0),(.int .i64 0),(.int .i64 0)] [(0,1,(.s 11)),(1,1,(.s 12)),(2,1,(iC 2048)),(3,1,(iC 6))]),
 sT 4 6 13] [11,12,13]
 .ret)
 .skip))
 (.seq (sr [mI 7 0] []
 (.block 0 (.loop (.seq (sr [mv 14 7,
 mv 15 2,
 ln 16 15,
 bS 17 .lss 14 16] [14,15,16]
 (.cond (.s 17)
 .skip
 (.exit 0)))
 (.seq (.block 1 (.seq (sr [mv 20 2,
 mv 21 7,
 ia 22 9 20 21,
 lS 23 9 22,
 c1 24 160 23,
 uN 25 24] [20,21,22,23,24]
 (.cond (.s 25)
 (sr [mv 26 0,
 mv 27 1,
 mv 28 7,
 o0 29 (.build [(.int .i64 0),(.int .i64 0),(.int .i64 0),(.int .i64 0)] [(0,1,(.s 26)),(1,1,(.s 27)),(2,1,(.s 28)),(3,1,(iC 10))]),
 sT 4 6 29] [26,27,28,29]
 .ret)
 .skip))
 (sr [mv 30 2,
 mv 31 7,
 ia 32 9 30 31,
 fa 33 8 32,
 lo 34 33,
 ln 35 34,
 bI 36 .gtr 35 64] [30,31,32,33,34,35]
 (.cond (.s 36)
 (sr [mv 37 0,
 mv 38 1,
 mv 39 7,
 o0 40 (.build [(.int .i64 0),(.int .i64 0),(.int .i64 0),(.int .i64 0)] [(0,1,(.s 37)),(1,1,(.s 38)),(2,1,(.s 39)),(3,1,(iC 6))]),
 sT 4 6 40] [37,38,39,40]
 .ret)
 .skip))))
 (.reg [mv 18 7,
 bI 19 .add 18 1,
 mv 7 19] [18,19]))))))
 (sr [o0 41 (.build [(.int .i64 0),(.int .i64 0),(.int .i64 0),(.int .i64 0)] []),
 sT 4 6 41] [41]
 .ret))))⟩
theorem SJ:ax Tryz.prog 135=some xS:=by kernel_rfl
abbrev UJ:FuncId:=135
def M3:aH :=
⟨13,1,[.tmp 2],
 (sr [mB 2 false] []
 (sr [mv 3 0,
 bI 4 .eql 3 2,
 mv 5 4,
 mf 6 0 5,
 oF 7 5 (.bin .eql (.s 6) (iC 3)),
 pT 8 5 7,
 mv 9 8,
 mf 10 0 9,
 oF 11 9 (.bin .eql (.s 10) (iC 4)),
 pT 12 9 11,
 mv 2 12] [3,4,5,6,7,8,9,10,11,12]
 .ret))⟩
theorem X4:ax Tryz.prog 139=some M3:=by kernel_rfl
abbrev ZL:FuncId:=139
def BP:aH :=
⟨25,2,[.tmp 4],
 (sr [o0 4 (.mov (.c .nl))] []
 (sr [o0 6 (.bsl 5 1 [] []),
 mv 7 0,
 o0 8 (.app 5 1 (.s 6) (.s 7)),
 mv 5 8] [6,7,8]
 (.seq (.block 0 (.loop (.seq (sr [mv 9 1,
 o0 10 (.bin .geq (.s 9) (.c (.int .u64 128)))] [9]
 (.cond (.s 10)
 .skip
 (.exit 0)))
 (.block 1 (.seq (.reg [mv 11 5,
 mv 12 1,
 o0 13 (.bin .rem (.s 12) (.c (.int .u64 128))),
 o0 14 (.cvi .u8 (.s 13)),
 o0 15 (.bin .add (.s 14) (.c (.int .u8 128))),
 o0 16 (.bsl 5 1 [[(.int .u8 0)]] [(0,(.s 15))]),
 o0 17 (.app 5 1 (.s 11) (.s 16)),
 mv 5 17] [11,12,13,14,15,16,17])
 (.reg [mv 18 1,
 o0 19 (.bin .quo (.s 18) (.c (.int .u64 128))),
 mv 1 19] [18,19]))))))
 (.seq (.reg [mv 20 5,
 mv 21 1,
 o0 22 (.cvi .u8 (.s 21)),
 o0 23 (.bsl 5 1 [[(.int .u8 0)]] [(0,(.s 22))]),
 o0 24 (.app 5 1 (.s 20) (.s 23)),
 mv 4 24] [20,21,22,23,24])
 .ret))))⟩
theorem Sa:ax Tryz.prog 141=some BP:=by kernel_rfl
abbrev Ue:FuncId:=141
def M5:aH :=
⟨19,2,[.cell 4 (some 2)],
 (sr [o0 2 (.box 81 2 (.s 0)),
 o0 4 (.new 81 [.nl,(.int .i64 0)])] []
 (sr [mv 8 1,
 c1 9 162 8,
 mv 7 9,
 xt 10 7 0,
 xt 11 7 1,
 mv 5 10,
 mv 6 11] [8,9,7,10,11]
 (.seq (sr [mv 12 6,
 uN 13 12] [12]
 (.cond (.s 13)
 (sr [lS 14 2 2,
 o0 15 (.call 140 [(.s 14),(iC 12)]),
 sT 2 4 15] [14,15]
 .ret)
 .skip))
 (sr [lS 16 2 2,
 mv 17 5,
 c2 18 106 16 17,
 sT 2 4 18] [16,17,18]
 .ret))))⟩
theorem X6:ax Tryz.prog 146=some M5:=by kernel_rfl
abbrev At:FuncId:=146
def B2:aH :=
⟨64,1,[.cell 2 (some 2)],
 (sr [o0 1 (.box 130 3 (.s 0)),
 o0 2 (.new 81 [.nl,(.int .i64 0)])] []
 (sr [o0 3 (.new 81 [.nl,(.int .i64 0)])] []
 (sr [mI 4 0] []
 (sr [mI 5 0] []
 (.seq (.block 0 (.loop (.seq (sr [mv 10 5,
 fa 11 1 1,
 lo 12 11,
 ln 13 12,
 bS 14 .lss 10 13] [10,11,12,13]
 (.cond (.s 14)
 .skip
 (.exit 0)))
 (.block 1 (sr [mv 15 5,
 mv 6 15] [15]
 (.seq (.block 2 (.loop (.seq (.seq (.seq (.draw [⟨mv 16 6,[]⟩,
 ⟨fa 17 1 1,[]⟩,
 ⟨lo 18 17,[1]⟩,
 ⟨ln 19 18,[2,1]⟩] [] [])
 (sr [bS 20 .lss 16 19] []
 (sr [mv 21 20] []
 (.seq (.draw [⟨ot 22 21 (fd 1 1),[]⟩,
 ⟨ot 23 21 (ld 22),[0]⟩,
 ⟨mt 24 6 21,[]⟩,
 ⟨ot 25 21 (.iadr 1 (.s 23) (.s 24)),[1,0,2]⟩,
 ⟨ot 26 21 (ld 25),[3,1,0,2]⟩,
 ⟨ot 27 21 (fd 1 1),[]⟩,
 ⟨ot 28 21 (ld 27),[5]⟩,
 ⟨mt 29 5 21,[]⟩,
 ⟨ot 30 21 (.iadr 1 (.s 28) (.s 29)),[6,5,7]⟩,
 ⟨ot 31 21 (ld 30),[8,6,5,7]⟩] [] [])
 (sr [ot 32 21 (.bin .eql (.s 26) (.s 31))] []
 (.reg [pF 33 21 32] [16,17,18,19,20,21,22,23,24,25,26,27,28,29,30,31,32]))))))
 (.cond (.s 33)
 .skip
 (.exit 2)))
 (.block 3 (.reg [mv 34 6,
 bI 35 .add 34 1,
 mv 6 35] [34,35])))))
 (.seq (.seq (.draw [⟨lS 36 2 3,[]⟩,
 ⟨mv 37 6,[]⟩,
 ⟨mv 38 5,[]⟩,
 ⟨bS 39 .sub 37 38,[1,2]⟩,
 ⟨c2 40 94 36 39,[0,3,1,2]⟩,
 ⟨fa 41 1 1,[]⟩,
 ⟨lo 42 41,[5]⟩,
 ⟨mv 43 5,[]⟩,
 ⟨ia 44 1 42 43,[6,5,7]⟩,
 ⟨lo 45 44,[8,6,5,7]⟩] [] [])
 (sr [c2 46 146 40 45] []
 (.reg [sT 2 3 46] [36,37,38,39,40,41,42,43,44,45,46])))
 (sr [mv 47 4,
 bI 48 .add 47 1,
 mv 4 48] [47,48]
 (.reg [mv 49 6,
 mv 5 49] [49])))))))))
 (sr [o0 7 (.new 81 [.nl,(.int .i64 0)])] []
 (sr [lS 51 2 3,
 c1 52 30 51,
 mv 50 52,
 xt 53 50 0,
 xt 54 50 1,
 mv 8 53,
 mv 9 54] [51,52,50,53,54,9]
 (sr [lS 55 2 7,
 mv 56 4,
 c2 57 94 55 56,
 mv 58 8,
 c2 59 103 57 58,
 sT 2 7 59] [55,56,57,58,59]
 (sr [lS 60 2 7,
 fa 61 2 1,
 lo 62 61,
 c2 63 99 60 62,
 sT 2 2 63] [60,61,62,63]
 .ret)))))))))⟩
theorem Sv:ax Tryz.prog 149=some B2:=by kernel_rfl
abbrev Ux:FuncId:=149
def MC:aH :=
⟨5,1,[.tmp 2],
 (sr [mB 2 false] []
 (sr [mv 3 0,
 bI 4 .geq 3 64512,
 mv 2 4] [3,4]
 .ret))⟩
theorem Xy:ax Tryz.prog 163=some MC:=by kernel_rfl
abbrev Zm:FuncId:=163
def MA:aH :=
⟨26,2,[.cell 4 (some 2)],
 (sr [o0 2 (.box 81 2 (.s 0)),
 o0 3 (.box 190 3 (.s 1)),
 o0 4 (.new 81 [.nl,(.int .i64 0)])] []
 (.seq (sr [lS 5 3 3,
 c1 6 181 5,
 uN 7 6] [5,6]
 (.cond (.s 7)
 (sr [lS 8 2 2,
 o0 9 (.call 140 [(.s 8),(iC 12)]),
 sT 2 4 9] [8,9]
 .ret)
 .skip))
 (.seq (sr [fa 10 0 3,
 lo 11 10] [10]
 (.block 0 (sr [bI 13 .eql 11 0,
 mv 12 13] [13]
 (.cond (.s 12)
 (sr [lS 14 2 2,
 o0 15 (.call 106 [(.s 14),(.c (.int .u8 64))]),
 sT 2 4 15] [14,15]
 .ret)
 (sr [bI 17 .eql 11 1,
 mv 16 17] [17]
 (.cond (.s 16)
 (sr [lS 18 2 2,
 fa 19 1 3,
 lo 20 19,
 c2 21 146 18 20,
 sT 2 4 21] [18,19,20,21]
 .ret)
 .skip))))))
 (sr [lS 22 2 2,
 fa 23 2 3,
 lo 24 23,
 c2 25 182 22 24,
 sT 2 4 25] [22,23,24,25]
 .ret))))⟩
theorem Xw:ax Tryz.prog 165=some MA:=by kernel_rfl
abbrev OZ:FuncId:=165
def MV:aH :=
⟨12,2,[.cell 4 (some 2)],
 (sr [o0 2 (.box 81 2 (.s 0)),
 o0 4 (.new 81 [.nl,(.int .i64 0)])] []
 (.seq (.seq (.draw [⟨lS 5 2 2,[]⟩,
 ⟨mv 6 1,[]⟩,
 ⟨o0 7 (.cvi .u32 (.s 6)),[1]⟩,
 ⟨o0 8 (.cvi .i32 (.s 7)),[2,1]⟩,
 ⟨o0 9 (.cvi .i64 (.s 8)),[3,2,1]⟩,
 ⟨o0 10 (.call 183 [(.c .nl),(.s 9)]),[4,3,2,1]⟩] [] [])
 (sr [c2 11 103 5 10] []
 (.reg [sT 2 4 11] [5,6,7,8,9,10,11])))
 .ret))⟩
theorem XT:ax Tryz.prog 168=some MV:=by kernel_rfl
abbrev O1:FuncId:=168
def Cc:aH :=
⟨27,1,[.tmp 2,.tmp 3],
 (sr [o0 2 (.mov (.c .nl)),
 mB 3 false] []
 (sr [o0 4 (.mov (.c .nl))] []
 (.seq (sr [mv 7 0,
 o0 8 (.mop .rng [(.s 7)])] [7]
 (.block 0 (.loop (sr [o0 9 (.mop .nxt [(.s 8)]),
 xt 10 9 0] []
 (.seq (.cond (.s 10)
 .skip
 (.exit 0))
 (.block 1 (sr [xt 11 9 1,
 xt 12 9 2,
 mv 5 11,
 mv 6 12] [11,12]
 (.seq (.seq (.reg [mv 13 6,
 o0 14 (.bin .eql (.s 13) (.c (.int .i32 65533))),
 mv 15 14,
 mt 16 0 15,
 mt 17 5 15,
 ot 18 15 (.sslc (.s 16) (some (.s 17)) none),
 ot 19 15 (.call 185 [(.s 18),(.c (.str [239,191,189]))]),
 ot 20 15 (.un .not (.s 19)),
 pF 21 15 20] [13,14,15,16,17,18,19,20])
 (.cond (.s 21)
 (sr [o0 2 (.mov (.c .nl)),
 mB 3 false] []
 .ret)
 .skip))
 (.reg [mv 22 4,
 mv 23 6,
 o0 24 (.bsl 21 1 [[(.int .i32 0)]] [(0,(.s 23))]),
 o0 25 (.app 21 1 (.s 22) (.s 24)),
 mv 4 25] [22,23,24,25])))))))))
 (sr [mv 26 4,
 mv 2 26,
 mB 3 true] [26]
 .ret))))⟩
theorem SL:ax Tryz.prog 171=some Cc:=by kernel_rfl
abbrev UL:FuncId:=171
def Cj:aH :=
⟨25,2,[.tmp 4],
 (sr [o0 4 (.mov (.c (.int .u64 0)))] []
 (sr [o0 5 (.mov (.c (.int .u64 0)))] []
 (.seq (sr [mv 7 1,
 bI 8 .add 7 1,
 mI 9 0] [7]
 (.block 0 (.loop (sr [bS 10 .lss 9 8] []
 (.seq (.cond (.s 10)
 .skip
 (.exit 0))
 (.seq (.block 1 (sr [mv 11 9,
 mv 6 11] [11]
 (.reg [mv 12 5,
 mv 13 0,
 mv 14 6,
 ia 15 1 13 14,
 lo 16 15,
 o0 17 (.bin .and (.s 16) (.c (.int .u8 127))),
 o0 18 (.cvi .u64 (.s 17)),
 mv 19 6,
 o0 20 (.bin .mul (iC 7) (.s 19)),
 bS 21 .shl 18 20,
 bS 22 .or 12 21,
 mv 5 22] [12,13,14,15,16,17,18,19,20,21,22])))
 (.reg [bI 23 .add 9 1,
 mv 9 23] [23])))))))
 (sr [mv 24 5,
 mv 4 24] [24]
 .ret))))⟩
theorem ST:ax Tryz.prog 173=some Cj:=by kernel_rfl
abbrev UT:FuncId:=173
def Bx:aH :=
⟨11,1,[.tmp 2],
 (sr [mB 2 false] []
 (.seq (.reg [mv 6 0,
 c1 7 180 6,
 mv 5 7,
 xt 8 5 0,
 xt 9 5 1,
 o0 3 (.new 246 [(.int .i64 0),(.str []),(.int .i64 0)]),
 sT 3 3 8,
 mv 4 9] [6,7,5,8,9,3])
 (sr [mv 10 4,
 mv 2 10] [10]
 .ret)))⟩
theorem RH:ax Tryz.prog 175=some Bx:=by kernel_rfl
abbrev TQ:FuncId:=175
def xK:aH :=
⟨9,1,[.tmp 2],
 (sr [mB 2 false] []
 (sr [mv 3 0,
 bI 4 .geq 3 0,
 mv 5 4,
 mt 6 0 5,
 ot 7 5 (.bin .lss (.s 6) (iC 4294967296)),
 pF 8 5 7,
 mv 2 8] [3,4,5,6,7,8]
 .ret))⟩
theorem RL:ax Tryz.prog 177=some xK:=by kernel_rfl
abbrev TS:FuncId:=177
def xQ:aH :=
⟨9,1,[.tmp 2],
 (sr [mB 2 false] []
 (sr [mv 3 0,
 bI 4 .geq 3 1,
 mv 5 4,
 mt 6 0 5,
 ot 7 5 (.bin .leq (.s 6) (iC 4)),
 pF 8 5 7,
 mv 2 8] [3,4,5,6,7,8]
 .ret))⟩
theorem SF:ax Tryz.prog 179=some xQ:=by kernel_rfl
abbrev UF:FuncId:=179
def BR:aH :=
⟨25,1,[.cell 2 (some 3),.tmp 3],
 (.seq (.reg [o0 2 (.new 246 [(.int .i64 0),(.str []),(.int .i64 0)]),
 mB 3 false] [])
 (sr [c0 6 187,
 mv 4 6] [6]
 (.seq (sr [mI 5 0] []
 (.block 0 (.loop (.seq (sr [mv 7 5,
 mv 8 4,
 ln 9 8,
 bS 10 .lss 7 9] [7,8,9]
 (.cond (.s 10)
 .skip
 (.exit 0)))
 (.seq (.block 1 (sr [mv 13 4,
 mv 14 5,
 ia 15 3 13 14,
 fa 16 0 15,
 lo 17 16,
 mv 18 0,
 bS 19 .eql 17 18] [13,14,15,16,17,18]
 (.cond (.s 19)
 (sr [mv 20 4,
 mv 21 5,
 ia 22 3 20 21,
 lS 23 3 22,
 sT 3 2 23,
 mB 3 true] [20,21,22,23]
 .ret)
 .skip)))
 (.reg [mv 11 5,
 bI 12 .add 11 1,
 mv 5 12] [11,12]))))))
 (.seq (.reg [o0 24 (.build [(.int .i64 0),(.str []),(.int .i64 0)] []),
 sT 3 2 24,
 mB 3 false] [24])
 .ret))))⟩
theorem Se:ax Tryz.prog 180=some BR:=by kernel_rfl
abbrev Ug:FuncId:=180
def uj:aH :=
⟨20,1,[.tmp 2],
 (sr [mB 2 false] []
 (sr [mv 3 0,
 ln 4 3,
 bI 5 .eql 4 2,
 mv 6 5,
 mt 7 0 6,
 ot 8 6 (.iadr 9 (.s 7) (iC 0)),
 ot 9 6 (fd 0 8),
 ot 10 6 (ld 9),
 ot 11 6 (.bin .eql (.s 10) (iC 210)),
 pF 12 6 11,
 mv 13 12,
 mt 14 0 13,
 ot 15 13 (.iadr 9 (.s 14) (iC 1)),
 ot 16 13 (fd 0 15),
 ot 17 13 (ld 16),
 ot 18 13 (.bin .eql (.s 17) (iC 11)),
 pF 19 13 18,
 mv 2 19] [3,4,5,6,7,8,9,10,11,12,13,14,15,16,17,18,19]
 .ret))⟩
theorem R3:ax Tryz.prog 184=some uj:=by kernel_rfl
abbrev T7:FuncId:=184
def j_:aH :=
⟨85,2,[.tmp 4,.tmp 5],
 (sr [mI 4 0,
 mI 5 0] []
 (sr [mv 12 0,
 mv 13 1,
 o0 14 (.sidx (.s 12) (.s 13)),
 o0 15 (.cvi .i64 (.s 14)),
 mv 6 15] [12,13,14,15]
 (.seq (sr [mv 16 6,
 bI 17 .lss 16 128] [16]
 (.cond (.s 17)
 (sr [mv 18 6,
 mv 4 18,
 mI 5 1] [18]
 .ret)
 .skip))
 (sr [mI 7 0] []
 (sr [mI 8 0] []
 (sr [mI 9 0] []
 (.seq (sr [mv 19 6,
 bI 20 .geq 19 192,
 mv 21 20,
 mt 22 6 21,
 ot 23 21 (.bin .lss (.s 22) (iC 224)),
 pF 24 21 23] [19,20,21,22,23]
 (.cond (.s 24)
 (sr [mI 7 2] []
 (sr [mI 8 128] []
 (.reg [mv 25 6,
 bI 26 .sub 25 192,
 mv 9 26] [25,26])))
 (sr [mv 27 6,
 bI 28 .geq 27 224,
 mv 29 28,
 mt 30 6 29,
 ot 31 29 (.bin .lss (.s 30) (iC 240)),
 pF 32 29 31] [27,28,29,30,31]
 (.cond (.s 32)
 (sr [mI 7 3] []
 (sr [mI 8 2048] []
 (.reg [mv 33 6,
 bI 34 .sub 33 224,
 mv 9 34] [33,34])))
 (sr [mv 35 6,
 bI 36 .geq 35 240,
 mv 37 36,
 mt 38 6 37,
 ot 39 37 (.bin .lss (.s 38) (iC 248)),
 pF 40 37 39] [35,36,37,38,39]
 (.cond (.s 40)
 (sr [mI 7 4] []
 (sr [mI 8 65536] []
 (.reg [mv 41 6,
 bI 42 .sub 41 240,
 mv 9 42] [41,42])))
 .skip))))))
 (.seq (sr [mv 43 7,
 bI 44 .eql 43 0,
 mv 45 44,
 mf 46 1 45,
 mf 47 7 45,
 oF 48 45 (.bin .add (.s 46) (.s 47)),
 mf 49 0 45,
 oF 50 45 (.slen (.s 49)),
 oF 51 45 (.bin .gtr (.s 48) (.s 50)),
 pT 52 45 51] [43,44,45,46,47,48,49,50,51]
 (.cond (.s 52)
 (sr [mI 4 0,
 mI 5 0] []
 .ret)
 .skip))
 (.seq (sr [mI 10 1] []
 (.block 0 (.loop (.seq (sr [mv 53 10,
 mv 54 7,
 bS 55 .lss 53 54] [53,54]
 (.cond (.s 55)
 .skip
 (.exit 0)))
 (.seq (.block 1 (sr [mv 58 0,
 mv 59 1,
 mv 60 10,
 bS 61 .add 59 60,
 o0 62 (.sidx (.s 58) (.s 61)),
 o0 63 (.cvi .i64 (.s 62)),
 mv 11 63] [58,59,60,61,62,63]
 (.seq (sr [mv 64 11,
 bI 65 .lss 64 128,
 mv 66 65,
 mf 67 11 66,
 oF 68 66 (.bin .geq (.s 67) (iC 192)),
 pT 69 66 68] [64,65,66,67,68]
 (.cond (.s 69)
 (sr [mI 4 0,
 mI 5 0] []
 .ret)
 .skip))
 (.reg [mv 70 9,
 bI 71 .mul 70 64,
 mv 72 11,
 bS 73 .add 71 72,
 bI 74 .sub 73 128,
 mv 9 74] [70,71,72,73,74]))))
 (.reg [mv 56 10,
 bI 57 .add 56 1,
 mv 10 57] [56,57]))))))
 (.seq (sr [mv 75 9,
 mv 76 8,
 bS 77 .lss 75 76,
 mv 78 77,
 mf 79 9 78,
 oF 80 78 (.call 189 [(.s 79)]),
 oF 81 78 (.un .not (.s 80)),
 pT 82 78 81] [75,76,77,78,79,80,81]
 (.cond (.s 82)
 (sr [mI 4 0,
 mI 5 0] []
 .ret)
 .skip))
 (sr [mv 83 9,
 mv 84 7,
 mv 4 83,
 mv 5 84] [83,84]
 .ret)))))))))))⟩
theorem RG:ax Tryz.prog 186=some j_:=by kernel_rfl
abbrev TP:FuncId:=186
def My:aH :=
⟨2,0,[.tmp 0],
 (sr [o0 0 (.mov (.c .nl))] []
 (.seq (.reg [o0 1 (.bsl 9 1 [[(.str [])],[(.str [])],[(.str [])],[(.str [])],[(.str [])],[(.str [])],[(.str [])],[(.str [])],[(.str [])],[(.str [])],[(.str [])]] [(0,(.c (.str [101,113,122]))),(1,(.c (.str [101,113]))),(2,(.c (.str [110,101]))),(3,(.c (.str [108,116,95,115]))),(4,(.c (.str [108,116,95,117]))),(5,(.c (.str [103,116,95,115]))),(6,(.c (.str [103,116,95,117]))),(7,(.c (.str [108,101,95,115]))),(8,(.c (.str [108,101,95,117]))),(9,(.c (.str [103,101,95,115]))),(10,(.c (.str [103,101,95,117])))]),
 mv 0 1] [1])
 .ret))⟩
theorem Xt:ax Tryz.prog 193=some My:=by kernel_rfl
abbrev Zi:FuncId:=193
def Ca:aH :=
⟨15,0,[.tmp 0],
 (sr [o0 0 (.mov (.c .nl))] []
 (.seq (.reg [o0 1 (.build [(.int .i64 0),(.str []),(.int .i64 0)] [(0,1,(iC 208)),(1,1,(.c (.str [114,101,102,46,110,117,108,108]))),(2,1,(iC 20))]),
 o0 2 (.build [(.int .i64 0),(.str []),(.int .i64 0)] [(0,1,(iC 209)),(1,1,(.c (.str [114,101,102,46,105,115,95,110,117,108,108]))),(2,1,(iC 0))]),
 o0 3 (.build [(.int .i64 0),(.str []),(.int .i64 0)] [(0,1,(iC 210)),(1,1,(.c (.str [114,101,102,46,102,117,110,99]))),(2,1,(iC 4))]),
 o0 4 (.build [(.int .i64 0),(.str []),(.int .i64 0)] [(0,1,(iC 64520)),(1,1,(.c (.str [109,101,109,111,114,121,46,105,110,105,116]))),(2,1,(iC 15))]),
 o0 5 (.build [(.int .i64 0),(.str []),(.int .i64 0)] [(0,1,(iC 64521)),(1,1,(.c (.str [100,97,116,97,46,100,114,111,112]))),(2,1,(iC 16))]),
 o0 6 (.build [(.int .i64 0),(.str []),(.int .i64 0)] [(0,1,(iC 64522)),(1,1,(.c (.str [109,101,109,111,114,121,46,99,111,112,121]))),(2,1,(iC 14))]),
 o0 7 (.build [(.int .i64 0),(.str []),(.int .i64 0)] [(0,1,(iC 64523)),(1,1,(.c (.str [109,101,109,111,114,121,46,102,105,108,108]))),(2,1,(iC 13))]),
 o0 8 (.build [(.int .i64 0),(.str []),(.int .i64 0)] [(0,1,(iC 64524)),(1,1,(.c (.str [116,97,98,108,101,46,105,110,105,116]))),(2,1,(iC 11))]),
 o0 9 (.build [(.int .i64 0),(.str []),(.int .i64 0)] [(0,1,(iC 64525)),(1,1,(.c (.str [101,108,101,109,46,100,114,111,112]))),(2,1,(iC 12))]),
 o0 10 (.build [(.int .i64 0),(.str []),(.int .i64 0)] [(0,1,(iC 64526)),(1,1,(.c (.str [116,97,98,108,101,46,99,111,112,121]))),(2,1,(iC 10))]),
 o0 11 (.build [(.int .i64 0),(.str []),(.int .i64 0)] [(0,1,(iC 64527)),(1,1,(.c (.str [116,97,98,108,101,46,103,114,111,119]))),(2,1,(iC 9))]),
 o0 12 (.build [(.int .i64 0),(.str []),(.int .i64 0)] [(0,1,(iC 64528)),(1,1,(.c (.str [116,97,98,108,101,46,115,105,122,101]))),(2,1,(iC 9))]),
 o0 13 (.build [(.int .i64 0),(.str []),(.int .i64 0)] [(0,1,(iC 64529)),(1,1,(.c (.str [116,97,98,108,101,46,102,105,108,108]))),(2,1,(iC 9))]),
 o0 14 (.bsl 246 3 [[(.int .i64 0),(.str []),(.int .i64 0)],[(.int .i64 0),(.str []),(.int .i64 0)],[(.int .i64 0),(.str []),(.int .i64 0)],[(.int .i64 0),(.str []),(.int .i64 0)],[(.int .i64 0),(.str []),(.int .i64 0)],[(.int .i64 0),(.str []),(.int .i64 0)],[(.int .i64 0),(.str []),(.int .i64 0)],[(.int .i64 0),(.str []),(.int .i64 0)],[(.int .i64 0),(.str []),(.int .i64 0)],[(.int .i64 0),(.str []),(.int .i64 0)],[(.int .i64 0),(.str []),(.int .i64 0)],[(.int .i64 0),(.str []),(.int .i64 0)],[(.int .i64 0),(.str []),(.int .i64 0)]] [(0,(.s 1)),(1,(.s 2)),(2,(.s 3)),(3,(.s 4)),(4,(.s 5)),(5,(.s 6)),(6,(.s 7)),(7,(.s 8)),(8,(.s 9)),(9,(.s 10)),(10,(.s 11)),(11,(.s 12)),(12,(.s 13))]),
 mv 0 14] [1,2,3,4,5,6,7,8,9,10,11,12,13,14])
 .ret))⟩
theorem SE:ax Tryz.prog 195=some Ca:=by kernel_rfl
abbrev UE:FuncId:=195
def B4:aH :=
⟨44,1,[.tmp 2],
 (sr [o0 1 (.box 37 3 (.s 0)),
 mB 2 false] []
 (sr [fa 5 1 1,
 lo 6 5,
 ln 7 6,
 fa 8 0 1,
 lo 9 8,
 o0 10 (.slen (.s 9)),
 bS 11 .add 7 10,
 mv 3 11] [5,6,7,8,9,10,11]
 (.seq (sr [mI 4 0] []
 (.block 0 (.loop (.seq (sr [mv 12 4,
 fa 13 2 1,
 lo 14 13,
 ln 15 14,
 bS 16 .lss 12 15,
 mv 17 16,
 mt 18 4 17,
 ot 19 17 (.bin .lss (.s 18) (iC 100)),
 pF 20 17 19,
 mv 21 20,
 mt 22 3 21,
 ot 23 21 (.bin .leq (.s 22) (iC 400)),
 pF 24 21 23] [12,13,14,15,16,17,18,19,20,21,22,23]
 (.cond (.s 24)
 .skip
 (.exit 0)))
 (.seq (.block 1 (.reg [mv 27 3,
 fa 28 2 1,
 lo 29 28,
 mv 30 4,
 ia 31 2 29 30,
 fa 32 1 31,
 lo 33 32,
 ln 34 33,
 bS 35 .add 27 34,
 mv 3 35] [27,28,29,30,31,32,33,34,35]))
 (.reg [mv 25 4,
 bI 26 .add 25 1,
 mv 4 26] [25,26]))))))
 (sr [fa 36 2 1,
 lo 37 36,
 ln 38 37,
 bI 39 .leq 38 90,
 mv 40 39,
 mt 41 3 40,
 ot 42 40 (.bin .leq (.s 41) (iC 400)),
 pF 43 40 42,
 mv 2 43] [36,37,38,39,40,41,42,43]
 .ret))))⟩
theorem Sx:ax Tryz.prog 4=some B4:=by kernel_rfl
abbrev Uz:FuncId:=4
def xM:aH :=
⟨60,2,[.cell 4 (some 12),.tmp 5],
 (sr [o0 2 (.box 33 12 (.s 0)),
 o0 3 (.box 37 3 (.s 1)),
 o0 4 (.new 33 [.nl,.nl,.nl,.nl,.nl,.nl,.nl,(.bool false),(.int .i64 0),.nl,.nl,.nl]),
 mI 5 0] []
 (sr [lS 13 3 3,
 c1 14 11 13,
 mv 12 14,
 xt 15 12 0,
 xt 16 12 1,
 mv 6 15,
 mv 7 16] [13,14,12,15,16]
 (.seq (sr [mv 17 7,
 bI 18 .neq 17 0] [17]
 (.cond (.s 18)
 (sr [o0 19 (.build [.nl,.nl,.nl,.nl,.nl,.nl,.nl,(.bool false),(.int .i64 0),.nl,.nl,.nl] []),
 mv 20 7,
 sT 12 4 19,
 mv 5 20] [19,20]
 .ret)
 .skip))
 (sr [lS 21 12 2,
 c1 22 14 21,
 o0 8 (.new 33 [.nl,.nl,.nl,.nl,.nl,.nl,.nl,(.bool false),(.int .i64 0),.nl,.nl,.nl]),
 sT 12 8 22] [21,22]
 (sr [o0 9 (.mov (.c .nl))] []
 (.seq (sr [fa 23 11 8,
 lo 24 23,
 ln 25 24,
 mI 26 0] [23]
 (.block 0 (.loop (sr [bS 27 .lss 26 25] []
 (.seq (.cond (.s 27)
 .skip
 (.exit 0))
 (.seq (.block 1 (.seq (.reg [ia 28 3 24 26,
 lS 29 3 28,
 o0 11 (.new 61 [(.int .i64 0),(.str []),.nl]),
 sT 3 11 29] [28,29])
 (sr [fa 30 1 11,
 lo 31 30,
 o0 32 (.bin .neq (.s 31) (.c (.str [110,97,109,101])))] [30,31]
 (.cond (.s 32)
 (.reg [mv 33 9,
 lS 34 3 11,
 o0 35 (.bsl 61 3 [[(.int .i64 0),(.str []),.nl]] [(0,(.s 34))]),
 o0 36 (.app 61 3 (.s 33) (.s 35)),
 mv 9 36] [33,34,35,36])
 .skip))))
 (.reg [bI 37 .add 26 1,
 mv 26 37] [37])))))))
 (.seq (sr [mv 38 6,
 ln 39 38,
 bI 40 .gtr 39 0] [38,39]
 (.cond (.s 40)
 (.seq (sr [mv 41 6,
 ln 42 41,
 bI 43 .gtr 42 4096,
 mv 44 43,
 mf 45 9 44,
 oF 46 44 (.len (.s 45)),
 oF 47 44 (.bin .geq (.s 46) (iC 8)),
 pT 48 44 47] [41,42,43,44,45,46,47]
 (.cond (.s 48)
 (sr [o0 49 (.build [.nl,.nl,.nl,.nl,.nl,.nl,.nl,(.bool false),(.int .i64 0),.nl,.nl,.nl] []),
 sT 12 4 49,
 mI 5 6] [49]
 .ret)
 .skip))
 (.reg [mv 50 9,
 lS 51 12 2,
 c1 52 15 51,
 mv 53 6,
 o0 54 (.build [(.int .i64 0),(.str []),.nl] [(0,1,(.s 52)),(1,1,(.c (.str [110,97,109,101]))),(2,1,(.s 53))]),
 o0 55 (.bsl 61 3 [[(.int .i64 0),(.str []),.nl]] [(0,(.s 54))]),
 o0 56 (.app 61 3 (.s 50) (.s 55)),
 mv 9 56] [50,51,52,53,54,55,56]))
 .skip))
 (sr [mv 57 9,
 fa 58 11 8,
 sT 1 58 57] [57,58]
 (sr [lS 59 12 8,
 sT 12 4 59,
 mI 5 0] [59]
 .ret)))))))))⟩
theorem R5:ax Tryz.prog 8=some xM:=by kernel_rfl
abbrev T9:FuncId:=8
def MT:aH :=
⟨51,1,[.cell 2 (some 3),.tmp 3],
 (.seq (.reg [o0 2 (.new 37 [(.str []),.nl,.nl]),
 mI 3 0] [])
 (sr [mv 10 0,
 c1 11 46 10,
 mv 4 11] [10,11]
 (.seq (.reg [o0 5 (.new 37 [(.str []),.nl,.nl])] [])
 (sr [mI 6 (-1)] []
 (.seq (.block 0 (.loop (.seq (sr [mv 12 4,
 c1 13 47 12,
 bI 14 .gtr 13 0] [12,13]
 (.cond (.s 14)
 .skip
 (.exit 0)))
 (.block 1 (sr [mv 15 4,
 c1 16 48 15,
 o0 17 (.cvi .i64 (.s 16)),
 mv 7 17] [15,16,17]
 (.seq (sr [mv 18 7,
 bI 19 .gtr 18 2] [18]
 (.cond (.s 19)
 (.seq (.reg [o0 20 (.build [(.str []),.nl,.nl] []),
 sT 3 2 20,
 mI 3 4] [20])
 .ret)
 .skip))
 (.seq (sr [mv 21 7,
 mv 22 6,
 bS 23 .leq 21 22] [21,22]
 (.cond (.s 23)
 (.seq (.reg [o0 24 (.build [(.str []),.nl,.nl] []),
 sT 3 2 24,
 mI 3 7] [24])
 .ret)
 .skip))
 (sr [mv 25 7,
 mv 6 25] [25]
 (sr [mv 26 4,
 mv 27 4,
 c1 28 50 27,
 c2 29 49 26 28,
 mv 8 29] [26,27,28,29]
 (.seq (sr [mv 30 7] []
 (.block 2 (sr [bI 35 .eql 30 0,
 mv 34 35] [35]
 (.cond (.s 34)
 (.reg [mv 36 8,
 c1 37 51 36,
 fa 38 0 5,
 sT 1 38 37] [36,37,38])
 (sr [bI 40 .eql 30 1,
 mv 39 40] [40]
 (.cond (.s 39)
 (.reg [mv 41 8,
 o0 42 (.call 52 [(.s 41),(iC 64)]),
 fa 43 1 5,
 sT 1 43 42] [41,42,43])
 (.reg [mv 31 8,
 c1 32 53 31,
 fa 33 2 5,
 sT 1 33 32] [31,32,33])))))))
 (sr [mv 44 8,
 c1 45 54 44,
 mv 9 45] [44,45]
 (sr [mv 46 9,
 bI 47 .neq 46 0] [46]
 (.cond (.s 47)
 (.seq (.reg [o0 48 (.build [(.str []),.nl,.nl] []),
 mv 49 9,
 sT 3 2 48,
 mv 3 49] [48,49])
 .ret)
 .skip)))))))))))))
 (sr [lS 50 3 5,
 sT 3 2 50,
 mI 3 0] [50]
 .ret))))))⟩
theorem XR:ax Tryz.prog 12=some MT:=by kernel_rfl
abbrev ZB:FuncId:=12
def G1:aH :=
⟨26,2,[.tmp 4],
 (sr [mB 4 false] []
 (.seq (sr [mv 6 0,
 ln 7 6,
 mv 8 1,
 ln 9 8,
 bS 10 .neq 7 9] [6,7,8,9]
 (.cond (.s 10)
 (sr [mB 4 false] []
 .ret)
 .skip))
 (.seq (sr [mI 5 0] []
 (.block 0 (.loop (.seq (sr [mv 11 5,
 mv 12 0,
 ln 13 12,
 bS 14 .lss 11 13] [11,12,13]
 (.cond (.s 14)
 .skip
 (.exit 0)))
 (.seq (.block 1 (.seq (.seq (.draw [⟨mv 17 0,[]⟩,
 ⟨mv 18 5,[]⟩,
 ⟨ia 19 13 17 18,[0,1]⟩,
 ⟨lS 20 13 19,[2,0,1]⟩,
 ⟨mv 21 1,[]⟩,
 ⟨mv 22 5,[]⟩,
 ⟨ia 23 13 21 22,[4,5]⟩,
 ⟨lS 24 13 23,[6,4,5]⟩] [] [])
 (.reg [o0 25 (.sbin .neq [.s,.s,.i,.i,.i,.i,.i,.b,.i,.i,.b,.i,.b] (.s 20) (.s 24))] [17,18,19,20,21,22,23,24]))
 (.cond (.s 25)
 (sr [mB 4 false] []
 .ret)
 .skip)))
 (.reg [mv 15 5,
 bI 16 .add 15 1,
 mv 5 16] [15,16]))))))
 (sr [mB 4 true] []
 .ret))))⟩
theorem Xe:ax Tryz.prog 17=some G1:=by kernel_rfl
abbrev Y5:FuncId:=17
def G0:aH :=
⟨42,2,[.tmp 4],
 (sr [mB 4 false] []
 (.seq (sr [mv 6 0,
 ln 7 6,
 mv 8 1,
 ln 9 8,
 bS 10 .neq 7 9] [6,7,8,9]
 (.cond (.s 10)
 (sr [mB 4 false] []
 .ret)
 .skip))
 (.seq (sr [mI 5 0] []
 (.block 0 (.loop (.seq (sr [mv 11 5,
 mv 12 0,
 ln 13 12,
 bS 14 .lss 11 13] [11,12,13]
 (.cond (.s 14)
 .skip
 (.exit 0)))
 (.seq (.block 1 (.seq (.seq (.draw [⟨mv 17 0,[]⟩,
 ⟨mv 18 5,[]⟩,
 ⟨ia 19 3 17 18,[0,1]⟩,
 ⟨fa 20 0 19,[2,0,1]⟩,
 ⟨lS 21 2 20,[3,2,0,1]⟩,
 ⟨mv 22 1,[]⟩,
 ⟨mv 23 5,[]⟩,
 ⟨ia 24 3 22 23,[5,6]⟩,
 ⟨fa 25 0 24,[7,5,6]⟩,
 ⟨lS 26 2 25,[8,7,5,6]⟩] [] [])
 (sr [o0 27 (.sbin .neq [.i,.b] (.s 21) (.s 26))] []
 (sr [mv 28 27] []
 (.seq (.draw [⟨mf 29 0 28,[]⟩,
 ⟨mf 30 5 28,[]⟩,
 ⟨oF 31 28 (.iadr 3 (.s 29) (.s 30)),[0,1]⟩,
 ⟨oF 32 28 (fd 2 31),[2,0,1]⟩,
 ⟨oF 33 28 (ld 32),[3,2,0,1]⟩,
 ⟨mf 34 1 28,[]⟩,
 ⟨mf 35 5 28,[]⟩,
 ⟨oF 36 28 (.iadr 3 (.s 34) (.s 35)),[5,6]⟩,
 ⟨oF 37 28 (fd 2 36),[7,5,6]⟩,
 ⟨oF 38 28 (ld 37),[8,7,5,6]⟩] [] [])
 (sr [oF 39 28 (.call 78 [(.s 33),(.s 38)])] []
 (sr [oF 40 28 (.un .not (.s 39))] []
 (.reg [pT 41 28 40] [17,18,19,20,21,22,23,24,25,26,27,28,29,30,31,32,33,34,35,36,37,38,39,40])))))))
 (.cond (.s 41)
 (sr [mB 4 false] []
 .ret)
 .skip)))
 (.reg [mv 15 5,
 bI 16 .add 15 1,
 mv 5 16] [15,16]))))))
 (sr [mB 4 true] []
 .ret))))⟩
theorem Xd:ax Tryz.prog 20=some G0:=by kernel_rfl
abbrev Y4:FuncId:=20
def G2:aH :=
⟨56,2,[.tmp 4],
 (sr [mB 4 false] []
 (.seq (sr [mv 8 0,
 ln 9 8,
 mv 10 1,
 ln 11 10,
 bS 12 .neq 9 11] [8,9,10,11]
 (.cond (.s 12)
 (sr [mB 4 false] []
 .ret)
 .skip))
 (.seq (sr [mI 5 0] []
 (.block 0 (.loop (.seq (sr [mv 13 5,
 mv 14 0,
 ln 15 14,
 bS 16 .lss 13 15] [13,14,15]
 (.cond (.s 16)
 .skip
 (.exit 0)))
 (.seq (.block 1 (.seq (.seq (.draw [⟨mv 19 0,[]⟩,
 ⟨mv 20 5,[]⟩,
 ⟨ia 21 4 19 20,[0,1]⟩,
 ⟨lS 22 4 21,[2,0,1]⟩,
 ⟨mv 23 1,[]⟩,
 ⟨mv 24 5,[]⟩,
 ⟨ia 25 4 23 24,[4,5]⟩,
 ⟨lS 26 4 25,[6,4,5]⟩,
 ⟨o0 6 (.new 142 [(.int .i64 0),(.int .i64 0),.nl,.nl]),[]⟩,
 ⟨o0 7 (.new 142 [(.int .i64 0),(.int .i64 0),.nl,.nl]),[]⟩,
 ⟨sT 4 6 22,[8,3,2,0,1,9]⟩] [(6,8),(7,9)] [])
 (.reg [sT 4 7 26] [19,20,21,22,23,24,25,26]))
 (sr [fa 27 0 6,
 lo 28 27,
 fa 29 0 7,
 lo 30 29,
 bS 31 .neq 28 30,
 mv 32 31,
 oF 33 32 (fd 1 6),
 oF 34 32 (ld 33),
 oF 35 32 (fd 1 7),
 oF 36 32 (ld 35),
 oF 37 32 (.bin .neq (.s 34) (.s 36)),
 pT 38 32 37,
 mv 39 38,
 oF 40 39 (fd 2 6),
 oF 41 39 (ld 40),
 oF 42 39 (fd 2 7),
 oF 43 39 (ld 42),
 oF 44 39 (.call 78 [(.s 41),(.s 43)]),
 oF 45 39 (.un .not (.s 44)),
 pT 46 39 45,
 mv 47 46,
 oF 48 47 (fd 3 6),
 oF 49 47 (ld 48),
 oF 50 47 (.cvs (.s 49)),
 oF 51 47 (fd 3 7),
 oF 52 47 (ld 51),
 oF 53 47 (.cvs (.s 52)),
 oF 54 47 (.bin .neq (.s 50) (.s 53)),
 pT 55 47 54] [27,28,29,30,31,32,33,34,35,36,37,38,39,40,41,42,43,44,45,46,47,48,49,50,51,52,53,54]
 (.cond (.s 55)
 (sr [mB 4 false] []
 .ret)
 .skip))))
 (.reg [mv 17 5,
 bI 18 .add 17 1,
 mv 5 18] [17,18]))))))
 (sr [mB 4 true] []
 .ret))))⟩
theorem Xg:ax Tryz.prog 23=some G2:=by kernel_rfl
abbrev Y7:FuncId:=23
def Bl:aH :=
⟨138,1,[.tmp 2],
 (sr [o0 1 (.box 33 12 (.s 0)),
 mB 2 false] []
 (.seq (sr [mI 3 0] []
 (.block 0 (.loop (.seq (sr [mv 18 3,
 fa 19 2 1,
 lo 20 19,
 ln 21 20,
 bS 22 .lss 18 21] [18,19,20,21]
 (.cond (.s 22)
 .skip
 (.exit 0)))
 (.seq (.block 1 (sr [fa 26 2 1,
 lo 27 26,
 mv 28 3,
 ia 29 3 27 28,
 fa 30 2 29,
 lo 31 30,
 c1 32 92 31,
 mv 25 32,
 xt 33 25 0,
 xt 34 25 1,
 mv 4 33,
 mv 5 34] [26,27,28,29,30,31,32,25,33,34,4]
 (sr [mv 35 5,
 bI 36 .neq 35 0] [35]
 (.cond (.s 36)
 (sr [mB 2 false] []
 .ret)
 .skip))))
 (.reg [mv 23 3,
 bI 24 .add 23 1,
 mv 3 24] [23,24]))))))
 (.seq (sr [mI 6 0] []
 (.block 2 (.loop (.seq (sr [mv 37 6,
 fa 38 5 1,
 lo 39 38,
 ln 40 39,
 bS 41 .lss 37 40] [37,38,39,40]
 (.cond (.s 41)
 .skip
 (.exit 2)))
 (.seq (.block 3 (sr [fa 45 5 1,
 lo 46 45,
 mv 47 6,
 ia 48 3 46 47,
 fa 49 2 48,
 lo 50 49,
 c1 51 92 50,
 mv 44 51,
 xt 52 44 0,
 xt 53 44 1,
 mv 7 52,
 mv 8 53] [45,46,47,48,49,50,51,44,52,53,7]
 (sr [mv 54 8,
 bI 55 .neq 54 0] [54]
 (.cond (.s 55)
 (sr [mB 2 false] []
 .ret)
 .skip))))
 (.reg [mv 42 6,
 bI 43 .add 42 1,
 mv 6 43] [42,43]))))))
 (.seq (sr [mI 9 0] []
 (.block 4 (.loop (.seq (sr [mv 56 9,
 fa 57 9 1,
 lo 58 57,
 ln 59 58,
 bS 60 .lss 56 59] [56,57,58,59]
 (.cond (.s 60)
 .skip
 (.exit 4)))
 (.seq (.block 5 (.seq (sr [fa 64 9 1,
 lo 65 64,
 mv 66 9,
 ia 67 5 65 66,
 fa 68 2 67,
 lo 69 68,
 c1 70 92 69,
 mv 63 70,
 xt 71 63 0,
 xt 72 63 1,
 mv 10 71,
 mv 11 72] [64,65,66,67,68,69,70,63,71,72,10]
 (sr [fa 73 9 1,
 lo 74 73,
 mv 75 9,
 ia 76 5 74 75,
 fa 77 0 76,
 lo 78 77,
 bI 79 .eql 78 0,
 mv 80 79,
 mt 81 11 80,
 ot 82 80 (.bin .neq (.s 81) (iC 0)),
 pF 83 80 82] [73,74,75,76,77,78,79,80,81,82]
 (.cond (.s 83)
 (sr [mB 2 false] []
 .ret)
 .skip)))
 (sr [mI 12 0] []
 (.block 6 (.loop (.seq (sr [mv 84 12,
 fa 85 9 1,
 lo 86 85,
 mv 87 9,
 ia 88 5 86 87,
 fa 89 4 88,
 lo 90 89,
 ln 91 90,
 bS 92 .lss 84 91] [84,85,86,87,88,89,90,91]
 (.cond (.s 92)
 .skip
 (.exit 6)))
 (.seq (.block 7 (sr [fa 96 9 1,
 lo 97 96,
 mv 98 9,
 ia 99 5 97 98,
 fa 100 4 99,
 lo 101 100,
 mv 102 12,
 ia 103 1 101 102,
 lo 104 103,
 c1 105 92 104,
 mv 95 105,
 xt 106 95 0,
 xt 107 95 1,
 mv 13 106,
 mv 14 107] [96,97,98,99,100,101,102,103,104,105,95,106,107,13]
 (sr [mv 108 14,
 bI 109 .neq 108 0] [108]
 (.cond (.s 109)
 (sr [mB 2 false] []
 .ret)
 .skip))))
 (.reg [mv 93 12,
 bI 94 .add 93 1,
 mv 12 94] [93,94]))))))))
 (.reg [mv 61 9,
 bI 62 .add 61 1,
 mv 9 62] [61,62]))))))
 (.seq (sr [mI 15 0] []
 (.block 8 (.loop (.seq (sr [mv 110 15,
 fa 111 10 1,
 lo 112 111,
 ln 113 112,
 bS 114 .lss 110 113] [110,111,112,113]
 (.cond (.s 114)
 .skip
 (.exit 8)))
 (.seq (.block 9 (sr [fa 118 10 1,
 lo 119 118,
 mv 120 15,
 ia 121 4 119 120,
 fa 122 2 121,
 lo 123 122,
 c1 124 92 123,
 mv 117 124,
 xt 125 117 0,
 xt 126 117 1,
 mv 16 125,
 mv 17 126] [118,119,120,121,122,123,124,117,125,126,16]
 (sr [fa 127 10 1,
 lo 128 127,
 mv 129 15,
 ia 130 4 128 129,
 fa 131 0 130,
 lo 132 131,
 bI 133 .eql 132 0,
 mv 134 133,
 mt 135 17 134,
 ot 136 134 (.bin .neq (.s 135) (iC 0)),
 pF 137 134 136] [127,128,129,130,131,132,133,134,135,136]
 (.cond (.s 137)
 (sr [mB 2 false] []
 .ret)
 .skip))))
 (.reg [mv 115 15,
 bI 116 .add 115 1,
 mv 15 116] [115,116]))))))
 (sr [mB 2 true] []
 .ret))))))⟩
theorem Rs:ax Tryz.prog 26=some Bl:=by kernel_rfl
abbrev TK:FuncId:=26
def B_:aH :=
⟨3,0,[.tmp 0],
 (sr [o0 0 (.mov (.c .np))] []
 (sr [o0 1 (.build [(.bool false),.nl,(.int .i64 0)] [(0,1,(bC true))]),
 o0 2 (.box 175 3 (.s 1)),
 mv 0 2] [1,2]
 .ret))⟩
theorem SD:ax Tryz.prog 35=some B_:=by kernel_rfl
abbrev Ls:FuncId:=35
def Ms:aH :=
⟨16,3,[],
 (sr [c0 6 35,
 mv 5 6] [6]
 (sr [mv 7 1,
 mv 8 5,
 o0 9 (.callv (.s 7) [(.s 8)])] [7,8,9]
 (sr [lo 10 2,
 mv 11 0,
 c2 12 37 10 11] [10,11,12]
 (.reg [lo 13 2,
 mv 14 5,
 c2 15 38 13 14] [13,14,15]))))⟩
theorem Xo:ax Tryz.prog 36=some Ms:=by kernel_rfl
abbrev Ze:FuncId:=36
def Mf:aH :=
⟨8,2,[],
 (.reg [mv 4 0,
 mv 5 1,
 o0 6 (.bsl 5 1 [[(.int .u8 0)]] [(0,(.s 5))]),
 c2 7 111 4 6] [4,5,6,7])⟩
theorem WW:ax Tryz.prog 37=some Mf:=by kernel_rfl
abbrev YN:FuncId:=37
def Cl:aH :=
⟨39,2,[],
 (.seq (sr [mv 5 1,
 o0 6 (.pbin .eql (.s 5) (.c .np)),
 mv 7 6,
 mf 8 1 7,
 oF 9 7 (.nchk (.s 8)),
 oF 10 7 (fd 0 9),
 oF 11 7 (ld 10),
 oF 12 7 (.un .not (.s 11)),
 pT 13 7 12] [5,6,7,8,9,10,11,12]
 (.cond (.s 13)
 (sr [mv 14 0,
 o0 15 (.call 112 [(.s 14),(iC 2)])] [14,15]
 .ret)
 .skip))
 (.seq (sr [mv 16 1,
 nk 17 16,
 fa 18 2 17,
 lo 19 18,
 bI 20 .neq 19 0] [16,17,18,19]
 (.cond (.s 20)
 (sr [mv 21 0,
 mv 22 1,
 nk 23 22,
 fa 24 2 23,
 lo 25 24,
 c2 26 112 21 25] [21,22,23,24,25,26]
 .ret)
 .skip))
 (sr [mv 27 1,
 nk 28 27,
 fa 29 1 28,
 lo 30 29,
 o0 31 (.app 5 1 (.c .nl) (.s 30)),
 mv 4 31] [27,28,29,30,31]
 (sr [mv 32 0,
 mv 33 4,
 ln 34 33,
 c2 35 44 32 34] [32,33,34,35]
 (.reg [mv 36 0,
 mv 37 4,
 c2 38 111 36 37] [36,37,38])))))⟩
theorem W0:ax Tryz.prog 38=some Cl:=by kernel_rfl
abbrev YQ:FuncId:=38
def Mv:aH :=
⟨7,2,[],
 (.reg [mv 3 0,
 fa 4 1 1,
 lo 5 4,
 c2 6 42 3 5] [3,4,5,6])⟩
theorem Xq:ax Tryz.prog 41=some Mv:=by kernel_rfl
abbrev Zg:FuncId:=41
def Mx:aH :=
⟨26,2,[],
 (sr [mv 5 0,
 fa 6 2 1,
 lo 7 6,
 ln 8 7,
 c2 9 44 5 8] [5,6,7,8,9]
 (sr [fa 10 2 1,
 lo 11 10,
 ln 12 11,
 mI 13 0] [10]
 (.block 0 (.loop (sr [bS 14 .lss 13 12] []
 (.seq (.cond (.s 14)
 .skip
 (.exit 0))
 (.seq (.block 1 (sr [ia 15 2 11 13,
 lS 16 2 15,
 o0 4 (.new 50 [(.int .i64 0),.nl]),
 sT 2 4 16] [15,16]
 (sr [mv 17 0,
 fa 18 0 4,
 lo 19 18,
 c2 20 44 17 19] [17,18,19,20]
 (.reg [mv 21 0,
 fa 22 1 4,
 lo 23 22,
 c2 24 42 21 23] [21,22,23,24]))))
 (.reg [bI 25 .add 13 1,
 mv 13 25] [25]))))))))⟩
theorem Xr:ax Tryz.prog 43=some Mx:=by kernel_rfl
abbrev Zh:FuncId:=43
def BN:aH :=
⟨7,1,[.tmp 2],
 (sr [o0 2 (.mov (.c .np))] []
 (sr [mv 3 0,
 o0 4 (.app 5 1 (.c .nl) (.s 3)),
 o0 5 (.build [(.bool false),.nl,(.int .i64 0),(.int .i64 0)] [(0,1,(bC true)),(1,1,(.s 4))]),
 o0 6 (.box 184 4 (.s 5)),
 mv 2 6] [3,4,5,6]
 .ret))⟩
theorem R9:ax Tryz.prog 46=some BN:=by kernel_rfl
abbrev Uc:FuncId:=46
def Mo:aH :=
⟨25,2,[.tmp 4],
 (sr [o0 4 (.mov (.c .np))] []
 (.seq (sr [mv 6 0,
 o0 7 (.pbin .eql (.s 6) (.c .np)),
 mv 8 7,
 mf 9 0 8,
 oF 10 8 (.nchk (.s 9)),
 oF 11 8 (fd 0 10),
 oF 12 8 (ld 11),
 oF 13 8 (.un .not (.s 12)),
 pT 14 8 13] [6,7,8,9,10,11,12,13]
 (.cond (.s 14)
 (sr [o0 4 (.mov (.c .np))] []
 .ret)
 .skip))
 (sr [mv 15 0,
 mv 16 1,
 c2 17 116 15 16,
 mv 5 17] [15,16,17]
 (sr [mv 18 5,
 mv 19 0,
 nk 20 19,
 fa 21 3 20,
 lo 22 21,
 o0 23 (.build [(.bool false),.nl,(.int .i64 0),(.int .i64 0)] [(0,1,(bC true)),(1,1,(.s 18)),(3,1,(.s 22))]),
 o0 24 (.box 184 4 (.s 23)),
 mv 4 24] [18,19,20,21,22,23,24]
 .ret))))⟩
theorem W8:ax Tryz.prog 49=some Mo:=by kernel_rfl
abbrev YZ:FuncId:=49
def Mn:aH :=
⟨21,1,[.tmp 2],
 (sr [mI 2 0] []
 (.seq (sr [mv 4 0,
 c1 5 120 4,
 mv 3 5] [4,5]
 (.seq (sr [mv 6 3] []
 (sr [bI 7 .neq 6 0] []
 (sr [mv 8 7] []
 (.seq (.draw [⟨mf 9 0 8,[]⟩,
 ⟨oF 10 8 (.nchk (.s 9)),[0]⟩,
 ⟨oF 11 8 (fd 2 10),[1,0]⟩,
 ⟨oF 12 8 (ld 11),[2,1,0]⟩,
 ⟨mf 13 0 8,[]⟩,
 ⟨oF 14 8 (.nchk (.s 13)),[4]⟩,
 ⟨oF 15 8 (fd 1 14),[5,4]⟩,
 ⟨oF 16 8 (ld 15),[6,5,4]⟩,
 ⟨oF 17 8 (.len (.s 16)),[7,6,5,4]⟩] [] [])
 (sr [oF 18 8 (.bin .eql (.s 12) (.s 17))] []
 (.reg [pT 19 8 18] [6,7,8,9,10,11,12,13,14,15,16,17,18]))))))
 (.cond (.s 19)
 (sr [mv 20 3,
 mv 2 20] [20]
 .ret)
 .skip)))
 (sr [mI 2 5] []
 .ret)))⟩
theorem W6:ax Tryz.prog 54=some Mn:=by kernel_rfl
abbrev YW:FuncId:=54
def BK:aH :=
⟨22,2,[.tmp 4],
 (sr [o0 4 (.mov (.c (.str [])))] []
 (.seq (sr [mv 7 0,
 ln 8 7,
 mI 9 0] []
 (.block 0 (.loop (sr [bS 10 .lss 9 8] []
 (.seq (.cond (.s 10)
 .skip
 (.exit 0))
 (.seq (.block 1 (.seq (.reg [ia 11 2 7 9,
 lS 12 2 11,
 o0 6 (.new 180 [(.int .i64 0),(.str [])]),
 sT 2 6 12] [11,12])
 (.seq (.reg [lS 13 2 6,
 mv 14 1,
 fa 15 1 6,
 lo 16 15,
 o0 17 (.build [(.int .i64 0),(.str [])] [(0,1,(.s 14)),(1,1,(.s 16))]),
 o0 18 (.sbin .eql [.i,.s] (.s 13) (.s 17))] [13,14,15,16,17])
 (.cond (.s 18)
 (sr [fa 19 1 6,
 lo 20 19,
 mv 4 20] [19,20]
 .ret)
 .skip))))
 (.reg [bI 21 .add 9 1,
 mv 9 21] [21])))))))
 (sr [o0 4 (.mov (.c (.str [])))] []
 .ret)))⟩
theorem R6:ax Tryz.prog 55=some BK:=by kernel_rfl
abbrev T_:FuncId:=55
def Wl:aH :=
⟨8,1,[.tmp 2],
 (sr [o0 2 (.mov (.c .nl))] []
 (.seq (sr [mv 3 0,
 o0 4 (.snl false (.s 3))] [3]
 (.cond (.s 4)
 (sr [o0 2 (.mov (.c .nl))] []
 .ret)
 .skip))
 (sr [o0 5 (.bsl 118 4 [] []),
 mv 6 0,
 o0 7 (.app 118 4 (.s 5) (.s 6)),
 mv 2 7] [5,6,7]
 .ret)))⟩
theorem cX3:ax Tryz.prog 60=some Wl:=by kernel_rfl
abbrev nX3:FuncId:=60
def Mj:aH :=
⟨22,2,[.tmp 4],
 (sr [o0 4 (.mov (.c .nl))] []
 (sr [o0 5 (.mov (.c .nl))] []
 (.seq (sr [mv 8 0,
 ln 9 8,
 mI 10 0] []
 (.block 0 (.loop (sr [bS 11 .lss 10 9] []
 (.seq (.cond (.s 11)
 .skip
 (.exit 0))
 (.seq (.block 1 (sr [ia 12 3 8 10,
 lS 13 3 12,
 o0 7 (.new 130 [(.int .i64 0),.nl,.nl]),
 sT 3 7 13] [12,13]
 (.reg [mv 14 5,
 mv 15 1,
 lS 16 3 7,
 o0 17 (.callv (.s 15) [(.s 16)]),
 o0 18 (.bsl 130 3 [[(.int .i64 0),.nl,.nl]] [(0,(.s 17))]),
 o0 19 (.app 130 3 (.s 14) (.s 18)),
 mv 5 19] [14,15,16,17,18,19])))
 (.reg [bI 20 .add 10 1,
 mv 10 20] [20])))))))
 (sr [mv 21 5,
 mv 4 21] [21]
 .ret))))⟩
theorem W2:ax Tryz.prog 63=some Mj:=by kernel_rfl
abbrev YS:FuncId:=63
def Bq:aH :=
⟨12,1,[.cell 2 (some 5)],
 (sr [o0 1 (.box 55 5 (.s 0)),
 o0 2 (.new 55 [(.int .i64 0),(.int .i64 0),.nl,(.int .i64 0),.nl])] []
 (.seq (.seq (.draw [⟨fa 3 2 1,[]⟩,
 ⟨lo 4 3,[0]⟩,
 ⟨c1 5 65 4,[1,0]⟩,
 ⟨fa 6 4 1,[]⟩,
 ⟨lo 7 6,[3]⟩] [] [])
 (.seq (.draw [⟨o0 8 (.call 70 [(.s 7),(.c (.fn 65 []))]),[]⟩,
 ⟨fa 9 2 1,[]⟩] [] [])
 (sr [sT 1 9 5] []
 (sr [fa 10 4 1] []
 (.reg [sT 1 10 8] [3,4,5,6,7,8,9,10])))))
 (sr [lS 11 5 1,
 sT 5 2 11] [11]
 .ret)))⟩
theorem Rx:ax Tryz.prog 69=some Bq:=by kernel_rfl
abbrev ES:FuncId:=69
def Wp:aH :=
⟨8,1,[.tmp 2],
 (sr [o0 2 (.mov (.c .nl))] []
 (.seq (sr [mv 3 0,
 o0 4 (.snl false (.s 3))] [3]
 (.cond (.s 4)
 (sr [o0 2 (.mov (.c .nl))] []
 .ret)
 .skip))
 (sr [o0 5 (.bsl 5 1 [] []),
 mv 6 0,
 o0 7 (.app 5 1 (.s 5) (.s 6)),
 mv 2 7] [5,6,7]
 .ret)))⟩
theorem cX7:ax Tryz.prog 73=some Wp:=by kernel_rfl
abbrev nX7:FuncId:=73
def Bs:aH :=
⟨8,1,[.cell 2 (some 3)],
 (.seq (.reg [o0 1 (.box 61 3 (.s 0)),
 o0 2 (.new 61 [(.int .i64 0),(.str []),.nl])] [])
 (sr [fa 3 2 1,
 lo 4 3,
 c1 5 73 4,
 fa 6 2 1,
 sT 1 6 5] [3,4,5,6]
 (sr [lS 7 3 1,
 sT 3 2 7] [7]
 .ret)))⟩
theorem Rz:ax Tryz.prog 75=some Bs:=by kernel_rfl
abbrev EU:FuncId:=75
def Hb:aH :=
⟨27,2,[.tmp 4],
 (sr [mB 4 false] []
 (.seq (sr [mv 6 0,
 ln 7 6,
 mv 8 1,
 ln 9 8,
 bS 10 .neq 7 9] [6,7,8,9]
 (.cond (.s 10)
 (sr [mB 4 false] []
 .ret)
 .skip))
 (.seq (sr [mI 5 0] []
 (.block 0 (.loop (.seq (sr [mv 11 5,
 mv 12 0,
 ln 13 12,
 bS 14 .lss 11 13] [11,12,13]
 (.cond (.s 14)
 .skip
 (.exit 0)))
 (.seq (.block 1 (.seq (.seq (.draw [⟨mv 17 0,[]⟩,
 ⟨mv 18 5,[]⟩,
 ⟨ia 19 9 17 18,[0,1]⟩,
 ⟨lS 20 9 19,[2,0,1]⟩,
 ⟨mv 21 1,[]⟩,
 ⟨mv 22 5,[]⟩,
 ⟨ia 23 9 21 22,[4,5]⟩,
 ⟨lS 24 9 23,[6,4,5]⟩] [] [])
 (sr [c2 25 124 20 24] []
 (.reg [uN 26 25] [17,18,19,20,21,22,23,24,25])))
 (.cond (.s 26)
 (sr [mB 4 false] []
 .ret)
 .skip)))
 (.reg [mv 15 5,
 bI 16 .add 15 1,
 mv 5 16] [15,16]))))))
 (sr [mB 4 true] []
 .ret))))⟩
theorem XF:ax Tryz.prog 78=some Hb:=by kernel_rfl
abbrev Zq:FuncId:=78
def M2:aH :=
⟨32,1,[.cell 2 (some 4)],
 (sr [o0 1 (.box 33 12 (.s 0)),
 o0 2 (.new 73 [(.int .i64 0),(.int .i64 0),(.int .i64 0),(.int .i64 0)])] []
 (.seq (.seq (.draw [⟨fa 5 3 1,[]⟩,
 ⟨lo 6 5,[0]⟩,
 ⟨ln 7 6,[1,0]⟩,
 ⟨lS 8 12 1,[]⟩,
 ⟨o0 9 (.call 130 [(.s 8),(iC 1)]),[3]⟩,
 ⟨o0 10 (.bin .sub (iC 4) (.s 9)),[4,3]⟩,
 ⟨o0 11 (.call 125 [(iC 4),(.s 7),(.s 10)]),[2,1,0,5,4,3]⟩,
 ⟨o0 3 (.new 73 [(.int .i64 0),(.int .i64 0),(.int .i64 0),(.int .i64 0)]),[]⟩] [(3,7)] [])
 (.reg [sT 4 3 11] [5,6,7,8,9,10,11]))
 (.seq (sr [mI 4 0] []
 (.block 0 (.loop (.seq (sr [mv 12 4,
 fa 13 3 1,
 lo 14 13,
 ln 15 14,
 bS 16 .lss 12 15,
 mv 17 16,
 ot 18 17 (.load (some 4) (.s 3)),
 ot 19 17 (.call 91 [(.s 18)]),
 pF 20 17 19] [12,13,14,15,16,17,18,19]
 (.cond (.s 20)
 .skip
 (.exit 0)))
 (.seq (.block 1 (.reg [mv 23 4,
 fa 24 3 1,
 lo 25 24,
 mv 26 4,
 ia 27 4 25 26,
 lS 28 4 27,
 c1 29 132 28,
 o0 30 (.call 126 [(iC 4),(.s 23),(.s 29)]),
 sT 4 3 30] [23,24,25,26,27,28,29,30]))
 (.reg [mv 21 4,
 bI 22 .add 21 1,
 mv 4 22] [21,22]))))))
 (sr [lS 31 4 3,
 sT 4 2 31] [31]
 .ret))))⟩
theorem X3:ax Tryz.prog 82=some M2:=by kernel_rfl
abbrev ZK:FuncId:=82
def MN:aH :=
⟨42,1,[.cell 2 (some 4)],
 (sr [o0 1 (.box 33 12 (.s 0)),
 o0 2 (.new 73 [(.int .i64 0),(.int .i64 0),(.int .i64 0),(.int .i64 0)])] []
 (.seq (.seq (.draw [⟨fa 5 5 1,[]⟩,
 ⟨lo 6 5,[0]⟩,
 ⟨ln 7 6,[1,0]⟩,
 ⟨lS 8 12 1,[]⟩,
 ⟨o0 9 (.call 130 [(.s 8),(iC 3)]),[3]⟩,
 ⟨o0 10 (.bin .sub (iC 32) (.s 9)),[4,3]⟩,
 ⟨o0 11 (.call 125 [(iC 6),(.s 7),(.s 10)]),[2,1,0,5,4,3]⟩,
 ⟨o0 3 (.new 73 [(.int .i64 0),(.int .i64 0),(.int .i64 0),(.int .i64 0)]),[]⟩] [(3,7)] [])
 (.reg [sT 4 3 11] [5,6,7,8,9,10,11]))
 (.seq (sr [mI 4 0] []
 (.block 0 (.loop (.seq (sr [mv 12 4,
 fa 13 5 1,
 lo 14 13,
 ln 15 14,
 bS 16 .lss 12 15,
 mv 17 16,
 ot 18 17 (.load (some 4) (.s 3)),
 ot 19 17 (.call 91 [(.s 18)]),
 pF 20 17 19] [12,13,14,15,16,17,18,19]
 (.cond (.s 20)
 .skip
 (.exit 0)))
 (.seq (.block 1 (sr [fa 23 5 1,
 lo 24 23,
 mv 25 4,
 ia 26 3 24 25,
 fa 27 0 26,
 lS 28 2 27,
 c1 29 134 28,
 uN 30 29] [23,24,25,26,27,28,29]
 (.cond (.s 30)
 (.reg [mv 31 4,
 o0 32 (.call 126 [(iC 6),(.s 31),(iC 12)]),
 sT 4 3 32] [31,32])
 (.reg [mv 33 4,
 fa 34 5 1,
 lo 35 34,
 mv 36 4,
 ia 37 3 35 36,
 fa 38 2 37,
 lo 39 38,
 o0 40 (.call 135 [(iC 6),(.s 33),(.s 39)]),
 sT 4 3 40] [33,34,35,36,37,38,39,40]))))
 (.reg [mv 21 4,
 bI 22 .add 21 1,
 mv 4 22] [21,22]))))))
 (sr [lS 41 4 3,
 sT 4 2 41] [41]
 .ret))))⟩
theorem XK:ax Tryz.prog 84=some MN:=by kernel_rfl
abbrev Zu:FuncId:=84
def ML:aH :=
⟨56,1,[.cell 2 (some 4)],
 (sr [o0 1 (.box 33 12 (.s 0)),
 o0 2 (.new 73 [(.int .i64 0),(.int .i64 0),(.int .i64 0),(.int .i64 0)])] []
 (sr [fa 6 11 1,
 lo 7 6,
 ln 8 7,
 o0 9 (.call 125 [(iC 11),(.s 8),(iC 8)]),
 o0 3 (.new 73 [(.int .i64 0),(.int .i64 0),(.int .i64 0),(.int .i64 0)]),
 sT 4 3 9] [6,7,8,9]
 (.seq (sr [mI 4 0] []
 (.block 0 (.loop (.seq (sr [mv 10 4,
 fa 11 11 1,
 lo 12 11,
 ln 13 12,
 bS 14 .lss 10 13,
 mv 15 14,
 ot 16 15 (.load (some 4) (.s 3)),
 ot 17 15 (.call 91 [(.s 16)]),
 pF 18 15 17] [10,11,12,13,14,15,16,17]
 (.cond (.s 18)
 .skip
 (.exit 0)))
 (.seq (.block 1 (.seq (.reg [fa 21 11 1,
 lo 22 21,
 mv 23 4,
 ia 24 3 22 23,
 lS 25 3 24,
 o0 5 (.new 61 [(.int .i64 0),(.str []),.nl]),
 sT 3 5 25] [21,22,23,24,25])
 (sr [mv 26 4,
 fa 27 1 5,
 lo 28 27,
 c1 29 128 28,
 o0 30 (.call 126 [(iC 11),(.s 26),(.s 29)]),
 sT 4 3 30] [26,27,28,29,30]
 (.seq (sr [lS 31 4 3,
 c1 32 91 31,
 mv 33 32,
 ot 34 33 (fd 2 5),
 ot 35 33 (ld 34),
 ot 36 33 (.len (.s 35)),
 ot 37 33 (.bin .gtr (.s 36) (iC 4096)),
 pF 38 33 37] [31,32,33,34,35,36,37]
 (.cond (.s 38)
 (.reg [mv 39 4,
 o0 40 (.call 126 [(iC 11),(.s 39),(iC 6)]),
 sT 4 3 40] [39,40])
 .skip))
 (sr [lS 41 4 3,
 c1 42 91 41,
 mv 43 42,
 ot 44 43 (fd 0 5),
 ot 45 43 (ld 44),
 ot 46 43 (.bin .lss (.s 45) (iC 0)),
 mt 47 46 43,
 oF 48 47 (fd 0 5),
 oF 49 47 (ld 48),
 oF 50 47 (.bin .gtr (.s 49) (iC 12)),
 ot 51 43 (.pick (.s 47) (bC true) (.s 50)),
 pF 52 43 51] [41,42,43,44,45,46,47,48,49,50,51]
 (.cond (.s 52)
 (.reg [mv 53 4,
 o0 54 (.call 126 [(iC 11),(.s 53),(iC 1)]),
 sT 4 3 54] [53,54])
 .skip))))))
 (.reg [mv 19 4,
 bI 20 .add 19 1,
 mv 4 20] [19,20]))))))
 (sr [lS 55 4 3,
 sT 4 2 55] [55]
 .ret))))⟩
theorem XI:ax Tryz.prog 89=some ML:=by kernel_rfl
abbrev Zs:FuncId:=89
def Cr:aH :=
⟨18,2,[.cell 4 (some 2)],
 (sr [o0 2 (.box 81 2 (.s 0)),
 o0 4 (.new 81 [.nl,(.int .i64 0)])] []
 (.seq (sr [mv 5 1,
 bI 6 .lss 5 0,
 mv 7 6,
 mf 8 1 7,
 oF 9 7 (.bin .geq (.s 8) (iC 4294967296)),
 pT 10 7 9] [5,6,7,8,9]
 (.cond (.s 10)
 (sr [lS 11 2 2,
 o0 12 (.call 140 [(.s 11),(iC 1)]),
 sT 2 4 12] [11,12]
 .ret)
 .skip))
 (.seq (.seq (.draw [⟨lS 13 2 2,[]⟩,
 ⟨mv 14 1,[]⟩,
 ⟨o0 15 (.cvi .u64 (.s 14)),[1]⟩,
 ⟨o0 16 (.call 141 [(.c .nl),(.s 15)]),[2,1]⟩] [] [])
 (sr [c2 17 103 13 16] []
 (.reg [sT 2 4 17] [13,14,15,16,17])))
 .ret)))⟩
theorem XW:ax Tryz.prog 94=some Cr:=by kernel_rfl
abbrev tp:FuncId:=94
def MB:aH :=
⟨24,2,[.cell 4 (some 2)],
 (sr [o0 2 (.box 81 2 (.s 0)),
 o0 3 (.box 118 4 (.s 1)),
 o0 4 (.new 81 [.nl,(.int .i64 0)])] []
 (.seq (sr [fa 5 0 3,
 lo 6 5,
 c1 7 144 6,
 uN 8 7] [5,6,7]
 (.cond (.s 8)
 (sr [lS 9 2 2,
 o0 10 (.call 140 [(.s 9),(iC 12)]),
 sT 2 4 10] [9,10]
 .ret)
 .skip))
 (.seq (sr [fa 11 1 3,
 lS 12 3 11,
 c1 13 145 12,
 uN 14 13] [11,12,13]
 (.cond (.s 14)
 (sr [lS 15 2 2,
 o0 16 (.call 140 [(.s 15),(iC 20)]),
 sT 2 4 16] [15,16]
 .ret)
 .skip))
 (.seq (.seq (.draw [⟨lS 17 2 2,[]⟩,
 ⟨fa 18 0 3,[]⟩,
 ⟨lo 19 18,[1]⟩,
 ⟨c2 20 146 17 19,[0,2,1]⟩,
 ⟨fa 21 1 3,[]⟩,
 ⟨lS 22 3 21,[4]⟩] [] [])
 (sr [c2 23 98 20 22] []
 (.reg [sT 2 4 23] [17,18,19,20,21,22,23])))
 .ret))))⟩
theorem Xx:ax Tryz.prog 97=some MB:=by kernel_rfl
abbrev Zl:FuncId:=97
def M6:aH :=
⟨19,2,[.cell 4 (some 2)],
 (sr [o0 2 (.box 81 2 (.s 0)),
 o0 4 (.new 81 [.nl,(.int .i64 0)])] []
 (.seq (sr [mI 5 0] []
 (.block 0 (.loop (.seq (sr [mv 6 5,
 mv 7 1,
 ln 8 7,
 bS 9 .lss 6 8] [6,7,8]
 (.cond (.s 9)
 .skip
 (.exit 0)))
 (.seq (.block 1 (.seq (.draw [⟨lS 12 2 2,[]⟩,
 ⟨mv 13 1,[]⟩,
 ⟨mv 14 5,[]⟩,
 ⟨ia 15 9 13 14,[1,2]⟩,
 ⟨lS 16 9 15,[3,1,2]⟩] [] [])
 (sr [c2 17 147 12 16] []
 (.reg [sT 2 2 17] [12,13,14,15,16,17]))))
 (.reg [mv 10 5,
 bI 11 .add 10 1,
 mv 5 11] [10,11]))))))
 (sr [lS 18 2 2,
 sT 2 4 18] [18]
 .ret)))⟩
theorem X8:ax Tryz.prog 99=some M6:=by kernel_rfl
abbrev ZO:FuncId:=99
def G8:aH :=
⟨17,2,[.cell 4 (some 2)],
 (sr [o0 2 (.box 81 2 (.s 0)),
 o0 4 (.new 81 [.nl,(.int .i64 0)])] []
 (.seq (sr [fa 5 1 2,
 lo 6 5,
 bI 7 .neq 6 0] [5,6]
 (.cond (.s 7)
 (sr [lS 8 2 2,
 sT 2 4 8] [8]
 .ret)
 .skip))
 (sr [o0 9 (.bsl 5 1 [] []),
 fa 10 0 2,
 lo 11 10,
 o0 12 (.app 5 1 (.s 9) (.s 11)),
 mv 13 1,
 o0 14 (.app 5 1 (.s 12) (.s 13)),
 fa 15 0 2,
 sT 1 15 14] [9,10,11,12,13,14,15]
 (sr [lS 16 2 2,
 sT 2 4 16] [16]
 .ret))))⟩
theorem Xs:ax Tryz.prog 103=some G8:=by kernel_rfl
abbrev UW:FuncId:=103
def MG:aH :=
⟨9,2,[.cell 4 (some 2)],
 (sr [o0 2 (.box 81 2 (.s 0)),
 o0 4 (.new 81 [.nl,(.int .i64 0)])] []
 (.seq (.reg [lS 5 2 2,
 mv 6 1,
 o0 7 (.bsl 5 1 [[(.int .u8 0)]] [(0,(.s 6))]),
 c2 8 103 5 7,
 sT 2 4 8] [5,6,7,8])
 .ret))⟩
theorem XB:ax Tryz.prog 106=some MG:=by kernel_rfl
abbrev O0:FuncId:=106
def BM:aH :=
⟨11,1,[.tmp 2],
 (sr [mI 2 0] []
 (.seq (.block 0 (sr [mv 4 0,
 c1 5 151 4,
 uN 6 5,
 mv 3 6] [4,5,6]
 (.cond (.s 3)
 (sr [mI 2 9] []
 .ret)
 (sr [mv 8 0,
 o0 9 (.slen (.s 8)),
 bI 10 .gtr 9 64,
 mv 7 10] [8,9,10]
 (.cond (.s 7)
 (sr [mI 2 6] []
 .ret)
 .skip)))))
 (sr [mI 2 0] []
 .ret)))⟩
theorem R8:ax Tryz.prog 108=some BM:=by kernel_rfl
abbrev Ub:FuncId:=108
def L8:aH :=
⟨15,2,[],
 (sr [mv 4 0,
 c1 5 153 4] [4]
 (.cond (.s 5)
 (.reg [mv 6 0,
 mv 7 0,
 nk 8 7,
 fa 9 1 8,
 lo 10 9,
 mv 11 1,
 o0 12 (.app 5 1 (.s 10) (.s 11)),
 nk 13 6,
 fa 14 1 13,
 sT 1 14 12] [6,7,8,9,10,11,12,13,14])
 .skip))⟩
theorem WO:ax Tryz.prog 111=some L8:=by kernel_rfl
abbrev YG:FuncId:=111
def Mg:aH :=
⟨10,2,[],
 (sr [mv 4 0,
 c1 5 153 4] [4]
 (.cond (.s 5)
 (.reg [mv 6 0,
 mv 7 1,
 nk 8 6,
 fa 9 2 8,
 sT 1 9 7] [6,7,8,9])
 .skip))⟩
theorem WY:ax Tryz.prog 112=some Mg:=by kernel_rfl
abbrev YP:FuncId:=112
abbrev lO:FuncId:=113
def BG:aH :=
⟨40,2,[.tmp 4],
 (sr [o0 4 (.mov (.c .nl))] []
 (.seq (.reg [o0 7 (.bsl 3 1 [[(.int .i64 0)]] [(0,(iC (-1)))]),
 mv 5 7] [7])
 (.seq (sr [mI 6 0] []
 (.block 0 (.loop (.seq (sr [mv 8 6,
 mv 9 1,
 bS 10 .lss 8 9] [8,9]
 (.cond (.s 10)
 .skip
 (.exit 0)))
 (.seq (.block 1 (.seq (sr [mv 13 0,
 mv 14 6,
 ia 15 9 13 14,
 fa 16 0 15,
 lo 17 16,
 c1 18 139 17] [13,14,15,16,17]
 (.cond (.s 18)
 (.reg [mv 19 5,
 mv 20 6,
 o0 21 (.bsl 3 1 [[(.int .i64 0)]] [(0,(.s 20))]),
 o0 22 (.app 3 1 (.s 19) (.s 21)),
 mv 5 22] [19,20,21,22])
 .skip))
 (sr [mv 23 0,
 mv 24 6,
 ia 25 9 23 24,
 fa 26 0 25,
 lo 27 26,
 bI 28 .eql 27 11,
 mv 29 28,
 mt 30 5 29,
 ot 31 29 (.len (.s 30)),
 ot 32 29 (.bin .gtr (.s 31) (iC 0)),
 pF 33 29 32] [23,24,25,26,27,28,29,30,31,32]
 (.cond (.s 33)
 (.reg [mv 34 5,
 mv 35 5,
 ln 36 35,
 bI 37 .sub 36 1,
 o0 38 (.slc 1 (.s 34) none (some (.s 37)) none),
 mv 5 38] [34,35,36,37,38])
 .skip))))
 (.reg [mv 11 6,
 bI 12 .add 11 1,
 mv 6 12] [11,12]))))))
 (sr [mv 39 5,
 mv 4 39] [39]
 .ret))))⟩
theorem RY:ax Tryz.prog 137=some BG:=by kernel_rfl
abbrev T2:FuncId:=137
def BY:aH :=
⟨19,1,[.tmp 2],
 (sr [mI 2 0] []
 (.seq (sr [mv 4 0,
 ln 5 4,
 bI 6 .gtr 5 8] [4,5]
 (.cond (.s 6)
 (sr [mI 2 6] []
 .ret)
 .skip))
 (.seq (sr [mI 3 0] []
 (.block 0 (.loop (.seq (sr [mv 7 3,
 mv 8 0,
 ln 9 8,
 bS 10 .lss 7 9] [7,8,9]
 (.cond (.s 10)
 .skip
 (.exit 0)))
 (.seq (.block 1 (sr [mv 13 0,
 mv 14 3,
 ia 15 1 13 14,
 lo 16 15,
 c1 17 157 16,
 uN 18 17] [13,14,15,16,17]
 (.cond (.s 18)
 (sr [mI 2 12] []
 .ret)
 .skip)))
 (.reg [mv 11 3,
 bI 12 .add 11 1,
 mv 3 12] [11,12]))))))
 (sr [mI 2 0] []
 .ret))))⟩
theorem Sq:ax Tryz.prog 142=some BY:=by kernel_rfl
abbrev Ut:FuncId:=142
def qY:aH :=
⟨106,2,[.cell 4 (some 2)],
 (sr [o0 2 (.box 81 2 (.s 0)),
 o0 3 (.box 192 9 (.s 1)),
 o0 4 (.new 81 [.nl,(.int .i64 0)])] []
 (.seq (sr [fa 5 1 2,
 lo 6 5,
 bI 7 .neq 6 0] [5,6]
 (.cond (.s 7)
 (sr [lS 8 2 2,
 sT 2 4 8] [8]
 .ret)
 .skip))
 (.seq (sr [lS 9 9 3,
 c1 10 160 9,
 uN 11 10] [9,10]
 (.cond (.s 11)
 (sr [lS 12 2 2,
 o0 13 (.call 140 [(.s 12),(iC 10)]),
 sT 2 4 13] [12,13]
 .ret)
 .skip))
 (.seq (sr [fa 14 0 3,
 lo 15 14,
 c1 16 163 15] [14,15]
 (.cond (.s 16)
 (.seq (.draw [⟨lS 17 2 2,[]⟩,
 ⟨o0 18 (.call 106 [(.s 17),(.c (.int .u8 252))]),[0]⟩,
 ⟨fa 19 0 3,[]⟩,
 ⟨lo 20 19,[2]⟩,
 ⟨bI 21 .sub 20 64512,[3,2]⟩] [] [])
 (sr [c2 22 94 18 21] []
 (.reg [sT 2 2 22] [17,18,19,20,21,22])))
 (.reg [lS 23 2 2,
 fa 24 0 3,
 lo 25 24,
 o0 26 (.cvi .u8 (.s 25)),
 c2 27 106 23 26,
 sT 2 2 27] [23,24,25,26,27])))
 (.seq (sr [fa 28 0 3,
 lo 29 28,
 c1 30 164 29] [28,29]
 (.block 0 (sr [bI 32 .eql 30 1,
 mv 31 32] [32]
 (.cond (.s 31)
 (sr [lS 33 2 2,
 fa 34 4 3,
 lS 35 3 34,
 c2 36 165 33 35,
 sT 2 4 36] [33,34,35,36]
 .ret)
 (.seq (sr [bI 38 .eql 30 2,
 mv 37 38] [38]
 (.cond (.s 37)
 .skip
 (sr [bI 39 .eql 30 4,
 mv 37 39] [39]
 (.cond (.s 37)
 .skip
 (sr [bI 40 .eql 30 7,
 mv 37 40] [40]
 (.cond (.s 37)
 .skip
 (sr [bI 41 .eql 30 8,
 mv 37 41] [41]
 (.cond (.s 37)
 .skip
 (sr [bI 42 .eql 30 9,
 mv 37 42] [42]
 (.cond (.s 37)
 .skip
 (sr [bI 43 .eql 30 12,
 mv 37 43] [43]
 (.cond (.s 37)
 .skip
 (.reg [bI 44 .eql 30 16,
 mv 37 44] [44])))))))))))))
 (.cond (.s 37)
 (sr [lS 45 2 2,
 fa 46 1 3,
 lo 47 46,
 c2 48 94 45 47,
 sT 2 4 48] [45,46,47,48]
 .ret)
 (sr [bI 50 .eql 30 3,
 mv 49 50] [50]
 (.cond (.s 49)
 (sr [lS 51 2 2,
 lS 52 9 3,
 c2 53 166 51 52,
 sT 2 4 53] [51,52,53]
 .ret)
 (.seq (sr [bI 55 .eql 30 5,
 mv 54 55] [55]
 (.cond (.s 54)
 .skip
 (sr [bI 56 .eql 30 10,
 mv 54 56] [56]
 (.cond (.s 54)
 .skip
 (sr [bI 57 .eql 30 11,
 mv 54 57] [57]
 (.cond (.s 54)
 .skip
 (sr [bI 58 .eql 30 14,
 mv 54 58] [58]
 (.cond (.s 54)
 .skip
 (.reg [bI 59 .eql 30 15,
 mv 54 59] [59])))))))))
 (.cond (.s 54)
 (.seq (.seq (.draw [⟨lS 60 2 2,[]⟩,
 ⟨fa 61 1 3,[]⟩,
 ⟨lo 62 61,[1]⟩,
 ⟨c2 63 94 60 62,[0,2,1]⟩,
 ⟨fa 64 2 3,[]⟩,
 ⟨lo 65 64,[4]⟩] [] [])
 (sr [c2 66 94 63 65] []
 (.reg [sT 2 4 66] [60,61,62,63,64,65,66])))
 .ret)
 (sr [bI 68 .eql 30 6,
 mv 67 68] [68]
 (.cond (.s 67)
 (.seq (.seq (.draw [⟨lS 69 2 2,[]⟩,
 ⟨o0 70 (.call 94 [(.s 69),(iC 1)]),[0]⟩,
 ⟨fa 71 7 3,[]⟩,
 ⟨lo 72 71,[2]⟩,
 ⟨o0 73 (.iadr 1 (.s 72) (iC 0)),[3,2]⟩,
 ⟨lo 74 73,[4,3,2]⟩] [] [])
 (sr [c2 75 146 70 74] []
 (.reg [sT 2 4 75] [69,70,71,72,73,74,75])))
 .ret)
 (sr [bI 77 .eql 30 13,
 mv 76 77] [77]
 (.cond (.s 76)
 (sr [lS 78 2 2,
 fa 79 2 3,
 lo 80 79,
 c2 81 94 78 80,
 sT 2 4 81] [78,79,80,81]
 .ret)
 (sr [bI 83 .eql 30 17,
 mv 82 83] [83]
 (.cond (.s 82)
 (sr [lS 84 2 2,
 lS 85 9 3,
 c2 86 167 84 85,
 sT 2 4 86] [84,85,86]
 .ret)
 (sr [bI 88 .eql 30 18,
 mv 87 88] [88]
 (.cond (.s 87)
 (sr [lS 89 2 2,
 fa 90 3 3,
 lo 91 90,
 c2 92 168 89 91,
 sT 2 4 92] [89,90,91,92]
 .ret)
 (sr [bI 94 .eql 30 19,
 mv 93 94] [94]
 (.cond (.s 93)
 (sr [lS 95 2 2,
 fa 96 3 3,
 lo 97 96,
 c2 98 169 95 97,
 sT 2 4 98] [95,96,97,98]
 .ret)
 (sr [bI 100 .eql 30 20,
 mv 99 100] [100]
 (.cond (.s 99)
 (sr [lS 101 2 2,
 fa 102 1 3,
 lo 103 102,
 c2 104 146 101 103,
 sT 2 4 104] [101,102,103,104]
 .ret)
 .skip))))))))))))))))))))))
 (sr [lS 105 2 2,
 sT 2 4 105] [105]
 .ret))))))⟩
theorem SK:ax Tryz.prog 147=some qY:=by kernel_rfl
abbrev Lu:FuncId:=147
def M4:aH :=
⟨9,1,[.tmp 2],
 (sr [mB 2 false] []
 (sr [mv 3 0,
 bI 4 .geq 3 0,
 mv 5 4,
 mt 6 0 5,
 ot 7 5 (.bin .leq (.s 6) (iC 4294967295)),
 pF 8 5 7,
 mv 2 8] [3,4,5,6,7,8]
 .ret))⟩
theorem X5:ax Tryz.prog 161=some M4:=by kernel_rfl
abbrev ZM:FuncId:=161
def BU:aH :=
⟨11,1,[.tmp 2,.tmp 3],
 (sr [o0 2 (.mov (.c (.int .u8 0))),
 mB 3 false] []
 (.seq (sr [mv 4 0,
 c1 5 157 4,
 uN 6 5] [4,5]
 (.cond (.s 6)
 (sr [o0 2 (.mov (.c (.int .u8 0))),
 mB 3 false] []
 .ret)
 .skip))
 (.seq (.reg [o0 7 (.bsl 5 1 [[(.int .u8 0)],[(.int .u8 0)],[(.int .u8 0)],[(.int .u8 0)],[(.int .u8 0)]] [(0,(.c (.int .u8 0))),(1,(.c (.int .u8 127))),(2,(.c (.int .u8 126))),(3,(.c (.int .u8 112))),(4,(.c (.int .u8 111)))]),
 mv 8 0,
 ia 9 1 7 8,
 lo 10 9,
 mv 2 10,
 mB 3 true] [7,8,9,10])
 .ret)))⟩
theorem Sh:ax Tryz.prog 162=some BU:=by kernel_rfl
abbrev Uj:FuncId:=162
def ug:aH :=
⟨29,2,[.cell 4 (some 2)],
 (sr [o0 2 (.box 81 2 (.s 0)),
 o0 3 (.box 192 9 (.s 1)),
 o0 4 (.new 81 [.nl,(.int .i64 0)])] []
 (sr [lS 6 2 2,
 fa 7 8 3,
 lo 8 7,
 ln 9 8,
 c2 10 94 6 9,
 sT 2 2 10] [6,7,8,9,10]
 (.seq (sr [mI 5 0] []
 (.block 0 (.loop (.seq (sr [mv 11 5,
 fa 12 8 3,
 lo 13 12,
 ln 14 13,
 bS 15 .lss 11 14] [11,12,13,14]
 (.cond (.s 15)
 .skip
 (.exit 0)))
 (.seq (.block 1 (.seq (.draw [⟨lS 18 2 2,[]⟩,
 ⟨fa 19 8 3,[]⟩,
 ⟨lo 20 19,[1]⟩,
 ⟨mv 21 5,[]⟩,
 ⟨ia 22 1 20 21,[2,1,3]⟩,
 ⟨lo 23 22,[4,2,1,3]⟩] [] [])
 (sr [c2 24 94 18 23] []
 (.reg [sT 2 2 24] [18,19,20,21,22,23,24]))))
 (.reg [mv 16 5,
 bI 17 .add 16 1,
 mv 5 17] [16,17]))))))
 (sr [lS 25 2 2,
 fa 26 1 3,
 lo 27 26,
 c2 28 94 25 27,
 sT 2 4 28] [25,26,27,28]
 .ret))))⟩
theorem KW:ax Tryz.prog 166=some ug:=by kernel_rfl
abbrev Lq:FuncId:=166
def MW:aH :=
⟨10,2,[.cell 4 (some 2)],
 (sr [o0 2 (.box 81 2 (.s 0)),
 o0 4 (.new 81 [.nl,(.int .i64 0)])] []
 (.seq (.seq (.draw [⟨lS 5 2 2,[]⟩,
 ⟨mv 6 1,[]⟩,
 ⟨o0 7 (.cvi .i64 (.s 6)),[1]⟩,
 ⟨o0 8 (.call 183 [(.c .nl),(.s 7)]),[2,1]⟩] [] [])
 (sr [c2 9 103 5 8] []
 (.reg [sT 2 4 9] [5,6,7,8,9])))
 .ret))⟩
theorem XV:ax Tryz.prog 169=some MW:=by kernel_rfl
abbrev O2:FuncId:=169
def Cg:aH :=
⟨42,2,[.tmp 4,.tmp 5,.tmp 6],
 (sr [mI 4 0,
 mI 5 0,
 mI 6 0] []
 (.seq (sr [mv 9 1,
 bI 10 .lss 9 1,
 mv 11 10,
 mf 12 1 11,
 oF 13 11 (.bin .gtr (.s 12) (iC 64)),
 pT 14 11 13] [9,10,11,12,13]
 (.cond (.s 14)
 (sr [mI 4 0,
 mI 5 0,
 mI 6 1] []
 .ret)
 .skip))
 (sr [mv 15 1,
 bI 16 .add 15 6,
 bI 17 .quo 16 7,
 mv 7 17] [15,16,17]
 (.seq (sr [mv 18 7,
 mI 19 0] []
 (.block 0 (.loop (sr [bS 20 .lss 19 18] []
 (.seq (.cond (.s 20)
 .skip
 (.exit 0))
 (.seq (.block 1 (sr [mv 21 19,
 mv 8 21] [21]
 (.seq (sr [mv 22 8,
 mv 23 0,
 ln 24 23,
 bS 25 .geq 22 24] [22,23,24]
 (.cond (.s 25)
 (sr [mI 4 0,
 mI 5 0,
 mI 6 3] []
 .ret)
 .skip))
 (.seq (sr [mv 26 0,
 mv 27 8,
 ia 28 1 26 27,
 lo 29 28,
 o0 30 (.bin .geq (.s 29) (.c (.int .u8 128)))] [26,27,28,29]
 (.cond (.s 30)
 (.exit 1)
 .skip))
 (.seq (sr [mv 31 8,
 mv 32 7,
 bI 33 .sub 32 1,
 bS 34 .eql 31 33] [31,32,33]
 (.cond (.s 34)
 (sr [mv 35 8,
 mv 36 1,
 mv 37 8,
 o0 38 (.bin .mul (iC 7) (.s 37)),
 bS 39 .sub 36 38,
 mv 4 35,
 mv 5 39,
 mI 6 0] [35,36,37,38,39]
 .ret)
 .skip))
 (sr [mv 40 8,
 mv 4 40,
 mI 5 7,
 mI 6 0] [40]
 .ret))))))
 (.reg [bI 41 .add 19 1,
 mv 19 41] [41])))))))
 (sr [mI 4 0,
 mI 5 0,
 mI 6 4] []
 .ret)))))⟩
theorem SO:ax Tryz.prog 172=some Cg:=by kernel_rfl
abbrev UO:FuncId:=172
def qV:aH :=
⟨38,1,[.tmp 2],
 (sr [o0 1 (.box 190 3 (.s 0)),
 mB 2 false] []
 (.seq (sr [fa 3 0 1,
 lo 4 3] [3]
 (.block 0 (sr [bI 6 .eql 4 0,
 mv 5 6] [6]
 (.cond (.s 5)
 (sr [fa 7 1 1,
 lo 8 7,
 bI 9 .eql 8 0,
 mv 10 9,
 ot 11 10 (fd 2 1),
 ot 12 10 (ld 11),
 ot 13 10 (.bin .eql (.s 12) (iC 0)),
 pF 14 10 13,
 mv 2 14] [7,8,9,10,11,12,13,14]
 .ret)
 (sr [bI 16 .eql 4 1,
 mv 15 16] [16]
 (.cond (.s 15)
 (sr [fa 17 1 1,
 lo 18 17,
 c1 19 179 18,
 mv 20 19,
 ot 21 20 (fd 2 1),
 ot 22 20 (ld 21),
 ot 23 20 (.bin .eql (.s 22) (iC 0)),
 pF 24 20 23,
 mv 2 24] [17,18,19,20,21,22,23,24]
 .ret)
 .skip))))))
 (sr [fa 25 0 1,
 lo 26 25,
 bI 27 .eql 26 2,
 mv 28 27,
 ot 29 28 (fd 1 1),
 ot 30 28 (ld 29),
 ot 31 28 (.bin .eql (.s 30) (iC 0)),
 pF 32 28 31,
 mv 33 32,
 ot 34 33 (fd 2 1),
 ot 35 33 (ld 34),
 ot 36 33 (.call 177 [(.s 35)]),
 pF 37 33 36,
 mv 2 37] [25,26,27,28,29,30,31,32,33,34,35,36,37]
 .ret)))⟩
theorem RK:ax Tryz.prog 176=some qV:=by kernel_rfl
abbrev TR:FuncId:=176
def Cq:aH :=
⟨17,2,[.cell 4 (some 2)],
 (sr [o0 2 (.box 81 2 (.s 0)),
 o0 4 (.new 81 [.nl,(.int .i64 0)])] []
 (.seq (sr [mv 5 1,
 bI 6 .lss 5 (-4294967296),
 mv 7 6,
 mf 8 1 7,
 oF 9 7 (.bin .geq (.s 8) (iC 4294967296)),
 pT 10 7 9] [5,6,7,8,9]
 (.cond (.s 10)
 (sr [lS 11 2 2,
 o0 12 (.call 140 [(.s 11),(iC 1)]),
 sT 2 4 12] [11,12]
 .ret)
 .skip))
 (.seq (.seq (.draw [⟨lS 13 2 2,[]⟩,
 ⟨mv 14 1,[]⟩,
 ⟨o0 15 (.call 183 [(.c .nl),(.s 14)]),[1]⟩] [] [])
 (sr [c2 16 103 13 15] []
 (.reg [sT 2 4 16] [13,14,15,16])))
 .ret)))⟩
theorem XU:ax Tryz.prog 182=some Cq:=by kernel_rfl
abbrev ZD:FuncId:=182
def BO:aH :=
⟨30,2,[.tmp 4],
 (sr [o0 4 (.mov (.c .nl))] []
 (sr [o0 6 (.bsl 5 1 [] []),
 mv 7 0,
 o0 8 (.app 5 1 (.s 6) (.s 7)),
 mv 5 8] [6,7,8]
 (.seq (.block 0 (.loop (.seq (sr [mv 9 1,
 bI 10 .lss 9 (-64),
 mv 11 10,
 mf 12 1 11,
 oF 13 11 (.bin .gtr (.s 12) (iC 63)),
 pT 14 11 13] [9,10,11,12,13]
 (.cond (.s 14)
 .skip
 (.exit 0)))
 (.block 1 (.seq (.reg [mv 15 5,
 mv 16 1,
 bI 17 .and 16 127,
 o0 18 (.cvi .u8 (.s 17)),
 o0 19 (.bin .add (.s 18) (.c (.int .u8 128))),
 o0 20 (.bsl 5 1 [[(.int .u8 0)]] [(0,(.s 19))]),
 o0 21 (.app 5 1 (.s 15) (.s 20)),
 mv 5 21] [15,16,17,18,19,20,21])
 (.reg [mv 22 1,
 o0 23 (.bin .shr (.s 22) (.c (.int .u64 7))),
 mv 1 23] [22,23]))))))
 (.seq (.reg [mv 24 5,
 mv 25 1,
 bI 26 .and 25 127,
 o0 27 (.cvi .u8 (.s 26)),
 o0 28 (.bsl 5 1 [[(.int .u8 0)]] [(0,(.s 27))]),
 o0 29 (.app 5 1 (.s 24) (.s 28)),
 mv 4 29] [24,25,26,27,28,29])
 .ret))))⟩
theorem R_:ax Tryz.prog 183=some BO:=by kernel_rfl
abbrev Ud:FuncId:=183
def V_:aH :=
⟨18,2,[.tmp 4],
 (sr [mB 4 false] []
 (sr [mv 5 0,
 o0 6 (.slen (.s 5)),
 mv 7 1,
 o0 8 (.slen (.s 7)),
 bS 9 .geq 6 8,
 mv 10 9,
 mt 11 0 10,
 mt 12 1 10,
 ot 13 10 (.slen (.s 12)),
 ot 14 10 (.sslc (.s 11) none (some (.s 13))),
 mt 15 1 10,
 ot 16 10 (.bin .eql (.s 14) (.s 15)),
 pF 17 10 16,
 mv 4 17] [5,6,7,8,9,10,11,12,13,14,15,16,17]
 .ret))⟩
theorem cX8:ax Tryz.prog 188=some V_:=by kernel_rfl
abbrev nX8:FuncId:=188
def qZ:aH :=
⟨17,1,[.tmp 2],
 (sr [mB 2 false] []
 (sr [mv 3 0,
 bI 4 .geq 3 0,
 mv 5 4,
 mt 6 0 5,
 ot 7 5 (.bin .lss (.s 6) (iC 55296)),
 pF 8 5 7,
 mv 9 8,
 mf 10 0 9,
 oF 11 9 (.bin .gtr (.s 10) (iC 57343)),
 mf 12 11 9,
 mt 13 0 12,
 ot 14 12 (.bin .leq (.s 13) (iC 1114111)),
 oF 15 9 (.pick (.s 12) (.s 14) (bC false)),
 pT 16 9 15,
 mv 2 16] [3,4,5,6,7,8,9,10,11,12,13,14,15,16]
 .ret))⟩
theorem SP:ax Tryz.prog 189=some qZ:=by kernel_rfl
abbrev UP:FuncId:=189
def MI:aH :=
⟨25,0,[.tmp 0],
 (sr [o0 0 (.mov (.c .nl))] []
 (.seq (.reg [o0 1 (.build [(.int .i64 0),(.str []),(.int .i64 0)] [(0,1,(iC 0)),(1,1,(.c (.str [117,110,114,101,97,99,104,97,98,108,101]))),(2,1,(iC 0))]),
 o0 2 (.build [(.int .i64 0),(.str []),(.int .i64 0)] [(0,1,(iC 1)),(1,1,(.c (.str [110,111,112]))),(2,1,(iC 0))]),
 o0 3 (.build [(.int .i64 0),(.str []),(.int .i64 0)] [(0,1,(iC 2)),(1,1,(.c (.str [98,108,111,99,107]))),(2,1,(iC 1))]),
 o0 4 (.build [(.int .i64 0),(.str []),(.int .i64 0)] [(0,1,(iC 3)),(1,1,(.c (.str [108,111,111,112]))),(2,1,(iC 1))]),
 o0 5 (.build [(.int .i64 0),(.str []),(.int .i64 0)] [(0,1,(iC 4)),(1,1,(.c (.str [105,102]))),(2,1,(iC 1))]),
 o0 6 (.build [(.int .i64 0),(.str []),(.int .i64 0)] [(0,1,(iC 5)),(1,1,(.c (.str [101,108,115,101]))),(2,1,(iC 0))]),
 o0 7 (.build [(.int .i64 0),(.str []),(.int .i64 0)] [(0,1,(iC 11)),(1,1,(.c (.str [101,110,100]))),(2,1,(iC 0))]),
 o0 8 (.build [(.int .i64 0),(.str []),(.int .i64 0)] [(0,1,(iC 12)),(1,1,(.c (.str [98,114]))),(2,1,(iC 2))]),
 o0 9 (.build [(.int .i64 0),(.str []),(.int .i64 0)] [(0,1,(iC 13)),(1,1,(.c (.str [98,114,95,105,102]))),(2,1,(iC 2))]),
 o0 10 (.build [(.int .i64 0),(.str []),(.int .i64 0)] [(0,1,(iC 14)),(1,1,(.c (.str [98,114,95,116,97,98,108,101]))),(2,1,(iC 3))]),
 o0 11 (.build [(.int .i64 0),(.str []),(.int .i64 0)] [(0,1,(iC 15)),(1,1,(.c (.str [114,101,116,117,114,110]))),(2,1,(iC 0))]),
 o0 12 (.build [(.int .i64 0),(.str []),(.int .i64 0)] [(0,1,(iC 16)),(1,1,(.c (.str [99,97,108,108]))),(2,1,(iC 4))]),
 o0 13 (.build [(.int .i64 0),(.str []),(.int .i64 0)] [(0,1,(iC 17)),(1,1,(.c (.str [99,97,108,108,95,105,110,100,105,114,101,99,116]))),(2,1,(iC 5))]),
 o0 14 (.build [(.int .i64 0),(.str []),(.int .i64 0)] [(0,1,(iC 26)),(1,1,(.c (.str [100,114,111,112]))),(2,1,(iC 0))]),
 o0 15 (.build [(.int .i64 0),(.str []),(.int .i64 0)] [(0,1,(iC 27)),(1,1,(.c (.str [115,101,108,101,99,116]))),(2,1,(iC 0))]),
 o0 16 (.build [(.int .i64 0),(.str []),(.int .i64 0)] [(0,1,(iC 28)),(1,1,(.c (.str [115,101,108,101,99,116]))),(2,1,(iC 6))]),
 o0 17 (.build [(.int .i64 0),(.str []),(.int .i64 0)] [(0,1,(iC 32)),(1,1,(.c (.str [108,111,99,97,108,46,103,101,116]))),(2,1,(iC 7))]),
 o0 18 (.build [(.int .i64 0),(.str []),(.int .i64 0)] [(0,1,(iC 33)),(1,1,(.c (.str [108,111,99,97,108,46,115,101,116]))),(2,1,(iC 7))]),
 o0 19 (.build [(.int .i64 0),(.str []),(.int .i64 0)] [(0,1,(iC 34)),(1,1,(.c (.str [108,111,99,97,108,46,116,101,101]))),(2,1,(iC 7))]),
 o0 20 (.build [(.int .i64 0),(.str []),(.int .i64 0)] [(0,1,(iC 35)),(1,1,(.c (.str [103,108,111,98,97,108,46,103,101,116]))),(2,1,(iC 8))]),
 o0 21 (.build [(.int .i64 0),(.str []),(.int .i64 0)] [(0,1,(iC 36)),(1,1,(.c (.str [103,108,111,98,97,108,46,115,101,116]))),(2,1,(iC 8))]),
 o0 22 (.build [(.int .i64 0),(.str []),(.int .i64 0)] [(0,1,(iC 37)),(1,1,(.c (.str [116,97,98,108,101,46,103,101,116]))),(2,1,(iC 9))]),
 o0 23 (.build [(.int .i64 0),(.str []),(.int .i64 0)] [(0,1,(iC 38)),(1,1,(.c (.str [116,97,98,108,101,46,115,101,116]))),(2,1,(iC 9))]),
 o0 24 (.bsl 246 3 [[(.int .i64 0),(.str []),(.int .i64 0)],[(.int .i64 0),(.str []),(.int .i64 0)],[(.int .i64 0),(.str []),(.int .i64 0)],[(.int .i64 0),(.str []),(.int .i64 0)],[(.int .i64 0),(.str []),(.int .i64 0)],[(.int .i64 0),(.str []),(.int .i64 0)],[(.int .i64 0),(.str []),(.int .i64 0)],[(.int .i64 0),(.str []),(.int .i64 0)],[(.int .i64 0),(.str []),(.int .i64 0)],[(.int .i64 0),(.str []),(.int .i64 0)],[(.int .i64 0),(.str []),(.int .i64 0)],[(.int .i64 0),(.str []),(.int .i64 0)],[(.int .i64 0),(.str []),(.int .i64 0)],[(.int .i64 0),(.str []),(.int .i64 0)],[(.int .i64 0),(.str []),(.int .i64 0)],[(.int .i64 0),(.str []),(.int .i64 0)],[(.int .i64 0),(.str []),(.int .i64 0)],[(.int .i64 0),(.str []),(.int .i64 0)],[(.int .i64 0),(.str []),(.int .i64 0)],[(.int .i64 0),(.str []),(.int .i64 0)],[(.int .i64 0),(.str []),(.int .i64 0)],[(.int .i64 0),(.str []),(.int .i64 0)],[(.int .i64 0),(.str []),(.int .i64 0)]] [(0,(.s 1)),(1,(.s 2)),(2,(.s 3)),(3,(.s 4)),(4,(.s 5)),(5,(.s 6)),(6,(.s 7)),(7,(.s 8)),(8,(.s 9)),(9,(.s 10)),(10,(.s 11)),(11,(.s 12)),(12,(.s 13)),(13,(.s 14)),(14,(.s 15)),(15,(.s 16)),(16,(.s 17)),(17,(.s 18)),(18,(.s 19)),(19,(.s 20)),(20,(.s 21)),(21,(.s 22)),(22,(.s 23))]),
 mv 0 24] [1,2,3,4,5,6,7,8,9,10,11,12,13,14,15,16,17,18,19,20,21,22,23,24])
 .ret))⟩
theorem XG:ax Tryz.prog 190=some MI:=by kernel_rfl
abbrev Zr:FuncId:=190
def B3:aH :=
⟨85,1,[.tmp 2],
 (sr [o0 1 (.box 33 12 (.s 0)),
 mB 2 false] []
 (sr [mI 3 0] []
 (.seq (sr [mI 4 0] []
 (.block 0 (.loop (.seq (sr [mv 5 4,
 fa 6 9 1,
 lo 7 6,
 ln 8 7,
 bS 9 .lss 5 8,
 mv 10 9,
 mt 11 4 10,
 ot 12 10 (.bin .lss (.s 11) (iC 100)),
 pF 13 10 12,
 mv 14 13,
 mt 15 3 14,
 ot 16 14 (.bin .leq (.s 15) (iC 500)),
 pF 17 14 16] [5,6,7,8,9,10,11,12,13,14,15,16]
 (.cond (.s 17)
 .skip
 (.exit 0)))
 (.seq (.block 1 (.reg [mv 20 3,
 fa 21 9 1,
 lo 22 21,
 mv 23 4,
 ia 24 5 22 23,
 fa 25 4 24,
 lo 26 25,
 ln 27 26,
 bS 28 .add 20 27,
 mv 3 28] [20,21,22,23,24,25,26,27,28]))
 (.reg [mv 18 4,
 bI 19 .add 18 1,
 mv 4 19] [18,19]))))))
 (sr [mv 29 3,
 bI 30 .leq 29 500,
 mv 31 30,
 ot 32 31 (fd 0 1),
 ot 33 31 (ld 32),
 ot 34 31 (.len (.s 33)),
 ot 35 31 (.bin .leq (.s 34) (iC 100)),
 pF 36 31 35,
 mv 37 36,
 ot 38 37 (fd 1 1),
 ot 39 37 (ld 38),
 ot 40 37 (.len (.s 39)),
 ot 41 37 (.bin .leq (.s 40) (iC 100)),
 pF 42 37 41,
 mv 43 42,
 ot 44 43 (fd 2 1),
 ot 45 43 (ld 44),
 ot 46 43 (.len (.s 45)),
 ot 47 43 (.bin .leq (.s 46) (iC 100)),
 pF 48 43 47,
 mv 49 48,
 ot 50 49 (fd 3 1),
 ot 51 49 (ld 50),
 ot 52 49 (.len (.s 51)),
 ot 53 49 (.bin .leq (.s 52) (iC 50)),
 pF 54 49 53,
 mv 55 54,
 ot 56 55 (fd 4 1),
 ot 57 55 (ld 56),
 ot 58 55 (.len (.s 57)),
 ot 59 55 (.bin .leq (.s 58) (iC 50)),
 pF 60 55 59,
 mv 61 60,
 ot 62 61 (fd 5 1),
 ot 63 61 (ld 62),
 ot 64 61 (.len (.s 63)),
 ot 65 61 (.bin .leq (.s 64) (iC 100)),
 pF 66 61 65,
 mv 67 66,
 ot 68 67 (fd 6 1),
 ot 69 67 (ld 68),
 ot 70 67 (.len (.s 69)),
 ot 71 67 (.bin .leq (.s 70) (iC 200)),
 pF 72 67 71,
 mv 73 72,
 ot 74 73 (fd 9 1),
 ot 75 73 (ld 74),
 ot 76 73 (.len (.s 75)),
 ot 77 73 (.bin .leq (.s 76) (iC 50)),
 pF 78 73 77,
 mv 79 78,
 ot 80 79 (fd 10 1),
 ot 81 79 (ld 80),
 ot 82 79 (.len (.s 81)),
 ot 83 79 (.bin .leq (.s 82) (iC 50)),
 pF 84 79 83,
 mv 2 84] [29,30,31,32,33,34,35,36,37,38,39,40,41,42,43,44,45,46,47,48,49,50,51,52,53,54,55,56,57,58,59,60,61,62,63,64,65,66,67,68,69,70,71,72,73,74,75,76,77,78,79,80,81,82,83,84]
 .ret))))⟩
theorem Sw:ax Tryz.prog 5=some B3:=by kernel_rfl
abbrev Uy:FuncId:=5
def Bj:aH :=
⟨65,1,[.tmp 2,.tmp 3],
 (sr [o0 1 (.box 33 12 (.s 0)),
 o0 2 (.mov (.c .nl)),
 mI 3 0] []
 (.seq (sr [lS 10 12 1,
 c1 11 25 10,
 o0 4 (.new 73 [(.int .i64 0),(.int .i64 0),(.int .i64 0),(.int .i64 0)]),
 sT 4 4 11] [10,11]
 (sr [fa 12 3 4,
 lo 13 12,
 bI 14 .neq 13 0] [12,13]
 (.cond (.s 14)
 (.seq (.seq (.draw [⟨fa 15 3 4,[]⟩,
 ⟨lo 16 15,[0]⟩,
 ⟨o0 2 (.mov (.c .nl)),[]⟩] [] [])
 (.reg [mv 3 16] [15,16]))
 .ret)
 .skip)))
 (.seq (sr [lS 17 12 1,
 c1 18 26 17,
 uN 19 18] [17,18]
 (.cond (.s 19)
 (sr [o0 2 (.mov (.c .nl)),
 mI 3 16] []
 .ret)
 .skip))
 (.seq (sr [lS 20 12 1,
 c1 21 27 20,
 uN 22 21] [20,21]
 (.cond (.s 22)
 (sr [o0 2 (.mov (.c .nl)),
 mI 3 7] []
 .ret)
 .skip))
 (sr [lS 23 12 1,
 o0 24 (.call 28 [(.s 23),(iC 0)]),
 mv 5 24] [23,24]
 (sr [lS 25 12 1,
 c1 26 29 25,
 mv 6 26] [25,26]
 (.seq (sr [mI 7 0] []
 (.block 0 (.loop (.seq (sr [mv 27 7,
 mv 28 6,
 ln 29 28,
 bS 30 .lss 27 29] [27,28,29]
 (.cond (.s 30)
 .skip
 (.exit 0)))
 (.seq (.block 1 (.seq (.seq (.draw [⟨lS 34 12 1,[]⟩,
 ⟨mv 35 6,[]⟩,
 ⟨mv 36 7,[]⟩,
 ⟨ia 37 1 35 36,[1,2]⟩,
 ⟨lo 38 37,[3,1,2]⟩] [] [])
 (sr [c2 39 31 34 38] []
 (sr [c1 40 30 39] []
 (sr [mv 33 40] []
 (.seq (.draw [⟨xt 41 33 0,[]⟩,
 ⟨xt 42 33 1,[]⟩,
 ⟨mv 8 41,[0]⟩] [] [])
 (.reg [mv 9 42] [34,35,36,37,38,39,40,33,41,42,9]))))))
 (.seq (.reg [mv 43 5,
 mv 44 6,
 mv 45 7,
 ia 46 1 44 45,
 lo 47 46,
 c1 48 32 47,
 mv 49 8,
 o0 50 (.build [(.int .i64 0),(.str []),.nl] [(0,1,(.s 48)),(2,1,(.s 49))]),
 o0 51 (.bsl 85 3 [[(.int .i64 0),(.str []),.nl]] [(0,(.s 50))]),
 o0 52 (.app 85 3 (.s 43) (.s 51)),
 mv 5 52] [43,44,45,46,47,48,49,50,51,52])
 (.seq (.draw [⟨mv 53 5,[]⟩,
 ⟨lS 54 12 1,[]⟩,
 ⟨mv 55 6,[]⟩,
 ⟨mv 56 7,[]⟩,
 ⟨ia 57 1 55 56,[2,3]⟩,
 ⟨lo 58 57,[4,2,3]⟩,
 ⟨c2 59 28 54 58,[1,5,4,2,3]⟩] [] [])
 (sr [o0 60 (.app 85 3 (.s 53) (.s 59))] []
 (.reg [mv 5 60] [53,54,55,56,57,58,59,60]))))))
 (.reg [mv 31 7,
 bI 32 .add 31 1,
 mv 7 32] [31,32]))))))
 (sr [mv 61 5,
 c1 62 33 61,
 xt 63 62 0,
 xt 64 62 1,
 mv 2 63,
 mv 3 64] [61,62,63,64]
 .ret))))))))⟩
theorem Rr:ax Tryz.prog 10=some Bj:=by kernel_rfl
abbrev TJ:FuncId:=10
def G5:aH :=
⟨27,2,[.tmp 4],
 (sr [mB 4 false] []
 (.seq (sr [mv 6 0,
 ln 7 6,
 mv 8 1,
 ln 9 8,
 bS 10 .neq 7 9] [6,7,8,9]
 (.cond (.s 10)
 (sr [mB 4 false] []
 .ret)
 .skip))
 (.seq (sr [mI 5 0] []
 (.block 0 (.loop (.seq (sr [mv 11 5,
 mv 12 0,
 ln 13 12,
 bS 14 .lss 11 13] [11,12,13]
 (.cond (.s 14)
 .skip
 (.exit 0)))
 (.seq (.block 1 (.seq (.seq (.draw [⟨mv 17 0,[]⟩,
 ⟨mv 18 5,[]⟩,
 ⟨ia 19 2 17 18,[0,1]⟩,
 ⟨lS 20 2 19,[2,0,1]⟩,
 ⟨mv 21 1,[]⟩,
 ⟨mv 22 5,[]⟩,
 ⟨ia 23 2 21 22,[4,5]⟩,
 ⟨lS 24 2 23,[6,4,5]⟩] [] [])
 (sr [c2 25 76 20 24] []
 (.reg [uN 26 25] [17,18,19,20,21,22,23,24,25])))
 (.cond (.s 26)
 (sr [mB 4 false] []
 .ret)
 .skip)))
 (.reg [mv 15 5,
 bI 16 .add 15 1,
 mv 5 16] [15,16]))))))
 (sr [mB 4 true] []
 .ret))))⟩
theorem Xk:ax Tryz.prog 16=some G5:=by kernel_rfl
abbrev Za:FuncId:=16
def G4:aH :=
⟨56,2,[.tmp 4],
 (sr [mB 4 false] []
 (.seq (sr [mv 6 0,
 ln 7 6,
 mv 8 1,
 ln 9 8,
 bS 10 .neq 7 9] [6,7,8,9]
 (.cond (.s 10)
 (sr [mB 4 false] []
 .ret)
 .skip))
 (.seq (sr [mI 5 0] []
 (.block 0 (.loop (.seq (sr [mv 11 5,
 mv 12 0,
 ln 13 12,
 bS 14 .lss 11 13] [11,12,13]
 (.cond (.s 14)
 .skip
 (.exit 0)))
 (.seq (.block 1 (.seq (.seq (.draw [⟨mv 17 0,[]⟩,
 ⟨mv 18 5,[]⟩,
 ⟨ia 19 3 17 18,[0,1]⟩,
 ⟨fa 20 0 19,[2,0,1]⟩,
 ⟨lo 21 20,[3,2,0,1]⟩,
 ⟨mv 22 1,[]⟩,
 ⟨mv 23 5,[]⟩,
 ⟨ia 24 3 22 23,[5,6]⟩,
 ⟨fa 25 0 24,[7,5,6]⟩,
 ⟨lo 26 25,[8,7,5,6]⟩] [] [])
 (sr [bS 27 .neq 21 26] []
 (sr [mv 28 27] []
 (.seq (.draw [⟨mf 29 0 28,[]⟩,
 ⟨mf 30 5 28,[]⟩,
 ⟨oF 31 28 (.iadr 3 (.s 29) (.s 30)),[0,1]⟩,
 ⟨oF 32 28 (fd 1 31),[2,0,1]⟩,
 ⟨oF 33 28 (ld 32),[3,2,0,1]⟩,
 ⟨mf 34 1 28,[]⟩,
 ⟨mf 35 5 28,[]⟩,
 ⟨oF 36 28 (.iadr 3 (.s 34) (.s 35)),[5,6]⟩,
 ⟨oF 37 28 (fd 1 36),[7,5,6]⟩,
 ⟨oF 38 28 (ld 37),[8,7,5,6]⟩] [] [])
 (sr [oF 39 28 (.call 77 [(.s 33),(.s 38)])] []
 (sr [oF 40 28 (.un .not (.s 39))] []
 (sr [pT 41 28 40] []
 (sr [mv 42 41] []
 (.seq (.draw [⟨mf 43 0 42,[]⟩,
 ⟨mf 44 5 42,[]⟩,
 ⟨oF 45 42 (.iadr 3 (.s 43) (.s 44)),[0,1]⟩,
 ⟨oF 46 42 (fd 2 45),[2,0,1]⟩,
 ⟨oF 47 42 (ld 46),[3,2,0,1]⟩,
 ⟨mf 48 1 42,[]⟩,
 ⟨mf 49 5 42,[]⟩,
 ⟨oF 50 42 (.iadr 3 (.s 48) (.s 49)),[5,6]⟩,
 ⟨oF 51 42 (fd 2 50),[7,5,6]⟩,
 ⟨oF 52 42 (ld 51),[8,7,5,6]⟩] [] [])
 (sr [oF 53 42 (.call 78 [(.s 47),(.s 52)])] []
 (sr [oF 54 42 (.un .not (.s 53))] []
 (.reg [pT 55 42 54] [17,18,19,20,21,22,23,24,25,26,27,28,29,30,31,32,33,34,35,36,37,38,39,40,41,42,43,44,45,46,47,48,49,50,51,52,53,54]))))))))))))
 (.cond (.s 55)
 (sr [mB 4 false] []
 .ret)
 .skip)))
 (.reg [mv 15 5,
 bI 16 .add 15 1,
 mv 5 16] [15,16]))))))
 (sr [mB 4 true] []
 .ret))))⟩
theorem Xi:ax Tryz.prog 18=some G4:=by kernel_rfl
abbrev Y9:FuncId:=18
def G3:aH :=
⟨83,2,[.tmp 4],
 (sr [mB 4 false] []
 (.seq (sr [mv 9 0,
 ln 10 9,
 mv 11 1,
 ln 12 11,
 bS 13 .neq 10 12] [9,10,11,12]
 (.cond (.s 13)
 (sr [mB 4 false] []
 .ret)
 .skip))
 (.seq (sr [mI 5 0] []
 (.block 0 (.loop (.seq (sr [mv 14 5,
 mv 15 0,
 ln 16 15,
 bS 17 .lss 14 16] [14,15,16]
 (.cond (.s 17)
 .skip
 (.exit 0)))
 (.seq (.block 1 (.seq (.seq (.draw [⟨mv 20 0,[]⟩,
 ⟨mv 21 5,[]⟩,
 ⟨ia 22 5 20 21,[0,1]⟩,
 ⟨lS 23 5 22,[2,0,1]⟩,
 ⟨mv 24 1,[]⟩,
 ⟨mv 25 5,[]⟩,
 ⟨ia 26 5 24 25,[4,5]⟩,
 ⟨lS 27 5 26,[6,4,5]⟩,
 ⟨o0 6 (.new 55 [(.int .i64 0),(.int .i64 0),.nl,(.int .i64 0),.nl]),[]⟩,
 ⟨o0 7 (.new 55 [(.int .i64 0),(.int .i64 0),.nl,(.int .i64 0),.nl]),[]⟩,
 ⟨sT 5 6 23,[8,3,2,0,1,9]⟩] [(6,8),(7,9)] [])
 (.reg [sT 5 7 27] [20,21,22,23,24,25,26,27]))
 (.seq (sr [fa 28 0 6,
 lo 29 28,
 fa 30 0 7,
 lo 31 30,
 bS 32 .neq 29 31,
 mv 33 32,
 oF 34 33 (fd 1 6),
 oF 35 33 (ld 34),
 oF 36 33 (fd 1 7),
 oF 37 33 (ld 36),
 oF 38 33 (.bin .neq (.s 35) (.s 37)),
 pT 39 33 38,
 mv 40 39,
 oF 41 40 (fd 3 6),
 oF 42 40 (ld 41),
 oF 43 40 (fd 3 7),
 oF 44 40 (ld 43),
 oF 45 40 (.bin .neq (.s 42) (.s 44)),
 pT 46 40 45,
 mv 47 46,
 oF 48 47 (fd 2 6),
 oF 49 47 (ld 48),
 oF 50 47 (fd 2 7),
 oF 51 47 (ld 50),
 oF 52 47 (.call 78 [(.s 49),(.s 51)]),
 oF 53 47 (.un .not (.s 52)),
 pT 54 47 53,
 mv 55 54,
 oF 56 55 (fd 4 6),
 oF 57 55 (ld 56),
 oF 58 55 (.len (.s 57)),
 oF 59 55 (fd 4 7),
 oF 60 55 (ld 59),
 oF 61 55 (.len (.s 60)),
 oF 62 55 (.bin .neq (.s 58) (.s 61)),
 pT 63 55 62] [28,29,30,31,32,33,34,35,36,37,38,39,40,41,42,43,44,45,46,47,48,49,50,51,52,53,54,55,56,57,58,59,60,61,62]
 (.cond (.s 63)
 (sr [mB 4 false] []
 .ret)
 .skip))
 (sr [mI 8 0] []
 (.block 2 (.loop (.seq (sr [mv 64 8,
 fa 65 4 6,
 lo 66 65,
 ln 67 66,
 bS 68 .lss 64 67] [64,65,66,67]
 (.cond (.s 68)
 .skip
 (.exit 2)))
 (.seq (.block 3 (.seq (.seq (.draw [⟨fa 71 4 6,[]⟩,
 ⟨lo 72 71,[0]⟩,
 ⟨mv 73 8,[]⟩,
 ⟨ia 74 1 72 73,[1,0,2]⟩,
 ⟨lo 75 74,[3,1,0,2]⟩,
 ⟨fa 76 4 7,[]⟩,
 ⟨lo 77 76,[5]⟩,
 ⟨mv 78 8,[]⟩,
 ⟨ia 79 1 77 78,[6,5,7]⟩,
 ⟨lo 80 79,[8,6,5,7]⟩] [] [])
 (sr [c2 81 78 75 80] []
 (.reg [uN 82 81] [71,72,73,74,75,76,77,78,79,80,81])))
 (.cond (.s 82)
 (sr [mB 4 false] []
 .ret)
 .skip)))
 (.reg [mv 69 8,
 bI 70 .add 69 1,
 mv 8 70] [69,70])))))))))
 (.reg [mv 18 5,
 bI 19 .add 18 1,
 mv 5 19] [18,19]))))))
 (sr [mB 4 true] []
 .ret))))⟩
theorem Xh:ax Tryz.prog 22=some G3:=by kernel_rfl
abbrev Y8:FuncId:=22
def MD:aH :=
⟨69,1,[.tmp 2],
 (sr [o0 1 (.box 33 12 (.s 0)),
 o0 2 (.mov (.c .nl))] []
 (.seq (.reg [fa 6 0 1,
 lo 7 6,
 ln 8 7,
 bI 9 .gtr 8 0,
 fa 10 1 1,
 lo 11 10,
 ln 12 11,
 bI 13 .gtr 12 0,
 fa 14 2 1,
 lo 15 14,
 ln 16 15,
 bI 17 .gtr 16 0,
 fa 18 3 1,
 lo 19 18,
 ln 20 19,
 bI 21 .gtr 20 0,
 fa 22 4 1,
 lo 23 22,
 ln 24 23,
 bI 25 .gtr 24 0,
 fa 26 5 1,
 lo 27 26,
 ln 28 27,
 bI 29 .gtr 28 0,
 fa 30 6 1,
 lo 31 30,
 ln 32 31,
 bI 33 .gtr 32 0,
 fa 34 7 1,
 lo 35 34,
 fa 36 9 1,
 lo 37 36,
 ln 38 37,
 bI 39 .gtr 38 0,
 fa 40 10 1,
 lo 41 40,
 ln 42 41,
 bI 43 .gtr 42 0,
 fa 44 2 1,
 lo 45 44,
 ln 46 45,
 bI 47 .gtr 46 0,
 fa 48 10 1,
 lo 49 48,
 ln 50 49,
 bI 51 .gtr 50 0,
 o0 52 (.bsl 4 1 [[(.bool false)],[(.bool false)],[(.bool false)],[(.bool false)],[(.bool false)],[(.bool false)],[(.bool false)],[(.bool false)],[(.bool false)],[(.bool false)],[(.bool false)],[(.bool false)]] [(0,(.s 9)),(1,(.s 13)),(2,(.s 17)),(3,(.s 21)),(4,(.s 25)),(5,(.s 29)),(6,(.s 33)),(7,(.s 35)),(8,(.s 39)),(9,(.s 43)),(10,(.s 47)),(11,(.s 51))]),
 mv 3 52] [6,7,8,9,10,11,12,13,14,15,16,17,18,19,20,21,22,23,24,25,26,27,28,29,30,31,32,33,34,35,36,37,38,39,40,41,42,43,44,45,46,47,48,49,50,51,52])
 (sr [o0 4 (.mov (.c .nl))] []
 (.seq (sr [mI 5 0] []
 (.block 0 (.loop (.seq (sr [mv 53 5,
 mv 54 3,
 ln 55 54,
 bS 56 .lss 53 55] [53,54,55]
 (.cond (.s 56)
 .skip
 (.exit 0)))
 (.seq (.block 1 (sr [mv 59 3,
 mv 60 5,
 ia 61 1 59 60,
 lo 62 61] [59,60,61]
 (.cond (.s 62)
 (.reg [mv 63 4,
 mv 64 5,
 bI 65 .add 64 1,
 o0 66 (.bsl 3 1 [[(.int .i64 0)]] [(0,(.s 65))]),
 o0 67 (.app 3 1 (.s 63) (.s 66)),
 mv 4 67] [63,64,65,66,67])
 .skip)))
 (.reg [mv 57 5,
 bI 58 .add 57 1,
 mv 5 58] [57,58]))))))
 (sr [mv 68 4,
 mv 2 68] [68]
 .ret)))))⟩
theorem Xz:ax Tryz.prog 29=some MD:=by kernel_rfl
abbrev Zn:FuncId:=29
def Bu:aH :=
⟨91,1,[.tmp 2],
 (sr [o0 1 (.box 37 3 (.s 0)),
 mI 2 0] []
 (.seq (sr [fa 16 0 1,
 lo 17 16,
 c1 18 108 17,
 mv 3 18] [16,17,18]
 (sr [mv 19 3,
 bI 20 .neq 19 0] [19]
 (.cond (.s 20)
 (sr [mv 21 3,
 mv 2 21] [21]
 .ret)
 .skip)))
 (.seq (sr [fa 22 1 1,
 lo 23 22,
 o0 24 (.call 109 [(.s 23),(iC 64)]),
 mv 4 24] [22,23,24]
 (sr [mv 25 4,
 bI 26 .neq 25 0] [25]
 (.cond (.s 26)
 (sr [mv 27 4,
 mv 2 27] [27]
 .ret)
 .skip)))
 (.seq (sr [fa 28 2 1,
 lo 29 28,
 ln 30 29,
 bI 31 .gtr 30 64] [28,29,30]
 (.cond (.s 31)
 (sr [mI 2 6] []
 .ret)
 .skip))
 (.seq (sr [fa 32 2 1,
 lo 33 32,
 ln 34 33,
 mI 35 0] [32]
 (.block 0 (.loop (sr [bS 36 .lss 35 34] []
 (.seq (.cond (.s 36)
 .skip
 (.exit 0))
 (.seq (.block 1 (sr [ia 37 2 33 35,
 lS 38 2 37,
 o0 6 (.new 50 [(.int .i64 0),.nl]),
 sT 2 6 38] [37,38]
 (sr [fa 39 1 6,
 lo 40 39,
 o0 41 (.call 109 [(.s 40),(iC 72)]),
 mv 7 41] [39,40,41]
 (sr [mv 42 7,
 bI 43 .neq 42 0] [42]
 (.cond (.s 43)
 (sr [mv 44 7,
 mv 2 44] [44]
 .ret)
 .skip)))))
 (.reg [bI 45 .add 35 1,
 mv 35 45] [45])))))))
 (sr [lS 46 3 1,
 c1 47 110 46,
 mv 8 47] [46,47]
 (.seq (sr [mv 48 8,
 ln 49 48,
 mI 50 0] []
 (.block 2 (.loop (sr [bS 51 .lss 50 49] []
 (.seq (.cond (.s 51)
 .skip
 (.exit 2))
 (.seq (.block 3 (sr [ia 52 1 48 50,
 lo 53 52,
 mv 10 53] [52,53]
 (sr [mv 54 10,
 ln 55 54,
 mI 56 0] []
 (.block 4 (.loop (sr [bS 57 .lss 56 55] []
 (.seq (.cond (.s 57)
 .skip
 (.exit 4))
 (.seq (.block 5 (sr [ia 58 1 54 56,
 lo 59 58,
 mv 12 59] [58,59]
 (sr [mv 60 12,
 bI 61 .lss 60 0,
 mv 62 61,
 mf 63 12 62,
 oF 64 62 (.bin .geq (.s 63) (iC 4294967296)),
 pT 65 62 64] [60,61,62,63,64]
 (.cond (.s 65)
 (sr [mI 2 1] []
 .ret)
 .skip))))
 (.reg [bI 66 .add 56 1,
 mv 56 66] [66])))))))))
 (.reg [bI 67 .add 50 1,
 mv 50 67] [67])))))))
 (.seq (sr [mv 68 8,
 ln 69 68,
 mI 70 0] []
 (.block 6 (.loop (sr [bS 71 .lss 70 69] []
 (.seq (.cond (.s 71)
 .skip
 (.exit 6))
 (.seq (.block 7 (sr [ia 72 1 68 70,
 lo 73 72,
 mv 14 73] [72,73]
 (sr [mI 15 1] []
 (.block 8 (.loop (.seq (sr [mv 74 15,
 mv 75 14,
 ln 76 75,
 bS 77 .lss 74 76] [74,75,76]
 (.cond (.s 77)
 .skip
 (.exit 8)))
 (.seq (.block 9 (.seq (.seq (.draw [⟨mv 80 14,[]⟩,
 ⟨mv 81 15,[]⟩,
 ⟨ia 82 1 80 81,[0,1]⟩,
 ⟨lo 83 82,[2,0,1]⟩,
 ⟨mv 84 14,[]⟩,
 ⟨mv 85 15,[]⟩,
 ⟨bI 86 .sub 85 1,[5]⟩,
 ⟨ia 87 1 84 86,[4,6,5]⟩,
 ⟨lo 88 87,[7,4,6,5]⟩] [] [])
 (.reg [bS 89 .leq 83 88] [80,81,82,83,84,85,86,87,88]))
 (.cond (.s 89)
 (sr [mI 2 7] []
 .ret)
 .skip)))
 (.reg [mv 78 15,
 bI 79 .add 78 1,
 mv 15 79] [78,79]))))))))
 (.reg [bI 90 .add 70 1,
 mv 70 90] [90])))))))
 (sr [mI 2 0] []
 .ret)))))))))⟩
theorem RB:ax Tryz.prog 34=some Bu:=by kernel_rfl
abbrev mr:FuncId:=34
def B9:aH :=
⟨25,2,[],
 (sr [mv 6 0,
 mv 7 1,
 ln 8 7,
 c2 9 44 6 8] [6,7,8,9]
 (sr [mv 10 1,
 ln 11 10,
 mI 12 0] []
 (.block 0 (.loop (sr [bS 13 .lss 12 11] []
 (.seq (.cond (.s 13)
 .skip
 (.exit 0))
 (.seq (.block 1 (.seq (.reg [ia 14 2 10 12,
 lS 15 2 14,
 o0 5 (.new 180 [(.int .i64 0),(.str [])]),
 sT 2 5 15] [14,15])
 (sr [mv 16 0,
 fa 17 0 5,
 lo 18 17,
 c2 19 44 16 18] [16,17,18,19]
 (.reg [mv 20 0,
 fa 21 1 5,
 lo 22 21,
 c2 23 40 20 22] [20,21,22,23]))))
 (.reg [bI 24 .add 12 1,
 mv 12 24] [24]))))))))⟩
theorem SC:ax Tryz.prog 42=some B9:=by kernel_rfl
abbrev UD:FuncId:=42
def Ck:aH :=
⟨29,1,[.tmp 2,.tmp 3],
 (sr [o0 2 (.mov (.c .nl)),
 mI 3 0] []
 (.seq (.block 0 (sr [mv 5 0,
 o0 6 (.pbin .eql (.s 5) (.c .np)),
 mv 7 6,
 mf 8 0 7,
 oF 9 7 (.nchk (.s 8)),
 oF 10 7 (fd 0 9),
 oF 11 7 (ld 10),
 oF 12 7 (.un .not (.s 11)),
 pT 13 7 12,
 mv 4 13] [5,6,7,8,9,10,11,12,13]
 (.cond (.s 4)
 (sr [o0 2 (.mov (.c .nl)),
 mI 3 2] []
 .ret)
 (sr [mv 15 0,
 nk 16 15,
 fa 17 2 16,
 lo 18 17,
 bI 19 .neq 18 0,
 mv 14 19] [15,16,17,18,19]
 (.cond (.s 14)
 (.seq (.seq (.draw [⟨mv 20 0,[]⟩,
 ⟨nk 21 20,[0]⟩,
 ⟨fa 22 2 21,[1,0]⟩,
 ⟨lo 23 22,[2,1,0]⟩,
 ⟨o0 2 (.mov (.c .nl)),[]⟩] [] [])
 (.reg [mv 3 23] [20,21,22,23]))
 .ret)
 .skip)))))
 (sr [mv 24 0,
 nk 25 24,
 fa 26 1 25,
 lo 27 26,
 o0 28 (.app 5 1 (.c .nl) (.s 27)),
 mv 2 28,
 mI 3 0] [24,25,26,27,28]
 .ret)))⟩
theorem WX:ax Tryz.prog 45=some Ck:=by kernel_rfl
abbrev YO:FuncId:=45
def B8:aH :=
⟨48,2,[.tmp 4],
 (sr [o0 4 (.mov (.c .nl))] []
 (sr [o0 5 (.mov (.c .nl))] []
 (.seq (sr [mv 8 0,
 mv 9 1,
 c2 10 118 8 9,
 mv 6 10] [8,9,10]
 (.block 0 (.loop (.seq (sr [mv 11 6,
 bI 12 .gtr 11 0,
 mv 13 12,
 mt 14 0 13,
 ot 15 13 (.call 120 [(.s 14)]),
 ot 16 13 (.bin .eql (.s 15) (iC 0)),
 pF 17 13 16] [11,12,13,14,15,16]
 (.cond (.s 17)
 .skip
 (.exit 0)))
 (.seq (.block 1 (.seq (.reg [mv 20 0,
 c1 21 50 20,
 o0 22 (.build [(.int .i64 0),(.str [])] [(0,1,(.s 21))]),
 o0 7 (.new 180 [(.int .i64 0),(.str [])]),
 sT 2 7 22] [20,21,22])
 (sr [mv 23 0,
 c1 24 51 23,
 fa 25 1 7,
 sT 1 25 24] [23,24,25]
 (.seq (.seq (sr [mv 26 5] []
 (sr [ln 27 26] []
 (sr [bI 28 .gtr 27 0] []
 (sr [mv 29 28] []
 (.seq (.draw [⟨ot 30 29 (fd 0 7),[]⟩,
 ⟨ot 31 29 (ld 30),[0]⟩,
 ⟨mt 32 5 29,[]⟩,
 ⟨mt 33 5 29,[]⟩,
 ⟨ot 34 29 (.len (.s 33)),[3]⟩,
 ⟨ot 35 29 (.bin .sub (.s 34) (iC 1)),[4,3]⟩,
 ⟨ot 36 29 (.iadr 2 (.s 32) (.s 35)),[2,5,4,3]⟩,
 ⟨ot 37 29 (fd 0 36),[6,2,5,4,3]⟩,
 ⟨ot 38 29 (ld 37),[7,6,2,5,4,3]⟩] [] [])
 (sr [ot 39 29 (.bin .leq (.s 31) (.s 38))] []
 (.reg [pF 40 29 39] [26,27,28,29,30,31,32,33,34,35,36,37,38,39])))))))
 (.cond (.s 40)
 (.reg [mv 41 0,
 o0 42 (.call 119 [(.s 41),(iC 7)])] [41,42])
 .skip))
 (.reg [mv 43 5,
 lS 44 2 7,
 o0 45 (.bsl 180 2 [[(.int .i64 0),(.str [])]] [(0,(.s 44))]),
 o0 46 (.app 180 2 (.s 43) (.s 45)),
 mv 5 46] [43,44,45,46])))))
 (.reg [mv 18 6,
 bI 19 .sub 18 1,
 mv 6 19] [18,19]))))))
 (sr [mv 47 5,
 mv 4 47] [47]
 .ret))))⟩
theorem SB:ax Tryz.prog 52=some B8:=by kernel_rfl
abbrev UC:FuncId:=52
def Bn:aH :=
⟨10,1,[.cell 2 (some 2)],
 (sr [o0 1 (.box 110 2 (.s 0)),
 o0 2 (.new 110 [.nl,.nl])] []
 (.seq (.seq (.draw [⟨fa 3 0 1,[]⟩,
 ⟨lo 4 3,[0]⟩,
 ⟨c1 5 58 4,[1,0]⟩,
 ⟨fa 6 1 1,[]⟩,
 ⟨lo 7 6,[3]⟩] [] [])
 (sr [c1 8 58 7] []
 (sr [o0 9 (.build [.nl,.nl] [(0,1,(.s 5)),(1,1,(.s 8))])] []
 (.reg [sT 2 2 9] [3,4,5,6,7,8,9]))))
 .ret))⟩
theorem Ru:ax Tryz.prog 57=some Bn:=by kernel_rfl
abbrev EP:FuncId:=57
def Bo:aH :=
⟨12,1,[.cell 2 (some 3)],
 (sr [o0 1 (.box 130 3 (.s 0)),
 o0 2 (.new 130 [(.int .i64 0),.nl,.nl])] []
 (.seq (.seq (.draw [⟨fa 3 0 1,[]⟩,
 ⟨lo 4 3,[0]⟩,
 ⟨fa 5 1 1,[]⟩,
 ⟨lo 6 5,[2]⟩,
 ⟨c1 7 58 6,[3,2]⟩,
 ⟨fa 8 2 1,[]⟩,
 ⟨lo 9 8,[5]⟩,
 ⟨c1 10 65 9,[6,5,4,3,2]⟩] [] [])
 (sr [o0 11 (.build [(.int .i64 0),.nl,.nl] [(0,1,(.s 4)),(1,1,(.s 7)),(2,1,(.s 10))])] []
 (.reg [sT 3 2 11] [3,4,5,6,7,8,9,10,11])))
 .ret))⟩
theorem Rv:ax Tryz.prog 64=some Bo:=by kernel_rfl
abbrev EQ:FuncId:=64
def Ml:aH :=
⟨22,2,[.tmp 4],
 (sr [o0 4 (.mov (.c .nl))] []
 (sr [o0 5 (.mov (.c .nl))] []
 (.seq (sr [mv 8 0,
 ln 9 8,
 mI 10 0] []
 (.block 0 (.loop (sr [bS 11 .lss 10 9] []
 (.seq (.cond (.s 11)
 .skip
 (.exit 0))
 (.seq (.block 1 (sr [ia 12 5 8 10,
 lS 13 5 12,
 o0 7 (.new 55 [(.int .i64 0),(.int .i64 0),.nl,(.int .i64 0),.nl]),
 sT 5 7 13] [12,13]
 (.reg [mv 14 5,
 mv 15 1,
 lS 16 5 7,
 o0 17 (.callv (.s 15) [(.s 16)]),
 o0 18 (.bsl 55 5 [[(.int .i64 0),(.int .i64 0),.nl,(.int .i64 0),.nl]] [(0,(.s 17))]),
 o0 19 (.app 55 5 (.s 14) (.s 18)),
 mv 5 19] [14,15,16,17,18,19])))
 (.reg [bI 20 .add 10 1,
 mv 10 20] [20])))))))
 (sr [mv 21 5,
 mv 4 21] [21]
 .ret))))⟩
theorem W4:ax Tryz.prog 68=some Ml:=by kernel_rfl
abbrev YU:FuncId:=68
def Br:aH :=
⟨12,1,[.cell 2 (some 4)],
 (sr [o0 1 (.box 142 4 (.s 0)),
 o0 2 (.new 142 [(.int .i64 0),(.int .i64 0),.nl,.nl])] []
 (.seq (.seq (.draw [⟨fa 3 2 1,[]⟩,
 ⟨lo 4 3,[0]⟩,
 ⟨c1 5 65 4,[1,0]⟩,
 ⟨fa 6 3 1,[]⟩,
 ⟨lo 7 6,[3]⟩] [] [])
 (.seq (.draw [⟨c1 8 73 7,[]⟩,
 ⟨fa 9 2 1,[]⟩] [] [])
 (sr [sT 1 9 5] []
 (sr [fa 10 3 1] []
 (.reg [sT 1 10 8] [3,4,5,6,7,8,9,10])))))
 (sr [lS 11 4 1,
 sT 4 2 11] [11]
 .ret)))⟩
theorem Ry:ax Tryz.prog 72=some Br:=by kernel_rfl
abbrev ET:FuncId:=72
def uk:aH :=
⟨17,2,[.tmp 4],
 (sr [o0 2 (.box 110 2 (.s 0)),
 o0 3 (.box 110 2 (.s 1)),
 mB 4 false] []
 (sr [fa 5 0 2,
 lo 6 5,
 fa 7 0 3,
 lo 8 7,
 c2 9 77 6 8,
 mv 10 9,
 ot 11 10 (fd 1 2),
 ot 12 10 (ld 11),
 ot 13 10 (fd 1 3),
 ot 14 10 (ld 13),
 ot 15 10 (.call 77 [(.s 12),(.s 14)]),
 pF 16 10 15,
 mv 4 16] [5,6,7,8,9,10,11,12,13,14,15,16]
 .ret))⟩
theorem Si:ax Tryz.prog 76=some uk:=by kernel_rfl
abbrev Uk:FuncId:=76
def MO:aH :=
⟨51,1,[.cell 2 (some 4)],
 (sr [o0 1 (.box 33 12 (.s 0)),
 o0 2 (.new 73 [(.int .i64 0),(.int .i64 0),(.int .i64 0),(.int .i64 0)])] []
 (sr [fa 5 1 1,
 lo 6 5,
 ln 7 6,
 o0 8 (.call 125 [(iC 2),(.s 7),(iC 32)]),
 o0 3 (.new 73 [(.int .i64 0),(.int .i64 0),(.int .i64 0),(.int .i64 0)]),
 sT 4 3 8] [5,6,7,8]
 (.seq (sr [mI 4 0] []
 (.block 0 (.loop (.seq (sr [mv 9 4,
 fa 10 1 1,
 lo 11 10,
 ln 12 11,
 bS 13 .lss 9 12,
 mv 14 13,
 ot 15 14 (.load (some 4) (.s 3)),
 ot 16 14 (.call 91 [(.s 15)]),
 pF 17 14 16] [9,10,11,12,13,14,15,16]
 (.cond (.s 17)
 .skip
 (.exit 0)))
 (.seq (.block 1 (sr [mv 20 4,
 fa 21 1 1,
 lo 22 21,
 mv 23 4,
 ia 24 13 22 23,
 fa 25 0 24,
 lo 26 25,
 c1 27 128 26,
 o0 28 (.call 126 [(iC 2),(.s 20),(.s 27)]),
 sT 4 3 28] [20,21,22,23,24,25,26,27,28]
 (.seq (sr [lS 29 4 3,
 c1 30 91 29] [29]
 (.cond (.s 30)
 (.reg [mv 31 4,
 fa 32 1 1,
 lo 33 32,
 mv 34 4,
 ia 35 13 33 34,
 fa 36 1 35,
 lo 37 36,
 c1 38 128 37,
 o0 39 (.call 126 [(iC 2),(.s 31),(.s 38)]),
 sT 4 3 39] [31,32,33,34,35,36,37,38,39])
 .skip))
 (sr [lS 40 4 3,
 c1 41 91 40] [40]
 (.cond (.s 41)
 (.reg [mv 42 4,
 fa 43 1 1,
 lo 44 43,
 mv 45 4,
 ia 46 13 44 45,
 lS 47 13 46,
 c1 48 129 47,
 o0 49 (.call 126 [(iC 2),(.s 42),(.s 48)]),
 sT 4 3 49] [42,43,44,45,46,47,48,49])
 .skip)))))
 (.reg [mv 18 4,
 bI 19 .add 18 1,
 mv 4 19] [18,19]))))))
 (sr [lS 50 4 3,
 sT 4 2 50] [50]
 .ret))))⟩
theorem XL:ax Tryz.prog 80=some MO:=by kernel_rfl
abbrev Zv:FuncId:=80
def BV:aH :=
⟨32,1,[.cell 2 (some 4)],
 (sr [o0 1 (.box 33 12 (.s 0)),
 o0 2 (.new 73 [(.int .i64 0),(.int .i64 0),(.int .i64 0),(.int .i64 0)])] []
 (.seq (.seq (.draw [⟨fa 5 4 1,[]⟩,
 ⟨lo 6 5,[0]⟩,
 ⟨ln 7 6,[1,0]⟩,
 ⟨lS 8 12 1,[]⟩,
 ⟨o0 9 (.call 130 [(.s 8),(iC 2)]),[3]⟩,
 ⟨o0 10 (.bin .sub (iC 2) (.s 9)),[4,3]⟩,
 ⟨o0 11 (.call 125 [(iC 5),(.s 7),(.s 10)]),[2,1,0,5,4,3]⟩,
 ⟨o0 3 (.new 73 [(.int .i64 0),(.int .i64 0),(.int .i64 0),(.int .i64 0)]),[]⟩] [(3,7)] [])
 (.reg [sT 4 3 11] [5,6,7,8,9,10,11]))
 (.seq (sr [mI 4 0] []
 (.block 0 (.loop (.seq (sr [mv 12 4,
 fa 13 4 1,
 lo 14 13,
 ln 15 14,
 bS 16 .lss 12 15,
 mv 17 16,
 ot 18 17 (.load (some 4) (.s 3)),
 ot 19 17 (.call 91 [(.s 18)]),
 pF 20 17 19] [12,13,14,15,16,17,18,19]
 (.cond (.s 20)
 .skip
 (.exit 0)))
 (.seq (.block 1 (.reg [mv 23 4,
 fa 24 4 1,
 lo 25 24,
 mv 26 4,
 ia 27 3 25 26,
 lS 28 3 27,
 c1 29 133 28,
 o0 30 (.call 126 [(iC 5),(.s 23),(.s 29)]),
 sT 4 3 30] [23,24,25,26,27,28,29,30]))
 (.reg [mv 21 4,
 bI 22 .add 21 1,
 mv 4 22] [21,22]))))))
 (sr [lS 31 4 3,
 sT 4 2 31] [31]
 .ret))))⟩
theorem Sm:ax Tryz.prog 83=some BV:=by kernel_rfl
abbrev Up:FuncId:=83
def Bz:aH :=
⟨70,1,[.cell 2 (some 4)],
 (sr [o0 1 (.box 33 12 (.s 0)),
 o0 2 (.new 73 [(.int .i64 0),(.int .i64 0),(.int .i64 0),(.int .i64 0)])] []
 (sr [fa 6 10 1,
 lo 7 6,
 ln 8 7,
 o0 9 (.call 125 [(iC 10),(.s 8),(iC 16)]),
 o0 3 (.new 73 [(.int .i64 0),(.int .i64 0),(.int .i64 0),(.int .i64 0)]),
 sT 4 3 9] [6,7,8,9]
 (.seq (sr [mI 4 0] []
 (.block 0 (.loop (.seq (sr [mv 10 4,
 fa 11 10 1,
 lo 12 11,
 ln 13 12,
 bS 14 .lss 10 13,
 mv 15 14,
 ot 16 15 (.load (some 4) (.s 3)),
 ot 17 15 (.call 91 [(.s 16)]),
 pF 18 15 17] [10,11,12,13,14,15,16,17]
 (.cond (.s 18)
 .skip
 (.exit 0)))
 (.seq (.block 1 (sr [fa 21 10 1,
 lo 22 21,
 mv 23 4,
 ia 24 4 22 23,
 lS 25 4 24,
 o0 5 (.new 142 [(.int .i64 0),(.int .i64 0),.nl,.nl]),
 sT 4 5 25] [21,22,23,24,25]
 (.block 2 (.seq (sr [fa 31 0 5,
 lo 32 31,
 bI 33 .neq 32 0,
 mv 34 33,
 ot 35 34 (fd 0 5),
 ot 36 34 (ld 35),
 ot 37 34 (.bin .neq (.s 36) (iC 1)),
 pF 38 34 37,
 mv 30 38] [31,32,33,34,35,36,37,38]
 (.cond (.s 30)
 .skip
 (.reg [fa 39 0 5,
 lo 40 39,
 bI 41 .eql 40 1,
 mv 42 41,
 ot 43 42 (fd 1 5),
 ot 44 42 (ld 43),
 ot 45 42 (.bin .neq (.s 44) (iC 0)),
 mt 46 45 42,
 oF 47 46 (fd 2 5),
 oF 48 46 (ld 47),
 oF 49 46 (.len (.s 48)),
 oF 50 46 (.bin .gtr (.s 49) (iC 0)),
 ot 51 42 (.pick (.s 46) (bC true) (.s 50)),
 pF 52 42 51,
 mv 30 52] [39,40,41,42,43,44,45,46,47,48,49,50,51,52])))
 (.cond (.s 30)
 (.reg [mv 53 4,
 o0 54 (.call 126 [(iC 10),(.s 53),(iC 1)]),
 sT 4 3 54] [53,54])
 (sr [fa 56 1 5,
 lo 57 56,
 c1 58 131 57,
 uN 59 58,
 mv 55 59] [56,57,58,59]
 (.cond (.s 55)
 (.reg [mv 60 4,
 o0 61 (.call 126 [(iC 10),(.s 60),(iC 11)]),
 sT 4 3 61] [60,61])
 (sr [fa 63 3 5,
 lo 64 63,
 ln 65 64,
 bI 66 .gtr 65 4096,
 mv 62 66] [63,64,65,66]
 (.cond (.s 62)
 (.reg [mv 67 4,
 o0 68 (.call 126 [(iC 10),(.s 67),(iC 6)]),
 sT 4 3 68] [67,68])
 (.reg [mv 26 4,
 fa 27 2 5,
 lo 28 27,
 o0 29 (.call 135 [(iC 10),(.s 26),(.s 28)]),
 sT 4 3 29] [26,27,28,29]))))))))))
 (.reg [mv 19 4,
 bI 20 .add 19 1,
 mv 4 20] [19,20]))))))
 (sr [lS 69 4 3,
 sT 4 2 69] [69]
 .ret))))⟩
theorem RO:ax Tryz.prog 88=some Bz:=by kernel_rfl
abbrev TU:FuncId:=88
def MP:aH :=
⟨27,2,[.cell 4 (some 2)],
 (sr [o0 2 (.box 81 2 (.s 0)),
 o0 3 (.box 110 2 (.s 1)),
 o0 4 (.new 81 [.nl,(.int .i64 0)])] []
 (sr [fa 6 0 3,
 lo 7 6,
 c1 8 142 7,
 mv 5 8] [6,7,8]
 (.seq (sr [mv 9 5,
 bI 10 .eql 9 0] [9]
 (.cond (.s 10)
 (.reg [fa 11 1 3,
 lo 12 11,
 c1 13 142 12,
 mv 5 13] [11,12,13])
 .skip))
 (.seq (sr [mv 14 5,
 bI 15 .neq 14 0] [14]
 (.cond (.s 15)
 (sr [lS 16 2 2,
 mv 17 5,
 c2 18 140 16 17,
 sT 2 4 18] [16,17,18]
 .ret)
 .skip))
 (.seq (.seq (.draw [⟨lS 19 2 2,[]⟩,
 ⟨o0 20 (.call 106 [(.s 19),(.c (.int .u8 96))]),[0]⟩,
 ⟨fa 21 0 3,[]⟩,
 ⟨lo 22 21,[2]⟩,
 ⟨c2 23 143 20 22,[1,0,3,2]⟩,
 ⟨fa 24 1 3,[]⟩,
 ⟨lo 25 24,[5]⟩] [] [])
 (sr [c2 26 143 23 25] []
 (.reg [sT 2 4 26] [19,20,21,22,23,24,25,26])))
 .ret)))))⟩
theorem XM:ax Tryz.prog 95=some MP:=by kernel_rfl
abbrev Zw:FuncId:=95
def G7:aH :=
⟨26,2,[.cell 4 (some 2)],
 (sr [o0 2 (.box 81 2 (.s 0)),
 o0 3 (.box 116 3 (.s 1)),
 o0 4 (.new 81 [.nl,(.int .i64 0)])] []
 (.seq (sr [lS 5 3 3,
 c1 6 145 5,
 uN 7 6] [5,6]
 (.cond (.s 7)
 (sr [lS 8 2 2,
 o0 9 (.call 140 [(.s 8),(iC 20)]),
 sT 2 4 9] [8,9]
 .ret)
 .skip))
 (.seq (sr [fa 10 2 3,
 lo 11 10,
 uN 12 11] [10,11]
 (.cond (.s 12)
 (.seq (.seq (.draw [⟨lS 13 2 2,[]⟩,
 ⟨o0 14 (.call 106 [(.s 13),(.c (.int .u8 0))]),[0]⟩,
 ⟨fa 15 0 3,[]⟩,
 ⟨lo 16 15,[2]⟩] [] [])
 (sr [c2 17 94 14 16] []
 (.reg [sT 2 4 17] [13,14,15,16,17])))
 .ret)
 .skip))
 (.seq (.seq (.draw [⟨lS 18 2 2,[]⟩,
 ⟨o0 19 (.call 106 [(.s 18),(.c (.int .u8 1))]),[0]⟩,
 ⟨fa 20 0 3,[]⟩,
 ⟨lo 21 20,[2]⟩,
 ⟨c2 22 94 19 21,[1,0,3,2]⟩,
 ⟨fa 23 1 3,[]⟩,
 ⟨lo 24 23,[5]⟩] [] [])
 (sr [c2 25 94 22 24] []
 (.reg [sT 2 4 25] [18,19,20,21,22,23,24,25])))
 .ret))))⟩
theorem Xm:ax Tryz.prog 98=some G7:=by kernel_rfl
abbrev Zc:FuncId:=98
def ui:aH :=
⟨13,1,[.tmp 2],
 (sr [mI 2 0] []
 (.seq (sr [mv 3 0,
 bI 4 .lss 3 1,
 mv 5 4,
 mf 6 0 5,
 oF 7 5 (.bin .gtr (.s 6) (iC 12)),
 pT 8 5 7] [3,4,5,6,7]
 (.cond (.s 8)
 (sr [mI 2 0] []
 .ret)
 .skip))
 (.seq (.reg [o0 9 (.bsl 3 1 [[(.int .i64 0)],[(.int .i64 0)],[(.int .i64 0)],[(.int .i64 0)],[(.int .i64 0)],[(.int .i64 0)],[(.int .i64 0)],[(.int .i64 0)],[(.int .i64 0)],[(.int .i64 0)],[(.int .i64 0)],[(.int .i64 0)],[(.int .i64 0)]] [(0,(iC 0)),(1,(iC 1)),(2,(iC 2)),(3,(iC 3)),(4,(iC 4)),(5,(iC 5)),(6,(iC 6)),(7,(iC 7)),(8,(iC 8)),(9,(iC 9)),(10,(iC 11)),(11,(iC 12)),(12,(iC 10))]),
 mv 10 0,
 ia 11 1 9 10,
 lo 12 11,
 mv 2 12] [9,10,11,12])
 .ret)))⟩
theorem R0:ax Tryz.prog 102=some ui:=by kernel_rfl
abbrev T4:FuncId:=102
def Ha:aH :=
⟨20,2,[.cell 4 (some 2)],
 (sr [o0 2 (.box 81 2 (.s 0)),
 o0 3 (.box 81 2 (.s 1)),
 o0 4 (.new 81 [.nl,(.int .i64 0)])] []
 (.seq (sr [fa 5 1 3,
 lo 6 5,
 bI 7 .neq 6 0] [5,6]
 (.cond (.s 7)
 (sr [lS 8 2 2,
 fa 9 1 3,
 lo 10 9,
 c2 11 140 8 10,
 sT 2 4 11] [8,9,10,11]
 .ret)
 .skip))
 (.seq (.seq (.draw [⟨lS 12 2 2,[]⟩,
 ⟨fa 13 0 3,[]⟩,
 ⟨lo 14 13,[1]⟩,
 ⟨ln 15 14,[2,1]⟩,
 ⟨c2 16 94 12 15,[0,3,2,1]⟩,
 ⟨fa 17 0 3,[]⟩,
 ⟨lo 18 17,[5]⟩] [] [])
 (sr [c2 19 103 16 18] []
 (.reg [sT 2 4 19] [12,13,14,15,16,17,18,19])))
 .ret)))⟩
theorem XE:ax Tryz.prog 107=some Ha:=by kernel_rfl
abbrev UY:FuncId:=107
def B7:aH :=
⟨42,1,[.tmp 2],
 (sr [o0 1 (.box 37 3 (.s 0)),
 o0 2 (.mov (.c .nl))] []
 (sr [o0 3 (.mov (.c .nl))] []
 (.seq (sr [fa 9 2 1,
 lo 10 9,
 ln 11 10,
 mI 12 0] [9]
 (.block 0 (.loop (sr [bS 13 .lss 12 11] []
 (.seq (.cond (.s 13)
 .skip
 (.exit 0))
 (.seq (.block 1 (sr [ia 14 2 10 12,
 lS 15 2 14,
 o0 5 (.new 50 [(.int .i64 0),.nl]),
 sT 2 5 15] [14,15]
 (.reg [mv 16 3,
 fa 17 0 5,
 lo 18 17,
 o0 19 (.bsl 3 1 [[(.int .i64 0)]] [(0,(.s 18))]),
 o0 20 (.app 3 1 (.s 16) (.s 19)),
 mv 3 20] [16,17,18,19,20])))
 (.reg [bI 21 .add 12 1,
 mv 12 21] [21])))))))
 (.seq (.reg [fa 22 1 1,
 lo 23 22,
 c1 24 152 23,
 mv 25 3,
 o0 26 (.bsl 77 1 [[.nl],[.nl]] [(0,(.s 24)),(1,(.s 25))]),
 mv 6 26] [22,23,24,25,26])
 (.seq (sr [fa 27 2 1,
 lo 28 27,
 ln 29 28,
 mI 30 0] [27]
 (.block 2 (.loop (sr [bS 31 .lss 30 29] []
 (.seq (.cond (.s 31)
 .skip
 (.exit 2))
 (.seq (.block 3 (sr [ia 32 2 28 30,
 lS 33 2 32,
 o0 8 (.new 50 [(.int .i64 0),.nl]),
 sT 2 8 33] [32,33]
 (.reg [mv 34 6,
 fa 35 1 8,
 lo 36 35,
 c1 37 152 36,
 o0 38 (.bsl 77 1 [[.nl]] [(0,(.s 37))]),
 o0 39 (.app 77 1 (.s 34) (.s 38)),
 mv 6 39] [34,35,36,37,38,39])))
 (.reg [bI 40 .add 30 1,
 mv 30 40] [40])))))))
 (sr [mv 41 6,
 mv 2 41] [41]
 .ret))))))⟩
theorem SA:ax Tryz.prog 110=some B7:=by kernel_rfl
abbrev UB:FuncId:=110
def GV:aH :=
⟨18,1,[.tmp 2],
 (sr [mB 2 false] []
 (sr [mv 3 0,
 o0 4 (.pbin .neq (.s 3) (.c .np)),
 mv 5 4,
 mt 6 0 5,
 ot 7 5 (.nchk (.s 6)),
 ot 8 5 (fd 0 7),
 ot 9 5 (ld 8),
 pF 10 5 9,
 mv 11 10,
 mt 12 0 11,
 ot 13 11 (.nchk (.s 12)),
 ot 14 11 (fd 3 13),
 ot 15 11 (ld 14),
 ot 16 11 (.bin .eql (.s 15) (iC 0)),
 pF 17 11 16,
 mv 2 17] [3,4,5,6,7,8,9,10,11,12,13,14,15,16,17]
 .ret))⟩
theorem WN:ax Tryz.prog 115=some GV:=by kernel_rfl
abbrev YF:FuncId:=115
def Wo:aH :=
⟨40,2,[.tmp 4],
 (sr [o0 4 (.mov (.c (.int .u64 0)))] []
 (.seq (sr [mv 8 0,
 c1 9 115 8,
 uN 10 9] [8,9]
 (.cond (.s 10)
 (sr [o0 4 (.mov (.c (.int .u64 0)))] []
 .ret)
 .skip))
 (.seq (.seq (.draw [⟨mv 12 0,[]⟩,
 ⟨nk 13 12,[0]⟩,
 ⟨fa 14 1 13,[1,0]⟩,
 ⟨lo 15 14,[2,1,0]⟩,
 ⟨mv 16 0,[]⟩,
 ⟨nk 17 16,[4]⟩,
 ⟨fa 18 2 17,[5,4]⟩,
 ⟨lo 19 18,[6,5,4]⟩,
 ⟨o0 20 (.slc 1 (.s 15) (some (.s 19)) none none),[3,2,1,0,7,6,5,4]⟩,
 ⟨mv 21 1,[]⟩] [] [])
 (sr [c2 22 156 20 21] []
 (sr [mv 11 22] []
 (.seq (.draw [⟨xt 23 11 0,[]⟩,
 ⟨xt 24 11 1,[]⟩,
 ⟨xt 25 11 2,[]⟩,
 ⟨mv 5 23,[0]⟩,
 ⟨mv 6 24,[1,3,0]⟩] [] [])
 (.reg [mv 7 25] [12,13,14,15,16,17,18,19,20,21,22,11,23,24,25])))))
 (.seq (sr [mv 26 7,
 bI 27 .neq 26 0] [26]
 (.cond (.s 27)
 (sr [mv 28 0,
 mv 29 7,
 c2 30 119 28 29] [28,29,30]
 (sr [o0 4 (.mov (.c (.int .u64 0)))] []
 .ret))
 .skip))
 (sr [mv 31 0,
 nk 32 31,
 fa 33 2 32,
 lo 34 33,
 mv 35 6,
 bS 36 .add 34 35,
 nk 37 31,
 fa 38 2 37,
 sT 1 38 36] [31,32,33,34,35,36,37,38]
 (sr [mv 39 5,
 mv 4 39] [39]
 .ret))))))⟩
theorem cX6:ax Tryz.prog 117=some Wo:=by kernel_rfl
abbrev nX6:FuncId:=117
def GX:aH :=
⟨16,1,[.tmp 2],
 (sr [mI 2 0] []
 (.seq (sr [mv 3 0,
 o0 4 (.pbin .eql (.s 3) (.c .np)),
 mv 5 4,
 mf 6 0 5,
 oF 7 5 (.nchk (.s 6)),
 oF 8 5 (fd 0 7),
 oF 9 5 (ld 8),
 oF 10 5 (.un .not (.s 9)),
 pT 11 5 10] [3,4,5,6,7,8,9,10]
 (.cond (.s 11)
 (sr [mI 2 2] []
 .ret)
 .skip))
 (sr [mv 12 0,
 nk 13 12,
 fa 14 3 13,
 lo 15 14,
 mv 2 15] [12,13,14,15]
 .ret)))⟩
theorem W7:ax Tryz.prog 120=some GX:=by kernel_rfl
abbrev YY:FuncId:=120
def L6:aH :=
⟨8,1,[.tmp 2],
 (sr [o0 2 (.mov (.c .nl))] []
 (.seq (sr [mv 3 0,
 o0 4 (.snl false (.s 3))] [3]
 (.cond (.s 4)
 (sr [o0 2 (.mov (.c .nl))] []
 .ret)
 .skip))
 (sr [o0 5 (.bsl 3 1 [] []),
 mv 6 0,
 o0 7 (.app 3 1 (.s 5) (.s 6)),
 mv 2 7] [5,6,7]
 .ret)))⟩
theorem WK:ax Tryz.prog 123=some L6:=by kernel_rfl
abbrev YD:FuncId:=123
def BQ:aH :=
⟨94,2,[.tmp 4],
 (sr [o0 2 (.box 192 9 (.s 0)),
 o0 3 (.box 192 9 (.s 1)),
 mB 4 false] []
 (.seq (sr [fa 7 0 2,
 lo 8 7,
 fa 9 0 3,
 lo 10 9,
 bS 11 .neq 8 10,
 mv 12 11,
 oF 13 12 (fd 1 2),
 oF 14 12 (ld 13),
 oF 15 12 (fd 1 3),
 oF 16 12 (ld 15),
 oF 17 12 (.bin .neq (.s 14) (.s 16)),
 pT 18 12 17,
 mv 19 18,
 oF 20 19 (fd 2 2),
 oF 21 19 (ld 20),
 oF 22 19 (fd 2 3),
 oF 23 19 (ld 22),
 oF 24 19 (.bin .neq (.s 21) (.s 23)),
 pT 25 19 24,
 mv 26 25,
 oF 27 26 (fd 3 2),
 oF 28 26 (ld 27),
 oF 29 26 (fd 3 3),
 oF 30 26 (ld 29),
 oF 31 26 (.bin .neq (.s 28) (.s 30)),
 pT 32 26 31,
 mv 33 32,
 oF 34 33 (fd 4 2),
 oF 35 33 (.load (some 3) (.s 34)),
 oF 36 33 (fd 4 3),
 oF 37 33 (.load (some 3) (.s 36)),
 oF 38 33 (.sbin .neq [.i,.i,.i] (.s 35) (.s 37)),
 pT 39 33 38,
 mv 40 39,
 oF 41 40 (fd 7 2),
 oF 42 40 (ld 41),
 oF 43 40 (.len (.s 42)),
 oF 44 40 (fd 7 3),
 oF 45 40 (ld 44),
 oF 46 40 (.len (.s 45)),
 oF 47 40 (.bin .neq (.s 43) (.s 46)),
 pT 48 40 47,
 mv 49 48,
 oF 50 49 (fd 8 2),
 oF 51 49 (ld 50),
 oF 52 49 (.len (.s 51)),
 oF 53 49 (fd 8 3),
 oF 54 49 (ld 53),
 oF 55 49 (.len (.s 54)),
 oF 56 49 (.bin .neq (.s 52) (.s 55)),
 pT 57 49 56] [7,8,9,10,11,12,13,14,15,16,17,18,19,20,21,22,23,24,25,26,27,28,29,30,31,32,33,34,35,36,37,38,39,40,41,42,43,44,45,46,47,48,49,50,51,52,53,54,55,56]
 (.cond (.s 57)
 (sr [mB 4 false] []
 .ret)
 .skip))
 (.seq (sr [mI 5 0] []
 (.block 0 (.loop (.seq (sr [mv 58 5,
 fa 59 7 2,
 lo 60 59,
 ln 61 60,
 bS 62 .lss 58 61] [58,59,60,61]
 (.cond (.s 62)
 .skip
 (.exit 0)))
 (.seq (.block 1 (.seq (.seq (.draw [⟨fa 65 7 2,[]⟩,
 ⟨lo 66 65,[0]⟩,
 ⟨mv 67 5,[]⟩,
 ⟨ia 68 1 66 67,[1,0,2]⟩,
 ⟨lo 69 68,[3,1,0,2]⟩,
 ⟨fa 70 7 3,[]⟩,
 ⟨lo 71 70,[5]⟩,
 ⟨mv 72 5,[]⟩,
 ⟨ia 73 1 71 72,[6,5,7]⟩,
 ⟨lo 74 73,[8,6,5,7]⟩] [] [])
 (.reg [bS 75 .neq 69 74] [65,66,67,68,69,70,71,72,73,74]))
 (.cond (.s 75)
 (sr [mB 4 false] []
 .ret)
 .skip)))
 (.reg [mv 63 5,
 bI 64 .add 63 1,
 mv 5 64] [63,64]))))))
 (.seq (sr [mI 6 0] []
 (.block 2 (.loop (.seq (sr [mv 76 6,
 fa 77 8 2,
 lo 78 77,
 ln 79 78,
 bS 80 .lss 76 79] [76,77,78,79]
 (.cond (.s 80)
 .skip
 (.exit 2)))
 (.seq (.block 3 (.seq (.seq (.draw [⟨fa 83 8 2,[]⟩,
 ⟨lo 84 83,[0]⟩,
 ⟨mv 85 6,[]⟩,
 ⟨ia 86 1 84 85,[1,0,2]⟩,
 ⟨lo 87 86,[3,1,0,2]⟩,
 ⟨fa 88 8 3,[]⟩,
 ⟨lo 89 88,[5]⟩,
 ⟨mv 90 6,[]⟩,
 ⟨ia 91 1 89 90,[6,5,7]⟩,
 ⟨lo 92 91,[8,6,5,7]⟩] [] [])
 (.reg [bS 93 .neq 87 92] [83,84,85,86,87,88,89,90,91,92]))
 (.cond (.s 93)
 (sr [mB 4 false] []
 .ret)
 .skip)))
 (.reg [mv 81 6,
 bI 82 .add 81 1,
 mv 6 82] [81,82]))))))
 (sr [mB 4 true] []
 .ret)))))⟩
theorem Sd:ax Tryz.prog 124=some BQ:=by kernel_rfl
abbrev Lr:FuncId:=124
def MZ:aH :=
⟨6,1,[.tmp 2],
 (sr [o0 1 (.box 120 2 (.s 0)),
 mB 2 false] []
 (sr [fa 3 0 1,
 lo 4 3,
 c1 5 157 4,
 mv 2 5] [3,4,5]
 .ret))⟩
theorem XZ:ax Tryz.prog 134=some MZ:=by kernel_rfl
abbrev ZG:FuncId:=134
def nK:aH :=
⟨41,1,[.tmp 2],
 (sr [o0 1 (.box 55 5 (.s 0)),
 mI 2 0] []
 (.seq (.block 0 (.seq (sr [fa 4 0 1,
 lo 5 4,
 bI 6 .lss 5 0,
 mv 7 6,
 oF 8 7 (fd 0 1),
 oF 9 7 (ld 8),
 oF 10 7 (.bin .gtr (.s 9) (iC 2)),
 pT 11 7 10,
 mv 3 11] [4,5,6,7,8,9,10,11]
 (.cond (.s 3)
 .skip
 (.reg [fa 12 0 1,
 lo 13 12,
 bI 14 .neq 13 0,
 mv 15 14,
 ot 16 15 (fd 1 1),
 ot 17 15 (ld 16),
 ot 18 15 (.bin .neq (.s 17) (iC 0)),
 mt 19 18 15,
 oF 20 19 (fd 2 1),
 oF 21 19 (ld 20),
 oF 22 19 (.len (.s 21)),
 oF 23 19 (.bin .gtr (.s 22) (iC 0)),
 ot 24 15 (.pick (.s 19) (bC true) (.s 23)),
 pF 25 15 24,
 mv 3 25] [12,13,14,15,16,17,18,19,20,21,22,23,24,25])))
 (.cond (.s 3)
 (sr [mI 2 1] []
 .ret)
 (sr [fa 27 1 1,
 lo 28 27,
 c1 29 131 28,
 uN 30 29,
 mv 26 30] [27,28,29,30]
 (.cond (.s 26)
 (sr [mI 2 11] []
 .ret)
 (sr [fa 32 3 1,
 lo 33 32,
 c1 34 144 33,
 uN 35 34,
 mv 31 35] [32,33,34,35]
 (.cond (.s 31)
 (sr [mI 2 12] []
 .ret)
 (sr [fa 37 4 1,
 lo 38 37,
 ln 39 38,
 bI 40 .gtr 39 256,
 mv 36 40] [37,38,39,40]
 (.cond (.s 36)
 (sr [mI 2 6] []
 .ret)
 .skip)))))))))
 (sr [mI 2 0] []
 .ret)))⟩
theorem Sk:ax Tryz.prog 136=some nK:=by kernel_rfl
abbrev Um:FuncId:=136
def G_:aH :=
⟨11,2,[.cell 4 (some 2)],
 (sr [o0 2 (.box 81 2 (.s 0)),
 o0 4 (.new 81 [.nl,(.int .i64 0)])] []
 (.seq (sr [fa 5 1 2,
 lo 6 5,
 bI 7 .eql 6 0] [5,6]
 (.cond (.s 7)
 (.reg [mv 8 1,
 fa 9 1 2,
 sT 1 9 8] [8,9])
 .skip))
 (sr [lS 10 2 2,
 sT 2 4 10] [10]
 .ret)))⟩
theorem XC:ax Tryz.prog 140=some G_:=by kernel_rfl
abbrev Zp:FuncId:=140
def xR:aH :=
⟨9,1,[.tmp 2],
 (sr [mB 2 false] []
 (sr [mv 3 0,
 bI 4 .eql 3 3,
 mv 5 4,
 mf 6 0 5,
 oF 7 5 (.bin .eql (.s 6) (iC 4)),
 pT 8 5 7,
 mv 2 8] [3,4,5,6,7,8]
 .ret))⟩
theorem SG:ax Tryz.prog 144=some xR:=by kernel_rfl
abbrev UG:FuncId:=144
def Hc:aH :=
⟨29,1,[.tmp 2],
 (sr [o0 1 (.box 116 3 (.s 0)),
 mB 2 false] []
 (.seq (sr [fa 3 2 1,
 lo 4 3,
 uN 5 4] [3,4]
 (.cond (.s 5)
 (sr [fa 6 0 1,
 lo 7 6,
 c1 8 161 7,
 mv 9 8,
 ot 10 9 (fd 1 1),
 ot 11 9 (ld 10),
 ot 12 9 (.bin .eql (.s 11) (iC 0)),
 pF 13 9 12,
 mv 2 13] [6,7,8,9,10,11,12,13]
 .ret)
 .skip))
 (sr [fa 14 0 1,
 lo 15 14,
 c1 16 161 15,
 mv 17 16,
 ot 18 17 (fd 1 1),
 ot 19 17 (ld 18),
 ot 20 17 (.call 161 [(.s 19)]),
 pF 21 17 20,
 mv 22 21,
 ot 23 22 (fd 1 1),
 ot 24 22 (ld 23),
 ot 25 22 (fd 0 1),
 ot 26 22 (ld 25),
 ot 27 22 (.bin .geq (.s 24) (.s 26)),
 pF 28 22 27,
 mv 2 28] [14,15,16,17,18,19,20,21,22,23,24,25,26,27,28]
 .ret)))⟩
theorem X7:ax Tryz.prog 145=some Hc:=by kernel_rfl
abbrev ZN:FuncId:=145
def Cp:aH :=
⟨36,2,[.cell 4 (some 2)],
 (sr [o0 2 (.box 81 2 (.s 0)),
 o0 3 (.box 142 4 (.s 1)),
 o0 4 (.new 81 [.nl,(.int .i64 0)])] []
 (.seq (.block 0 (sr [fa 14 0 3,
 lo 15 14,
 bI 16 .eql 15 1,
 mv 13 16] [14,15,16]
 (.cond (.s 13)
 (.reg [lS 17 2 2,
 o0 18 (.call 94 [(.s 17),(iC 1)]),
 sT 2 2 18] [17,18])
 (sr [fa 20 1 3,
 lo 21 20,
 bI 22 .eql 21 0,
 mv 19 22] [20,21,22]
 (.cond (.s 19)
 (.seq (.draw [⟨lS 23 2 2,[]⟩,
 ⟨o0 24 (.call 94 [(.s 23),(iC 0)]),[0]⟩,
 ⟨fa 25 2 3,[]⟩,
 ⟨lo 26 25,[2]⟩] [] [])
 (sr [c2 27 99 24 26] []
 (.reg [sT 2 2 27] [23,24,25,26,27])))
 (.seq (.draw [⟨lS 5 2 2,[]⟩,
 ⟨o0 6 (.call 94 [(.s 5),(iC 2)]),[0]⟩,
 ⟨fa 7 1 3,[]⟩,
 ⟨lo 8 7,[2]⟩,
 ⟨c2 9 94 6 8,[1,0,3,2]⟩,
 ⟨fa 10 2 3,[]⟩,
 ⟨lo 11 10,[5]⟩] [] [])
 (sr [c2 12 99 9 11] []
 (.reg [sT 2 2 12] [5,6,7,8,9,10,11,12]))))))))
 (.seq (.seq (.draw [⟨lS 28 2 2,[]⟩,
 ⟨fa 29 3 3,[]⟩,
 ⟨lo 30 29,[1]⟩,
 ⟨ln 31 30,[2,1]⟩,
 ⟨c2 32 94 28 31,[0,3,2,1]⟩,
 ⟨fa 33 3 3,[]⟩,
 ⟨lo 34 33,[5]⟩] [] [])
 (sr [c2 35 103 32 34] []
 (.reg [sT 2 4 35] [28,29,30,31,32,33,34,35])))
 .ret)))⟩
theorem XP:ax Tryz.prog 150=some Cp:=by kernel_rfl
abbrev Zz:FuncId:=150
def Ce:aH :=
⟨11,1,[.tmp 2],
 (sr [mB 2 false] []
 (sr [mv 6 0,
 c1 7 171 6,
 mv 5 7,
 xt 8 5 0,
 xt 9 5 1,
 mv 3 8,
 mv 4 9] [6,7,5,8,9,3]
 (sr [mv 10 4,
 mv 2 10] [10]
 .ret)))⟩
theorem SM:ax Tryz.prog 151=some Ce:=by kernel_rfl
abbrev UM:FuncId:=151
def ME:aH :=
⟨19,1,[.tmp 2],
 (sr [o0 2 (.mov (.c .nl))] []
 (sr [o0 3 (.mov (.c .nl))] []
 (.seq (sr [mv 6 0,
 ln 7 6,
 mI 8 0] []
 (.block 0 (.loop (sr [bS 9 .lss 8 7] []
 (.seq (.cond (.s 9)
 .skip
 (.exit 0))
 (.seq (.block 1 (.seq (.reg [ia 10 2 6 8,
 lS 11 2 10,
 o0 5 (.new 180 [(.int .i64 0),(.str [])]),
 sT 2 5 11] [10,11])
 (.reg [mv 12 3,
 fa 13 0 5,
 lo 14 13,
 o0 15 (.bsl 3 1 [[(.int .i64 0)]] [(0,(.s 14))]),
 o0 16 (.app 3 1 (.s 12) (.s 15)),
 mv 3 16] [12,13,14,15,16])))
 (.reg [bI 17 .add 8 1,
 mv 8 17] [17])))))))
 (sr [mv 18 3,
 mv 2 18] [18]
 .ret))))⟩
theorem XA:ax Tryz.prog 152=some ME:=by kernel_rfl
abbrev Zo:FuncId:=152
def Mq:aH :=
⟨29,2,[.tmp 4],
 (sr [o0 4 (.mov (.c .nl))] []
 (sr [mv 7 0,
 nk 8 7,
 fa 9 2 8,
 lo 10 9,
 mv 11 1,
 bS 12 .add 10 11,
 mv 5 12] [7,8,9,10,11,12]
 (.seq (.seq (.draw [⟨mv 13 0,[]⟩,
 ⟨nk 14 13,[0]⟩,
 ⟨fa 15 1 14,[1,0]⟩,
 ⟨lo 16 15,[2,1,0]⟩,
 ⟨mv 17 0,[]⟩,
 ⟨nk 18 17,[4]⟩,
 ⟨fa 19 2 18,[5,4]⟩,
 ⟨lo 20 19,[6,5,4]⟩,
 ⟨mv 21 5,[]⟩,
 ⟨mv 22 5,[]⟩] [] [])
 (sr [o0 23 (.slc 1 (.s 16) (some (.s 20)) (some (.s 21)) (some (.s 22)))] []
 (.reg [mv 6 23] [13,14,15,16,17,18,19,20,21,22,23])))
 (sr [mv 24 0,
 mv 25 5,
 nk 26 24,
 fa 27 2 26,
 sT 1 27 25] [24,25,26,27]
 (sr [mv 28 6,
 mv 4 28] [28]
 .ret)))))⟩
theorem W_:ax Tryz.prog 155=some Mq:=by kernel_rfl
abbrev Y1:FuncId:=155
def qX:aH :=
⟨9,1,[.tmp 2],
 (sr [mB 2 false] []
 (sr [mv 3 0,
 bI 4 .geq 3 1,
 mv 5 4,
 mt 6 0 5,
 ot 7 5 (.bin .leq (.s 6) (iC 4)),
 pF 8 5 7,
 mv 2 8] [3,4,5,6,7,8]
 .ret))⟩
theorem KX:ax Tryz.prog 157=some qX:=by kernel_rfl
abbrev Lt:FuncId:=157
def Bw:aH :=
⟨11,1,[.tmp 2],
 (sr [mB 2 false] []
 (sr [mv 6 0,
 c1 7 174 6,
 mv 5 7,
 xt 8 5 0,
 xt 9 5 1,
 mv 3 8,
 mv 4 9] [6,7,5,8,9,3]
 (sr [mv 10 4,
 mv 2 10] [10]
 .ret)))⟩
theorem RF:ax Tryz.prog 158=some Bw:=by kernel_rfl
abbrev TO:FuncId:=158
def By:aH :=
⟨243,1,[.tmp 2],
 (sr [o0 1 (.box 192 9 (.s 0)),
 mB 2 false] []
 (sr [fa 4 0 1,
 lo 5 4,
 c1 6 164 5,
 mv 3 6] [4,5,6]
 (.seq (sr [fa 7 0 1,
 lo 8 7,
 c1 9 175 8,
 uN 10 9,
 mv 11 10,
 mf 12 3 11,
 oF 13 11 (.bin .neq (.s 12) (iC 1)),
 mf 14 13 11,
 ot 15 14 (fd 4 1),
 ot 16 14 (.load (some 3) (.s 15)),
 ot 17 14 (.build [(.int .i64 0),(.int .i64 0),(.int .i64 0)] []),
 ot 18 14 (.sbin .neq [.i,.i,.i] (.s 16) (.s 17)),
 oF 19 11 (.pick (.s 14) (.s 18) (bC false)),
 pT 20 11 19,
 mv 21 20,
 mf 22 3 21,
 oF 23 21 (.bin .neq (.s 22) (iC 3)),
 mf 24 23 21,
 ot 25 24 (fd 8 1),
 ot 26 24 (ld 25),
 ot 27 24 (.len (.s 26)),
 ot 28 24 (.bin .gtr (.s 27) (iC 0)),
 oF 29 21 (.pick (.s 24) (.s 28) (bC false)),
 pT 30 21 29,
 mv 31 30,
 mf 32 3 31,
 oF 33 31 (.bin .neq (.s 32) (iC 6)),
 mf 34 33 31,
 ot 35 34 (fd 7 1),
 ot 36 34 (ld 35),
 ot 37 34 (.len (.s 36)),
 ot 38 34 (.bin .gtr (.s 37) (iC 0)),
 oF 39 31 (.pick (.s 34) (.s 38) (bC false)),
 pT 40 31 39] [7,8,9,10,11,12,13,14,15,16,17,18,19,20,21,22,23,24,25,26,27,28,29,30,31,32,33,34,35,36,37,38,39]
 (.cond (.s 40)
 (sr [mB 2 false] []
 .ret)
 .skip))
 (.seq (sr [mv 41 3] []
 (.block 0 (sr [bI 43 .eql 41 0,
 mv 42 43] [43]
 (.cond (.s 42)
 (sr [fa 44 1 1,
 lo 45 44,
 bI 46 .eql 45 0,
 mv 47 46,
 ot 48 47 (fd 2 1),
 ot 49 47 (ld 48),
 ot 50 47 (.bin .eql (.s 49) (iC 0)),
 pF 51 47 50,
 mv 52 51,
 ot 53 52 (fd 3 1),
 ot 54 52 (ld 53),
 ot 55 52 (.bin .eql (.s 54) (.c (.int .u64 0))),
 pF 56 52 55,
 mv 2 56] [44,45,46,47,48,49,50,51,52,53,54,55,56]
 .ret)
 (sr [bI 58 .eql 41 1,
 mv 57 58] [58]
 (.cond (.s 57)
 (sr [fa 59 1 1,
 lo 60 59,
 bI 61 .eql 60 0,
 mv 62 61,
 ot 63 62 (fd 2 1),
 ot 64 62 (ld 63),
 ot 65 62 (.bin .eql (.s 64) (iC 0)),
 pF 66 62 65,
 mv 67 66,
 ot 68 67 (fd 3 1),
 ot 69 67 (ld 68),
 ot 70 67 (.bin .eql (.s 69) (.c (.int .u64 0))),
 pF 71 67 70,
 mv 72 71,
 ot 73 72 (fd 4 1),
 ot 74 72 (.load (some 3) (.s 73)),
 ot 75 72 (.call 176 [(.s 74)]),
 pF 76 72 75,
 mv 2 76] [59,60,61,62,63,64,65,66,67,68,69,70,71,72,73,74,75,76]
 .ret)
 (sr [bI 78 .eql 41 3,
 mv 77 78] [78]
 (.cond (.s 77)
 (sr [fa 79 1 1,
 lo 80 79,
 c1 81 177 80,
 mv 82 81,
 ot 83 82 (fd 2 1),
 ot 84 82 (ld 83),
 ot 85 82 (.bin .eql (.s 84) (iC 0)),
 pF 86 82 85,
 mv 87 86,
 ot 88 87 (fd 3 1),
 ot 89 87 (ld 88),
 ot 90 87 (.bin .eql (.s 89) (.c (.int .u64 0))),
 pF 91 87 90,
 mv 92 91,
 ot 93 92 (fd 8 1),
 ot 94 92 (ld 93),
 ot 95 92 (.call 178 [(.s 94)]),
 pF 96 92 95,
 mv 2 96] [79,80,81,82,83,84,85,86,87,88,89,90,91,92,93,94,95,96]
 .ret)
 (sr [bI 98 .eql 41 6,
 mv 97 98] [98]
 (.cond (.s 97)
 (sr [fa 99 1 1,
 lo 100 99,
 bI 101 .eql 100 0,
 mv 102 101,
 ot 103 102 (fd 2 1),
 ot 104 102 (ld 103),
 ot 105 102 (.bin .eql (.s 104) (iC 0)),
 pF 106 102 105,
 mv 107 106,
 ot 108 107 (fd 3 1),
 ot 109 107 (ld 108),
 ot 110 107 (.bin .eql (.s 109) (.c (.int .u64 0))),
 pF 111 107 110,
 mv 112 111,
 ot 113 112 (fd 7 1),
 ot 114 112 (ld 113),
 ot 115 112 (.len (.s 114)),
 ot 116 112 (.bin .eql (.s 115) (iC 1)),
 pF 117 112 116,
 mv 118 117,
 ot 119 118 (fd 7 1),
 ot 120 118 (ld 119),
 ot 121 118 (.iadr 1 (.s 120) (iC 0)),
 ot 122 118 (ld 121),
 ot 123 118 (.call 179 [(.s 122)]),
 pF 124 118 123,
 mv 2 124] [99,100,101,102,103,104,105,106,107,108,109,110,111,112,113,114,115,116,117,118,119,120,121,122,123,124]
 .ret)
 (.seq (sr [bI 126 .eql 41 2,
 mv 125 126] [126]
 (.cond (.s 125)
 .skip
 (sr [bI 127 .eql 41 4,
 mv 125 127] [127]
 (.cond (.s 125)
 .skip
 (sr [bI 128 .eql 41 7,
 mv 125 128] [128]
 (.cond (.s 125)
 .skip
 (sr [bI 129 .eql 41 8,
 mv 125 129] [129]
 (.cond (.s 125)
 .skip
 (sr [bI 130 .eql 41 9,
 mv 125 130] [130]
 (.cond (.s 125)
 .skip
 (sr [bI 131 .eql 41 12,
 mv 125 131] [131]
 (.cond (.s 125)
 .skip
 (.reg [bI 132 .eql 41 16,
 mv 125 132] [132])))))))))))))
 (.cond (.s 125)
 (sr [fa 133 1 1,
 lo 134 133,
 c1 135 177 134,
 mv 136 135,
 ot 137 136 (fd 2 1),
 ot 138 136 (ld 137),
 ot 139 136 (.bin .eql (.s 138) (iC 0)),
 pF 140 136 139,
 mv 141 140,
 ot 142 141 (fd 3 1),
 ot 143 141 (ld 142),
 ot 144 141 (.bin .eql (.s 143) (.c (.int .u64 0))),
 pF 145 141 144,
 mv 2 145] [133,134,135,136,137,138,139,140,141,142,143,144,145]
 .ret)
 (.seq (sr [bI 147 .eql 41 5,
 mv 146 147] [147]
 (.cond (.s 146)
 .skip
 (sr [bI 148 .eql 41 10,
 mv 146 148] [148]
 (.cond (.s 146)
 .skip
 (sr [bI 149 .eql 41 11,
 mv 146 149] [149]
 (.cond (.s 146)
 .skip
 (sr [bI 150 .eql 41 14,
 mv 146 150] [150]
 (.cond (.s 146)
 .skip
 (.reg [bI 151 .eql 41 15,
 mv 146 151] [151])))))))))
 (.cond (.s 146)
 (sr [fa 152 1 1,
 lo 153 152,
 c1 154 177 153,
 mv 155 154,
 ot 156 155 (fd 2 1),
 ot 157 155 (ld 156),
 ot 158 155 (.call 177 [(.s 157)]),
 pF 159 155 158,
 mv 160 159,
 ot 161 160 (fd 3 1),
 ot 162 160 (ld 161),
 ot 163 160 (.bin .eql (.s 162) (.c (.int .u64 0))),
 pF 164 160 163,
 mv 2 164] [152,153,154,155,156,157,158,159,160,161,162,163,164]
 .ret)
 (sr [bI 166 .eql 41 13,
 mv 165 166] [166]
 (.cond (.s 165)
 (sr [fa 167 1 1,
 lo 168 167,
 bI 169 .eql 168 0,
 mv 170 169,
 ot 171 170 (fd 2 1),
 ot 172 170 (ld 171),
 ot 173 170 (.call 177 [(.s 172)]),
 pF 174 170 173,
 mv 175 174,
 ot 176 175 (fd 3 1),
 ot 177 175 (ld 176),
 ot 178 175 (.bin .eql (.s 177) (.c (.int .u64 0))),
 pF 179 175 178,
 mv 2 179] [167,168,169,170,171,172,173,174,175,176,177,178,179]
 .ret)
 (sr [bI 181 .eql 41 17,
 mv 180 181] [181]
 (.cond (.s 180)
 (sr [fa 182 1 1,
 lo 183 182,
 bI 184 .geq 183 0,
 mv 185 184,
 ot 186 185 (fd 1 1),
 ot 187 185 (ld 186),
 ot 188 185 (.bin .leq (.s 187) (iC 63)),
 pF 189 185 188,
 mv 190 189,
 ot 191 190 (fd 2 1),
 ot 192 190 (ld 191),
 ot 193 190 (.call 177 [(.s 192)]),
 pF 194 190 193,
 mv 195 194,
 ot 196 195 (fd 3 1),
 ot 197 195 (ld 196),
 ot 198 195 (.bin .lss (.s 197) (.c (.int .u64 4294967296))),
 pF 199 195 198,
 mv 2 199] [182,183,184,185,186,187,188,189,190,191,192,193,194,195,196,197,198,199]
 .ret)
 (sr [bI 201 .eql 41 18,
 mv 200 201] [201]
 (.cond (.s 200)
 (sr [fa 202 1 1,
 lo 203 202,
 bI 204 .eql 203 0,
 mv 205 204,
 ot 206 205 (fd 2 1),
 ot 207 205 (ld 206),
 ot 208 205 (.bin .eql (.s 207) (iC 0)),
 pF 209 205 208,
 mv 210 209,
 ot 211 210 (fd 3 1),
 ot 212 210 (ld 211),
 ot 213 210 (.bin .lss (.s 212) (.c (.int .u64 4294967296))),
 pF 214 210 213,
 mv 2 214] [202,203,204,205,206,207,208,209,210,211,212,213,214]
 .ret)
 (sr [bI 216 .eql 41 19,
 mv 215 216] [216]
 (.cond (.s 215)
 (sr [fa 217 1 1,
 lo 218 217,
 bI 219 .eql 218 0,
 mv 220 219,
 ot 221 220 (fd 2 1),
 ot 222 220 (ld 221),
 ot 223 220 (.bin .eql (.s 222) (iC 0)),
 pF 224 220 223,
 mv 2 224] [217,218,219,220,221,222,223,224]
 .ret)
 .skip))))))))))))))))))))))
 (sr [fa 225 1 1,
 lo 226 225,
 bI 227 .eql 226 3,
 mv 228 227,
 oF 229 228 (fd 1 1),
 oF 230 228 (ld 229),
 oF 231 228 (.bin .eql (.s 230) (iC 4)),
 pT 232 228 231,
 mv 233 232,
 ot 234 233 (fd 2 1),
 ot 235 233 (ld 234),
 ot 236 233 (.bin .eql (.s 235) (iC 0)),
 pF 237 233 236,
 mv 238 237,
 ot 239 238 (fd 3 1),
 ot 240 238 (ld 239),
 ot 241 238 (.bin .eql (.s 240) (.c (.int .u64 0))),
 pF 242 238 241,
 mv 2 242] [225,226,227,228,229,230,231,232,233,234,235,236,237,238,239,240,241,242]
 .ret)))))⟩
theorem RJ:ax Tryz.prog 160=some By:=by kernel_rfl
abbrev mw:FuncId:=160
def MJ:aH :=
⟨30,3,[.tmp 6],
 (sr [o0 6 (.mov (.c .nl))] []
 (sr [o0 7 (.mov (.c .nl))] []
 (.seq (sr [mI 8 0] []
 (.block 0 (.loop (.seq (sr [mv 9 8,
 mv 10 2,
 ln 11 10,
 bS 12 .lss 9 11] [9,10,11]
 (.cond (.s 12)
 .skip
 (.exit 0)))
 (.seq (.block 1 (.reg [mv 15 7,
 mv 16 0,
 mv 17 8,
 bS 18 .add 16 17,
 mv 19 1,
 o0 20 (.bin .add (.s 19) (.c (.str [46]))),
 mv 21 2,
 mv 22 8,
 ia 23 1 21 22,
 lo 24 23,
 bS 25 .add 20 24,
 o0 26 (.build [(.int .i64 0),(.str []),(.int .i64 0)] [(0,1,(.s 18)),(1,1,(.s 25)),(2,1,(iC 0))]),
 o0 27 (.bsl 246 3 [[(.int .i64 0),(.str []),(.int .i64 0)]] [(0,(.s 26))]),
 o0 28 (.app 246 3 (.s 15) (.s 27)),
 mv 7 28] [15,16,17,18,19,20,21,22,23,24,25,26,27,28]))
 (.reg [mv 13 8,
 bI 14 .add 13 1,
 mv 8 14] [13,14]))))))
 (sr [mv 29 7,
 mv 6 29] [29]
 .ret))))⟩
theorem XH:ax Tryz.prog 192=some MJ:=by kernel_rfl
abbrev wR:FuncId:=192
def BT:aH :=
⟨2,0,[.tmp 0],
 (sr [o0 0 (.mov (.c .nl))] []
 (.seq (.reg [o0 1 (.bsl 9 1 [[(.str [])],[(.str [])],[(.str [])],[(.str [])],[(.str [])],[(.str [])],[(.str [])],[(.str [])],[(.str [])],[(.str [])],[(.str [])],[(.str [])],[(.str [])],[(.str [])],[(.str [])],[(.str [])],[(.str [])],[(.str [])]] [(0,(.c (.str [99,108,122]))),(1,(.c (.str [99,116,122]))),(2,(.c (.str [112,111,112,99,110,116]))),(3,(.c (.str [97,100,100]))),(4,(.c (.str [115,117,98]))),(5,(.c (.str [109,117,108]))),(6,(.c (.str [100,105,118,95,115]))),(7,(.c (.str [100,105,118,95,117]))),(8,(.c (.str [114,101,109,95,115]))),(9,(.c (.str [114,101,109,95,117]))),(10,(.c (.str [97,110,100]))),(11,(.c (.str [111,114]))),(12,(.c (.str [120,111,114]))),(13,(.c (.str [115,104,108]))),(14,(.c (.str [115,104,114,95,115]))),(15,(.c (.str [115,104,114,95,117]))),(16,(.c (.str [114,111,116,108]))),(17,(.c (.str [114,111,116,114])))]),
 mv 0 1] [1])
 .ret))⟩
theorem Sg:ax Tryz.prog 194=some BT:=by kernel_rfl
abbrev Ui:FuncId:=194
def BH:aH :=
⟨12,1,[.tmp 2],
 (sr [o0 1 (.box 33 12 (.s 0)),
 mB 2 false] []
 (sr [lS 6 12 1,
 c1 7 10 6,
 mv 5 7,
 xt 8 5 0,
 xt 9 5 1,
 mv 3 8,
 mv 4 9] [6,7,5,8,9,3]
 (sr [mv 10 4,
 bI 11 .eql 10 0,
 mv 2 11] [10,11]
 .ret)))⟩
theorem R1:ax Tryz.prog 6=some BH:=by kernel_rfl
abbrev T5:FuncId:=6
def Bm:aH :=
⟨59,0,[.tmp 0],
 (sr [mB 0 false] []
 (.seq (.reg [o0 8 (.build [(.str []),.nl,.nl] [(0,1,(.c (.str [109])))]),
 o0 1 (.new 37 [(.str []),.nl,.nl]),
 sT 3 1 8] [8])
 (sr [lS 10 3 1,
 c1 11 11 10,
 mv 9 11,
 xt 12 9 0,
 xt 13 9 1,
 mv 2 12,
 mv 3 13] [10,11,9,12,13]
 (.seq (.reg [o0 15 (.bsl 5 1 [[(.int .u8 0)],[(.int .u8 0)],[(.int .u8 0)],[(.int .u8 0)],[(.int .u8 0)],[(.int .u8 0)]] [(0,(.c (.int .u8 1))),(1,(.c (.int .u8 4))),(2,(.c (.int .u8 1))),(3,(.c (.int .u8 3))),(4,(.c (.int .u8 1))),(5,(.c (.int .u8 102)))]),
 c1 16 12 15,
 mv 14 16,
 xt 17 14 0,
 xt 18 14 1,
 o0 4 (.new 37 [(.str []),.nl,.nl]),
 sT 3 4 17,
 mv 5 18] [15,16,14,17,18])
 (sr [o0 20 (.build [.nl,.nl,.nl,.nl,.nl,.nl,.nl,(.bool false),(.int .i64 0),.nl,.nl,.nl] []),
 lS 21 3 1,
 c2 22 8 20 21,
 mv 19 22,
 xt 23 19 0,
 xt 24 19 1,
 o0 6 (.new 33 [.nl,.nl,.nl,.nl,.nl,.nl,.nl,(.bool false),(.int .i64 0),.nl,.nl,.nl]),
 sT 12 6 23,
 mv 7 24] [20,21,22,19,23,24]
 (sr [mv 25 2,
 o0 26 (.cvs (.s 25)),
 o0 27 (.bin .eql (.s 26) (.c (.str [0,2,1,109]))),
 mv 28 27,
 mt 29 3 28,
 ot 30 28 (.bin .eql (.s 29) (iC 0)),
 pF 31 28 30,
 mv 32 31,
 mt 33 5 32,
 ot 34 32 (.bin .eql (.s 33) (iC 0)),
 pF 35 32 34,
 mv 36 35,
 ot 37 36 (.load (some 3) (.s 4)),
 ot 38 36 (.call 13 [(.s 37),(iC 3)]),
 ot 39 36 (.bin .eql (.s 38) (.c (.str [102]))),
 pF 40 36 39,
 mv 41 40,
 mt 42 7 41,
 ot 43 41 (.bin .eql (.s 42) (iC 0)),
 pF 44 41 43,
 mv 45 44,
 ot 46 45 (fd 11 6),
 ot 47 45 (ld 46),
 ot 48 45 (.len (.s 47)),
 ot 49 45 (.bin .eql (.s 48) (iC 1)),
 pF 50 45 49,
 mv 51 50,
 ot 52 51 (fd 11 6),
 ot 53 51 (ld 52),
 ot 54 51 (.iadr 3 (.s 53) (iC 0)),
 ot 55 51 (fd 1 54),
 ot 56 51 (ld 55),
 ot 57 51 (.bin .eql (.s 56) (.c (.str [110,97,109,101]))),
 pF 58 51 57,
 mv 0 58] [25,26,27,28,29,30,31,32,33,34,35,36,37,38,39,40,41,42,43,44,45,46,47,48,49,50,51,52,53,54,55,56,57,58]
 .ret))))))⟩
theorem Rt:ax Tryz.prog 7=some Bm:=by kernel_rfl
abbrev TL:FuncId:=7
def dH:aH :=
⟨80,2,[.tmp 4],
 (sr [o0 2 (.box 33 12 (.s 0)),
 o0 3 (.box 33 12 (.s 1)),
 mB 4 false] []
 (.seq (sr [fa 5 7 2,
 lo 6 5,
 fa 7 7 3,
 lo 8 7,
 o0 9 (.bbin .neq (.s 6) (.s 8)),
 mv 10 9,
 oF 11 10 (fd 7 2),
 oF 12 10 (ld 11),
 mf 13 12 10,
 ot 14 13 (fd 8 2),
 ot 15 13 (ld 14),
 ot 16 13 (fd 8 3),
 ot 17 13 (ld 16),
 ot 18 13 (.bin .neq (.s 15) (.s 17)),
 oF 19 10 (.pick (.s 13) (.s 18) (bC false)),
 pT 20 10 19] [5,6,7,8,9,10,11,12,13,14,15,16,17,18,19]
 (.cond (.s 20)
 (sr [mB 4 false] []
 .ret)
 .skip))
 (sr [fa 21 0 2,
 lo 22 21,
 fa 23 0 3,
 lo 24 23,
 c2 25 16 22 24,
 mv 26 25,
 ot 27 26 (fd 1 2),
 ot 28 26 (ld 27),
 ot 29 26 (fd 1 3),
 ot 30 26 (ld 29),
 ot 31 26 (.call 17 [(.s 28),(.s 30)]),
 pF 32 26 31,
 mv 33 32,
 ot 34 33 (fd 2 2),
 ot 35 33 (ld 34),
 ot 36 33 (fd 2 3),
 ot 37 33 (ld 36),
 ot 38 33 (.call 18 [(.s 35),(.s 37)]),
 pF 39 33 38,
 mv 40 39,
 ot 41 40 (.load (some 12) (.s 2)),
 ot 42 40 (.load (some 12) (.s 3)),
 ot 43 40 (.call 19 [(.s 41),(.s 42)]),
 pF 44 40 43,
 mv 45 44,
 ot 46 45 (fd 5 2),
 ot 47 45 (ld 46),
 ot 48 45 (fd 5 3),
 ot 49 45 (ld 48),
 ot 50 45 (.call 20 [(.s 47),(.s 49)]),
 pF 51 45 50,
 mv 52 51,
 ot 53 52 (fd 6 2),
 ot 54 52 (ld 53),
 ot 55 52 (fd 6 3),
 ot 56 52 (ld 55),
 ot 57 52 (.call 21 [(.s 54),(.s 56)]),
 pF 58 52 57,
 mv 59 58,
 ot 60 59 (fd 9 2),
 ot 61 59 (ld 60),
 ot 62 59 (fd 9 3),
 ot 63 59 (ld 62),
 ot 64 59 (.call 22 [(.s 61),(.s 63)]),
 pF 65 59 64,
 mv 66 65,
 ot 67 66 (fd 10 2),
 ot 68 66 (ld 67),
 ot 69 66 (fd 10 3),
 ot 70 66 (ld 69),
 ot 71 66 (.call 23 [(.s 68),(.s 70)]),
 pF 72 66 71,
 mv 73 72,
 ot 74 73 (fd 11 2),
 ot 75 73 (ld 74),
 ot 76 73 (fd 11 3),
 ot 77 73 (ld 76),
 ot 78 73 (.call 24 [(.s 75),(.s 77)]),
 pF 79 73 78,
 mv 4 79] [21,22,23,24,25,26,27,28,29,30,31,32,33,34,35,36,37,38,39,40,41,42,43,44,45,46,47,48,49,50,51,52,53,54,55,56,57,58,59,60,61,62,63,64,65,66,67,68,69,70,71,72,73,74,75,76,77,78,79]
 .ret)))⟩
theorem Sj:ax Tryz.prog 9=some dH:=by kernel_rfl
abbrev Ul:FuncId:=9
def BL:aH :=
⟨64,1,[.tmp 2],
 (sr [o0 1 (.box 33 12 (.s 0)),
 mI 2 0] []
 (.seq (.seq (.reg [fa 5 10 1,
 lo 6 5,
 ln 7 6,
 bI 8 .gtr 7 0,
 o0 9 (.build [(.bool false),(.int .i64 0)] [(0,1,(.s 8)),(1,1,(iC 12))]),
 fa 10 2 1,
 lo 11 10,
 ln 12 11,
 bI 13 .gtr 12 0,
 o0 14 (.build [(.bool false),(.int .i64 0)] [(0,1,(.s 13)),(1,1,(iC 11))]),
 fa 15 9 1,
 lo 16 15,
 ln 17 16,
 bI 18 .gtr 17 0,
 o0 19 (.build [(.bool false),(.int .i64 0)] [(0,1,(.s 18)),(1,1,(iC 9))]),
 fa 20 7 1,
 lo 21 20,
 o0 22 (.build [(.bool false),(.int .i64 0)] [(0,1,(.s 21)),(1,1,(iC 8))]),
 fa 23 6 1,
 lo 24 23,
 ln 25 24,
 bI 26 .gtr 25 0,
 o0 27 (.build [(.bool false),(.int .i64 0)] [(0,1,(.s 26)),(1,1,(iC 7))]),
 fa 28 5 1,
 lo 29 28,
 ln 30 29,
 bI 31 .gtr 30 0,
 o0 32 (.build [(.bool false),(.int .i64 0)] [(0,1,(.s 31)),(1,1,(iC 6))]),
 fa 33 4 1,
 lo 34 33,
 ln 35 34,
 bI 36 .gtr 35 0,
 o0 37 (.build [(.bool false),(.int .i64 0)] [(0,1,(.s 36)),(1,1,(iC 5))]),
 fa 38 3 1,
 lo 39 38,
 ln 40 39,
 bI 41 .gtr 40 0,
 o0 42 (.build [(.bool false),(.int .i64 0)] [(0,1,(.s 41)),(1,1,(iC 4))]),
 fa 43 1 1,
 lo 44 43,
 ln 45 44,
 bI 46 .gtr 45 0,
 o0 47 (.build [(.bool false),(.int .i64 0)] [(0,1,(.s 46)),(1,1,(iC 2))]),
 fa 48 0 1,
 lo 49 48,
 ln 50 49,
 bI 51 .gtr 50 0,
 o0 52 (.build [(.bool false),(.int .i64 0)] [(0,1,(.s 51)),(1,1,(iC 1))]),
 o0 53 (.bsl 147 2 [[(.bool false),(.int .i64 0)],[(.bool false),(.int .i64 0)],[(.bool false),(.int .i64 0)],[(.bool false),(.int .i64 0)],[(.bool false),(.int .i64 0)],[(.bool false),(.int .i64 0)],[(.bool false),(.int .i64 0)],[(.bool false),(.int .i64 0)],[(.bool false),(.int .i64 0)],[(.bool false),(.int .i64 0)]] [(0,(.s 9)),(1,(.s 14)),(2,(.s 19)),(3,(.s 22)),(4,(.s 27)),(5,(.s 32)),(6,(.s 37)),(7,(.s 42)),(8,(.s 47)),(9,(.s 52))]),
 ln 54 53,
 mI 55 0] [5,6,7,8,9,10,11,12,13,14,15,16,17,18,19,20,21,22,23,24,25,26,27,28,29,30,31,32,33,34,35,36,37,38,39,40,41,42,43,44,45,46,47,48,49,50,51,52])
 (.block 0 (.loop (sr [bS 56 .lss 55 54] []
 (.seq (.cond (.s 56)
 .skip
 (.exit 0))
 (.seq (.block 1 (sr [ia 57 2 53 55,
 lS 58 2 57,
 o0 4 (.new 147 [(.bool false),(.int .i64 0)]),
 sT 2 4 58] [57,58]
 (sr [fa 59 0 4,
 lo 60 59] [59]
 (.cond (.s 60)
 (sr [fa 61 1 4,
 lo 62 61,
 mv 2 62] [61,62]
 .ret)
 .skip))))
 (.reg [bI 63 .add 55 1,
 mv 55 63] [63])))))))
 (sr [mI 2 0] []
 .ret)))⟩
theorem R7:ax Tryz.prog 15=some BL:=by kernel_rfl
abbrev Ua:FuncId:=15
def GZ:aH :=
⟨26,2,[.tmp 4],
 (sr [mB 4 false] []
 (.seq (sr [mv 6 0,
 ln 7 6,
 mv 8 1,
 ln 9 8,
 bS 10 .neq 7 9] [6,7,8,9]
 (.cond (.s 10)
 (sr [mB 4 false] []
 .ret)
 .skip))
 (.seq (sr [mI 5 0] []
 (.block 0 (.loop (.seq (sr [mv 11 5,
 mv 12 0,
 ln 13 12,
 bS 14 .lss 11 13] [11,12,13]
 (.cond (.s 14)
 .skip
 (.exit 0)))
 (.seq (.block 1 (.seq (.seq (.draw [⟨mv 17 0,[]⟩,
 ⟨mv 18 5,[]⟩,
 ⟨ia 19 3 17 18,[0,1]⟩,
 ⟨lS 20 3 19,[2,0,1]⟩,
 ⟨mv 21 1,[]⟩,
 ⟨mv 22 5,[]⟩,
 ⟨ia 23 3 21 22,[4,5]⟩,
 ⟨lS 24 3 23,[6,4,5]⟩] [] [])
 (.reg [o0 25 (.sbin .neq [.s,.i,.i] (.s 20) (.s 24))] [17,18,19,20,21,22,23,24]))
 (.cond (.s 25)
 (sr [mB 4 false] []
 .ret)
 .skip)))
 (.reg [mv 15 5,
 bI 16 .add 15 1,
 mv 5 16] [15,16]))))))
 (sr [mB 4 true] []
 .ret))))⟩
theorem Xc:ax Tryz.prog 21=some GZ:=by kernel_rfl
abbrev Y3:FuncId:=21
def M0:aH :=
⟨47,1,[.cell 2 (some 4)],
 (sr [o0 1 (.box 33 12 (.s 0)),
 o0 2 (.new 73 [(.int .i64 0),(.int .i64 0),(.int .i64 0),(.int .i64 0)])] []
 (.seq (.seq (.draw [⟨lS 5 12 1,[]⟩,
 ⟨c1 6 79 5,[0]⟩,
 ⟨lS 7 12 1,[]⟩,
 ⟨c1 8 80 7,[2,1,0]⟩,
 ⟨lS 9 12 1,[]⟩,
 ⟨c1 10 81 9,[4,3,2,1,0]⟩,
 ⟨lS 11 12 1,[]⟩,
 ⟨c1 12 82 11,[6,5,4,3,2,1,0]⟩,
 ⟨lS 13 12 1,[]⟩,
 ⟨c1 14 83 13,[8,7,6,5,4,3,2,1,0]⟩,
 ⟨lS 15 12 1,[]⟩,
 ⟨c1 16 84 15,[10,9,8,7,6,5,4,3,2,1,0]⟩,
 ⟨lS 17 12 1,[]⟩,
 ⟨c1 18 85 17,[12,11,10,9,8,7,6,5,4,3,2,1,0]⟩,
 ⟨lS 19 12 1,[]⟩,
 ⟨c1 20 86 19,[14,13,12,11,10,9,8,7,6,5,4,3,2,1,0]⟩,
 ⟨lS 21 12 1,[]⟩,
 ⟨c1 22 87 21,[16,15,14,13,12,11,10,9,8,7,6,5,4,3,2,1,0]⟩,
 ⟨lS 23 12 1,[]⟩,
 ⟨c1 24 88 23,[18,17,16,15,14,13,12,11,10,9,8,7,6,5,4,3,2,1,0]⟩,
 ⟨lS 25 12 1,[]⟩,
 ⟨c1 26 89 25,[20,19,18,17,16,15,14,13,12,11,10,9,8,7,6,5,4,3,2,1,0]⟩,
 ⟨lS 27 12 1,[]⟩] [] [])
 (sr [c1 28 90 27] []
 (.seq (.reg [o0 29 (.bsl 73 4 [[(.int .i64 0),(.int .i64 0),(.int .i64 0),(.int .i64 0)],[(.int .i64 0),(.int .i64 0),(.int .i64 0),(.int .i64 0)],[(.int .i64 0),(.int .i64 0),(.int .i64 0),(.int .i64 0)],[(.int .i64 0),(.int .i64 0),(.int .i64 0),(.int .i64 0)],[(.int .i64 0),(.int .i64 0),(.int .i64 0),(.int .i64 0)],[(.int .i64 0),(.int .i64 0),(.int .i64 0),(.int .i64 0)],[(.int .i64 0),(.int .i64 0),(.int .i64 0),(.int .i64 0)],[(.int .i64 0),(.int .i64 0),(.int .i64 0),(.int .i64 0)],[(.int .i64 0),(.int .i64 0),(.int .i64 0),(.int .i64 0)],[(.int .i64 0),(.int .i64 0),(.int .i64 0),(.int .i64 0)],[(.int .i64 0),(.int .i64 0),(.int .i64 0),(.int .i64 0)],[(.int .i64 0),(.int .i64 0),(.int .i64 0),(.int .i64 0)]] [(0,(.s 6)),(1,(.s 8)),(2,(.s 10)),(3,(.s 12)),(4,(.s 14)),(5,(.s 16)),(6,(.s 18)),(7,(.s 20)),(8,(.s 22)),(9,(.s 24)),(10,(.s 26)),(11,(.s 28))])] [])
 (.reg [mv 3 29] [5,6,7,8,9,10,11,12,13,14,15,16,17,18,19,20,21,22,23,24,25,26,27,28,29]))))
 (.seq (sr [mI 4 0] []
 (.block 0 (.loop (.seq (sr [mv 30 4,
 mv 31 3,
 ln 32 31,
 bS 33 .lss 30 32] [30,31,32]
 (.cond (.s 33)
 .skip
 (.exit 0)))
 (.seq (.block 1 (sr [mv 36 3,
 mv 37 4,
 ia 38 4 36 37,
 lS 39 4 38,
 c1 40 91 39,
 uN 41 40] [36,37,38,39,40]
 (.cond (.s 41)
 (sr [mv 42 3,
 mv 43 4,
 ia 44 4 42 43,
 lS 45 4 44,
 sT 4 2 45] [42,43,44,45]
 .ret)
 .skip)))
 (.reg [mv 34 4,
 bI 35 .add 34 1,
 mv 4 35] [34,35]))))))
 (sr [o0 46 (.build [(.int .i64 0),(.int .i64 0),(.int .i64 0),(.int .i64 0)] []),
 sT 4 2 46] [46]
 .ret))))⟩
theorem X1:ax Tryz.prog 25=some M0:=by kernel_rfl
abbrev ZI:FuncId:=25
def Co:aH :=
⟨39,2,[.tmp 4],
 (sr [o0 2 (.box 33 12 (.s 0)),
 o0 4 (.mov (.c .nl))] []
 (sr [o0 5 (.mov (.c .nl))] []
 (.seq (sr [mI 6 0] []
 (.block 0 (.loop (.seq (sr [mv 7 6,
 fa 8 11 2,
 lo 9 8,
 ln 10 9,
 bS 11 .lss 7 10] [7,8,9,10]
 (.cond (.s 11)
 .skip
 (.exit 0)))
 (.seq (.block 1 (sr [fa 14 11 2,
 lo 15 14,
 mv 16 6,
 ia 17 3 15 16,
 fa 18 0 17,
 lo 19 18,
 mv 20 1,
 bS 21 .eql 19 20] [14,15,16,17,18,19,20]
 (.cond (.s 21)
 (.seq (.draw [⟨mv 22 5,[]⟩,
 ⟨fa 23 11 2,[]⟩,
 ⟨lo 24 23,[1]⟩,
 ⟨mv 25 6,[]⟩,
 ⟨ia 26 3 24 25,[2,1,3]⟩,
 ⟨fa 27 1 26,[4,2,1,3]⟩,
 ⟨lo 28 27,[5,4,2,1,3]⟩,
 ⟨fa 29 11 2,[]⟩,
 ⟨lo 30 29,[7]⟩,
 ⟨mv 31 6,[]⟩,
 ⟨ia 32 3 30 31,[8,7,9]⟩,
 ⟨fa 33 2 32,[10,8,7,9]⟩,
 ⟨lo 34 33,[11,10,8,7,9]⟩,
 ⟨o0 35 (.build [(.int .i64 0),(.str []),.nl] [(1,1,(.s 28)),(2,1,(.s 34))]),[6,5,4,2,1,3,12,11,10,8,7,9]⟩,
 ⟨o0 36 (.bsl 85 3 [[(.int .i64 0),(.str []),.nl]] [(0,(.s 35))]),[13,6,5,4,2,1,3,12,11,10,8,7,9]⟩] [(36,14)] [])
 (sr [o0 37 (.app 85 3 (.s 22) (.s 36))] []
 (.reg [mv 5 37] [22,23,24,25,26,27,28,29,30,31,32,33,34,35,36,37])))
 .skip)))
 (.reg [mv 12 6,
 bI 13 .add 12 1,
 mv 6 13] [12,13]))))))
 (sr [mv 38 5,
 mv 4 38] [38]
 .ret))))⟩
theorem SU:ax Tryz.prog 28=some Co:=by kernel_rfl
abbrev UZ:FuncId:=28
def gQ:aH :=
⟨152,2,[.cell 4 (some 2)],
 (sr [o0 2 (.box 33 12 (.s 0)),
 o0 4 (.new 81 [.nl,(.int .i64 0)])] []
 (sr [o0 5 (.new 81 [.nl,(.int .i64 0)])] []
 (.seq (sr [mv 12 1] []
 (.block 0 (sr [bI 17 .eql 12 1,
 mv 16 17] [17]
 (.cond (.s 16)
 (sr [lS 18 2 5,
 fa 19 0 2,
 lo 20 19,
 ln 21 20,
 c2 22 94 18 21,
 sT 2 5 22] [18,19,20,21,22]
 (sr [mI 6 0] []
 (.block 1 (.loop (.seq (sr [mv 23 6,
 fa 24 0 2,
 lo 25 24,
 ln 26 25,
 bS 27 .lss 23 26] [23,24,25,26]
 (.cond (.s 27)
 .skip
 (.exit 1)))
 (.seq (.block 2 (.seq (.draw [⟨lS 30 2 5,[]⟩,
 ⟨fa 31 0 2,[]⟩,
 ⟨lo 32 31,[1]⟩,
 ⟨mv 33 6,[]⟩,
 ⟨ia 34 2 32 33,[2,1,3]⟩,
 ⟨lS 35 2 34,[4,2,1,3]⟩] [] [])
 (sr [c2 36 95 30 35] []
 (.reg [sT 2 5 36] [30,31,32,33,34,35,36]))))
 (.reg [mv 28 6,
 bI 29 .add 28 1,
 mv 6 29] [28,29])))))))
 (sr [bI 38 .eql 12 2,
 mv 37 38] [38]
 (.cond (.s 37)
 (sr [lS 39 2 5,
 fa 40 1 2,
 lo 41 40,
 ln 42 41,
 c2 43 94 39 42,
 sT 2 5 43] [39,40,41,42,43]
 (sr [mI 7 0] []
 (.block 3 (.loop (.seq (sr [mv 44 7,
 fa 45 1 2,
 lo 46 45,
 ln 47 46,
 bS 48 .lss 44 47] [44,45,46,47]
 (.cond (.s 48)
 .skip
 (.exit 3)))
 (.seq (.block 4 (.seq (.draw [⟨lS 51 2 5,[]⟩,
 ⟨fa 52 1 2,[]⟩,
 ⟨lo 53 52,[1]⟩,
 ⟨mv 54 7,[]⟩,
 ⟨ia 55 13 53 54,[2,1,3]⟩,
 ⟨lS 56 13 55,[4,2,1,3]⟩] [] [])
 (sr [c2 57 96 51 56] []
 (.reg [sT 2 5 57] [51,52,53,54,55,56,57]))))
 (.reg [mv 49 7,
 bI 50 .add 49 1,
 mv 7 50] [49,50])))))))
 (sr [bI 59 .eql 12 3,
 mv 58 59] [59]
 (.cond (.s 58)
 (sr [lS 60 2 5,
 fa 61 2 2,
 lo 62 61,
 ln 63 62,
 c2 64 94 60 63,
 sT 2 5 64] [60,61,62,63,64]
 (sr [mI 8 0] []
 (.block 5 (.loop (.seq (sr [mv 65 8,
 fa 66 2 2,
 lo 67 66,
 ln 68 67,
 bS 69 .lss 65 68] [65,66,67,68]
 (.cond (.s 69)
 .skip
 (.exit 5)))
 (.seq (.block 6 (.seq (.draw [⟨lS 72 2 5,[]⟩,
 ⟨fa 73 2 2,[]⟩,
 ⟨lo 74 73,[1]⟩,
 ⟨mv 75 8,[]⟩,
 ⟨ia 76 3 74 75,[2,1,3]⟩,
 ⟨fa 77 0 76,[4,2,1,3]⟩,
 ⟨lo 78 77,[5,4,2,1,3]⟩] [] [])
 (sr [c2 79 94 72 78] []
 (.reg [sT 2 5 79] [72,73,74,75,76,77,78,79]))))
 (.reg [mv 70 8,
 bI 71 .add 70 1,
 mv 8 71] [70,71])))))))
 (sr [bI 81 .eql 12 4,
 mv 80 81] [81]
 (.cond (.s 80)
 (sr [lS 82 2 5,
 fa 83 3 2,
 lo 84 83,
 ln 85 84,
 c2 86 94 82 85,
 sT 2 5 86] [82,83,84,85,86]
 (sr [mI 9 0] []
 (.block 7 (.loop (.seq (sr [mv 87 9,
 fa 88 3 2,
 lo 89 88,
 ln 90 89,
 bS 91 .lss 87 90] [87,88,89,90]
 (.cond (.s 91)
 .skip
 (.exit 7)))
 (.seq (.block 8 (.seq (.draw [⟨lS 94 2 5,[]⟩,
 ⟨fa 95 3 2,[]⟩,
 ⟨lo 96 95,[1]⟩,
 ⟨mv 97 9,[]⟩,
 ⟨ia 98 4 96 97,[2,1,3]⟩,
 ⟨lS 99 4 98,[4,2,1,3]⟩] [] [])
 (sr [c2 100 97 94 99] []
 (.reg [sT 2 5 100] [94,95,96,97,98,99,100]))))
 (.reg [mv 92 9,
 bI 93 .add 92 1,
 mv 9 93] [92,93])))))))
 (sr [bI 102 .eql 12 5,
 mv 101 102] [102]
 (.cond (.s 101)
 (sr [lS 103 2 5,
 fa 104 4 2,
 lo 105 104,
 ln 106 105,
 c2 107 94 103 106,
 sT 2 5 107] [103,104,105,106,107]
 (sr [mI 10 0] []
 (.block 9 (.loop (.seq (sr [mv 108 10,
 fa 109 4 2,
 lo 110 109,
 ln 111 110,
 bS 112 .lss 108 111] [108,109,110,111]
 (.cond (.s 112)
 .skip
 (.exit 9)))
 (.seq (.block 10 (.seq (.draw [⟨lS 115 2 5,[]⟩,
 ⟨fa 116 4 2,[]⟩,
 ⟨lo 117 116,[1]⟩,
 ⟨mv 118 10,[]⟩,
 ⟨ia 119 3 117 118,[2,1,3]⟩,
 ⟨lS 120 3 119,[4,2,1,3]⟩] [] [])
 (sr [c2 121 98 115 120] []
 (.reg [sT 2 5 121] [115,116,117,118,119,120,121]))))
 (.reg [mv 113 10,
 bI 114 .add 113 1,
 mv 10 114] [113,114])))))))
 (sr [bI 123 .eql 12 6,
 mv 122 123] [123]
 (.cond (.s 122)
 (sr [lS 124 2 5,
 fa 125 5 2,
 lo 126 125,
 ln 127 126,
 c2 128 94 124 127,
 sT 2 5 128] [124,125,126,127,128]
 (sr [mI 11 0] []
 (.block 11 (.loop (.seq (sr [mv 129 11,
 fa 130 5 2,
 lo 131 130,
 ln 132 131,
 bS 133 .lss 129 132] [129,130,131,132]
 (.cond (.s 133)
 .skip
 (.exit 11)))
 (.seq (.block 12 (.seq (.draw [⟨lS 136 2 5,[]⟩,
 ⟨fa 137 5 2,[]⟩,
 ⟨lo 138 137,[1]⟩,
 ⟨mv 139 11,[]⟩,
 ⟨ia 140 3 138 139,[2,1,3]⟩,
 ⟨fa 141 0 140,[4,2,1,3]⟩,
 ⟨lS 142 2 141,[5,4,2,1,3]⟩,
 ⟨c2 143 100 136 142,[0,6,5,4,2,1,3]⟩,
 ⟨fa 144 5 2,[]⟩,
 ⟨lo 145 144,[8]⟩,
 ⟨mv 146 11,[]⟩,
 ⟨ia 147 3 145 146,[9,8,10]⟩,
 ⟨fa 148 2 147,[11,9,8,10]⟩,
 ⟨lo 149 148,[12,11,9,8,10]⟩] [] [])
 (sr [c2 150 99 143 149] []
 (.reg [sT 2 5 150] [136,137,138,139,140,141,142,143,144,145,146,147,148,149,150]))))
 (.reg [mv 134 11,
 bI 135 .add 134 1,
 mv 11 135] [134,135])))))))
 (sr [lS 13 12 2,
 mv 14 1,
 c2 15 101 13 14,
 sT 2 4 15] [13,14,15]
 .ret)))))))))))))))
 (sr [lS 151 2 5,
 sT 2 4 151] [151]
 .ret))))⟩
theorem pc:ax Tryz.prog 31=some gQ:=by kernel_rfl
abbrev pO:FuncId:=31
def L_:aH :=
⟨12,1,[.tmp 2],
 (sr [o0 2 (.mov (.c (.int .u8 0)))] []
 (.seq (sr [mv 4 0,
 o0 5 (.call 116 [(.s 4),(iC 1)]),
 mv 3 5] [4,5]
 (sr [mv 6 3,
 ln 7 6,
 bI 8 .eql 7 1] [6,7]
 (.cond (.s 8)
 (sr [mv 9 3,
 o0 10 (.iadr 1 (.s 9) (iC 0)),
 lo 11 10,
 mv 2 11] [9,10,11]
 .ret)
 .skip)))
 (sr [o0 2 (.mov (.c (.int .u8 0)))] []
 .ret)))⟩
theorem WR:ax Tryz.prog 48=some L_:=by kernel_rfl
abbrev YJ:FuncId:=48
def Mc:aH :=
⟨39,1,[.tmp 2],
 (sr [o0 2 (.mov (.c (.str [])))] []
 (.seq (sr [mv 5 0,
 c1 6 115 5,
 uN 7 6] [5,6]
 (.cond (.s 7)
 (sr [o0 2 (.mov (.c (.str [])))] []
 .ret)
 .skip))
 (sr [mv 8 0,
 nk 9 8,
 fa 10 2 9,
 lo 11 10,
 mv 3 11] [8,9,10,11]
 (sr [mv 12 0,
 mv 13 0,
 o0 14 (.call 118 [(.s 13),(iC 64)]),
 c2 15 116 12 14,
 o0 16 (.cvs (.s 15)),
 mv 4 16] [12,13,14,15,16]
 (.seq (sr [mv 17 0,
 nk 18 17,
 fa 19 3 18,
 lo 20 19,
 bI 21 .eql 20 0,
 mv 22 21,
 mt 23 4 22,
 ot 24 22 (.call 113 [(.s 23)]),
 ot 25 22 (.un .not (.s 24)),
 pF 26 22 25] [17,18,19,20,21,22,23,24,25]
 (.cond (.s 26)
 (.reg [mv 27 0,
 o0 28 (.call 119 [(.s 27),(iC 9)])] [27,28])
 .skip))
 (.seq (sr [mv 29 0,
 nk 30 29,
 fa 31 3 30,
 lo 32 31,
 bI 33 .neq 32 0] [29,30,31,32]
 (.cond (.s 33)
 (sr [mv 34 0,
 mv 35 3,
 nk 36 34,
 fa 37 2 36,
 sT 1 37 35] [34,35,36,37]
 (sr [o0 2 (.mov (.c (.str [])))] []
 .ret))
 .skip))
 (sr [mv 38 4,
 mv 2 38] [38]
 .ret)))))))⟩
theorem WU:ax Tryz.prog 51=some Mc:=by kernel_rfl
abbrev YL:FuncId:=51
def Mm:aH :=
⟨22,2,[.tmp 4],
 (sr [o0 4 (.mov (.c .nl))] []
 (sr [o0 5 (.mov (.c .nl))] []
 (.seq (sr [mv 8 0,
 ln 9 8,
 mI 10 0] []
 (.block 0 (.loop (sr [bS 11 .lss 10 9] []
 (.seq (.cond (.s 11)
 .skip
 (.exit 0))
 (.seq (.block 1 (sr [ia 12 2 8 10,
 lS 13 2 12,
 o0 7 (.new 110 [.nl,.nl]),
 sT 2 7 13] [12,13]
 (.reg [mv 14 5,
 mv 15 1,
 lS 16 2 7,
 o0 17 (.callv (.s 15) [(.s 16)]),
 o0 18 (.bsl 110 2 [[.nl,.nl]] [(0,(.s 17))]),
 o0 19 (.app 110 2 (.s 14) (.s 18)),
 mv 5 19] [14,15,16,17,18,19])))
 (.reg [bI 20 .add 10 1,
 mv 10 20] [20])))))))
 (sr [mv 21 5,
 mv 4 21] [21]
 .ret))))⟩
theorem W5:ax Tryz.prog 56=some Mm:=by kernel_rfl
abbrev YV:FuncId:=56
def Wi:aH :=
⟨8,1,[.tmp 2],
 (sr [o0 2 (.mov (.c .nl))] []
 (.seq (sr [mv 3 0,
 o0 4 (.snl false (.s 3))] [3]
 (.cond (.s 4)
 (sr [o0 2 (.mov (.c .nl))] []
 .ret)
 .skip))
 (sr [o0 5 (.bsl 122 13 [] []),
 mv 6 0,
 o0 7 (.app 122 13 (.s 5) (.s 6)),
 mv 2 7] [5,6,7]
 .ret)))⟩
theorem cX1:ax Tryz.prog 59=some Wi:=by kernel_rfl
abbrev nX1:FuncId:=59
def Wh:aH :=
⟨8,1,[.tmp 2],
 (sr [o0 2 (.mov (.c .nl))] []
 (.seq (sr [mv 3 0,
 o0 4 (.snl false (.s 3))] [3]
 (.cond (.s 4)
 (sr [o0 2 (.mov (.c .nl))] []
 .ret)
 .skip))
 (sr [o0 5 (.bsl 127 3 [] []),
 mv 6 0,
 o0 7 (.app 127 3 (.s 5) (.s 6)),
 mv 2 7] [5,6,7]
 .ret)))⟩
theorem cX0:ax Tryz.prog 62=some Wh:=by kernel_rfl
abbrev nX0:FuncId:=62
def Wn:aH :=
⟨22,2,[.tmp 4],
 (sr [o0 4 (.mov (.c .nl))] []
 (sr [o0 5 (.mov (.c .nl))] []
 (.seq (sr [mv 8 0,
 ln 9 8,
 mI 10 0] []
 (.block 0 (.loop (sr [bS 11 .lss 10 9] []
 (.seq (.cond (.s 11)
 .skip
 (.exit 0))
 (.seq (.block 1 (sr [ia 12 3 8 10,
 lS 13 3 12,
 o0 7 (.new 135 [(.int .i64 0),(.bool false),.nl]),
 sT 3 7 13] [12,13]
 (.reg [mv 14 5,
 mv 15 1,
 lS 16 3 7,
 o0 17 (.callv (.s 15) [(.s 16)]),
 o0 18 (.bsl 135 3 [[(.int .i64 0),(.bool false),.nl]] [(0,(.s 17))]),
 o0 19 (.app 135 3 (.s 14) (.s 18)),
 mv 5 19] [14,15,16,17,18,19])))
 (.reg [bI 20 .add 10 1,
 mv 10 20] [20])))))))
 (sr [mv 21 5,
 mv 4 21] [21]
 .ret))))⟩
theorem cX5:ax Tryz.prog 66=some Wn:=by kernel_rfl
abbrev nX5:FuncId:=66
def Mk:aH :=
⟨22,2,[.tmp 4],
 (sr [o0 4 (.mov (.c .nl))] []
 (sr [o0 5 (.mov (.c .nl))] []
 (.seq (sr [mv 8 0,
 ln 9 8,
 mI 10 0] []
 (.block 0 (.loop (sr [bS 11 .lss 10 9] []
 (.seq (.cond (.s 11)
 .skip
 (.exit 0))
 (.seq (.block 1 (sr [ia 12 4 8 10,
 lS 13 4 12,
 o0 7 (.new 142 [(.int .i64 0),(.int .i64 0),.nl,.nl]),
 sT 4 7 13] [12,13]
 (.reg [mv 14 5,
 mv 15 1,
 lS 16 4 7,
 o0 17 (.callv (.s 15) [(.s 16)]),
 o0 18 (.bsl 142 4 [[(.int .i64 0),(.int .i64 0),.nl,.nl]] [(0,(.s 17))]),
 o0 19 (.app 142 4 (.s 14) (.s 18)),
 mv 5 19] [14,15,16,17,18,19])))
 (.reg [bI 20 .add 10 1,
 mv 10 20] [20])))))))
 (sr [mv 21 5,
 mv 4 21] [21]
 .ret))))⟩
theorem W3:ax Tryz.prog 71=some Mk:=by kernel_rfl
abbrev YT:FuncId:=71
def G9:aH :=
⟨26,2,[.tmp 4],
 (sr [mB 4 false] []
 (.seq (sr [mv 6 0,
 ln 7 6,
 mv 8 1,
 ln 9 8,
 bS 10 .neq 7 9] [6,7,8,9]
 (.cond (.s 10)
 (sr [mB 4 false] []
 .ret)
 .skip))
 (.seq (sr [mI 5 0] []
 (.block 0 (.loop (.seq (sr [mv 11 5,
 mv 12 0,
 ln 13 12,
 bS 14 .lss 11 13] [11,12,13]
 (.cond (.s 14)
 .skip
 (.exit 0)))
 (.seq (.block 1 (.seq (.seq (.draw [⟨mv 17 0,[]⟩,
 ⟨mv 18 5,[]⟩,
 ⟨ia 19 1 17 18,[0,1]⟩,
 ⟨lo 20 19,[2,0,1]⟩,
 ⟨mv 21 1,[]⟩,
 ⟨mv 22 5,[]⟩,
 ⟨ia 23 1 21 22,[4,5]⟩,
 ⟨lo 24 23,[6,4,5]⟩] [] [])
 (.reg [bS 25 .neq 20 24] [17,18,19,20,21,22,23,24]))
 (.cond (.s 25)
 (sr [mB 4 false] []
 .ret)
 .skip)))
 (.reg [mv 15 5,
 bI 16 .add 15 1,
 mv 5 16] [15,16]))))))
 (sr [mB 4 true] []
 .ret))))⟩
theorem Xu:ax Tryz.prog 77=some G9:=by kernel_rfl
abbrev Zj:FuncId:=77
def BB:aH :=
⟨48,1,[.cell 2 (some 4)],
 (sr [o0 1 (.box 33 12 (.s 0)),
 o0 2 (.new 73 [(.int .i64 0),(.int .i64 0),(.int .i64 0),(.int .i64 0)])] []
 (.seq (.seq (.draw [⟨fa 6 2 1,[]⟩,
 ⟨lo 7 6,[0]⟩,
 ⟨ln 8 7,[1,0]⟩,
 ⟨lS 9 12 1,[]⟩,
 ⟨o0 10 (.call 130 [(.s 9),(iC 0)]),[3]⟩,
 ⟨o0 11 (.bin .sub (iC 64) (.s 10)),[4,3]⟩,
 ⟨o0 12 (.call 125 [(iC 3),(.s 8),(.s 11)]),[2,1,0,5,4,3]⟩,
 ⟨o0 3 (.new 73 [(.int .i64 0),(.int .i64 0),(.int .i64 0),(.int .i64 0)]),[]⟩] [(3,7)] [])
 (.reg [sT 4 3 12] [6,7,8,9,10,11,12]))
 (.seq (sr [mI 4 0] []
 (.block 0 (.loop (.seq (sr [mv 13 4,
 fa 14 2 1,
 lo 15 14,
 ln 16 15,
 bS 17 .lss 13 16,
 mv 18 17,
 ot 19 18 (.load (some 4) (.s 3)),
 ot 20 18 (.call 91 [(.s 19)]),
 pF 21 18 20] [13,14,15,16,17,18,19,20]
 (.cond (.s 21)
 .skip
 (.exit 0)))
 (.seq (.block 1 (sr [fa 24 2 1,
 lo 25 24,
 mv 26 4,
 ia 27 3 25 26,
 lS 28 3 27,
 o0 5 (.new 130 [(.int .i64 0),.nl,.nl]),
 sT 3 5 28] [24,25,26,27,28]
 (sr [fa 29 0 5,
 lo 30 29,
 c1 31 131 30,
 uN 32 31] [29,30,31]
 (.cond (.s 32)
 (.reg [mv 33 4,
 o0 34 (.call 126 [(iC 3),(.s 33),(iC 11)]),
 sT 4 3 34] [33,34])
 (sr [fa 35 1 5,
 lo 36 35,
 ln 37 36,
 bI 38 .gtr 37 64] [35,36,37]
 (.cond (.s 38)
 (.reg [mv 39 4,
 o0 40 (.call 126 [(iC 3),(.s 39),(iC 6)]),
 sT 4 3 40] [39,40])
 (sr [fa 41 1 5,
 lo 42 41,
 c1 43 127 42,
 uN 44 43] [41,42,43]
 (.cond (.s 44)
 (.reg [mv 45 4,
 o0 46 (.call 126 [(iC 3),(.s 45),(iC 12)]),
 sT 4 3 46] [45,46])
 .skip))))))))
 (.reg [mv 22 4,
 bI 23 .add 22 1,
 mv 4 23] [22,23]))))))
 (sr [lS 47 4 3,
 sT 4 2 47] [47]
 .ret))))⟩
theorem RR:ax Tryz.prog 81=some BB:=by kernel_rfl
abbrev TW:FuncId:=81
def xL:aH :=
⟨13,1,[.cell 2 (some 4)],
 (sr [o0 1 (.box 33 12 (.s 0)),
 o0 2 (.new 73 [(.int .i64 0),(.int .i64 0),(.int .i64 0),(.int .i64 0)])] []
 (.seq (sr [fa 3 7 1,
 lo 4 3,
 mv 5 4,
 ot 6 5 (fd 8 1),
 ot 7 5 (ld 6),
 ot 8 5 (.call 131 [(.s 7)]),
 ot 9 5 (.un .not (.s 8)),
 pF 10 5 9] [3,4,5,6,7,8,9]
 (.cond (.s 10)
 (sr [o0 11 (.call 126 [(iC 8),(iC 0),(iC 11)]),
 sT 4 2 11] [11]
 .ret)
 .skip))
 (sr [o0 12 (.build [(.int .i64 0),(.int .i64 0),(.int .i64 0),(.int .i64 0)] []),
 sT 4 2 12] [12]
 .ret)))⟩
theorem RS:ax Tryz.prog 86=some xL:=by kernel_rfl
abbrev TX:FuncId:=86
def BA:aH :=
⟨56,1,[.cell 2 (some 4)],
 (sr [o0 1 (.box 33 12 (.s 0)),
 o0 2 (.new 73 [(.int .i64 0),(.int .i64 0),(.int .i64 0),(.int .i64 0)])] []
 (sr [fa 7 9 1,
 lo 8 7,
 ln 9 8,
 o0 10 (.call 125 [(iC 9),(.s 9),(iC 16)]),
 o0 3 (.new 73 [(.int .i64 0),(.int .i64 0),(.int .i64 0),(.int .i64 0)]),
 sT 4 3 10] [7,8,9,10]
 (.seq (sr [mI 4 0] []
 (.block 0 (.loop (.seq (sr [mv 11 4,
 fa 12 9 1,
 lo 13 12,
 ln 14 13,
 bS 15 .lss 11 14,
 mv 16 15,
 ot 17 16 (.load (some 4) (.s 3)),
 ot 18 16 (.call 91 [(.s 17)]),
 pF 19 16 18] [11,12,13,14,15,16,17,18]
 (.cond (.s 19)
 .skip
 (.exit 0)))
 (.seq (.block 1 (sr [fa 22 9 1,
 lo 23 22,
 mv 24 4,
 ia 25 5 23 24,
 lS 26 5 25,
 o0 5 (.new 55 [(.int .i64 0),(.int .i64 0),.nl,(.int .i64 0),.nl]),
 sT 5 5 26] [22,23,24,25,26]
 (sr [mv 27 4,
 lS 28 5 5,
 c1 29 136 28,
 o0 30 (.call 126 [(iC 9),(.s 27),(.s 29)]),
 sT 4 3 30] [27,28,29,30]
 (.seq (sr [lS 31 4 3,
 c1 32 91 31] [31]
 (.cond (.s 32)
 (.reg [mv 33 4,
 fa 34 2 5,
 lo 35 34,
 o0 36 (.call 135 [(iC 9),(.s 33),(.s 35)]),
 sT 4 3 36] [33,34,35,36])
 .skip))
 (sr [mI 6 0] []
 (.block 2 (.loop (.seq (sr [mv 37 6,
 fa 38 4 5,
 lo 39 38,
 ln 40 39,
 bS 41 .lss 37 40,
 mv 42 41,
 ot 43 42 (.load (some 4) (.s 3)),
 ot 44 42 (.call 91 [(.s 43)]),
 pF 45 42 44] [37,38,39,40,41,42,43,44]
 (.cond (.s 45)
 .skip
 (.exit 2)))
 (.seq (.block 3 (.reg [mv 48 4,
 fa 49 4 5,
 lo 50 49,
 mv 51 6,
 ia 52 1 50 51,
 lo 53 52,
 o0 54 (.call 135 [(iC 9),(.s 48),(.s 53)]),
 sT 4 3 54] [48,49,50,51,52,53,54]))
 (.reg [mv 46 6,
 bI 47 .add 46 1,
 mv 6 47] [46,47]))))))))))
 (.reg [mv 20 4,
 bI 21 .add 20 1,
 mv 4 21] [20,21]))))))
 (sr [lS 55 4 3,
 sT 4 2 55] [55]
 .ret))))⟩
theorem RQ:ax Tryz.prog 87=some BA:=by kernel_rfl
abbrev TV:FuncId:=87
def BW:aH :=
⟨6,1,[.tmp 2],
 (sr [o0 1 (.box 73 4 (.s 0)),
 mB 2 false] []
 (sr [fa 3 3 1,
 lo 4 3,
 bI 5 .eql 4 0,
 mv 2 5] [3,4,5]
 .ret))⟩
theorem So:ax Tryz.prog 91=some BW:=by kernel_rfl
abbrev Ur:FuncId:=91
def BI:aH :=
⟨18,2,[.tmp 4],
 (sr [mB 4 false] []
 (.seq (sr [mI 5 0] []
 (.block 0 (.loop (.seq (sr [mv 6 5,
 mv 7 0,
 ln 8 7,
 bS 9 .lss 6 8] [6,7,8]
 (.cond (.s 9)
 .skip
 (.exit 0)))
 (.seq (.block 1 (sr [mv 12 0,
 mv 13 5,
 ia 14 1 12 13,
 lo 15 14,
 mv 16 1,
 bS 17 .eql 15 16] [12,13,14,15,16]
 (.cond (.s 17)
 (sr [mB 4 true] []
 .ret)
 .skip)))
 (.reg [mv 10 5,
 bI 11 .add 10 1,
 mv 5 11] [10,11]))))))
 (sr [mB 4 false] []
 .ret)))⟩
theorem R2:ax Tryz.prog 93=some BI:=by kernel_rfl
abbrev T6:FuncId:=93
def zg:aH :=
⟨40,2,[.cell 4 (some 2)],
 (sr [o0 2 (.box 81 2 (.s 0)),
 o0 3 (.box 122 13 (.s 1)),
 o0 4 (.new 81 [.nl,(.int .i64 0)])] []
 (.seq (.seq (.draw [⟨lS 5 2 2,[]⟩,
 ⟨fa 6 0 3,[]⟩,
 ⟨lo 7 6,[1]⟩,
 ⟨c2 8 105 5 7,[0,2,1]⟩,
 ⟨fa 9 1 3,[]⟩,
 ⟨lo 10 9,[4]⟩,
 ⟨c2 11 105 8 10,[3,0,2,1,5,4]⟩,
 ⟨fa 12 2 3,[]⟩,
 ⟨lo 13 12,[7]⟩,
 ⟨o0 14 (.cvi .u8 (.s 13)),[8,7]⟩] [] [])
 (sr [c2 15 106 11 14] []
 (.reg [sT 2 2 15] [5,6,7,8,9,10,11,12,13,14,15])))
 (.seq (sr [fa 16 2 3,
 lo 17 16] [16]
 (.block 0 (sr [bI 19 .eql 17 1,
 mv 18 19] [19]
 (.cond (.s 18)
 (sr [lS 20 2 2,
 fa 21 4 3,
 lS 22 4 21,
 c2 23 97 20 22,
 sT 2 4 23] [20,21,22,23]
 .ret)
 (sr [bI 25 .eql 17 2,
 mv 24 25] [25]
 (.cond (.s 24)
 (sr [lS 26 2 2,
 fa 27 8 3,
 lS 28 3 27,
 c2 29 98 26 28,
 sT 2 4 29] [26,27,28,29]
 .ret)
 (sr [bI 31 .eql 17 3,
 mv 30 31] [31]
 (.cond (.s 30)
 (sr [lS 32 2 2,
 fa 33 11 3,
 lS 34 2 33,
 c2 35 100 32 34,
 sT 2 4 35] [32,33,34,35]
 .ret)
 .skip))))))))
 (sr [lS 36 2 2,
 fa 37 3 3,
 lo 38 37,
 c2 39 94 36 38,
 sT 2 4 39] [36,37,38,39]
 .ret))))⟩
theorem Xn:ax Tryz.prog 96=some zg:=by kernel_rfl
abbrev Zd:FuncId:=96
def G6:aH :=
⟨15,2,[.cell 4 (some 2)],
 (sr [o0 2 (.box 81 2 (.s 0)),
 o0 3 (.box 120 2 (.s 1)),
 o0 4 (.new 81 [.nl,(.int .i64 0)])] []
 (sr [lS 5 2 2,
 fa 6 0 3,
 lo 7 6,
 c2 8 146 5 7,
 sT 2 2 8] [5,6,7,8]
 (.seq (sr [fa 9 1 3,
 lo 10 9] [9]
 (.cond (.s 10)
 (sr [lS 11 2 2,
 o0 12 (.call 106 [(.s 11),(.c (.int .u8 1))]),
 sT 2 4 12] [11,12]
 .ret)
 .skip))
 (sr [lS 13 2 2,
 o0 14 (.call 106 [(.s 13),(.c (.int .u8 0))]),
 sT 2 4 14] [13,14]
 .ret))))⟩
theorem Xl:ax Tryz.prog 100=some G6:=by kernel_rfl
abbrev Zb:FuncId:=100
def B0:aH :=
⟨2,0,[.tmp 0],
 (sr [o0 0 (.mov (.c .nl))] []
 (.seq (.reg [o0 1 (.bsl 5 1 [[(.int .u8 0)],[(.int .u8 0)],[(.int .u8 0)],[(.int .u8 0)],[(.int .u8 0)],[(.int .u8 0)],[(.int .u8 0)],[(.int .u8 0)]] [(0,(.c (.int .u8 0))),(1,(.c (.int .u8 97))),(2,(.c (.int .u8 115))),(3,(.c (.int .u8 109))),(4,(.c (.int .u8 1))),(5,(.c (.int .u8 0))),(6,(.c (.int .u8 0))),(7,(.c (.int .u8 0)))]),
 mv 0 1] [1])
 .ret))⟩
theorem Ss:ax Tryz.prog 104=some B0:=by kernel_rfl
abbrev Uv:FuncId:=104
def MH:aH :=
⟨22,2,[.cell 4 (some 2)],
 (sr [o0 2 (.box 81 2 (.s 0)),
 o0 4 (.new 81 [.nl,(.int .i64 0)])] []
 (.seq (sr [mv 5 1,
 c1 6 113 5,
 uN 7 6] [5,6]
 (.cond (.s 7)
 (sr [lS 8 2 2,
 o0 9 (.call 140 [(.s 8),(iC 9)]),
 sT 2 4 9] [8,9]
 .ret)
 .skip))
 (.seq (sr [mv 10 1,
 o0 11 (.slen (.s 10)),
 bI 12 .gtr 11 64] [10,11]
 (.cond (.s 12)
 (sr [lS 13 2 2,
 o0 14 (.call 140 [(.s 13),(iC 6)]),
 sT 2 4 14] [13,14]
 .ret)
 .skip))
 (sr [lS 15 2 2,
 mv 16 1,
 o0 17 (.slen (.s 16)),
 c2 18 94 15 17,
 mv 19 1,
 o0 20 (.cvb 5 (.s 19)),
 c2 21 103 18 20,
 sT 2 4 21] [15,16,17,18,19,20,21]
 .ret))))⟩
theorem XD:ax Tryz.prog 105=some MH:=by kernel_rfl
abbrev UX:FuncId:=105
def xJ:aH :=
⟨25,2,[.tmp 4],
 (sr [mI 4 0] []
 (.seq (sr [mv 8 0,
 ln 9 8,
 mv 10 1,
 bS 11 .gtr 9 10] [8,9,10]
 (.cond (.s 11)
 (sr [mI 4 6] []
 .ret)
 .skip))
 (.seq (sr [mv 12 0,
 ln 13 12,
 mI 14 0] []
 (.block 0 (.loop (sr [bS 15 .lss 14 13] []
 (.seq (.cond (.s 15)
 .skip
 (.exit 0))
 (.seq (.block 1 (.seq (.reg [ia 16 2 12 14,
 lS 17 2 16,
 o0 6 (.new 180 [(.int .i64 0),(.str [])]),
 sT 2 6 17] [16,17])
 (sr [fa 18 1 6,
 lo 19 18,
 c1 20 108 19,
 mv 7 20] [18,19,20]
 (sr [mv 21 7,
 bI 22 .neq 21 0] [21]
 (.cond (.s 22)
 (sr [mv 23 7,
 mv 4 23] [23]
 .ret)
 .skip)))))
 (.reg [bI 24 .add 14 1,
 mv 14 24] [24])))))))
 (sr [mI 4 0] []
 .ret))))⟩
theorem RC:ax Tryz.prog 109=some xJ:=by kernel_rfl
abbrev TM:FuncId:=109
def Cf:aH :=
⟨24,2,[.tmp 4],
 (sr [o0 4 (.mov (.c .nl))] []
 (sr [o0 6 (.bsl 5 1 [] []),
 mv 7 0,
 o0 8 (.app 5 1 (.s 6) (.s 7)),
 mv 5 8] [6,7,8]
 (.seq (.block 0 (.loop (.seq (sr [mv 9 1,
 o0 10 (.bin .geq (.s 9) (.c (.int .u64 128)))] [9]
 (.cond (.s 10)
 .skip
 (.exit 0)))
 (.block 1 (.seq (.reg [mv 11 5,
 mv 12 1,
 o0 13 (.cvi .u8 (.s 12)),
 o0 14 (.bin .or (.s 13) (.c (.int .u8 128))),
 o0 15 (.bsl 5 1 [[(.int .u8 0)]] [(0,(.s 14))]),
 o0 16 (.app 5 1 (.s 11) (.s 15)),
 mv 5 16] [11,12,13,14,15,16])
 (.reg [mv 17 1,
 o0 18 (.bin .shr (.s 17) (.c (.int .u64 7))),
 mv 1 18] [17,18]))))))
 (.seq (.reg [mv 19 5,
 mv 20 1,
 o0 21 (.cvi .u8 (.s 20)),
 o0 22 (.bsl 5 1 [[(.int .u8 0)]] [(0,(.s 21))]),
 o0 23 (.app 5 1 (.s 19) (.s 22)),
 mv 4 23] [19,20,21,22,23])
 .ret))))⟩
theorem SN:ax Tryz.prog 114=some Cf:=by kernel_rfl
abbrev UN:FuncId:=114
def Me:aH :=
⟨33,2,[.tmp 4],
 (sr [o0 4 (.mov (.c .nl))] []
 (.seq (.block 0 (sr [mv 6 0,
 c1 7 115 6,
 uN 8 7,
 mv 5 8] [6,7,8]
 (.cond (.s 5)
 (sr [o0 4 (.mov (.c .nl))] []
 .ret)
 (sr [mv 10 1,
 bI 11 .lss 10 0,
 mv 9 11] [10,11]
 (.cond (.s 9)
 (sr [mv 12 0,
 o0 13 (.call 119 [(.s 12),(iC 1)])] [12,13]
 (sr [o0 4 (.mov (.c .nl))] []
 .ret))
 (.seq (.seq (.draw [⟨mv 15 1,[]⟩,
 ⟨mv 16 0,[]⟩,
 ⟨nk 17 16,[1]⟩,
 ⟨fa 18 1 17,[2,1]⟩,
 ⟨lo 19 18,[3,2,1]⟩,
 ⟨ln 20 19,[4,3,2,1]⟩,
 ⟨mv 21 0,[]⟩,
 ⟨nk 22 21,[6]⟩,
 ⟨fa 23 2 22,[7,6]⟩,
 ⟨lo 24 23,[8,7,6]⟩,
 ⟨bS 25 .sub 20 24,[5,4,3,2,1,9,8,7,6]⟩] [] [])
 (sr [bS 26 .gtr 15 25] []
 (.reg [mv 14 26] [15,16,17,18,19,20,21,22,23,24,25,26])))
 (.cond (.s 14)
 (sr [mv 27 0,
 o0 28 (.call 119 [(.s 27),(iC 3)])] [27,28]
 (sr [o0 4 (.mov (.c .nl))] []
 .ret))
 .skip)))))))
 (sr [mv 29 0,
 mv 30 1,
 c2 31 155 29 30,
 o0 32 (.app 5 1 (.c .nl) (.s 31)),
 mv 4 32] [29,30,31,32]
 .ret)))⟩
theorem WV:ax Tryz.prog 116=some Me:=by kernel_rfl
abbrev YM:FuncId:=116
def L7:aH :=
⟨33,2,[.tmp 4],
 (sr [mI 4 0] []
 (.seq (sr [mv 7 0,
 c1 8 115 7,
 uN 9 8] [7,8]
 (.cond (.s 9)
 (sr [mI 4 0] []
 .ret)
 .skip))
 (sr [mv 10 0,
 nk 11 10,
 fa 12 2 11,
 lo 13 12,
 mv 5 13] [10,11,12,13]
 (sr [mv 14 0,
 c1 15 50 14,
 mv 6 15] [14,15]
 (.seq (sr [mv 16 0,
 nk 17 16,
 fa 18 3 17,
 lo 19 18,
 bI 20 .eql 19 0,
 mv 21 20,
 mt 22 6 21,
 mt 23 1 21,
 ot 24 21 (.bin .gtr (.s 22) (.s 23)),
 pF 25 21 24] [16,17,18,19,20,21,22,23,24]
 (.cond (.s 25)
 (sr [mv 26 0,
 mv 27 5,
 nk 28 26,
 fa 29 2 28,
 sT 1 29 27] [26,27,28,29]
 (sr [mv 30 0,
 o0 31 (.call 119 [(.s 30),(iC 6)])] [30,31]
 (sr [mI 4 0] []
 .ret)))
 .skip))
 (sr [mv 32 6,
 mv 4 32] [32]
 .ret))))))⟩
theorem WL:ax Tryz.prog 118=some L7:=by kernel_rfl
abbrev YE:FuncId:=118
def Bt:aH :=
⟨12,1,[.cell 2 (some 9)],
 (sr [o0 1 (.box 192 9 (.s 0)),
 o0 2 (.new 192 [(.int .i64 0),(.int .i64 0),(.int .i64 0),(.int .u64 0),(.int .i64 0),(.int .i64 0),(.int .i64 0),.nl,.nl])] []
 (.seq (.seq (.draw [⟨fa 3 7 1,[]⟩,
 ⟨lo 4 3,[0]⟩,
 ⟨c1 5 58 4,[1,0]⟩,
 ⟨fa 6 8 1,[]⟩,
 ⟨lo 7 6,[3]⟩] [] [])
 (.seq (.draw [⟨c1 8 123 7,[]⟩,
 ⟨fa 9 7 1,[]⟩] [] [])
 (sr [sT 1 9 5] []
 (sr [fa 10 8 1] []
 (.reg [sT 1 10 8] [3,4,5,6,7,8,9,10])))))
 (sr [lS 11 9 1,
 sT 9 2 11] [11]
 .ret)))⟩
theorem RA:ax Tryz.prog 122=some Bt:=by kernel_rfl
abbrev EV:FuncId:=122
def xT:aH :=
⟨14,3,[.cell 6 (some 4)],
 (sr [o0 6 (.new 73 [(.int .i64 0),(.int .i64 0),(.int .i64 0),(.int .i64 0)])] []
 (.seq (sr [mv 7 2,
 bI 8 .eql 7 0] [7]
 (.cond (.s 8)
 (sr [o0 9 (.build [(.int .i64 0),(.int .i64 0),(.int .i64 0),(.int .i64 0)] []),
 sT 4 6 9] [9]
 .ret)
 .skip))
 (sr [mv 10 0,
 mv 11 1,
 mv 12 2,
 o0 13 (.build [(.int .i64 0),(.int .i64 0),(.int .i64 0),(.int .i64 0)] [(0,1,(.s 10)),(1,1,(.s 11)),(3,1,(.s 12))]),
 sT 4 6 13] [10,11,12,13]
 .ret)))⟩
theorem SR:ax Tryz.prog 126=some xT:=by kernel_rfl
abbrev UR:FuncId:=126
def xP:aH :=
⟨9,1,[.tmp 2],
 (sr [mI 2 0] []
 (.seq (sr [mv 3 0,
 o0 4 (.slen (.s 3)),
 bI 5 .gtr 4 64] [3,4]
 (.cond (.s 5)
 (sr [mI 2 6] []
 .ret)
 .skip))
 (.seq (sr [mv 6 0,
 c1 7 158 6,
 uN 8 7] [6,7]
 (.cond (.s 8)
 (sr [mI 2 9] []
 .ret)
 .skip))
 (sr [mI 2 0] []
 .ret))))⟩
theorem Sn:ax Tryz.prog 128=some xP:=by kernel_rfl
abbrev Uq:FuncId:=128
def ka:aH :=
⟨59,1,[.tmp 2],
 (sr [o0 1 (.box 122 13 (.s 0)),
 mI 2 0] []
 (.seq (.reg [lS 4 13 1,
 o0 3 (.new 122 [(.str []),(.str []),(.int .i64 0),(.int .i64 0),(.int .i64 0),(.int .i64 0),(.int .i64 0),(.bool false),(.int .i64 0),(.int .i64 0),(.bool false),(.int .i64 0),(.bool false)]),
 sT 13 3 4] [4])
 (sr [fa 5 0 3,
 ⟨none,.store 1 (.s 5) (.c (.str [])),none⟩] [5]
 (sr [fa 6 1 3,
 ⟨none,.store 1 (.s 6) (.c (.str [])),none⟩] [6]
 (.seq (sr [fa 7 2 1,
 lo 8 7] [7]
 (.block 0 (sr [bI 10 .eql 8 0,
 mv 9 10] [10]
 (.cond (.s 9)
 (.seq (.seq (.reg [lS 11 13 3,
 fa 12 2 1,
 lo 13 12,
 fa 14 3 1,
 lo 15 14,
 o0 16 (.build [(.str []),(.str []),(.int .i64 0),(.int .i64 0),(.int .i64 0),(.int .i64 0),(.int .i64 0),(.bool false),(.int .i64 0),(.int .i64 0),(.bool false),(.int .i64 0),(.bool false)] [(2,1,(.s 13)),(3,1,(.s 15))]),
 o0 17 (.sbin .neq [.s,.s,.i,.i,.i,.i,.i,.b,.i,.i,.b,.i,.b] (.s 11) (.s 16))] [11,12,13,14,15,16])
 (.cond (.s 17)
 (sr [mI 2 1] []
 .ret)
 .skip))
 (.seq (sr [fa 18 3 1,
 lo 19 18,
 c1 20 131 19,
 uN 21 20] [18,19,20]
 (.cond (.s 21)
 (sr [mI 2 11] []
 .ret)
 .skip))
 (sr [mI 2 0] []
 .ret)))
 (sr [bI 23 .eql 8 1,
 mv 22 23] [23]
 (.cond (.s 22)
 (.seq (.seq (.reg [lS 24 13 3,
 fa 25 2 1,
 lo 26 25,
 fa 27 4 1,
 lS 28 4 27,
 o0 29 (.build [(.str []),(.str []),(.int .i64 0),(.int .i64 0),(.int .i64 0),(.int .i64 0),(.int .i64 0),(.bool false),(.int .i64 0),(.int .i64 0),(.bool false),(.int .i64 0),(.bool false)] [(2,1,(.s 26)),(4,4,(.s 28))]),
 o0 30 (.sbin .neq [.s,.s,.i,.i,.i,.i,.i,.b,.i,.i,.b,.i,.b] (.s 24) (.s 29))] [24,25,26,27,28,29])
 (.cond (.s 30)
 (sr [mI 2 1] []
 .ret)
 .skip))
 (sr [fa 31 4 1,
 lS 32 4 31,
 c1 33 132 32,
 mv 2 33] [31,32,33]
 .ret))
 (sr [bI 35 .eql 8 2,
 mv 34 35] [35]
 (.cond (.s 34)
 (.seq (.seq (.reg [lS 36 13 3,
 fa 37 2 1,
 lo 38 37,
 fa 39 8 1,
 lS 40 3 39,
 o0 41 (.build [(.str []),(.str []),(.int .i64 0),(.int .i64 0),(.int .i64 0),(.int .i64 0),(.int .i64 0),(.bool false),(.int .i64 0),(.int .i64 0),(.bool false),(.int .i64 0),(.bool false)] [(2,1,(.s 38)),(8,3,(.s 40))]),
 o0 42 (.sbin .neq [.s,.s,.i,.i,.i,.i,.i,.b,.i,.i,.b,.i,.b] (.s 36) (.s 41))] [36,37,38,39,40,41])
 (.cond (.s 42)
 (sr [mI 2 1] []
 .ret)
 .skip))
 (sr [fa 43 8 1,
 lS 44 3 43,
 c1 45 133 44,
 mv 2 45] [43,44,45]
 .ret))
 (sr [bI 47 .eql 8 3,
 mv 46 47] [47]
 (.cond (.s 46)
 (.seq (.seq (.reg [lS 48 13 3,
 fa 49 2 1,
 lo 50 49,
 fa 51 11 1,
 lS 52 2 51,
 o0 53 (.build [(.str []),(.str []),(.int .i64 0),(.int .i64 0),(.int .i64 0),(.int .i64 0),(.int .i64 0),(.bool false),(.int .i64 0),(.int .i64 0),(.bool false),(.int .i64 0),(.bool false)] [(2,1,(.s 50)),(11,2,(.s 52))]),
 o0 54 (.sbin .neq [.s,.s,.i,.i,.i,.i,.i,.b,.i,.i,.b,.i,.b] (.s 48) (.s 53))] [48,49,50,51,52,53])
 (.cond (.s 54)
 (sr [mI 2 1] []
 .ret)
 .skip))
 (.seq (sr [fa 55 11 1,
 lS 56 2 55,
 c1 57 134 56,
 uN 58 57] [55,56,57]
 (.cond (.s 58)
 (sr [mI 2 12] []
 .ret)
 .skip))
 (sr [mI 2 0] []
 .ret)))
 .skip))))))))))
 (sr [mI 2 1] []
 .ret))))))⟩
theorem SI:ax Tryz.prog 129=some ka:=by kernel_rfl
abbrev UI:FuncId:=129
def BF:aH :=
⟨40,3,[.tmp 6],
 (sr [mB 6 false] []
 (.seq (sr [mv 9 1,
 bI 10 .add 9 1,
 mv 7 10] [9,10]
 (.block 0 (.loop (.seq (sr [mv 11 7,
 mv 12 2,
 bS 13 .lss 11 12] [11,12]
 (.cond (.s 13)
 .skip
 (.exit 0)))
 (.seq (.block 1 (sr [mv 16 0,
 mv 17 7,
 c2 18 137 16 17,
 mv 8 18] [16,17,18]
 (sr [mv 19 0,
 mv 20 7,
 ia 21 9 19 20,
 fa 22 0 21,
 lo 23 22,
 bI 24 .eql 23 5,
 mv 25 24,
 mt 26 8 25,
 ot 27 25 (.len (.s 26)),
 ot 28 25 (.bin .gtr (.s 27) (iC 0)),
 pF 29 25 28,
 mv 30 29,
 mt 31 8 30,
 mt 32 8 30,
 ot 33 30 (.len (.s 32)),
 ot 34 30 (.bin .sub (.s 33) (iC 1)),
 ot 35 30 (.iadr 1 (.s 31) (.s 34)),
 ot 36 30 (ld 35),
 mt 37 1 30,
 ot 38 30 (.bin .eql (.s 36) (.s 37)),
 pF 39 30 38] [19,20,21,22,23,24,25,26,27,28,29,30,31,32,33,34,35,36,37,38]
 (.cond (.s 39)
 (sr [mB 6 true] []
 .ret)
 .skip))))
 (.reg [mv 14 7,
 bI 15 .add 14 1,
 mv 7 15] [14,15]))))))
 (sr [mB 6 false] []
 .ret)))⟩
theorem RW:ax Tryz.prog 138=some BF:=by kernel_rfl
abbrev T1:FuncId:=138
def MQ:aH :=
⟨23,2,[.cell 4 (some 2)],
 (sr [o0 2 (.box 81 2 (.s 0)),
 o0 4 (.new 81 [.nl,(.int .i64 0)])] []
 (sr [lS 6 2 2,
 mv 7 1,
 ln 8 7,
 c2 9 94 6 8,
 sT 2 2 9] [6,7,8,9]
 (.seq (sr [mI 5 0] []
 (.block 0 (.loop (.seq (sr [mv 10 5,
 mv 11 1,
 ln 12 11,
 bS 13 .lss 10 12] [10,11,12]
 (.cond (.s 13)
 .skip
 (.exit 0)))
 (.seq (.block 1 (.seq (.draw [⟨lS 16 2 2,[]⟩,
 ⟨mv 17 1,[]⟩,
 ⟨mv 18 5,[]⟩,
 ⟨ia 19 1 17 18,[1,2]⟩,
 ⟨lo 20 19,[3,1,2]⟩] [] [])
 (sr [c2 21 146 16 20] []
 (.reg [sT 2 2 21] [16,17,18,19,20,21]))))
 (.reg [mv 14 5,
 bI 15 .add 14 1,
 mv 5 15] [14,15]))))))
 (sr [lS 22 2 2,
 sT 2 4 22] [22]
 .ret))))⟩
theorem XN:ax Tryz.prog 143=some MQ:=by kernel_rfl
abbrev Zx:FuncId:=143
def MS:aH :=
⟨69,2,[.cell 4 (some 2)],
 (sr [o0 2 (.box 81 2 (.s 0)),
 o0 3 (.box 55 5 (.s 1)),
 o0 4 (.new 81 [.nl,(.int .i64 0)])] []
 (sr [lS 7 5 3,
 c1 8 170 7,
 mv 5 8] [7,8]
 (sr [lS 9 2 2,
 mv 10 5,
 c2 11 94 9 10,
 sT 2 2 11] [9,10,11]
 (.seq (sr [mv 12 5,
 bI 13 .rem 12 4,
 bI 14 .eql 13 2] [12,13]
 (.cond (.s 14)
 (.reg [lS 15 2 2,
 fa 16 1 3,
 lo 17 16,
 c2 18 94 15 17,
 sT 2 2 18] [15,16,17,18])
 .skip))
 (.seq (sr [mv 19 5,
 bI 20 .rem 19 2,
 bI 21 .eql 20 0] [19,20]
 (.cond (.s 21)
 (.reg [lS 22 2 2,
 fa 23 2 3,
 lo 24 23,
 c2 25 99 22 24,
 sT 2 2 25] [22,23,24,25])
 .skip))
 (.seq (sr [mv 26 5,
 bI 27 .rem 26 4,
 bI 28 .neq 27 0] [26,27]
 (.cond (.s 28)
 (sr [mv 29 5,
 bI 30 .lss 29 4] [29]
 (.cond (.s 30)
 (.reg [lS 31 2 2,
 o0 32 (.call 106 [(.s 31),(.c (.int .u8 0))]),
 sT 2 2 32] [31,32])
 (.reg [lS 33 2 2,
 fa 34 3 3,
 lo 35 34,
 c2 36 146 33 35,
 sT 2 2 36] [33,34,35,36])))
 .skip))
 (sr [lS 37 2 2,
 fa 38 4 3,
 lo 39 38,
 ln 40 39,
 c2 41 94 37 40,
 sT 2 2 41] [37,38,39,40,41]
 (.seq (sr [mI 6 0] []
 (.block 0 (.loop (.seq (sr [mv 42 6,
 fa 43 4 3,
 lo 44 43,
 ln 45 44,
 bS 46 .lss 42 45] [42,43,44,45]
 (.cond (.s 46)
 .skip
 (.exit 0)))
 (.seq (.block 1 (sr [mv 49 5,
 bI 50 .lss 49 4] [49]
 (.cond (.s 50)
 (.seq (.draw [⟨lS 51 2 2,[]⟩,
 ⟨fa 52 4 3,[]⟩,
 ⟨lo 53 52,[1]⟩,
 ⟨mv 54 6,[]⟩,
 ⟨ia 55 1 53 54,[2,1,3]⟩,
 ⟨lo 56 55,[4,2,1,3]⟩,
 ⟨o0 57 (.iadr 9 (.s 56) (iC 0)),[5,4,2,1,3]⟩,
 ⟨fa 58 1 57,[6,5,4,2,1,3]⟩,
 ⟨lo 59 58,[7,6,5,4,2,1,3]⟩] [] [])
 (sr [c2 60 94 51 59] []
 (.reg [sT 2 2 60] [51,52,53,54,55,56,57,58,59,60])))
 (.seq (.draw [⟨lS 61 2 2,[]⟩,
 ⟨fa 62 4 3,[]⟩,
 ⟨lo 63 62,[1]⟩,
 ⟨mv 64 6,[]⟩,
 ⟨ia 65 1 63 64,[2,1,3]⟩,
 ⟨lo 66 65,[4,2,1,3]⟩] [] [])
 (sr [c2 67 99 61 66] []
 (.reg [sT 2 2 67] [61,62,63,64,65,66,67]))))))
 (.reg [mv 47 6,
 bI 48 .add 47 1,
 mv 6 48] [47,48]))))))
 (sr [lS 68 2 2,
 sT 2 4 68] [68]
 .ret)))))))))⟩
theorem XQ:ax Tryz.prog 148=some MS:=by kernel_rfl
abbrev ZA:FuncId:=148
def GW:aH :=
⟨18,1,[.tmp 2],
 (sr [mB 2 false] []
 (sr [mv 3 0,
 o0 4 (.pbin .neq (.s 3) (.c .np)),
 mv 5 4,
 mt 6 0 5,
 ot 7 5 (.nchk (.s 6)),
 ot 8 5 (fd 0 7),
 ot 9 5 (ld 8),
 pF 10 5 9,
 mv 11 10,
 mt 12 0 11,
 ot 13 11 (.nchk (.s 12)),
 ot 14 11 (fd 2 13),
 ot 15 11 (ld 14),
 ot 16 11 (.bin .eql (.s 15) (iC 0)),
 pF 17 11 16,
 mv 2 17] [3,4,5,6,7,8,9,10,11,12,13,14,15,16,17]
 .ret))⟩
theorem WP:ax Tryz.prog 153=some GW:=by kernel_rfl
abbrev YH:FuncId:=153
def sw:aH :=
⟨32,2,[.tmp 4,.tmp 5,.tmp 6],
 (sr [o0 4 (.mov (.c (.int .u64 0))),
 mI 5 0,
 mI 6 0] []
 (sr [mv 11 0,
 mv 12 1,
 c2 13 172 11 12,
 mv 10 13,
 xt 14 10 0,
 xt 15 10 1,
 xt 16 10 2,
 mv 7 14,
 mv 8 15,
 mv 9 16] [11,12,13,10,14,15,16]
 (.seq (sr [mv 17 9,
 bI 18 .neq 17 0] [17]
 (.cond (.s 18)
 (sr [mv 19 9,
 o0 4 (.mov (.c (.int .u64 0))),
 mI 5 0,
 mv 6 19] [19]
 .ret)
 .skip))
 (.seq (sr [mv 20 0,
 mv 21 7,
 ia 22 1 20 21,
 lo 23 22,
 mv 24 8,
 bS 25 .shr 23 24,
 o0 26 (.bin .neq (.s 25) (.c (.int .u8 0)))] [20,21,22,23,24,25]
 (.cond (.s 26)
 (sr [o0 4 (.mov (.c (.int .u64 0))),
 mI 5 0,
 mI 6 4] []
 .ret)
 .skip))
 (sr [mv 27 0,
 mv 28 7,
 c2 29 173 27 28,
 mv 30 7,
 bI 31 .add 30 1,
 mv 4 29,
 mv 5 31,
 mI 6 0] [27,28,29,30,31]
 .ret)))))⟩
theorem HY:ax Tryz.prog 156=some sw:=by kernel_rfl
abbrev Jq:FuncId:=156
def vU:aH :=
⟨31,2,[.tmp 4],
 (sr [o0 2 (.box 116 3 (.s 0)),
 mB 4 false] []
 (.seq (sr [fa 5 0 2,
 lo 6 5,
 bI 7 .lss 6 0,
 mv 8 7,
 oF 9 8 (fd 0 2),
 oF 10 8 (ld 9),
 mf 11 1 8,
 oF 12 8 (.bin .gtr (.s 10) (.s 11)),
 pT 13 8 12] [5,6,7,8,9,10,11,12]
 (.cond (.s 13)
 (sr [mB 4 false] []
 .ret)
 .skip))
 (.seq (sr [fa 14 2 2,
 lo 15 14,
 uN 16 15] [14,15]
 (.cond (.s 16)
 (sr [fa 17 1 2,
 lo 18 17,
 bI 19 .eql 18 0,
 mv 4 19] [17,18,19]
 .ret)
 .skip))
 (sr [fa 20 1 2,
 lo 21 20,
 fa 22 0 2,
 lo 23 22,
 bS 24 .geq 21 23,
 mv 25 24,
 ot 26 25 (fd 1 2),
 ot 27 25 (ld 26),
 mt 28 1 25,
 ot 29 25 (.bin .leq (.s 27) (.s 28)),
 pF 30 25 29,
 mv 4 30] [20,21,22,23,24,25,26,27,28,29,30]
 .ret))))⟩
theorem X0:ax Tryz.prog 159=some vU:=by kernel_rfl
abbrev ZH:FuncId:=159
def Ch:aH :=
⟨12,1,[.tmp 2],
 (sr [mI 2 0] []
 (.seq (.reg [mv 6 0,
 c1 7 180 6,
 mv 5 7,
 xt 8 5 0,
 xt 9 5 1,
 o0 3 (.new 246 [(.int .i64 0),(.str []),(.int .i64 0)]),
 sT 3 3 8,
 mv 4 9] [6,7,5,8,9,4])
 (sr [fa 10 2 3,
 lo 11 10,
 mv 2 11] [10,11]
 .ret)))⟩
theorem SQ:ax Tryz.prog 164=some Ch:=by kernel_rfl
abbrev UQ:FuncId:=164
def xI:aH :=
⟨25,2,[.cell 4 (some 2)],
 (sr [o0 2 (.box 81 2 (.s 0)),
 o0 3 (.box 192 9 (.s 1)),
 o0 4 (.new 81 [.nl,(.int .i64 0)])] []
 (.seq (sr [fa 5 2 3,
 lo 6 5,
 bI 7 .eql 6 0] [5,6]
 (.cond (.s 7)
 (.reg [lS 8 2 2,
 fa 9 1 3,
 lo 10 9,
 c2 11 94 8 10,
 sT 2 2 11] [8,9,10,11])
 (.seq (.draw [⟨lS 12 2 2,[]⟩,
 ⟨fa 13 1 3,[]⟩,
 ⟨lo 14 13,[1]⟩,
 ⟨bI 15 .add 14 64,[2,1]⟩,
 ⟨c2 16 94 12 15,[0,3,2,1]⟩,
 ⟨fa 17 2 3,[]⟩,
 ⟨lo 18 17,[5]⟩] [] [])
 (sr [c2 19 94 16 18] []
 (.reg [sT 2 2 19] [12,13,14,15,16,17,18,19])))))
 (sr [lS 20 2 2,
 fa 21 3 3,
 lo 22 21,
 o0 23 (.cvi .i64 (.s 22)),
 c2 24 94 20 23,
 sT 2 4 24] [20,21,22,23,24]
 .ret)))⟩
theorem Rq:ax Tryz.prog 167=some xI:=by kernel_rfl
abbrev TI:FuncId:=167
def B1:aH :=
⟨43,1,[.tmp 2],
 (sr [o0 1 (.box 55 5 (.s 0)),
 mI 2 0] []
 (sr [mI 3 0] []
 (.seq (sr [mI 4 0] []
 (.block 0 (.loop (.seq (sr [mv 5 4,
 fa 6 4 1,
 lo 7 6,
 ln 8 7,
 bS 9 .lss 5 8] [5,6,7,8]
 (.cond (.s 9)
 .skip
 (.exit 0)))
 (.seq (.block 1 (sr [fa 12 4 1,
 lo 13 12,
 mv 14 4,
 ia 15 1 13 14,
 lo 16 15,
 c1 17 184 16,
 uN 18 17] [12,13,14,15,16,17]
 (.cond (.s 18)
 (.reg [mI 3 4] [])
 .skip)))
 (.reg [mv 10 4,
 bI 11 .add 10 1,
 mv 4 11] [10,11]))))))
 (.seq (sr [fa 19 3 1,
 lo 20 19,
 bI 21 .neq 20 3] [19,20]
 (.cond (.s 21)
 (.reg [mI 3 4] [])
 .skip))
 (.seq (sr [fa 22 0 1,
 lo 23 22] [22]
 (.block 2 (sr [bI 25 .eql 23 1,
 mv 24 25] [25]
 (.cond (.s 24)
 (sr [mv 26 3,
 bI 27 .add 26 1,
 mv 2 27] [26,27]
 .ret)
 (sr [bI 29 .eql 23 2,
 mv 28 29] [29]
 (.cond (.s 28)
 (sr [mv 30 3,
 bI 31 .add 30 3,
 mv 2 31] [30,31]
 .ret)
 .skip))))))
 (.seq (sr [fa 32 1 1,
 lo 33 32,
 bI 34 .neq 33 0,
 mv 35 34,
 oF 36 35 (fd 3 1),
 oF 37 35 (ld 36),
 oF 38 35 (.bin .neq (.s 37) (iC 3)),
 pT 39 35 38] [32,33,34,35,36,37,38]
 (.cond (.s 39)
 (sr [mv 40 3,
 bI 41 .add 40 2,
 mv 2 41] [40,41]
 .ret)
 .skip))
 (sr [mv 42 3,
 mv 2 42] [42]
 .ret)))))))⟩
theorem Su:ax Tryz.prog 170=some B1:=by kernel_rfl
abbrev Uw:FuncId:=170
def Bv:aH :=
⟨29,1,[.tmp 2,.tmp 3],
 (sr [o0 2 (.mov (.c .nl)),
 mB 3 false] []
 (sr [o0 4 (.mov (.c .nl))] []
 (.seq (sr [mI 5 0] []
 (.block 0 (.loop (.seq (sr [mv 8 5,
 mv 9 0,
 o0 10 (.slen (.s 9)),
 bS 11 .lss 8 10] [8,9,10]
 (.cond (.s 11)
 .skip
 (.exit 0)))
 (.block 1 (sr [mv 13 0,
 mv 14 5,
 c2 15 186 13 14,
 mv 12 15,
 xt 16 12 0,
 xt 17 12 1,
 mv 6 16,
 mv 7 17] [13,14,15,12,16,17]
 (.seq (sr [mv 18 7,
 bI 19 .eql 18 0] [18]
 (.cond (.s 19)
 (sr [o0 2 (.mov (.c .nl)),
 mB 3 false] []
 .ret)
 .skip))
 (.seq (.reg [mv 20 4,
 mv 21 6,
 o0 22 (.cvi .i32 (.s 21)),
 o0 23 (.bsl 21 1 [[(.int .i32 0)]] [(0,(.s 22))]),
 o0 24 (.app 21 1 (.s 20) (.s 23)),
 mv 4 24] [20,21,22,23,24])
 (.reg [mv 25 5,
 mv 26 7,
 bS 27 .add 25 26,
 mv 5 27] [25,26,27])))))))))
 (sr [mv 28 4,
 mv 2 28,
 mB 3 true] [28]
 .ret))))⟩
theorem RE:ax Tryz.prog 174=some Bv:=by kernel_rfl
abbrev TN:FuncId:=174
def MY:aH :=
⟨16,1,[.tmp 2],
 (sr [mB 2 false] []
 (.seq (sr [mI 3 0] []
 (.block 0 (.loop (.seq (sr [mv 4 3,
 mv 5 0,
 ln 6 5,
 bS 7 .lss 4 6] [4,5,6]
 (.cond (.s 7)
 .skip
 (.exit 0)))
 (.seq (.block 1 (sr [mv 10 0,
 mv 11 3,
 ia 12 1 10 11,
 lo 13 12,
 c1 14 177 13,
 uN 15 14] [10,11,12,13,14]
 (.cond (.s 15)
 (sr [mB 2 false] []
 .ret)
 .skip)))
 (.reg [mv 8 3,
 bI 9 .add 8 1,
 mv 3 9] [8,9]))))))
 (sr [mB 2 true] []
 .ret)))⟩
theorem XY:ax Tryz.prog 178=some MY:=by kernel_rfl
abbrev ZF:FuncId:=178
def qW:aH :=
⟨35,1,[.tmp 2],
 (sr [o0 1 (.box 190 3 (.s 0)),
 mB 2 false] []
 (.seq (sr [fa 3 0 1,
 lo 4 3] [3]
 (.block 0 (sr [bI 6 .eql 4 0,
 mv 5 6] [6]
 (.cond (.s 5)
 (sr [fa 7 1 1,
 lo 8 7,
 bI 9 .eql 8 0,
 mv 10 9,
 ot 11 10 (fd 2 1),
 ot 12 10 (ld 11),
 ot 13 10 (.bin .eql (.s 12) (iC 0)),
 pF 14 10 13,
 mv 2 14] [7,8,9,10,11,12,13,14]
 .ret)
 (sr [bI 16 .eql 4 1,
 mv 15 16] [16]
 (.cond (.s 15)
 (sr [fa 17 1 1,
 lo 18 17,
 c1 19 157 18,
 mv 20 19,
 ot 21 20 (fd 2 1),
 ot 22 20 (ld 21),
 ot 23 20 (.bin .eql (.s 22) (iC 0)),
 pF 24 20 23,
 mv 2 24] [17,18,19,20,21,22,23,24]
 .ret)
 (sr [bI 26 .eql 4 2,
 mv 25 26] [26]
 (.cond (.s 25)
 (sr [fa 27 1 1,
 lo 28 27,
 bI 29 .eql 28 0,
 mv 30 29,
 ot 31 30 (fd 2 1),
 ot 32 30 (ld 31),
 ot 33 30 (.call 161 [(.s 32)]),
 pF 34 30 33,
 mv 2 34] [27,28,29,30,31,32,33,34]
 .ret)
 .skip))))))))
 (sr [mB 2 false] []
 .ret)))⟩
theorem RZ:ax Tryz.prog 181=some qW:=by kernel_rfl
abbrev T3:FuncId:=181
def Mr:aH :=
⟨8,2,[.tmp 4],
 (sr [mB 4 false] []
 (sr [mv 5 0,
 mv 6 1,
 c2 7 188 5 6,
 mv 4 7] [5,6,7]
 .ret))⟩
theorem Xf:ax Tryz.prog 185=some Mr:=by kernel_rfl
abbrev Y6:FuncId:=185
def BS:aH :=
⟨38,0,[.tmp 0],
 (sr [o0 0 (.mov (.c .nl))] []
 (sr [c0 2 190,
 c0 3 191,
 o0 4 (.app 246 3 (.s 2) (.s 3)),
 mv 1 4] [2,3,4]
 (.seq (.reg [mv 5 1,
 c0 6 193,
 o0 7 (.call 192 [(iC 69),(.c (.str [105,51,50])),(.s 6)]),
 o0 8 (.app 246 3 (.s 5) (.s 7)),
 mv 1 8] [5,6,7,8])
 (.seq (.reg [mv 9 1,
 c0 10 193,
 o0 11 (.call 192 [(iC 80),(.c (.str [105,54,52])),(.s 10)]),
 o0 12 (.app 246 3 (.s 9) (.s 11)),
 mv 1 12] [9,10,11,12])
 (.seq (.reg [mv 13 1,
 c0 14 194,
 o0 15 (.call 192 [(iC 103),(.c (.str [105,51,50])),(.s 14)]),
 o0 16 (.app 246 3 (.s 13) (.s 15)),
 mv 1 16] [13,14,15,16])
 (.seq (.reg [mv 17 1,
 c0 18 194,
 o0 19 (.call 192 [(iC 121),(.c (.str [105,54,52])),(.s 18)]),
 o0 20 (.app 246 3 (.s 17) (.s 19)),
 mv 1 20] [17,18,19,20])
 (.seq (.reg [mv 21 1,
 o0 22 (.build [(.int .i64 0),(.str []),(.int .i64 0)] [(0,1,(iC 167)),(1,1,(.c (.str [105,51,50,46,119,114,97,112,95,105,54,52]))),(2,1,(iC 0))]),
 o0 23 (.build [(.int .i64 0),(.str []),(.int .i64 0)] [(0,1,(iC 172)),(1,1,(.c (.str [105,54,52,46,101,120,116,101,110,100,95,105,51,50,95,115]))),(2,1,(iC 0))]),
 o0 24 (.build [(.int .i64 0),(.str []),(.int .i64 0)] [(0,1,(iC 173)),(1,1,(.c (.str [105,54,52,46,101,120,116,101,110,100,95,105,51,50,95,117]))),(2,1,(iC 0))]),
 o0 25 (.bsl 246 3 [[(.int .i64 0),(.str []),(.int .i64 0)],[(.int .i64 0),(.str []),(.int .i64 0)],[(.int .i64 0),(.str []),(.int .i64 0)]] [(0,(.s 22)),(1,(.s 23)),(2,(.s 24))]),
 o0 26 (.app 246 3 (.s 21) (.s 25)),
 mv 1 26] [21,22,23,24,25,26])
 (.seq (.reg [mv 27 1,
 o0 28 (.bsl 9 1 [[(.str [])],[(.str [])]] [(0,(.c (.str [101,120,116,101,110,100,56,95,115]))),(1,(.c (.str [101,120,116,101,110,100,49,54,95,115])))]),
 o0 29 (.call 192 [(iC 192),(.c (.str [105,51,50])),(.s 28)]),
 o0 30 (.app 246 3 (.s 27) (.s 29)),
 mv 1 30] [27,28,29,30])
 (.seq (.reg [mv 31 1,
 o0 32 (.bsl 9 1 [[(.str [])],[(.str [])],[(.str [])]] [(0,(.c (.str [101,120,116,101,110,100,56,95,115]))),(1,(.c (.str [101,120,116,101,110,100,49,54,95,115]))),(2,(.c (.str [101,120,116,101,110,100,51,50,95,115])))]),
 o0 33 (.call 192 [(iC 194),(.c (.str [105,54,52])),(.s 32)]),
 o0 34 (.app 246 3 (.s 31) (.s 33)),
 mv 1 34] [31,32,33,34])
 (sr [mv 35 1,
 c0 36 195,
 o0 37 (.app 246 3 (.s 35) (.s 36)),
 mv 0 37] [35,36,37]
 .ret))))))))))⟩
theorem Sf:ax Tryz.prog 187=some BS:=by kernel_rfl
abbrev Uh:FuncId:=187
def MX:aH :=
⟨25,0,[.tmp 0],
 (sr [o0 0 (.mov (.c .nl))] []
 (.seq (.reg [o0 1 (.build [(.int .i64 0),(.str []),(.int .i64 0)] [(0,1,(iC 40)),(1,1,(.c (.str [105,51,50,46,108,111,97,100]))),(2,1,(iC 17))]),
 o0 2 (.build [(.int .i64 0),(.str []),(.int .i64 0)] [(0,1,(iC 41)),(1,1,(.c (.str [105,54,52,46,108,111,97,100]))),(2,1,(iC 17))]),
 o0 3 (.build [(.int .i64 0),(.str []),(.int .i64 0)] [(0,1,(iC 44)),(1,1,(.c (.str [105,51,50,46,108,111,97,100,56,95,115]))),(2,1,(iC 17))]),
 o0 4 (.build [(.int .i64 0),(.str []),(.int .i64 0)] [(0,1,(iC 45)),(1,1,(.c (.str [105,51,50,46,108,111,97,100,56,95,117]))),(2,1,(iC 17))]),
 o0 5 (.build [(.int .i64 0),(.str []),(.int .i64 0)] [(0,1,(iC 46)),(1,1,(.c (.str [105,51,50,46,108,111,97,100,49,54,95,115]))),(2,1,(iC 17))]),
 o0 6 (.build [(.int .i64 0),(.str []),(.int .i64 0)] [(0,1,(iC 47)),(1,1,(.c (.str [105,51,50,46,108,111,97,100,49,54,95,117]))),(2,1,(iC 17))]),
 o0 7 (.build [(.int .i64 0),(.str []),(.int .i64 0)] [(0,1,(iC 48)),(1,1,(.c (.str [105,54,52,46,108,111,97,100,56,95,115]))),(2,1,(iC 17))]),
 o0 8 (.build [(.int .i64 0),(.str []),(.int .i64 0)] [(0,1,(iC 49)),(1,1,(.c (.str [105,54,52,46,108,111,97,100,56,95,117]))),(2,1,(iC 17))]),
 o0 9 (.build [(.int .i64 0),(.str []),(.int .i64 0)] [(0,1,(iC 50)),(1,1,(.c (.str [105,54,52,46,108,111,97,100,49,54,95,115]))),(2,1,(iC 17))]),
 o0 10 (.build [(.int .i64 0),(.str []),(.int .i64 0)] [(0,1,(iC 51)),(1,1,(.c (.str [105,54,52,46,108,111,97,100,49,54,95,117]))),(2,1,(iC 17))]),
 o0 11 (.build [(.int .i64 0),(.str []),(.int .i64 0)] [(0,1,(iC 52)),(1,1,(.c (.str [105,54,52,46,108,111,97,100,51,50,95,115]))),(2,1,(iC 17))]),
 o0 12 (.build [(.int .i64 0),(.str []),(.int .i64 0)] [(0,1,(iC 53)),(1,1,(.c (.str [105,54,52,46,108,111,97,100,51,50,95,117]))),(2,1,(iC 17))]),
 o0 13 (.build [(.int .i64 0),(.str []),(.int .i64 0)] [(0,1,(iC 54)),(1,1,(.c (.str [105,51,50,46,115,116,111,114,101]))),(2,1,(iC 17))]),
 o0 14 (.build [(.int .i64 0),(.str []),(.int .i64 0)] [(0,1,(iC 55)),(1,1,(.c (.str [105,54,52,46,115,116,111,114,101]))),(2,1,(iC 17))]),
 o0 15 (.build [(.int .i64 0),(.str []),(.int .i64 0)] [(0,1,(iC 58)),(1,1,(.c (.str [105,51,50,46,115,116,111,114,101,56]))),(2,1,(iC 17))]),
 o0 16 (.build [(.int .i64 0),(.str []),(.int .i64 0)] [(0,1,(iC 59)),(1,1,(.c (.str [105,51,50,46,115,116,111,114,101,49,54]))),(2,1,(iC 17))]),
 o0 17 (.build [(.int .i64 0),(.str []),(.int .i64 0)] [(0,1,(iC 60)),(1,1,(.c (.str [105,54,52,46,115,116,111,114,101,56]))),(2,1,(iC 17))]),
 o0 18 (.build [(.int .i64 0),(.str []),(.int .i64 0)] [(0,1,(iC 61)),(1,1,(.c (.str [105,54,52,46,115,116,111,114,101,49,54]))),(2,1,(iC 17))]),
 o0 19 (.build [(.int .i64 0),(.str []),(.int .i64 0)] [(0,1,(iC 62)),(1,1,(.c (.str [105,54,52,46,115,116,111,114,101,51,50]))),(2,1,(iC 17))]),
 o0 20 (.build [(.int .i64 0),(.str []),(.int .i64 0)] [(0,1,(iC 63)),(1,1,(.c (.str [109,101,109,111,114,121,46,115,105,122,101]))),(2,1,(iC 13))]),
 o0 21 (.build [(.int .i64 0),(.str []),(.int .i64 0)] [(0,1,(iC 64)),(1,1,(.c (.str [109,101,109,111,114,121,46,103,114,111,119]))),(2,1,(iC 13))]),
 o0 22 (.build [(.int .i64 0),(.str []),(.int .i64 0)] [(0,1,(iC 65)),(1,1,(.c (.str [105,51,50,46,99,111,110,115,116]))),(2,1,(iC 18))]),
 o0 23 (.build [(.int .i64 0),(.str []),(.int .i64 0)] [(0,1,(iC 66)),(1,1,(.c (.str [105,54,52,46,99,111,110,115,116]))),(2,1,(iC 19))]),
 o0 24 (.bsl 246 3 [[(.int .i64 0),(.str []),(.int .i64 0)],[(.int .i64 0),(.str []),(.int .i64 0)],[(.int .i64 0),(.str []),(.int .i64 0)],[(.int .i64 0),(.str []),(.int .i64 0)],[(.int .i64 0),(.str []),(.int .i64 0)],[(.int .i64 0),(.str []),(.int .i64 0)],[(.int .i64 0),(.str []),(.int .i64 0)],[(.int .i64 0),(.str []),(.int .i64 0)],[(.int .i64 0),(.str []),(.int .i64 0)],[(.int .i64 0),(.str []),(.int .i64 0)],[(.int .i64 0),(.str []),(.int .i64 0)],[(.int .i64 0),(.str []),(.int .i64 0)],[(.int .i64 0),(.str []),(.int .i64 0)],[(.int .i64 0),(.str []),(.int .i64 0)],[(.int .i64 0),(.str []),(.int .i64 0)],[(.int .i64 0),(.str []),(.int .i64 0)],[(.int .i64 0),(.str []),(.int .i64 0)],[(.int .i64 0),(.str []),(.int .i64 0)],[(.int .i64 0),(.str []),(.int .i64 0)],[(.int .i64 0),(.str []),(.int .i64 0)],[(.int .i64 0),(.str []),(.int .i64 0)],[(.int .i64 0),(.str []),(.int .i64 0)],[(.int .i64 0),(.str []),(.int .i64 0)]] [(0,(.s 1)),(1,(.s 2)),(2,(.s 3)),(3,(.s 4)),(4,(.s 5)),(5,(.s 6)),(6,(.s 7)),(7,(.s 8)),(8,(.s 9)),(9,(.s 10)),(10,(.s 11)),(11,(.s 12)),(12,(.s 13)),(13,(.s 14)),(14,(.s 15)),(15,(.s 16)),(16,(.s 17)),(17,(.s 18)),(18,(.s 19)),(19,(.s 20)),(20,(.s 21)),(21,(.s 22)),(22,(.s 23))]),
 mv 0 24] [1,2,3,4,5,6,7,8,9,10,11,12,13,14,15,16,17,18,19,20,21,22,23,24])
 .ret))⟩
theorem XX:ax Tryz.prog 191=some MX:=by kernel_rfl
abbrev ZE:FuncId:=191
theorem aq:Tryz.prog.follows .mixedOrders=true:=by kernel_rfl
end Go.Proofs.YtjndcljjbpeljaaGreatDoor