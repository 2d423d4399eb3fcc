/- Texts of a claim. -/
import Derived.Test.YtnhnghpnejobfaaDoorQb
import Derived.Test.YtnhnghpnejobfaaDoorProg
import Derived.KernelRfl
set_option linter.unusedVariables false
set_option linter.unusedSimpArgs false
set_option linter.unusedSectionVars false
namespace Go.Proofs.YtnhnghpnejobfaaDoor
open Go.Mw

def F_law05_OpcodeSigs : IFun :=
⟨72, 1, [.tmp 2],
 (.seq (.reg [⟨(some 2), .mov (.c (.bool false)), none⟩] [])
 (.seq (.reg [⟨(some 8), .mov (.s 0), none⟩,
 ⟨(some 9), .call 10 [(.s 8)], none⟩,
 ⟨(some 7), .mov (.s 9), none⟩,
 ⟨(some 10), .ext (.s 7) 0, none⟩,
 ⟨(some 11), .ext (.s 7) 1, none⟩,
 ⟨(some 3), .new 25 [.nl, .nl], none⟩,
 ⟨none, .store 2 (.s 3) (.s 10), none⟩,
 ⟨(some 4), .mov (.s 11), none⟩] [8, 9, 7, 10, 11])
 (.seq (.reg [⟨(some 13), .mov (.s 0), none⟩,
 ⟨(some 14), .call 11 [(.s 13)], none⟩,
 ⟨(some 12), .mov (.s 14), none⟩,
 ⟨(some 15), .ext (.s 12) 0, none⟩,
 ⟨(some 16), .ext (.s 12) 1, none⟩,
 ⟨(some 5), .new 25 [.nl, .nl], none⟩,
 ⟨none, .store 2 (.s 5) (.s 15), none⟩,
 ⟨(some 6), .mov (.s 16), none⟩] [13, 14, 12, 15, 16])
 (.seq (.seq (.reg [⟨(some 17), .fadr 0 (.s 3), none⟩,
 ⟨(some 18), .load none (.s 17), none⟩,
 ⟨(some 19), .fadr 0 (.s 5), none⟩,
 ⟨(some 20), .load none (.s 19), none⟩,
 ⟨(some 21), .call 12 [(.s 18), (.s 20)], none⟩,
 ⟨(some 22), .un .not (.s 21), none⟩,
 ⟨(some 23), .mov (.s 22), none⟩,
 ⟨(some 24), .fadr 1 (.s 3), (some (23, false))⟩,
 ⟨(some 25), .load none (.s 24), (some (23, false))⟩,
 ⟨(some 26), .fadr 1 (.s 5), (some (23, false))⟩,
 ⟨(some 27), .load none (.s 26), (some (23, false))⟩,
 ⟨(some 28), .call 12 [(.s 25), (.s 27)], (some (23, false))⟩,
 ⟨(some 29), .un .not (.s 28), (some (23, false))⟩,
 ⟨(some 30), .pick (.s 23) (.c (.bool true)) (.s 29), none⟩,
 ⟨(some 31), .mov (.s 30), none⟩,
 ⟨(some 32), .mov (.s 4), (some (31, false))⟩,
 ⟨(some 33), .mov (.s 6), (some (31, false))⟩,
 ⟨(some 34), .bbin .neq (.s 32) (.s 33), (some (31, false))⟩,
 ⟨(some 35), .pick (.s 31) (.c (.bool true)) (.s 34), none⟩] [17, 18, 19, 20, 21, 22, 23, 24, 25, 26, 27, 28, 29, 30, 31, 32, 33, 34])
 (.cond (.s 35)
 (.seq (.reg [⟨(some 2), .mov (.c (.bool false)), none⟩] [])
 .ret)
 .skip))
 (.seq (.reg [⟨(some 36), .fadr 0 (.s 3), none⟩,
 ⟨(some 37), .load none (.s 36), none⟩,
 ⟨(some 38), .call 13 [(.s 37)], none⟩] [36, 37, 38])
 (.seq (.reg [⟨(some 39), .fadr 1 (.s 3), none⟩,
 ⟨(some 40), .load none (.s 39), none⟩,
 ⟨(some 41), .call 13 [(.s 40)], none⟩] [39, 40, 41])
 (.seq (.reg [⟨(some 43), .mov (.s 0), none⟩,
 ⟨(some 44), .call 10 [(.s 43)], none⟩,
 ⟨(some 42), .mov (.s 44), none⟩,
 ⟨(some 45), .ext (.s 42) 0, none⟩,
 ⟨(some 46), .ext (.s 42) 1, none⟩,
 ⟨none, .store 2 (.s 3) (.s 45), none⟩,
 ⟨(some 4), .mov (.s 46), none⟩] [43, 44, 42, 45, 46])
 (.seq (.reg [⟨(some 48), .mov (.s 0), none⟩,
 ⟨(some 49), .call 11 [(.s 48)], none⟩,
 ⟨(some 47), .mov (.s 49), none⟩,
 ⟨(some 50), .ext (.s 47) 0, none⟩,
 ⟨(some 51), .ext (.s 47) 1, none⟩,
 ⟨none, .store 2 (.s 5) (.s 50), none⟩,
 ⟨(some 6), .mov (.s 51), none⟩] [48, 49, 47, 50, 51])
 (.seq (.reg [⟨(some 52), .fadr 0 (.s 3), none⟩,
 ⟨(some 53), .load none (.s 52), none⟩,
 ⟨(some 54), .fadr 0 (.s 5), none⟩,
 ⟨(some 55), .load none (.s 54), none⟩,
 ⟨(some 56), .call 12 [(.s 53), (.s 55)], none⟩,
 ⟨(some 57), .mov (.s 56), none⟩,
 ⟨(some 58), .fadr 1 (.s 3), (some (57, true))⟩,
 ⟨(some 59), .load none (.s 58), (some (57, true))⟩,
 ⟨(some 60), .fadr 1 (.s 5), (some (57, true))⟩,
 ⟨(some 61), .load none (.s 60), (some (57, true))⟩,
 ⟨(some 62), .call 12 [(.s 59), (.s 61)], (some (57, true))⟩,
 ⟨(some 63), .pick (.s 57) (.s 62) (.c (.bool false)), none⟩,
 ⟨(some 64), .mov (.s 63), none⟩,
 ⟨(some 65), .mov (.s 4), (some (64, true))⟩,
 ⟨(some 66), .mov (.s 6), (some (64, true))⟩,
 ⟨(some 67), .bbin .eql (.s 65) (.s 66), (some (64, true))⟩,
 ⟨(some 68), .pick (.s 64) (.s 67) (.c (.bool false)), none⟩,
 ⟨(some 69), .mov (.s 68), none⟩,
 ⟨(some 70), .call 14 [], (some (69, true))⟩,
 ⟨(some 71), .pick (.s 69) (.s 70) (.c (.bool false)), none⟩,
 ⟨(some 2), .mov (.s 71), none⟩] [52, 53, 54, 55, 56, 57, 58, 59, 60, 61, 62, 63, 64, 65, 66, 67, 68, 69, 70, 71])
 .ret)))))))))⟩

theorem c_law05_OpcodeSigs : compF Tryd.prog 3 = some F_law05_OpcodeSigs := by kernel_rfl
abbrev n_law05_OpcodeSigs : FuncId := 3

def F_law05_OpcodePlain : IFun :=
⟨22, 1, [.tmp 2],
 (.seq (.reg [⟨(some 1), .box 38 9 (.s 0), none⟩,
 ⟨(some 2), .mov (.c (.bool false)), none⟩] [])
 (.seq (.seq (.reg [⟨(some 3), .fadr 8 (.s 1), none⟩,
 ⟨(some 4), .load none (.s 3), none⟩,
 ⟨(some 5), .len (.s 4), none⟩,
 ⟨(some 6), .bin .gtr (.s 5) (.c (.int .i64 200)), none⟩,
 ⟨(some 7), .mov (.s 6), none⟩,
 ⟨(some 8), .fadr 7 (.s 1), (some (7, false))⟩,
 ⟨(some 9), .load none (.s 8), (some (7, false))⟩,
 ⟨(some 10), .len (.s 9), (some (7, false))⟩,
 ⟨(some 11), .bin .gtr (.s 10) (.c (.int .i64 200)), (some (7, false))⟩,
 ⟨(some 12), .pick (.s 7) (.c (.bool true)) (.s 11), none⟩] [3, 4, 5, 6, 7, 8, 9, 10, 11])
 (.cond (.s 12)
 (.seq (.reg [⟨(some 13), .call 14 [], none⟩,
 ⟨(some 2), .mov (.s 13), none⟩] [13])
 .ret)
 .skip))
 (.seq (.seq (.draw [⟨⟨(some 14), .load (some 9) (.s 1), none⟩, []⟩,
 ⟨⟨(some 15), .call 15 [(.s 14)], none⟩, [0]⟩,
 ⟨⟨(some 16), .load (some 9) (.s 1), none⟩, []⟩] [] [])
 (.seq (.reg [⟨(some 17), .call 16 [(.s 16)], none⟩] [])
 (.seq (.reg [⟨(some 18), .bbin .eql (.s 15) (.s 17), none⟩] [])
 (.seq (.reg [⟨(some 19), .mov (.s 18), none⟩] [])
 (.seq (.reg [⟨(some 20), .call 14 [], (some (19, true))⟩] [])
 (.seq (.reg [⟨(some 21), .pick (.s 19) (.s 20) (.c (.bool false)), none⟩] [])
 (.reg [⟨(some 2), .mov (.s 21), none⟩] [14, 15, 16, 17, 18, 19, 20, 21])))))))
 .ret)))⟩

theorem c_law05_OpcodePlain : compF Tryd.prog 4 = some F_law05_OpcodePlain := by kernel_rfl
abbrev n_law05_OpcodePlain : FuncId := 4

def F_law05_OpcodeTells : IFun :=
⟨46, 1, [.tmp 2],
 (.seq (.reg [⟨(some 2), .mov (.c (.bool false)), none⟩] [])
 (.seq (.reg [⟨(some 3), .mov (.s 0), none⟩,
 ⟨(some 4), .call 17 [(.s 3)], none⟩,
 ⟨(some 5), .mov (.s 0), none⟩,
 ⟨(some 6), .call 18 [(.s 5)], none⟩,
 ⟨(some 7), .bbin .eql (.s 4) (.s 6), none⟩,
 ⟨(some 8), .mov (.s 7), none⟩,
 ⟨(some 9), .mov (.s 0), (some (8, true))⟩,
 ⟨(some 10), .call 19 [(.s 9)], (some (8, true))⟩,
 ⟨(some 11), .mov (.s 0), (some (8, true))⟩,
 ⟨(some 12), .call 20 [(.s 11)], (some (8, true))⟩,
 ⟨(some 13), .bin .eql (.s 10) (.s 12), (some (8, true))⟩,
 ⟨(some 14), .pick (.s 8) (.s 13) (.c (.bool false)), none⟩,
 ⟨(some 15), .mov (.s 14), none⟩,
 ⟨(some 16), .mov (.s 0), (some (15, true))⟩,
 ⟨(some 17), .call 21 [(.s 16)], (some (15, true))⟩,
 ⟨(some 18), .mov (.s 0), (some (15, true))⟩,
 ⟨(some 19), .call 22 [(.s 18)], (some (15, true))⟩,
 ⟨(some 20), .bin .eql (.s 17) (.s 19), (some (15, true))⟩,
 ⟨(some 21), .pick (.s 15) (.s 20) (.c (.bool false)), none⟩,
 ⟨(some 22), .mov (.s 21), none⟩,
 ⟨(some 23), .mov (.s 0), (some (22, true))⟩,
 ⟨(some 24), .call 23 [(.s 23)], (some (22, true))⟩,
 ⟨(some 25), .mov (.s 0), (some (22, true))⟩,
 ⟨(some 26), .call 24 [(.s 25)], (some (22, true))⟩,
 ⟨(some 27), .bin .eql (.s 24) (.s 26), (some (22, true))⟩,
 ⟨(some 28), .pick (.s 22) (.s 27) (.c (.bool false)), none⟩,
 ⟨(some 29), .mov (.s 28), none⟩,
 ⟨(some 30), .mov (.s 0), (some (29, true))⟩,
 ⟨(some 31), .call 25 [(.s 30)], (some (29, true))⟩,
 ⟨(some 32), .mov (.s 0), (some (29, true))⟩,
 ⟨(some 33), .call 26 [(.s 32)], (some (29, true))⟩,
 ⟨(some 34), .bin .eql (.s 31) (.s 33), (some (29, true))⟩,
 ⟨(some 35), .pick (.s 29) (.s 34) (.c (.bool false)), none⟩,
 ⟨(some 36), .mov (.s 35), none⟩,
 ⟨(some 37), .mov (.s 0), (some (36, true))⟩,
 ⟨(some 38), .call 27 [(.s 37)], (some (36, true))⟩,
 ⟨(some 39), .mov (.s 0), (some (36, true))⟩,
 ⟨(some 40), .call 28 [(.s 39)], (some (36, true))⟩,
 ⟨(some 41), .bin .eql (.s 38) (.s 40), (some (36, true))⟩,
 ⟨(some 42), .pick (.s 36) (.s 41) (.c (.bool false)), none⟩,
 ⟨(some 43), .mov (.s 42), none⟩,
 ⟨(some 44), .call 14 [], (some (43, true))⟩,
 ⟨(some 45), .pick (.s 43) (.s 44) (.c (.bool false)), none⟩,
 ⟨(some 2), .mov (.s 45), none⟩] [3, 4, 5, 6, 7, 8, 9, 10, 11, 12, 13, 14, 15, 16, 17, 18, 19, 20, 21, 22, 23, 24, 25, 26, 27, 28, 29, 30, 31, 32, 33, 34, 35, 36, 37, 38, 39, 40, 41, 42, 43, 44, 45])
 .ret))⟩

theorem c_law05_OpcodeTells : compF Tryd.prog 5 = some F_law05_OpcodeTells := by kernel_rfl
abbrev n_law05_OpcodeTells : FuncId := 5

def F_law05_OpcodeAgree : IFun :=
⟨85, 1, [.tmp 2],
 (.seq (.reg [⟨(some 2), .mov (.c (.bool false)), none⟩] [])
 (.seq (.reg [⟨(some 6), .mov (.s 0), none⟩,
 ⟨(some 7), .call 23 [(.s 6)], none⟩,
 ⟨(some 3), .mov (.s 7), none⟩] [6, 7])
 (.seq (.reg [⟨(some 9), .mov (.s 0), none⟩,
 ⟨(some 10), .call 10 [(.s 9)], none⟩,
 ⟨(some 8), .mov (.s 10), none⟩,
 ⟨(some 11), .ext (.s 8) 0, none⟩,
 ⟨(some 12), .ext (.s 8) 1, none⟩,
 ⟨(some 4), .new 25 [.nl, .nl], none⟩,
 ⟨none, .store 2 (.s 4) (.s 11), none⟩,
 ⟨(some 5), .mov (.s 12), none⟩] [9, 10, 8, 11, 12])
 (.seq (.seq (.reg [⟨(some 13), .mov (.s 3), none⟩,
 ⟨(some 14), .bin .gtr (.s 13) (.c (.int .i64 0)), none⟩,
 ⟨(some 15), .mov (.s 0), none⟩,
 ⟨(some 16), .call 21 [(.s 15)], none⟩,
 ⟨(some 17), .bin .eql (.s 16) (.c (.int .i64 17)), none⟩,
 ⟨(some 18), .bbin .neq (.s 14) (.s 17), none⟩] [13, 14, 15, 16, 17])
 (.cond (.s 18)
 (.seq (.reg [⟨(some 2), .mov (.c (.bool false)), none⟩] [])
 .ret)
 .skip))
 (.seq (.seq (.reg [⟨(some 19), .mov (.s 3), none⟩,
 ⟨(some 20), .bin .gtr (.s 19) (.c (.int .i64 0)), none⟩] [19])
 (.cond (.s 20)
 (.seq (.reg [⟨(some 21), .mov (.s 0), none⟩,
 ⟨(some 22), .call 25 [(.s 21)], none⟩,
 ⟨(some 23), .bin .rem (.s 22) (.c (.int .i64 8)), none⟩,
 ⟨(some 24), .cvi .u64 (.s 23), none⟩,
 ⟨(some 25), .bin .shl (.c (.int .i64 1)) (.s 24), none⟩,
 ⟨(some 26), .mov (.s 3), none⟩,
 ⟨(some 27), .bin .eql (.s 25) (.s 26), none⟩,
 ⟨(some 28), .mov (.s 27), none⟩,
 ⟨(some 29), .mov (.s 5), (some (28, true))⟩,
 ⟨(some 30), .pick (.s 28) (.s 29) (.c (.bool false)), none⟩,
 ⟨(some 31), .mov (.s 30), none⟩,
 ⟨(some 32), .fadr 0 (.s 4), (some (31, true))⟩,
 ⟨(some 33), .load none (.s 32), (some (31, true))⟩,
 ⟨(some 34), .len (.s 33), (some (31, true))⟩,
 ⟨(some 35), .bin .geq (.s 34) (.c (.int .i64 1)), (some (31, true))⟩,
 ⟨(some 36), .pick (.s 31) (.s 35) (.c (.bool false)), none⟩,
 ⟨(some 37), .mov (.s 36), none⟩,
 ⟨(some 38), .fadr 0 (.s 4), (some (37, true))⟩,
 ⟨(some 39), .load none (.s 38), (some (37, true))⟩,
 ⟨(some 40), .iadr 1 (.s 39) (.c (.int .i64 0)), (some (37, true))⟩,
 ⟨(some 41), .load none (.s 40), (some (37, true))⟩,
 ⟨(some 42), .bin .eql (.s 41) (.c (.int .i64 1)), (some (37, true))⟩,
 ⟨(some 43), .pick (.s 37) (.s 42) (.c (.bool false)), none⟩,
 ⟨(some 44), .mov (.s 43), none⟩,
 ⟨(some 45), .fadr 0 (.s 4), (some (44, true))⟩,
 ⟨(some 46), .load none (.s 45), (some (44, true))⟩,
 ⟨(some 47), .len (.s 46), (some (44, true))⟩,
 ⟨(some 48), .fadr 1 (.s 4), (some (44, true))⟩,
 ⟨(some 49), .load none (.s 48), (some (44, true))⟩,
 ⟨(some 50), .len (.s 49), (some (44, true))⟩,
 ⟨(some 51), .bin .add (.s 47) (.s 50), (some (44, true))⟩,
 ⟨(some 52), .bin .eql (.s 51) (.c (.int .i64 2)), (some (44, true))⟩,
 ⟨(some 53), .pick (.s 44) (.s 52) (.c (.bool false)), none⟩,
 ⟨(some 54), .mov (.s 53), none⟩,
 ⟨(some 55), .call 14 [], (some (54, true))⟩,
 ⟨(some 56), .pick (.s 54) (.s 55) (.c (.bool false)), none⟩,
 ⟨(some 2), .mov (.s 56), none⟩] [21, 22, 23, 24, 25, 26, 27, 28, 29, 30, 31, 32, 33, 34, 35, 36, 37, 38, 39, 40, 41, 42, 43, 44, 45, 46, 47, 48, 49, 50, 51, 52, 53, 54, 55, 56])
 .ret)
 .skip))
 (.seq (.reg [⟨(some 57), .mov (.s 0), none⟩,
 ⟨(some 58), .call 25 [(.s 57)], none⟩,
 ⟨(some 59), .bin .eql (.s 58) (.c (.int .i64 0)), none⟩,
 ⟨(some 60), .mov (.s 59), none⟩,
 ⟨(some 61), .mov (.s 5), (some (60, true))⟩,
 ⟨(some 62), .un .not (.s 61), (some (60, true))⟩,
 ⟨(some 63), .mov (.s 62), (some (60, true))⟩,
 ⟨(some 64), .mov (.s 0), (some (63, false))⟩,
 ⟨(some 65), .call 17 [(.s 64)], (some (63, false))⟩,
 ⟨(some 66), .pick (.s 63) (.c (.bool true)) (.s 65), (some (60, true))⟩,
 ⟨(some 67), .pick (.s 60) (.s 66) (.c (.bool false)), none⟩,
 ⟨(some 68), .mov (.s 67), none⟩,
 ⟨(some 69), .mov (.s 0), (some (68, true))⟩,
 ⟨(some 70), .call 17 [(.s 69)], (some (68, true))⟩,
 ⟨(some 71), .mov (.s 70), (some (68, true))⟩,
 ⟨(some 72), .mov (.s 0), (some (71, false))⟩,
 ⟨(some 73), .call 21 [(.s 72)], (some (71, false))⟩,
 ⟨(some 74), .bin .eql (.s 73) (.c (.int .i64 0)), (some (71, false))⟩,
 ⟨(some 75), .mov (.s 74), (some (71, false))⟩,
 ⟨(some 76), .mov (.s 0), (some (75, true))⟩,
 ⟨(some 77), .call 27 [(.s 76)], (some (75, true))⟩,
 ⟨(some 78), .bin .eql (.s 77) (.c (.int .i64 0)), (some (75, true))⟩,
 ⟨(some 79), .pick (.s 75) (.s 78) (.c (.bool false)), (some (71, false))⟩,
 ⟨(some 80), .pick (.s 71) (.c (.bool true)) (.s 79), (some (68, true))⟩,
 ⟨(some 81), .pick (.s 68) (.s 80) (.c (.bool false)), none⟩,
 ⟨(some 82), .mov (.s 81), none⟩,
 ⟨(some 83), .call 14 [], (some (82, true))⟩,
 ⟨(some 84), .pick (.s 82) (.s 83) (.c (.bool false)), none⟩,
 ⟨(some 2), .mov (.s 84), none⟩] [57, 58, 59, 60, 61, 62, 63, 64, 65, 66, 67, 68, 69, 70, 71, 72, 73, 74, 75, 76, 77, 78, 79, 80, 81, 82, 83, 84])
 .ret))))))⟩

theorem c_law05_OpcodeAgree : compF Tryd.prog 6 = some F_law05_OpcodeAgree := by kernel_rfl
abbrev n_law05_OpcodeAgree : FuncId := 6

def F_law05_OpcodeSames : IFun :=
⟨39, 2, [.tmp 4],
 (.seq (.reg [⟨(some 2), .box 38 9 (.s 0), none⟩,
 ⟨(some 3), .box 38 9 (.s 1), none⟩,
 ⟨(some 4), .mov (.c (.bool false)), none⟩] [])
 (.seq (.seq (.reg [⟨(some 5), .fadr 8 (.s 2), none⟩,
 ⟨(some 6), .load none (.s 5), none⟩,
 ⟨(some 7), .len (.s 6), none⟩,
 ⟨(some 8), .fadr 8 (.s 3), none⟩,
 ⟨(some 9), .load none (.s 8), none⟩,
 ⟨(some 10), .len (.s 9), none⟩,
 ⟨(some 11), .bin .add (.s 7) (.s 10), none⟩,
 ⟨(some 12), .bin .gtr (.s 11) (.c (.int .i64 300)), none⟩,
 ⟨(some 13), .mov (.s 12), none⟩,
 ⟨(some 14), .fadr 7 (.s 2), (some (13, false))⟩,
 ⟨(some 15), .load none (.s 14), (some (13, false))⟩,
 ⟨(some 16), .len (.s 15), (some (13, false))⟩,
 ⟨(some 17), .fadr 7 (.s 3), (some (13, false))⟩,
 ⟨(some 18), .load none (.s 17), (some (13, false))⟩,
 ⟨(some 19), .len (.s 18), (some (13, false))⟩,
 ⟨(some 20), .bin .add (.s 16) (.s 19), (some (13, false))⟩,
 ⟨(some 21), .bin .gtr (.s 20) (.c (.int .i64 300)), (some (13, false))⟩,
 ⟨(some 22), .pick (.s 13) (.c (.bool true)) (.s 21), none⟩] [5, 6, 7, 8, 9, 10, 11, 12, 13, 14, 15, 16, 17, 18, 19, 20, 21])
 (.cond (.s 22)
 (.seq (.reg [⟨(some 23), .call 14 [], none⟩,
 ⟨(some 4), .mov (.s 23), none⟩] [23])
 .ret)
 .skip))
 (.seq (.seq (.draw [⟨⟨(some 24), .load (some 9) (.s 2), none⟩, []⟩,
 ⟨⟨(some 25), .load (some 9) (.s 3), none⟩, []⟩,
 ⟨⟨(some 26), .call 33 [(.s 24), (.s 25)], none⟩, [0, 1]⟩,
 ⟨⟨(some 27), .load (some 9) (.s 2), none⟩, []⟩,
 ⟨⟨(some 28), .load (some 9) (.s 3), none⟩, []⟩] [] [])
 (.seq (.reg [⟨(some 29), .call 34 [(.s 27), (.s 28)], none⟩] [])
 (.seq (.reg [⟨(some 30), .bbin .eql (.s 26) (.s 29), none⟩] [])
 (.seq (.reg [⟨(some 31), .mov (.s 30), none⟩] [])
 (.seq (.draw [⟨⟨(some 32), .load (some 9) (.s 2), (some (31, true))⟩, []⟩,
 ⟨⟨(some 33), .load (some 9) (.s 2), (some (31, true))⟩, []⟩] [] [])
 (.seq (.reg [⟨(some 34), .call 33 [(.s 32), (.s 33)], (some (31, true))⟩] [])
 (.seq (.reg [⟨(some 35), .pick (.s 31) (.s 34) (.c (.bool false)), none⟩] [])
 (.seq (.reg [⟨(some 36), .mov (.s 35), none⟩] [])
 (.seq (.reg [⟨(some 37), .call 14 [], (some (36, true))⟩] [])
 (.seq (.reg [⟨(some 38), .pick (.s 36) (.s 37) (.c (.bool false)), none⟩] [])
 (.reg [⟨(some 4), .mov (.s 38), none⟩] [24, 25, 26, 27, 28, 29, 30, 31, 32, 33, 34, 35, 36, 37, 38])))))))))))
 .ret)))⟩

theorem c_law05_OpcodeSames : compF Tryd.prog 9 = some F_law05_OpcodeSames := by kernel_rfl
abbrev n_law05_OpcodeSames : FuncId := 9

def F_opcode_Sig : IFun :=
⟨70, 1, [.cell 2 (some 2), .tmp 3],
 (.seq (.reg [⟨(some 2), .new 25 [.nl, .nl], none⟩,
 ⟨(some 3), .mov (.c (.bool false)), none⟩] [])
 (.seq (.reg [⟨(some 6), .bsl 33 1 [[(.int .i64 0)], [(.int .i64 0)], [(.int .i64 0)]] [(0, (.c (.int .i64 1))), (1, (.c (.int .i64 1))), (2, (.c (.int .i64 1)))], none⟩,
 ⟨(some 4), .mov (.s 6), none⟩] [6])
 (.seq (.seq (.reg [⟨(some 7), .mov (.s 0), none⟩] [])
 (.block 0 (.seq (.seq (.reg [⟨(some 9), .bin .eql (.s 7) (.c (.int .i64 1)), none⟩,
 ⟨(some 8), .mov (.s 9), none⟩] [9])
 (.cond (.s 8)
 .skip
 (.seq (.reg [⟨(some 10), .bin .eql (.s 7) (.c (.int .i64 64525)), none⟩,
 ⟨(some 8), .mov (.s 10), none⟩] [10])
 (.cond (.s 8)
 .skip
 (.reg [⟨(some 11), .bin .eql (.s 7) (.c (.int .i64 64521)), none⟩,
 ⟨(some 8), .mov (.s 11), none⟩] [11])))))
 (.cond (.s 8)
 (.seq (.reg [⟨(some 12), .build [.nl, .nl] [], none⟩,
 ⟨none, .store 2 (.s 2) (.s 12), none⟩,
 ⟨(some 3), .mov (.c (.bool true)), none⟩] [12])
 .ret)
 (.seq (.seq (.reg [⟨(some 14), .bin .eql (.s 7) (.c (.int .i64 65)), none⟩,
 ⟨(some 13), .mov (.s 14), none⟩] [14])
 (.cond (.s 13)
 .skip
 (.seq (.reg [⟨(some 15), .bin .eql (.s 7) (.c (.int .i64 63)), none⟩,
 ⟨(some 13), .mov (.s 15), none⟩] [15])
 (.cond (.s 13)
 .skip
 (.reg [⟨(some 16), .bin .eql (.s 7) (.c (.int .i64 64528)), none⟩,
 ⟨(some 13), .mov (.s 16), none⟩] [16])))))
 (.cond (.s 13)
 (.seq (.reg [⟨(some 17), .bsl 33 1 [[(.int .i64 0)]] [(0, (.c (.int .i64 1)))], none⟩,
 ⟨(some 18), .call 35 [(.c .nl), (.s 17)], none⟩,
 ⟨none, .store 2 (.s 2) (.s 18), none⟩,
 ⟨(some 3), .mov (.c (.bool true)), none⟩] [17, 18])
 .ret)
 (.seq (.reg [⟨(some 20), .bin .eql (.s 7) (.c (.int .i64 66)), none⟩,
 ⟨(some 19), .mov (.s 20), none⟩] [20])
 (.cond (.s 19)
 (.seq (.reg [⟨(some 21), .bsl 33 1 [[(.int .i64 0)]] [(0, (.c (.int .i64 2)))], none⟩,
 ⟨(some 22), .call 35 [(.c .nl), (.s 21)], none⟩,
 ⟨none, .store 2 (.s 2) (.s 22), none⟩,
 ⟨(some 3), .mov (.c (.bool true)), none⟩] [21, 22])
 .ret)
 (.seq (.reg [⟨(some 24), .bin .eql (.s 7) (.c (.int .i64 210)), none⟩,
 ⟨(some 23), .mov (.s 24), none⟩] [24])
 (.cond (.s 23)
 (.seq (.reg [⟨(some 25), .bsl 33 1 [[(.int .i64 0)]] [(0, (.c (.int .i64 3)))], none⟩,
 ⟨(some 26), .call 35 [(.c .nl), (.s 25)], none⟩,
 ⟨none, .store 2 (.s 2) (.s 26), none⟩,
 ⟨(some 3), .mov (.c (.bool true)), none⟩] [25, 26])
 .ret)
 (.seq (.reg [⟨(some 28), .bin .eql (.s 7) (.c (.int .i64 64)), none⟩,
 ⟨(some 27), .mov (.s 28), none⟩] [28])
 (.cond (.s 27)
 (.seq (.reg [⟨(some 29), .mov (.s 4), none⟩,
 ⟨(some 30), .slc 1 (.s 29) none (some (.c (.int .i64 1))) none, none⟩,
 ⟨(some 31), .bsl 33 1 [[(.int .i64 0)]] [(0, (.c (.int .i64 1)))], none⟩,
 ⟨(some 32), .call 35 [(.s 30), (.s 31)], none⟩,
 ⟨none, .store 2 (.s 2) (.s 32), none⟩,
 ⟨(some 3), .mov (.c (.bool true)), none⟩] [29, 30, 31, 32])
 .ret)
 (.seq (.seq (.reg [⟨(some 34), .bin .eql (.s 7) (.c (.int .i64 64523)), none⟩,
 ⟨(some 33), .mov (.s 34), none⟩] [34])
 (.cond (.s 33)
 .skip
 (.seq (.reg [⟨(some 35), .bin .eql (.s 7) (.c (.int .i64 64522)), none⟩,
 ⟨(some 33), .mov (.s 35), none⟩] [35])
 (.cond (.s 33)
 .skip
 (.seq (.reg [⟨(some 36), .bin .eql (.s 7) (.c (.int .i64 64520)), none⟩,
 ⟨(some 33), .mov (.s 36), none⟩] [36])
 (.cond (.s 33)
 .skip
 (.seq (.reg [⟨(some 37), .bin .eql (.s 7) (.c (.int .i64 64526)), none⟩,
 ⟨(some 33), .mov (.s 37), none⟩] [37])
 (.cond (.s 33)
 .skip
 (.reg [⟨(some 38), .bin .eql (.s 7) (.c (.int .i64 64524)), none⟩,
 ⟨(some 33), .mov (.s 38), none⟩] [38])))))))))
 (.cond (.s 33)
 (.seq (.reg [⟨(some 39), .mov (.s 4), none⟩,
 ⟨(some 40), .call 35 [(.s 39), (.c .nl)], none⟩,
 ⟨none, .store 2 (.s 2) (.s 40), none⟩,
 ⟨(some 3), .mov (.c (.bool true)), none⟩] [39, 40])
 .ret)
 (.seq (.reg [⟨(some 42), .bin .eql (.s 7) (.c (.int .i64 167)), none⟩,
 ⟨(some 41), .mov (.s 42), none⟩] [42])
 (.cond (.s 41)
 (.seq (.reg [⟨(some 43), .bsl 33 1 [[(.int .i64 0)]] [(0, (.c (.int .i64 2)))], none⟩,
 ⟨(some 44), .bsl 33 1 [[(.int .i64 0)]] [(0, (.c (.int .i64 1)))], none⟩,
 ⟨(some 45), .call 35 [(.s 43), (.s 44)], none⟩,
 ⟨none, .store 2 (.s 2) (.s 45), none⟩,
 ⟨(some 3), .mov (.c (.bool true)), none⟩] [43, 44, 45])
 .ret)
 (.seq (.seq (.reg [⟨(some 47), .bin .eql (.s 7) (.c (.int .i64 172)), none⟩,
 ⟨(some 46), .mov (.s 47), none⟩] [47])
 (.cond (.s 46)
 .skip
 (.reg [⟨(some 48), .bin .eql (.s 7) (.c (.int .i64 173)), none⟩,
 ⟨(some 46), .mov (.s 48), none⟩] [48])))
 (.cond (.s 46)
 (.seq (.reg [⟨(some 49), .mov (.s 4), none⟩,
 ⟨(some 50), .slc 1 (.s 49) none (some (.c (.int .i64 1))) none, none⟩,
 ⟨(some 51), .bsl 33 1 [[(.int .i64 0)]] [(0, (.c (.int .i64 2)))], none⟩,
 ⟨(some 52), .call 35 [(.s 50), (.s 51)], none⟩,
 ⟨none, .store 2 (.s 2) (.s 52), none⟩,
 ⟨(some 3), .mov (.c (.bool true)), none⟩] [49, 50, 51, 52])
 .ret)
 .skip))))))))))))))))))
 (.seq (.reg [⟨(some 53), .mov (.s 0), none⟩,
 ⟨(some 54), .call 19 [(.s 53)], none⟩,
 ⟨(some 5), .mov (.s 54), none⟩] [53, 54])
 (.seq (.seq (.reg [⟨(some 55), .mov (.s 5), none⟩,
 ⟨(some 56), .call 36 [(.s 55), (.c (.str [105, 51, 50, 46]))], none⟩,
 ⟨(some 57), .un .not (.s 56), none⟩,
 ⟨(some 58), .mov (.s 57), none⟩,
 ⟨(some 59), .mov (.s 5), (some (58, true))⟩,
 ⟨(some 60), .call 36 [(.s 59), (.c (.str [105, 54, 52, 46]))], (some (58, true))⟩,
 ⟨(some 61), .un .not (.s 60), (some (58, true))⟩,
 ⟨(some 62), .pick (.s 58) (.s 61) (.c (.bool false)), none⟩] [55, 56, 57, 58, 59, 60, 61])
 (.cond (.s 62)
 (.seq (.reg [⟨(some 63), .build [.nl, .nl] [], none⟩,
 ⟨none, .store 2 (.s 2) (.s 63), none⟩,
 ⟨(some 3), .mov (.c (.bool false)), none⟩] [63])
 .ret)
 .skip))
 (.seq (.seq (.draw [⟨⟨(some 64), .mov (.s 0), none⟩, []⟩,
 ⟨⟨(some 65), .mov (.s 5), none⟩, []⟩,
 ⟨⟨(some 66), .call 38 [(.s 65)], none⟩, [1]⟩,
 ⟨⟨(some 67), .mov (.s 5), none⟩, []⟩,
 ⟨⟨(some 68), .sslc (.s 67) (some (.c (.int .i64 4))) none, none⟩, [3]⟩] [] [])
 (.seq (.reg [⟨(some 69), .call 37 [(.s 64), (.s 66), (.s 68)], none⟩] [])
 (.seq (.reg [⟨none, .store 2 (.s 2) (.s 69), none⟩] [])
 (.reg [⟨(some 3), .mov (.c (.bool true)), none⟩] [64, 65, 66, 67, 68, 69]))))
 .ret))))))⟩

theorem c_opcode_Sig : compF Tryd.prog 10 = some F_opcode_Sig := by kernel_rfl
abbrev n_opcode_Sig : FuncId := 10

def F_ref05_Sig : IFun :=
⟨116, 1, [.cell 2 (some 2), .tmp 3],
 (.seq (.reg [⟨(some 2), .new 25 [.nl, .nl], none⟩,
 ⟨(some 3), .mov (.c (.bool false)), none⟩] [])
 (.seq (.seq (.reg [⟨(some 11), .mov (.s 0), none⟩,
 ⟨(some 12), .call 39 [(.s 11)], none⟩,
 ⟨(some 10), .mov (.s 12), none⟩,
 ⟨(some 13), .ext (.s 10) 0, none⟩,
 ⟨(some 14), .ext (.s 10) 1, none⟩,
 ⟨(some 4), .new 25 [.nl, .nl], none⟩,
 ⟨none, .store 2 (.s 4) (.s 13), none⟩,
 ⟨(some 5), .mov (.s 14), none⟩] [11, 12, 10, 13, 14])
 (.seq (.reg [⟨(some 15), .mov (.s 5), none⟩] [])
 (.cond (.s 15)
 (.seq (.reg [⟨(some 16), .load (some 2) (.s 4), none⟩,
 ⟨none, .store 2 (.s 2) (.s 16), none⟩,
 ⟨(some 3), .mov (.c (.bool true)), none⟩] [16])
 .ret)
 .skip)))
 (.seq (.reg [⟨(some 17), .mov (.s 0), none⟩,
 ⟨(some 18), .call 20 [(.s 17)], none⟩,
 ⟨(some 6), .mov (.s 18), none⟩] [17, 18])
 (.seq (.reg [⟨(some 19), .mov (.s 6), none⟩,
 ⟨(some 20), .call 40 [(.s 19)], none⟩,
 ⟨(some 7), .mov (.s 20), none⟩] [19, 20])
 (.seq (.reg [⟨(some 21), .mov (.s 7), none⟩,
 ⟨(some 22), .bsl 33 1 [[(.int .i64 0)]] [(0, (.s 21))], none⟩,
 ⟨(some 23), .mov (.s 7), none⟩,
 ⟨(some 24), .mov (.s 7), none⟩,
 ⟨(some 25), .bsl 33 1 [[(.int .i64 0)], [(.int .i64 0)]] [(0, (.s 23)), (1, (.s 24))], none⟩,
 ⟨(some 8), .mov (.s 22), none⟩,
 ⟨(some 9), .mov (.s 25), none⟩] [21, 22, 23, 24, 25])
 (.seq (.block 0 (.seq (.reg [⟨(some 27), .mov (.s 0), none⟩,
 ⟨(some 28), .call 22 [(.s 27)], none⟩,
 ⟨(some 29), .bin .eql (.s 28) (.c (.int .i64 17)), none⟩,
 ⟨(some 30), .mov (.s 29), none⟩,
 ⟨(some 31), .mov (.s 6), (some (30, true))⟩,
 ⟨(some 32), .call 41 [(.s 31), (.c (.str [108, 111, 97, 100]))], (some (30, true))⟩,
 ⟨(some 33), .pick (.s 30) (.s 32) (.c (.bool false)), none⟩,
 ⟨(some 26), .mov (.s 33), none⟩] [27, 28, 29, 30, 31, 32, 33])
 (.cond (.s 26)
 (.seq (.reg [⟨(some 34), .bsl 33 1 [[(.int .i64 0)]] [(0, (.c (.int .i64 1)))], none⟩,
 ⟨(some 35), .mov (.s 7), none⟩,
 ⟨(some 36), .bsl 33 1 [[(.int .i64 0)]] [(0, (.s 35))], none⟩,
 ⟨(some 37), .call 42 [(.s 34), (.s 36)], none⟩,
 ⟨none, .store 2 (.s 2) (.s 37), none⟩,
 ⟨(some 3), .mov (.c (.bool true)), none⟩] [34, 35, 36, 37])
 .ret)
 (.seq (.reg [⟨(some 39), .mov (.s 0), none⟩,
 ⟨(some 40), .call 22 [(.s 39)], none⟩,
 ⟨(some 41), .bin .eql (.s 40) (.c (.int .i64 17)), none⟩,
 ⟨(some 38), .mov (.s 41), none⟩] [39, 40, 41])
 (.cond (.s 38)
 (.seq (.reg [⟨(some 42), .mov (.s 7), none⟩,
 ⟨(some 43), .bsl 33 1 [[(.int .i64 0)], [(.int .i64 0)]] [(0, (.c (.int .i64 1))), (1, (.s 42))], none⟩,
 ⟨(some 44), .call 42 [(.s 43), (.c .nl)], none⟩,
 ⟨none, .store 2 (.s 2) (.s 44), none⟩,
 ⟨(some 3), .mov (.c (.bool true)), none⟩] [42, 43, 44])
 .ret)
 (.seq (.reg [⟨(some 46), .mov (.s 0), none⟩,
 ⟨(some 47), .bin .eql (.s 46) (.c (.int .i64 69)), none⟩,
 ⟨(some 48), .mov (.s 47), none⟩,
 ⟨(some 49), .mov (.s 0), (some (48, false))⟩,
 ⟨(some 50), .bin .eql (.s 49) (.c (.int .i64 80)), (some (48, false))⟩,
 ⟨(some 51), .pick (.s 48) (.c (.bool true)) (.s 50), none⟩,
 ⟨(some 45), .mov (.s 51), none⟩] [46, 47, 48, 49, 50, 51])
 (.cond (.s 45)
 (.seq (.reg [⟨(some 52), .mov (.s 8), none⟩,
 ⟨(some 53), .bsl 33 1 [[(.int .i64 0)]] [(0, (.c (.int .i64 1)))], none⟩,
 ⟨(some 54), .call 42 [(.s 52), (.s 53)], none⟩,
 ⟨none, .store 2 (.s 2) (.s 54), none⟩,
 ⟨(some 3), .mov (.c (.bool true)), none⟩] [52, 53, 54])
 .ret)
 (.seq (.reg [⟨(some 56), .mov (.s 0), none⟩,
 ⟨(some 57), .bin .gtr (.s 56) (.c (.int .i64 69)), none⟩,
 ⟨(some 58), .mov (.s 57), none⟩,
 ⟨(some 59), .mov (.s 0), (some (58, true))⟩,
 ⟨(some 60), .bin .leq (.s 59) (.c (.int .i64 79)), (some (58, true))⟩,
 ⟨(some 61), .pick (.s 58) (.s 60) (.c (.bool false)), none⟩,
 ⟨(some 62), .mov (.s 61), none⟩,
 ⟨(some 63), .mov (.s 0), (some (62, false))⟩,
 ⟨(some 64), .bin .gtr (.s 63) (.c (.int .i64 80)), (some (62, false))⟩,
 ⟨(some 65), .mov (.s 64), (some (62, false))⟩,
 ⟨(some 66), .mov (.s 0), (some (65, true))⟩,
 ⟨(some 67), .bin .leq (.s 66) (.c (.int .i64 90)), (some (65, true))⟩,
 ⟨(some 68), .pick (.s 65) (.s 67) (.c (.bool false)), (some (62, false))⟩,
 ⟨(some 69), .pick (.s 62) (.c (.bool true)) (.s 68), none⟩,
 ⟨(some 55), .mov (.s 69), none⟩] [56, 57, 58, 59, 60, 61, 62, 63, 64, 65, 66, 67, 68, 69])
 (.cond (.s 55)
 (.seq (.reg [⟨(some 70), .mov (.s 9), none⟩,
 ⟨(some 71), .bsl 33 1 [[(.int .i64 0)]] [(0, (.c (.int .i64 1)))], none⟩,
 ⟨(some 72), .call 42 [(.s 70), (.s 71)], none⟩,
 ⟨none, .store 2 (.s 2) (.s 72), none⟩,
 ⟨(some 3), .mov (.c (.bool true)), none⟩] [70, 71, 72])
 .ret)
 (.seq (.reg [⟨(some 74), .mov (.s 0), none⟩,
 ⟨(some 75), .bin .geq (.s 74) (.c (.int .i64 103)), none⟩,
 ⟨(some 76), .mov (.s 75), none⟩,
 ⟨(some 77), .mov (.s 0), (some (76, true))⟩,
 ⟨(some 78), .bin .leq (.s 77) (.c (.int .i64 105)), (some (76, true))⟩,
 ⟨(some 79), .pick (.s 76) (.s 78) (.c (.bool false)), none⟩,
 ⟨(some 80), .mov (.s 79), none⟩,
 ⟨(some 81), .mov (.s 0), (some (80, false))⟩,
 ⟨(some 82), .bin .geq (.s 81) (.c (.int .i64 121)), (some (80, false))⟩,
 ⟨(some 83), .mov (.s 82), (some (80, false))⟩,
 ⟨(some 84), .mov (.s 0), (some (83, true))⟩,
 ⟨(some 85), .bin .leq (.s 84) (.c (.int .i64 123)), (some (83, true))⟩,
 ⟨(some 86), .pick (.s 83) (.s 85) (.c (.bool false)), (some (80, false))⟩,
 ⟨(some 87), .pick (.s 80) (.c (.bool true)) (.s 86), none⟩,
 ⟨(some 88), .mov (.s 87), none⟩,
 ⟨(some 89), .mov (.s 6), (some (88, false))⟩,
 ⟨(some 90), .call 41 [(.s 89), (.c (.str [101, 120, 116, 101, 110, 100]))], (some (88, false))⟩,
 ⟨(some 91), .pick (.s 88) (.c (.bool true)) (.s 90), none⟩,
 ⟨(some 73), .mov (.s 91), none⟩] [74, 75, 76, 77, 78, 79, 80, 81, 82, 83, 84, 85, 86, 87, 88, 89, 90, 91])
 (.cond (.s 73)
 (.seq (.reg [⟨(some 92), .mov (.s 8), none⟩,
 ⟨(some 93), .mov (.s 7), none⟩,
 ⟨(some 94), .bsl 33 1 [[(.int .i64 0)]] [(0, (.s 93))], none⟩,
 ⟨(some 95), .call 42 [(.s 92), (.s 94)], none⟩,
 ⟨none, .store 2 (.s 2) (.s 95), none⟩,
 ⟨(some 3), .mov (.c (.bool true)), none⟩] [92, 93, 94, 95])
 .ret)
 (.seq (.reg [⟨(some 97), .mov (.s 0), none⟩,
 ⟨(some 98), .bin .geq (.s 97) (.c (.int .i64 106)), none⟩,
 ⟨(some 99), .mov (.s 98), none⟩,
 ⟨(some 100), .mov (.s 0), (some (99, true))⟩,
 ⟨(some 101), .bin .leq (.s 100) (.c (.int .i64 120)), (some (99, true))⟩,
 ⟨(some 102), .pick (.s 99) (.s 101) (.c (.bool false)), none⟩,
 ⟨(some 103), .mov (.s 102), none⟩,
 ⟨(some 104), .mov (.s 0), (some (103, false))⟩,
 ⟨(some 105), .bin .geq (.s 104) (.c (.int .i64 124)), (some (103, false))⟩,
 ⟨(some 106), .mov (.s 105), (some (103, false))⟩,
 ⟨(some 107), .mov (.s 0), (some (106, true))⟩,
 ⟨(some 108), .bin .leq (.s 107) (.c (.int .i64 138)), (some (106, true))⟩,
 ⟨(some 109), .pick (.s 106) (.s 108) (.c (.bool false)), (some (103, false))⟩,
 ⟨(some 110), .pick (.s 103) (.c (.bool true)) (.s 109), none⟩,
 ⟨(some 96), .mov (.s 110), none⟩] [97, 98, 99, 100, 101, 102, 103, 104, 105, 106, 107, 108, 109, 110])
 (.cond (.s 96)
 (.seq (.reg [⟨(some 111), .mov (.s 9), none⟩,
 ⟨(some 112), .mov (.s 7), none⟩,
 ⟨(some 113), .bsl 33 1 [[(.int .i64 0)]] [(0, (.s 112))], none⟩,
 ⟨(some 114), .call 42 [(.s 111), (.s 113)], none⟩,
 ⟨none, .store 2 (.s 2) (.s 114), none⟩,
 ⟨(some 3), .mov (.c (.bool true)), none⟩] [111, 112, 113, 114])
 .ret)
 .skip)))))))))))))
 (.seq (.reg [⟨(some 115), .build [.nl, .nl] [], none⟩,
 ⟨none, .store 2 (.s 2) (.s 115), none⟩,
 ⟨(some 3), .mov (.c (.bool false)), none⟩] [115])
 .ret)))))))⟩

theorem c_ref05_Sig : compF Tryd.prog 11 = some F_ref05_Sig := by kernel_rfl
abbrev n_ref05_Sig : FuncId := 11

def F_law05_types : IFun :=
⟨26, 2, [.tmp 4],
 (.seq (.reg [⟨(some 4), .mov (.c (.bool false)), none⟩] [])
 (.seq (.seq (.reg [⟨(some 6), .mov (.s 0), none⟩,
 ⟨(some 7), .len (.s 6), none⟩,
 ⟨(some 8), .mov (.s 1), none⟩,
 ⟨(some 9), .len (.s 8), none⟩,
 ⟨(some 10), .bin .neq (.s 7) (.s 9), none⟩] [6, 7, 8, 9])
 (.cond (.s 10)
 (.seq (.reg [⟨(some 4), .mov (.c (.bool false)), none⟩] [])
 .ret)
 .skip))
 (.seq (.seq (.reg [⟨(some 5), .mov (.c (.int .i64 0)), none⟩] [])
 (.block 0 (.loop (.seq (.seq (.reg [⟨(some 11), .mov (.s 5), none⟩,
 ⟨(some 12), .mov (.s 0), none⟩,
 ⟨(some 13), .len (.s 12), none⟩,
 ⟨(some 14), .bin .lss (.s 11) (.s 13), none⟩] [11, 12, 13])
 (.cond (.s 14)
 .skip
 (.exit 0)))
 (.seq (.block 1 (.seq (.seq (.draw [⟨⟨(some 17), .mov (.s 0), none⟩, []⟩,
 ⟨⟨(some 18), .mov (.s 5), none⟩, []⟩,
 ⟨⟨(some 19), .iadr 1 (.s 17) (.s 18), none⟩, [0, 1]⟩,
 ⟨⟨(some 20), .load none (.s 19), none⟩, [2, 0, 1]⟩,
 ⟨⟨(some 21), .mov (.s 1), none⟩, []⟩,
 ⟨⟨(some 22), .mov (.s 5), none⟩, []⟩,
 ⟨⟨(some 23), .iadr 1 (.s 21) (.s 22), none⟩, [4, 5]⟩,
 ⟨⟨(some 24), .load none (.s 23), none⟩, [6, 4, 5]⟩] [] [])
 (.reg [⟨(some 25), .bin .neq (.s 20) (.s 24), none⟩] [17, 18, 19, 20, 21, 22, 23, 24]))
 (.cond (.s 25)
 (.seq (.reg [⟨(some 4), .mov (.c (.bool false)), none⟩] [])
 .ret)
 .skip)))
 (.reg [⟨(some 15), .mov (.s 5), none⟩,
 ⟨(some 16), .bin .add (.s 15) (.c (.int .i64 1)), none⟩,
 ⟨(some 5), .mov (.s 16), none⟩] [15, 16]))))))
 (.seq (.reg [⟨(some 4), .mov (.c (.bool true)), none⟩] [])
 .ret))))⟩

theorem c_law05_types : compF Tryd.prog 12 = some F_law05_types := by kernel_rfl
abbrev n_law05_types : FuncId := 12

def F_law05_turn : IFun :=
⟨17, 1, [],
 (.seq (.reg [⟨(some 2), .mov (.c (.int .i64 0)), none⟩] [])
 (.block 0 (.loop (.seq (.seq (.reg [⟨(some 3), .mov (.s 2), none⟩,
 ⟨(some 4), .mov (.s 0), none⟩,
 ⟨(some 5), .len (.s 4), none⟩,
 ⟨(some 6), .bin .lss (.s 3) (.s 5), none⟩] [3, 4, 5])
 (.cond (.s 6)
 .skip
 (.exit 0)))
 (.seq (.block 1 (.reg [⟨(some 9), .mov (.s 0), none⟩,
 ⟨(some 10), .mov (.s 2), none⟩,
 ⟨(some 11), .mov (.s 0), none⟩,
 ⟨(some 12), .mov (.s 2), none⟩,
 ⟨(some 13), .iadr 1 (.s 11) (.s 12), none⟩,
 ⟨(some 14), .load none (.s 13), none⟩,
 ⟨(some 15), .bin .add (.s 14) (.c (.int .i64 50)), none⟩,
 ⟨(some 16), .iadr 1 (.s 9) (.s 10), none⟩,
 ⟨none, .store 1 (.s 16) (.s 15), none⟩] [9, 10, 11, 12, 13, 14, 15, 16]))
 (.reg [⟨(some 7), .mov (.s 2), none⟩,
 ⟨(some 8), .bin .add (.s 7) (.c (.int .i64 1)), none⟩,
 ⟨(some 2), .mov (.s 8), none⟩] [7, 8]))))))⟩

theorem c_law05_turn : compF Tryd.prog 13 = some F_law05_turn := by kernel_rfl
abbrev n_law05_turn : FuncId := 13

def F_law05_alive : IFun :=
⟨63, 0, [.tmp 0],
 (.seq (.reg [⟨(some 0), .mov (.c (.bool false)), none⟩] [])
 (.seq (.reg [⟨(some 6), .call 30 [(.c (.str [115, 101, 108, 101, 99, 116]))], none⟩,
 ⟨(some 5), .mov (.s 6), none⟩,
 ⟨(some 7), .ext (.s 5) 0, none⟩,
 ⟨(some 8), .ext (.s 5) 1, none⟩,
 ⟨(some 1), .mov (.s 7), none⟩,
 ⟨(some 2), .mov (.s 8), none⟩] [6, 5, 7, 8])
 (.seq (.reg [⟨(some 10), .call 10 [(.c (.int .i64 80))], none⟩,
 ⟨(some 9), .mov (.s 10), none⟩,
 ⟨(some 11), .ext (.s 9) 0, none⟩,
 ⟨(some 12), .ext (.s 9) 1, none⟩,
 ⟨(some 3), .new 25 [.nl, .nl], none⟩,
 ⟨none, .store 2 (.s 3) (.s 11), none⟩,
 ⟨(some 4), .mov (.s 12), none⟩] [10, 9, 11, 12])
 (.seq (.reg [⟨(some 13), .call 19 [(.c (.int .i64 44))], none⟩,
 ⟨(some 14), .bin .eql (.s 13) (.c (.str [105, 51, 50, 46, 108, 111, 97, 100, 56, 95, 115])), none⟩,
 ⟨(some 15), .mov (.s 14), none⟩,
 ⟨(some 16), .call 23 [(.c (.int .i64 44))], (some (15, true))⟩,
 ⟨(some 17), .bin .eql (.s 16) (.c (.int .i64 1)), (some (15, true))⟩,
 ⟨(some 18), .pick (.s 15) (.s 17) (.c (.bool false)), none⟩,
 ⟨(some 19), .mov (.s 18), none⟩,
 ⟨(some 20), .mov (.s 1), (some (19, true))⟩,
 ⟨(some 21), .bin .eql (.s 20) (.c (.int .i64 27)), (some (19, true))⟩,
 ⟨(some 22), .pick (.s 19) (.s 21) (.c (.bool false)), none⟩,
 ⟨(some 23), .mov (.s 22), none⟩,
 ⟨(some 24), .mov (.s 2), (some (23, true))⟩,
 ⟨(some 25), .pick (.s 23) (.s 24) (.c (.bool false)), none⟩,
 ⟨(some 26), .mov (.s 25), none⟩,
 ⟨(some 27), .mov (.s 4), (some (26, true))⟩,
 ⟨(some 28), .pick (.s 26) (.s 27) (.c (.bool false)), none⟩,
 ⟨(some 29), .mov (.s 28), none⟩,
 ⟨(some 30), .fadr 0 (.s 3), (some (29, true))⟩,
 ⟨(some 31), .load none (.s 30), (some (29, true))⟩,
 ⟨(some 32), .len (.s 31), (some (29, true))⟩,
 ⟨(some 33), .bin .eql (.s 32) (.c (.int .i64 1)), (some (29, true))⟩,
 ⟨(some 34), .pick (.s 29) (.s 33) (.c (.bool false)), none⟩,
 ⟨(some 35), .mov (.s 34), none⟩,
 ⟨(some 36), .fadr 0 (.s 3), (some (35, true))⟩,
 ⟨(some 37), .load none (.s 36), (some (35, true))⟩,
 ⟨(some 38), .iadr 1 (.s 37) (.c (.int .i64 0)), (some (35, true))⟩,
 ⟨(some 39), .load none (.s 38), (some (35, true))⟩,
 ⟨(some 40), .bin .eql (.s 39) (.c (.int .i64 2)), (some (35, true))⟩,
 ⟨(some 41), .pick (.s 35) (.s 40) (.c (.bool false)), none⟩,
 ⟨(some 42), .mov (.s 41), none⟩,
 ⟨(some 43), .fadr 1 (.s 3), (some (42, true))⟩,
 ⟨(some 44), .load none (.s 43), (some (42, true))⟩,
 ⟨(some 45), .len (.s 44), (some (42, true))⟩,
 ⟨(some 46), .bin .eql (.s 45) (.c (.int .i64 1)), (some (42, true))⟩,
 ⟨(some 47), .pick (.s 42) (.s 46) (.c (.bool false)), none⟩,
 ⟨(some 48), .mov (.s 47), none⟩,
 ⟨(some 49), .fadr 1 (.s 3), (some (48, true))⟩,
 ⟨(some 50), .load none (.s 49), (some (48, true))⟩,
 ⟨(some 51), .iadr 1 (.s 50) (.c (.int .i64 0)), (some (48, true))⟩,
 ⟨(some 52), .load none (.s 51), (some (48, true))⟩,
 ⟨(some 53), .bin .eql (.s 52) (.c (.int .i64 1)), (some (48, true))⟩,
 ⟨(some 54), .pick (.s 48) (.s 53) (.c (.bool false)), none⟩,
 ⟨(some 55), .mov (.s 54), none⟩,
 ⟨(some 56), .build [(.int .i64 0), (.int .i64 0), (.int .i64 0), (.int .u64 0), (.int .i64 0), (.int .i64 0), (.int .i64 0), .nl, .nl] [(0, 1, (.c (.int .i64 1)))], (some (55, true))⟩,
 ⟨(some 57), .call 15 [(.s 56)], (some (55, true))⟩,
 ⟨(some 58), .pick (.s 55) (.s 57) (.c (.bool false)), none⟩,
 ⟨(some 59), .mov (.s 58), none⟩,
 ⟨(some 60), .call 27 [(.c (.int .i64 26))], (some (59, true))⟩,
 ⟨(some 61), .bin .eql (.s 60) (.c (.int .i64 1)), (some (59, true))⟩,
 ⟨(some 62), .pick (.s 59) (.s 61) (.c (.bool false)), none⟩,
 ⟨(some 0), .mov (.s 62), none⟩] [13, 14, 15, 16, 17, 18, 19, 20, 21, 22, 23, 24, 25, 26, 27, 28, 29, 30, 31, 32, 33, 34, 35, 36, 37, 38, 39, 40, 41, 42, 43, 44, 45, 46, 47, 48, 49, 50, 51, 52, 53, 54, 55, 56, 57, 58, 59, 60, 61, 62])
 .ret))))⟩

theorem c_law05_alive : compF Tryd.prog 14 = some F_law05_alive := by kernel_rfl
abbrev n_law05_alive : FuncId := 14

def F_opcode_Plain : IFun :=
⟨143, 1, [.tmp 2],
 (.seq (.reg [⟨(some 1), .box 38 9 (.s 0), none⟩,
 ⟨(some 2), .mov (.c (.bool false)), none⟩] [])
 (.seq (.reg [⟨(some 9), .fadr 0 (.s 1), none⟩,
 ⟨(some 10), .load none (.s 9), none⟩,
 ⟨(some 11), .call 21 [(.s 10)], none⟩,
 ⟨(some 3), .mov (.s 11), none⟩] [9, 10, 11])
 (.seq (.reg [⟨(some 13), .mov (.s 3), none⟩,
 ⟨(some 14), .call 43 [(.s 13)], none⟩,
 ⟨(some 12), .mov (.s 14), none⟩,
 ⟨(some 15), .ext (.s 12) 0, none⟩,
 ⟨(some 16), .ext (.s 12) 1, none⟩,
 ⟨(some 17), .ext (.s 12) 2, none⟩,
 ⟨(some 4), .mov (.s 15), none⟩,
 ⟨(some 5), .mov (.s 16), none⟩,
 ⟨(some 6), .mov (.s 17), none⟩] [13, 14, 12, 15, 16, 17])
 (.seq (.seq (.reg [⟨(some 18), .fadr 0 (.s 1), none⟩,
 ⟨(some 19), .load none (.s 18), none⟩,
 ⟨(some 20), .call 17 [(.s 19)], none⟩,
 ⟨(some 21), .un .not (.s 20), none⟩,
 ⟨(some 22), .mov (.s 21), none⟩,
 ⟨(some 23), .mov (.s 4), (some (22, false))⟩,
 ⟨(some 24), .un .not (.s 23), (some (22, false))⟩,
 ⟨(some 25), .mov (.s 24), (some (22, false))⟩,
 ⟨(some 26), .fadr 1 (.s 1), (some (25, true))⟩,
 ⟨(some 27), .load none (.s 26), (some (25, true))⟩,
 ⟨(some 28), .bin .neq (.s 27) (.c (.int .i64 0)), (some (25, true))⟩,
 ⟨(some 29), .pick (.s 25) (.s 28) (.c (.bool false)), (some (22, false))⟩,
 ⟨(some 30), .pick (.s 22) (.c (.bool true)) (.s 29), none⟩,
 ⟨(some 31), .mov (.s 30), none⟩,
 ⟨(some 32), .mov (.s 5), (some (31, false))⟩,
 ⟨(some 33), .un .not (.s 32), (some (31, false))⟩,
 ⟨(some 34), .mov (.s 33), (some (31, false))⟩,
 ⟨(some 35), .fadr 2 (.s 1), (some (34, true))⟩,
 ⟨(some 36), .load none (.s 35), (some (34, true))⟩,
 ⟨(some 37), .bin .neq (.s 36) (.c (.int .i64 0)), (some (34, true))⟩,
 ⟨(some 38), .pick (.s 34) (.s 37) (.c (.bool false)), (some (31, false))⟩,
 ⟨(some 39), .pick (.s 31) (.c (.bool true)) (.s 38), none⟩,
 ⟨(some 40), .mov (.s 39), none⟩,
 ⟨(some 41), .mov (.s 6), (some (40, false))⟩,
 ⟨(some 42), .un .not (.s 41), (some (40, false))⟩,
 ⟨(some 43), .mov (.s 42), (some (40, false))⟩,
 ⟨(some 44), .fadr 3 (.s 1), (some (43, true))⟩,
 ⟨(some 45), .load none (.s 44), (some (43, true))⟩,
 ⟨(some 46), .bin .neq (.s 45) (.c (.int .u64 0)), (some (43, true))⟩,
 ⟨(some 47), .pick (.s 43) (.s 46) (.c (.bool false)), (some (40, false))⟩,
 ⟨(some 48), .pick (.s 40) (.c (.bool true)) (.s 47), none⟩,
 ⟨(some 49), .mov (.s 48), none⟩,
 ⟨(some 50), .fadr 1 (.s 1), (some (49, false))⟩,
 ⟨(some 51), .load none (.s 50), (some (49, false))⟩,
 ⟨(some 52), .call 44 [(.s 51)], (some (49, false))⟩,
 ⟨(some 53), .un .not (.s 52), (some (49, false))⟩,
 ⟨(some 54), .pick (.s 49) (.c (.bool true)) (.s 53), none⟩,
 ⟨(some 55), .mov (.s 54), none⟩,
 ⟨(some 56), .fadr 2 (.s 1), (some (55, false))⟩,
 ⟨(some 57), .load none (.s 56), (some (55, false))⟩,
 ⟨(some 58), .call 44 [(.s 57)], (some (55, false))⟩,
 ⟨(some 59), .un .not (.s 58), (some (55, false))⟩,
 ⟨(some 60), .pick (.s 55) (.c (.bool true)) (.s 59), none⟩] [18, 19, 20, 21, 22, 23, 24, 25, 26, 27, 28, 29, 30, 31, 32, 33, 34, 35, 36, 37, 38, 39, 40, 41, 42, 43, 44, 45, 46, 47, 48, 49, 50, 51, 52, 53, 54, 55, 56, 57, 58, 59])
 (.cond (.s 60)
 (.seq (.reg [⟨(some 2), .mov (.c (.bool false)), none⟩] [])
 .ret)
 .skip))
 (.seq (.seq (.reg [⟨(some 61), .mov (.s 3), none⟩,
 ⟨(some 62), .bin .neq (.s 61) (.c (.int .i64 19)), none⟩,
 ⟨(some 63), .mov (.s 62), none⟩,
 ⟨(some 64), .fadr 3 (.s 1), (some (63, true))⟩,
 ⟨(some 65), .load none (.s 64), (some (63, true))⟩,
 ⟨(some 66), .bin .geq (.s 65) (.c (.int .u64 4294967296)), (some (63, true))⟩,
 ⟨(some 67), .pick (.s 63) (.s 66) (.c (.bool false)), none⟩,
 ⟨(some 68), .mov (.s 67), none⟩,
 ⟨(some 69), .mov (.s 3), (some (68, false))⟩,
 ⟨(some 70), .bin .neq (.s 69) (.c (.int .i64 1)), (some (68, false))⟩,
 ⟨(some 71), .mov (.s 70), (some (68, false))⟩,
 ⟨(some 72), .fadr 4 (.s 1), (some (71, true))⟩,
 ⟨(some 73), .load (some 3) (.s 72), (some (71, true))⟩,
 ⟨(some 74), .build [(.int .i64 0), (.int .i64 0), (.int .i64 0)] [], (some (71, true))⟩,
 ⟨(some 75), .sbin .neq [.i, .i, .i] (.s 73) (.s 74), (some (71, true))⟩,
 ⟨(some 76), .pick (.s 71) (.s 75) (.c (.bool false)), (some (68, false))⟩,
 ⟨(some 77), .pick (.s 68) (.c (.bool true)) (.s 76), none⟩,
 ⟨(some 78), .mov (.s 77), none⟩,
 ⟨(some 79), .mov (.s 3), (some (78, false))⟩,
 ⟨(some 80), .bin .neq (.s 79) (.c (.int .i64 6)), (some (78, false))⟩,
 ⟨(some 81), .mov (.s 80), (some (78, false))⟩,
 ⟨(some 82), .fadr 7 (.s 1), (some (81, true))⟩,
 ⟨(some 83), .load none (.s 82), (some (81, true))⟩,
 ⟨(some 84), .len (.s 83), (some (81, true))⟩,
 ⟨(some 85), .bin .gtr (.s 84) (.c (.int .i64 0)), (some (81, true))⟩,
 ⟨(some 86), .pick (.s 81) (.s 85) (.c (.bool false)), (some (78, false))⟩,
 ⟨(some 87), .pick (.s 78) (.c (.bool true)) (.s 86), none⟩,
 ⟨(some 88), .mov (.s 87), none⟩,
 ⟨(some 89), .mov (.s 3), (some (88, false))⟩,
 ⟨(some 90), .bin .neq (.s 89) (.c (.int .i64 3)), (some (88, false))⟩,
 ⟨(some 91), .mov (.s 90), (some (88, false))⟩,
 ⟨(some 92), .fadr 8 (.s 1), (some (91, true))⟩,
 ⟨(some 93), .load none (.s 92), (some (91, true))⟩,
 ⟨(some 94), .len (.s 93), (some (91, true))⟩,
 ⟨(some 95), .bin .gtr (.s 94) (.c (.int .i64 0)), (some (91, true))⟩,
 ⟨(some 96), .pick (.s 91) (.s 95) (.c (.bool false)), (some (88, false))⟩,
 ⟨(some 97), .pick (.s 88) (.c (.bool true)) (.s 96), none⟩] [61, 62, 63, 64, 65, 66, 67, 68, 69, 70, 71, 72, 73, 74, 75, 76, 77, 78, 79, 80, 81, 82, 83, 84, 85, 86, 87, 88, 89, 90, 91, 92, 93, 94, 95, 96])
 (.cond (.s 97)
 (.seq (.reg [⟨(some 2), .mov (.c (.bool false)), none⟩] [])
 .ret)
 .skip))
 (.seq (.seq (.reg [⟨(some 98), .mov (.s 3), none⟩] [])
 (.block 0 (.seq (.reg [⟨(some 100), .bin .eql (.s 98) (.c (.int .i64 1)), none⟩,
 ⟨(some 99), .mov (.s 100), none⟩] [100])
 (.cond (.s 99)
 (.seq (.reg [⟨(some 101), .fadr 4 (.s 1), none⟩,
 ⟨(some 102), .load (some 3) (.s 101), none⟩,
 ⟨(some 103), .call 45 [(.s 102)], none⟩,
 ⟨(some 2), .mov (.s 103), none⟩] [101, 102, 103])
 .ret)
 (.seq (.reg [⟨(some 105), .bin .eql (.s 98) (.c (.int .i64 6)), none⟩,
 ⟨(some 104), .mov (.s 105), none⟩] [105])
 (.cond (.s 104)
 (.seq (.reg [⟨(some 106), .fadr 7 (.s 1), none⟩,
 ⟨(some 107), .load none (.s 106), none⟩,
 ⟨(some 108), .len (.s 107), none⟩,
 ⟨(some 109), .bin .eql (.s 108) (.c (.int .i64 1)), none⟩,
 ⟨(some 110), .mov (.s 109), none⟩,
 ⟨(some 111), .fadr 7 (.s 1), (some (110, true))⟩,
 ⟨(some 112), .load none (.s 111), (some (110, true))⟩,
 ⟨(some 113), .iadr 1 (.s 112) (.c (.int .i64 0)), (some (110, true))⟩,
 ⟨(some 114), .load none (.s 113), (some (110, true))⟩,
 ⟨(some 115), .call 46 [(.s 114)], (some (110, true))⟩,
 ⟨(some 116), .pick (.s 110) (.s 115) (.c (.bool false)), none⟩,
 ⟨(some 2), .mov (.s 116), none⟩] [106, 107, 108, 109, 110, 111, 112, 113, 114, 115, 116])
 .ret)
 (.seq (.reg [⟨(some 118), .bin .eql (.s 98) (.c (.int .i64 17)), none⟩,
 ⟨(some 117), .mov (.s 118), none⟩] [118])
 (.cond (.s 117)
 (.seq (.reg [⟨(some 119), .fadr 1 (.s 1), none⟩,
 ⟨(some 120), .load none (.s 119), none⟩,
 ⟨(some 121), .bin .leq (.s 120) (.c (.int .i64 63)), none⟩,
 ⟨(some 2), .mov (.s 121), none⟩] [119, 120, 121])
 .ret)
 (.seq (.reg [⟨(some 123), .bin .eql (.s 98) (.c (.int .i64 20)), none⟩,
 ⟨(some 122), .mov (.s 123), none⟩] [123])
 (.cond (.s 122)
 (.seq (.reg [⟨(some 124), .fadr 1 (.s 1), none⟩,
 ⟨(some 125), .load none (.s 124), none⟩,
 ⟨(some 126), .bin .eql (.s 125) (.c (.int .i64 3)), none⟩,
 ⟨(some 127), .mov (.s 126), none⟩,
 ⟨(some 128), .fadr 1 (.s 1), (some (127, false))⟩,
 ⟨(some 129), .load none (.s 128), (some (127, false))⟩,
 ⟨(some 130), .bin .eql (.s 129) (.c (.int .i64 4)), (some (127, false))⟩,
 ⟨(some 131), .pick (.s 127) (.c (.bool true)) (.s 130), none⟩,
 ⟨(some 2), .mov (.s 131), none⟩] [124, 125, 126, 127, 128, 129, 130, 131])
 .ret)
 .skip))))))))))
 (.seq (.seq (.reg [⟨(some 132), .fadr 8 (.s 1), none⟩,
 ⟨(some 133), .load none (.s 132), none⟩,
 ⟨(some 134), .len (.s 133), none⟩,
 ⟨(some 135), .mov (.c (.int .i64 0)), none⟩] [132])
 (.block 1 (.loop (.seq (.reg [⟨(some 136), .bin .lss (.s 135) (.s 134), none⟩] [])
 (.seq (.cond (.s 136)
 .skip
 (.exit 1))
 (.seq (.block 2 (.seq (.reg [⟨(some 137), .iadr 1 (.s 133) (.s 135), none⟩,
 ⟨(some 138), .load none (.s 137), none⟩,
 ⟨(some 8), .mov (.s 138), none⟩] [137, 138])
 (.seq (.reg [⟨(some 139), .mov (.s 8), none⟩,
 ⟨(some 140), .call 44 [(.s 139)], none⟩,
 ⟨(some 141), .un .not (.s 140), none⟩] [139, 140])
 (.cond (.s 141)
 (.seq (.reg [⟨(some 2), .mov (.c (.bool false)), none⟩] [])
 .ret)
 .skip))))
 (.reg [⟨(some 142), .bin .add (.s 135) (.c (.int .i64 1)), none⟩,
 ⟨(some 135), .mov (.s 142), none⟩] [142])))))))
 (.seq (.reg [⟨(some 2), .mov (.c (.bool true)), none⟩] [])
 .ret))))))))⟩

theorem c_opcode_Plain : compF Tryd.prog 15 = some F_opcode_Plain := by kernel_rfl
abbrev n_opcode_Plain : FuncId := 15

def F_ref05_Plain : IFun :=
⟨243, 1, [.tmp 2],
 (.seq (.reg [⟨(some 1), .box 38 9 (.s 0), none⟩,
 ⟨(some 2), .mov (.c (.bool false)), none⟩] [])
 (.seq (.reg [⟨(some 4), .fadr 0 (.s 1), none⟩,
 ⟨(some 5), .load none (.s 4), none⟩,
 ⟨(some 6), .call 22 [(.s 5)], none⟩,
 ⟨(some 3), .mov (.s 6), none⟩] [4, 5, 6])
 (.seq (.seq (.reg [⟨(some 7), .fadr 0 (.s 1), none⟩,
 ⟨(some 8), .load none (.s 7), none⟩,
 ⟨(some 9), .call 18 [(.s 8)], none⟩,
 ⟨(some 10), .un .not (.s 9), none⟩,
 ⟨(some 11), .mov (.s 10), none⟩,
 ⟨(some 12), .mov (.s 3), (some (11, false))⟩,
 ⟨(some 13), .bin .neq (.s 12) (.c (.int .i64 1)), (some (11, false))⟩,
 ⟨(some 14), .mov (.s 13), (some (11, false))⟩,
 ⟨(some 15), .fadr 4 (.s 1), (some (14, true))⟩,
 ⟨(some 16), .load (some 3) (.s 15), (some (14, true))⟩,
 ⟨(some 17), .build [(.int .i64 0), (.int .i64 0), (.int .i64 0)] [], (some (14, true))⟩,
 ⟨(some 18), .sbin .neq [.i, .i, .i] (.s 16) (.s 17), (some (14, true))⟩,
 ⟨(some 19), .pick (.s 14) (.s 18) (.c (.bool false)), (some (11, false))⟩,
 ⟨(some 20), .pick (.s 11) (.c (.bool true)) (.s 19), none⟩,
 ⟨(some 21), .mov (.s 20), none⟩,
 ⟨(some 22), .mov (.s 3), (some (21, false))⟩,
 ⟨(some 23), .bin .neq (.s 22) (.c (.int .i64 3)), (some (21, false))⟩,
 ⟨(some 24), .mov (.s 23), (some (21, false))⟩,
 ⟨(some 25), .fadr 8 (.s 1), (some (24, true))⟩,
 ⟨(some 26), .load none (.s 25), (some (24, true))⟩,
 ⟨(some 27), .len (.s 26), (some (24, true))⟩,
 ⟨(some 28), .bin .gtr (.s 27) (.c (.int .i64 0)), (some (24, true))⟩,
 ⟨(some 29), .pick (.s 24) (.s 28) (.c (.bool false)), (some (21, false))⟩,
 ⟨(some 30), .pick (.s 21) (.c (.bool true)) (.s 29), none⟩,
 ⟨(some 31), .mov (.s 30), none⟩,
 ⟨(some 32), .mov (.s 3), (some (31, false))⟩,
 ⟨(some 33), .bin .neq (.s 32) (.c (.int .i64 6)), (some (31, false))⟩,
 ⟨(some 34), .mov (.s 33), (some (31, false))⟩,
 ⟨(some 35), .fadr 7 (.s 1), (some (34, true))⟩,
 ⟨(some 36), .load none (.s 35), (some (34, true))⟩,
 ⟨(some 37), .len (.s 36), (some (34, true))⟩,
 ⟨(some 38), .bin .gtr (.s 37) (.c (.int .i64 0)), (some (34, true))⟩,
 ⟨(some 39), .pick (.s 34) (.s 38) (.c (.bool false)), (some (31, false))⟩,
 ⟨(some 40), .pick (.s 31) (.c (.bool true)) (.s 39), none⟩] [7, 8, 9, 10, 11, 12, 13, 14, 15, 16, 17, 18, 19, 20, 21, 22, 23, 24, 25, 26, 27, 28, 29, 30, 31, 32, 33, 34, 35, 36, 37, 38, 39])
 (.cond (.s 40)
 (.seq (.reg [⟨(some 2), .mov (.c (.bool false)), none⟩] [])
 .ret)
 .skip))
 (.seq (.seq (.reg [⟨(some 41), .mov (.s 3), none⟩] [])
 (.block 0 (.seq (.reg [⟨(some 43), .bin .eql (.s 41) (.c (.int .i64 0)), none⟩,
 ⟨(some 42), .mov (.s 43), none⟩] [43])
 (.cond (.s 42)
 (.seq (.reg [⟨(some 44), .fadr 1 (.s 1), none⟩,
 ⟨(some 45), .load none (.s 44), none⟩,
 ⟨(some 46), .bin .eql (.s 45) (.c (.int .i64 0)), none⟩,
 ⟨(some 47), .mov (.s 46), none⟩,
 ⟨(some 48), .fadr 2 (.s 1), (some (47, true))⟩,
 ⟨(some 49), .load none (.s 48), (some (47, true))⟩,
 ⟨(some 50), .bin .eql (.s 49) (.c (.int .i64 0)), (some (47, true))⟩,
 ⟨(some 51), .pick (.s 47) (.s 50) (.c (.bool false)), none⟩,
 ⟨(some 52), .mov (.s 51), none⟩,
 ⟨(some 53), .fadr 3 (.s 1), (some (52, true))⟩,
 ⟨(some 54), .load none (.s 53), (some (52, true))⟩,
 ⟨(some 55), .bin .eql (.s 54) (.c (.int .u64 0)), (some (52, true))⟩,
 ⟨(some 56), .pick (.s 52) (.s 55) (.c (.bool false)), none⟩,
 ⟨(some 2), .mov (.s 56), none⟩] [44, 45, 46, 47, 48, 49, 50, 51, 52, 53, 54, 55, 56])
 .ret)
 (.seq (.reg [⟨(some 58), .bin .eql (.s 41) (.c (.int .i64 1)), none⟩,
 ⟨(some 57), .mov (.s 58), none⟩] [58])
 (.cond (.s 57)
 (.seq (.reg [⟨(some 59), .fadr 1 (.s 1), none⟩,
 ⟨(some 60), .load none (.s 59), none⟩,
 ⟨(some 61), .bin .eql (.s 60) (.c (.int .i64 0)), none⟩,
 ⟨(some 62), .mov (.s 61), none⟩,
 ⟨(some 63), .fadr 2 (.s 1), (some (62, true))⟩,
 ⟨(some 64), .load none (.s 63), (some (62, true))⟩,
 ⟨(some 65), .bin .eql (.s 64) (.c (.int .i64 0)), (some (62, true))⟩,
 ⟨(some 66), .pick (.s 62) (.s 65) (.c (.bool false)), none⟩,
 ⟨(some 67), .mov (.s 66), none⟩,
 ⟨(some 68), .fadr 3 (.s 1), (some (67, true))⟩,
 ⟨(some 69), .load none (.s 68), (some (67, true))⟩,
 ⟨(some 70), .bin .eql (.s 69) (.c (.int .u64 0)), (some (67, true))⟩,
 ⟨(some 71), .pick (.s 67) (.s 70) (.c (.bool false)), none⟩,
 ⟨(some 72), .mov (.s 71), none⟩,
 ⟨(some 73), .fadr 4 (.s 1), (some (72, true))⟩,
 ⟨(some 74), .load (some 3) (.s 73), (some (72, true))⟩,
 ⟨(some 75), .call 47 [(.s 74)], (some (72, true))⟩,
 ⟨(some 76), .pick (.s 72) (.s 75) (.c (.bool false)), none⟩,
 ⟨(some 2), .mov (.s 76), none⟩] [59, 60, 61, 62, 63, 64, 65, 66, 67, 68, 69, 70, 71, 72, 73, 74, 75, 76])
 .ret)
 (.seq (.reg [⟨(some 78), .bin .eql (.s 41) (.c (.int .i64 3)), none⟩,
 ⟨(some 77), .mov (.s 78), none⟩] [78])
 (.cond (.s 77)
 (.seq (.reg [⟨(some 79), .fadr 1 (.s 1), none⟩,
 ⟨(some 80), .load none (.s 79), none⟩,
 ⟨(some 81), .call 48 [(.s 80)], none⟩,
 ⟨(some 82), .mov (.s 81), none⟩,
 ⟨(some 83), .fadr 2 (.s 1), (some (82, true))⟩,
 ⟨(some 84), .load none (.s 83), (some (82, true))⟩,
 ⟨(some 85), .bin .eql (.s 84) (.c (.int .i64 0)), (some (82, true))⟩,
 ⟨(some 86), .pick (.s 82) (.s 85) (.c (.bool false)), none⟩,
 ⟨(some 87), .mov (.s 86), none⟩,
 ⟨(some 88), .fadr 3 (.s 1), (some (87, true))⟩,
 ⟨(some 89), .load none (.s 88), (some (87, true))⟩,
 ⟨(some 90), .bin .eql (.s 89) (.c (.int .u64 0)), (some (87, true))⟩,
 ⟨(some 91), .pick (.s 87) (.s 90) (.c (.bool false)), none⟩,
 ⟨(some 92), .mov (.s 91), none⟩,
 ⟨(some 93), .fadr 8 (.s 1), (some (92, true))⟩,
 ⟨(some 94), .load none (.s 93), (some (92, true))⟩,
 ⟨(some 95), .call 49 [(.s 94)], (some (92, true))⟩,
 ⟨(some 96), .pick (.s 92) (.s 95) (.c (.bool false)), none⟩,
 ⟨(some 2), .mov (.s 96), none⟩] [79, 80, 81, 82, 83, 84, 85, 86, 87, 88, 89, 90, 91, 92, 93, 94, 95, 96])
 .ret)
 (.seq (.reg [⟨(some 98), .bin .eql (.s 41) (.c (.int .i64 6)), none⟩,
 ⟨(some 97), .mov (.s 98), none⟩] [98])
 (.cond (.s 97)
 (.seq (.reg [⟨(some 99), .fadr 1 (.s 1), none⟩,
 ⟨(some 100), .load none (.s 99), none⟩,
 ⟨(some 101), .bin .eql (.s 100) (.c (.int .i64 0)), none⟩,
 ⟨(some 102), .mov (.s 101), none⟩,
 ⟨(some 103), .fadr 2 (.s 1), (some (102, true))⟩,
 ⟨(some 104), .load none (.s 103), (some (102, true))⟩,
 ⟨(some 105), .bin .eql (.s 104) (.c (.int .i64 0)), (some (102, true))⟩,
 ⟨(some 106), .pick (.s 102) (.s 105) (.c (.bool false)), none⟩,
 ⟨(some 107), .mov (.s 106), none⟩,
 ⟨(some 108), .fadr 3 (.s 1), (some (107, true))⟩,
 ⟨(some 109), .load none (.s 108), (some (107, true))⟩,
 ⟨(some 110), .bin .eql (.s 109) (.c (.int .u64 0)), (some (107, true))⟩,
 ⟨(some 111), .pick (.s 107) (.s 110) (.c (.bool false)), none⟩,
 ⟨(some 112), .mov (.s 111), none⟩,
 ⟨(some 113), .fadr 7 (.s 1), (some (112, true))⟩,
 ⟨(some 114), .load none (.s 113), (some (112, true))⟩,
 ⟨(some 115), .len (.s 114), (some (112, true))⟩,
 ⟨(some 116), .bin .eql (.s 115) (.c (.int .i64 1)), (some (112, true))⟩,
 ⟨(some 117), .pick (.s 112) (.s 116) (.c (.bool false)), none⟩,
 ⟨(some 118), .mov (.s 117), none⟩,
 ⟨(some 119), .fadr 7 (.s 1), (some (118, true))⟩,
 ⟨(some 120), .load none (.s 119), (some (118, true))⟩,
 ⟨(some 121), .iadr 1 (.s 120) (.c (.int .i64 0)), (some (118, true))⟩,
 ⟨(some 122), .load none (.s 121), (some (118, true))⟩,
 ⟨(some 123), .call 50 [(.s 122)], (some (118, true))⟩,
 ⟨(some 124), .pick (.s 118) (.s 123) (.c (.bool false)), none⟩,
 ⟨(some 2), .mov (.s 124), none⟩] [99, 100, 101, 102, 103, 104, 105, 106, 107, 108, 109, 110, 111, 112, 113, 114, 115, 116, 117, 118, 119, 120, 121, 122, 123, 124])
 .ret)
 (.seq (.seq (.reg [⟨(some 126), .bin .eql (.s 41) (.c (.int .i64 2)), none⟩,
 ⟨(some 125), .mov (.s 126), none⟩] [126])
 (.cond (.s 125)
 .skip
 (.seq (.reg [⟨(some 127), .bin .eql (.s 41) (.c (.int .i64 4)), none⟩,
 ⟨(some 125), .mov (.s 127), none⟩] [127])
 (.cond (.s 125)
 .skip
 (.seq (.reg [⟨(some 128), .bin .eql (.s 41) (.c (.int .i64 7)), none⟩,
 ⟨(some 125), .mov (.s 128), none⟩] [128])
 (.cond (.s 125)
 .skip
 (.seq (.reg [⟨(some 129), .bin .eql (.s 41) (.c (.int .i64 8)), none⟩,
 ⟨(some 125), .mov (.s 129), none⟩] [129])
 (.cond (.s 125)
 .skip
 (.seq (.reg [⟨(some 130), .bin .eql (.s 41) (.c (.int .i64 9)), none⟩,
 ⟨(some 125), .mov (.s 130), none⟩] [130])
 (.cond (.s 125)
 .skip
 (.seq (.reg [⟨(some 131), .bin .eql (.s 41) (.c (.int .i64 12)), none⟩,
 ⟨(some 125), .mov (.s 131), none⟩] [131])
 (.cond (.s 125)
 .skip
 (.reg [⟨(some 132), .bin .eql (.s 41) (.c (.int .i64 16)), none⟩,
 ⟨(some 125), .mov (.s 132), none⟩] [132])))))))))))))
 (.cond (.s 125)
 (.seq (.reg [⟨(some 133), .fadr 1 (.s 1), none⟩,
 ⟨(some 134), .load none (.s 133), none⟩,
 ⟨(some 135), .call 48 [(.s 134)], none⟩,
 ⟨(some 136), .mov (.s 135), none⟩,
 ⟨(some 137), .fadr 2 (.s 1), (some (136, true))⟩,
 ⟨(some 138), .load none (.s 137), (some (136, true))⟩,
 ⟨(some 139), .bin .eql (.s 138) (.c (.int .i64 0)), (some (136, true))⟩,
 ⟨(some 140), .pick (.s 136) (.s 139) (.c (.bool false)), none⟩,
 ⟨(some 141), .mov (.s 140), none⟩,
 ⟨(some 142), .fadr 3 (.s 1), (some (141, true))⟩,
 ⟨(some 143), .load none (.s 142), (some (141, true))⟩,
 ⟨(some 144), .bin .eql (.s 143) (.c (.int .u64 0)), (some (141, true))⟩,
 ⟨(some 145), .pick (.s 141) (.s 144) (.c (.bool false)), none⟩,
 ⟨(some 2), .mov (.s 145), none⟩] [133, 134, 135, 136, 137, 138, 139, 140, 141, 142, 143, 144, 145])
 .ret)
 (.seq (.seq (.reg [⟨(some 147), .bin .eql (.s 41) (.c (.int .i64 5)), none⟩,
 ⟨(some 146), .mov (.s 147), none⟩] [147])
 (.cond (.s 146)
 .skip
 (.seq (.reg [⟨(some 148), .bin .eql (.s 41) (.c (.int .i64 10)), none⟩,
 ⟨(some 146), .mov (.s 148), none⟩] [148])
 (.cond (.s 146)
 .skip
 (.seq (.reg [⟨(some 149), .bin .eql (.s 41) (.c (.int .i64 11)), none⟩,
 ⟨(some 146), .mov (.s 149), none⟩] [149])
 (.cond (.s 146)
 .skip
 (.seq (.reg [⟨(some 150), .bin .eql (.s 41) (.c (.int .i64 14)), none⟩,
 ⟨(some 146), .mov (.s 150), none⟩] [150])
 (.cond (.s 146)
 .skip
 (.reg [⟨(some 151), .bin .eql (.s 41) (.c (.int .i64 15)), none⟩,
 ⟨(some 146), .mov (.s 151), none⟩] [151])))))))))
 (.cond (.s 146)
 (.seq (.reg [⟨(some 152), .fadr 1 (.s 1), none⟩,
 ⟨(some 153), .load none (.s 152), none⟩,
 ⟨(some 154), .call 48 [(.s 153)], none⟩,
 ⟨(some 155), .mov (.s 154), none⟩,
 ⟨(some 156), .fadr 2 (.s 1), (some (155, true))⟩,
 ⟨(some 157), .load none (.s 156), (some (155, true))⟩,
 ⟨(some 158), .call 48 [(.s 157)], (some (155, true))⟩,
 ⟨(some 159), .pick (.s 155) (.s 158) (.c (.bool false)), none⟩,
 ⟨(some 160), .mov (.s 159), none⟩,
 ⟨(some 161), .fadr 3 (.s 1), (some (160, true))⟩,
 ⟨(some 162), .load none (.s 161), (some (160, true))⟩,
 ⟨(some 163), .bin .eql (.s 162) (.c (.int .u64 0)), (some (160, true))⟩,
 ⟨(some 164), .pick (.s 160) (.s 163) (.c (.bool false)), none⟩,
 ⟨(some 2), .mov (.s 164), none⟩] [152, 153, 154, 155, 156, 157, 158, 159, 160, 161, 162, 163, 164])
 .ret)
 (.seq (.reg [⟨(some 166), .bin .eql (.s 41) (.c (.int .i64 13)), none⟩,
 ⟨(some 165), .mov (.s 166), none⟩] [166])
 (.cond (.s 165)
 (.seq (.reg [⟨(some 167), .fadr 1 (.s 1), none⟩,
 ⟨(some 168), .load none (.s 167), none⟩,
 ⟨(some 169), .bin .eql (.s 168) (.c (.int .i64 0)), none⟩,
 ⟨(some 170), .mov (.s 169), none⟩,
 ⟨(some 171), .fadr 2 (.s 1), (some (170, true))⟩,
 ⟨(some 172), .load none (.s 171), (some (170, true))⟩,
 ⟨(some 173), .call 48 [(.s 172)], (some (170, true))⟩,
 ⟨(some 174), .pick (.s 170) (.s 173) (.c (.bool false)), none⟩,
 ⟨(some 175), .mov (.s 174), none⟩,
 ⟨(some 176), .fadr 3 (.s 1), (some (175, true))⟩,
 ⟨(some 177), .load none (.s 176), (some (175, true))⟩,
 ⟨(some 178), .bin .eql (.s 177) (.c (.int .u64 0)), (some (175, true))⟩,
 ⟨(some 179), .pick (.s 175) (.s 178) (.c (.bool false)), none⟩,
 ⟨(some 2), .mov (.s 179), none⟩] [167, 168, 169, 170, 171, 172, 173, 174, 175, 176, 177, 178, 179])
 .ret)
 (.seq (.reg [⟨(some 181), .bin .eql (.s 41) (.c (.int .i64 17)), none⟩,
 ⟨(some 180), .mov (.s 181), none⟩] [181])
 (.cond (.s 180)
 (.seq (.reg [⟨(some 182), .fadr 1 (.s 1), none⟩,
 ⟨(some 183), .load none (.s 182), none⟩,
 ⟨(some 184), .bin .geq (.s 183) (.c (.int .i64 0)), none⟩,
 ⟨(some 185), .mov (.s 184), none⟩,
 ⟨(some 186), .fadr 1 (.s 1), (some (185, true))⟩,
 ⟨(some 187), .load none (.s 186), (some (185, true))⟩,
 ⟨(some 188), .bin .leq (.s 187) (.c (.int .i64 63)), (some (185, true))⟩,
 ⟨(some 189), .pick (.s 185) (.s 188) (.c (.bool false)), none⟩,
 ⟨(some 190), .mov (.s 189), none⟩,
 ⟨(some 191), .fadr 2 (.s 1), (some (190, true))⟩,
 ⟨(some 192), .load none (.s 191), (some (190, true))⟩,
 ⟨(some 193), .call 48 [(.s 192)], (some (190, true))⟩,
 ⟨(some 194), .pick (.s 190) (.s 193) (.c (.bool false)), none⟩,
 ⟨(some 195), .mov (.s 194), none⟩,
 ⟨(some 196), .fadr 3 (.s 1), (some (195, true))⟩,
 ⟨(some 197), .load none (.s 196), (some (195, true))⟩,
 ⟨(some 198), .bin .lss (.s 197) (.c (.int .u64 4294967296)), (some (195, true))⟩,
 ⟨(some 199), .pick (.s 195) (.s 198) (.c (.bool false)), none⟩,
 ⟨(some 2), .mov (.s 199), none⟩] [182, 183, 184, 185, 186, 187, 188, 189, 190, 191, 192, 193, 194, 195, 196, 197, 198, 199])
 .ret)
 (.seq (.reg [⟨(some 201), .bin .eql (.s 41) (.c (.int .i64 18)), none⟩,
 ⟨(some 200), .mov (.s 201), none⟩] [201])
 (.cond (.s 200)
 (.seq (.reg [⟨(some 202), .fadr 1 (.s 1), none⟩,
 ⟨(some 203), .load none (.s 202), none⟩,
 ⟨(some 204), .bin .eql (.s 203) (.c (.int .i64 0)), none⟩,
 ⟨(some 205), .mov (.s 204), none⟩,
 ⟨(some 206), .fadr 2 (.s 1), (some (205, true))⟩,
 ⟨(some 207), .load none (.s 206), (some (205, true))⟩,
 ⟨(some 208), .bin .eql (.s 207) (.c (.int .i64 0)), (some (205, true))⟩,
 ⟨(some 209), .pick (.s 205) (.s 208) (.c (.bool false)), none⟩,
 ⟨(some 210), .mov (.s 209), none⟩,
 ⟨(some 211), .fadr 3 (.s 1), (some (210, true))⟩,
 ⟨(some 212), .load none (.s 211), (some (210, true))⟩,
 ⟨(some 213), .bin .lss (.s 212) (.c (.int .u64 4294967296)), (some (210, true))⟩,
 ⟨(some 214), .pick (.s 210) (.s 213) (.c (.bool false)), none⟩,
 ⟨(some 2), .mov (.s 214), none⟩] [202, 203, 204, 205, 206, 207, 208, 209, 210, 211, 212, 213, 214])
 .ret)
 (.seq (.reg [⟨(some 216), .bin .eql (.s 41) (.c (.int .i64 19)), none⟩,
 ⟨(some 215), .mov (.s 216), none⟩] [216])
 (.cond (.s 215)
 (.seq (.reg [⟨(some 217), .fadr 1 (.s 1), none⟩,
 ⟨(some 218), .load none (.s 217), none⟩,
 ⟨(some 219), .bin .eql (.s 218) (.c (.int .i64 0)), none⟩,
 ⟨(some 220), .mov (.s 219), none⟩,
 ⟨(some 221), .fadr 2 (.s 1), (some (220, true))⟩,
 ⟨(some 222), .load none (.s 221), (some (220, true))⟩,
 ⟨(some 223), .bin .eql (.s 222) (.c (.int .i64 0)), (some (220, true))⟩,
 ⟨(some 224), .pick (.s 220) (.s 223) (.c (.bool false)), none⟩,
 ⟨(some 2), .mov (.s 224), none⟩] [217, 218, 219, 220, 221, 222, 223, 224])
 .ret)
 .skip))))))))))))))))))))))
 (.seq (.reg [⟨(some 225), .fadr 1 (.s 1), none⟩,
 ⟨(some 226), .load none (.s 225), none⟩,
 ⟨(some 227), .bin .eql (.s 226) (.c (.int .i64 3)), none⟩,
 ⟨(some 228), .mov (.s 227), none⟩,
 ⟨(some 229), .fadr 1 (.s 1), (some (228, false))⟩,
 ⟨(some 230), .load none (.s 229), (some (228, false))⟩,
 ⟨(some 231), .bin .eql (.s 230) (.c (.int .i64 4)), (some (228, false))⟩,
 ⟨(some 232), .pick (.s 228) (.c (.bool true)) (.s 231), none⟩,
 ⟨(some 233), .mov (.s 232), none⟩,
 ⟨(some 234), .fadr 2 (.s 1), (some (233, true))⟩,
 ⟨(some 235), .load none (.s 234), (some (233, true))⟩,
 ⟨(some 236), .bin .eql (.s 235) (.c (.int .i64 0)), (some (233, true))⟩,
 ⟨(some 237), .pick (.s 233) (.s 236) (.c (.bool false)), none⟩,
 ⟨(some 238), .mov (.s 237), none⟩,
 ⟨(some 239), .fadr 3 (.s 1), (some (238, true))⟩,
 ⟨(some 240), .load none (.s 239), (some (238, true))⟩,
 ⟨(some 241), .bin .eql (.s 240) (.c (.int .u64 0)), (some (238, true))⟩,
 ⟨(some 242), .pick (.s 238) (.s 241) (.c (.bool false)), none⟩,
 ⟨(some 2), .mov (.s 242), none⟩] [225, 226, 227, 228, 229, 230, 231, 232, 233, 234, 235, 236, 237, 238, 239, 240, 241, 242])
 .ret)))))⟩

theorem c_ref05_Plain : compF Tryd.prog 16 = some F_ref05_Plain := by kernel_rfl
abbrev n_ref05_Plain : FuncId := 16

def F_opcode_Known : IFun :=
⟨6, 1, [.tmp 2],
 (.seq (.reg [⟨(some 2), .mov (.c (.bool false)), none⟩] [])
 (.seq (.reg [⟨(some 3), .mov (.s 0), none⟩,
 ⟨(some 4), .call 19 [(.s 3)], none⟩,
 ⟨(some 5), .bin .neq (.s 4) (.c (.str [])), none⟩,
 ⟨(some 2), .mov (.s 5), none⟩] [3, 4, 5])
 .ret))⟩

theorem c_opcode_Known : compF Tryd.prog 17 = some F_opcode_Known := by kernel_rfl
abbrev n_opcode_Known : FuncId := 17

def F_ref05_Known : IFun :=
⟨11, 1, [.tmp 2],
 (.seq (.reg [⟨(some 2), .mov (.c (.bool false)), none⟩] [])
 (.seq (.reg [⟨(some 6), .mov (.s 0), none⟩,
 ⟨(some 7), .call 51 [(.s 6)], none⟩,
 ⟨(some 5), .mov (.s 7), none⟩,
 ⟨(some 8), .ext (.s 5) 0, none⟩,
 ⟨(some 9), .ext (.s 5) 1, none⟩,
 ⟨(some 3), .new 66 [(.int .i64 0), (.str []), (.int .i64 0)], none⟩,
 ⟨none, .store 3 (.s 3) (.s 8), none⟩,
 ⟨(some 4), .mov (.s 9), none⟩] [6, 7, 5, 8, 9, 3])
 (.seq (.reg [⟨(some 10), .mov (.s 4), none⟩,
 ⟨(some 2), .mov (.s 10), none⟩] [10])
 .ret)))⟩

theorem c_ref05_Known : compF Tryd.prog 18 = some F_ref05_Known := by kernel_rfl
abbrev n_ref05_Known : FuncId := 18

def F_ref05_Name : IFun :=
⟨12, 1, [.tmp 2],
 (.seq (.reg [⟨(some 2), .mov (.c (.str [])), none⟩] [])
 (.seq (.reg [⟨(some 6), .mov (.s 0), none⟩,
 ⟨(some 7), .call 51 [(.s 6)], none⟩,
 ⟨(some 5), .mov (.s 7), none⟩,
 ⟨(some 8), .ext (.s 5) 0, none⟩,
 ⟨(some 9), .ext (.s 5) 1, none⟩,
 ⟨(some 3), .new 66 [(.int .i64 0), (.str []), (.int .i64 0)], none⟩,
 ⟨none, .store 3 (.s 3) (.s 8), none⟩,
 ⟨(some 4), .mov (.s 9), none⟩] [6, 7, 5, 8, 9, 4])
 (.seq (.reg [⟨(some 10), .fadr 1 (.s 3), none⟩,
 ⟨(some 11), .load none (.s 10), none⟩,
 ⟨(some 2), .mov (.s 11), none⟩] [10, 11])
 .ret)))⟩

theorem c_ref05_Name : compF Tryd.prog 20 = some F_ref05_Name := by kernel_rfl
abbrev n_ref05_Name : FuncId := 20

def F_opcode_Of : IFun :=
⟨38, 1, [.tmp 2],
 (.seq (.reg [⟨(some 2), .mov (.c (.int .i64 0)), none⟩] [])
 (.seq (.seq (.reg [⟨(some 3), .mov (.s 0), none⟩] [])
 (.block 0 (.seq (.seq (.reg [⟨(some 5), .bin .eql (.s 3) (.c (.int .i64 2)), none⟩,
 ⟨(some 4), .mov (.s 5), none⟩] [5])
 (.cond (.s 4)
 .skip
 (.seq (.reg [⟨(some 6), .bin .eql (.s 3) (.c (.int .i64 3)), none⟩,
 ⟨(some 4), .mov (.s 6), none⟩] [6])
 (.cond (.s 4)
 .skip
 (.reg [⟨(some 7), .bin .eql (.s 3) (.c (.int .i64 4)), none⟩,
 ⟨(some 4), .mov (.s 7), none⟩] [7])))))
 (.cond (.s 4)
 (.seq (.reg [⟨(some 2), .mov (.c (.int .i64 1)), none⟩] [])
 .ret)
 (.seq (.seq (.reg [⟨(some 9), .bin .eql (.s 3) (.c (.int .i64 12)), none⟩,
 ⟨(some 8), .mov (.s 9), none⟩] [9])
 (.cond (.s 8)
 .skip
 (.reg [⟨(some 10), .bin .eql (.s 3) (.c (.int .i64 13)), none⟩,
 ⟨(some 8), .mov (.s 10), none⟩] [10])))
 (.cond (.s 8)
 (.seq (.reg [⟨(some 2), .mov (.c (.int .i64 2)), none⟩] [])
 .ret)
 (.seq (.reg [⟨(some 12), .bin .eql (.s 3) (.c (.int .i64 14)), none⟩,
 ⟨(some 11), .mov (.s 12), none⟩] [12])
 (.cond (.s 11)
 (.seq (.reg [⟨(some 2), .mov (.c (.int .i64 3)), none⟩] [])
 .ret)
 (.seq (.seq (.reg [⟨(some 14), .bin .eql (.s 3) (.c (.int .i64 16)), none⟩,
 ⟨(some 13), .mov (.s 14), none⟩] [14])
 (.cond (.s 13)
 .skip
 (.reg [⟨(some 15), .bin .eql (.s 3) (.c (.int .i64 210)), none⟩,
 ⟨(some 13), .mov (.s 15), none⟩] [15])))
 (.cond (.s 13)
 (.seq (.reg [⟨(some 2), .mov (.c (.int .i64 4)), none⟩] [])
 .ret)
 (.seq (.reg [⟨(some 17), .bin .eql (.s 3) (.c (.int .i64 17)), none⟩,
 ⟨(some 16), .mov (.s 17), none⟩] [17])
 (.cond (.s 16)
 (.seq (.reg [⟨(some 2), .mov (.c (.int .i64 5)), none⟩] [])
 .ret)
 (.seq (.reg [⟨(some 19), .bin .eql (.s 3) (.c (.int .i64 28)), none⟩,
 ⟨(some 18), .mov (.s 19), none⟩] [19])
 (.cond (.s 18)
 (.seq (.reg [⟨(some 2), .mov (.c (.int .i64 6)), none⟩] [])
 .ret)
 (.seq (.seq (.reg [⟨(some 21), .bin .eql (.s 3) (.c (.int .i64 32)), none⟩,
 ⟨(some 20), .mov (.s 21), none⟩] [21])
 (.cond (.s 20)
 .skip
 (.seq (.reg [⟨(some 22), .bin .eql (.s 3) (.c (.int .i64 33)), none⟩,
 ⟨(some 20), .mov (.s 22), none⟩] [22])
 (.cond (.s 20)
 .skip
 (.reg [⟨(some 23), .bin .eql (.s 3) (.c (.int .i64 34)), none⟩,
 ⟨(some 20), .mov (.s 23), none⟩] [23])))))
 (.cond (.s 20)
 (.seq (.reg [⟨(some 2), .mov (.c (.int .i64 7)), none⟩] [])
 .ret)
 (.seq (.seq (.reg [⟨(some 25), .bin .eql (.s 3) (.c (.int .i64 35)), none⟩,
 ⟨(some 24), .mov (.s 25), none⟩] [25])
 (.cond (.s 24)
 .skip
 (.reg [⟨(some 26), .bin .eql (.s 3) (.c (.int .i64 36)), none⟩,
 ⟨(some 24), .mov (.s 26), none⟩] [26])))
 (.cond (.s 24)
 (.seq (.reg [⟨(some 2), .mov (.c (.int .i64 8)), none⟩] [])
 .ret)
 (.seq (.reg [⟨(some 28), .bin .eql (.s 3) (.c (.int .i64 65)), none⟩,
 ⟨(some 27), .mov (.s 28), none⟩] [28])
 (.cond (.s 27)
 (.seq (.reg [⟨(some 2), .mov (.c (.int .i64 18)), none⟩] [])
 .ret)
 (.seq (.reg [⟨(some 30), .bin .eql (.s 3) (.c (.int .i64 66)), none⟩,
 ⟨(some 29), .mov (.s 30), none⟩] [30])
 (.cond (.s 29)
 (.seq (.reg [⟨(some 2), .mov (.c (.int .i64 19)), none⟩] [])
 .ret)
 (.seq (.reg [⟨(some 32), .bin .eql (.s 3) (.c (.int .i64 208)), none⟩,
 ⟨(some 31), .mov (.s 32), none⟩] [32])
 (.cond (.s 31)
 (.seq (.reg [⟨(some 2), .mov (.c (.int .i64 20)), none⟩] [])
 .ret)
 .skip))))))))))))))))))))))))
 (.seq (.seq (.reg [⟨(some 33), .mov (.s 0), none⟩,
 ⟨(some 34), .call 23 [(.s 33)], none⟩,
 ⟨(some 35), .bin .gtr (.s 34) (.c (.int .i64 0)), none⟩] [33, 34])
 (.cond (.s 35)
 (.seq (.reg [⟨(some 2), .mov (.c (.int .i64 17)), none⟩] [])
 .ret)
 .skip))
 (.seq (.reg [⟨(some 36), .mov (.s 0), none⟩,
 ⟨(some 37), .call 53 [(.s 36)], none⟩,
 ⟨(some 2), .mov (.s 37), none⟩] [36, 37])
 .ret))))⟩

theorem c_opcode_Of : compF Tryd.prog 21 = some F_opcode_Of := by kernel_rfl
abbrev n_opcode_Of : FuncId := 21

def F_ref05_Of : IFun :=
⟨12, 1, [.tmp 2],
 (.seq (.reg [⟨(some 2), .mov (.c (.int .i64 0)), none⟩] [])
 (.seq (.reg [⟨(some 6), .mov (.s 0), none⟩,
 ⟨(some 7), .call 51 [(.s 6)], none⟩,
 ⟨(some 5), .mov (.s 7), none⟩,
 ⟨(some 8), .ext (.s 5) 0, none⟩,
 ⟨(some 9), .ext (.s 5) 1, none⟩,
 ⟨(some 3), .new 66 [(.int .i64 0), (.str []), (.int .i64 0)], none⟩,
 ⟨none, .store 3 (.s 3) (.s 8), none⟩,
 ⟨(some 4), .mov (.s 9), none⟩] [6, 7, 5, 8, 9, 4])
 (.seq (.reg [⟨(some 10), .fadr 2 (.s 3), none⟩,
 ⟨(some 11), .load none (.s 10), none⟩,
 ⟨(some 2), .mov (.s 11), none⟩] [10, 11])
 .ret)))⟩

theorem c_ref05_Of : compF Tryd.prog 22 = some F_ref05_Of := by kernel_rfl
abbrev n_ref05_Of : FuncId := 22

def F_opcode_Width : IFun :=
⟨31, 1, [.tmp 2],
 (.seq (.reg [⟨(some 2), .mov (.c (.int .i64 0)), none⟩] [])
 (.seq (.seq (.reg [⟨(some 6), .mov (.s 0), none⟩,
 ⟨(some 7), .call 54 [(.s 6)], none⟩,
 ⟨(some 8), .un .not (.s 7), none⟩] [6, 7])
 (.cond (.s 8)
 (.seq (.reg [⟨(some 2), .mov (.c (.int .i64 0)), none⟩] [])
 .ret)
 .skip))
 (.seq (.reg [⟨(some 9), .mov (.s 0), none⟩,
 ⟨(some 10), .call 19 [(.s 9)], none⟩,
 ⟨(some 3), .mov (.s 10), none⟩] [9, 10])
 (.seq (.seq (.reg [⟨(some 11), .bsl 3 1 [[(.int .i64 0)], [(.int .i64 0)], [(.int .i64 0)]] [(0, (.c (.int .i64 8))), (1, (.c (.int .i64 16))), (2, (.c (.int .i64 32)))], none⟩,
 ⟨(some 12), .len (.s 11), none⟩,
 ⟨(some 13), .mov (.c (.int .i64 0)), none⟩] [])
 (.block 0 (.loop (.seq (.reg [⟨(some 14), .bin .lss (.s 13) (.s 12), none⟩] [])
 (.seq (.cond (.s 14)
 .skip
 (.exit 0))
 (.seq (.block 1 (.seq (.reg [⟨(some 15), .iadr 1 (.s 11) (.s 13), none⟩,
 ⟨(some 16), .load none (.s 15), none⟩,
 ⟨(some 5), .mov (.s 16), none⟩] [15, 16])
 (.seq (.seq (.draw [⟨⟨(some 17), .mov (.s 3), none⟩, []⟩,
 ⟨⟨(some 18), .sslc (.s 17) (some (.c (.int .i64 4))) none, none⟩, [0]⟩,
 ⟨⟨(some 19), .bsl 9 1 [[(.str [])], [(.str [])], [(.str [])]] [(0, (.c (.str [56]))), (1, (.c (.str [49, 54]))), (2, (.c (.str [51, 50])))], none⟩, []⟩,
 ⟨⟨(some 20), .mov (.s 5), none⟩, []⟩,
 ⟨⟨(some 21), .bin .quo (.s 20) (.c (.int .i64 16)), none⟩, [3]⟩,
 ⟨⟨(some 22), .iadr 1 (.s 19) (.s 21), none⟩, [2, 4, 3]⟩,
 ⟨⟨(some 23), .load none (.s 22), none⟩, [5, 2, 4, 3]⟩] [(19, 2)] [])
 (.reg [⟨(some 24), .call 55 [(.s 18), (.s 23)], none⟩] [17, 18, 19, 20, 21, 22, 23]))
 (.cond (.s 24)
 (.seq (.reg [⟨(some 25), .mov (.s 5), none⟩,
 ⟨(some 26), .bin .quo (.s 25) (.c (.int .i64 8)), none⟩,
 ⟨(some 2), .mov (.s 26), none⟩] [25, 26])
 .ret)
 .skip))))
 (.reg [⟨(some 27), .bin .add (.s 13) (.c (.int .i64 1)), none⟩,
 ⟨(some 13), .mov (.s 27), none⟩] [27])))))))
 (.seq (.seq (.reg [⟨(some 28), .mov (.s 3), none⟩,
 ⟨(some 29), .sslc (.s 28) none (some (.c (.int .i64 3))), none⟩,
 ⟨(some 30), .bin .eql (.s 29) (.c (.str [105, 51, 50])), none⟩] [28, 29])
 (.cond (.s 30)
 (.seq (.reg [⟨(some 2), .mov (.c (.int .i64 4)), none⟩] [])
 .ret)
 .skip))
 (.seq (.reg [⟨(some 2), .mov (.c (.int .i64 8)), none⟩] [])
 .ret))))))⟩

theorem c_opcode_Width : compF Tryd.prog 23 = some F_opcode_Width := by kernel_rfl
abbrev n_opcode_Width : FuncId := 23

def F_ref05_Width : IFun :=
⟨34, 1, [.tmp 2],
 (.seq (.reg [⟨(some 2), .mov (.c (.int .i64 0)), none⟩] [])
 (.seq (.reg [⟨(some 4), .mov (.s 0), none⟩,
 ⟨(some 5), .call 20 [(.s 4)], none⟩,
 ⟨(some 3), .mov (.s 5), none⟩] [4, 5])
 (.seq (.seq (.reg [⟨(some 6), .mov (.s 0), none⟩,
 ⟨(some 7), .call 22 [(.s 6)], none⟩,
 ⟨(some 8), .bin .neq (.s 7) (.c (.int .i64 17)), none⟩] [6, 7])
 (.cond (.s 8)
 (.seq (.reg [⟨(some 2), .mov (.c (.int .i64 0)), none⟩] [])
 .ret)
 .skip))
 (.seq (.block 0 (.seq (.reg [⟨(some 10), .mov (.s 3), none⟩,
 ⟨(some 11), .call 41 [(.s 10), (.c (.str [100, 56]))], none⟩,
 ⟨(some 12), .mov (.s 11), none⟩,
 ⟨(some 13), .mov (.s 3), (some (12, false))⟩,
 ⟨(some 14), .call 41 [(.s 13), (.c (.str [101, 56]))], (some (12, false))⟩,
 ⟨(some 15), .pick (.s 12) (.c (.bool true)) (.s 14), none⟩,
 ⟨(some 9), .mov (.s 15), none⟩] [10, 11, 12, 13, 14, 15])
 (.cond (.s 9)
 (.seq (.reg [⟨(some 2), .mov (.c (.int .i64 1)), none⟩] [])
 .ret)
 (.seq (.reg [⟨(some 17), .mov (.s 3), none⟩,
 ⟨(some 18), .call 41 [(.s 17), (.c (.str [100, 49, 54]))], none⟩,
 ⟨(some 19), .mov (.s 18), none⟩,
 ⟨(some 20), .mov (.s 3), (some (19, false))⟩,
 ⟨(some 21), .call 41 [(.s 20), (.c (.str [101, 49, 54]))], (some (19, false))⟩,
 ⟨(some 22), .pick (.s 19) (.c (.bool true)) (.s 21), none⟩,
 ⟨(some 16), .mov (.s 22), none⟩] [17, 18, 19, 20, 21, 22])
 (.cond (.s 16)
 (.seq (.reg [⟨(some 2), .mov (.c (.int .i64 2)), none⟩] [])
 .ret)
 (.seq (.reg [⟨(some 24), .mov (.s 3), none⟩,
 ⟨(some 25), .call 41 [(.s 24), (.c (.str [100, 51, 50]))], none⟩,
 ⟨(some 26), .mov (.s 25), none⟩,
 ⟨(some 27), .mov (.s 3), (some (26, false))⟩,
 ⟨(some 28), .call 41 [(.s 27), (.c (.str [101, 51, 50]))], (some (26, false))⟩,
 ⟨(some 29), .pick (.s 26) (.c (.bool true)) (.s 28), none⟩,
 ⟨(some 23), .mov (.s 29), none⟩] [24, 25, 26, 27, 28, 29])
 (.cond (.s 23)
 (.seq (.reg [⟨(some 2), .mov (.c (.int .i64 4)), none⟩] [])
 .ret)
 (.seq (.reg [⟨(some 31), .mov (.s 3), none⟩,
 ⟨(some 32), .sslc (.s 31) (some (.c (.int .i64 1))) (some (.c (.int .i64 3))), none⟩,
 ⟨(some 33), .bin .eql (.s 32) (.c (.str [51, 50])), none⟩,
 ⟨(some 30), .mov (.s 33), none⟩] [31, 32, 33])
 (.cond (.s 30)
 (.seq (.reg [⟨(some 2), .mov (.c (.int .i64 4)), none⟩] [])
 .ret)
 .skip)))))))))
 (.seq (.reg [⟨(some 2), .mov (.c (.int .i64 8)), none⟩] [])
 .ret)))))⟩

theorem c_ref05_Width : compF Tryd.prog 24 = some F_ref05_Width := by kernel_rfl
abbrev n_ref05_Width : FuncId := 24

def F_opcode_Align : IFun :=
⟨14, 1, [.tmp 2],
 (.seq (.reg [⟨(some 2), .mov (.c (.int .i64 0)), none⟩] [])
 (.seq (.reg [⟨(some 3), .mov (.c (.int .i64 0)), none⟩] [])
 (.seq (.seq (.reg [⟨(some 5), .mov (.s 0), none⟩,
 ⟨(some 6), .call 23 [(.s 5)], none⟩,
 ⟨(some 4), .mov (.s 6), none⟩] [5, 6])
 (.block 0 (.loop (.seq (.seq (.reg [⟨(some 7), .mov (.s 4), none⟩,
 ⟨(some 8), .bin .gtr (.s 7) (.c (.int .i64 1)), none⟩] [7])
 (.cond (.s 8)
 .skip
 (.exit 0)))
 (.seq (.block 1 (.reg [⟨(some 11), .mov (.s 3), none⟩,
 ⟨(some 12), .bin .add (.s 11) (.c (.int .i64 1)), none⟩,
 ⟨(some 3), .mov (.s 12), none⟩] [11, 12]))
 (.reg [⟨(some 9), .mov (.s 4), none⟩,
 ⟨(some 10), .bin .quo (.s 9) (.c (.int .i64 2)), none⟩,
 ⟨(some 4), .mov (.s 10), none⟩] [9, 10]))))))
 (.seq (.reg [⟨(some 13), .mov (.s 3), none⟩,
 ⟨(some 2), .mov (.s 13), none⟩] [13])
 .ret))))⟩

theorem c_opcode_Align : compF Tryd.prog 25 = some F_opcode_Align := by kernel_rfl
abbrev n_opcode_Align : FuncId := 25

def F_ref05_Align : IFun :=
⟨11, 1, [.tmp 2],
 (.seq (.reg [⟨(some 2), .mov (.c (.int .i64 0)), none⟩] [])
 (.seq (.seq (.reg [⟨(some 3), .mov (.s 0), none⟩,
 ⟨(some 4), .call 24 [(.s 3)], none⟩] [3])
 (.block 0 (.seq (.reg [⟨(some 6), .bin .eql (.s 4) (.c (.int .i64 2)), none⟩,
 ⟨(some 5), .mov (.s 6), none⟩] [6])
 (.cond (.s 5)
 (.seq (.reg [⟨(some 2), .mov (.c (.int .i64 1)), none⟩] [])
 .ret)
 (.seq (.reg [⟨(some 8), .bin .eql (.s 4) (.c (.int .i64 4)), none⟩,
 ⟨(some 7), .mov (.s 8), none⟩] [8])
 (.cond (.s 7)
 (.seq (.reg [⟨(some 2), .mov (.c (.int .i64 2)), none⟩] [])
 .ret)
 (.seq (.reg [⟨(some 10), .bin .eql (.s 4) (.c (.int .i64 8)), none⟩,
 ⟨(some 9), .mov (.s 10), none⟩] [10])
 (.cond (.s 9)
 (.seq (.reg [⟨(some 2), .mov (.c (.int .i64 3)), none⟩] [])
 .ret)
 .skip))))))))
 (.seq (.reg [⟨(some 2), .mov (.c (.int .i64 0)), none⟩] [])
 .ret)))⟩

theorem c_ref05_Align : compF Tryd.prog 26 = some F_ref05_Align := by kernel_rfl
abbrev n_ref05_Align : FuncId := 26

def F_opcode_Cost : IFun :=
⟨13, 1, [.tmp 2],
 (.seq (.reg [⟨(some 2), .mov (.c (.int .i64 0)), none⟩] [])
 (.seq (.seq (.reg [⟨(some 3), .mov (.s 0), none⟩] [])
 (.block 0 (.seq (.seq (.reg [⟨(some 5), .bin .eql (.s 3) (.c (.int .i64 1)), none⟩,
 ⟨(some 4), .mov (.s 5), none⟩] [5])
 (.cond (.s 4)
 .skip
 (.seq (.reg [⟨(some 6), .bin .eql (.s 3) (.c (.int .i64 2)), none⟩,
 ⟨(some 4), .mov (.s 6), none⟩] [6])
 (.cond (.s 4)
 .skip
 (.seq (.reg [⟨(some 7), .bin .eql (.s 3) (.c (.int .i64 3)), none⟩,
 ⟨(some 4), .mov (.s 7), none⟩] [7])
 (.cond (.s 4)
 .skip
 (.seq (.reg [⟨(some 8), .bin .eql (.s 3) (.c (.int .i64 5)), none⟩,
 ⟨(some 4), .mov (.s 8), none⟩] [8])
 (.cond (.s 4)
 .skip
 (.reg [⟨(some 9), .bin .eql (.s 3) (.c (.int .i64 11)), none⟩,
 ⟨(some 4), .mov (.s 9), none⟩] [9])))))))))
 (.cond (.s 4)
 (.seq (.reg [⟨(some 2), .mov (.c (.int .i64 0)), none⟩] [])
 .ret)
 .skip))))
 (.seq (.seq (.reg [⟨(some 10), .mov (.s 0), none⟩,
 ⟨(some 11), .call 17 [(.s 10)], none⟩,
 ⟨(some 12), .un .not (.s 11), none⟩] [10, 11])
 (.cond (.s 12)
 (.seq (.reg [⟨(some 2), .mov (.c (.int .i64 0)), none⟩] [])
 .ret)
 .skip))
 (.seq (.reg [⟨(some 2), .mov (.c (.int .i64 1)), none⟩] [])
 .ret))))⟩

theorem c_opcode_Cost : compF Tryd.prog 27 = some F_opcode_Cost := by kernel_rfl
abbrev n_opcode_Cost : FuncId := 27

def F_ref05_Cost : IFun :=
⟨12, 1, [.tmp 2],
 (.seq (.reg [⟨(some 2), .mov (.c (.int .i64 0)), none⟩] [])
 (.seq (.seq (.reg [⟨(some 3), .mov (.s 0), none⟩] [])
 (.block 0 (.seq (.seq (.reg [⟨(some 5), .bin .eql (.s 3) (.c (.int .i64 1)), none⟩,
 ⟨(some 4), .mov (.s 5), none⟩] [5])
 (.cond (.s 4)
 .skip
 (.seq (.reg [⟨(some 6), .bin .eql (.s 3) (.c (.int .i64 2)), none⟩,
 ⟨(some 4), .mov (.s 6), none⟩] [6])
 (.cond (.s 4)
 .skip
 (.seq (.reg [⟨(some 7), .bin .eql (.s 3) (.c (.int .i64 3)), none⟩,
 ⟨(some 4), .mov (.s 7), none⟩] [7])
 (.cond (.s 4)
 .skip
 (.seq (.reg [⟨(some 8), .bin .eql (.s 3) (.c (.int .i64 5)), none⟩,
 ⟨(some 4), .mov (.s 8), none⟩] [8])
 (.cond (.s 4)
 .skip
 (.reg [⟨(some 9), .bin .eql (.s 3) (.c (.int .i64 11)), none⟩,
 ⟨(some 4), .mov (.s 9), none⟩] [9])))))))))
 (.cond (.s 4)
 (.seq (.reg [⟨(some 2), .mov (.c (.int .i64 0)), none⟩] [])
 .ret)
 .skip))))
 (.seq (.seq (.reg [⟨(some 10), .mov (.s 0), none⟩,
 ⟨(some 11), .call 18 [(.s 10)], none⟩] [10])
 (.cond (.s 11)
 (.seq (.reg [⟨(some 2), .mov (.c (.int .i64 1)), none⟩] [])
 .ret)
 .skip))
 (.seq (.reg [⟨(some 2), .mov (.c (.int .i64 0)), none⟩] [])
 .ret))))⟩

theorem c_ref05_Cost : compF Tryd.prog 28 = some F_ref05_Cost := by kernel_rfl
abbrev n_ref05_Cost : FuncId := 28

def F_opcode_All : IFun :=
⟨1, 0, [.tmp 0],
 (.seq (.reg [⟨(some 0), .mov (.c .nf), none⟩] [])
 (.seq (.reg [⟨(some 0), .mov (.c (.fn 56 [])), none⟩] [])
 .ret))⟩

theorem c_opcode_All : compF Tryd.prog 29 = some F_opcode_All := by kernel_rfl
abbrev n_opcode_All : FuncId := 29

def F_ref05_Find : IFun :=
⟨25, 1, [.tmp 2, .tmp 3],
 (.seq (.reg [⟨(some 2), .mov (.c (.int .i64 0)), none⟩,
 ⟨(some 3), .mov (.c (.bool false)), none⟩] [])
 (.seq (.reg [⟨(some 6), .call 57 [], none⟩,
 ⟨(some 4), .mov (.s 6), none⟩] [6])
 (.seq (.seq (.reg [⟨(some 5), .mov (.c (.int .i64 0)), none⟩] [])
 (.block 0 (.loop (.seq (.seq (.reg [⟨(some 7), .mov (.s 5), none⟩,
 ⟨(some 8), .mov (.s 4), none⟩,
 ⟨(some 9), .len (.s 8), none⟩,
 ⟨(some 10), .bin .lss (.s 7) (.s 9), none⟩] [7, 8, 9])
 (.cond (.s 10)
 .skip
 (.exit 0)))
 (.seq (.block 1 (.seq (.reg [⟨(some 13), .mov (.s 4), none⟩,
 ⟨(some 14), .mov (.s 5), none⟩,
 ⟨(some 15), .iadr 3 (.s 13) (.s 14), none⟩,
 ⟨(some 16), .fadr 1 (.s 15), none⟩,
 ⟨(some 17), .load none (.s 16), none⟩,
 ⟨(some 18), .mov (.s 0), none⟩,
 ⟨(some 19), .bin .eql (.s 17) (.s 18), none⟩] [13, 14, 15, 16, 17, 18])
 (.cond (.s 19)
 (.seq (.reg [⟨(some 20), .mov (.s 4), none⟩,
 ⟨(some 21), .mov (.s 5), none⟩,
 ⟨(some 22), .iadr 3 (.s 20) (.s 21), none⟩,
 ⟨(some 23), .fadr 0 (.s 22), none⟩,
 ⟨(some 24), .load none (.s 23), none⟩,
 ⟨(some 2), .mov (.s 24), none⟩,
 ⟨(some 3), .mov (.c (.bool true)), none⟩] [20, 21, 22, 23, 24])
 .ret)
 .skip)))
 (.reg [⟨(some 11), .mov (.s 5), none⟩,
 ⟨(some 12), .bin .add (.s 11) (.c (.int .i64 1)), none⟩,
 ⟨(some 5), .mov (.s 12), none⟩] [11, 12]))))))
 (.seq (.reg [⟨(some 2), .mov (.c (.int .i64 0)), none⟩,
 ⟨(some 3), .mov (.c (.bool false)), none⟩] [])
 .ret))))⟩

theorem c_ref05_Find : compF Tryd.prog 31 = some F_ref05_Find := by kernel_rfl
abbrev n_ref05_Find : FuncId := 31

def F_ref05_All : IFun :=
⟨20, 0, [.tmp 0],
 (.seq (.reg [⟨(some 0), .mov (.c .nl), none⟩] [])
 (.seq (.reg [⟨(some 1), .mov (.c .nl), none⟩] [])
 (.seq (.reg [⟨(some 4), .call 57 [], none⟩,
 ⟨(some 2), .mov (.s 4), none⟩] [4])
 (.seq (.seq (.reg [⟨(some 3), .mov (.c (.int .i64 0)), none⟩] [])
 (.block 0 (.loop (.seq (.seq (.reg [⟨(some 5), .mov (.s 3), none⟩,
 ⟨(some 6), .mov (.s 2), none⟩,
 ⟨(some 7), .len (.s 6), none⟩,
 ⟨(some 8), .bin .lss (.s 5) (.s 7), none⟩] [5, 6, 7])
 (.cond (.s 8)
 .skip
 (.exit 0)))
 (.seq (.block 1 (.reg [⟨(some 11), .mov (.s 1), none⟩,
 ⟨(some 12), .mov (.s 2), none⟩,
 ⟨(some 13), .mov (.s 3), none⟩,
 ⟨(some 14), .iadr 3 (.s 12) (.s 13), none⟩,
 ⟨(some 15), .fadr 0 (.s 14), none⟩,
 ⟨(some 16), .load none (.s 15), none⟩,
 ⟨(some 17), .bsl 22 1 [[(.int .i64 0)]] [(0, (.s 16))], none⟩,
 ⟨(some 18), .app 22 1 (.s 11) (.s 17), none⟩,
 ⟨(some 1), .mov (.s 18), none⟩] [11, 12, 13, 14, 15, 16, 17, 18]))
 (.reg [⟨(some 9), .mov (.s 3), none⟩,
 ⟨(some 10), .bin .add (.s 9) (.c (.int .i64 1)), none⟩,
 ⟨(some 3), .mov (.s 10), none⟩] [9, 10]))))))
 (.seq (.reg [⟨(some 19), .mov (.s 1), none⟩,
 ⟨(some 0), .mov (.s 19), none⟩] [19])
 .ret)))))⟩

theorem c_ref05_All : compF Tryd.prog 32 = some F_ref05_All := by kernel_rfl
abbrev n_ref05_All : FuncId := 32

def F_opcode_Same : IFun :=
⟨52, 2, [.tmp 4],
 (.seq (.reg [⟨(some 2), .box 38 9 (.s 0), none⟩,
 ⟨(some 3), .box 38 9 (.s 1), none⟩,
 ⟨(some 4), .mov (.c (.bool false)), none⟩] [])
 (.seq (.reg [⟨(some 5), .fadr 0 (.s 2), none⟩,
 ⟨(some 6), .load none (.s 5), none⟩,
 ⟨(some 7), .fadr 0 (.s 3), none⟩,
 ⟨(some 8), .load none (.s 7), none⟩,
 ⟨(some 9), .bin .eql (.s 6) (.s 8), none⟩,
 ⟨(some 10), .mov (.s 9), none⟩,
 ⟨(some 11), .fadr 1 (.s 2), (some (10, true))⟩,
 ⟨(some 12), .load none (.s 11), (some (10, true))⟩,
 ⟨(some 13), .fadr 1 (.s 3), (some (10, true))⟩,
 ⟨(some 14), .load none (.s 13), (some (10, true))⟩,
 ⟨(some 15), .bin .eql (.s 12) (.s 14), (some (10, true))⟩,
 ⟨(some 16), .pick (.s 10) (.s 15) (.c (.bool false)), none⟩,
 ⟨(some 17), .mov (.s 16), none⟩,
 ⟨(some 18), .fadr 2 (.s 2), (some (17, true))⟩,
 ⟨(some 19), .load none (.s 18), (some (17, true))⟩,
 ⟨(some 20), .fadr 2 (.s 3), (some (17, true))⟩,
 ⟨(some 21), .load none (.s 20), (some (17, true))⟩,
 ⟨(some 22), .bin .eql (.s 19) (.s 21), (some (17, true))⟩,
 ⟨(some 23), .pick (.s 17) (.s 22) (.c (.bool false)), none⟩,
 ⟨(some 24), .mov (.s 23), none⟩,
 ⟨(some 25), .fadr 3 (.s 2), (some (24, true))⟩,
 ⟨(some 26), .load none (.s 25), (some (24, true))⟩,
 ⟨(some 27), .fadr 3 (.s 3), (some (24, true))⟩,
 ⟨(some 28), .load none (.s 27), (some (24, true))⟩,
 ⟨(some 29), .bin .eql (.s 26) (.s 28), (some (24, true))⟩,
 ⟨(some 30), .pick (.s 24) (.s 29) (.c (.bool false)), none⟩,
 ⟨(some 31), .mov (.s 30), none⟩,
 ⟨(some 32), .fadr 4 (.s 2), (some (31, true))⟩,
 ⟨(some 33), .load (some 3) (.s 32), (some (31, true))⟩,
 ⟨(some 34), .fadr 4 (.s 3), (some (31, true))⟩,
 ⟨(some 35), .load (some 3) (.s 34), (some (31, true))⟩,
 ⟨(some 36), .sbin .eql [.i, .i, .i] (.s 33) (.s 35), (some (31, true))⟩,
 ⟨(some 37), .pick (.s 31) (.s 36) (.c (.bool false)), none⟩,
 ⟨(some 38), .mov (.s 37), none⟩,
 ⟨(some 39), .fadr 7 (.s 2), (some (38, true))⟩,
 ⟨(some 40), .load none (.s 39), (some (38, true))⟩,
 ⟨(some 41), .fadr 7 (.s 3), (some (38, true))⟩,
 ⟨(some 42), .load none (.s 41), (some (38, true))⟩,
 ⟨(some 43), .call 58 [(.s 40), (.s 42)], (some (38, true))⟩,
 ⟨(some 44), .pick (.s 38) (.s 43) (.c (.bool false)), none⟩,
 ⟨(some 45), .mov (.s 44), none⟩,
 ⟨(some 46), .fadr 8 (.s 2), (some (45, true))⟩,
 ⟨(some 47), .load none (.s 46), (some (45, true))⟩,
 ⟨(some 48), .fadr 8 (.s 3), (some (45, true))⟩,
 ⟨(some 49), .load none (.s 48), (some (45, true))⟩,
 ⟨(some 50), .call 59 [(.s 47), (.s 49)], (some (45, true))⟩,
 ⟨(some 51), .pick (.s 45) (.s 50) (.c (.bool false)), none⟩,
 ⟨(some 4), .mov (.s 51), none⟩] [5, 6, 7, 8, 9, 10, 11, 12, 13, 14, 15, 16, 17, 18, 19, 20, 21, 22, 23, 24, 25, 26, 27, 28, 29, 30, 31, 32, 33, 34, 35, 36, 37, 38, 39, 40, 41, 42, 43, 44, 45, 46, 47, 48, 49, 50, 51])
 .ret))⟩

theorem c_opcode_Same : compF Tryd.prog 33 = some F_opcode_Same := by kernel_rfl
abbrev n_opcode_Same : FuncId := 33

def F_ref05_Same : IFun :=
⟨94, 2, [.tmp 4],
 (.seq (.reg [⟨(some 2), .box 38 9 (.s 0), none⟩,
 ⟨(some 3), .box 38 9 (.s 1), none⟩,
 ⟨(some 4), .mov (.c (.bool false)), none⟩] [])
 (.seq (.seq (.reg [⟨(some 7), .fadr 0 (.s 2), none⟩,
 ⟨(some 8), .load none (.s 7), none⟩,
 ⟨(some 9), .fadr 0 (.s 3), none⟩,
 ⟨(some 10), .load none (.s 9), none⟩,
 ⟨(some 11), .bin .neq (.s 8) (.s 10), none⟩,
 ⟨(some 12), .mov (.s 11), none⟩,
 ⟨(some 13), .fadr 1 (.s 2), (some (12, false))⟩,
 ⟨(some 14), .load none (.s 13), (some (12, false))⟩,
 ⟨(some 15), .fadr 1 (.s 3), (some (12, false))⟩,
 ⟨(some 16), .load none (.s 15), (some (12, false))⟩,
 ⟨(some 17), .bin .neq (.s 14) (.s 16), (some (12, false))⟩,
 ⟨(some 18), .pick (.s 12) (.c (.bool true)) (.s 17), none⟩,
 ⟨(some 19), .mov (.s 18), none⟩,
 ⟨(some 20), .fadr 2 (.s 2), (some (19, false))⟩,
 ⟨(some 21), .load none (.s 20), (some (19, false))⟩,
 ⟨(some 22), .fadr 2 (.s 3), (some (19, false))⟩,
 ⟨(some 23), .load none (.s 22), (some (19, false))⟩,
 ⟨(some 24), .bin .neq (.s 21) (.s 23), (some (19, false))⟩,
 ⟨(some 25), .pick (.s 19) (.c (.bool true)) (.s 24), none⟩,
 ⟨(some 26), .mov (.s 25), none⟩,
 ⟨(some 27), .fadr 3 (.s 2), (some (26, false))⟩,
 ⟨(some 28), .load none (.s 27), (some (26, false))⟩,
 ⟨(some 29), .fadr 3 (.s 3), (some (26, false))⟩,
 ⟨(some 30), .load none (.s 29), (some (26, false))⟩,
 ⟨(some 31), .bin .neq (.s 28) (.s 30), (some (26, false))⟩,
 ⟨(some 32), .pick (.s 26) (.c (.bool true)) (.s 31), none⟩,
 ⟨(some 33), .mov (.s 32), none⟩,
 ⟨(some 34), .fadr 4 (.s 2), (some (33, false))⟩,
 ⟨(some 35), .load (some 3) (.s 34), (some (33, false))⟩,
 ⟨(some 36), .fadr 4 (.s 3), (some (33, false))⟩,
 ⟨(some 37), .load (some 3) (.s 36), (some (33, false))⟩,
 ⟨(some 38), .sbin .neq [.i, .i, .i] (.s 35) (.s 37), (some (33, false))⟩,
 ⟨(some 39), .pick (.s 33) (.c (.bool true)) (.s 38), none⟩,
 ⟨(some 40), .mov (.s 39), none⟩,
 ⟨(some 41), .fadr 7 (.s 2), (some (40, false))⟩,
 ⟨(some 42), .load none (.s 41), (some (40, false))⟩,
 ⟨(some 43), .len (.s 42), (some (40, false))⟩,
 ⟨(some 44), .fadr 7 (.s 3), (some (40, false))⟩,
 ⟨(some 45), .load none (.s 44), (some (40, false))⟩,
 ⟨(some 46), .len (.s 45), (some (40, false))⟩,
 ⟨(some 47), .bin .neq (.s 43) (.s 46), (some (40, false))⟩,
 ⟨(some 48), .pick (.s 40) (.c (.bool true)) (.s 47), none⟩,
 ⟨(some 49), .mov (.s 48), none⟩,
 ⟨(some 50), .fadr 8 (.s 2), (some (49, false))⟩,
 ⟨(some 51), .load none (.s 50), (some (49, false))⟩,
 ⟨(some 52), .len (.s 51), (some (49, false))⟩,
 ⟨(some 53), .fadr 8 (.s 3), (some (49, false))⟩,
 ⟨(some 54), .load none (.s 53), (some (49, false))⟩,
 ⟨(some 55), .len (.s 54), (some (49, false))⟩,
 ⟨(some 56), .bin .neq (.s 52) (.s 55), (some (49, false))⟩,
 ⟨(some 57), .pick (.s 49) (.c (.bool true)) (.s 56), none⟩] [7, 8, 9, 10, 11, 12, 13, 14, 15, 16, 17, 18, 19, 20, 21, 22, 23, 24, 25, 26, 27, 28, 29, 30, 31, 32, 33, 34, 35, 36, 37, 38, 39, 40, 41, 42, 43, 44, 45, 46, 47, 48, 49, 50, 51, 52, 53, 54, 55, 56])
 (.cond (.s 57)
 (.seq (.reg [⟨(some 4), .mov (.c (.bool false)), none⟩] [])
 .ret)
 .skip))
 (.seq (.seq (.reg [⟨(some 5), .mov (.c (.int .i64 0)), none⟩] [])
 (.block 0 (.loop (.seq (.seq (.reg [⟨(some 58), .mov (.s 5), none⟩,
 ⟨(some 59), .fadr 7 (.s 2), none⟩,
 ⟨(some 60), .load none (.s 59), none⟩,
 ⟨(some 61), .len (.s 60), none⟩,
 ⟨(some 62), .bin .lss (.s 58) (.s 61), none⟩] [58, 59, 60, 61])
 (.cond (.s 62)
 .skip
 (.exit 0)))
 (.seq (.block 1 (.seq (.seq (.draw [⟨⟨(some 65), .fadr 7 (.s 2), none⟩, []⟩,
 ⟨⟨(some 66), .load none (.s 65), none⟩, [0]⟩,
 ⟨⟨(some 67), .mov (.s 5), none⟩, []⟩,
 ⟨⟨(some 68), .iadr 1 (.s 66) (.s 67), none⟩, [1, 0, 2]⟩,
 ⟨⟨(some 69), .load none (.s 68), none⟩, [3, 1, 0, 2]⟩,
 ⟨⟨(some 70), .fadr 7 (.s 3), none⟩, []⟩,
 ⟨⟨(some 71), .load none (.s 70), none⟩, [5]⟩,
 ⟨⟨(some 72), .mov (.s 5), none⟩, []⟩,
 ⟨⟨(some 73), .iadr 1 (.s 71) (.s 72), none⟩, [6, 5, 7]⟩,
 ⟨⟨(some 74), .load none (.s 73), none⟩, [8, 6, 5, 7]⟩] [] [])
 (.reg [⟨(some 75), .bin .neq (.s 69) (.s 74), none⟩] [65, 66, 67, 68, 69, 70, 71, 72, 73, 74]))
 (.cond (.s 75)
 (.seq (.reg [⟨(some 4), .mov (.c (.bool false)), none⟩] [])
 .ret)
 .skip)))
 (.reg [⟨(some 63), .mov (.s 5), none⟩,
 ⟨(some 64), .bin .add (.s 63) (.c (.int .i64 1)), none⟩,
 ⟨(some 5), .mov (.s 64), none⟩] [63, 64]))))))
 (.seq (.seq (.reg [⟨(some 6), .mov (.c (.int .i64 0)), none⟩] [])
 (.block 2 (.loop (.seq (.seq (.reg [⟨(some 76), .mov (.s 6), none⟩,
 ⟨(some 77), .fadr 8 (.s 2), none⟩,
 ⟨(some 78), .load none (.s 77), none⟩,
 ⟨(some 79), .len (.s 78), none⟩,
 ⟨(some 80), .bin .lss (.s 76) (.s 79), none⟩] [76, 77, 78, 79])
 (.cond (.s 80)
 .skip
 (.exit 2)))
 (.seq (.block 3 (.seq (.seq (.draw [⟨⟨(some 83), .fadr 8 (.s 2), none⟩, []⟩,
 ⟨⟨(some 84), .load none (.s 83), none⟩, [0]⟩,
 ⟨⟨(some 85), .mov (.s 6), none⟩, []⟩,
 ⟨⟨(some 86), .iadr 1 (.s 84) (.s 85), none⟩, [1, 0, 2]⟩,
 ⟨⟨(some 87), .load none (.s 86), none⟩, [3, 1, 0, 2]⟩,
 ⟨⟨(some 88), .fadr 8 (.s 3), none⟩, []⟩,
 ⟨⟨(some 89), .load none (.s 88), none⟩, [5]⟩,
 ⟨⟨(some 90), .mov (.s 6), none⟩, []⟩,
 ⟨⟨(some 91), .iadr 1 (.s 89) (.s 90), none⟩, [6, 5, 7]⟩,
 ⟨⟨(some 92), .load none (.s 91), none⟩, [8, 6, 5, 7]⟩] [] [])
 (.reg [⟨(some 93), .bin .neq (.s 87) (.s 92), none⟩] [83, 84, 85, 86, 87, 88, 89, 90, 91, 92]))
 (.cond (.s 93)
 (.seq (.reg [⟨(some 4), .mov (.c (.bool false)), none⟩] [])
 .ret)
 .skip)))
 (.reg [⟨(some 81), .mov (.s 6), none⟩,
 ⟨(some 82), .bin .add (.s 81) (.c (.int .i64 1)), none⟩,
 ⟨(some 6), .mov (.s 82), none⟩] [81, 82]))))))
 (.seq (.reg [⟨(some 4), .mov (.c (.bool true)), none⟩] [])
 .ret)))))⟩

theorem c_ref05_Same : compF Tryd.prog 34 = some F_ref05_Same := by kernel_rfl
abbrev n_ref05_Same : FuncId := 34

def F_opcode_of : IFun :=
⟨8, 2, [.cell 4 (some 2)],
 (.seq (.reg [⟨(some 4), .new 25 [.nl, .nl], none⟩] [])
 (.seq (.reg [⟨(some 5), .mov (.s 0), none⟩,
 ⟨(some 6), .mov (.s 1), none⟩,
 ⟨(some 7), .build [.nl, .nl] [(0, 1, (.s 5)), (1, 1, (.s 6))], none⟩,
 ⟨none, .store 2 (.s 4) (.s 7), none⟩] [5, 6, 7])
 .ret))⟩

theorem c_opcode_of : compF Tryd.prog 35 = some F_opcode_of := by kernel_rfl
abbrev n_opcode_of : FuncId := 35

def F_strings_HasPrefix : IFun :=
⟨8, 2, [.tmp 4],
 (.seq (.reg [⟨(some 4), .mov (.c (.bool false)), none⟩] [])
 (.seq (.reg [⟨(some 5), .mov (.s 0), none⟩,
 ⟨(some 6), .mov (.s 1), none⟩,
 ⟨(some 7), .call 60 [(.s 5), (.s 6)], none⟩,
 ⟨(some 4), .mov (.s 7), none⟩] [5, 6, 7])
 .ret))⟩

theorem c_strings_HasPrefix : compF Tryd.prog 36 = some F_strings_HasPrefix := by kernel_rfl
abbrev n_strings_HasPrefix : FuncId := 36

def F_opcode_number : IFun :=
⟨65, 3, [.cell 6 (some 2)],
 (.seq (.reg [⟨(some 6), .new 25 [.nl, .nl], none⟩] [])
 (.seq (.block 0 (.seq (.reg [⟨(some 8), .mov (.s 2), none⟩,
 ⟨(some 9), .call 36 [(.s 8), (.c (.str [108, 111, 97, 100]))], none⟩,
 ⟨(some 7), .mov (.s 9), none⟩] [8, 9])
 (.cond (.s 7)
 (.seq (.reg [⟨(some 10), .bsl 33 1 [[(.int .i64 0)]] [(0, (.c (.int .i64 1)))], none⟩,
 ⟨(some 11), .mov (.s 1), none⟩,
 ⟨(some 12), .bsl 33 1 [[(.int .i64 0)]] [(0, (.s 11))], none⟩,
 ⟨(some 13), .call 35 [(.s 10), (.s 12)], none⟩,
 ⟨none, .store 2 (.s 6) (.s 13), none⟩] [10, 11, 12, 13])
 .ret)
 (.seq (.reg [⟨(some 15), .mov (.s 2), none⟩,
 ⟨(some 16), .call 36 [(.s 15), (.c (.str [115, 116, 111, 114, 101]))], none⟩,
 ⟨(some 14), .mov (.s 16), none⟩] [15, 16])
 (.cond (.s 14)
 (.seq (.reg [⟨(some 17), .mov (.s 1), none⟩,
 ⟨(some 18), .bsl 33 1 [[(.int .i64 0)], [(.int .i64 0)]] [(0, (.c (.int .i64 1))), (1, (.s 17))], none⟩,
 ⟨(some 19), .call 35 [(.s 18), (.c .nl)], none⟩,
 ⟨none, .store 2 (.s 6) (.s 19), none⟩] [17, 18, 19])
 .ret)
 (.seq (.reg [⟨(some 21), .mov (.s 2), none⟩,
 ⟨(some 22), .bin .eql (.s 21) (.c (.str [101, 113, 122])), none⟩,
 ⟨(some 20), .mov (.s 22), none⟩] [21, 22])
 (.cond (.s 20)
 (.seq (.reg [⟨(some 23), .mov (.s 1), none⟩,
 ⟨(some 24), .bsl 33 1 [[(.int .i64 0)]] [(0, (.s 23))], none⟩,
 ⟨(some 25), .bsl 33 1 [[(.int .i64 0)]] [(0, (.c (.int .i64 1)))], none⟩,
 ⟨(some 26), .call 35 [(.s 24), (.s 25)], none⟩,
 ⟨none, .store 2 (.s 6) (.s 26), none⟩] [23, 24, 25, 26])
 .ret)
 (.seq (.reg [⟨(some 28), .mov (.s 0), none⟩,
 ⟨(some 29), .bin .geq (.s 28) (.c (.int .i64 70)), none⟩,
 ⟨(some 30), .mov (.s 29), none⟩,
 ⟨(some 31), .mov (.s 0), (some (30, true))⟩,
 ⟨(some 32), .bin .leq (.s 31) (.c (.int .i64 90)), (some (30, true))⟩,
 ⟨(some 33), .pick (.s 30) (.s 32) (.c (.bool false)), none⟩,
 ⟨(some 27), .mov (.s 33), none⟩] [28, 29, 30, 31, 32, 33])
 (.cond (.s 27)
 (.seq (.reg [⟨(some 34), .mov (.s 1), none⟩,
 ⟨(some 35), .mov (.s 1), none⟩,
 ⟨(some 36), .bsl 33 1 [[(.int .i64 0)], [(.int .i64 0)]] [(0, (.s 34)), (1, (.s 35))], none⟩,
 ⟨(some 37), .bsl 33 1 [[(.int .i64 0)]] [(0, (.c (.int .i64 1)))], none⟩,
 ⟨(some 38), .call 35 [(.s 36), (.s 37)], none⟩,
 ⟨none, .store 2 (.s 6) (.s 38), none⟩] [34, 35, 36, 37, 38])
 .ret)
 (.seq (.reg [⟨(some 40), .mov (.s 2), none⟩,
 ⟨(some 41), .bin .eql (.s 40) (.c (.str [99, 108, 122])), none⟩,
 ⟨(some 42), .mov (.s 41), none⟩,
 ⟨(some 43), .mov (.s 2), (some (42, false))⟩,
 ⟨(some 44), .bin .eql (.s 43) (.c (.str [99, 116, 122])), (some (42, false))⟩,
 ⟨(some 45), .pick (.s 42) (.c (.bool true)) (.s 44), none⟩,
 ⟨(some 46), .mov (.s 45), none⟩,
 ⟨(some 47), .mov (.s 2), (some (46, false))⟩,
 ⟨(some 48), .bin .eql (.s 47) (.c (.str [112, 111, 112, 99, 110, 116])), (some (46, false))⟩,
 ⟨(some 49), .pick (.s 46) (.c (.bool true)) (.s 48), none⟩,
 ⟨(some 50), .mov (.s 49), none⟩,
 ⟨(some 51), .mov (.s 2), (some (50, false))⟩,
 ⟨(some 52), .call 36 [(.s 51), (.c (.str [101, 120, 116, 101, 110, 100]))], (some (50, false))⟩,
 ⟨(some 53), .pick (.s 50) (.c (.bool true)) (.s 52), none⟩,
 ⟨(some 39), .mov (.s 53), none⟩] [40, 41, 42, 43, 44, 45, 46, 47, 48, 49, 50, 51, 52, 53])
 (.cond (.s 39)
 (.seq (.reg [⟨(some 54), .mov (.s 1), none⟩,
 ⟨(some 55), .bsl 33 1 [[(.int .i64 0)]] [(0, (.s 54))], none⟩,
 ⟨(some 56), .mov (.s 1), none⟩,
 ⟨(some 57), .bsl 33 1 [[(.int .i64 0)]] [(0, (.s 56))], none⟩,
 ⟨(some 58), .call 35 [(.s 55), (.s 57)], none⟩,
 ⟨none, .store 2 (.s 6) (.s 58), none⟩] [54, 55, 56, 57, 58])
 .ret)
 .skip)))))))))))
 (.seq (.reg [⟨(some 59), .mov (.s 1), none⟩,
 ⟨(some 60), .mov (.s 1), none⟩,
 ⟨(some 61), .bsl 33 1 [[(.int .i64 0)], [(.int .i64 0)]] [(0, (.s 59)), (1, (.s 60))], none⟩,
 ⟨(some 62), .mov (.s 1), none⟩,
 ⟨(some 63), .bsl 33 1 [[(.int .i64 0)]] [(0, (.s 62))], none⟩,
 ⟨(some 64), .call 35 [(.s 61), (.s 63)], none⟩,
 ⟨none, .store 2 (.s 6) (.s 64), none⟩] [59, 60, 61, 62, 63, 64])
 .ret)))⟩

theorem c_opcode_number : compF Tryd.prog 37 = some F_opcode_number := by kernel_rfl
abbrev n_opcode_number : FuncId := 37

def F_opcode_begins : IFun :=
⟨5, 1, [.tmp 2],
 (.seq (.reg [⟨(some 2), .mov (.c (.int .i64 0)), none⟩] [])
 (.seq (.seq (.reg [⟨(some 3), .mov (.s 0), none⟩,
 ⟨(some 4), .call 36 [(.s 3), (.c (.str [105, 54, 52]))], none⟩] [3])
 (.cond (.s 4)
 (.seq (.reg [⟨(some 2), .mov (.c (.int .i64 2)), none⟩] [])
 .ret)
 .skip))
 (.seq (.reg [⟨(some 2), .mov (.c (.int .i64 1)), none⟩] [])
 .ret)))⟩

theorem c_opcode_begins : compF Tryd.prog 38 = some F_opcode_begins := by kernel_rfl
abbrev n_opcode_begins : FuncId := 38

def F_ref05_plain : IFun :=
⟨51, 1, [.cell 2 (some 2), .tmp 3],
 (.seq (.reg [⟨(some 2), .new 25 [.nl, .nl], none⟩,
 ⟨(some 3), .mov (.c (.bool false)), none⟩] [])
 (.seq (.reg [⟨(some 5), .bsl 33 1 [[(.int .i64 0)], [(.int .i64 0)], [(.int .i64 0)]] [(0, (.c (.int .i64 1))), (1, (.c (.int .i64 1))), (2, (.c (.int .i64 1)))], none⟩,
 ⟨(some 4), .mov (.s 5), none⟩] [5])
 (.seq (.seq (.reg [⟨(some 6), .mov (.s 0), none⟩] [])
 (.block 0 (.seq (.seq (.reg [⟨(some 8), .bin .eql (.s 6) (.c (.int .i64 1)), none⟩,
 ⟨(some 7), .mov (.s 8), none⟩] [8])
 (.cond (.s 7)
 .skip
 (.seq (.reg [⟨(some 9), .bin .eql (.s 6) (.c (.int .i64 64525)), none⟩,
 ⟨(some 7), .mov (.s 9), none⟩] [9])
 (.cond (.s 7)
 .skip
 (.reg [⟨(some 10), .bin .eql (.s 6) (.c (.int .i64 64521)), none⟩,
 ⟨(some 7), .mov (.s 10), none⟩] [10])))))
 (.cond (.s 7)
 (.seq (.reg [⟨(some 11), .build [.nl, .nl] [], none⟩,
 ⟨none, .store 2 (.s 2) (.s 11), none⟩,
 ⟨(some 3), .mov (.c (.bool true)), none⟩] [11])
 .ret)
 (.seq (.seq (.reg [⟨(some 13), .bin .eql (.s 6) (.c (.int .i64 65)), none⟩,
 ⟨(some 12), .mov (.s 13), none⟩] [13])
 (.cond (.s 12)
 .skip
 (.seq (.reg [⟨(some 14), .bin .eql (.s 6) (.c (.int .i64 63)), none⟩,
 ⟨(some 12), .mov (.s 14), none⟩] [14])
 (.cond (.s 12)
 .skip
 (.reg [⟨(some 15), .bin .eql (.s 6) (.c (.int .i64 64528)), none⟩,
 ⟨(some 12), .mov (.s 15), none⟩] [15])))))
 (.cond (.s 12)
 (.seq (.reg [⟨(some 16), .bsl 33 1 [[(.int .i64 0)]] [(0, (.c (.int .i64 1)))], none⟩,
 ⟨(some 17), .call 42 [(.c .nl), (.s 16)], none⟩,
 ⟨none, .store 2 (.s 2) (.s 17), none⟩,
 ⟨(some 3), .mov (.c (.bool true)), none⟩] [16, 17])
 .ret)
 (.seq (.reg [⟨(some 19), .bin .eql (.s 6) (.c (.int .i64 66)), none⟩,
 ⟨(some 18), .mov (.s 19), none⟩] [19])
 (.cond (.s 18)
 (.seq (.reg [⟨(some 20), .bsl 33 1 [[(.int .i64 0)]] [(0, (.c (.int .i64 2)))], none⟩,
 ⟨(some 21), .call 42 [(.c .nl), (.s 20)], none⟩,
 ⟨none, .store 2 (.s 2) (.s 21), none⟩,
 ⟨(some 3), .mov (.c (.bool true)), none⟩] [20, 21])
 .ret)
 (.seq (.reg [⟨(some 23), .bin .eql (.s 6) (.c (.int .i64 210)), none⟩,
 ⟨(some 22), .mov (.s 23), none⟩] [23])
 (.cond (.s 22)
 (.seq (.reg [⟨(some 24), .bsl 33 1 [[(.int .i64 0)]] [(0, (.c (.int .i64 3)))], none⟩,
 ⟨(some 25), .call 42 [(.c .nl), (.s 24)], none⟩,
 ⟨none, .store 2 (.s 2) (.s 25), none⟩,
 ⟨(some 3), .mov (.c (.bool true)), none⟩] [24, 25])
 .ret)
 (.seq (.reg [⟨(some 27), .bin .eql (.s 6) (.c (.int .i64 64)), none⟩,
 ⟨(some 26), .mov (.s 27), none⟩] [27])
 (.cond (.s 26)
 (.seq (.reg [⟨(some 28), .bsl 33 1 [[(.int .i64 0)]] [(0, (.c (.int .i64 1)))], none⟩,
 ⟨(some 29), .bsl 33 1 [[(.int .i64 0)]] [(0, (.c (.int .i64 1)))], none⟩,
 ⟨(some 30), .call 42 [(.s 28), (.s 29)], none⟩,
 ⟨none, .store 2 (.s 2) (.s 30), none⟩,
 ⟨(some 3), .mov (.c (.bool true)), none⟩] [28, 29, 30])
 .ret)
 (.seq (.seq (.reg [⟨(some 32), .bin .eql (.s 6) (.c (.int .i64 64523)), none⟩,
 ⟨(some 31), .mov (.s 32), none⟩] [32])
 (.cond (.s 31)
 .skip
 (.seq (.reg [⟨(some 33), .bin .eql (.s 6) (.c (.int .i64 64522)), none⟩,
 ⟨(some 31), .mov (.s 33), none⟩] [33])
 (.cond (.s 31)
 .skip
 (.seq (.reg [⟨(some 34), .bin .eql (.s 6) (.c (.int .i64 64520)), none⟩,
 ⟨(some 31), .mov (.s 34), none⟩] [34])
 (.cond (.s 31)
 .skip
 (.seq (.reg [⟨(some 35), .bin .eql (.s 6) (.c (.int .i64 64526)), none⟩,
 ⟨(some 31), .mov (.s 35), none⟩] [35])
 (.cond (.s 31)
 .skip
 (.reg [⟨(some 36), .bin .eql (.s 6) (.c (.int .i64 64524)), none⟩,
 ⟨(some 31), .mov (.s 36), none⟩] [36])))))))))
 (.cond (.s 31)
 (.seq (.reg [⟨(some 37), .mov (.s 4), none⟩,
 ⟨(some 38), .call 42 [(.s 37), (.c .nl)], none⟩,
 ⟨none, .store 2 (.s 2) (.s 38), none⟩,
 ⟨(some 3), .mov (.c (.bool true)), none⟩] [37, 38])
 .ret)
 (.seq (.reg [⟨(some 40), .bin .eql (.s 6) (.c (.int .i64 167)), none⟩,
 ⟨(some 39), .mov (.s 40), none⟩] [40])
 (.cond (.s 39)
 (.seq (.reg [⟨(some 41), .bsl 33 1 [[(.int .i64 0)]] [(0, (.c (.int .i64 2)))], none⟩,
 ⟨(some 42), .bsl 33 1 [[(.int .i64 0)]] [(0, (.c (.int .i64 1)))], none⟩,
 ⟨(some 43), .call 42 [(.s 41), (.s 42)], none⟩,
 ⟨none, .store 2 (.s 2) (.s 43), none⟩,
 ⟨(some 3), .mov (.c (.bool true)), none⟩] [41, 42, 43])
 .ret)
 (.seq (.seq (.reg [⟨(some 45), .bin .eql (.s 6) (.c (.int .i64 172)), none⟩,
 ⟨(some 44), .mov (.s 45), none⟩] [45])
 (.cond (.s 44)
 .skip
 (.reg [⟨(some 46), .bin .eql (.s 6) (.c (.int .i64 173)), none⟩,
 ⟨(some 44), .mov (.s 46), none⟩] [46])))
 (.cond (.s 44)
 (.seq (.reg [⟨(some 47), .bsl 33 1 [[(.int .i64 0)]] [(0, (.c (.int .i64 1)))], none⟩,
 ⟨(some 48), .bsl 33 1 [[(.int .i64 0)]] [(0, (.c (.int .i64 2)))], none⟩,
 ⟨(some 49), .call 42 [(.s 47), (.s 48)], none⟩,
 ⟨none, .store 2 (.s 2) (.s 49), none⟩,
 ⟨(some 3), .mov (.c (.bool true)), none⟩] [47, 48, 49])
 .ret)
 .skip))))))))))))))))))
 (.seq (.reg [⟨(some 50), .build [.nl, .nl] [], none⟩,
 ⟨none, .store 2 (.s 2) (.s 50), none⟩,
 ⟨(some 3), .mov (.c (.bool false)), none⟩] [50])
 .ret))))⟩

theorem c_ref05_plain : compF Tryd.prog 39 = some F_ref05_plain := by kernel_rfl
abbrev n_ref05_plain : FuncId := 39

def F_ref05_typ : IFun :=
⟨11, 1, [.tmp 2],
 (.seq (.reg [⟨(some 2), .mov (.c (.int .i64 0)), none⟩] [])
 (.seq (.seq (.reg [⟨(some 3), .mov (.s 0), none⟩,
 ⟨(some 4), .slen (.s 3), none⟩,
 ⟨(some 5), .bin .gtr (.s 4) (.c (.int .i64 4)), none⟩,
 ⟨(some 6), .mov (.s 5), none⟩,
 ⟨(some 7), .mov (.s 0), (some (6, true))⟩,
 ⟨(some 8), .sslc (.s 7) none (some (.c (.int .i64 4))), (some (6, true))⟩,
 ⟨(some 9), .bin .eql (.s 8) (.c (.str [105, 54, 52, 46])), (some (6, true))⟩,
 ⟨(some 10), .pick (.s 6) (.s 9) (.c (.bool false)), none⟩] [3, 4, 5, 6, 7, 8, 9])
 (.cond (.s 10)
 (.seq (.reg [⟨(some 2), .mov (.c (.int .i64 2)), none⟩] [])
 .ret)
 .skip))
 (.seq (.reg [⟨(some 2), .mov (.c (.int .i64 1)), none⟩] [])
 .ret)))⟩

theorem c_ref05_typ : compF Tryd.prog 40 = some F_ref05_typ := by kernel_rfl
abbrev n_ref05_typ : FuncId := 40

def F_ref05_within : IFun :=
⟨24, 2, [.tmp 4],
 (.seq (.reg [⟨(some 4), .mov (.c (.bool false)), none⟩] [])
 (.seq (.seq (.reg [⟨(some 5), .mov (.c (.int .i64 0)), none⟩] [])
 (.block 0 (.loop (.seq (.seq (.reg [⟨(some 6), .mov (.s 5), none⟩,
 ⟨(some 7), .mov (.s 1), none⟩,
 ⟨(some 8), .slen (.s 7), none⟩,
 ⟨(some 9), .bin .add (.s 6) (.s 8), none⟩,
 ⟨(some 10), .mov (.s 0), none⟩,
 ⟨(some 11), .slen (.s 10), none⟩,
 ⟨(some 12), .bin .leq (.s 9) (.s 11), none⟩] [6, 7, 8, 9, 10, 11])
 (.cond (.s 12)
 .skip
 (.exit 0)))
 (.seq (.block 1 (.seq (.reg [⟨(some 15), .mov (.s 0), none⟩,
 ⟨(some 16), .mov (.s 5), none⟩,
 ⟨(some 17), .mov (.s 5), none⟩,
 ⟨(some 18), .mov (.s 1), none⟩,
 ⟨(some 19), .slen (.s 18), none⟩,
 ⟨(some 20), .bin .add (.s 17) (.s 19), none⟩,
 ⟨(some 21), .sslc (.s 15) (some (.s 16)) (some (.s 20)), none⟩,
 ⟨(some 22), .mov (.s 1), none⟩,
 ⟨(some 23), .bin .eql (.s 21) (.s 22), none⟩] [15, 16, 17, 18, 19, 20, 21, 22])
 (.cond (.s 23)
 (.seq (.reg [⟨(some 4), .mov (.c (.bool true)), none⟩] [])
 .ret)
 .skip)))
 (.reg [⟨(some 13), .mov (.s 5), none⟩,
 ⟨(some 14), .bin .add (.s 13) (.c (.int .i64 1)), none⟩,
 ⟨(some 5), .mov (.s 14), none⟩] [13, 14]))))))
 (.seq (.reg [⟨(some 4), .mov (.c (.bool false)), none⟩] [])
 .ret)))⟩

theorem c_ref05_within : compF Tryd.prog 41 = some F_ref05_within := by kernel_rfl
abbrev n_ref05_within : FuncId := 41

def F_ref05_fn : IFun :=
⟨8, 2, [.cell 4 (some 2)],
 (.seq (.reg [⟨(some 4), .new 25 [.nl, .nl], none⟩] [])
 (.seq (.reg [⟨(some 5), .mov (.s 0), none⟩,
 ⟨(some 6), .mov (.s 1), none⟩,
 ⟨(some 7), .build [.nl, .nl] [(0, 1, (.s 5)), (1, 1, (.s 6))], none⟩,
 ⟨none, .store 2 (.s 4) (.s 7), none⟩] [5, 6, 7])
 .ret))⟩

theorem c_ref05_fn : compF Tryd.prog 42 = some F_ref05_fn := by kernel_rfl
abbrev n_ref05_fn : FuncId := 42

def F_opcode_used : IFun :=
⟨29, 1, [.tmp 2, .tmp 3, .tmp 4],
 (.seq (.reg [⟨(some 2), .mov (.c (.bool false)), none⟩,
 ⟨(some 3), .mov (.c (.bool false)), none⟩,
 ⟨(some 4), .mov (.c (.bool false)), none⟩] [])
 (.seq (.seq (.reg [⟨(some 5), .mov (.s 0), none⟩] [])
 (.block 0 (.seq (.seq (.reg [⟨(some 7), .bin .eql (.s 5) (.c (.int .i64 2)), none⟩,
 ⟨(some 6), .mov (.s 7), none⟩] [7])
 (.cond (.s 6)
 .skip
 (.seq (.reg [⟨(some 8), .bin .eql (.s 5) (.c (.int .i64 3)), none⟩,
 ⟨(some 6), .mov (.s 8), none⟩] [8])
 (.cond (.s 6)
 .skip
 (.seq (.reg [⟨(some 9), .bin .eql (.s 5) (.c (.int .i64 4)), none⟩,
 ⟨(some 6), .mov (.s 9), none⟩] [9])
 (.cond (.s 6)
 .skip
 (.seq (.reg [⟨(some 10), .bin .eql (.s 5) (.c (.int .i64 7)), none⟩,
 ⟨(some 6), .mov (.s 10), none⟩] [10])
 (.cond (.s 6)
 .skip
 (.seq (.reg [⟨(some 11), .bin .eql (.s 5) (.c (.int .i64 8)), none⟩,
 ⟨(some 6), .mov (.s 11), none⟩] [11])
 (.cond (.s 6)
 .skip
 (.seq (.reg [⟨(some 12), .bin .eql (.s 5) (.c (.int .i64 9)), none⟩,
 ⟨(some 6), .mov (.s 12), none⟩] [12])
 (.cond (.s 6)
 .skip
 (.seq (.reg [⟨(some 13), .bin .eql (.s 5) (.c (.int .i64 12)), none⟩,
 ⟨(some 6), .mov (.s 13), none⟩] [13])
 (.cond (.s 6)
 .skip
 (.seq (.reg [⟨(some 14), .bin .eql (.s 5) (.c (.int .i64 16)), none⟩,
 ⟨(some 6), .mov (.s 14), none⟩] [14])
 (.cond (.s 6)
 .skip
 (.reg [⟨(some 15), .bin .eql (.s 5) (.c (.int .i64 20)), none⟩,
 ⟨(some 6), .mov (.s 15), none⟩] [15])))))))))))))))))
 (.cond (.s 6)
 (.seq (.reg [⟨(some 2), .mov (.c (.bool true)), none⟩,
 ⟨(some 3), .mov (.c (.bool false)), none⟩,
 ⟨(some 4), .mov (.c (.bool false)), none⟩] [])
 .ret)
 (.seq (.seq (.reg [⟨(some 17), .bin .eql (.s 5) (.c (.int .i64 5)), none⟩,
 ⟨(some 16), .mov (.s 17), none⟩] [17])
 (.cond (.s 16)
 .skip
 (.seq (.reg [⟨(some 18), .bin .eql (.s 5) (.c (.int .i64 10)), none⟩,
 ⟨(some 16), .mov (.s 18), none⟩] [18])
 (.cond (.s 16)
 .skip
 (.seq (.reg [⟨(some 19), .bin .eql (.s 5) (.c (.int .i64 11)), none⟩,
 ⟨(some 16), .mov (.s 19), none⟩] [19])
 (.cond (.s 16)
 .skip
 (.seq (.reg [⟨(some 20), .bin .eql (.s 5) (.c (.int .i64 14)), none⟩,
 ⟨(some 16), .mov (.s 20), none⟩] [20])
 (.cond (.s 16)
 .skip
 (.reg [⟨(some 21), .bin .eql (.s 5) (.c (.int .i64 15)), none⟩,
 ⟨(some 16), .mov (.s 21), none⟩] [21])))))))))
 (.cond (.s 16)
 (.seq (.reg [⟨(some 2), .mov (.c (.bool true)), none⟩,
 ⟨(some 3), .mov (.c (.bool true)), none⟩,
 ⟨(some 4), .mov (.c (.bool false)), none⟩] [])
 .ret)
 (.seq (.reg [⟨(some 23), .bin .eql (.s 5) (.c (.int .i64 13)), none⟩,
 ⟨(some 22), .mov (.s 23), none⟩] [23])
 (.cond (.s 22)
 (.seq (.reg [⟨(some 2), .mov (.c (.bool false)), none⟩,
 ⟨(some 3), .mov (.c (.bool true)), none⟩,
 ⟨(some 4), .mov (.c (.bool false)), none⟩] [])
 .ret)
 (.seq (.reg [⟨(some 25), .bin .eql (.s 5) (.c (.int .i64 17)), none⟩,
 ⟨(some 24), .mov (.s 25), none⟩] [25])
 (.cond (.s 24)
 (.seq (.reg [⟨(some 2), .mov (.c (.bool true)), none⟩,
 ⟨(some 3), .mov (.c (.bool true)), none⟩,
 ⟨(some 4), .mov (.c (.bool true)), none⟩] [])
 .ret)
 (.seq (.seq (.reg [⟨(some 27), .bin .eql (.s 5) (.c (.int .i64 18)), none⟩,
 ⟨(some 26), .mov (.s 27), none⟩] [27])
 (.cond (.s 26)
 .skip
 (.reg [⟨(some 28), .bin .eql (.s 5) (.c (.int .i64 19)), none⟩,
 ⟨(some 26), .mov (.s 28), none⟩] [28])))
 (.cond (.s 26)
 (.seq (.reg [⟨(some 2), .mov (.c (.bool false)), none⟩,
 ⟨(some 3), .mov (.c (.bool false)), none⟩,
 ⟨(some 4), .mov (.c (.bool true)), none⟩] [])
 .ret)
 .skip))))))))))))
 (.seq (.reg [⟨(some 2), .mov (.c (.bool false)), none⟩,
 ⟨(some 3), .mov (.c (.bool false)), none⟩,
 ⟨(some 4), .mov (.c (.bool false)), none⟩] [])
 .ret)))⟩

theorem c_opcode_used : compF Tryd.prog 43 = some F_opcode_used := by kernel_rfl
abbrev n_opcode_used : FuncId := 43

def F_opcode_index : IFun :=
⟨9, 1, [.tmp 2],
 (.seq (.reg [⟨(some 2), .mov (.c (.bool false)), none⟩] [])
 (.seq (.reg [⟨(some 3), .mov (.s 0), none⟩,
 ⟨(some 4), .bin .geq (.s 3) (.c (.int .i64 0)), none⟩,
 ⟨(some 5), .mov (.s 4), none⟩,
 ⟨(some 6), .mov (.s 0), (some (5, true))⟩,
 ⟨(some 7), .bin .lss (.s 6) (.c (.int .i64 4294967296)), (some (5, true))⟩,
 ⟨(some 8), .pick (.s 5) (.s 7) (.c (.bool false)), none⟩,
 ⟨(some 2), .mov (.s 8), none⟩] [3, 4, 5, 6, 7, 8])
 .ret))⟩

theorem c_opcode_index : compF Tryd.prog 44 = some F_opcode_index := by kernel_rfl
abbrev n_opcode_index : FuncId := 44

def F_opcode_block : IFun :=
⟨30, 1, [.tmp 2],
 (.seq (.reg [⟨(some 1), .box 35 3 (.s 0), none⟩,
 ⟨(some 2), .mov (.c (.bool false)), none⟩] [])
 (.seq (.seq (.reg [⟨(some 3), .fadr 0 (.s 1), none⟩,
 ⟨(some 4), .load none (.s 3), none⟩] [3])
 (.block 0 (.seq (.reg [⟨(some 6), .bin .eql (.s 4) (.c (.int .i64 0)), none⟩,
 ⟨(some 5), .mov (.s 6), none⟩] [6])
 (.cond (.s 5)
 (.seq (.reg [⟨(some 7), .load (some 3) (.s 1), none⟩,
 ⟨(some 8), .build [(.int .i64 0), (.int .i64 0), (.int .i64 0)] [], none⟩,
 ⟨(some 9), .sbin .eql [.i, .i, .i] (.s 7) (.s 8), none⟩,
 ⟨(some 2), .mov (.s 9), none⟩] [7, 8, 9])
 .ret)
 (.seq (.reg [⟨(some 11), .bin .eql (.s 4) (.c (.int .i64 1)), none⟩,
 ⟨(some 10), .mov (.s 11), none⟩] [11])
 (.cond (.s 10)
 (.seq (.reg [⟨(some 12), .fadr 1 (.s 1), none⟩,
 ⟨(some 13), .load none (.s 12), none⟩,
 ⟨(some 14), .call 46 [(.s 13)], none⟩,
 ⟨(some 15), .mov (.s 14), none⟩,
 ⟨(some 16), .fadr 2 (.s 1), (some (15, true))⟩,
 ⟨(some 17), .load none (.s 16), (some (15, true))⟩,
 ⟨(some 18), .bin .eql (.s 17) (.c (.int .i64 0)), (some (15, true))⟩,
 ⟨(some 19), .pick (.s 15) (.s 18) (.c (.bool false)), none⟩,
 ⟨(some 2), .mov (.s 19), none⟩] [12, 13, 14, 15, 16, 17, 18, 19])
 .ret)
 (.seq (.reg [⟨(some 21), .bin .eql (.s 4) (.c (.int .i64 2)), none⟩,
 ⟨(some 20), .mov (.s 21), none⟩] [21])
 (.cond (.s 20)
 (.seq (.reg [⟨(some 22), .fadr 1 (.s 1), none⟩,
 ⟨(some 23), .load none (.s 22), none⟩,
 ⟨(some 24), .bin .eql (.s 23) (.c (.int .i64 0)), none⟩,
 ⟨(some 25), .mov (.s 24), none⟩,
 ⟨(some 26), .fadr 2 (.s 1), (some (25, true))⟩,
 ⟨(some 27), .load none (.s 26), (some (25, true))⟩,
 ⟨(some 28), .call 44 [(.s 27)], (some (25, true))⟩,
 ⟨(some 29), .pick (.s 25) (.s 28) (.c (.bool false)), none⟩,
 ⟨(some 2), .mov (.s 29), none⟩] [22, 23, 24, 25, 26, 27, 28, 29])
 .ret)
 .skip))))))))
 (.seq (.reg [⟨(some 2), .mov (.c (.bool false)), none⟩] [])
 .ret)))⟩

theorem c_opcode_block : compF Tryd.prog 45 = some F_opcode_block := by kernel_rfl
abbrev n_opcode_block : FuncId := 45

def F_opcode_val : IFun :=
⟨9, 1, [.tmp 2],
 (.seq (.reg [⟨(some 2), .mov (.c (.bool false)), none⟩] [])
 (.seq (.reg [⟨(some 3), .mov (.s 0), none⟩,
 ⟨(some 4), .bin .geq (.s 3) (.c (.int .i64 1)), none⟩,
 ⟨(some 5), .mov (.s 4), none⟩,
 ⟨(some 6), .mov (.s 0), (some (5, true))⟩,
 ⟨(some 7), .bin .leq (.s 6) (.c (.int .i64 4)), (some (5, true))⟩,
 ⟨(some 8), .pick (.s 5) (.s 7) (.c (.bool false)), none⟩,
 ⟨(some 2), .mov (.s 8), none⟩] [3, 4, 5, 6, 7, 8])
 .ret))⟩

theorem c_opcode_val : compF Tryd.prog 46 = some F_opcode_val := by kernel_rfl
abbrev n_opcode_val : FuncId := 46

def F_ref05_block : IFun :=
⟨38, 1, [.tmp 2],
 (.seq (.reg [⟨(some 1), .box 35 3 (.s 0), none⟩,
 ⟨(some 2), .mov (.c (.bool false)), none⟩] [])
 (.seq (.seq (.reg [⟨(some 3), .fadr 0 (.s 1), none⟩,
 ⟨(some 4), .load none (.s 3), none⟩] [3])
 (.block 0 (.seq (.reg [⟨(some 6), .bin .eql (.s 4) (.c (.int .i64 0)), none⟩,
 ⟨(some 5), .mov (.s 6), none⟩] [6])
 (.cond (.s 5)
 (.seq (.reg [⟨(some 7), .fadr 1 (.s 1), none⟩,
 ⟨(some 8), .load none (.s 7), none⟩,
 ⟨(some 9), .bin .eql (.s 8) (.c (.int .i64 0)), none⟩,
 ⟨(some 10), .mov (.s 9), none⟩,
 ⟨(some 11), .fadr 2 (.s 1), (some (10, true))⟩,
 ⟨(some 12), .load none (.s 11), (some (10, true))⟩,
 ⟨(some 13), .bin .eql (.s 12) (.c (.int .i64 0)), (some (10, true))⟩,
 ⟨(some 14), .pick (.s 10) (.s 13) (.c (.bool false)), none⟩,
 ⟨(some 2), .mov (.s 14), none⟩] [7, 8, 9, 10, 11, 12, 13, 14])
 .ret)
 (.seq (.reg [⟨(some 16), .bin .eql (.s 4) (.c (.int .i64 1)), none⟩,
 ⟨(some 15), .mov (.s 16), none⟩] [16])
 (.cond (.s 15)
 (.seq (.reg [⟨(some 17), .fadr 1 (.s 1), none⟩,
 ⟨(some 18), .load none (.s 17), none⟩,
 ⟨(some 19), .call 50 [(.s 18)], none⟩,
 ⟨(some 20), .mov (.s 19), none⟩,
 ⟨(some 21), .fadr 2 (.s 1), (some (20, true))⟩,
 ⟨(some 22), .load none (.s 21), (some (20, true))⟩,
 ⟨(some 23), .bin .eql (.s 22) (.c (.int .i64 0)), (some (20, true))⟩,
 ⟨(some 24), .pick (.s 20) (.s 23) (.c (.bool false)), none⟩,
 ⟨(some 2), .mov (.s 24), none⟩] [17, 18, 19, 20, 21, 22, 23, 24])
 .ret)
 .skip))))))
 (.seq (.reg [⟨(some 25), .fadr 0 (.s 1), none⟩,
 ⟨(some 26), .load none (.s 25), none⟩,
 ⟨(some 27), .bin .eql (.s 26) (.c (.int .i64 2)), none⟩,
 ⟨(some 28), .mov (.s 27), none⟩,
 ⟨(some 29), .fadr 1 (.s 1), (some (28, true))⟩,
 ⟨(some 30), .load none (.s 29), (some (28, true))⟩,
 ⟨(some 31), .bin .eql (.s 30) (.c (.int .i64 0)), (some (28, true))⟩,
 ⟨(some 32), .pick (.s 28) (.s 31) (.c (.bool false)), none⟩,
 ⟨(some 33), .mov (.s 32), none⟩,
 ⟨(some 34), .fadr 2 (.s 1), (some (33, true))⟩,
 ⟨(some 35), .load none (.s 34), (some (33, true))⟩,
 ⟨(some 36), .call 48 [(.s 35)], (some (33, true))⟩,
 ⟨(some 37), .pick (.s 33) (.s 36) (.c (.bool false)), none⟩,
 ⟨(some 2), .mov (.s 37), none⟩] [25, 26, 27, 28, 29, 30, 31, 32, 33, 34, 35, 36, 37])
 .ret)))⟩

theorem c_ref05_block : compF Tryd.prog 47 = some F_ref05_block := by kernel_rfl
abbrev n_ref05_block : FuncId := 47

def F_ref05_index : IFun :=
⟨9, 1, [.tmp 2],
 (.seq (.reg [⟨(some 2), .mov (.c (.bool false)), none⟩] [])
 (.seq (.reg [⟨(some 3), .mov (.s 0), none⟩,
 ⟨(some 4), .bin .geq (.s 3) (.c (.int .i64 0)), none⟩,
 ⟨(some 5), .mov (.s 4), none⟩,
 ⟨(some 6), .mov (.s 0), (some (5, true))⟩,
 ⟨(some 7), .bin .lss (.s 6) (.c (.int .i64 4294967296)), (some (5, true))⟩,
 ⟨(some 8), .pick (.s 5) (.s 7) (.c (.bool false)), none⟩,
 ⟨(some 2), .mov (.s 8), none⟩] [3, 4, 5, 6, 7, 8])
 .ret))⟩

theorem c_ref05_index : compF Tryd.prog 48 = some F_ref05_index := by kernel_rfl
abbrev n_ref05_index : FuncId := 48

def F_ref05_labels : IFun :=
⟨16, 1, [.tmp 2],
 (.seq (.reg [⟨(some 2), .mov (.c (.bool false)), none⟩] [])
 (.seq (.seq (.reg [⟨(some 3), .mov (.c (.int .i64 0)), none⟩] [])
 (.block 0 (.loop (.seq (.seq (.reg [⟨(some 4), .mov (.s 3), none⟩,
 ⟨(some 5), .mov (.s 0), none⟩,
 ⟨(some 6), .len (.s 5), none⟩,
 ⟨(some 7), .bin .lss (.s 4) (.s 6), none⟩] [4, 5, 6])
 (.cond (.s 7)
 .skip
 (.exit 0)))
 (.seq (.block 1 (.seq (.reg [⟨(some 10), .mov (.s 0), none⟩,
 ⟨(some 11), .mov (.s 3), none⟩,
 ⟨(some 12), .iadr 1 (.s 10) (.s 11), none⟩,
 ⟨(some 13), .load none (.s 12), none⟩,
 ⟨(some 14), .call 48 [(.s 13)], none⟩,
 ⟨(some 15), .un .not (.s 14), none⟩] [10, 11, 12, 13, 14])
 (.cond (.s 15)
 (.seq (.reg [⟨(some 2), .mov (.c (.bool false)), none⟩] [])
 .ret)
 .skip)))
 (.reg [⟨(some 8), .mov (.s 3), none⟩,
 ⟨(some 9), .bin .add (.s 8) (.c (.int .i64 1)), none⟩,
 ⟨(some 3), .mov (.s 9), none⟩] [8, 9]))))))
 (.seq (.reg [⟨(some 2), .mov (.c (.bool true)), none⟩] [])
 .ret)))⟩

theorem c_ref05_labels : compF Tryd.prog 49 = some F_ref05_labels := by kernel_rfl
abbrev n_ref05_labels : FuncId := 49

def F_ref05_val : IFun :=
⟨9, 1, [.tmp 2],
 (.seq (.reg [⟨(some 2), .mov (.c (.bool false)), none⟩] [])
 (.seq (.reg [⟨(some 3), .mov (.s 0), none⟩,
 ⟨(some 4), .bin .geq (.s 3) (.c (.int .i64 1)), none⟩,
 ⟨(some 5), .mov (.s 4), none⟩,
 ⟨(some 6), .mov (.s 0), (some (5, true))⟩,
 ⟨(some 7), .bin .leq (.s 6) (.c (.int .i64 4)), (some (5, true))⟩,
 ⟨(some 8), .pick (.s 5) (.s 7) (.c (.bool false)), none⟩,
 ⟨(some 2), .mov (.s 8), none⟩] [3, 4, 5, 6, 7, 8])
 .ret))⟩

theorem c_ref05_val : compF Tryd.prog 50 = some F_ref05_val := by kernel_rfl
abbrev n_ref05_val : FuncId := 50

def F_ref05_find : IFun :=
⟨25, 1, [.cell 2 (some 3), .tmp 3],
 (.seq (.reg [⟨(some 2), .new 66 [(.int .i64 0), (.str []), (.int .i64 0)], none⟩,
 ⟨(some 3), .mov (.c (.bool false)), none⟩] [])
 (.seq (.reg [⟨(some 6), .call 57 [], none⟩,
 ⟨(some 4), .mov (.s 6), none⟩] [6])
 (.seq (.seq (.reg [⟨(some 5), .mov (.c (.int .i64 0)), none⟩] [])
 (.block 0 (.loop (.seq (.seq (.reg [⟨(some 7), .mov (.s 5), none⟩,
 ⟨(some 8), .mov (.s 4), none⟩,
 ⟨(some 9), .len (.s 8), none⟩,
 ⟨(some 10), .bin .lss (.s 7) (.s 9), none⟩] [7, 8, 9])
 (.cond (.s 10)
 .skip
 (.exit 0)))
 (.seq (.block 1 (.seq (.reg [⟨(some 13), .mov (.s 4), none⟩,
 ⟨(some 14), .mov (.s 5), none⟩,
 ⟨(some 15), .iadr 3 (.s 13) (.s 14), none⟩,
 ⟨(some 16), .fadr 0 (.s 15), none⟩,
 ⟨(some 17), .load none (.s 16), none⟩,
 ⟨(some 18), .mov (.s 0), none⟩,
 ⟨(some 19), .bin .eql (.s 17) (.s 18), none⟩] [13, 14, 15, 16, 17, 18])
 (.cond (.s 19)
 (.seq (.reg [⟨(some 20), .mov (.s 4), none⟩,
 ⟨(some 21), .mov (.s 5), none⟩,
 ⟨(some 22), .iadr 3 (.s 20) (.s 21), none⟩,
 ⟨(some 23), .load (some 3) (.s 22), none⟩,
 ⟨none, .store 3 (.s 2) (.s 23), none⟩,
 ⟨(some 3), .mov (.c (.bool true)), none⟩] [20, 21, 22, 23])
 .ret)
 .skip)))
 (.reg [⟨(some 11), .mov (.s 5), none⟩,
 ⟨(some 12), .bin .add (.s 11) (.c (.int .i64 1)), none⟩,
 ⟨(some 5), .mov (.s 12), none⟩] [11, 12]))))))
 (.seq (.reg [⟨(some 24), .build [(.int .i64 0), (.str []), (.int .i64 0)] [], none⟩,
 ⟨none, .store 3 (.s 2) (.s 24), none⟩,
 ⟨(some 3), .mov (.c (.bool false)), none⟩] [24])
 .ret))))⟩

theorem c_ref05_find : compF Tryd.prog 51 = some F_ref05_find := by kernel_rfl
abbrev n_ref05_find : FuncId := 51

def F_opcode_named : IFun :=
⟨1, 0, [.tmp 0],
 (.seq (.reg [⟨(some 0), .mov (.c .nf), none⟩] [])
 (.seq (.reg [⟨(some 0), .mov (.c (.fn 61 [])), none⟩] [])
 .ret))⟩

theorem c_opcode_named : compF Tryd.prog 52 = some F_opcode_named := by kernel_rfl
abbrev n_opcode_named : FuncId := 52

def F_opcode_stored : IFun :=
⟨26, 1, [.tmp 2],
 (.seq (.reg [⟨(some 2), .mov (.c (.int .i64 0)), none⟩] [])
 (.seq (.seq (.reg [⟨(some 3), .mov (.s 0), none⟩] [])
 (.block 0 (.seq (.seq (.reg [⟨(some 5), .bin .eql (.s 3) (.c (.int .i64 37)), none⟩,
 ⟨(some 4), .mov (.s 5), none⟩] [5])
 (.cond (.s 4)
 .skip
 (.seq (.reg [⟨(some 6), .bin .eql (.s 3) (.c (.int .i64 38)), none⟩,
 ⟨(some 4), .mov (.s 6), none⟩] [6])
 (.cond (.s 4)
 .skip
 (.seq (.reg [⟨(some 7), .bin .eql (.s 3) (.c (.int .i64 64528)), none⟩,
 ⟨(some 4), .mov (.s 7), none⟩] [7])
 (.cond (.s 4)
 .skip
 (.seq (.reg [⟨(some 8), .bin .eql (.s 3) (.c (.int .i64 64527)), none⟩,
 ⟨(some 4), .mov (.s 8), none⟩] [8])
 (.cond (.s 4)
 .skip
 (.reg [⟨(some 9), .bin .eql (.s 3) (.c (.int .i64 64529)), none⟩,
 ⟨(some 4), .mov (.s 9), none⟩] [9])))))))))
 (.cond (.s 4)
 (.seq (.reg [⟨(some 2), .mov (.c (.int .i64 9)), none⟩] [])
 .ret)
 (.seq (.reg [⟨(some 11), .bin .eql (.s 3) (.c (.int .i64 64526)), none⟩,
 ⟨(some 10), .mov (.s 11), none⟩] [11])
 (.cond (.s 10)
 (.seq (.reg [⟨(some 2), .mov (.c (.int .i64 10)), none⟩] [])
 .ret)
 (.seq (.reg [⟨(some 13), .bin .eql (.s 3) (.c (.int .i64 64524)), none⟩,
 ⟨(some 12), .mov (.s 13), none⟩] [13])
 (.cond (.s 12)
 (.seq (.reg [⟨(some 2), .mov (.c (.int .i64 11)), none⟩] [])
 .ret)
 (.seq (.reg [⟨(some 15), .bin .eql (.s 3) (.c (.int .i64 64525)), none⟩,
 ⟨(some 14), .mov (.s 15), none⟩] [15])
 (.cond (.s 14)
 (.seq (.reg [⟨(some 2), .mov (.c (.int .i64 12)), none⟩] [])
 .ret)
 (.seq (.seq (.reg [⟨(some 17), .bin .eql (.s 3) (.c (.int .i64 63)), none⟩,
 ⟨(some 16), .mov (.s 17), none⟩] [17])
 (.cond (.s 16)
 .skip
 (.seq (.reg [⟨(some 18), .bin .eql (.s 3) (.c (.int .i64 64)), none⟩,
 ⟨(some 16), .mov (.s 18), none⟩] [18])
 (.cond (.s 16)
 .skip
 (.reg [⟨(some 19), .bin .eql (.s 3) (.c (.int .i64 64523)), none⟩,
 ⟨(some 16), .mov (.s 19), none⟩] [19])))))
 (.cond (.s 16)
 (.seq (.reg [⟨(some 2), .mov (.c (.int .i64 13)), none⟩] [])
 .ret)
 (.seq (.reg [⟨(some 21), .bin .eql (.s 3) (.c (.int .i64 64522)), none⟩,
 ⟨(some 20), .mov (.s 21), none⟩] [21])
 (.cond (.s 20)
 (.seq (.reg [⟨(some 2), .mov (.c (.int .i64 14)), none⟩] [])
 .ret)
 (.seq (.reg [⟨(some 23), .bin .eql (.s 3) (.c (.int .i64 64520)), none⟩,
 ⟨(some 22), .mov (.s 23), none⟩] [23])
 (.cond (.s 22)
 (.seq (.reg [⟨(some 2), .mov (.c (.int .i64 15)), none⟩] [])
 .ret)
 (.seq (.reg [⟨(some 25), .bin .eql (.s 3) (.c (.int .i64 64521)), none⟩,
 ⟨(some 24), .mov (.s 25), none⟩] [25])
 (.cond (.s 24)
 (.seq (.reg [⟨(some 2), .mov (.c (.int .i64 16)), none⟩] [])
 .ret)
 .skip))))))))))))))))))
 (.seq (.reg [⟨(some 2), .mov (.c (.int .i64 0)), none⟩] [])
 .ret)))⟩

theorem c_opcode_stored : compF Tryd.prog 53 = some F_opcode_stored := by kernel_rfl
abbrev n_opcode_stored : FuncId := 53

def F_opcode_access : IFun :=
⟨13, 1, [.tmp 2],
 (.seq (.reg [⟨(some 2), .mov (.c (.bool false)), none⟩] [])
 (.seq (.reg [⟨(some 3), .mov (.s 0), none⟩,
 ⟨(some 4), .bin .geq (.s 3) (.c (.int .i64 40)), none⟩,
 ⟨(some 5), .mov (.s 4), none⟩,
 ⟨(some 6), .mov (.s 0), (some (5, true))⟩,
 ⟨(some 7), .bin .leq (.s 6) (.c (.int .i64 62)), (some (5, true))⟩,
 ⟨(some 8), .pick (.s 5) (.s 7) (.c (.bool false)), none⟩,
 ⟨(some 9), .mov (.s 8), none⟩,
 ⟨(some 10), .mov (.s 0), (some (9, true))⟩,
 ⟨(some 11), .call 17 [(.s 10)], (some (9, true))⟩,
 ⟨(some 12), .pick (.s 9) (.s 11) (.c (.bool false)), none⟩,
 ⟨(some 2), .mov (.s 12), none⟩] [3, 4, 5, 6, 7, 8, 9, 10, 11, 12])
 .ret))⟩

theorem c_opcode_access : compF Tryd.prog 54 = some F_opcode_access := by kernel_rfl
abbrev n_opcode_access : FuncId := 54

def F_strings_Contains : IFun :=
⟨9, 2, [.tmp 4],
 (.seq (.reg [⟨(some 4), .mov (.c (.bool false)), none⟩] [])
 (.seq (.reg [⟨(some 5), .mov (.s 0), none⟩,
 ⟨(some 6), .mov (.s 1), none⟩,
 ⟨(some 7), .call 64 [(.s 5), (.s 6)], none⟩,
 ⟨(some 8), .bin .geq (.s 7) (.c (.int .i64 0)), none⟩,
 ⟨(some 4), .mov (.s 8), none⟩] [5, 6, 7, 8])
 .ret))⟩

theorem c_strings_Contains : compF Tryd.prog 55 = some F_strings_Contains := by kernel_rfl
abbrev n_strings_Contains : FuncId := 55

def F_ref05_rows : IFun :=
⟨38, 0, [.tmp 0],
 (.seq (.reg [⟨(some 0), .mov (.c .nl), none⟩] [])
 (.seq (.reg [⟨(some 2), .call 65 [], none⟩,
 ⟨(some 3), .call 66 [], none⟩,
 ⟨(some 4), .app 66 3 (.s 2) (.s 3), none⟩,
 ⟨(some 1), .mov (.s 4), none⟩] [2, 3, 4])
 (.seq (.reg [⟨(some 5), .mov (.s 1), none⟩,
 ⟨(some 6), .call 68 [], none⟩,
 ⟨(some 7), .call 67 [(.c (.int .i64 69)), (.c (.str [105, 51, 50])), (.s 6)], none⟩,
 ⟨(some 8), .app 66 3 (.s 5) (.s 7), none⟩,
 ⟨(some 1), .mov (.s 8), none⟩] [5, 6, 7, 8])
 (.seq (.reg [⟨(some 9), .mov (.s 1), none⟩,
 ⟨(some 10), .call 68 [], none⟩,
 ⟨(some 11), .call 67 [(.c (.int .i64 80)), (.c (.str [105, 54, 52])), (.s 10)], none⟩,
 ⟨(some 12), .app 66 3 (.s 9) (.s 11), none⟩,
 ⟨(some 1), .mov (.s 12), none⟩] [9, 10, 11, 12])
 (.seq (.reg [⟨(some 13), .mov (.s 1), none⟩,
 ⟨(some 14), .call 69 [], none⟩,
 ⟨(some 15), .call 67 [(.c (.int .i64 103)), (.c (.str [105, 51, 50])), (.s 14)], none⟩,
 ⟨(some 16), .app 66 3 (.s 13) (.s 15), none⟩,
 ⟨(some 1), .mov (.s 16), none⟩] [13, 14, 15, 16])
 (.seq (.reg [⟨(some 17), .mov (.s 1), none⟩,
 ⟨(some 18), .call 69 [], none⟩,
 ⟨(some 19), .call 67 [(.c (.int .i64 121)), (.c (.str [105, 54, 52])), (.s 18)], none⟩,
 ⟨(some 20), .app 66 3 (.s 17) (.s 19), none⟩,
 ⟨(some 1), .mov (.s 20), none⟩] [17, 18, 19, 20])
 (.seq (.reg [⟨(some 21), .mov (.s 1), none⟩,
 ⟨(some 22), .build [(.int .i64 0), (.str []), (.int .i64 0)] [(0, 1, (.c (.int .i64 167))), (1, 1, (.c (.str [105, 51, 50, 46, 119, 114, 97, 112, 95, 105, 54, 52]))), (2, 1, (.c (.int .i64 0)))], none⟩,
 ⟨(some 23), .build [(.int .i64 0), (.str []), (.int .i64 0)] [(0, 1, (.c (.int .i64 172))), (1, 1, (.c (.str [105, 54, 52, 46, 101, 120, 116, 101, 110, 100, 95, 105, 51, 50, 95, 115]))), (2, 1, (.c (.int .i64 0)))], none⟩,
 ⟨(some 24), .build [(.int .i64 0), (.str []), (.int .i64 0)] [(0, 1, (.c (.int .i64 173))), (1, 1, (.c (.str [105, 54, 52, 46, 101, 120, 116, 101, 110, 100, 95, 105, 51, 50, 95, 117]))), (2, 1, (.c (.int .i64 0)))], none⟩,
 ⟨(some 25), .bsl 66 3 [[(.int .i64 0), (.str []), (.int .i64 0)], [(.int .i64 0), (.str []), (.int .i64 0)], [(.int .i64 0), (.str []), (.int .i64 0)]] [(0, (.s 22)), (1, (.s 23)), (2, (.s 24))], none⟩,
 ⟨(some 26), .app 66 3 (.s 21) (.s 25), none⟩,
 ⟨(some 1), .mov (.s 26), none⟩] [21, 22, 23, 24, 25, 26])
 (.seq (.reg [⟨(some 27), .mov (.s 1), none⟩,
 ⟨(some 28), .bsl 9 1 [[(.str [])], [(.str [])]] [(0, (.c (.str [101, 120, 116, 101, 110, 100, 56, 95, 115]))), (1, (.c (.str [101, 120, 116, 101, 110, 100, 49, 54, 95, 115])))], none⟩,
 ⟨(some 29), .call 67 [(.c (.int .i64 192)), (.c (.str [105, 51, 50])), (.s 28)], none⟩,
 ⟨(some 30), .app 66 3 (.s 27) (.s 29), none⟩,
 ⟨(some 1), .mov (.s 30), none⟩] [27, 28, 29, 30])
 (.seq (.reg [⟨(some 31), .mov (.s 1), none⟩,
 ⟨(some 32), .bsl 9 1 [[(.str [])], [(.str [])], [(.str [])]] [(0, (.c (.str [101, 120, 116, 101, 110, 100, 56, 95, 115]))), (1, (.c (.str [101, 120, 116, 101, 110, 100, 49, 54, 95, 115]))), (2, (.c (.str [101, 120, 116, 101, 110, 100, 51, 50, 95, 115])))], none⟩,
 ⟨(some 33), .call 67 [(.c (.int .i64 194)), (.c (.str [105, 54, 52])), (.s 32)], none⟩,
 ⟨(some 34), .app 66 3 (.s 31) (.s 33), none⟩,
 ⟨(some 1), .mov (.s 34), none⟩] [31, 32, 33, 34])
 (.seq (.reg [⟨(some 35), .mov (.s 1), none⟩,
 ⟨(some 36), .call 70 [], none⟩,
 ⟨(some 37), .app 66 3 (.s 35) (.s 36), none⟩,
 ⟨(some 0), .mov (.s 37), none⟩] [35, 36, 37])
 .ret))))))))))⟩

theorem c_ref05_rows : compF Tryd.prog 57 = some F_ref05_rows := by kernel_rfl
abbrev n_ref05_rows : FuncId := 57

def F_api_Val : IFun :=
⟨26, 2, [.tmp 4],
 (.seq (.reg [⟨(some 4), .mov (.c (.bool false)), none⟩] [])
 (.seq (.seq (.reg [⟨(some 6), .mov (.s 0), none⟩,
 ⟨(some 7), .len (.s 6), none⟩,
 ⟨(some 8), .mov (.s 1), none⟩,
 ⟨(some 9), .len (.s 8), none⟩,
 ⟨(some 10), .bin .neq (.s 7) (.s 9), none⟩] [6, 7, 8, 9])
 (.cond (.s 10)
 (.seq (.reg [⟨(some 4), .mov (.c (.bool false)), none⟩] [])
 .ret)
 .skip))
 (.seq (.seq (.reg [⟨(some 11), .mov (.s 0), none⟩,
 ⟨(some 12), .len (.s 11), none⟩,
 ⟨(some 13), .mov (.c (.int .i64 0)), none⟩] [11])
 (.block 0 (.loop (.seq (.reg [⟨(some 14), .bin .lss (.s 13) (.s 12), none⟩] [])
 (.seq (.cond (.s 14)
 .skip
 (.exit 0))
 (.seq (.block 1 (.seq (.reg [⟨(some 15), .mov (.s 13), none⟩,
 ⟨(some 5), .mov (.s 15), none⟩] [15])
 (.seq (.seq (.draw [⟨⟨(some 16), .mov (.s 0), none⟩, []⟩,
 ⟨⟨(some 17), .mov (.s 5), none⟩, []⟩,
 ⟨⟨(some 18), .iadr 1 (.s 16) (.s 17), none⟩, [0, 1]⟩,
 ⟨⟨(some 19), .load none (.s 18), none⟩, [2, 0, 1]⟩,
 ⟨⟨(some 20), .mov (.s 1), none⟩, []⟩,
 ⟨⟨(some 21), .mov (.s 5), none⟩, []⟩,
 ⟨⟨(some 22), .iadr 1 (.s 20) (.s 21), none⟩, [4, 5]⟩,
 ⟨⟨(some 23), .load none (.s 22), none⟩, [6, 4, 5]⟩] [] [])
 (.reg [⟨(some 24), .bin .neq (.s 19) (.s 23), none⟩] [16, 17, 18, 19, 20, 21, 22, 23]))
 (.cond (.s 24)
 (.seq (.reg [⟨(some 4), .mov (.c (.bool false)), none⟩] [])
 .ret)
 .skip))))
 (.reg [⟨(some 25), .bin .add (.s 13) (.c (.int .i64 1)), none⟩,
 ⟨(some 13), .mov (.s 25), none⟩] [25])))))))
 (.seq (.reg [⟨(some 4), .mov (.c (.bool true)), none⟩] [])
 .ret))))⟩

theorem c_api_Val : compF Tryd.prog 58 = some F_api_Val := by kernel_rfl
abbrev n_api_Val : FuncId := 58

def F_slices_Equal_int_int : IFun :=
⟨26, 2, [.tmp 4],
 (.seq (.reg [⟨(some 4), .mov (.c (.bool false)), none⟩] [])
 (.seq (.seq (.reg [⟨(some 6), .mov (.s 0), none⟩,
 ⟨(some 7), .len (.s 6), none⟩,
 ⟨(some 8), .mov (.s 1), none⟩,
 ⟨(some 9), .len (.s 8), none⟩,
 ⟨(some 10), .bin .neq (.s 7) (.s 9), none⟩] [6, 7, 8, 9])
 (.cond (.s 10)
 (.seq (.reg [⟨(some 4), .mov (.c (.bool false)), none⟩] [])
 .ret)
 .skip))
 (.seq (.seq (.reg [⟨(some 11), .mov (.s 0), none⟩,
 ⟨(some 12), .len (.s 11), none⟩,
 ⟨(some 13), .mov (.c (.int .i64 0)), none⟩] [11])
 (.block 0 (.loop (.seq (.reg [⟨(some 14), .bin .lss (.s 13) (.s 12), none⟩] [])
 (.seq (.cond (.s 14)
 .skip
 (.exit 0))
 (.seq (.block 1 (.seq (.reg [⟨(some 15), .mov (.s 13), none⟩,
 ⟨(some 5), .mov (.s 15), none⟩] [15])
 (.seq (.seq (.draw [⟨⟨(some 16), .mov (.s 0), none⟩, []⟩,
 ⟨⟨(some 17), .mov (.s 5), none⟩, []⟩,
 ⟨⟨(some 18), .iadr 1 (.s 16) (.s 17), none⟩, [0, 1]⟩,
 ⟨⟨(some 19), .load none (.s 18), none⟩, [2, 0, 1]⟩,
 ⟨⟨(some 20), .mov (.s 1), none⟩, []⟩,
 ⟨⟨(some 21), .mov (.s 5), none⟩, []⟩,
 ⟨⟨(some 22), .iadr 1 (.s 20) (.s 21), none⟩, [4, 5]⟩,
 ⟨⟨(some 23), .load none (.s 22), none⟩, [6, 4, 5]⟩] [] [])
 (.reg [⟨(some 24), .bin .neq (.s 19) (.s 23), none⟩] [16, 17, 18, 19, 20, 21, 22, 23]))
 (.cond (.s 24)
 (.seq (.reg [⟨(some 4), .mov (.c (.bool false)), none⟩] [])
 .ret)
 .skip))))
 (.reg [⟨(some 25), .bin .add (.s 13) (.c (.int .i64 1)), none⟩,
 ⟨(some 13), .mov (.s 25), none⟩] [25])))))))
 (.seq (.reg [⟨(some 4), .mov (.c (.bool true)), none⟩] [])
 .ret))))⟩

theorem c_slices_Equal_int_int : compF Tryd.prog 59 = some F_slices_Equal_int_int := by kernel_rfl
abbrev n_slices_Equal_int_int : FuncId := 59

def F_stringslite_HasPrefix : IFun :=
⟨18, 2, [.tmp 4],
 (.seq (.reg [⟨(some 4), .mov (.c (.bool false)), none⟩] [])
 (.seq (.reg [⟨(some 5), .mov (.s 0), none⟩,
 ⟨(some 6), .slen (.s 5), none⟩,
 ⟨(some 7), .mov (.s 1), none⟩,
 ⟨(some 8), .slen (.s 7), none⟩,
 ⟨(some 9), .bin .geq (.s 6) (.s 8), none⟩,
 ⟨(some 10), .mov (.s 9), none⟩,
 ⟨(some 11), .mov (.s 0), (some (10, true))⟩,
 ⟨(some 12), .mov (.s 1), (some (10, true))⟩,
 ⟨(some 13), .slen (.s 12), (some (10, true))⟩,
 ⟨(some 14), .sslc (.s 11) none (some (.s 13)), (some (10, true))⟩,
 ⟨(some 15), .mov (.s 1), (some (10, true))⟩,
 ⟨(some 16), .bin .eql (.s 14) (.s 15), (some (10, true))⟩,
 ⟨(some 17), .pick (.s 10) (.s 16) (.c (.bool false)), none⟩,
 ⟨(some 4), .mov (.s 17), none⟩] [5, 6, 7, 8, 9, 10, 11, 12, 13, 14, 15, 16, 17])
 .ret))⟩

theorem c_stringslite_HasPrefix : compF Tryd.prog 60 = some F_stringslite_HasPrefix := by kernel_rfl
abbrev n_stringslite_HasPrefix : FuncId := 60

def F_opcode_named_1 : IFun :=
⟨34, 1, [],
 (.seq (.reg [⟨(some 6), .call 62 [], none⟩,
 ⟨(some 7), .len (.s 6), none⟩,
 ⟨(some 8), .mov (.c (.int .i64 0)), none⟩] [])
 (.block 0 (.loop (.seq (.reg [⟨(some 9), .bin .lss (.s 8) (.s 7), none⟩] [])
 (.seq (.cond (.s 9)
 .skip
 (.exit 0))
 (.seq (.block 1 (.seq (.reg [⟨(some 10), .iadr 3 (.s 6) (.s 8), none⟩,
 ⟨(some 11), .load (some 3) (.s 10), none⟩,
 ⟨(some 3), .new 80 [(.int .i64 0), (.str []), (.str [])], none⟩,
 ⟨none, .store 3 (.s 3) (.s 11), none⟩] [10, 11])
 (.seq (.reg [⟨(some 12), .fadr 2 (.s 3), none⟩,
 ⟨(some 13), .load none (.s 12), none⟩,
 ⟨(some 14), .call 63 [(.s 13)], none⟩,
 ⟨(some 15), .len (.s 14), none⟩,
 ⟨(some 16), .mov (.c (.int .i64 0)), none⟩] [12, 13])
 (.block 2 (.loop (.seq (.reg [⟨(some 17), .bin .lss (.s 16) (.s 15), none⟩] [])
 (.seq (.cond (.s 17)
 .skip
 (.exit 2))
 (.seq (.block 3 (.seq (.reg [⟨(some 18), .mov (.s 16), none⟩,
 ⟨(some 19), .iadr 1 (.s 14) (.s 16), none⟩,
 ⟨(some 20), .load none (.s 19), none⟩,
 ⟨(some 4), .mov (.s 18), none⟩,
 ⟨(some 5), .mov (.s 20), none⟩] [18, 19, 20])
 (.seq (.reg [⟨(some 21), .mov (.s 0), none⟩,
 ⟨(some 22), .fadr 0 (.s 3), none⟩,
 ⟨(some 23), .load none (.s 22), none⟩,
 ⟨(some 24), .mov (.s 4), none⟩,
 ⟨(some 25), .bin .add (.s 23) (.s 24), none⟩,
 ⟨(some 26), .fadr 1 (.s 3), none⟩,
 ⟨(some 27), .load none (.s 26), none⟩,
 ⟨(some 28), .mov (.s 5), none⟩,
 ⟨(some 29), .bin .add (.s 27) (.s 28), none⟩,
 ⟨(some 30), .callv (.s 21) [(.s 25), (.s 29)], none⟩,
 ⟨(some 31), .un .not (.s 30), none⟩] [21, 22, 23, 24, 25, 26, 27, 28, 29, 30])
 (.cond (.s 31)
 .ret
 .skip))))
 (.reg [⟨(some 32), .bin .add (.s 16) (.c (.int .i64 1)), none⟩,
 ⟨(some 16), .mov (.s 32), none⟩] [32])))))))))
 (.reg [⟨(some 33), .bin .add (.s 8) (.c (.int .i64 1)), none⟩,
 ⟨(some 8), .mov (.s 33), none⟩] [33])))))))⟩

theorem c_opcode_named_1 : compF Tryd.prog 61 = some F_opcode_named_1 := by kernel_rfl
abbrev n_opcode_named_1 : FuncId := 61

def F_opcode_rows : IFun :=
⟨26, 0, [.tmp 0],
 (.seq (.reg [⟨(some 0), .mov (.c .nl), none⟩] [])
 (.seq (.reg [⟨(some 1), .build [(.int .i64 0), (.str []), (.str [])] [(0, 1, (.c (.int .i64 0))), (1, 1, (.c (.str []))), (2, 1, (.c (.str [117, 110, 114, 101, 97, 99, 104, 97, 98, 108, 101, 32, 110, 111, 112, 32, 98, 108, 111, 99, 107, 32, 108, 111, 111, 112, 32, 105, 102, 32, 101, 108, 115, 101])))], none⟩,
 ⟨(some 2), .build [(.int .i64 0), (.str []), (.str [])] [(0, 1, (.c (.int .i64 11))), (1, 1, (.c (.str []))), (2, 1, (.c (.str [101, 110, 100, 32, 98, 114, 32, 98, 114, 95, 105, 102, 32, 98, 114, 95, 116, 97, 98, 108, 101, 32, 114, 101, 116, 117, 114, 110, 32, 99, 97, 108, 108, 32, 99, 97, 108, 108, 95, 105, 110, 100, 105, 114, 101, 99, 116])))], none⟩,
 ⟨(some 3), .build [(.int .i64 0), (.str []), (.str [])] [(0, 1, (.c (.int .i64 26))), (1, 1, (.c (.str []))), (2, 1, (.c (.str [100, 114, 111, 112, 32, 115, 101, 108, 101, 99, 116, 32, 115, 101, 108, 101, 99, 116])))], none⟩,
 ⟨(some 4), .build [(.int .i64 0), (.str []), (.str [])] [(0, 1, (.c (.int .i64 32))), (1, 1, (.c (.str [108, 111, 99, 97, 108, 46]))), (2, 1, (.c (.str [103, 101, 116, 32, 115, 101, 116, 32, 116, 101, 101])))], none⟩,
 ⟨(some 5), .build [(.int .i64 0), (.str []), (.str [])] [(0, 1, (.c (.int .i64 35))), (1, 1, (.c (.str [103, 108, 111, 98, 97, 108, 46]))), (2, 1, (.c (.str [103, 101, 116, 32, 115, 101, 116])))], none⟩,
 ⟨(some 6), .build [(.int .i64 0), (.str []), (.str [])] [(0, 1, (.c (.int .i64 37))), (1, 1, (.c (.str [116, 97, 98, 108, 101, 46]))), (2, 1, (.c (.str [103, 101, 116, 32, 115, 101, 116])))], none⟩,
 ⟨(some 7), .build [(.int .i64 0), (.str []), (.str [])] [(0, 1, (.c (.int .i64 40))), (1, 1, (.c (.str []))), (2, 1, (.c (.str [105, 51, 50, 46, 108, 111, 97, 100, 32, 105, 54, 52, 46, 108, 111, 97, 100])))], none⟩,
 ⟨(some 8), .build [(.int .i64 0), (.str []), (.str [])] [(0, 1, (.c (.int .i64 44))), (1, 1, (.c (.str [105, 51, 50, 46]))), (2, 1, (.c (.str [108, 111, 97, 100, 56, 95, 115, 32, 108, 111, 97, 100, 56, 95, 117, 32, 108, 111, 97, 100, 49, 54, 95, 115, 32, 108, 111, 97, 100, 49, 54, 95, 117])))], none⟩,
 ⟨(some 9), .build [(.int .i64 0), (.str []), (.str [])] [(0, 1, (.c (.int .i64 48))), (1, 1, (.c (.str [105, 54, 52, 46]))), (2, 1, (.c (.str [108, 111, 97, 100, 56, 95, 115, 32, 108, 111, 97, 100, 56, 95, 117, 32, 108, 111, 97, 100, 49, 54, 95, 115, 32, 108, 111, 97, 100, 49, 54, 95, 117, 32, 108, 111, 97, 100, 51, 50, 95, 115, 32, 108, 111, 97, 100, 51, 50, 95, 117])))], none⟩,
 ⟨(some 10), .build [(.int .i64 0), (.str []), (.str [])] [(0, 1, (.c (.int .i64 54))), (1, 1, (.c (.str []))), (2, 1, (.c (.str [105, 51, 50, 46, 115, 116, 111, 114, 101, 32, 105, 54, 52, 46, 115, 116, 111, 114, 101])))], none⟩,
 ⟨(some 11), .build [(.int .i64 0), (.str []), (.str [])] [(0, 1, (.c (.int .i64 58))), (1, 1, (.c (.str [105, 51, 50, 46]))), (2, 1, (.c (.str [115, 116, 111, 114, 101, 56, 32, 115, 116, 111, 114, 101, 49, 54])))], none⟩,
 ⟨(some 12), .build [(.int .i64 0), (.str []), (.str [])] [(0, 1, (.c (.int .i64 60))), (1, 1, (.c (.str [105, 54, 52, 46]))), (2, 1, (.c (.str [115, 116, 111, 114, 101, 56, 32, 115, 116, 111, 114, 101, 49, 54, 32, 115, 116, 111, 114, 101, 51, 50])))], none⟩,
 ⟨(some 13), .build [(.int .i64 0), (.str []), (.str [])] [(0, 1, (.c (.int .i64 63))), (1, 1, (.c (.str [109, 101, 109, 111, 114, 121, 46]))), (2, 1, (.c (.str [115, 105, 122, 101, 32, 103, 114, 111, 119])))], none⟩,
 ⟨(some 14), .build [(.int .i64 0), (.str []), (.str [])] [(0, 1, (.c (.int .i64 65))), (1, 1, (.c (.str []))), (2, 1, (.c (.str [105, 51, 50, 46, 99, 111, 110, 115, 116, 32, 105, 54, 52, 46, 99, 111, 110, 115, 116])))], none⟩,
 ⟨(some 15), .build [(.int .i64 0), (.str []), (.str [])] [(0, 1, (.c (.int .i64 69))), (1, 1, (.c (.str [105, 51, 50, 46]))), (2, 1, (.c (.str [101, 113, 122, 32, 101, 113, 32, 110, 101, 32, 108, 116, 95, 115, 32, 108, 116, 95, 117, 32, 103, 116, 95, 115, 32, 103, 116, 95, 117, 32, 108, 101, 95, 115, 32, 108, 101, 95, 117, 32, 103, 101, 95, 115, 32, 103, 101, 95, 117])))], none⟩,
 ⟨(some 16), .build [(.int .i64 0), (.str []), (.str [])] [(0, 1, (.c (.int .i64 80))), (1, 1, (.c (.str [105, 54, 52, 46]))), (2, 1, (.c (.str [101, 113, 122, 32, 101, 113, 32, 110, 101, 32, 108, 116, 95, 115, 32, 108, 116, 95, 117, 32, 103, 116, 95, 115, 32, 103, 116, 95, 117, 32, 108, 101, 95, 115, 32, 108, 101, 95, 117, 32, 103, 101, 95, 115, 32, 103, 101, 95, 117])))], none⟩,
 ⟨(some 17), .build [(.int .i64 0), (.str []), (.str [])] [(0, 1, (.c (.int .i64 103))), (1, 1, (.c (.str [105, 51, 50, 46]))), (2, 1, (.c (.str [99, 108, 122, 32, 99, 116, 122, 32, 112, 111, 112, 99, 110, 116, 32, 97, 100, 100, 32, 115, 117, 98, 32, 109, 117, 108, 32, 100, 105, 118, 95, 115, 32, 100, 105, 118, 95, 117, 32, 114, 101, 109, 95, 115, 32, 114, 101, 109, 95, 117, 32, 97, 110, 100, 32, 111, 114, 32, 120, 111, 114, 32, 115, 104, 108, 32, 115, 104, 114, 95, 115, 32, 115, 104, 114, 95, 117, 32, 114, 111, 116, 108, 32, 114, 111, 116, 114])))], none⟩,
 ⟨(some 18), .build [(.int .i64 0), (.str []), (.str [])] [(0, 1, (.c (.int .i64 121))), (1, 1, (.c (.str [105, 54, 52, 46]))), (2, 1, (.c (.str [99, 108, 122, 32, 99, 116, 122, 32, 112, 111, 112, 99, 110, 116, 32, 97, 100, 100, 32, 115, 117, 98, 32, 109, 117, 108, 32, 100, 105, 118, 95, 115, 32, 100, 105, 118, 95, 117, 32, 114, 101, 109, 95, 115, 32, 114, 101, 109, 95, 117, 32, 97, 110, 100, 32, 111, 114, 32, 120, 111, 114, 32, 115, 104, 108, 32, 115, 104, 114, 95, 115, 32, 115, 104, 114, 95, 117, 32, 114, 111, 116, 108, 32, 114, 111, 116, 114])))], none⟩,
 ⟨(some 19), .build [(.int .i64 0), (.str []), (.str [])] [(0, 1, (.c (.int .i64 167))), (1, 1, (.c (.str []))), (2, 1, (.c (.str [105, 51, 50, 46, 119, 114, 97, 112, 95, 105, 54, 52])))], none⟩,
 ⟨(some 20), .build [(.int .i64 0), (.str []), (.str [])] [(0, 1, (.c (.int .i64 172))), (1, 1, (.c (.str [105, 54, 52, 46]))), (2, 1, (.c (.str [101, 120, 116, 101, 110, 100, 95, 105, 51, 50, 95, 115, 32, 101, 120, 116, 101, 110, 100, 95, 105, 51, 50, 95, 117])))], none⟩,
 ⟨(some 21), .build [(.int .i64 0), (.str []), (.str [])] [(0, 1, (.c (.int .i64 192))), (1, 1, (.c (.str [105, 51, 50, 46]))), (2, 1, (.c (.str [101, 120, 116, 101, 110, 100, 56, 95, 115, 32, 101, 120, 116, 101, 110, 100, 49, 54, 95, 115])))], none⟩,
 ⟨(some 22), .build [(.int .i64 0), (.str []), (.str [])] [(0, 1, (.c (.int .i64 194))), (1, 1, (.c (.str [105, 54, 52, 46]))), (2, 1, (.c (.str [101, 120, 116, 101, 110, 100, 56, 95, 115, 32, 101, 120, 116, 101, 110, 100, 49, 54, 95, 115, 32, 101, 120, 116, 101, 110, 100, 51, 50, 95, 115])))], none⟩,
 ⟨(some 23), .build [(.int .i64 0), (.str []), (.str [])] [(0, 1, (.c (.int .i64 208))), (1, 1, (.c (.str [114, 101, 102, 46]))), (2, 1, (.c (.str [110, 117, 108, 108, 32, 105, 115, 95, 110, 117, 108, 108, 32, 102, 117, 110, 99])))], none⟩,
 ⟨(some 24), .build [(.int .i64 0), (.str []), (.str [])] [(0, 1, (.c (.int .i64 64520))), (1, 1, (.c (.str []))), (2, 1, (.c (.str [109, 101, 109, 111, 114, 121, 46, 105, 110, 105, 116, 32, 100, 97, 116, 97, 46, 100, 114, 111, 112, 32, 109, 101, 109, 111, 114, 121, 46, 99, 111, 112, 121, 32, 109, 101, 109, 111, 114, 121, 46, 102, 105, 108, 108, 32, 116, 97, 98, 108, 101, 46, 105, 110, 105, 116, 32, 101, 108, 101, 109, 46, 100, 114, 111, 112, 32, 116, 97, 98, 108, 101, 46, 99, 111, 112, 121, 32, 116, 97, 98, 108, 101, 46, 103, 114, 111, 119, 32, 116, 97, 98, 108, 101, 46, 115, 105, 122, 101, 32, 116, 97, 98, 108, 101, 46, 102, 105, 108, 108])))], none⟩,
 ⟨(some 25), .bsl 80 3 [[(.int .i64 0), (.str []), (.str [])], [(.int .i64 0), (.str []), (.str [])], [(.int .i64 0), (.str []), (.str [])], [(.int .i64 0), (.str []), (.str [])], [(.int .i64 0), (.str []), (.str [])], [(.int .i64 0), (.str []), (.str [])], [(.int .i64 0), (.str []), (.str [])], [(.int .i64 0), (.str []), (.str [])], [(.int .i64 0), (.str []), (.str [])], [(.int .i64 0), (.str []), (.str [])], [(.int .i64 0), (.str []), (.str [])], [(.int .i64 0), (.str []), (.str [])], [(.int .i64 0), (.str []), (.str [])], [(.int .i64 0), (.str []), (.str [])], [(.int .i64 0), (.str []), (.str [])], [(.int .i64 0), (.str []), (.str [])], [(.int .i64 0), (.str []), (.str [])], [(.int .i64 0), (.str []), (.str [])], [(.int .i64 0), (.str []), (.str [])], [(.int .i64 0), (.str []), (.str [])], [(.int .i64 0), (.str []), (.str [])], [(.int .i64 0), (.str []), (.str [])], [(.int .i64 0), (.str []), (.str [])], [(.int .i64 0), (.str []), (.str [])]] [(0, (.s 1)), (1, (.s 2)), (2, (.s 3)), (3, (.s 4)), (4, (.s 5)), (5, (.s 6)), (6, (.s 7)), (7, (.s 8)), (8, (.s 9)), (9, (.s 10)), (10, (.s 11)), (11, (.s 12)), (12, (.s 13)), (13, (.s 14)), (14, (.s 15)), (15, (.s 16)), (16, (.s 17)), (17, (.s 18)), (18, (.s 19)), (19, (.s 20)), (20, (.s 21)), (21, (.s 22)), (22, (.s 23)), (23, (.s 24))], none⟩,
 ⟨(some 0), .mov (.s 25), none⟩] [1, 2, 3, 4, 5, 6, 7, 8, 9, 10, 11, 12, 13, 14, 15, 16, 17, 18, 19, 20, 21, 22, 23, 24, 25])
 .ret))⟩

theorem c_opcode_rows : compF Tryd.prog 62 = some F_opcode_rows := by kernel_rfl
abbrev n_opcode_rows : FuncId := 62

def F_strings_Fields : IFun :=
⟨106, 1, [.tmp 2],
 (.seq (.reg [⟨(some 2), .mov (.c .nl), none⟩] [])
 (.seq (.reg [⟨(some 3), .mov (.c (.int .i64 0)), none⟩] [])
 (.seq (.reg [⟨(some 4), .mov (.c (.int .i64 1)), none⟩] [])
 (.seq (.reg [⟨(some 5), .mov (.c (.int .u8 0)), none⟩] [])
 (.seq (.seq (.reg [⟨(some 6), .mov (.c (.int .i64 0)), none⟩] [])
 (.block 0 (.loop (.seq (.seq (.reg [⟨(some 13), .mov (.s 6), none⟩,
 ⟨(some 14), .mov (.s 0), none⟩,
 ⟨(some 15), .slen (.s 14), none⟩,
 ⟨(some 16), .bin .lss (.s 13) (.s 15), none⟩] [13, 14, 15])
 (.cond (.s 16)
 .skip
 (.exit 0)))
 (.seq (.block 1 (.seq (.reg [⟨(some 19), .mov (.s 0), none⟩,
 ⟨(some 20), .mov (.s 6), none⟩,
 ⟨(some 21), .sidx (.s 19) (.s 20), none⟩,
 ⟨(some 7), .mov (.s 21), none⟩] [19, 20, 21])
 (.seq (.reg [⟨(some 22), .mov (.s 5), none⟩,
 ⟨(some 23), .mov (.s 7), none⟩,
 ⟨(some 24), .bin .or (.s 22) (.s 23), none⟩,
 ⟨(some 5), .mov (.s 24), none⟩] [22, 23, 24])
 (.seq (.reg [⟨(some 25), .mov (.s 7), none⟩,
 ⟨(some 26), .aadr 1 256 (.s 1000000) (.s 25), none⟩,
 ⟨(some 27), .load none (.s 26), none⟩,
 ⟨(some 28), .cvi .i64 (.s 27), none⟩,
 ⟨(some 8), .mov (.s 28), none⟩] [25, 26, 27, 28])
 (.seq (.reg [⟨(some 29), .mov (.s 3), none⟩,
 ⟨(some 30), .mov (.s 4), none⟩,
 ⟨(some 31), .mov (.s 8), none⟩,
 ⟨(some 32), .un .xor (.s 31), none⟩,
 ⟨(some 33), .bin .and (.s 30) (.s 32), none⟩,
 ⟨(some 34), .bin .add (.s 29) (.s 33), none⟩,
 ⟨(some 3), .mov (.s 34), none⟩] [29, 30, 31, 32, 33, 34])
 (.reg [⟨(some 35), .mov (.s 8), none⟩,
 ⟨(some 4), .mov (.s 35), none⟩] [35]))))))
 (.reg [⟨(some 17), .mov (.s 6), none⟩,
 ⟨(some 18), .bin .add (.s 17) (.c (.int .i64 1)), none⟩,
 ⟨(some 6), .mov (.s 18), none⟩] [17, 18]))))))
 (.seq (.seq (.reg [⟨(some 36), .mov (.s 5), none⟩,
 ⟨(some 37), .bin .geq (.s 36) (.c (.int .u8 128)), none⟩] [36])
 (.cond (.s 37)
 (.seq (.reg [⟨(some 38), .mov (.s 0), none⟩,
 ⟨(some 39), .call 71 [(.s 38), (.c (.fn 72 []))], none⟩,
 ⟨(some 2), .mov (.s 39), none⟩] [38, 39])
 .ret)
 .skip))
 (.seq (.reg [⟨(some 40), .mov (.s 3), none⟩,
 ⟨(some 41), .mks 9 1 [(.str [])] (.s 40) (.s 40), none⟩,
 ⟨(some 9), .mov (.s 41), none⟩] [40, 41])
 (.seq (.reg [⟨(some 10), .mov (.c (.int .i64 0)), none⟩] [])
 (.seq (.reg [⟨(some 11), .mov (.c (.int .i64 0)), none⟩] [])
 (.seq (.reg [⟨(some 12), .mov (.c (.int .i64 0)), none⟩] [])
 (.seq (.block 2 (.loop (.seq (.seq (.reg [⟨(some 42), .mov (.s 12), none⟩,
 ⟨(some 43), .mov (.s 0), none⟩,
 ⟨(some 44), .slen (.s 43), none⟩,
 ⟨(some 45), .bin .lss (.s 42) (.s 44), none⟩,
 ⟨(some 46), .mov (.s 45), none⟩,
 ⟨(some 47), .mov (.s 0), (some (46, true))⟩,
 ⟨(some 48), .mov (.s 12), (some (46, true))⟩,
 ⟨(some 49), .sidx (.s 47) (.s 48), (some (46, true))⟩,
 ⟨(some 50), .aadr 1 256 (.s 1000000) (.s 49), (some (46, true))⟩,
 ⟨(some 51), .load none (.s 50), (some (46, true))⟩,
 ⟨(some 52), .bin .neq (.s 51) (.c (.int .u8 0)), (some (46, true))⟩,
 ⟨(some 53), .pick (.s 46) (.s 52) (.c (.bool false)), none⟩] [42, 43, 44, 45, 46, 47, 48, 49, 50, 51, 52])
 (.cond (.s 53)
 .skip
 (.exit 2)))
 (.block 3 (.reg [⟨(some 54), .mov (.s 12), none⟩,
 ⟨(some 55), .bin .add (.s 54) (.c (.int .i64 1)), none⟩,
 ⟨(some 12), .mov (.s 55), none⟩] [54, 55])))))
 (.seq (.reg [⟨(some 56), .mov (.s 12), none⟩,
 ⟨(some 11), .mov (.s 56), none⟩] [56])
 (.seq (.block 4 (.loop (.seq (.seq (.reg [⟨(some 57), .mov (.s 12), none⟩,
 ⟨(some 58), .mov (.s 0), none⟩,
 ⟨(some 59), .slen (.s 58), none⟩,
 ⟨(some 60), .bin .lss (.s 57) (.s 59), none⟩] [57, 58, 59])
 (.cond (.s 60)
 .skip
 (.exit 4)))
 (.block 5 (.seq (.seq (.reg [⟨(some 61), .mov (.s 0), none⟩,
 ⟨(some 62), .mov (.s 12), none⟩,
 ⟨(some 63), .sidx (.s 61) (.s 62), none⟩,
 ⟨(some 64), .aadr 1 256 (.s 1000000) (.s 63), none⟩,
 ⟨(some 65), .load none (.s 64), none⟩,
 ⟨(some 66), .bin .eql (.s 65) (.c (.int .u8 0)), none⟩] [61, 62, 63, 64, 65])
 (.cond (.s 66)
 (.seq (.reg [⟨(some 67), .mov (.s 12), none⟩,
 ⟨(some 68), .bin .add (.s 67) (.c (.int .i64 1)), none⟩,
 ⟨(some 12), .mov (.s 68), none⟩] [67, 68])
 (.exit 5))
 .skip))
 (.seq (.reg [⟨(some 69), .mov (.s 9), none⟩,
 ⟨(some 70), .mov (.s 10), none⟩,
 ⟨(some 71), .mov (.s 0), none⟩,
 ⟨(some 72), .mov (.s 11), none⟩,
 ⟨(some 73), .mov (.s 12), none⟩,
 ⟨(some 74), .sslc (.s 71) (some (.s 72)) (some (.s 73)), none⟩,
 ⟨(some 75), .iadr 1 (.s 69) (.s 70), none⟩,
 ⟨none, .store 1 (.s 75) (.s 74), none⟩] [69, 70, 71, 72, 73, 74, 75])
 (.seq (.reg [⟨(some 76), .mov (.s 10), none⟩,
 ⟨(some 77), .bin .add (.s 76) (.c (.int .i64 1)), none⟩,
 ⟨(some 10), .mov (.s 77), none⟩] [76, 77])
 (.seq (.reg [⟨(some 78), .mov (.s 12), none⟩,
 ⟨(some 79), .bin .add (.s 78) (.c (.int .i64 1)), none⟩,
 ⟨(some 12), .mov (.s 79), none⟩] [78, 79])
 (.seq (.block 6 (.loop (.seq (.seq (.reg [⟨(some 80), .mov (.s 12), none⟩,
 ⟨(some 81), .mov (.s 0), none⟩,
 ⟨(some 82), .slen (.s 81), none⟩,
 ⟨(some 83), .bin .lss (.s 80) (.s 82), none⟩,
 ⟨(some 84), .mov (.s 83), none⟩,
 ⟨(some 85), .mov (.s 0), (some (84, true))⟩,
 ⟨(some 86), .mov (.s 12), (some (84, true))⟩,
 ⟨(some 87), .sidx (.s 85) (.s 86), (some (84, true))⟩,
 ⟨(some 88), .aadr 1 256 (.s 1000000) (.s 87), (some (84, true))⟩,
 ⟨(some 89), .load none (.s 88), (some (84, true))⟩,
 ⟨(some 90), .bin .neq (.s 89) (.c (.int .u8 0)), (some (84, true))⟩,
 ⟨(some 91), .pick (.s 84) (.s 90) (.c (.bool false)), none⟩] [80, 81, 82, 83, 84, 85, 86, 87, 88, 89, 90])
 (.cond (.s 91)
 .skip
 (.exit 6)))
 (.block 7 (.reg [⟨(some 92), .mov (.s 12), none⟩,
 ⟨(some 93), .bin .add (.s 92) (.c (.int .i64 1)), none⟩,
 ⟨(some 12), .mov (.s 93), none⟩] [92, 93])))))
 (.reg [⟨(some 94), .mov (.s 12), none⟩,
 ⟨(some 11), .mov (.s 94), none⟩] [94]))))))))))
 (.seq (.seq (.reg [⟨(some 95), .mov (.s 11), none⟩,
 ⟨(some 96), .mov (.s 0), none⟩,
 ⟨(some 97), .slen (.s 96), none⟩,
 ⟨(some 98), .bin .lss (.s 95) (.s 97), none⟩] [95, 96, 97])
 (.cond (.s 98)
 (.reg [⟨(some 99), .mov (.s 9), none⟩,
 ⟨(some 100), .mov (.s 10), none⟩,
 ⟨(some 101), .mov (.s 0), none⟩,
 ⟨(some 102), .mov (.s 11), none⟩,
 ⟨(some 103), .sslc (.s 101) (some (.s 102)) none, none⟩,
 ⟨(some 104), .iadr 1 (.s 99) (.s 100), none⟩,
 ⟨none, .store 1 (.s 104) (.s 103), none⟩] [99, 100, 101, 102, 103, 104])
 .skip))
 (.seq (.reg [⟨(some 105), .mov (.s 9), none⟩,
 ⟨(some 2), .mov (.s 105), none⟩] [105])
 .ret)))))))))))))))⟩

theorem c_strings_Fields : compF Tryd.prog 63 = some F_strings_Fields := by kernel_rfl
abbrev n_strings_Fields : FuncId := 63

def F_strings_Index : IFun :=
⟨8, 2, [.tmp 4],
 (.seq (.reg [⟨(some 4), .mov (.c (.int .i64 0)), none⟩] [])
 (.seq (.reg [⟨(some 5), .mov (.s 0), none⟩,
 ⟨(some 6), .mov (.s 1), none⟩,
 ⟨(some 7), .call 73 [(.s 5), (.s 6)], none⟩,
 ⟨(some 4), .mov (.s 7), none⟩] [5, 6, 7])
 .ret))⟩

theorem c_strings_Index : compF Tryd.prog 64 = some F_strings_Index := by kernel_rfl
abbrev n_strings_Index : FuncId := 64

def F_ref05_control : IFun :=
⟨25, 0, [.tmp 0],
 (.seq (.reg [⟨(some 0), .mov (.c .nl), none⟩] [])
 (.seq (.reg [⟨(some 1), .build [(.int .i64 0), (.str []), (.int .i64 0)] [(0, 1, (.c (.int .i64 0))), (1, 1, (.c (.str [117, 110, 114, 101, 97, 99, 104, 97, 98, 108, 101]))), (2, 1, (.c (.int .i64 0)))], none⟩,
 ⟨(some 2), .build [(.int .i64 0), (.str []), (.int .i64 0)] [(0, 1, (.c (.int .i64 1))), (1, 1, (.c (.str [110, 111, 112]))), (2, 1, (.c (.int .i64 0)))], none⟩,
 ⟨(some 3), .build [(.int .i64 0), (.str []), (.int .i64 0)] [(0, 1, (.c (.int .i64 2))), (1, 1, (.c (.str [98, 108, 111, 99, 107]))), (2, 1, (.c (.int .i64 1)))], none⟩,
 ⟨(some 4), .build [(.int .i64 0), (.str []), (.int .i64 0)] [(0, 1, (.c (.int .i64 3))), (1, 1, (.c (.str [108, 111, 111, 112]))), (2, 1, (.c (.int .i64 1)))], none⟩,
 ⟨(some 5), .build [(.int .i64 0), (.str []), (.int .i64 0)] [(0, 1, (.c (.int .i64 4))), (1, 1, (.c (.str [105, 102]))), (2, 1, (.c (.int .i64 1)))], none⟩,
 ⟨(some 6), .build [(.int .i64 0), (.str []), (.int .i64 0)] [(0, 1, (.c (.int .i64 5))), (1, 1, (.c (.str [101, 108, 115, 101]))), (2, 1, (.c (.int .i64 0)))], none⟩,
 ⟨(some 7), .build [(.int .i64 0), (.str []), (.int .i64 0)] [(0, 1, (.c (.int .i64 11))), (1, 1, (.c (.str [101, 110, 100]))), (2, 1, (.c (.int .i64 0)))], none⟩,
 ⟨(some 8), .build [(.int .i64 0), (.str []), (.int .i64 0)] [(0, 1, (.c (.int .i64 12))), (1, 1, (.c (.str [98, 114]))), (2, 1, (.c (.int .i64 2)))], none⟩,
 ⟨(some 9), .build [(.int .i64 0), (.str []), (.int .i64 0)] [(0, 1, (.c (.int .i64 13))), (1, 1, (.c (.str [98, 114, 95, 105, 102]))), (2, 1, (.c (.int .i64 2)))], none⟩,
 ⟨(some 10), .build [(.int .i64 0), (.str []), (.int .i64 0)] [(0, 1, (.c (.int .i64 14))), (1, 1, (.c (.str [98, 114, 95, 116, 97, 98, 108, 101]))), (2, 1, (.c (.int .i64 3)))], none⟩,
 ⟨(some 11), .build [(.int .i64 0), (.str []), (.int .i64 0)] [(0, 1, (.c (.int .i64 15))), (1, 1, (.c (.str [114, 101, 116, 117, 114, 110]))), (2, 1, (.c (.int .i64 0)))], none⟩,
 ⟨(some 12), .build [(.int .i64 0), (.str []), (.int .i64 0)] [(0, 1, (.c (.int .i64 16))), (1, 1, (.c (.str [99, 97, 108, 108]))), (2, 1, (.c (.int .i64 4)))], none⟩,
 ⟨(some 13), .build [(.int .i64 0), (.str []), (.int .i64 0)] [(0, 1, (.c (.int .i64 17))), (1, 1, (.c (.str [99, 97, 108, 108, 95, 105, 110, 100, 105, 114, 101, 99, 116]))), (2, 1, (.c (.int .i64 5)))], none⟩,
 ⟨(some 14), .build [(.int .i64 0), (.str []), (.int .i64 0)] [(0, 1, (.c (.int .i64 26))), (1, 1, (.c (.str [100, 114, 111, 112]))), (2, 1, (.c (.int .i64 0)))], none⟩,
 ⟨(some 15), .build [(.int .i64 0), (.str []), (.int .i64 0)] [(0, 1, (.c (.int .i64 27))), (1, 1, (.c (.str [115, 101, 108, 101, 99, 116]))), (2, 1, (.c (.int .i64 0)))], none⟩,
 ⟨(some 16), .build [(.int .i64 0), (.str []), (.int .i64 0)] [(0, 1, (.c (.int .i64 28))), (1, 1, (.c (.str [115, 101, 108, 101, 99, 116]))), (2, 1, (.c (.int .i64 6)))], none⟩,
 ⟨(some 17), .build [(.int .i64 0), (.str []), (.int .i64 0)] [(0, 1, (.c (.int .i64 32))), (1, 1, (.c (.str [108, 111, 99, 97, 108, 46, 103, 101, 116]))), (2, 1, (.c (.int .i64 7)))], none⟩,
 ⟨(some 18), .build [(.int .i64 0), (.str []), (.int .i64 0)] [(0, 1, (.c (.int .i64 33))), (1, 1, (.c (.str [108, 111, 99, 97, 108, 46, 115, 101, 116]))), (2, 1, (.c (.int .i64 7)))], none⟩,
 ⟨(some 19), .build [(.int .i64 0), (.str []), (.int .i64 0)] [(0, 1, (.c (.int .i64 34))), (1, 1, (.c (.str [108, 111, 99, 97, 108, 46, 116, 101, 101]))), (2, 1, (.c (.int .i64 7)))], none⟩,
 ⟨(some 20), .build [(.int .i64 0), (.str []), (.int .i64 0)] [(0, 1, (.c (.int .i64 35))), (1, 1, (.c (.str [103, 108, 111, 98, 97, 108, 46, 103, 101, 116]))), (2, 1, (.c (.int .i64 8)))], none⟩,
 ⟨(some 21), .build [(.int .i64 0), (.str []), (.int .i64 0)] [(0, 1, (.c (.int .i64 36))), (1, 1, (.c (.str [103, 108, 111, 98, 97, 108, 46, 115, 101, 116]))), (2, 1, (.c (.int .i64 8)))], none⟩,
 ⟨(some 22), .build [(.int .i64 0), (.str []), (.int .i64 0)] [(0, 1, (.c (.int .i64 37))), (1, 1, (.c (.str [116, 97, 98, 108, 101, 46, 103, 101, 116]))), (2, 1, (.c (.int .i64 9)))], none⟩,
 ⟨(some 23), .build [(.int .i64 0), (.str []), (.int .i64 0)] [(0, 1, (.c (.int .i64 38))), (1, 1, (.c (.str [116, 97, 98, 108, 101, 46, 115, 101, 116]))), (2, 1, (.c (.int .i64 9)))], none⟩,
 ⟨(some 24), .bsl 66 3 [[(.int .i64 0), (.str []), (.int .i64 0)], [(.int .i64 0), (.str []), (.int .i64 0)], [(.int .i64 0), (.str []), (.int .i64 0)], [(.int .i64 0), (.str []), (.int .i64 0)], [(.int .i64 0), (.str []), (.int .i64 0)], [(.int .i64 0), (.str []), (.int .i64 0)], [(.int .i64 0), (.str []), (.int .i64 0)], [(.int .i64 0), (.str []), (.int .i64 0)], [(.int .i64 0), (.str []), (.int .i64 0)], [(.int .i64 0), (.str []), (.int .i64 0)], [(.int .i64 0), (.str []), (.int .i64 0)], [(.int .i64 0), (.str []), (.int .i64 0)], [(.int .i64 0), (.str []), (.int .i64 0)], [(.int .i64 0), (.str []), (.int .i64 0)], [(.int .i64 0), (.str []), (.int .i64 0)], [(.int .i64 0), (.str []), (.int .i64 0)], [(.int .i64 0), (.str []), (.int .i64 0)], [(.int .i64 0), (.str []), (.int .i64 0)], [(.int .i64 0), (.str []), (.int .i64 0)], [(.int .i64 0), (.str []), (.int .i64 0)], [(.int .i64 0), (.str []), (.int .i64 0)], [(.int .i64 0), (.str []), (.int .i64 0)], [(.int .i64 0), (.str []), (.int .i64 0)]] [(0, (.s 1)), (1, (.s 2)), (2, (.s 3)), (3, (.s 4)), (4, (.s 5)), (5, (.s 6)), (6, (.s 7)), (7, (.s 8)), (8, (.s 9)), (9, (.s 10)), (10, (.s 11)), (11, (.s 12)), (12, (.s 13)), (13, (.s 14)), (14, (.s 15)), (15, (.s 16)), (16, (.s 17)), (17, (.s 18)), (18, (.s 19)), (19, (.s 20)), (20, (.s 21)), (21, (.s 22)), (22, (.s 23))], none⟩,
 ⟨(some 0), .mov (.s 24), none⟩] [1, 2, 3, 4, 5, 6, 7, 8, 9, 10, 11, 12, 13, 14, 15, 16, 17, 18, 19, 20, 21, 22, 23, 24])
 .ret))⟩

theorem c_ref05_control : compF Tryd.prog 65 = some F_ref05_control := by kernel_rfl
abbrev n_ref05_control : FuncId := 65

def F_ref05_access : IFun :=
⟨25, 0, [.tmp 0],
 (.seq (.reg [⟨(some 0), .mov (.c .nl), none⟩] [])
 (.seq (.reg [⟨(some 1), .build [(.int .i64 0), (.str []), (.int .i64 0)] [(0, 1, (.c (.int .i64 40))), (1, 1, (.c (.str [105, 51, 50, 46, 108, 111, 97, 100]))), (2, 1, (.c (.int .i64 17)))], none⟩,
 ⟨(some 2), .build [(.int .i64 0), (.str []), (.int .i64 0)] [(0, 1, (.c (.int .i64 41))), (1, 1, (.c (.str [105, 54, 52, 46, 108, 111, 97, 100]))), (2, 1, (.c (.int .i64 17)))], none⟩,
 ⟨(some 3), .build [(.int .i64 0), (.str []), (.int .i64 0)] [(0, 1, (.c (.int .i64 44))), (1, 1, (.c (.str [105, 51, 50, 46, 108, 111, 97, 100, 56, 95, 115]))), (2, 1, (.c (.int .i64 17)))], none⟩,
 ⟨(some 4), .build [(.int .i64 0), (.str []), (.int .i64 0)] [(0, 1, (.c (.int .i64 45))), (1, 1, (.c (.str [105, 51, 50, 46, 108, 111, 97, 100, 56, 95, 117]))), (2, 1, (.c (.int .i64 17)))], none⟩,
 ⟨(some 5), .build [(.int .i64 0), (.str []), (.int .i64 0)] [(0, 1, (.c (.int .i64 46))), (1, 1, (.c (.str [105, 51, 50, 46, 108, 111, 97, 100, 49, 54, 95, 115]))), (2, 1, (.c (.int .i64 17)))], none⟩,
 ⟨(some 6), .build [(.int .i64 0), (.str []), (.int .i64 0)] [(0, 1, (.c (.int .i64 47))), (1, 1, (.c (.str [105, 51, 50, 46, 108, 111, 97, 100, 49, 54, 95, 117]))), (2, 1, (.c (.int .i64 17)))], none⟩,
 ⟨(some 7), .build [(.int .i64 0), (.str []), (.int .i64 0)] [(0, 1, (.c (.int .i64 48))), (1, 1, (.c (.str [105, 54, 52, 46, 108, 111, 97, 100, 56, 95, 115]))), (2, 1, (.c (.int .i64 17)))], none⟩,
 ⟨(some 8), .build [(.int .i64 0), (.str []), (.int .i64 0)] [(0, 1, (.c (.int .i64 49))), (1, 1, (.c (.str [105, 54, 52, 46, 108, 111, 97, 100, 56, 95, 117]))), (2, 1, (.c (.int .i64 17)))], none⟩,
 ⟨(some 9), .build [(.int .i64 0), (.str []), (.int .i64 0)] [(0, 1, (.c (.int .i64 50))), (1, 1, (.c (.str [105, 54, 52, 46, 108, 111, 97, 100, 49, 54, 95, 115]))), (2, 1, (.c (.int .i64 17)))], none⟩,
 ⟨(some 10), .build [(.int .i64 0), (.str []), (.int .i64 0)] [(0, 1, (.c (.int .i64 51))), (1, 1, (.c (.str [105, 54, 52, 46, 108, 111, 97, 100, 49, 54, 95, 117]))), (2, 1, (.c (.int .i64 17)))], none⟩,
 ⟨(some 11), .build [(.int .i64 0), (.str []), (.int .i64 0)] [(0, 1, (.c (.int .i64 52))), (1, 1, (.c (.str [105, 54, 52, 46, 108, 111, 97, 100, 51, 50, 95, 115]))), (2, 1, (.c (.int .i64 17)))], none⟩,
 ⟨(some 12), .build [(.int .i64 0), (.str []), (.int .i64 0)] [(0, 1, (.c (.int .i64 53))), (1, 1, (.c (.str [105, 54, 52, 46, 108, 111, 97, 100, 51, 50, 95, 117]))), (2, 1, (.c (.int .i64 17)))], none⟩,
 ⟨(some 13), .build [(.int .i64 0), (.str []), (.int .i64 0)] [(0, 1, (.c (.int .i64 54))), (1, 1, (.c (.str [105, 51, 50, 46, 115, 116, 111, 114, 101]))), (2, 1, (.c (.int .i64 17)))], none⟩,
 ⟨(some 14), .build [(.int .i64 0), (.str []), (.int .i64 0)] [(0, 1, (.c (.int .i64 55))), (1, 1, (.c (.str [105, 54, 52, 46, 115, 116, 111, 114, 101]))), (2, 1, (.c (.int .i64 17)))], none⟩,
 ⟨(some 15), .build [(.int .i64 0), (.str []), (.int .i64 0)] [(0, 1, (.c (.int .i64 58))), (1, 1, (.c (.str [105, 51, 50, 46, 115, 116, 111, 114, 101, 56]))), (2, 1, (.c (.int .i64 17)))], none⟩,
 ⟨(some 16), .build [(.int .i64 0), (.str []), (.int .i64 0)] [(0, 1, (.c (.int .i64 59))), (1, 1, (.c (.str [105, 51, 50, 46, 115, 116, 111, 114, 101, 49, 54]))), (2, 1, (.c (.int .i64 17)))], none⟩,
 ⟨(some 17), .build [(.int .i64 0), (.str []), (.int .i64 0)] [(0, 1, (.c (.int .i64 60))), (1, 1, (.c (.str [105, 54, 52, 46, 115, 116, 111, 114, 101, 56]))), (2, 1, (.c (.int .i64 17)))], none⟩,
 ⟨(some 18), .build [(.int .i64 0), (.str []), (.int .i64 0)] [(0, 1, (.c (.int .i64 61))), (1, 1, (.c (.str [105, 54, 52, 46, 115, 116, 111, 114, 101, 49, 54]))), (2, 1, (.c (.int .i64 17)))], none⟩,
 ⟨(some 19), .build [(.int .i64 0), (.str []), (.int .i64 0)] [(0, 1, (.c (.int .i64 62))), (1, 1, (.c (.str [105, 54, 52, 46, 115, 116, 111, 114, 101, 51, 50]))), (2, 1, (.c (.int .i64 17)))], none⟩,
 ⟨(some 20), .build [(.int .i64 0), (.str []), (.int .i64 0)] [(0, 1, (.c (.int .i64 63))), (1, 1, (.c (.str [109, 101, 109, 111, 114, 121, 46, 115, 105, 122, 101]))), (2, 1, (.c (.int .i64 13)))], none⟩,
 ⟨(some 21), .build [(.int .i64 0), (.str []), (.int .i64 0)] [(0, 1, (.c (.int .i64 64))), (1, 1, (.c (.str [109, 101, 109, 111, 114, 121, 46, 103, 114, 111, 119]))), (2, 1, (.c (.int .i64 13)))], none⟩,
 ⟨(some 22), .build [(.int .i64 0), (.str []), (.int .i64 0)] [(0, 1, (.c (.int .i64 65))), (1, 1, (.c (.str [105, 51, 50, 46, 99, 111, 110, 115, 116]))), (2, 1, (.c (.int .i64 18)))], none⟩,
 ⟨(some 23), .build [(.int .i64 0), (.str []), (.int .i64 0)] [(0, 1, (.c (.int .i64 66))), (1, 1, (.c (.str [105, 54, 52, 46, 99, 111, 110, 115, 116]))), (2, 1, (.c (.int .i64 19)))], none⟩,
 ⟨(some 24), .bsl 66 3 [[(.int .i64 0), (.str []), (.int .i64 0)], [(.int .i64 0), (.str []), (.int .i64 0)], [(.int .i64 0), (.str []), (.int .i64 0)], [(.int .i64 0), (.str []), (.int .i64 0)], [(.int .i64 0), (.str []), (.int .i64 0)], [(.int .i64 0), (.str []), (.int .i64 0)], [(.int .i64 0), (.str []), (.int .i64 0)], [(.int .i64 0), (.str []), (.int .i64 0)], [(.int .i64 0), (.str []), (.int .i64 0)], [(.int .i64 0), (.str []), (.int .i64 0)], [(.int .i64 0), (.str []), (.int .i64 0)], [(.int .i64 0), (.str []), (.int .i64 0)], [(.int .i64 0), (.str []), (.int .i64 0)], [(.int .i64 0), (.str []), (.int .i64 0)], [(.int .i64 0), (.str []), (.int .i64 0)], [(.int .i64 0), (.str []), (.int .i64 0)], [(.int .i64 0), (.str []), (.int .i64 0)], [(.int .i64 0), (.str []), (.int .i64 0)], [(.int .i64 0), (.str []), (.int .i64 0)], [(.int .i64 0), (.str []), (.int .i64 0)], [(.int .i64 0), (.str []), (.int .i64 0)], [(.int .i64 0), (.str []), (.int .i64 0)], [(.int .i64 0), (.str []), (.int .i64 0)]] [(0, (.s 1)), (1, (.s 2)), (2, (.s 3)), (3, (.s 4)), (4, (.s 5)), (5, (.s 6)), (6, (.s 7)), (7, (.s 8)), (8, (.s 9)), (9, (.s 10)), (10, (.s 11)), (11, (.s 12)), (12, (.s 13)), (13, (.s 14)), (14, (.s 15)), (15, (.s 16)), (16, (.s 17)), (17, (.s 18)), (18, (.s 19)), (19, (.s 20)), (20, (.s 21)), (21, (.s 22)), (22, (.s 23))], none⟩,
 ⟨(some 0), .mov (.s 24), none⟩] [1, 2, 3, 4, 5, 6, 7, 8, 9, 10, 11, 12, 13, 14, 15, 16, 17, 18, 19, 20, 21, 22, 23, 24])
 .ret))⟩

theorem c_ref05_access : compF Tryd.prog 66 = some F_ref05_access := by kernel_rfl
abbrev n_ref05_access : FuncId := 66

def F_ref05_numbers : IFun :=
⟨30, 3, [.tmp 6],
 (.seq (.reg [⟨(some 6), .mov (.c .nl), none⟩] [])
 (.seq (.reg [⟨(some 7), .mov (.c .nl), none⟩] [])
 (.seq (.seq (.reg [⟨(some 8), .mov (.c (.int .i64 0)), none⟩] [])
 (.block 0 (.loop (.seq (.seq (.reg [⟨(some 9), .mov (.s 8), none⟩,
 ⟨(some 10), .mov (.s 2), none⟩,
 ⟨(some 11), .len (.s 10), none⟩,
 ⟨(some 12), .bin .lss (.s 9) (.s 11), none⟩] [9, 10, 11])
 (.cond (.s 12)
 .skip
 (.exit 0)))
 (.seq (.block 1 (.reg [⟨(some 15), .mov (.s 7), none⟩,
 ⟨(some 16), .mov (.s 0), none⟩,
 ⟨(some 17), .mov (.s 8), none⟩,
 ⟨(some 18), .bin .add (.s 16) (.s 17), none⟩,
 ⟨(some 19), .mov (.s 1), none⟩,
 ⟨(some 20), .bin .add (.s 19) (.c (.str [46])), none⟩,
 ⟨(some 21), .mov (.s 2), none⟩,
 ⟨(some 22), .mov (.s 8), none⟩,
 ⟨(some 23), .iadr 1 (.s 21) (.s 22), none⟩,
 ⟨(some 24), .load none (.s 23), none⟩,
 ⟨(some 25), .bin .add (.s 20) (.s 24), none⟩,
 ⟨(some 26), .build [(.int .i64 0), (.str []), (.int .i64 0)] [(0, 1, (.s 18)), (1, 1, (.s 25)), (2, 1, (.c (.int .i64 0)))], none⟩,
 ⟨(some 27), .bsl 66 3 [[(.int .i64 0), (.str []), (.int .i64 0)]] [(0, (.s 26))], none⟩,
 ⟨(some 28), .app 66 3 (.s 15) (.s 27), none⟩,
 ⟨(some 7), .mov (.s 28), none⟩] [15, 16, 17, 18, 19, 20, 21, 22, 23, 24, 25, 26, 27, 28]))
 (.reg [⟨(some 13), .mov (.s 8), none⟩,
 ⟨(some 14), .bin .add (.s 13) (.c (.int .i64 1)), none⟩,
 ⟨(some 8), .mov (.s 14), none⟩] [13, 14]))))))
 (.seq (.reg [⟨(some 29), .mov (.s 7), none⟩,
 ⟨(some 6), .mov (.s 29), none⟩] [29])
 .ret))))⟩

theorem c_ref05_numbers : compF Tryd.prog 67 = some F_ref05_numbers := by kernel_rfl
abbrev n_ref05_numbers : FuncId := 67

def F_ref05_compares : IFun :=
⟨2, 0, [.tmp 0],
 (.seq (.reg [⟨(some 0), .mov (.c .nl), none⟩] [])
 (.seq (.reg [⟨(some 1), .bsl 9 1 [[(.str [])], [(.str [])], [(.str [])], [(.str [])], [(.str [])], [(.str [])], [(.str [])], [(.str [])], [(.str [])], [(.str [])], [(.str [])]] [(0, (.c (.str [101, 113, 122]))), (1, (.c (.str [101, 113]))), (2, (.c (.str [110, 101]))), (3, (.c (.str [108, 116, 95, 115]))), (4, (.c (.str [108, 116, 95, 117]))), (5, (.c (.str [103, 116, 95, 115]))), (6, (.c (.str [103, 116, 95, 117]))), (7, (.c (.str [108, 101, 95, 115]))), (8, (.c (.str [108, 101, 95, 117]))), (9, (.c (.str [103, 101, 95, 115]))), (10, (.c (.str [103, 101, 95, 117])))], none⟩,
 ⟨(some 0), .mov (.s 1), none⟩] [1])
 .ret))⟩

theorem c_ref05_compares : compF Tryd.prog 68 = some F_ref05_compares := by kernel_rfl
abbrev n_ref05_compares : FuncId := 68

def F_ref05_twos : IFun :=
⟨2, 0, [.tmp 0],
 (.seq (.reg [⟨(some 0), .mov (.c .nl), none⟩] [])
 (.seq (.reg [⟨(some 1), .bsl 9 1 [[(.str [])], [(.str [])], [(.str [])], [(.str [])], [(.str [])], [(.str [])], [(.str [])], [(.str [])], [(.str [])], [(.str [])], [(.str [])], [(.str [])], [(.str [])], [(.str [])], [(.str [])], [(.str [])], [(.str [])], [(.str [])]] [(0, (.c (.str [99, 108, 122]))), (1, (.c (.str [99, 116, 122]))), (2, (.c (.str [112, 111, 112, 99, 110, 116]))), (3, (.c (.str [97, 100, 100]))), (4, (.c (.str [115, 117, 98]))), (5, (.c (.str [109, 117, 108]))), (6, (.c (.str [100, 105, 118, 95, 115]))), (7, (.c (.str [100, 105, 118, 95, 117]))), (8, (.c (.str [114, 101, 109, 95, 115]))), (9, (.c (.str [114, 101, 109, 95, 117]))), (10, (.c (.str [97, 110, 100]))), (11, (.c (.str [111, 114]))), (12, (.c (.str [120, 111, 114]))), (13, (.c (.str [115, 104, 108]))), (14, (.c (.str [115, 104, 114, 95, 115]))), (15, (.c (.str [115, 104, 114, 95, 117]))), (16, (.c (.str [114, 111, 116, 108]))), (17, (.c (.str [114, 111, 116, 114])))], none⟩,
 ⟨(some 0), .mov (.s 1), none⟩] [1])
 .ret))⟩

theorem c_ref05_twos : compF Tryd.prog 69 = some F_ref05_twos := by kernel_rfl
abbrev n_ref05_twos : FuncId := 69

def F_ref05_end : IFun :=
⟨15, 0, [.tmp 0],
 (.seq (.reg [⟨(some 0), .mov (.c .nl), none⟩] [])
 (.seq (.reg [⟨(some 1), .build [(.int .i64 0), (.str []), (.int .i64 0)] [(0, 1, (.c (.int .i64 208))), (1, 1, (.c (.str [114, 101, 102, 46, 110, 117, 108, 108]))), (2, 1, (.c (.int .i64 20)))], none⟩,
 ⟨(some 2), .build [(.int .i64 0), (.str []), (.int .i64 0)] [(0, 1, (.c (.int .i64 209))), (1, 1, (.c (.str [114, 101, 102, 46, 105, 115, 95, 110, 117, 108, 108]))), (2, 1, (.c (.int .i64 0)))], none⟩,
 ⟨(some 3), .build [(.int .i64 0), (.str []), (.int .i64 0)] [(0, 1, (.c (.int .i64 210))), (1, 1, (.c (.str [114, 101, 102, 46, 102, 117, 110, 99]))), (2, 1, (.c (.int .i64 4)))], none⟩,
 ⟨(some 4), .build [(.int .i64 0), (.str []), (.int .i64 0)] [(0, 1, (.c (.int .i64 64520))), (1, 1, (.c (.str [109, 101, 109, 111, 114, 121, 46, 105, 110, 105, 116]))), (2, 1, (.c (.int .i64 15)))], none⟩,
 ⟨(some 5), .build [(.int .i64 0), (.str []), (.int .i64 0)] [(0, 1, (.c (.int .i64 64521))), (1, 1, (.c (.str [100, 97, 116, 97, 46, 100, 114, 111, 112]))), (2, 1, (.c (.int .i64 16)))], none⟩,
 ⟨(some 6), .build [(.int .i64 0), (.str []), (.int .i64 0)] [(0, 1, (.c (.int .i64 64522))), (1, 1, (.c (.str [109, 101, 109, 111, 114, 121, 46, 99, 111, 112, 121]))), (2, 1, (.c (.int .i64 14)))], none⟩,
 ⟨(some 7), .build [(.int .i64 0), (.str []), (.int .i64 0)] [(0, 1, (.c (.int .i64 64523))), (1, 1, (.c (.str [109, 101, 109, 111, 114, 121, 46, 102, 105, 108, 108]))), (2, 1, (.c (.int .i64 13)))], none⟩,
 ⟨(some 8), .build [(.int .i64 0), (.str []), (.int .i64 0)] [(0, 1, (.c (.int .i64 64524))), (1, 1, (.c (.str [116, 97, 98, 108, 101, 46, 105, 110, 105, 116]))), (2, 1, (.c (.int .i64 11)))], none⟩,
 ⟨(some 9), .build [(.int .i64 0), (.str []), (.int .i64 0)] [(0, 1, (.c (.int .i64 64525))), (1, 1, (.c (.str [101, 108, 101, 109, 46, 100, 114, 111, 112]))), (2, 1, (.c (.int .i64 12)))], none⟩,
 ⟨(some 10), .build [(.int .i64 0), (.str []), (.int .i64 0)] [(0, 1, (.c (.int .i64 64526))), (1, 1, (.c (.str [116, 97, 98, 108, 101, 46, 99, 111, 112, 121]))), (2, 1, (.c (.int .i64 10)))], none⟩,
 ⟨(some 11), .build [(.int .i64 0), (.str []), (.int .i64 0)] [(0, 1, (.c (.int .i64 64527))), (1, 1, (.c (.str [116, 97, 98, 108, 101, 46, 103, 114, 111, 119]))), (2, 1, (.c (.int .i64 9)))], none⟩,
 ⟨(some 12), .build [(.int .i64 0), (.str []), (.int .i64 0)] [(0, 1, (.c (.int .i64 64528))), (1, 1, (.c (.str [116, 97, 98, 108, 101, 46, 115, 105, 122, 101]))), (2, 1, (.c (.int .i64 9)))], none⟩,
 ⟨(some 13), .build [(.int .i64 0), (.str []), (.int .i64 0)] [(0, 1, (.c (.int .i64 64529))), (1, 1, (.c (.str [116, 97, 98, 108, 101, 46, 102, 105, 108, 108]))), (2, 1, (.c (.int .i64 9)))], none⟩,
 ⟨(some 14), .bsl 66 3 [[(.int .i64 0), (.str []), (.int .i64 0)], [(.int .i64 0), (.str []), (.int .i64 0)], [(.int .i64 0), (.str []), (.int .i64 0)], [(.int .i64 0), (.str []), (.int .i64 0)], [(.int .i64 0), (.str []), (.int .i64 0)], [(.int .i64 0), (.str []), (.int .i64 0)], [(.int .i64 0), (.str []), (.int .i64 0)], [(.int .i64 0), (.str []), (.int .i64 0)], [(.int .i64 0), (.str []), (.int .i64 0)], [(.int .i64 0), (.str []), (.int .i64 0)], [(.int .i64 0), (.str []), (.int .i64 0)], [(.int .i64 0), (.str []), (.int .i64 0)], [(.int .i64 0), (.str []), (.int .i64 0)]] [(0, (.s 1)), (1, (.s 2)), (2, (.s 3)), (3, (.s 4)), (4, (.s 5)), (5, (.s 6)), (6, (.s 7)), (7, (.s 8)), (8, (.s 9)), (9, (.s 10)), (10, (.s 11)), (11, (.s 12)), (12, (.s 13))], none⟩,
 ⟨(some 0), .mov (.s 14), none⟩] [1, 2, 3, 4, 5, 6, 7, 8, 9, 10, 11, 12, 13, 14])
 .ret))⟩

theorem c_ref05_end : compF Tryd.prog 70 = some F_ref05_end := by kernel_rfl
abbrev n_ref05_end : FuncId := 70

def F_unicode_IsSpace : IFun :=
⟨19, 1, [.tmp 2],
 (.seq (.reg [⟨(some 2), .mov (.c (.bool false)), none⟩] [])
 (.seq (.seq (.reg [⟨(some 3), .mov (.s 0), none⟩,
 ⟨(some 4), .cvi .u32 (.s 3), none⟩,
 ⟨(some 5), .bin .leq (.s 4) (.c (.int .u32 255)), none⟩] [3, 4])
 (.cond (.s 5)
 (.seq (.seq (.reg [⟨(some 6), .mov (.s 0), none⟩] [])
 (.block 0 (.seq (.seq (.reg [⟨(some 8), .bin .eql (.s 6) (.c (.int .i32 9)), none⟩,
 ⟨(some 7), .mov (.s 8), none⟩] [8])
 (.cond (.s 7)
 .skip
 (.seq (.reg [⟨(some 9), .bin .eql (.s 6) (.c (.int .i32 10)), none⟩,
 ⟨(some 7), .mov (.s 9), none⟩] [9])
 (.cond (.s 7)
 .skip
 (.seq (.reg [⟨(some 10), .bin .eql (.s 6) (.c (.int .i32 11)), none⟩,
 ⟨(some 7), .mov (.s 10), none⟩] [10])
 (.cond (.s 7)
 .skip
 (.seq (.reg [⟨(some 11), .bin .eql (.s 6) (.c (.int .i32 12)), none⟩,
 ⟨(some 7), .mov (.s 11), none⟩] [11])
 (.cond (.s 7)
 .skip
 (.seq (.reg [⟨(some 12), .bin .eql (.s 6) (.c (.int .i32 13)), none⟩,
 ⟨(some 7), .mov (.s 12), none⟩] [12])
 (.cond (.s 7)
 .skip
 (.seq (.reg [⟨(some 13), .bin .eql (.s 6) (.c (.int .i32 32)), none⟩,
 ⟨(some 7), .mov (.s 13), none⟩] [13])
 (.cond (.s 7)
 .skip
 (.seq (.reg [⟨(some 14), .bin .eql (.s 6) (.c (.int .i32 133)), none⟩,
 ⟨(some 7), .mov (.s 14), none⟩] [14])
 (.cond (.s 7)
 .skip
 (.reg [⟨(some 15), .bin .eql (.s 6) (.c (.int .i32 160)), none⟩,
 ⟨(some 7), .mov (.s 15), none⟩] [15])))))))))))))))
 (.cond (.s 7)
 (.seq (.reg [⟨(some 2), .mov (.c (.bool true)), none⟩] [])
 .ret)
 .skip))))
 (.seq (.reg [⟨(some 2), .mov (.c (.bool false)), none⟩] [])
 .ret))
 .skip))
 (.seq (.reg [⟨(some 16), .load none (.s 1000001), none⟩,
 ⟨(some 17), .mov (.s 0), none⟩,
 ⟨(some 18), .call 74 [(.s 16), (.s 17)], none⟩,
 ⟨(some 2), .mov (.s 18), none⟩] [16, 17, 18])
 .ret)))⟩

theorem c_unicode_IsSpace : compF Tryd.prog 72 = some F_unicode_IsSpace := by kernel_rfl
abbrev n_unicode_IsSpace : FuncId := 72

def F_unicode_isExcludingLatin : IFun :=
⟨59, 2, [.tmp 4],
 (.seq (.reg [⟨(some 4), .mov (.c (.bool false)), none⟩] [])
 (.seq (.reg [⟨(some 8), .mov (.s 0), none⟩,
 ⟨(some 9), .nchk (.s 8), none⟩,
 ⟨(some 10), .fadr 0 (.s 9), none⟩,
 ⟨(some 11), .load none (.s 10), none⟩,
 ⟨(some 5), .mov (.s 11), none⟩] [8, 9, 10, 11])
 (.seq (.seq (.reg [⟨(some 12), .mov (.s 0), none⟩,
 ⟨(some 13), .nchk (.s 12), none⟩,
 ⟨(some 14), .fadr 2 (.s 13), none⟩,
 ⟨(some 15), .load none (.s 14), none⟩,
 ⟨(some 6), .mov (.s 15), none⟩] [12, 13, 14, 15])
 (.seq (.reg [⟨(some 16), .mov (.s 5), none⟩,
 ⟨(some 17), .len (.s 16), none⟩,
 ⟨(some 18), .mov (.s 6), none⟩,
 ⟨(some 19), .bin .gtr (.s 17) (.s 18), none⟩,
 ⟨(some 20), .mov (.s 19), none⟩,
 ⟨(some 21), .mov (.s 1), (some (20, true))⟩,
 ⟨(some 22), .cvi .u32 (.s 21), (some (20, true))⟩,
 ⟨(some 23), .mov (.s 5), (some (20, true))⟩,
 ⟨(some 24), .mov (.s 5), (some (20, true))⟩,
 ⟨(some 25), .len (.s 24), (some (20, true))⟩,
 ⟨(some 26), .bin .sub (.s 25) (.c (.int .i64 1)), (some (20, true))⟩,
 ⟨(some 27), .iadr 3 (.s 23) (.s 26), (some (20, true))⟩,
 ⟨(some 28), .fadr 1 (.s 27), (some (20, true))⟩,
 ⟨(some 29), .load none (.s 28), (some (20, true))⟩,
 ⟨(some 30), .cvi .u32 (.s 29), (some (20, true))⟩,
 ⟨(some 31), .bin .leq (.s 22) (.s 30), (some (20, true))⟩,
 ⟨(some 32), .pick (.s 20) (.s 31) (.c (.bool false)), none⟩] [16, 17, 18, 19, 20, 21, 22, 23, 24, 25, 26, 27, 28, 29, 30, 31])
 (.cond (.s 32)
 (.seq (.reg [⟨(some 33), .mov (.s 5), none⟩,
 ⟨(some 34), .mov (.s 6), none⟩,
 ⟨(some 35), .slc 3 (.s 33) (some (.s 34)) none none, none⟩,
 ⟨(some 36), .mov (.s 1), none⟩,
 ⟨(some 37), .cvi .u16 (.s 36), none⟩,
 ⟨(some 38), .call 79 [(.s 35), (.s 37)], none⟩,
 ⟨(some 4), .mov (.s 38), none⟩] [33, 34, 35, 36, 37, 38])
 .ret)
 .skip)))
 (.seq (.reg [⟨(some 39), .mov (.s 0), none⟩,
 ⟨(some 40), .nchk (.s 39), none⟩,
 ⟨(some 41), .fadr 1 (.s 40), none⟩,
 ⟨(some 42), .load none (.s 41), none⟩,
 ⟨(some 7), .mov (.s 42), none⟩] [39, 40, 41, 42])
 (.seq (.seq (.reg [⟨(some 43), .mov (.s 7), none⟩,
 ⟨(some 44), .len (.s 43), none⟩,
 ⟨(some 45), .bin .gtr (.s 44) (.c (.int .i64 0)), none⟩,
 ⟨(some 46), .mov (.s 45), none⟩,
 ⟨(some 47), .mov (.s 1), (some (46, true))⟩,
 ⟨(some 48), .mov (.s 7), (some (46, true))⟩,
 ⟨(some 49), .iadr 3 (.s 48) (.c (.int .i64 0)), (some (46, true))⟩,
 ⟨(some 50), .fadr 0 (.s 49), (some (46, true))⟩,
 ⟨(some 51), .load none (.s 50), (some (46, true))⟩,
 ⟨(some 52), .cvi .i32 (.s 51), (some (46, true))⟩,
 ⟨(some 53), .bin .geq (.s 47) (.s 52), (some (46, true))⟩,
 ⟨(some 54), .pick (.s 46) (.s 53) (.c (.bool false)), none⟩] [43, 44, 45, 46, 47, 48, 49, 50, 51, 52, 53])
 (.cond (.s 54)
 (.seq (.reg [⟨(some 55), .mov (.s 7), none⟩,
 ⟨(some 56), .mov (.s 1), none⟩,
 ⟨(some 57), .cvi .u32 (.s 56), none⟩,
 ⟨(some 58), .call 80 [(.s 55), (.s 57)], none⟩,
 ⟨(some 4), .mov (.s 58), none⟩] [55, 56, 57, 58])
 .ret)
 .skip))
 (.seq (.reg [⟨(some 4), .mov (.c (.bool false)), none⟩] [])
 .ret))))))⟩

theorem c_unicode_isExcludingLatin : compF Tryd.prog 74 = some F_unicode_isExcludingLatin := by kernel_rfl
abbrev n_unicode_isExcludingLatin : FuncId := 74

def F_stringslite_IndexByte : IFun :=
⟨8, 2, [.tmp 4],
 (.seq (.reg [⟨(some 4), .mov (.c (.int .i64 0)), none⟩] [])
 (.seq (.reg [⟨(some 5), .mov (.s 0), none⟩,
 ⟨(some 6), .mov (.s 1), none⟩,
 ⟨(some 7), .sib (.s 5) (.s 6), none⟩,
 ⟨(some 4), .mov (.s 7), none⟩] [5, 6, 7])
 .ret))⟩

theorem c_stringslite_IndexByte : compF Tryd.prog 75 = some F_stringslite_IndexByte := by kernel_rfl
abbrev n_stringslite_IndexByte : FuncId := 75

def F_bytealg_Cutover : IFun :=
⟨6, 1, [.tmp 2],
 (.seq (.reg [⟨(some 2), .mov (.c (.int .i64 0)), none⟩] [])
 (.seq (.reg [⟨(some 3), .mov (.s 0), none⟩,
 ⟨(some 4), .bin .add (.s 3) (.c (.int .i64 16)), none⟩,
 ⟨(some 5), .bin .quo (.s 4) (.c (.int .i64 8)), none⟩,
 ⟨(some 2), .mov (.s 5), none⟩] [3, 4, 5])
 .ret))⟩

theorem c_bytealg_Cutover : compF Tryd.prog 77 = some F_bytealg_Cutover := by kernel_rfl
abbrev n_bytealg_Cutover : FuncId := 77

def F_bytealg_IndexRabinKarp_string : IFun :=
⟨81, 2, [.tmp 4],
 (.seq (.reg [⟨(some 4), .mov (.c (.int .i64 0)), none⟩] [])
 (.seq (.reg [⟨(some 12), .mov (.s 1), none⟩,
 ⟨(some 13), .call 82 [(.s 12)], none⟩,
 ⟨(some 11), .mov (.s 13), none⟩,
 ⟨(some 14), .ext (.s 11) 0, none⟩,
 ⟨(some 15), .ext (.s 11) 1, none⟩,
 ⟨(some 5), .mov (.s 14), none⟩,
 ⟨(some 6), .mov (.s 15), none⟩] [12, 13, 11, 14, 15])
 (.seq (.reg [⟨(some 16), .mov (.s 1), none⟩,
 ⟨(some 17), .slen (.s 16), none⟩,
 ⟨(some 7), .mov (.s 17), none⟩] [16, 17])
 (.seq (.reg [⟨(some 8), .mov (.c (.int .u32 0)), none⟩] [])
 (.seq (.seq (.reg [⟨(some 9), .mov (.c (.int .i64 0)), none⟩] [])
 (.block 0 (.loop (.seq (.seq (.reg [⟨(some 18), .mov (.s 9), none⟩,
 ⟨(some 19), .mov (.s 7), none⟩,
 ⟨(some 20), .bin .lss (.s 18) (.s 19), none⟩] [18, 19])
 (.cond (.s 20)
 .skip
 (.exit 0)))
 (.seq (.block 1 (.reg [⟨(some 23), .mov (.s 8), none⟩,
 ⟨(some 24), .bin .mul (.s 23) (.c (.int .u32 16777619)), none⟩,
 ⟨(some 25), .mov (.s 0), none⟩,
 ⟨(some 26), .mov (.s 9), none⟩,
 ⟨(some 27), .sidx (.s 25) (.s 26), none⟩,
 ⟨(some 28), .cvi .u32 (.s 27), none⟩,
 ⟨(some 29), .bin .add (.s 24) (.s 28), none⟩,
 ⟨(some 8), .mov (.s 29), none⟩] [23, 24, 25, 26, 27, 28, 29]))
 (.reg [⟨(some 21), .mov (.s 9), none⟩,
 ⟨(some 22), .bin .add (.s 21) (.c (.int .i64 1)), none⟩,
 ⟨(some 9), .mov (.s 22), none⟩] [21, 22]))))))
 (.seq (.seq (.reg [⟨(some 30), .mov (.s 8), none⟩,
 ⟨(some 31), .mov (.s 5), none⟩,
 ⟨(some 32), .bin .eql (.s 30) (.s 31), none⟩,
 ⟨(some 33), .mov (.s 32), none⟩,
 ⟨(some 34), .mov (.s 0), (some (33, true))⟩,
 ⟨(some 35), .mov (.s 7), (some (33, true))⟩,
 ⟨(some 36), .sslc (.s 34) none (some (.s 35)), (some (33, true))⟩,
 ⟨(some 37), .mov (.s 1), (some (33, true))⟩,
 ⟨(some 38), .bin .eql (.s 36) (.s 37), (some (33, true))⟩,
 ⟨(some 39), .pick (.s 33) (.s 38) (.c (.bool false)), none⟩] [30, 31, 32, 33, 34, 35, 36, 37, 38])
 (.cond (.s 39)
 (.seq (.reg [⟨(some 4), .mov (.c (.int .i64 0)), none⟩] [])
 .ret)
 .skip))
 (.seq (.seq (.reg [⟨(some 40), .mov (.s 7), none⟩,
 ⟨(some 10), .mov (.s 40), none⟩] [40])
 (.block 2 (.loop (.seq (.seq (.reg [⟨(some 41), .mov (.s 10), none⟩,
 ⟨(some 42), .mov (.s 0), none⟩,
 ⟨(some 43), .slen (.s 42), none⟩,
 ⟨(some 44), .bin .lss (.s 41) (.s 43), none⟩] [41, 42, 43])
 (.cond (.s 44)
 .skip
 (.exit 2)))
 (.block 3 (.seq (.reg [⟨(some 45), .mov (.s 8), none⟩,
 ⟨(some 46), .bin .mul (.s 45) (.c (.int .u32 16777619)), none⟩,
 ⟨(some 8), .mov (.s 46), none⟩] [45, 46])
 (.seq (.reg [⟨(some 47), .mov (.s 8), none⟩,
 ⟨(some 48), .mov (.s 0), none⟩,
 ⟨(some 49), .mov (.s 10), none⟩,
 ⟨(some 50), .sidx (.s 48) (.s 49), none⟩,
 ⟨(some 51), .cvi .u32 (.s 50), none⟩,
 ⟨(some 52), .bin .add (.s 47) (.s 51), none⟩,
 ⟨(some 8), .mov (.s 52), none⟩] [47, 48, 49, 50, 51, 52])
 (.seq (.reg [⟨(some 53), .mov (.s 8), none⟩,
 ⟨(some 54), .mov (.s 6), none⟩,
 ⟨(some 55), .mov (.s 0), none⟩,
 ⟨(some 56), .mov (.s 10), none⟩,
 ⟨(some 57), .mov (.s 7), none⟩,
 ⟨(some 58), .bin .sub (.s 56) (.s 57), none⟩,
 ⟨(some 59), .sidx (.s 55) (.s 58), none⟩,
 ⟨(some 60), .cvi .u32 (.s 59), none⟩,
 ⟨(some 61), .bin .mul (.s 54) (.s 60), none⟩,
 ⟨(some 62), .bin .sub (.s 53) (.s 61), none⟩,
 ⟨(some 8), .mov (.s 62), none⟩] [53, 54, 55, 56, 57, 58, 59, 60, 61, 62])
 (.seq (.reg [⟨(some 63), .mov (.s 10), none⟩,
 ⟨(some 64), .bin .add (.s 63) (.c (.int .i64 1)), none⟩,
 ⟨(some 10), .mov (.s 64), none⟩] [63, 64])
 (.seq (.reg [⟨(some 65), .mov (.s 8), none⟩,
 ⟨(some 66), .mov (.s 5), none⟩,
 ⟨(some 67), .bin .eql (.s 65) (.s 66), none⟩,
 ⟨(some 68), .mov (.s 67), none⟩,
 ⟨(some 69), .mov (.s 0), (some (68, true))⟩,
 ⟨(some 70), .mov (.s 10), (some (68, true))⟩,
 ⟨(some 71), .mov (.s 7), (some (68, true))⟩,
 ⟨(some 72), .bin .sub (.s 70) (.s 71), (some (68, true))⟩,
 ⟨(some 73), .mov (.s 10), (some (68, true))⟩,
 ⟨(some 74), .sslc (.s 69) (some (.s 72)) (some (.s 73)), (some (68, true))⟩,
 ⟨(some 75), .mov (.s 1), (some (68, true))⟩,
 ⟨(some 76), .bin .eql (.s 74) (.s 75), (some (68, true))⟩,
 ⟨(some 77), .pick (.s 68) (.s 76) (.c (.bool false)), none⟩] [65, 66, 67, 68, 69, 70, 71, 72, 73, 74, 75, 76])
 (.cond (.s 77)
 (.seq (.reg [⟨(some 78), .mov (.s 10), none⟩,
 ⟨(some 79), .mov (.s 7), none⟩,
 ⟨(some 80), .bin .sub (.s 78) (.s 79), none⟩,
 ⟨(some 4), .mov (.s 80), none⟩] [78, 79, 80])
 .ret)
 .skip)))))))))))
 (.seq (.reg [⟨(some 4), .mov (.c (.int .i64 (-1))), none⟩] [])
 .ret))))))))⟩

theorem c_bytealg_IndexRabinKarp_string : compF Tryd.prog 78 = some F_bytealg_IndexRabinKarp_string := by kernel_rfl
abbrev n_bytealg_IndexRabinKarp_string : FuncId := 78

def F_unicode_is16 : IFun :=
⟨114, 2, [.tmp 4],
 (.seq (.reg [⟨(some 4), .mov (.c (.bool false)), none⟩] [])
 (.seq (.seq (.reg [⟨(some 11), .mov (.s 0), none⟩,
 ⟨(some 12), .len (.s 11), none⟩,
 ⟨(some 13), .bin .leq (.s 12) (.c (.int .i64 18)), none⟩,
 ⟨(some 14), .mov (.s 13), none⟩,
 ⟨(some 15), .mov (.s 1), (some (14, false))⟩,
 ⟨(some 16), .bin .leq (.s 15) (.c (.int .u16 255)), (some (14, false))⟩,
 ⟨(some 17), .pick (.s 14) (.c (.bool true)) (.s 16), none⟩] [11, 12, 13, 14, 15, 16])
 (.cond (.s 17)
 (.seq (.seq (.reg [⟨(some 18), .mov (.s 0), none⟩,
 ⟨(some 19), .len (.s 18), none⟩,
 ⟨(some 20), .mov (.c (.int .i64 0)), none⟩] [18])
 (.block 0 (.loop (.seq (.reg [⟨(some 21), .bin .lss (.s 20) (.s 19), none⟩] [])
 (.seq (.cond (.s 21)
 .skip
 (.exit 0))
 (.seq (.block 1 (.seq (.reg [⟨(some 22), .mov (.s 20), none⟩,
 ⟨(some 5), .mov (.s 22), none⟩] [22])
 (.seq (.reg [⟨(some 23), .mov (.s 0), none⟩,
 ⟨(some 24), .mov (.s 5), none⟩,
 ⟨(some 25), .iadr 3 (.s 23) (.s 24), none⟩,
 ⟨(some 6), .mov (.s 25), none⟩] [23, 24, 25])
 (.seq (.seq (.reg [⟨(some 26), .mov (.s 1), none⟩,
 ⟨(some 27), .mov (.s 6), none⟩,
 ⟨(some 28), .nchk (.s 27), none⟩,
 ⟨(some 29), .fadr 0 (.s 28), none⟩,
 ⟨(some 30), .load none (.s 29), none⟩,
 ⟨(some 31), .bin .lss (.s 26) (.s 30), none⟩] [26, 27, 28, 29, 30])
 (.cond (.s 31)
 (.seq (.reg [⟨(some 4), .mov (.c (.bool false)), none⟩] [])
 .ret)
 .skip))
 (.seq (.reg [⟨(some 32), .mov (.s 1), none⟩,
 ⟨(some 33), .mov (.s 6), none⟩,
 ⟨(some 34), .nchk (.s 33), none⟩,
 ⟨(some 35), .fadr 1 (.s 34), none⟩,
 ⟨(some 36), .load none (.s 35), none⟩,
 ⟨(some 37), .bin .leq (.s 32) (.s 36), none⟩] [32, 33, 34, 35, 36])
 (.cond (.s 37)
 (.seq (.seq (.reg [⟨(some 38), .mov (.s 6), none⟩] [])
 (.seq (.reg [⟨(some 39), .nchk (.s 38), none⟩] [])
 (.seq (.reg [⟨(some 40), .fadr 2 (.s 39), none⟩] [])
 (.seq (.reg [⟨(some 41), .load none (.s 40), none⟩] [])
 (.seq (.reg [⟨(some 42), .bin .eql (.s 41) (.c (.int .u16 1)), none⟩] [])
 (.seq (.reg [⟨(some 43), .mov (.s 42), none⟩] [])
 (.seq (.draw [⟨⟨(some 44), .mov (.s 1), (some (43, false))⟩, []⟩,
 ⟨⟨(some 45), .mov (.s 6), (some (43, false))⟩, []⟩,
 ⟨⟨(some 46), .nchk (.s 45), (some (43, false))⟩, [1]⟩,
 ⟨⟨(some 47), .fadr 0 (.s 46), (some (43, false))⟩, [2, 1]⟩,
 ⟨⟨(some 48), .load none (.s 47), (some (43, false))⟩, [3, 2, 1]⟩,
 ⟨⟨(some 49), .bin .sub (.s 44) (.s 48), (some (43, false))⟩, [0, 4, 3, 2, 1]⟩,
 ⟨⟨(some 50), .mov (.s 6), (some (43, false))⟩, []⟩,
 ⟨⟨(some 51), .nchk (.s 50), (some (43, false))⟩, [6]⟩,
 ⟨⟨(some 52), .fadr 2 (.s 51), (some (43, false))⟩, [7, 6]⟩,
 ⟨⟨(some 53), .load none (.s 52), (some (43, false))⟩, [8, 7, 6]⟩] [] [])
 (.seq (.reg [⟨(some 54), .bin .rem (.s 49) (.s 53), (some (43, false))⟩] [])
 (.seq (.reg [⟨(some 55), .bin .eql (.s 54) (.c (.int .u16 0)), (some (43, false))⟩] [])
 (.seq (.reg [⟨(some 56), .pick (.s 43) (.c (.bool true)) (.s 55), none⟩] [])
 (.reg [⟨(some 4), .mov (.s 56), none⟩] [38, 39, 40, 41, 42, 43, 44, 45, 46, 47, 48, 49, 50, 51, 52, 53, 54, 55, 56])))))))))))
 .ret)
 .skip))))))
 (.reg [⟨(some 57), .bin .add (.s 20) (.c (.int .i64 1)), none⟩,
 ⟨(some 20), .mov (.s 57), none⟩] [57])))))))
 (.seq (.reg [⟨(some 4), .mov (.c (.bool false)), none⟩] [])
 .ret))
 .skip))
 (.seq (.reg [⟨(some 7), .mov (.c (.int .i64 0)), none⟩] [])
 (.seq (.reg [⟨(some 58), .mov (.s 0), none⟩,
 ⟨(some 59), .len (.s 58), none⟩,
 ⟨(some 8), .mov (.s 59), none⟩] [58, 59])
 (.seq (.block 2 (.loop (.seq (.seq (.reg [⟨(some 60), .mov (.s 7), none⟩,
 ⟨(some 61), .mov (.s 8), none⟩,
 ⟨(some 62), .bin .lss (.s 60) (.s 61), none⟩] [60, 61])
 (.cond (.s 62)
 .skip
 (.exit 2)))
 (.block 3 (.seq (.reg [⟨(some 63), .mov (.s 7), none⟩,
 ⟨(some 64), .mov (.s 8), none⟩,
 ⟨(some 65), .bin .add (.s 63) (.s 64), none⟩,
 ⟨(some 66), .cvi .u64 (.s 65), none⟩,
 ⟨(some 67), .bin .shr (.s 66) (.c (.int .u64 1)), none⟩,
 ⟨(some 68), .cvi .i64 (.s 67), none⟩,
 ⟨(some 9), .mov (.s 68), none⟩] [63, 64, 65, 66, 67, 68])
 (.seq (.reg [⟨(some 69), .mov (.s 0), none⟩,
 ⟨(some 70), .mov (.s 9), none⟩,
 ⟨(some 71), .iadr 3 (.s 69) (.s 70), none⟩,
 ⟨(some 10), .mov (.s 71), none⟩] [69, 70, 71])
 (.seq (.seq (.reg [⟨(some 72), .mov (.s 10), none⟩,
 ⟨(some 73), .nchk (.s 72), none⟩,
 ⟨(some 74), .fadr 0 (.s 73), none⟩,
 ⟨(some 75), .load none (.s 74), none⟩,
 ⟨(some 76), .mov (.s 1), none⟩,
 ⟨(some 77), .bin .leq (.s 75) (.s 76), none⟩,
 ⟨(some 78), .mov (.s 77), none⟩,
 ⟨(some 79), .mov (.s 1), (some (78, true))⟩,
 ⟨(some 80), .mov (.s 10), (some (78, true))⟩,
 ⟨(some 81), .nchk (.s 80), (some (78, true))⟩,
 ⟨(some 82), .fadr 1 (.s 81), (some (78, true))⟩,
 ⟨(some 83), .load none (.s 82), (some (78, true))⟩,
 ⟨(some 84), .bin .leq (.s 79) (.s 83), (some (78, true))⟩,
 ⟨(some 85), .pick (.s 78) (.s 84) (.c (.bool false)), none⟩] [72, 73, 74, 75, 76, 77, 78, 79, 80, 81, 82, 83, 84])
 (.cond (.s 85)
 (.seq (.seq (.reg [⟨(some 86), .mov (.s 10), none⟩] [])
 (.seq (.reg [⟨(some 87), .nchk (.s 86), none⟩] [])
 (.seq (.reg [⟨(some 88), .fadr 2 (.s 87), none⟩] [])
 (.seq (.reg [⟨(some 89), .load none (.s 88), none⟩] [])
 (.seq (.reg [⟨(some 90), .bin .eql (.s 89) (.c (.int .u16 1)), none⟩] [])
 (.seq (.reg [⟨(some 91), .mov (.s 90), none⟩] [])
 (.seq (.draw [⟨⟨(some 92), .mov (.s 1), (some (91, false))⟩, []⟩,
 ⟨⟨(some 93), .mov (.s 10), (some (91, false))⟩, []⟩,
 ⟨⟨(some 94), .nchk (.s 93), (some (91, false))⟩, [1]⟩,
 ⟨⟨(some 95), .fadr 0 (.s 94), (some (91, false))⟩, [2, 1]⟩,
 ⟨⟨(some 96), .load none (.s 95), (some (91, false))⟩, [3, 2, 1]⟩,
 ⟨⟨(some 97), .bin .sub (.s 92) (.s 96), (some (91, false))⟩, [0, 4, 3, 2, 1]⟩,
 ⟨⟨(some 98), .mov (.s 10), (some (91, false))⟩, []⟩,
 ⟨⟨(some 99), .nchk (.s 98), (some (91, false))⟩, [6]⟩,
 ⟨⟨(some 100), .fadr 2 (.s 99), (some (91, false))⟩, [7, 6]⟩,
 ⟨⟨(some 101), .load none (.s 100), (some (91, false))⟩, [8, 7, 6]⟩] [] [])
 (.seq (.reg [⟨(some 102), .bin .rem (.s 97) (.s 101), (some (91, false))⟩] [])
 (.seq (.reg [⟨(some 103), .bin .eql (.s 102) (.c (.int .u16 0)), (some (91, false))⟩] [])
 (.seq (.reg [⟨(some 104), .pick (.s 91) (.c (.bool true)) (.s 103), none⟩] [])
 (.reg [⟨(some 4), .mov (.s 104), none⟩] [86, 87, 88, 89, 90, 91, 92, 93, 94, 95, 96, 97, 98, 99, 100, 101, 102, 103, 104])))))))))))
 .ret)
 .skip))
 (.seq (.reg [⟨(some 105), .mov (.s 1), none⟩,
 ⟨(some 106), .mov (.s 10), none⟩,
 ⟨(some 107), .nchk (.s 106), none⟩,
 ⟨(some 108), .fadr 0 (.s 107), none⟩,
 ⟨(some 109), .load none (.s 108), none⟩,
 ⟨(some 110), .bin .lss (.s 105) (.s 109), none⟩] [105, 106, 107, 108, 109])
 (.cond (.s 110)
 (.reg [⟨(some 111), .mov (.s 9), none⟩,
 ⟨(some 8), .mov (.s 111), none⟩] [111])
 (.reg [⟨(some 112), .mov (.s 9), none⟩,
 ⟨(some 113), .bin .add (.s 112) (.c (.int .i64 1)), none⟩,
 ⟨(some 7), .mov (.s 113), none⟩] [112, 113]))))))))))
 (.seq (.reg [⟨(some 4), .mov (.c (.bool false)), none⟩] [])
 .ret))))))⟩

theorem c_unicode_is16 : compF Tryd.prog 79 = some F_unicode_is16 := by kernel_rfl
abbrev n_unicode_is16 : FuncId := 79

def F_unicode_is32 : IFun :=
⟨99, 2, [.tmp 4],
 (.seq (.reg [⟨(some 4), .mov (.c (.bool false)), none⟩] [])
 (.seq (.seq (.reg [⟨(some 11), .mov (.s 0), none⟩,
 ⟨(some 12), .len (.s 11), none⟩,
 ⟨(some 13), .bin .leq (.s 12) (.c (.int .i64 18)), none⟩] [11, 12])
 (.cond (.s 13)
 (.seq (.seq (.reg [⟨(some 14), .mov (.s 0), none⟩,
 ⟨(some 15), .len (.s 14), none⟩,
 ⟨(some 16), .mov (.c (.int .i64 0)), none⟩] [14])
 (.block 0 (.loop (.seq (.reg [⟨(some 17), .bin .lss (.s 16) (.s 15), none⟩] [])
 (.seq (.cond (.s 17)
 .skip
 (.exit 0))
 (.seq (.block 1 (.seq (.reg [⟨(some 18), .mov (.s 16), none⟩,
 ⟨(some 5), .mov (.s 18), none⟩] [18])
 (.seq (.reg [⟨(some 19), .mov (.s 0), none⟩,
 ⟨(some 20), .mov (.s 5), none⟩,
 ⟨(some 21), .iadr 3 (.s 19) (.s 20), none⟩,
 ⟨(some 6), .mov (.s 21), none⟩] [19, 20, 21])
 (.seq (.seq (.reg [⟨(some 22), .mov (.s 1), none⟩,
 ⟨(some 23), .mov (.s 6), none⟩,
 ⟨(some 24), .nchk (.s 23), none⟩,
 ⟨(some 25), .fadr 0 (.s 24), none⟩,
 ⟨(some 26), .load none (.s 25), none⟩,
 ⟨(some 27), .bin .lss (.s 22) (.s 26), none⟩] [22, 23, 24, 25, 26])
 (.cond (.s 27)
 (.seq (.reg [⟨(some 4), .mov (.c (.bool false)), none⟩] [])
 .ret)
 .skip))
 (.seq (.reg [⟨(some 28), .mov (.s 1), none⟩,
 ⟨(some 29), .mov (.s 6), none⟩,
 ⟨(some 30), .nchk (.s 29), none⟩,
 ⟨(some 31), .fadr 1 (.s 30), none⟩,
 ⟨(some 32), .load none (.s 31), none⟩,
 ⟨(some 33), .bin .leq (.s 28) (.s 32), none⟩] [28, 29, 30, 31, 32])
 (.cond (.s 33)
 (.seq (.seq (.reg [⟨(some 34), .mov (.s 6), none⟩] [])
 (.seq (.reg [⟨(some 35), .nchk (.s 34), none⟩] [])
 (.seq (.reg [⟨(some 36), .fadr 2 (.s 35), none⟩] [])
 (.seq (.reg [⟨(some 37), .load none (.s 36), none⟩] [])
 (.seq (.reg [⟨(some 38), .bin .eql (.s 37) (.c (.int .u32 1)), none⟩] [])
 (.seq (.reg [⟨(some 39), .mov (.s 38), none⟩] [])
 (.seq (.draw [⟨⟨(some 40), .mov (.s 1), (some (39, false))⟩, []⟩,
 ⟨⟨(some 41), .mov (.s 6), (some (39, false))⟩, []⟩,
 ⟨⟨(some 42), .nchk (.s 41), (some (39, false))⟩, [1]⟩,
 ⟨⟨(some 43), .fadr 0 (.s 42), (some (39, false))⟩, [2, 1]⟩,
 ⟨⟨(some 44), .load none (.s 43), (some (39, false))⟩, [3, 2, 1]⟩,
 ⟨⟨(some 45), .bin .sub (.s 40) (.s 44), (some (39, false))⟩, [0, 4, 3, 2, 1]⟩,
 ⟨⟨(some 46), .mov (.s 6), (some (39, false))⟩, []⟩,
 ⟨⟨(some 47), .nchk (.s 46), (some (39, false))⟩, [6]⟩,
 ⟨⟨(some 48), .fadr 2 (.s 47), (some (39, false))⟩, [7, 6]⟩,
 ⟨⟨(some 49), .load none (.s 48), (some (39, false))⟩, [8, 7, 6]⟩] [] [])
 (.seq (.reg [⟨(some 50), .bin .rem (.s 45) (.s 49), (some (39, false))⟩] [])
 (.seq (.reg [⟨(some 51), .bin .eql (.s 50) (.c (.int .u32 0)), (some (39, false))⟩] [])
 (.seq (.reg [⟨(some 52), .pick (.s 39) (.c (.bool true)) (.s 51), none⟩] [])
 (.reg [⟨(some 4), .mov (.s 52), none⟩] [34, 35, 36, 37, 38, 39, 40, 41, 42, 43, 44, 45, 46, 47, 48, 49, 50, 51, 52])))))))))))
 .ret)
 .skip))))))
 (.reg [⟨(some 53), .bin .add (.s 16) (.c (.int .i64 1)), none⟩,
 ⟨(some 16), .mov (.s 53), none⟩] [53])))))))
 (.seq (.reg [⟨(some 4), .mov (.c (.bool false)), none⟩] [])
 .ret))
 .skip))
 (.seq (.reg [⟨(some 7), .mov (.c (.int .i64 0)), none⟩] [])
 (.seq (.reg [⟨(some 54), .mov (.s 0), none⟩,
 ⟨(some 55), .len (.s 54), none⟩,
 ⟨(some 8), .mov (.s 55), none⟩] [54, 55])
 (.seq (.block 2 (.loop (.seq (.seq (.reg [⟨(some 56), .mov (.s 7), none⟩,
 ⟨(some 57), .mov (.s 8), none⟩,
 ⟨(some 58), .bin .lss (.s 56) (.s 57), none⟩] [56, 57])
 (.cond (.s 58)
 .skip
 (.exit 2)))
 (.block 3 (.seq (.reg [⟨(some 59), .mov (.s 7), none⟩,
 ⟨(some 60), .mov (.s 8), none⟩,
 ⟨(some 61), .bin .add (.s 59) (.s 60), none⟩,
 ⟨(some 62), .cvi .u64 (.s 61), none⟩,
 ⟨(some 63), .bin .shr (.s 62) (.c (.int .u64 1)), none⟩,
 ⟨(some 64), .cvi .i64 (.s 63), none⟩,
 ⟨(some 9), .mov (.s 64), none⟩] [59, 60, 61, 62, 63, 64])
 (.seq (.reg [⟨(some 65), .mov (.s 0), none⟩,
 ⟨(some 66), .mov (.s 9), none⟩,
 ⟨(some 67), .iadr 3 (.s 65) (.s 66), none⟩,
 ⟨(some 68), .load (some 3) (.s 67), none⟩,
 ⟨(some 10), .new 105 [(.int .u32 0), (.int .u32 0), (.int .u32 0)], none⟩,
 ⟨none, .store 3 (.s 10) (.s 68), none⟩] [65, 66, 67, 68])
 (.seq (.seq (.reg [⟨(some 69), .fadr 0 (.s 10), none⟩,
 ⟨(some 70), .load none (.s 69), none⟩,
 ⟨(some 71), .mov (.s 1), none⟩,
 ⟨(some 72), .bin .leq (.s 70) (.s 71), none⟩,
 ⟨(some 73), .mov (.s 72), none⟩,
 ⟨(some 74), .mov (.s 1), (some (73, true))⟩,
 ⟨(some 75), .fadr 1 (.s 10), (some (73, true))⟩,
 ⟨(some 76), .load none (.s 75), (some (73, true))⟩,
 ⟨(some 77), .bin .leq (.s 74) (.s 76), (some (73, true))⟩,
 ⟨(some 78), .pick (.s 73) (.s 77) (.c (.bool false)), none⟩] [69, 70, 71, 72, 73, 74, 75, 76, 77])
 (.cond (.s 78)
 (.seq (.reg [⟨(some 79), .fadr 2 (.s 10), none⟩,
 ⟨(some 80), .load none (.s 79), none⟩,
 ⟨(some 81), .bin .eql (.s 80) (.c (.int .u32 1)), none⟩,
 ⟨(some 82), .mov (.s 81), none⟩,
 ⟨(some 83), .mov (.s 1), (some (82, false))⟩,
 ⟨(some 84), .fadr 0 (.s 10), (some (82, false))⟩,
 ⟨(some 85), .load none (.s 84), (some (82, false))⟩,
 ⟨(some 86), .bin .sub (.s 83) (.s 85), (some (82, false))⟩,
 ⟨(some 87), .fadr 2 (.s 10), (some (82, false))⟩,
 ⟨(some 88), .load none (.s 87), (some (82, false))⟩,
 ⟨(some 89), .bin .rem (.s 86) (.s 88), (some (82, false))⟩,
 ⟨(some 90), .bin .eql (.s 89) (.c (.int .u32 0)), (some (82, false))⟩,
 ⟨(some 91), .pick (.s 82) (.c (.bool true)) (.s 90), none⟩,
 ⟨(some 4), .mov (.s 91), none⟩] [79, 80, 81, 82, 83, 84, 85, 86, 87, 88, 89, 90, 91])
 .ret)
 .skip))
 (.seq (.reg [⟨(some 92), .mov (.s 1), none⟩,
 ⟨(some 93), .fadr 0 (.s 10), none⟩,
 ⟨(some 94), .load none (.s 93), none⟩,
 ⟨(some 95), .bin .lss (.s 92) (.s 94), none⟩] [92, 93, 94])
 (.cond (.s 95)
 (.reg [⟨(some 96), .mov (.s 9), none⟩,
 ⟨(some 8), .mov (.s 96), none⟩] [96])
 (.reg [⟨(some 97), .mov (.s 9), none⟩,
 ⟨(some 98), .bin .add (.s 97) (.c (.int .i64 1)), none⟩,
 ⟨(some 7), .mov (.s 98), none⟩] [97, 98]))))))))))
 (.seq (.reg [⟨(some 4), .mov (.c (.bool false)), none⟩] [])
 .ret))))))⟩

theorem c_unicode_is32 : compF Tryd.prog 80 = some F_unicode_is32 := by kernel_rfl
abbrev n_unicode_is32 : FuncId := 80

def F_bytealg_hashStr_string : IFun :=
⟨39, 1, [.tmp 2, .tmp 3],
 (.seq (.reg [⟨(some 2), .mov (.c (.int .u32 0)), none⟩,
 ⟨(some 3), .mov (.c (.int .u32 0)), none⟩] [])
 (.seq (.reg [⟨(some 4), .mov (.c (.int .u32 0)), none⟩] [])
 (.seq (.seq (.reg [⟨(some 5), .mov (.c (.int .i64 0)), none⟩] [])
 (.block 0 (.loop (.seq (.seq (.reg [⟨(some 9), .mov (.s 5), none⟩,
 ⟨(some 10), .mov (.s 0), none⟩,
 ⟨(some 11), .slen (.s 10), none⟩,
 ⟨(some 12), .bin .lss (.s 9) (.s 11), none⟩] [9, 10, 11])
 (.cond (.s 12)
 .skip
 (.exit 0)))
 (.seq (.block 1 (.reg [⟨(some 15), .mov (.s 4), none⟩,
 ⟨(some 16), .bin .mul (.s 15) (.c (.int .u32 16777619)), none⟩,
 ⟨(some 17), .mov (.s 0), none⟩,
 ⟨(some 18), .mov (.s 5), none⟩,
 ⟨(some 19), .sidx (.s 17) (.s 18), none⟩,
 ⟨(some 20), .cvi .u32 (.s 19), none⟩,
 ⟨(some 21), .bin .add (.s 16) (.s 20), none⟩,
 ⟨(some 4), .mov (.s 21), none⟩] [15, 16, 17, 18, 19, 20, 21]))
 (.reg [⟨(some 13), .mov (.s 5), none⟩,
 ⟨(some 14), .bin .add (.s 13) (.c (.int .i64 1)), none⟩,
 ⟨(some 5), .mov (.s 14), none⟩] [13, 14]))))))
 (.seq (.reg [⟨(some 6), .mov (.c (.int .u32 1)), none⟩,
 ⟨(some 7), .mov (.c (.int .u32 16777619)), none⟩] [])
 (.seq (.seq (.reg [⟨(some 22), .mov (.s 0), none⟩,
 ⟨(some 23), .slen (.s 22), none⟩,
 ⟨(some 8), .mov (.s 23), none⟩] [22, 23])
 (.block 2 (.loop (.seq (.seq (.reg [⟨(some 24), .mov (.s 8), none⟩,
 ⟨(some 25), .bin .gtr (.s 24) (.c (.int .i64 0)), none⟩] [24])
 (.cond (.s 25)
 .skip
 (.exit 2)))
 (.seq (.block 3 (.seq (.seq (.reg [⟨(some 28), .mov (.s 8), none⟩,
 ⟨(some 29), .bin .and (.s 28) (.c (.int .i64 1)), none⟩,
 ⟨(some 30), .bin .neq (.s 29) (.c (.int .i64 0)), none⟩] [28, 29])
 (.cond (.s 30)
 (.reg [⟨(some 31), .mov (.s 6), none⟩,
 ⟨(some 32), .mov (.s 7), none⟩,
 ⟨(some 33), .bin .mul (.s 31) (.s 32), none⟩,
 ⟨(some 6), .mov (.s 33), none⟩] [31, 32, 33])
 .skip))
 (.reg [⟨(some 34), .mov (.s 7), none⟩,
 ⟨(some 35), .mov (.s 7), none⟩,
 ⟨(some 36), .bin .mul (.s 34) (.s 35), none⟩,
 ⟨(some 7), .mov (.s 36), none⟩] [34, 35, 36])))
 (.reg [⟨(some 26), .mov (.s 8), none⟩,
 ⟨(some 27), .bin .shr (.s 26) (.c (.int .u64 1)), none⟩,
 ⟨(some 8), .mov (.s 27), none⟩] [26, 27]))))))
 (.seq (.reg [⟨(some 37), .mov (.s 4), none⟩,
 ⟨(some 38), .mov (.s 6), none⟩,
 ⟨(some 2), .mov (.s 37), none⟩,
 ⟨(some 3), .mov (.s 38), none⟩] [37, 38])
 .ret))))))⟩

theorem c_bytealg_hashStr_string : compF Tryd.prog 82 = some F_bytealg_hashStr_string := by kernel_rfl
abbrev n_bytealg_hashStr_string : FuncId := 82

theorem mixed : Tryd.prog.follows .mixedOrders = true := by kernel_rfl
end Go.Proofs.YtnhnghpnejobfaaDoor
