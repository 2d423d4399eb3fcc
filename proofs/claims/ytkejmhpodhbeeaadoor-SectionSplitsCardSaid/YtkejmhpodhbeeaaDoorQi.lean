/- Texts of a claim. -/
import Derived.Test.YtkejmhpodhbeeaaDoorQb
import Derived.Test.YtkejmhpodhbeeaaDoorProg
import Derived.KernelRfl
set_option linter.unusedVariables false
set_option linter.unusedSimpArgs false
set_option linter.unusedSectionVars false
namespace Go.Proofs.YtkejmhpodhbeeaaDoor
open Go.Mw

def F_law02_OctetReads : IFun :=
⟨47, 2, [.tmp 4],
 (.seq (.reg [⟨(some 4), .mov (.c (.bool false)), none⟩] [])
 (.seq (.seq (.reg [⟨(some 10), .mov (.s 0), none⟩,
 ⟨(some 11), .mov (.s 1), none⟩,
 ⟨(some 12), .call 35 [(.s 10), (.s 11)], none⟩,
 ⟨(some 13), .un .not (.s 12), none⟩] [10, 11, 12])
 (.cond (.s 13)
 (.seq (.reg [⟨(some 14), .call 14 [], none⟩,
 ⟨(some 4), .mov (.s 14), none⟩] [14])
 .ret)
 .skip))
 (.seq (.reg [⟨(some 15), .mov (.s 0), none⟩,
 ⟨(some 16), .call 15 [(.s 15)], none⟩,
 ⟨(some 17), .mov (.s 0), none⟩,
 ⟨(some 18), .call 36 [(.s 17)], none⟩,
 ⟨(some 6), .new 62 [.nl, (.int .i64 0), (.int .i64 0)], none⟩,
 ⟨(some 5), .mov (.s 16), none⟩,
 ⟨none, .store 3 (.s 6) (.s 18), none⟩] [15, 16, 17, 18])
 (.seq (.seq (.reg [⟨(some 19), .mov (.s 5), none⟩,
 ⟨(some 20), .pbin .eql (.s 19) (.c .np), none⟩,
 ⟨(some 21), .mov (.s 20), none⟩,
 ⟨(some 22), .mov (.s 5), (some (21, false))⟩,
 ⟨(some 23), .load (some 3) (.s 6), (some (21, false))⟩,
 ⟨(some 24), .call 37 [(.s 22), (.s 23)], (some (21, false))⟩,
 ⟨(some 25), .un .not (.s 24), (some (21, false))⟩,
 ⟨(some 26), .pick (.s 21) (.c (.bool true)) (.s 25), none⟩] [19, 20, 21, 22, 23, 24, 25])
 (.cond (.s 26)
 (.seq (.reg [⟨(some 4), .mov (.c (.bool false)), none⟩] [])
 .ret)
 .skip))
 (.seq (.seq (.reg [⟨(some 7), .mov (.c (.int .i64 0)), none⟩] [])
 (.block 0 (.loop (.seq (.seq (.reg [⟨(some 27), .mov (.s 7), none⟩,
 ⟨(some 28), .mov (.s 1), none⟩,
 ⟨(some 29), .len (.s 28), none⟩,
 ⟨(some 30), .bin .lss (.s 27) (.s 29), none⟩] [27, 28, 29])
 (.cond (.s 30)
 .skip
 (.exit 0)))
 (.seq (.block 1 (.seq (.seq (.draw [⟨⟨(some 34), .mov (.s 5), none⟩, []⟩,
 ⟨⟨(some 35), .load (some 3) (.s 6), none⟩, []⟩,
 ⟨⟨(some 36), .mov (.s 1), none⟩, []⟩,
 ⟨⟨(some 37), .mov (.s 7), none⟩, []⟩,
 ⟨⟨(some 38), .iadr 2 (.s 36) (.s 37), none⟩, [2, 3]⟩,
 ⟨⟨(some 39), .load (some 2) (.s 38), none⟩, [4, 2, 3]⟩,
 ⟨⟨(some 40), .call 38 [(.s 34), (.s 35), (.s 39)], none⟩, [0, 1, 5, 4, 2, 3]⟩,
 ⟨⟨(some 33), .mov (.s 40), none⟩, [6, 0, 1, 5, 4, 2, 3]⟩,
 ⟨⟨(some 41), .ext (.s 33) 0, none⟩, [7, 6, 0, 1, 5, 4, 2, 3]⟩,
 ⟨⟨(some 42), .ext (.s 33) 1, none⟩, [7, 6, 0, 1, 5, 4, 2, 3]⟩,
 ⟨⟨(some 8), .new 62 [.nl, (.int .i64 0), (.int .i64 0)], none⟩, []⟩,
 ⟨⟨none, .store 3 (.s 8) (.s 41), none⟩, [10, 8, 7, 6, 0, 1, 5, 4, 2, 3]⟩] [(8, 10)] [])
 (.reg [⟨(some 9), .mov (.s 42), none⟩] [34, 35, 36, 37, 38, 39, 40, 33, 41, 42]))
 (.seq (.reg [⟨(some 43), .load (some 3) (.s 8), none⟩,
 ⟨none, .store 3 (.s 6) (.s 43), none⟩] [43])
 (.seq (.reg [⟨(some 44), .mov (.s 9), none⟩,
 ⟨(some 45), .un .not (.s 44), none⟩] [44])
 (.cond (.s 45)
 (.seq (.reg [⟨(some 4), .mov (.c (.bool false)), none⟩] [])
 .ret)
 .skip)))))
 (.reg [⟨(some 31), .mov (.s 7), none⟩,
 ⟨(some 32), .bin .add (.s 31) (.c (.int .i64 1)), none⟩,
 ⟨(some 7), .mov (.s 32), none⟩] [31, 32]))))))
 (.seq (.reg [⟨(some 46), .call 14 [], none⟩,
 ⟨(some 4), .mov (.s 46), none⟩] [46])
 .ret))))))⟩

theorem c_law02_OctetReads : compF Tryd.prog 7 = some F_law02_OctetReads := by kernel_rfl
abbrev n_law02_OctetReads : FuncId := 7

def F_law12_SectionJoins : IFun :=
⟨35, 1, [.tmp 2],
 (.seq (.reg [⟨(some 2), .mov (.c (.bool false)), none⟩] [])
 (.seq (.seq (.reg [⟨(some 7), .mov (.s 0), none⟩,
 ⟨(some 8), .call 39 [(.s 7)], none⟩,
 ⟨(some 9), .un .not (.s 8), none⟩] [7, 8])
 (.cond (.s 9)
 (.seq (.reg [⟨(some 10), .call 40 [], none⟩,
 ⟨(some 2), .mov (.s 10), none⟩] [10])
 .ret)
 .skip))
 (.seq (.reg [⟨(some 12), .mov (.s 0), none⟩,
 ⟨(some 13), .call 42 [(.s 12)], none⟩,
 ⟨(some 14), .call 41 [(.s 13)], none⟩,
 ⟨(some 11), .mov (.s 14), none⟩,
 ⟨(some 15), .ext (.s 11) 0, none⟩,
 ⟨(some 16), .ext (.s 11) 1, none⟩,
 ⟨(some 3), .mov (.s 15), none⟩,
 ⟨(some 4), .mov (.s 16), none⟩] [12, 13, 14, 11, 15, 16])
 (.seq (.reg [⟨(some 18), .mov (.s 0), none⟩,
 ⟨(some 19), .call 43 [(.s 18)], none⟩,
 ⟨(some 17), .mov (.s 19), none⟩,
 ⟨(some 20), .ext (.s 17) 0, none⟩,
 ⟨(some 21), .ext (.s 17) 1, none⟩,
 ⟨(some 5), .mov (.s 20), none⟩,
 ⟨(some 6), .mov (.s 21), none⟩] [18, 19, 17, 20, 21])
 (.seq (.reg [⟨(some 22), .mov (.s 3), none⟩,
 ⟨(some 23), .cvs (.s 22), none⟩,
 ⟨(some 24), .mov (.s 5), none⟩,
 ⟨(some 25), .cvs (.s 24), none⟩,
 ⟨(some 26), .bin .eql (.s 23) (.s 25), none⟩,
 ⟨(some 27), .mov (.s 26), none⟩,
 ⟨(some 28), .mov (.s 4), (some (27, true))⟩,
 ⟨(some 29), .mov (.s 6), (some (27, true))⟩,
 ⟨(some 30), .bin .eql (.s 28) (.s 29), (some (27, true))⟩,
 ⟨(some 31), .pick (.s 27) (.s 30) (.c (.bool false)), none⟩,
 ⟨(some 32), .mov (.s 31), none⟩,
 ⟨(some 33), .call 40 [], (some (32, true))⟩,
 ⟨(some 34), .pick (.s 32) (.s 33) (.c (.bool false)), none⟩,
 ⟨(some 2), .mov (.s 34), none⟩] [22, 23, 24, 25, 26, 27, 28, 29, 30, 31, 32, 33, 34])
 .ret)))))⟩

theorem c_law12_SectionJoins : compF Tryd.prog 8 = some F_law12_SectionJoins := by kernel_rfl
abbrev n_law12_SectionJoins : FuncId := 8

def F_law12_SectionPlaces : IFun :=
⟨42, 2, [.tmp 4],
 (.seq (.reg [⟨(some 4), .mov (.c (.bool false)), none⟩] [])
 (.seq (.reg [⟨(some 7), .mov (.s 0), none⟩,
 ⟨(some 8), .call 44 [(.s 7)], none⟩,
 ⟨(some 9), .mov (.s 1), none⟩,
 ⟨(some 10), .call 45 [(.s 9)], none⟩,
 ⟨(some 5), .mov (.s 8), none⟩,
 ⟨(some 6), .mov (.s 10), none⟩] [7, 8, 9, 10])
 (.seq (.seq (.reg [⟨(some 11), .mov (.s 5), none⟩,
 ⟨(some 12), .mov (.s 0), none⟩,
 ⟨(some 13), .call 46 [(.s 12)], none⟩,
 ⟨(some 14), .bin .neq (.s 11) (.s 13), none⟩,
 ⟨(some 15), .mov (.s 14), none⟩,
 ⟨(some 16), .mov (.s 6), (some (15, false))⟩,
 ⟨(some 17), .mov (.s 1), (some (15, false))⟩,
 ⟨(some 18), .call 47 [(.s 17)], (some (15, false))⟩,
 ⟨(some 19), .bin .neq (.s 16) (.s 18), (some (15, false))⟩,
 ⟨(some 20), .pick (.s 15) (.c (.bool true)) (.s 19), none⟩] [11, 12, 13, 14, 15, 16, 17, 18, 19])
 (.cond (.s 20)
 (.seq (.reg [⟨(some 4), .mov (.c (.bool false)), none⟩] [])
 .ret)
 .skip))
 (.seq (.reg [⟨(some 21), .mov (.s 5), none⟩,
 ⟨(some 22), .bin .eql (.s 21) (.c (.int .i64 0)), none⟩,
 ⟨(some 23), .mov (.s 22), none⟩,
 ⟨(some 24), .mov (.s 5), (some (23, false))⟩,
 ⟨(some 25), .call 45 [(.s 24)], (some (23, false))⟩,
 ⟨(some 26), .mov (.s 0), (some (23, false))⟩,
 ⟨(some 27), .bin .eql (.s 25) (.s 26), (some (23, false))⟩,
 ⟨(some 28), .pick (.s 23) (.c (.bool true)) (.s 27), none⟩,
 ⟨(some 29), .mov (.s 28), none⟩,
 ⟨(some 30), .mov (.s 6), (some (29, true))⟩,
 ⟨(some 31), .bin .eql (.s 30) (.c (.int .i64 0)), (some (29, true))⟩,
 ⟨(some 32), .mov (.s 31), (some (29, true))⟩,
 ⟨(some 33), .mov (.s 6), (some (32, false))⟩,
 ⟨(some 34), .call 44 [(.s 33)], (some (32, false))⟩,
 ⟨(some 35), .mov (.s 1), (some (32, false))⟩,
 ⟨(some 36), .bin .eql (.s 34) (.s 35), (some (32, false))⟩,
 ⟨(some 37), .pick (.s 32) (.c (.bool true)) (.s 36), (some (29, true))⟩,
 ⟨(some 38), .pick (.s 29) (.s 37) (.c (.bool false)), none⟩,
 ⟨(some 39), .mov (.s 38), none⟩,
 ⟨(some 40), .call 40 [], (some (39, true))⟩,
 ⟨(some 41), .pick (.s 39) (.s 40) (.c (.bool false)), none⟩,
 ⟨(some 4), .mov (.s 41), none⟩] [21, 22, 23, 24, 25, 26, 27, 28, 29, 30, 31, 32, 33, 34, 35, 36, 37, 38, 39, 40, 41])
 .ret))))⟩

theorem c_law12_SectionPlaces : compF Tryd.prog 9 = some F_law12_SectionPlaces := by kernel_rfl
abbrev n_law12_SectionPlaces : FuncId := 9

def F_law12_SectionBack : IFun :=
⟨41, 1, [.tmp 2],
 (.seq (.reg [⟨(some 2), .mov (.c (.bool false)), none⟩] [])
 (.seq (.seq (.reg [⟨(some 7), .mov (.s 0), none⟩,
 ⟨(some 8), .call 39 [(.s 7)], none⟩,
 ⟨(some 9), .un .not (.s 8), none⟩] [7, 8])
 (.cond (.s 9)
 (.seq (.reg [⟨(some 10), .call 40 [], none⟩,
 ⟨(some 2), .mov (.s 10), none⟩] [10])
 .ret)
 .skip))
 (.seq (.reg [⟨(some 12), .mov (.s 0), none⟩,
 ⟨(some 13), .call 42 [(.s 12)], none⟩,
 ⟨(some 14), .call 41 [(.s 13)], none⟩,
 ⟨(some 11), .mov (.s 14), none⟩,
 ⟨(some 15), .ext (.s 11) 0, none⟩,
 ⟨(some 16), .ext (.s 11) 1, none⟩,
 ⟨(some 3), .mov (.s 15), none⟩,
 ⟨(some 4), .mov (.s 16), none⟩] [12, 13, 14, 11, 15, 16])
 (.seq (.seq (.reg [⟨(some 17), .mov (.s 4), none⟩,
 ⟨(some 18), .bin .neq (.s 17) (.c (.int .i64 0)), none⟩] [17])
 (.cond (.s 18)
 (.seq (.reg [⟨(some 19), .mov (.s 3), none⟩,
 ⟨(some 20), .len (.s 19), none⟩,
 ⟨(some 21), .bin .eql (.s 20) (.c (.int .i64 0)), none⟩,
 ⟨(some 22), .mov (.s 21), none⟩,
 ⟨(some 23), .call 40 [], (some (22, true))⟩,
 ⟨(some 24), .pick (.s 22) (.s 23) (.c (.bool false)), none⟩,
 ⟨(some 2), .mov (.s 24), none⟩] [19, 20, 21, 22, 23, 24])
 .ret)
 .skip))
 (.seq (.reg [⟨(some 26), .mov (.s 3), none⟩,
 ⟨(some 27), .call 48 [(.s 26)], none⟩,
 ⟨(some 25), .mov (.s 27), none⟩,
 ⟨(some 28), .ext (.s 25) 0, none⟩,
 ⟨(some 29), .ext (.s 25) 1, none⟩,
 ⟨(some 5), .mov (.s 28), none⟩,
 ⟨(some 6), .mov (.s 29), none⟩] [26, 27, 25, 28, 29])
 (.seq (.reg [⟨(some 30), .mov (.s 6), none⟩,
 ⟨(some 31), .bin .eql (.s 30) (.c (.int .i64 0)), none⟩,
 ⟨(some 32), .mov (.s 31), none⟩,
 ⟨(some 33), .mov (.s 5), (some (32, true))⟩,
 ⟨(some 34), .call 50 [(.s 33)], (some (32, true))⟩,
 ⟨(some 35), .mov (.s 0), (some (32, true))⟩,
 ⟨(some 36), .call 49 [(.s 34), (.s 35)], (some (32, true))⟩,
 ⟨(some 37), .pick (.s 32) (.s 36) (.c (.bool false)), none⟩,
 ⟨(some 38), .mov (.s 37), none⟩,
 ⟨(some 39), .call 40 [], (some (38, true))⟩,
 ⟨(some 40), .pick (.s 38) (.s 39) (.c (.bool false)), none⟩,
 ⟨(some 2), .mov (.s 40), none⟩] [30, 31, 32, 33, 34, 35, 36, 37, 38, 39, 40])
 .ret))))))⟩

theorem c_law12_SectionBack : compF Tryd.prog 10 = some F_law12_SectionBack := by kernel_rfl
abbrev n_law12_SectionBack : FuncId := 10

def F_law12_SectionAgain : IFun :=
⟨59, 1, [.tmp 2],
 (.seq (.reg [⟨(some 2), .mov (.c (.bool false)), none⟩] [])
 (.seq (.seq (.reg [⟨(some 9), .mov (.s 0), none⟩,
 ⟨(some 10), .len (.s 9), none⟩,
 ⟨(some 11), .bin .gtr (.s 10) (.c (.int .i64 4000)), none⟩] [9, 10])
 (.cond (.s 11)
 (.seq (.reg [⟨(some 12), .call 40 [], none⟩,
 ⟨(some 2), .mov (.s 12), none⟩] [12])
 .ret)
 .skip))
 (.seq (.reg [⟨(some 14), .mov (.s 0), none⟩,
 ⟨(some 15), .call 48 [(.s 14)], none⟩,
 ⟨(some 13), .mov (.s 15), none⟩,
 ⟨(some 16), .ext (.s 13) 0, none⟩,
 ⟨(some 17), .ext (.s 13) 1, none⟩,
 ⟨(some 3), .mov (.s 16), none⟩,
 ⟨(some 4), .mov (.s 17), none⟩] [14, 15, 13, 16, 17])
 (.seq (.seq (.reg [⟨(some 18), .mov (.s 4), none⟩,
 ⟨(some 19), .bin .neq (.s 18) (.c (.int .i64 0)), none⟩] [18])
 (.cond (.s 19)
 (.seq (.reg [⟨(some 20), .mov (.s 3), none⟩,
 ⟨(some 21), .len (.s 20), none⟩,
 ⟨(some 22), .bin .eql (.s 21) (.c (.int .i64 0)), none⟩,
 ⟨(some 23), .mov (.s 22), none⟩,
 ⟨(some 24), .call 40 [], (some (23, true))⟩,
 ⟨(some 25), .pick (.s 23) (.s 24) (.c (.bool false)), none⟩,
 ⟨(some 2), .mov (.s 25), none⟩] [20, 21, 22, 23, 24, 25])
 .ret)
 .skip))
 (.seq (.reg [⟨(some 27), .mov (.s 3), none⟩,
 ⟨(some 28), .call 41 [(.s 27)], none⟩,
 ⟨(some 26), .mov (.s 28), none⟩,
 ⟨(some 29), .ext (.s 26) 0, none⟩,
 ⟨(some 30), .ext (.s 26) 1, none⟩,
 ⟨(some 5), .mov (.s 29), none⟩,
 ⟨(some 6), .mov (.s 30), none⟩] [27, 28, 26, 29, 30])
 (.seq (.reg [⟨(some 32), .mov (.s 5), none⟩,
 ⟨(some 33), .call 48 [(.s 32)], none⟩,
 ⟨(some 31), .mov (.s 33), none⟩,
 ⟨(some 34), .ext (.s 31) 0, none⟩,
 ⟨(some 35), .ext (.s 31) 1, none⟩,
 ⟨(some 7), .mov (.s 34), none⟩,
 ⟨(some 8), .mov (.s 35), none⟩] [32, 33, 31, 34, 35])
 (.seq (.reg [⟨(some 36), .mov (.s 6), none⟩,
 ⟨(some 37), .bin .eql (.s 36) (.c (.int .i64 0)), none⟩,
 ⟨(some 38), .mov (.s 37), none⟩,
 ⟨(some 39), .mov (.s 8), (some (38, true))⟩,
 ⟨(some 40), .bin .eql (.s 39) (.c (.int .i64 0)), (some (38, true))⟩,
 ⟨(some 41), .pick (.s 38) (.s 40) (.c (.bool false)), none⟩,
 ⟨(some 42), .mov (.s 41), none⟩,
 ⟨(some 43), .mov (.s 5), (some (42, true))⟩,
 ⟨(some 44), .len (.s 43), (some (42, true))⟩,
 ⟨(some 45), .mov (.s 0), (some (42, true))⟩,
 ⟨(some 46), .len (.s 45), (some (42, true))⟩,
 ⟨(some 47), .bin .leq (.s 44) (.s 46), (some (42, true))⟩,
 ⟨(some 48), .pick (.s 42) (.s 47) (.c (.bool false)), none⟩,
 ⟨(some 49), .mov (.s 48), none⟩,
 ⟨(some 50), .mov (.s 7), (some (49, true))⟩,
 ⟨(some 51), .call 50 [(.s 50)], (some (49, true))⟩,
 ⟨(some 52), .mov (.s 3), (some (49, true))⟩,
 ⟨(some 53), .call 50 [(.s 52)], (some (49, true))⟩,
 ⟨(some 54), .call 49 [(.s 51), (.s 53)], (some (49, true))⟩,
 ⟨(some 55), .pick (.s 49) (.s 54) (.c (.bool false)), none⟩,
 ⟨(some 56), .mov (.s 55), none⟩,
 ⟨(some 57), .call 40 [], (some (56, true))⟩,
 ⟨(some 58), .pick (.s 56) (.s 57) (.c (.bool false)), none⟩,
 ⟨(some 2), .mov (.s 58), none⟩] [36, 37, 38, 39, 40, 41, 42, 43, 44, 45, 46, 47, 48, 49, 50, 51, 52, 53, 54, 55, 56, 57, 58])
 .ret)))))))⟩

theorem c_law12_SectionAgain : compF Tryd.prog 11 = some F_law12_SectionAgain := by kernel_rfl
abbrev n_law12_SectionAgain : FuncId := 11

def F_law12_SectionSplits : IFun :=
⟨33, 1, [.tmp 2],
 (.seq (.reg [⟨(some 2), .mov (.c (.bool false)), none⟩] [])
 (.seq (.seq (.reg [⟨(some 7), .mov (.s 0), none⟩,
 ⟨(some 8), .len (.s 7), none⟩,
 ⟨(some 9), .bin .gtr (.s 8) (.c (.int .i64 4000)), none⟩] [7, 8])
 (.cond (.s 9)
 (.seq (.reg [⟨(some 10), .call 40 [], none⟩,
 ⟨(some 2), .mov (.s 10), none⟩] [10])
 .ret)
 .skip))
 (.seq (.reg [⟨(some 12), .mov (.s 0), none⟩,
 ⟨(some 13), .call 48 [(.s 12)], none⟩,
 ⟨(some 11), .mov (.s 13), none⟩,
 ⟨(some 14), .ext (.s 11) 0, none⟩,
 ⟨(some 15), .ext (.s 11) 1, none⟩,
 ⟨(some 3), .mov (.s 14), none⟩,
 ⟨(some 4), .mov (.s 15), none⟩] [12, 13, 11, 14, 15])
 (.seq (.reg [⟨(some 17), .mov (.s 0), none⟩,
 ⟨(some 18), .call 52 [(.s 17)], none⟩,
 ⟨(some 16), .mov (.s 18), none⟩,
 ⟨(some 19), .ext (.s 16) 0, none⟩,
 ⟨(some 20), .ext (.s 16) 1, none⟩,
 ⟨(some 5), .mov (.s 19), none⟩,
 ⟨(some 6), .mov (.s 20), none⟩] [17, 18, 16, 19, 20])
 (.seq (.reg [⟨(some 21), .mov (.s 3), none⟩,
 ⟨(some 22), .call 50 [(.s 21)], none⟩,
 ⟨(some 23), .mov (.s 5), none⟩,
 ⟨(some 24), .call 49 [(.s 22), (.s 23)], none⟩,
 ⟨(some 25), .mov (.s 24), none⟩,
 ⟨(some 26), .mov (.s 4), (some (25, true))⟩,
 ⟨(some 27), .mov (.s 6), (some (25, true))⟩,
 ⟨(some 28), .bin .eql (.s 26) (.s 27), (some (25, true))⟩,
 ⟨(some 29), .pick (.s 25) (.s 28) (.c (.bool false)), none⟩,
 ⟨(some 30), .mov (.s 29), none⟩,
 ⟨(some 31), .call 40 [], (some (30, true))⟩,
 ⟨(some 32), .pick (.s 30) (.s 31) (.c (.bool false)), none⟩,
 ⟨(some 2), .mov (.s 32), none⟩] [21, 22, 23, 24, 25, 26, 27, 28, 29, 30, 31, 32])
 .ret)))))⟩

theorem c_law12_SectionSplits : compF Tryd.prog 13 = some F_law12_SectionSplits := by kernel_rfl
abbrev n_law12_SectionSplits : FuncId := 13

def F_law02_alive : IFun :=
⟨55, 0, [.tmp 0],
 (.seq (.reg [⟨(some 0), .mov (.c (.bool false)), none⟩] [])
 (.seq (.reg [⟨(some 8), .bsl 5 1 [[(.int .u8 0)], [(.int .u8 0)], [(.int .u8 0)]] [(0, (.c (.int .u8 172))), (1, (.c (.int .u8 2))), (2, (.c (.int .u8 255)))], none⟩,
 ⟨(some 9), .call 15 [(.s 8)], none⟩,
 ⟨(some 1), .mov (.s 9), none⟩] [8, 9])
 (.seq (.reg [⟨(some 10), .mov (.s 1), none⟩,
 ⟨(some 11), .call 32 [(.s 10)], none⟩,
 ⟨(some 2), .mov (.s 11), none⟩] [10, 11])
 (.seq (.reg [⟨(some 12), .mov (.s 1), none⟩,
 ⟨(some 13), .call 27 [(.s 12)], none⟩,
 ⟨(some 3), .mov (.s 13), none⟩] [12, 13])
 (.seq (.reg [⟨(some 14), .mov (.s 1), none⟩,
 ⟨(some 15), .call 32 [(.s 14)], none⟩] [14, 15])
 (.seq (.reg [⟨(some 16), .mov (.s 1), none⟩,
 ⟨(some 17), .call 31 [(.s 16)], none⟩,
 ⟨(some 4), .mov (.s 17), none⟩] [16, 17])
 (.seq (.reg [⟨(some 18), .call 20 [], none⟩,
 ⟨(some 5), .mov (.s 18), none⟩] [18])
 (.seq (.reg [⟨(some 19), .mov (.s 5), none⟩,
 ⟨(some 20), .call 53 [(.s 19), (.c (.str [195, 169]))], none⟩] [19, 20])
 (.seq (.reg [⟨(some 22), .mov (.s 5), none⟩,
 ⟨(some 23), .call 22 [(.s 22)], none⟩,
 ⟨(some 21), .mov (.s 23), none⟩,
 ⟨(some 24), .ext (.s 21) 0, none⟩,
 ⟨(some 25), .ext (.s 21) 1, none⟩,
 ⟨(some 6), .mov (.s 24), none⟩,
 ⟨(some 7), .mov (.s 25), none⟩] [22, 23, 21, 24, 25])
 (.seq (.reg [⟨(some 26), .mov (.s 2), none⟩,
 ⟨(some 27), .bin .eql (.s 26) (.c (.int .i64 300)), none⟩,
 ⟨(some 28), .mov (.s 27), none⟩,
 ⟨(some 29), .mov (.s 3), (some (28, true))⟩,
 ⟨(some 30), .bin .eql (.s 29) (.c (.int .i64 2)), (some (28, true))⟩,
 ⟨(some 31), .pick (.s 28) (.s 30) (.c (.bool false)), none⟩,
 ⟨(some 32), .mov (.s 31), none⟩,
 ⟨(some 33), .mov (.s 1), (some (32, true))⟩,
 ⟨(some 34), .call 26 [(.s 33)], (some (32, true))⟩,
 ⟨(some 35), .bin .eql (.s 34) (.c (.int .i64 3)), (some (32, true))⟩,
 ⟨(some 36), .pick (.s 32) (.s 35) (.c (.bool false)), none⟩,
 ⟨(some 37), .mov (.s 36), none⟩,
 ⟨(some 38), .mov (.s 4), (some (37, true))⟩,
 ⟨(some 39), .bin .eql (.s 38) (.c (.int .u8 0)), (some (37, true))⟩,
 ⟨(some 40), .pick (.s 37) (.s 39) (.c (.bool false)), none⟩,
 ⟨(some 41), .mov (.s 40), none⟩,
 ⟨(some 42), .mov (.s 1), (some (41, true))⟩,
 ⟨(some 43), .call 27 [(.s 42)], (some (41, true))⟩,
 ⟨(some 44), .bin .eql (.s 43) (.c (.int .i64 2)), (some (41, true))⟩,
 ⟨(some 45), .pick (.s 41) (.s 44) (.c (.bool false)), none⟩,
 ⟨(some 46), .mov (.s 45), none⟩,
 ⟨(some 47), .mov (.s 6), (some (46, true))⟩,
 ⟨(some 48), .cvs (.s 47), (some (46, true))⟩,
 ⟨(some 49), .bin .eql (.s 48) (.c (.str [2, 195, 169])), (some (46, true))⟩,
 ⟨(some 50), .pick (.s 46) (.s 49) (.c (.bool false)), none⟩,
 ⟨(some 51), .mov (.s 50), none⟩,
 ⟨(some 52), .mov (.s 7), (some (51, true))⟩,
 ⟨(some 53), .bin .eql (.s 52) (.c (.int .i64 0)), (some (51, true))⟩,
 ⟨(some 54), .pick (.s 51) (.s 53) (.c (.bool false)), none⟩,
 ⟨(some 0), .mov (.s 54), none⟩] [26, 27, 28, 29, 30, 31, 32, 33, 34, 35, 36, 37, 38, 39, 40, 41, 42, 43, 44, 45, 46, 47, 48, 49, 50, 51, 52, 53, 54])
 .ret))))))))))⟩

theorem c_law02_alive : compF Tryd.prog 14 = some F_law02_alive := by kernel_rfl
abbrev n_law02_alive : FuncId := 14

def F_octet_Read : IFun :=
⟨7, 1, [.tmp 2],
 (.seq (.reg [⟨(some 2), .mov (.c .np), none⟩] [])
 (.seq (.reg [⟨(some 3), .mov (.s 0), none⟩,
 ⟨(some 4), .app 5 1 (.c .nl) (.s 3), none⟩,
 ⟨(some 5), .build [(.bool false), .nl, (.int .i64 0), (.int .i64 0)] [(0, 1, (.c (.bool true))), (1, 1, (.s 4))], none⟩,
 ⟨(some 6), .box 48 4 (.s 5), none⟩,
 ⟨(some 2), .mov (.s 6), none⟩] [3, 4, 5, 6])
 .ret))⟩

theorem c_octet_Read : compF Tryd.prog 15 = some F_octet_Read := by kernel_rfl
abbrev n_octet_Read : FuncId := 15

def F_Poctet_Reader_Take : IFun :=
⟨33, 2, [.tmp 4],
 (.seq (.reg [⟨(some 4), .mov (.c .nl), none⟩] [])
 (.seq (.block 0 (.seq (.reg [⟨(some 6), .mov (.s 0), none⟩,
 ⟨(some 7), .call 54 [(.s 6)], none⟩,
 ⟨(some 8), .un .not (.s 7), none⟩,
 ⟨(some 5), .mov (.s 8), none⟩] [6, 7, 8])
 (.cond (.s 5)
 (.seq (.reg [⟨(some 4), .mov (.c .nl), none⟩] [])
 .ret)
 (.seq (.reg [⟨(some 10), .mov (.s 1), none⟩,
 ⟨(some 11), .bin .lss (.s 10) (.c (.int .i64 0)), none⟩,
 ⟨(some 9), .mov (.s 11), none⟩] [10, 11])
 (.cond (.s 9)
 (.seq (.reg [⟨(some 12), .mov (.s 0), none⟩,
 ⟨(some 13), .call 25 [(.s 12), (.c (.int .i64 1))], none⟩] [12, 13])
 (.seq (.reg [⟨(some 4), .mov (.c .nl), none⟩] [])
 .ret))
 (.seq (.seq (.draw [⟨⟨(some 15), .mov (.s 1), none⟩, []⟩,
 ⟨⟨(some 16), .mov (.s 0), none⟩, []⟩,
 ⟨⟨(some 17), .nchk (.s 16), none⟩, [1]⟩,
 ⟨⟨(some 18), .fadr 1 (.s 17), none⟩, [2, 1]⟩,
 ⟨⟨(some 19), .load none (.s 18), none⟩, [3, 2, 1]⟩,
 ⟨⟨(some 20), .len (.s 19), none⟩, [4, 3, 2, 1]⟩,
 ⟨⟨(some 21), .mov (.s 0), none⟩, []⟩,
 ⟨⟨(some 22), .nchk (.s 21), none⟩, [6]⟩,
 ⟨⟨(some 23), .fadr 2 (.s 22), none⟩, [7, 6]⟩,
 ⟨⟨(some 24), .load none (.s 23), none⟩, [8, 7, 6]⟩,
 ⟨⟨(some 25), .bin .sub (.s 20) (.s 24), none⟩, [5, 4, 3, 2, 1, 9, 8, 7, 6]⟩] [] [])
 (.seq (.reg [⟨(some 26), .bin .gtr (.s 15) (.s 25), none⟩] [])
 (.reg [⟨(some 14), .mov (.s 26), none⟩] [15, 16, 17, 18, 19, 20, 21, 22, 23, 24, 25, 26])))
 (.cond (.s 14)
 (.seq (.reg [⟨(some 27), .mov (.s 0), none⟩,
 ⟨(some 28), .call 25 [(.s 27), (.c (.int .i64 3))], none⟩] [27, 28])
 (.seq (.reg [⟨(some 4), .mov (.c .nl), none⟩] [])
 .ret))
 .skip)))))))
 (.seq (.reg [⟨(some 29), .mov (.s 0), none⟩,
 ⟨(some 30), .mov (.s 1), none⟩,
 ⟨(some 31), .call 55 [(.s 29), (.s 30)], none⟩,
 ⟨(some 32), .app 5 1 (.c .nl) (.s 31), none⟩,
 ⟨(some 4), .mov (.s 32), none⟩] [29, 30, 31, 32])
 .ret)))⟩

theorem c_Poctet_Reader_Take : compF Tryd.prog 16 = some F_Poctet_Reader_Take := by kernel_rfl
abbrev n_Poctet_Reader_Take : FuncId := 16

def F_Poctet_Reader_Sub : IFun :=
⟨25, 2, [.tmp 4],
 (.seq (.reg [⟨(some 4), .mov (.c .np), none⟩] [])
 (.seq (.seq (.reg [⟨(some 6), .mov (.s 0), none⟩,
 ⟨(some 7), .pbin .eql (.s 6) (.c .np), none⟩,
 ⟨(some 8), .mov (.s 7), none⟩,
 ⟨(some 9), .mov (.s 0), (some (8, false))⟩,
 ⟨(some 10), .nchk (.s 9), (some (8, false))⟩,
 ⟨(some 11), .fadr 0 (.s 10), (some (8, false))⟩,
 ⟨(some 12), .load none (.s 11), (some (8, false))⟩,
 ⟨(some 13), .un .not (.s 12), (some (8, false))⟩,
 ⟨(some 14), .pick (.s 8) (.c (.bool true)) (.s 13), none⟩] [6, 7, 8, 9, 10, 11, 12, 13])
 (.cond (.s 14)
 (.seq (.reg [⟨(some 4), .mov (.c .np), none⟩] [])
 .ret)
 .skip))
 (.seq (.reg [⟨(some 15), .mov (.s 0), none⟩,
 ⟨(some 16), .mov (.s 1), none⟩,
 ⟨(some 17), .call 16 [(.s 15), (.s 16)], none⟩,
 ⟨(some 5), .mov (.s 17), none⟩] [15, 16, 17])
 (.seq (.reg [⟨(some 18), .mov (.s 5), none⟩,
 ⟨(some 19), .mov (.s 0), none⟩,
 ⟨(some 20), .nchk (.s 19), none⟩,
 ⟨(some 21), .fadr 3 (.s 20), none⟩,
 ⟨(some 22), .load none (.s 21), none⟩,
 ⟨(some 23), .build [(.bool false), .nl, (.int .i64 0), (.int .i64 0)] [(0, 1, (.c (.bool true))), (1, 1, (.s 18)), (3, 1, (.s 22))], none⟩,
 ⟨(some 24), .box 48 4 (.s 23), none⟩,
 ⟨(some 4), .mov (.s 24), none⟩] [18, 19, 20, 21, 22, 23, 24])
 .ret))))⟩

theorem c_Poctet_Reader_Sub : compF Tryd.prog 17 = some F_Poctet_Reader_Sub := by kernel_rfl
abbrev n_Poctet_Reader_Sub : FuncId := 17

def F_Poctet_Reader_End : IFun :=
⟨21, 1, [.tmp 2],
 (.seq (.reg [⟨(some 2), .mov (.c (.int .i64 0)), none⟩] [])
 (.seq (.seq (.reg [⟨(some 4), .mov (.s 0), none⟩,
 ⟨(some 5), .call 26 [(.s 4)], none⟩,
 ⟨(some 3), .mov (.s 5), none⟩] [4, 5])
 (.seq (.seq (.reg [⟨(some 6), .mov (.s 3), none⟩] [])
 (.seq (.reg [⟨(some 7), .bin .neq (.s 6) (.c (.int .i64 0)), none⟩] [])
 (.seq (.reg [⟨(some 8), .mov (.s 7), none⟩] [])
 (.seq (.draw [⟨⟨(some 9), .mov (.s 0), (some (8, false))⟩, []⟩,
 ⟨⟨(some 10), .nchk (.s 9), (some (8, false))⟩, [0]⟩,
 ⟨⟨(some 11), .fadr 2 (.s 10), (some (8, false))⟩, [1, 0]⟩,
 ⟨⟨(some 12), .load none (.s 11), (some (8, false))⟩, [2, 1, 0]⟩,
 ⟨⟨(some 13), .mov (.s 0), (some (8, false))⟩, []⟩,
 ⟨⟨(some 14), .nchk (.s 13), (some (8, false))⟩, [4]⟩,
 ⟨⟨(some 15), .fadr 1 (.s 14), (some (8, false))⟩, [5, 4]⟩,
 ⟨⟨(some 16), .load none (.s 15), (some (8, false))⟩, [6, 5, 4]⟩,
 ⟨⟨(some 17), .len (.s 16), (some (8, false))⟩, [7, 6, 5, 4]⟩] [] [])
 (.seq (.reg [⟨(some 18), .bin .eql (.s 12) (.s 17), (some (8, false))⟩] [])
 (.reg [⟨(some 19), .pick (.s 8) (.c (.bool true)) (.s 18), none⟩] [6, 7, 8, 9, 10, 11, 12, 13, 14, 15, 16, 17, 18]))))))
 (.cond (.s 19)
 (.seq (.reg [⟨(some 20), .mov (.s 3), none⟩,
 ⟨(some 2), .mov (.s 20), none⟩] [20])
 .ret)
 .skip)))
 (.seq (.reg [⟨(some 2), .mov (.c (.int .i64 5)), none⟩] [])
 .ret)))⟩

theorem c_Poctet_Reader_End : compF Tryd.prog 18 = some F_Poctet_Reader_End := by kernel_rfl
abbrev n_Poctet_Reader_End : FuncId := 18

def F_octet_New : IFun :=
⟨3, 0, [.tmp 0],
 (.seq (.reg [⟨(some 0), .mov (.c .np), none⟩] [])
 (.seq (.reg [⟨(some 1), .build [(.bool false), .nl, (.int .i64 0)] [(0, 1, (.c (.bool true)))], none⟩,
 ⟨(some 2), .box 50 3 (.s 1), none⟩,
 ⟨(some 0), .mov (.s 2), none⟩] [1, 2])
 .ret))⟩

theorem c_octet_New : compF Tryd.prog 20 = some F_octet_New := by kernel_rfl
abbrev n_octet_New : FuncId := 20

def F_Poctet_Writer_Done : IFun :=
⟨29, 1, [.tmp 2, .tmp 3],
 (.seq (.reg [⟨(some 2), .mov (.c .nl), none⟩,
 ⟨(some 3), .mov (.c (.int .i64 0)), none⟩] [])
 (.seq (.block 0 (.seq (.reg [⟨(some 5), .mov (.s 0), none⟩,
 ⟨(some 6), .pbin .eql (.s 5) (.c .np), none⟩,
 ⟨(some 7), .mov (.s 6), none⟩,
 ⟨(some 8), .mov (.s 0), (some (7, false))⟩,
 ⟨(some 9), .nchk (.s 8), (some (7, false))⟩,
 ⟨(some 10), .fadr 0 (.s 9), (some (7, false))⟩,
 ⟨(some 11), .load none (.s 10), (some (7, false))⟩,
 ⟨(some 12), .un .not (.s 11), (some (7, false))⟩,
 ⟨(some 13), .pick (.s 7) (.c (.bool true)) (.s 12), none⟩,
 ⟨(some 4), .mov (.s 13), none⟩] [5, 6, 7, 8, 9, 10, 11, 12, 13])
 (.cond (.s 4)
 (.seq (.reg [⟨(some 2), .mov (.c .nl), none⟩,
 ⟨(some 3), .mov (.c (.int .i64 2)), none⟩] [])
 .ret)
 (.seq (.reg [⟨(some 15), .mov (.s 0), none⟩,
 ⟨(some 16), .nchk (.s 15), none⟩,
 ⟨(some 17), .fadr 2 (.s 16), none⟩,
 ⟨(some 18), .load none (.s 17), none⟩,
 ⟨(some 19), .bin .neq (.s 18) (.c (.int .i64 0)), none⟩,
 ⟨(some 14), .mov (.s 19), none⟩] [15, 16, 17, 18, 19])
 (.cond (.s 14)
 (.seq (.seq (.draw [⟨⟨(some 20), .mov (.s 0), none⟩, []⟩,
 ⟨⟨(some 21), .nchk (.s 20), none⟩, [0]⟩,
 ⟨⟨(some 22), .fadr 2 (.s 21), none⟩, [1, 0]⟩,
 ⟨⟨(some 23), .load none (.s 22), none⟩, [2, 1, 0]⟩,
 ⟨⟨(some 2), .mov (.c .nl), none⟩, []⟩] [] [])
 (.reg [⟨(some 3), .mov (.s 23), none⟩] [20, 21, 22, 23]))
 .ret)
 .skip)))))
 (.seq (.reg [⟨(some 24), .mov (.s 0), none⟩,
 ⟨(some 25), .nchk (.s 24), none⟩,
 ⟨(some 26), .fadr 1 (.s 25), none⟩,
 ⟨(some 27), .load none (.s 26), none⟩,
 ⟨(some 28), .app 5 1 (.c .nl) (.s 27), none⟩,
 ⟨(some 2), .mov (.s 28), none⟩,
 ⟨(some 3), .mov (.c (.int .i64 0)), none⟩] [24, 25, 26, 27, 28])
 .ret)))⟩

theorem c_Poctet_Writer_Done : compF Tryd.prog 22 = some F_Poctet_Writer_Done := by kernel_rfl
abbrev n_Poctet_Writer_Done : FuncId := 22

def F_ref02_Done : IFun :=
⟨11, 1, [.tmp 2, .tmp 3],
 (.seq (.reg [⟨(some 1), .box 36 2 (.s 0), none⟩,
 ⟨(some 2), .mov (.c .nl), none⟩,
 ⟨(some 3), .mov (.c (.int .i64 0)), none⟩] [])
 (.seq (.seq (.reg [⟨(some 4), .fadr 1 (.s 1), none⟩,
 ⟨(some 5), .load none (.s 4), none⟩,
 ⟨(some 6), .bin .neq (.s 5) (.c (.int .i64 0)), none⟩] [4, 5])
 (.cond (.s 6)
 (.seq (.seq (.draw [⟨⟨(some 7), .fadr 1 (.s 1), none⟩, []⟩,
 ⟨⟨(some 8), .load none (.s 7), none⟩, [0]⟩,
 ⟨⟨(some 2), .mov (.c .nl), none⟩, []⟩] [] [])
 (.reg [⟨(some 3), .mov (.s 8), none⟩] [7, 8]))
 .ret)
 .skip))
 (.seq (.reg [⟨(some 9), .fadr 0 (.s 1), none⟩,
 ⟨(some 10), .load none (.s 9), none⟩,
 ⟨(some 2), .mov (.s 10), none⟩,
 ⟨(some 3), .mov (.c (.int .i64 0)), none⟩] [9, 10])
 .ret)))⟩

theorem c_ref02_Done : compF Tryd.prog 23 = some F_ref02_Done := by kernel_rfl
abbrev n_ref02_Done : FuncId := 23

def F_Poctet_Writer_Len : IFun :=
⟨11, 1, [.tmp 2],
 (.seq (.reg [⟨(some 2), .mov (.c (.int .i64 0)), none⟩] [])
 (.seq (.seq (.reg [⟨(some 3), .mov (.s 0), none⟩,
 ⟨(some 4), .call 71 [(.s 3)], none⟩,
 ⟨(some 5), .un .not (.s 4), none⟩] [3, 4])
 (.cond (.s 5)
 (.seq (.reg [⟨(some 2), .mov (.c (.int .i64 0)), none⟩] [])
 .ret)
 .skip))
 (.seq (.reg [⟨(some 6), .mov (.s 0), none⟩,
 ⟨(some 7), .nchk (.s 6), none⟩,
 ⟨(some 8), .fadr 1 (.s 7), none⟩,
 ⟨(some 9), .load none (.s 8), none⟩,
 ⟨(some 10), .len (.s 9), none⟩,
 ⟨(some 2), .mov (.s 10), none⟩] [6, 7, 8, 9, 10])
 .ret)))⟩

theorem c_Poctet_Writer_Len : compF Tryd.prog 24 = some F_Poctet_Writer_Len := by kernel_rfl
abbrev n_Poctet_Writer_Len : FuncId := 24

def F_Poctet_Reader_Fail : IFun :=
⟨10, 2, [],
 (.seq (.reg [⟨(some 4), .mov (.s 0), none⟩,
 ⟨(some 5), .call 54 [(.s 4)], none⟩] [4])
 (.cond (.s 5)
 (.reg [⟨(some 6), .mov (.s 0), none⟩,
 ⟨(some 7), .mov (.s 1), none⟩,
 ⟨(some 8), .nchk (.s 6), none⟩,
 ⟨(some 9), .fadr 3 (.s 8), none⟩,
 ⟨none, .store 1 (.s 9) (.s 7), none⟩] [6, 7, 8, 9])
 .skip))⟩

theorem c_Poctet_Reader_Fail : compF Tryd.prog 25 = some F_Poctet_Reader_Fail := by kernel_rfl
abbrev n_Poctet_Reader_Fail : FuncId := 25

def F_Poctet_Reader_Err : IFun :=
⟨16, 1, [.tmp 2],
 (.seq (.reg [⟨(some 2), .mov (.c (.int .i64 0)), none⟩] [])
 (.seq (.seq (.reg [⟨(some 3), .mov (.s 0), none⟩,
 ⟨(some 4), .pbin .eql (.s 3) (.c .np), none⟩,
 ⟨(some 5), .mov (.s 4), none⟩,
 ⟨(some 6), .mov (.s 0), (some (5, false))⟩,
 ⟨(some 7), .nchk (.s 6), (some (5, false))⟩,
 ⟨(some 8), .fadr 0 (.s 7), (some (5, false))⟩,
 ⟨(some 9), .load none (.s 8), (some (5, false))⟩,
 ⟨(some 10), .un .not (.s 9), (some (5, false))⟩,
 ⟨(some 11), .pick (.s 5) (.c (.bool true)) (.s 10), none⟩] [3, 4, 5, 6, 7, 8, 9, 10])
 (.cond (.s 11)
 (.seq (.reg [⟨(some 2), .mov (.c (.int .i64 2)), none⟩] [])
 .ret)
 .skip))
 (.seq (.reg [⟨(some 12), .mov (.s 0), none⟩,
 ⟨(some 13), .nchk (.s 12), none⟩,
 ⟨(some 14), .fadr 3 (.s 13), none⟩,
 ⟨(some 15), .load none (.s 14), none⟩,
 ⟨(some 2), .mov (.s 15), none⟩] [12, 13, 14, 15])
 .ret)))⟩

theorem c_Poctet_Reader_Err : compF Tryd.prog 26 = some F_Poctet_Reader_Err := by kernel_rfl
abbrev n_Poctet_Reader_Err : FuncId := 26

def F_Poctet_Reader_At : IFun :=
⟨9, 1, [.tmp 2],
 (.seq (.reg [⟨(some 2), .mov (.c (.int .i64 0)), none⟩] [])
 (.seq (.seq (.reg [⟨(some 3), .mov (.s 0), none⟩,
 ⟨(some 4), .pbin .eql (.s 3) (.c .np), none⟩] [3])
 (.cond (.s 4)
 (.seq (.reg [⟨(some 2), .mov (.c (.int .i64 0)), none⟩] [])
 .ret)
 .skip))
 (.seq (.reg [⟨(some 5), .mov (.s 0), none⟩,
 ⟨(some 6), .nchk (.s 5), none⟩,
 ⟨(some 7), .fadr 2 (.s 6), none⟩,
 ⟨(some 8), .load none (.s 7), none⟩,
 ⟨(some 2), .mov (.s 8), none⟩] [5, 6, 7, 8])
 .ret)))⟩

theorem c_Poctet_Reader_At : compF Tryd.prog 27 = some F_Poctet_Reader_At := by kernel_rfl
abbrev n_Poctet_Reader_At : FuncId := 27

def F_Poctet_Reader_Left : IFun :=
⟨16, 1, [.tmp 2],
 (.seq (.reg [⟨(some 2), .mov (.c (.int .i64 0)), none⟩] [])
 (.seq (.seq (.reg [⟨(some 3), .mov (.s 0), none⟩,
 ⟨(some 4), .call 54 [(.s 3)], none⟩,
 ⟨(some 5), .un .not (.s 4), none⟩] [3, 4])
 (.cond (.s 5)
 (.seq (.reg [⟨(some 2), .mov (.c (.int .i64 0)), none⟩] [])
 .ret)
 .skip))
 (.seq (.seq (.draw [⟨⟨(some 6), .mov (.s 0), none⟩, []⟩,
 ⟨⟨(some 7), .nchk (.s 6), none⟩, [0]⟩,
 ⟨⟨(some 8), .fadr 1 (.s 7), none⟩, [1, 0]⟩,
 ⟨⟨(some 9), .load none (.s 8), none⟩, [2, 1, 0]⟩,
 ⟨⟨(some 10), .len (.s 9), none⟩, [3, 2, 1, 0]⟩,
 ⟨⟨(some 11), .mov (.s 0), none⟩, []⟩,
 ⟨⟨(some 12), .nchk (.s 11), none⟩, [5]⟩,
 ⟨⟨(some 13), .fadr 2 (.s 12), none⟩, [6, 5]⟩,
 ⟨⟨(some 14), .load none (.s 13), none⟩, [7, 6, 5]⟩] [] [])
 (.seq (.reg [⟨(some 15), .bin .sub (.s 10) (.s 14), none⟩] [])
 (.reg [⟨(some 2), .mov (.s 15), none⟩] [6, 7, 8, 9, 10, 11, 12, 13, 14, 15])))
 .ret)))⟩

theorem c_Poctet_Reader_Left : compF Tryd.prog 28 = some F_Poctet_Reader_Left := by kernel_rfl
abbrev n_Poctet_Reader_Left : FuncId := 28

def F_Poctet_Reader_Peek : IFun :=
⟨29, 1, [.tmp 2, .tmp 3],
 (.seq (.reg [⟨(some 2), .mov (.c (.int .u8 0)), none⟩,
 ⟨(some 3), .mov (.c (.bool false)), none⟩] [])
 (.seq (.seq (.seq (.reg [⟨(some 4), .mov (.s 0), none⟩] [])
 (.seq (.reg [⟨(some 5), .call 54 [(.s 4)], none⟩] [])
 (.seq (.reg [⟨(some 6), .un .not (.s 5), none⟩] [])
 (.seq (.reg [⟨(some 7), .mov (.s 6), none⟩] [])
 (.seq (.draw [⟨⟨(some 8), .mov (.s 0), (some (7, false))⟩, []⟩,
 ⟨⟨(some 9), .nchk (.s 8), (some (7, false))⟩, [0]⟩,
 ⟨⟨(some 10), .fadr 2 (.s 9), (some (7, false))⟩, [1, 0]⟩,
 ⟨⟨(some 11), .load none (.s 10), (some (7, false))⟩, [2, 1, 0]⟩,
 ⟨⟨(some 12), .mov (.s 0), (some (7, false))⟩, []⟩,
 ⟨⟨(some 13), .nchk (.s 12), (some (7, false))⟩, [4]⟩,
 ⟨⟨(some 14), .fadr 1 (.s 13), (some (7, false))⟩, [5, 4]⟩,
 ⟨⟨(some 15), .load none (.s 14), (some (7, false))⟩, [6, 5, 4]⟩,
 ⟨⟨(some 16), .len (.s 15), (some (7, false))⟩, [7, 6, 5, 4]⟩] [] [])
 (.seq (.reg [⟨(some 17), .bin .geq (.s 11) (.s 16), (some (7, false))⟩] [])
 (.reg [⟨(some 18), .pick (.s 7) (.c (.bool true)) (.s 17), none⟩] [4, 5, 6, 7, 8, 9, 10, 11, 12, 13, 14, 15, 16, 17])))))))
 (.cond (.s 18)
 (.seq (.reg [⟨(some 2), .mov (.c (.int .u8 0)), none⟩,
 ⟨(some 3), .mov (.c (.bool false)), none⟩] [])
 .ret)
 .skip))
 (.seq (.seq (.draw [⟨⟨(some 19), .mov (.s 0), none⟩, []⟩,
 ⟨⟨(some 20), .nchk (.s 19), none⟩, [0]⟩,
 ⟨⟨(some 21), .fadr 1 (.s 20), none⟩, [1, 0]⟩,
 ⟨⟨(some 22), .load none (.s 21), none⟩, [2, 1, 0]⟩,
 ⟨⟨(some 23), .mov (.s 0), none⟩, []⟩,
 ⟨⟨(some 24), .nchk (.s 23), none⟩, [4]⟩,
 ⟨⟨(some 25), .fadr 2 (.s 24), none⟩, [5, 4]⟩,
 ⟨⟨(some 26), .load none (.s 25), none⟩, [6, 5, 4]⟩] [] [])
 (.seq (.reg [⟨(some 27), .iadr 1 (.s 22) (.s 26), none⟩] [])
 (.seq (.reg [⟨(some 28), .load none (.s 27), none⟩] [])
 (.seq (.reg [⟨(some 2), .mov (.s 28), none⟩] [])
 (.reg [⟨(some 3), .mov (.c (.bool true)), none⟩] [19, 20, 21, 22, 23, 24, 25, 26, 27, 28])))))
 .ret)))⟩

theorem c_Poctet_Reader_Peek : compF Tryd.prog 29 = some F_Poctet_Reader_Peek := by kernel_rfl
abbrev n_Poctet_Reader_Peek : FuncId := 29

def F_Poctet_Writer_Part : IFun :=
⟨39, 2, [],
 (.seq (.seq (.reg [⟨(some 5), .mov (.s 1), none⟩,
 ⟨(some 6), .pbin .eql (.s 5) (.c .np), none⟩,
 ⟨(some 7), .mov (.s 6), none⟩,
 ⟨(some 8), .mov (.s 1), (some (7, false))⟩,
 ⟨(some 9), .nchk (.s 8), (some (7, false))⟩,
 ⟨(some 10), .fadr 0 (.s 9), (some (7, false))⟩,
 ⟨(some 11), .load none (.s 10), (some (7, false))⟩,
 ⟨(some 12), .un .not (.s 11), (some (7, false))⟩,
 ⟨(some 13), .pick (.s 7) (.c (.bool true)) (.s 12), none⟩] [5, 6, 7, 8, 9, 10, 11, 12])
 (.cond (.s 13)
 (.seq (.reg [⟨(some 14), .mov (.s 0), none⟩,
 ⟨(some 15), .call 51 [(.s 14), (.c (.int .i64 2))], none⟩] [14, 15])
 .ret)
 .skip))
 (.seq (.seq (.reg [⟨(some 16), .mov (.s 1), none⟩,
 ⟨(some 17), .nchk (.s 16), none⟩,
 ⟨(some 18), .fadr 2 (.s 17), none⟩,
 ⟨(some 19), .load none (.s 18), none⟩,
 ⟨(some 20), .bin .neq (.s 19) (.c (.int .i64 0)), none⟩] [16, 17, 18, 19])
 (.cond (.s 20)
 (.seq (.reg [⟨(some 21), .mov (.s 0), none⟩,
 ⟨(some 22), .mov (.s 1), none⟩,
 ⟨(some 23), .nchk (.s 22), none⟩,
 ⟨(some 24), .fadr 2 (.s 23), none⟩,
 ⟨(some 25), .load none (.s 24), none⟩,
 ⟨(some 26), .call 51 [(.s 21), (.s 25)], none⟩] [21, 22, 23, 24, 25, 26])
 .ret)
 .skip))
 (.seq (.reg [⟨(some 27), .mov (.s 1), none⟩,
 ⟨(some 28), .nchk (.s 27), none⟩,
 ⟨(some 29), .fadr 1 (.s 28), none⟩,
 ⟨(some 30), .load none (.s 29), none⟩,
 ⟨(some 31), .app 5 1 (.c .nl) (.s 30), none⟩,
 ⟨(some 4), .mov (.s 31), none⟩] [27, 28, 29, 30, 31])
 (.seq (.reg [⟨(some 32), .mov (.s 0), none⟩,
 ⟨(some 33), .mov (.s 4), none⟩,
 ⟨(some 34), .len (.s 33), none⟩,
 ⟨(some 35), .call 58 [(.s 32), (.s 34)], none⟩] [32, 33, 34, 35])
 (.reg [⟨(some 36), .mov (.s 0), none⟩,
 ⟨(some 37), .mov (.s 4), none⟩,
 ⟨(some 38), .call 66 [(.s 36), (.s 37)], none⟩] [36, 37, 38])))))⟩

theorem c_Poctet_Writer_Part : compF Tryd.prog 30 = some F_Poctet_Writer_Part := by kernel_rfl
abbrev n_Poctet_Writer_Part : FuncId := 30

def F_Poctet_Reader_Byte : IFun :=
⟨12, 1, [.tmp 2],
 (.seq (.reg [⟨(some 2), .mov (.c (.int .u8 0)), none⟩] [])
 (.seq (.seq (.reg [⟨(some 4), .mov (.s 0), none⟩,
 ⟨(some 5), .call 16 [(.s 4), (.c (.int .i64 1))], none⟩,
 ⟨(some 3), .mov (.s 5), none⟩] [4, 5])
 (.seq (.reg [⟨(some 6), .mov (.s 3), none⟩,
 ⟨(some 7), .len (.s 6), none⟩,
 ⟨(some 8), .bin .eql (.s 7) (.c (.int .i64 1)), none⟩] [6, 7])
 (.cond (.s 8)
 (.seq (.reg [⟨(some 9), .mov (.s 3), none⟩,
 ⟨(some 10), .iadr 1 (.s 9) (.c (.int .i64 0)), none⟩,
 ⟨(some 11), .load none (.s 10), none⟩,
 ⟨(some 2), .mov (.s 11), none⟩] [9, 10, 11])
 .ret)
 .skip)))
 (.seq (.reg [⟨(some 2), .mov (.c (.int .u8 0)), none⟩] [])
 .ret)))⟩

theorem c_Poctet_Reader_Byte : compF Tryd.prog 31 = some F_Poctet_Reader_Byte := by kernel_rfl
abbrev n_Poctet_Reader_Byte : FuncId := 31

def F_Poctet_Reader_U32 : IFun :=
⟨6, 1, [.tmp 2],
 (.seq (.reg [⟨(some 2), .mov (.c (.int .i64 0)), none⟩] [])
 (.seq (.reg [⟨(some 3), .mov (.s 0), none⟩,
 ⟨(some 4), .call 72 [(.s 3), (.c (.int .i64 32))], none⟩,
 ⟨(some 5), .cvi .i64 (.s 4), none⟩,
 ⟨(some 2), .mov (.s 5), none⟩] [3, 4, 5])
 .ret))⟩

theorem c_Poctet_Reader_U32 : compF Tryd.prog 32 = some F_Poctet_Reader_U32 := by kernel_rfl
abbrev n_Poctet_Reader_U32 : FuncId := 32

def F_Poctet_Reader_Name : IFun :=
⟨39, 1, [.tmp 2],
 (.seq (.reg [⟨(some 2), .mov (.c (.str [])), none⟩] [])
 (.seq (.seq (.reg [⟨(some 5), .mov (.s 0), none⟩,
 ⟨(some 6), .call 54 [(.s 5)], none⟩,
 ⟨(some 7), .un .not (.s 6), none⟩] [5, 6])
 (.cond (.s 7)
 (.seq (.reg [⟨(some 2), .mov (.c (.str [])), none⟩] [])
 .ret)
 .skip))
 (.seq (.reg [⟨(some 8), .mov (.s 0), none⟩,
 ⟨(some 9), .nchk (.s 8), none⟩,
 ⟨(some 10), .fadr 2 (.s 9), none⟩,
 ⟨(some 11), .load none (.s 10), none⟩,
 ⟨(some 3), .mov (.s 11), none⟩] [8, 9, 10, 11])
 (.seq (.reg [⟨(some 12), .mov (.s 0), none⟩,
 ⟨(some 13), .mov (.s 0), none⟩,
 ⟨(some 14), .call 73 [(.s 13), (.c (.int .i64 64))], none⟩,
 ⟨(some 15), .call 16 [(.s 12), (.s 14)], none⟩,
 ⟨(some 16), .cvs (.s 15), none⟩,
 ⟨(some 4), .mov (.s 16), none⟩] [12, 13, 14, 15, 16])
 (.seq (.seq (.reg [⟨(some 17), .mov (.s 0), none⟩,
 ⟨(some 18), .nchk (.s 17), none⟩,
 ⟨(some 19), .fadr 3 (.s 18), none⟩,
 ⟨(some 20), .load none (.s 19), none⟩,
 ⟨(some 21), .bin .eql (.s 20) (.c (.int .i64 0)), none⟩,
 ⟨(some 22), .mov (.s 21), none⟩,
 ⟨(some 23), .mov (.s 4), (some (22, true))⟩,
 ⟨(some 24), .call 74 [(.s 23)], (some (22, true))⟩,
 ⟨(some 25), .un .not (.s 24), (some (22, true))⟩,
 ⟨(some 26), .pick (.s 22) (.s 25) (.c (.bool false)), none⟩] [17, 18, 19, 20, 21, 22, 23, 24, 25])
 (.cond (.s 26)
 (.reg [⟨(some 27), .mov (.s 0), none⟩,
 ⟨(some 28), .call 25 [(.s 27), (.c (.int .i64 9))], none⟩] [27, 28])
 .skip))
 (.seq (.seq (.reg [⟨(some 29), .mov (.s 0), none⟩,
 ⟨(some 30), .nchk (.s 29), none⟩,
 ⟨(some 31), .fadr 3 (.s 30), none⟩,
 ⟨(some 32), .load none (.s 31), none⟩,
 ⟨(some 33), .bin .neq (.s 32) (.c (.int .i64 0)), none⟩] [29, 30, 31, 32])
 (.cond (.s 33)
 (.seq (.reg [⟨(some 34), .mov (.s 0), none⟩,
 ⟨(some 35), .mov (.s 3), none⟩,
 ⟨(some 36), .nchk (.s 34), none⟩,
 ⟨(some 37), .fadr 2 (.s 36), none⟩,
 ⟨none, .store 1 (.s 37) (.s 35), none⟩] [34, 35, 36, 37])
 (.seq (.reg [⟨(some 2), .mov (.c (.str [])), none⟩] [])
 .ret))
 .skip))
 (.seq (.reg [⟨(some 38), .mov (.s 4), none⟩,
 ⟨(some 2), .mov (.s 38), none⟩] [38])
 .ret)))))))⟩

theorem c_Poctet_Reader_Name : compF Tryd.prog 33 = some F_Poctet_Reader_Name := by kernel_rfl
abbrev n_Poctet_Reader_Name : FuncId := 33

def F_law02_few : IFun :=
⟨13, 2, [.tmp 4],
 (.seq (.reg [⟨(some 4), .mov (.c (.bool false)), none⟩] [])
 (.seq (.reg [⟨(some 5), .mov (.s 0), none⟩,
 ⟨(some 6), .len (.s 5), none⟩,
 ⟨(some 7), .bin .leq (.s 6) (.c (.int .i64 500)), none⟩,
 ⟨(some 8), .mov (.s 7), none⟩,
 ⟨(some 9), .mov (.s 1), (some (8, true))⟩,
 ⟨(some 10), .len (.s 9), (some (8, true))⟩,
 ⟨(some 11), .bin .leq (.s 10) (.c (.int .i64 30)), (some (8, true))⟩,
 ⟨(some 12), .pick (.s 8) (.s 11) (.c (.bool false)), none⟩,
 ⟨(some 4), .mov (.s 12), none⟩] [5, 6, 7, 8, 9, 10, 11, 12])
 .ret))⟩

theorem c_law02_few : compF Tryd.prog 35 = some F_law02_few := by kernel_rfl
abbrev n_law02_few : FuncId := 35

def F_ref02_Read : IFun :=
⟨5, 1, [.cell 2 (some 3)],
 (.seq (.reg [⟨(some 2), .new 62 [.nl, (.int .i64 0), (.int .i64 0)], none⟩] [])
 (.seq (.reg [⟨(some 3), .mov (.s 0), none⟩,
 ⟨(some 4), .build [.nl, (.int .i64 0), (.int .i64 0)] [(0, 1, (.s 3))], none⟩,
 ⟨none, .store 3 (.s 2) (.s 4), none⟩] [3, 4])
 .ret))⟩

theorem c_ref02_Read : compF Tryd.prog 36 = some F_ref02_Read := by kernel_rfl
abbrev n_ref02_Read : FuncId := 36

def F_law02_same : IFun :=
⟨55, 2, [.tmp 4],
 (.seq (.reg [⟨(some 3), .box 62 3 (.s 1), none⟩,
 ⟨(some 4), .mov (.c (.bool false)), none⟩] [])
 (.seq (.reg [⟨(some 10), .mov (.s 0), none⟩,
 ⟨(some 11), .call 29 [(.s 10)], none⟩,
 ⟨(some 9), .mov (.s 11), none⟩,
 ⟨(some 12), .ext (.s 9) 0, none⟩,
 ⟨(some 13), .ext (.s 9) 1, none⟩,
 ⟨(some 5), .mov (.s 12), none⟩,
 ⟨(some 6), .mov (.s 13), none⟩] [10, 11, 9, 12, 13])
 (.seq (.reg [⟨(some 15), .load (some 3) (.s 3), none⟩,
 ⟨(some 16), .call 78 [(.s 15)], none⟩,
 ⟨(some 14), .mov (.s 16), none⟩,
 ⟨(some 17), .ext (.s 14) 0, none⟩,
 ⟨(some 18), .ext (.s 14) 1, none⟩,
 ⟨(some 7), .mov (.s 17), none⟩,
 ⟨(some 8), .mov (.s 18), none⟩] [15, 16, 14, 17, 18])
 (.seq (.seq (.draw [⟨⟨(some 19), .mov (.s 0), none⟩, []⟩,
 ⟨⟨(some 20), .call 27 [(.s 19)], none⟩, [0]⟩,
 ⟨⟨(some 21), .fadr 1 (.s 3), none⟩, []⟩,
 ⟨⟨(some 22), .load none (.s 21), none⟩, [2]⟩] [] [])
 (.seq (.reg [⟨(some 23), .bin .eql (.s 20) (.s 22), none⟩] [])
 (.seq (.reg [⟨(some 24), .mov (.s 23), none⟩] [])
 (.seq (.draw [⟨⟨(some 25), .mov (.s 0), (some (24, true))⟩, []⟩,
 ⟨⟨(some 26), .call 28 [(.s 25)], (some (24, true))⟩, [0]⟩,
 ⟨⟨(some 27), .load (some 3) (.s 3), (some (24, true))⟩, []⟩] [] [])
 (.seq (.reg [⟨(some 28), .call 79 [(.s 27)], (some (24, true))⟩] [])
 (.seq (.reg [⟨(some 29), .bin .eql (.s 26) (.s 28), (some (24, true))⟩] [])
 (.seq (.reg [⟨(some 30), .pick (.s 24) (.s 29) (.c (.bool false)), none⟩] [])
 (.seq (.reg [⟨(some 31), .mov (.s 30), none⟩] [])
 (.seq (.draw [⟨⟨(some 32), .mov (.s 0), (some (31, true))⟩, []⟩,
 ⟨⟨(some 33), .call 26 [(.s 32)], (some (31, true))⟩, [0]⟩,
 ⟨⟨(some 34), .fadr 2 (.s 3), (some (31, true))⟩, []⟩,
 ⟨⟨(some 35), .load none (.s 34), (some (31, true))⟩, [2]⟩] [] [])
 (.seq (.reg [⟨(some 36), .bin .eql (.s 33) (.s 35), (some (31, true))⟩] [])
 (.seq (.reg [⟨(some 37), .pick (.s 31) (.s 36) (.c (.bool false)), none⟩] [])
 (.seq (.reg [⟨(some 38), .mov (.s 37), none⟩] [])
 (.seq (.draw [⟨⟨(some 39), .mov (.s 0), (some (38, true))⟩, []⟩,
 ⟨⟨(some 40), .call 18 [(.s 39)], (some (38, true))⟩, [0]⟩,
 ⟨⟨(some 41), .load (some 3) (.s 3), (some (38, true))⟩, []⟩] [] [])
 (.seq (.reg [⟨(some 42), .call 80 [(.s 41)], (some (38, true))⟩] [])
 (.seq (.reg [⟨(some 43), .bin .eql (.s 40) (.s 42), (some (38, true))⟩] [])
 (.seq (.reg [⟨(some 44), .pick (.s 38) (.s 43) (.c (.bool false)), none⟩] [])
 (.seq (.reg [⟨(some 45), .mov (.s 44), none⟩] [])
 (.seq (.draw [⟨⟨(some 46), .mov (.s 5), (some (45, true))⟩, []⟩,
 ⟨⟨(some 47), .mov (.s 7), (some (45, true))⟩, []⟩] [] [])
 (.seq (.reg [⟨(some 48), .bin .eql (.s 46) (.s 47), (some (45, true))⟩] [])
 (.seq (.reg [⟨(some 49), .pick (.s 45) (.s 48) (.c (.bool false)), none⟩] [])
 (.seq (.reg [⟨(some 50), .mov (.s 49), none⟩] [])
 (.seq (.draw [⟨⟨(some 51), .mov (.s 6), (some (50, true))⟩, []⟩,
 ⟨⟨(some 52), .mov (.s 8), (some (50, true))⟩, []⟩] [] [])
 (.seq (.reg [⟨(some 53), .bbin .eql (.s 51) (.s 52), (some (50, true))⟩] [])
 (.seq (.reg [⟨(some 54), .pick (.s 50) (.s 53) (.c (.bool false)), none⟩] [])
 (.reg [⟨(some 4), .mov (.s 54), none⟩] [19, 20, 21, 22, 23, 24, 25, 26, 27, 28, 29, 30, 31, 32, 33, 34, 35, 36, 37, 38, 39, 40, 41, 42, 43, 44, 45, 46, 47, 48, 49, 50, 51, 52, 53, 54])))))))))))))))))))))))))
 .ret))))⟩

theorem c_law02_same : compF Tryd.prog 37 = some F_law02_same := by kernel_rfl
abbrev n_law02_same : FuncId := 37

def F_law02_acts : IFun :=
⟨192, 3, [.cell 6 (some 3), .tmp 7],
 (.seq (.reg [⟨(some 4), .box 62 3 (.s 1), none⟩,
 ⟨(some 5), .box 46 2 (.s 2), none⟩,
 ⟨(some 6), .new 62 [.nl, (.int .i64 0), (.int .i64 0)], none⟩,
 ⟨(some 7), .mov (.c (.bool false)), none⟩] [])
 (.seq (.reg [⟨(some 8), .mov (.c (.bool true)), none⟩] [])
 (.seq (.seq (.reg [⟨(some 30), .fadr 0 (.s 5), none⟩,
 ⟨(some 31), .load none (.s 30), none⟩] [30])
 (.block 0 (.seq (.reg [⟨(some 33), .bin .eql (.s 31) (.c (.int .i64 0)), none⟩,
 ⟨(some 32), .mov (.s 33), none⟩] [33])
 (.cond (.s 32)
 (.seq (.reg [⟨(some 35), .load (some 3) (.s 4), none⟩,
 ⟨(some 36), .call 81 [(.s 35)], none⟩,
 ⟨(some 34), .mov (.s 36), none⟩,
 ⟨(some 37), .ext (.s 34) 0, none⟩,
 ⟨(some 38), .ext (.s 34) 1, none⟩,
 ⟨(some 9), .new 62 [.nl, (.int .i64 0), (.int .i64 0)], none⟩,
 ⟨none, .store 3 (.s 9) (.s 37), none⟩,
 ⟨(some 10), .mov (.s 38), none⟩] [35, 36, 34, 37, 38])
 (.seq (.draw [⟨⟨(some 39), .load (some 3) (.s 9), none⟩, []⟩,
 ⟨⟨(some 40), .mov (.s 0), none⟩, []⟩,
 ⟨⟨(some 41), .call 31 [(.s 40)], none⟩, [1]⟩,
 ⟨⟨(some 42), .mov (.s 10), none⟩, []⟩,
 ⟨⟨(some 43), .bin .eql (.s 41) (.s 42), none⟩, [2, 1, 3]⟩,
 ⟨⟨none, .store 3 (.s 4) (.s 39), none⟩, [0, 2, 1]⟩] [] [])
 (.reg [⟨(some 8), .mov (.s 43), none⟩] [39, 40, 41, 42, 43])))
 (.seq (.reg [⟨(some 45), .bin .eql (.s 31) (.c (.int .i64 1)), none⟩,
 ⟨(some 44), .mov (.s 45), none⟩] [45])
 (.cond (.s 44)
 (.seq (.reg [⟨(some 47), .load (some 3) (.s 4), none⟩,
 ⟨(some 48), .call 82 [(.s 47)], none⟩,
 ⟨(some 46), .mov (.s 48), none⟩,
 ⟨(some 49), .ext (.s 46) 0, none⟩,
 ⟨(some 50), .ext (.s 46) 1, none⟩,
 ⟨(some 11), .new 62 [.nl, (.int .i64 0), (.int .i64 0)], none⟩,
 ⟨none, .store 3 (.s 11) (.s 49), none⟩,
 ⟨(some 12), .mov (.s 50), none⟩] [47, 48, 46, 49, 50])
 (.seq (.draw [⟨⟨(some 51), .load (some 3) (.s 11), none⟩, []⟩,
 ⟨⟨(some 52), .mov (.s 0), none⟩, []⟩,
 ⟨⟨(some 53), .call 32 [(.s 52)], none⟩, [1]⟩,
 ⟨⟨(some 54), .mov (.s 12), none⟩, []⟩,
 ⟨⟨(some 55), .bin .eql (.s 53) (.s 54), none⟩, [2, 1, 3]⟩,
 ⟨⟨none, .store 3 (.s 4) (.s 51), none⟩, [0, 2, 1]⟩] [] [])
 (.reg [⟨(some 8), .mov (.s 55), none⟩] [51, 52, 53, 54, 55])))
 (.seq (.reg [⟨(some 57), .bin .eql (.s 31) (.c (.int .i64 2)), none⟩,
 ⟨(some 56), .mov (.s 57), none⟩] [57])
 (.cond (.s 56)
 (.seq (.reg [⟨(some 59), .load (some 3) (.s 4), none⟩,
 ⟨(some 60), .call 83 [(.s 59)], none⟩,
 ⟨(some 58), .mov (.s 60), none⟩,
 ⟨(some 61), .ext (.s 58) 0, none⟩,
 ⟨(some 62), .ext (.s 58) 1, none⟩,
 ⟨(some 13), .new 62 [.nl, (.int .i64 0), (.int .i64 0)], none⟩,
 ⟨none, .store 3 (.s 13) (.s 61), none⟩,
 ⟨(some 14), .mov (.s 62), none⟩] [59, 60, 58, 61, 62])
 (.seq (.draw [⟨⟨(some 63), .load (some 3) (.s 13), none⟩, []⟩,
 ⟨⟨(some 64), .mov (.s 0), none⟩, []⟩,
 ⟨⟨(some 65), .call 75 [(.s 64)], none⟩, [1]⟩,
 ⟨⟨(some 66), .mov (.s 14), none⟩, []⟩,
 ⟨⟨(some 67), .bin .eql (.s 65) (.s 66), none⟩, [2, 1, 3]⟩,
 ⟨⟨none, .store 3 (.s 4) (.s 63), none⟩, [0, 2, 1]⟩] [] [])
 (.reg [⟨(some 8), .mov (.s 67), none⟩] [63, 64, 65, 66, 67])))
 (.seq (.reg [⟨(some 69), .bin .eql (.s 31) (.c (.int .i64 3)), none⟩,
 ⟨(some 68), .mov (.s 69), none⟩] [69])
 (.cond (.s 68)
 (.seq (.reg [⟨(some 71), .load (some 3) (.s 4), none⟩,
 ⟨(some 72), .call 84 [(.s 71)], none⟩,
 ⟨(some 70), .mov (.s 72), none⟩,
 ⟨(some 73), .ext (.s 70) 0, none⟩,
 ⟨(some 74), .ext (.s 70) 1, none⟩,
 ⟨(some 15), .new 62 [.nl, (.int .i64 0), (.int .i64 0)], none⟩,
 ⟨none, .store 3 (.s 15) (.s 73), none⟩,
 ⟨(some 16), .mov (.s 74), none⟩] [71, 72, 70, 73, 74])
 (.seq (.draw [⟨⟨(some 75), .load (some 3) (.s 15), none⟩, []⟩,
 ⟨⟨(some 76), .mov (.s 0), none⟩, []⟩,
 ⟨⟨(some 77), .call 76 [(.s 76)], none⟩, [1]⟩,
 ⟨⟨(some 78), .mov (.s 16), none⟩, []⟩,
 ⟨⟨(some 79), .bin .eql (.s 77) (.s 78), none⟩, [2, 1, 3]⟩,
 ⟨⟨none, .store 3 (.s 4) (.s 75), none⟩, [0, 2, 1]⟩] [] [])
 (.reg [⟨(some 8), .mov (.s 79), none⟩] [75, 76, 77, 78, 79])))
 (.seq (.reg [⟨(some 81), .bin .eql (.s 31) (.c (.int .i64 4)), none⟩,
 ⟨(some 80), .mov (.s 81), none⟩] [81])
 (.cond (.s 80)
 (.seq (.reg [⟨(some 83), .load (some 3) (.s 4), none⟩,
 ⟨(some 84), .call 85 [(.s 83)], none⟩,
 ⟨(some 82), .mov (.s 84), none⟩,
 ⟨(some 85), .ext (.s 82) 0, none⟩,
 ⟨(some 86), .ext (.s 82) 1, none⟩,
 ⟨(some 17), .new 62 [.nl, (.int .i64 0), (.int .i64 0)], none⟩,
 ⟨none, .store 3 (.s 17) (.s 85), none⟩,
 ⟨(some 18), .mov (.s 86), none⟩] [83, 84, 82, 85, 86])
 (.seq (.draw [⟨⟨(some 87), .load (some 3) (.s 17), none⟩, []⟩,
 ⟨⟨(some 88), .mov (.s 0), none⟩, []⟩,
 ⟨⟨(some 89), .call 77 [(.s 88)], none⟩, [1]⟩,
 ⟨⟨(some 90), .mov (.s 18), none⟩, []⟩,
 ⟨⟨(some 91), .bin .eql (.s 89) (.s 90), none⟩, [2, 1, 3]⟩,
 ⟨⟨none, .store 3 (.s 4) (.s 87), none⟩, [0, 2, 1]⟩] [] [])
 (.reg [⟨(some 8), .mov (.s 91), none⟩] [87, 88, 89, 90, 91])))
 (.seq (.reg [⟨(some 93), .bin .eql (.s 31) (.c (.int .i64 5)), none⟩,
 ⟨(some 92), .mov (.s 93), none⟩] [93])
 (.cond (.s 92)
 (.seq (.reg [⟨(some 95), .load (some 3) (.s 4), none⟩,
 ⟨(some 96), .fadr 1 (.s 5), none⟩,
 ⟨(some 97), .load none (.s 96), none⟩,
 ⟨(some 98), .call 86 [(.s 95), (.s 97)], none⟩,
 ⟨(some 94), .mov (.s 98), none⟩,
 ⟨(some 99), .ext (.s 94) 0, none⟩,
 ⟨(some 100), .ext (.s 94) 1, none⟩,
 ⟨(some 19), .new 62 [.nl, (.int .i64 0), (.int .i64 0)], none⟩,
 ⟨none, .store 3 (.s 19) (.s 99), none⟩,
 ⟨(some 20), .mov (.s 100), none⟩] [95, 96, 97, 98, 94, 99, 100])
 (.seq (.draw [⟨⟨(some 101), .load (some 3) (.s 19), none⟩, []⟩,
 ⟨⟨(some 102), .mov (.s 0), none⟩, []⟩,
 ⟨⟨(some 103), .fadr 1 (.s 5), none⟩, []⟩,
 ⟨⟨(some 104), .load none (.s 103), none⟩, [2]⟩,
 ⟨⟨(some 105), .call 16 [(.s 102), (.s 104)], none⟩, [1, 3, 2]⟩,
 ⟨⟨(some 106), .cvs (.s 105), none⟩, [4, 1, 3, 2]⟩,
 ⟨⟨(some 107), .mov (.s 20), none⟩, []⟩,
 ⟨⟨(some 108), .cvs (.s 107), none⟩, [6]⟩,
 ⟨⟨(some 109), .bin .eql (.s 106) (.s 108), none⟩, [5, 4, 1, 3, 2, 7, 6]⟩,
 ⟨⟨none, .store 3 (.s 4) (.s 101), none⟩, [0, 4, 1, 3, 2]⟩] [] [])
 (.reg [⟨(some 8), .mov (.s 109), none⟩] [101, 102, 103, 104, 105, 106, 107, 108, 109])))
 (.seq (.reg [⟨(some 111), .bin .eql (.s 31) (.c (.int .i64 6)), none⟩,
 ⟨(some 110), .mov (.s 111), none⟩] [111])
 (.cond (.s 110)
 (.seq (.reg [⟨(some 113), .load (some 3) (.s 4), none⟩,
 ⟨(some 114), .call 87 [(.s 113)], none⟩,
 ⟨(some 112), .mov (.s 114), none⟩,
 ⟨(some 115), .ext (.s 112) 0, none⟩,
 ⟨(some 116), .ext (.s 112) 1, none⟩,
 ⟨(some 21), .new 62 [.nl, (.int .i64 0), (.int .i64 0)], none⟩,
 ⟨none, .store 3 (.s 21) (.s 115), none⟩,
 ⟨(some 22), .mov (.s 116), none⟩] [113, 114, 112, 115, 116])
 (.seq (.draw [⟨⟨(some 117), .load (some 3) (.s 21), none⟩, []⟩,
 ⟨⟨(some 118), .mov (.s 0), none⟩, []⟩,
 ⟨⟨(some 119), .call 33 [(.s 118)], none⟩, [1]⟩,
 ⟨⟨(some 120), .mov (.s 22), none⟩, []⟩,
 ⟨⟨(some 121), .bin .eql (.s 119) (.s 120), none⟩, [2, 1, 3]⟩,
 ⟨⟨none, .store 3 (.s 4) (.s 117), none⟩, [0, 2, 1]⟩] [] [])
 (.reg [⟨(some 8), .mov (.s 121), none⟩] [117, 118, 119, 120, 121])))
 (.seq (.reg [⟨(some 123), .bin .eql (.s 31) (.c (.int .i64 7)), none⟩,
 ⟨(some 122), .mov (.s 123), none⟩] [123])
 (.cond (.s 122)
 (.seq (.reg [⟨(some 125), .load (some 3) (.s 4), none⟩,
 ⟨(some 126), .fadr 1 (.s 5), none⟩,
 ⟨(some 127), .load none (.s 126), none⟩,
 ⟨(some 128), .call 88 [(.s 125), (.s 127)], none⟩,
 ⟨(some 124), .mov (.s 128), none⟩,
 ⟨(some 129), .ext (.s 124) 0, none⟩,
 ⟨(some 130), .ext (.s 124) 1, none⟩,
 ⟨(some 23), .new 62 [.nl, (.int .i64 0), (.int .i64 0)], none⟩,
 ⟨none, .store 3 (.s 23) (.s 129), none⟩,
 ⟨(some 24), .mov (.s 130), none⟩] [125, 126, 127, 128, 124, 129, 130])
 (.seq (.draw [⟨⟨(some 131), .load (some 3) (.s 23), none⟩, []⟩,
 ⟨⟨(some 132), .mov (.s 0), none⟩, []⟩,
 ⟨⟨(some 133), .fadr 1 (.s 5), none⟩, []⟩,
 ⟨⟨(some 134), .load none (.s 133), none⟩, [2]⟩,
 ⟨⟨(some 135), .call 73 [(.s 132), (.s 134)], none⟩, [1, 3, 2]⟩,
 ⟨⟨(some 136), .mov (.s 24), none⟩, []⟩,
 ⟨⟨(some 137), .bin .eql (.s 135) (.s 136), none⟩, [4, 1, 3, 2, 5]⟩,
 ⟨⟨none, .store 3 (.s 4) (.s 131), none⟩, [0, 4, 1, 3, 2]⟩] [] [])
 (.reg [⟨(some 8), .mov (.s 137), none⟩] [131, 132, 133, 134, 135, 136, 137])))
 (.seq (.reg [⟨(some 139), .bin .eql (.s 31) (.c (.int .i64 8)), none⟩,
 ⟨(some 138), .mov (.s 139), none⟩] [139])
 (.cond (.s 138)
 (.seq (.reg [⟨(some 141), .load (some 3) (.s 4), none⟩,
 ⟨(some 142), .fadr 1 (.s 5), none⟩,
 ⟨(some 143), .load none (.s 142), none⟩,
 ⟨(some 144), .call 89 [(.s 141), (.s 143)], none⟩,
 ⟨(some 140), .mov (.s 144), none⟩,
 ⟨(some 145), .ext (.s 140) 0, none⟩,
 ⟨(some 146), .ext (.s 140) 1, none⟩,
 ⟨(some 25), .new 62 [.nl, (.int .i64 0), (.int .i64 0)], none⟩,
 ⟨(some 26), .new 62 [.nl, (.int .i64 0), (.int .i64 0)], none⟩,
 ⟨none, .store 3 (.s 25) (.s 145), none⟩,
 ⟨none, .store 3 (.s 26) (.s 146), none⟩] [141, 142, 143, 144, 140, 145, 146])
 (.seq (.reg [⟨(some 147), .mov (.s 0), none⟩,
 ⟨(some 148), .fadr 1 (.s 5), none⟩,
 ⟨(some 149), .load none (.s 148), none⟩,
 ⟨(some 150), .call 17 [(.s 147), (.s 149)], none⟩,
 ⟨(some 27), .mov (.s 150), none⟩] [147, 148, 149, 150])
 (.seq (.reg [⟨(some 152), .load (some 3) (.s 26), none⟩,
 ⟨(some 153), .call 81 [(.s 152)], none⟩,
 ⟨(some 151), .mov (.s 153), none⟩,
 ⟨(some 154), .ext (.s 151) 0, none⟩,
 ⟨(some 155), .ext (.s 151) 1, none⟩,
 ⟨(some 28), .new 62 [.nl, (.int .i64 0), (.int .i64 0)], none⟩,
 ⟨none, .store 3 (.s 28) (.s 154), none⟩,
 ⟨(some 29), .mov (.s 155), none⟩] [152, 153, 151, 154, 155])
 (.seq (.draw [⟨⟨(some 156), .load (some 3) (.s 25), none⟩, []⟩,
 ⟨⟨(some 157), .mov (.s 27), none⟩, []⟩,
 ⟨⟨(some 158), .pbin .neq (.s 157) (.c .np), none⟩, [1]⟩,
 ⟨⟨(some 159), .mov (.s 158), none⟩, [2, 1]⟩,
 ⟨⟨(some 160), .mov (.s 27), (some (159, true))⟩, [3, 2, 1]⟩,
 ⟨⟨(some 161), .load (some 3) (.s 26), (some (159, true))⟩, [3, 2, 1]⟩,
 ⟨⟨(some 162), .call 37 [(.s 160), (.s 161)], (some (159, true))⟩, [4, 3, 2, 1, 5]⟩,
 ⟨⟨(some 163), .pick (.s 159) (.s 162) (.c (.bool false)), none⟩, [3, 2, 1, 6, 4, 5]⟩,
 ⟨⟨(some 164), .mov (.s 163), none⟩, [7, 3, 2, 1, 6, 4, 5]⟩,
 ⟨⟨(some 165), .mov (.s 27), (some (164, true))⟩, [8, 7, 3, 2, 1, 6, 4, 5]⟩,
 ⟨⟨(some 166), .call 31 [(.s 165)], (some (164, true))⟩, [9, 8, 7, 3, 2, 1, 6, 4, 5]⟩,
 ⟨⟨(some 167), .mov (.s 29), (some (164, true))⟩, [8, 7, 3, 2, 1, 6, 4, 5]⟩,
 ⟨⟨(some 168), .bin .eql (.s 166) (.s 167), (some (164, true))⟩, [10, 9, 8, 7, 3, 2, 1, 6, 4, 5, 11]⟩,
 ⟨⟨(some 169), .pick (.s 164) (.s 168) (.c (.bool false)), none⟩, [8, 7, 3, 2, 1, 6, 4, 5, 12, 10, 9, 11]⟩,
 ⟨⟨(some 170), .mov (.s 169), none⟩, [13, 8, 7, 3, 2, 1, 6, 4, 5, 12, 10, 9, 11]⟩,
 ⟨⟨(some 171), .mov (.s 27), (some (170, true))⟩, [14, 13, 8, 7, 3, 2, 1, 6, 4, 5, 12, 10, 9, 11]⟩,
 ⟨⟨(some 172), .load (some 3) (.s 28), (some (170, true))⟩, [14, 13, 8, 7, 3, 2, 1, 6, 4, 5, 12, 10, 9, 11]⟩,
 ⟨⟨(some 173), .call 37 [(.s 171), (.s 172)], (some (170, true))⟩, [15, 14, 13, 8, 7, 3, 2, 1, 6, 4, 5, 12, 10, 9, 11, 16]⟩,
 ⟨⟨(some 174), .pick (.s 170) (.s 173) (.c (.bool false)), none⟩, [14, 13, 8, 7, 3, 2, 1, 6, 4, 5, 12, 10, 9, 11, 17, 15, 16]⟩,
 ⟨⟨none, .store 3 (.s 4) (.s 156), none⟩, [0, 17, 15, 14, 13, 8, 7, 3, 2, 1, 6, 4, 5, 12, 10, 9, 11, 16]⟩] [] [])
 (.reg [⟨(some 8), .mov (.s 174), none⟩] [156, 157, 158, 159, 160, 161, 162, 163, 164, 165, 166, 167, 168, 169, 170, 171, 172, 173, 174])))))
 (.seq (.reg [⟨(some 176), .bin .eql (.s 31) (.c (.int .i64 10)), none⟩,
 ⟨(some 175), .mov (.s 176), none⟩] [176])
 (.cond (.s 175)
 (.seq (.reg [⟨(some 177), .mov (.s 0), none⟩,
 ⟨(some 178), .fadr 1 (.s 5), none⟩,
 ⟨(some 179), .load none (.s 178), none⟩,
 ⟨(some 180), .call 25 [(.s 177), (.s 179)], none⟩] [177, 178, 179, 180])
 (.reg [⟨(some 181), .load (some 3) (.s 4), none⟩,
 ⟨(some 182), .fadr 1 (.s 5), none⟩,
 ⟨(some 183), .load none (.s 182), none⟩,
 ⟨(some 184), .call 90 [(.s 181), (.s 183)], none⟩,
 ⟨none, .store 3 (.s 4) (.s 184), none⟩] [181, 182, 183, 184]))
 .skip))))))))))))))))))))))
 (.seq (.seq (.draw [⟨⟨(some 185), .load (some 3) (.s 4), none⟩, []⟩,
 ⟨⟨(some 186), .mov (.s 8), none⟩, []⟩,
 ⟨⟨(some 187), .mov (.s 186), none⟩, [1]⟩,
 ⟨⟨(some 188), .mov (.s 0), (some (187, true))⟩, [2, 1]⟩,
 ⟨⟨(some 189), .load (some 3) (.s 4), (some (187, true))⟩, [2, 1]⟩,
 ⟨⟨(some 190), .call 37 [(.s 188), (.s 189)], (some (187, true))⟩, [3, 2, 1, 4]⟩,
 ⟨⟨(some 191), .pick (.s 187) (.s 190) (.c (.bool false)), none⟩, [2, 1, 5, 3, 4]⟩,
 ⟨⟨none, .store 3 (.s 6) (.s 185), none⟩, [0, 5, 3, 2, 1, 4]⟩] [] [])
 (.reg [⟨(some 7), .mov (.s 191), none⟩] [185, 186, 187, 188, 189, 190, 191]))
 .ret))))⟩

theorem c_law02_acts : compF Tryd.prog 38 = some F_law02_acts := by kernel_rfl
abbrev n_law02_acts : FuncId := 38

def F_law12_few : IFun :=
⟨39, 1, [.tmp 2],
 (.seq (.reg [⟨(some 2), .mov (.c (.bool false)), none⟩] [])
 (.seq (.reg [⟨(some 3), .mov (.c (.int .i64 0)), none⟩] [])
 (.seq (.seq (.reg [⟨(some 4), .mov (.c (.int .i64 0)), none⟩] [])
 (.block 0 (.loop (.seq (.seq (.reg [⟨(some 5), .mov (.s 4), none⟩,
 ⟨(some 6), .mov (.s 0), none⟩,
 ⟨(some 7), .len (.s 6), none⟩,
 ⟨(some 8), .bin .lss (.s 5) (.s 7), none⟩,
 ⟨(some 9), .mov (.s 8), none⟩,
 ⟨(some 10), .mov (.s 4), (some (9, true))⟩,
 ⟨(some 11), .bin .lss (.s 10) (.c (.int .i64 100)), (some (9, true))⟩,
 ⟨(some 12), .pick (.s 9) (.s 11) (.c (.bool false)), none⟩] [5, 6, 7, 8, 9, 10, 11])
 (.cond (.s 12)
 .skip
 (.exit 0)))
 (.seq (.block 1 (.seq (.draw [⟨⟨(some 15), .mov (.s 3), none⟩, []⟩,
 ⟨⟨(some 16), .mov (.s 0), none⟩, []⟩,
 ⟨⟨(some 17), .mov (.s 4), none⟩, []⟩,
 ⟨⟨(some 18), .iadr 3 (.s 16) (.s 17), none⟩, [1, 2]⟩,
 ⟨⟨(some 19), .fadr 2 (.s 18), none⟩, [3, 1, 2]⟩,
 ⟨⟨(some 20), .load none (.s 19), none⟩, [4, 3, 1, 2]⟩,
 ⟨⟨(some 21), .len (.s 20), none⟩, [5, 4, 3, 1, 2]⟩,
 ⟨⟨(some 22), .mnx false (.s 21) (.c (.int .i64 5000)), none⟩, [6, 5, 4, 3, 1, 2]⟩,
 ⟨⟨(some 23), .bin .add (.s 15) (.s 22), none⟩, [0, 7, 6, 5, 4, 3, 1, 2]⟩,
 ⟨⟨(some 24), .mov (.s 0), none⟩, []⟩,
 ⟨⟨(some 25), .mov (.s 4), none⟩, []⟩,
 ⟨⟨(some 26), .iadr 3 (.s 24) (.s 25), none⟩, [9, 10]⟩,
 ⟨⟨(some 27), .fadr 1 (.s 26), none⟩, [11, 9, 10]⟩,
 ⟨⟨(some 28), .load none (.s 27), none⟩, [12, 11, 9, 10]⟩,
 ⟨⟨(some 29), .slen (.s 28), none⟩, [13, 12, 11, 9, 10]⟩,
 ⟨⟨(some 30), .mnx false (.s 29) (.c (.int .i64 5000)), none⟩, [14, 13, 12, 11, 9, 10]⟩] [] [])
 (.seq (.reg [⟨(some 31), .bin .add (.s 23) (.s 30), none⟩] [])
 (.reg [⟨(some 3), .mov (.s 31), none⟩] [15, 16, 17, 18, 19, 20, 21, 22, 23, 24, 25, 26, 27, 28, 29, 30, 31]))))
 (.reg [⟨(some 13), .mov (.s 4), none⟩,
 ⟨(some 14), .bin .add (.s 13) (.c (.int .i64 1)), none⟩,
 ⟨(some 4), .mov (.s 14), none⟩] [13, 14]))))))
 (.seq (.reg [⟨(some 32), .mov (.s 0), none⟩,
 ⟨(some 33), .len (.s 32), none⟩,
 ⟨(some 34), .bin .leq (.s 33) (.c (.int .i64 40)), none⟩,
 ⟨(some 35), .mov (.s 34), none⟩,
 ⟨(some 36), .mov (.s 3), (some (35, true))⟩,
 ⟨(some 37), .bin .leq (.s 36) (.c (.int .i64 4000)), (some (35, true))⟩,
 ⟨(some 38), .pick (.s 35) (.s 37) (.c (.bool false)), none⟩,
 ⟨(some 2), .mov (.s 38), none⟩] [32, 33, 34, 35, 36, 37, 38])
 .ret))))⟩

theorem c_law12_few : compF Tryd.prog 39 = some F_law12_few := by kernel_rfl
abbrev n_law12_few : FuncId := 39

def F_law12_alive : IFun :=
⟨58, 0, [.tmp 0],
 (.seq (.reg [⟨(some 0), .mov (.c (.bool false)), none⟩] [])
 (.seq (.reg [⟨(some 8), .call 41 [(.c .nl)], none⟩,
 ⟨(some 7), .mov (.s 8), none⟩,
 ⟨(some 9), .ext (.s 7) 0, none⟩,
 ⟨(some 10), .ext (.s 7) 1, none⟩,
 ⟨(some 1), .mov (.s 9), none⟩,
 ⟨(some 2), .mov (.s 10), none⟩] [8, 7, 9, 10])
 (.seq (.reg [⟨(some 12), .bsl 5 1 [[(.int .u8 0)]] [(0, (.c (.int .u8 5)))], none⟩,
 ⟨(some 13), .build [(.int .i64 0), (.str []), .nl] [(1, 1, (.c (.str [97]))), (2, 1, (.s 12))], none⟩,
 ⟨(some 14), .bsl 123 3 [[(.int .i64 0), (.str []), .nl]] [(0, (.s 13))], none⟩,
 ⟨(some 15), .call 41 [(.s 14)], none⟩,
 ⟨(some 11), .mov (.s 15), none⟩,
 ⟨(some 16), .ext (.s 11) 0, none⟩,
 ⟨(some 17), .ext (.s 11) 1, none⟩,
 ⟨(some 3), .mov (.s 16), none⟩,
 ⟨(some 4), .mov (.s 17), none⟩] [12, 13, 14, 15, 11, 16, 17])
 (.seq (.reg [⟨(some 19), .bsl 5 1 [] [], none⟩,
 ⟨(some 20), .mov (.s 1), none⟩,
 ⟨(some 21), .app 5 1 (.s 19) (.s 20), none⟩,
 ⟨(some 22), .bsl 5 1 [[(.int .u8 0)], [(.int .u8 0)], [(.int .u8 0)], [(.int .u8 0)]] [(0, (.c (.int .u8 3))), (1, (.c (.int .u8 0))), (2, (.c (.int .u8 2))), (3, (.c (.int .u8 0)))], none⟩,
 ⟨(some 23), .app 5 1 (.s 21) (.s 22), none⟩,
 ⟨(some 24), .call 48 [(.s 23)], none⟩,
 ⟨(some 18), .mov (.s 24), none⟩,
 ⟨(some 25), .ext (.s 18) 0, none⟩,
 ⟨(some 26), .ext (.s 18) 1, none⟩,
 ⟨(some 5), .mov (.s 25), none⟩,
 ⟨(some 6), .mov (.s 26), none⟩] [19, 20, 21, 22, 23, 24, 18, 25, 26, 5])
 (.seq (.reg [⟨(some 27), .mov (.s 1), none⟩,
 ⟨(some 28), .cvs (.s 27), none⟩,
 ⟨(some 29), .bin .eql (.s 28) (.c (.str [0, 97, 115, 109, 1, 0, 0, 0])), none⟩,
 ⟨(some 30), .mov (.s 29), none⟩,
 ⟨(some 31), .mov (.s 2), (some (30, true))⟩,
 ⟨(some 32), .bin .eql (.s 31) (.c (.int .i64 0)), (some (30, true))⟩,
 ⟨(some 33), .pick (.s 30) (.s 32) (.c (.bool false)), none⟩,
 ⟨(some 34), .mov (.s 33), none⟩,
 ⟨(some 35), .mov (.s 3), (some (34, true))⟩,
 ⟨(some 36), .cvs (.s 35), (some (34, true))⟩,
 ⟨(some 37), .mov (.s 1), (some (34, true))⟩,
 ⟨(some 38), .cvs (.s 37), (some (34, true))⟩,
 ⟨(some 39), .bin .add (.s 38) (.c (.str [0, 3, 1, 97, 5])), (some (34, true))⟩,
 ⟨(some 40), .bin .eql (.s 36) (.s 39), (some (34, true))⟩,
 ⟨(some 41), .pick (.s 34) (.s 40) (.c (.bool false)), none⟩,
 ⟨(some 42), .mov (.s 41), none⟩,
 ⟨(some 43), .mov (.s 4), (some (42, true))⟩,
 ⟨(some 44), .bin .eql (.s 43) (.c (.int .i64 0)), (some (42, true))⟩,
 ⟨(some 45), .pick (.s 42) (.s 44) (.c (.bool false)), none⟩,
 ⟨(some 46), .mov (.s 45), none⟩,
 ⟨(some 47), .mov (.s 6), (some (46, true))⟩,
 ⟨(some 48), .bin .eql (.s 47) (.c (.int .i64 7)), (some (46, true))⟩,
 ⟨(some 49), .pick (.s 46) (.s 48) (.c (.bool false)), none⟩,
 ⟨(some 50), .mov (.s 49), none⟩,
 ⟨(some 51), .call 44 [(.c (.int .i64 12))], (some (50, true))⟩,
 ⟨(some 52), .bin .eql (.s 51) (.c (.int .i64 10)), (some (50, true))⟩,
 ⟨(some 53), .pick (.s 50) (.s 52) (.c (.bool false)), none⟩,
 ⟨(some 54), .mov (.s 53), none⟩,
 ⟨(some 55), .call 45 [(.c (.int .i64 11))], (some (54, true))⟩,
 ⟨(some 56), .bin .eql (.s 55) (.c (.int .i64 10)), (some (54, true))⟩,
 ⟨(some 57), .pick (.s 54) (.s 56) (.c (.bool false)), none⟩,
 ⟨(some 0), .mov (.s 57), none⟩] [27, 28, 29, 30, 31, 32, 33, 34, 35, 36, 37, 38, 39, 40, 41, 42, 43, 44, 45, 46, 47, 48, 49, 50, 51, 52, 53, 54, 55, 56, 57])
 .ret)))))⟩

theorem c_law12_alive : compF Tryd.prog 40 = some F_law12_alive := by kernel_rfl
abbrev n_law12_alive : FuncId := 40

def F_section_Join : IFun :=
⟨88, 1, [.tmp 2, .tmp 3],
 (.seq (.reg [⟨(some 2), .mov (.c .nl), none⟩,
 ⟨(some 3), .mov (.c (.int .i64 0)), none⟩] [])
 (.seq (.reg [⟨(some 13), .call 20 [], none⟩,
 ⟨(some 4), .mov (.s 13), none⟩] [13])
 (.seq (.reg [⟨(some 14), .mov (.s 4), none⟩,
 ⟨(some 15), .bsl 5 1 [[(.int .u8 0)], [(.int .u8 0)], [(.int .u8 0)], [(.int .u8 0)], [(.int .u8 0)], [(.int .u8 0)], [(.int .u8 0)], [(.int .u8 0)]] [(0, (.c (.int .u8 0))), (1, (.c (.int .u8 97))), (2, (.c (.int .u8 115))), (3, (.c (.int .u8 109))), (4, (.c (.int .u8 1))), (5, (.c (.int .u8 0))), (6, (.c (.int .u8 0))), (7, (.c (.int .u8 0)))], none⟩,
 ⟨(some 16), .cvm (.s 15), none⟩,
 ⟨(some 17), .call 66 [(.s 14), (.s 16)], none⟩] [14, 15, 16, 17])
 (.seq (.reg [⟨(some 5), .mov (.c (.int .i64 0)), none⟩] [])
 (.seq (.seq (.reg [⟨(some 18), .mov (.s 0), none⟩,
 ⟨(some 19), .len (.s 18), none⟩,
 ⟨(some 20), .mov (.c (.int .i64 0)), none⟩] [])
 (.block 0 (.loop (.seq (.reg [⟨(some 21), .bin .lss (.s 20) (.s 19), none⟩] [])
 (.seq (.cond (.s 21)
 .skip
 (.exit 0))
 (.seq (.block 1 (.seq (.reg [⟨(some 22), .iadr 3 (.s 18) (.s 20), none⟩,
 ⟨(some 23), .load (some 3) (.s 22), none⟩,
 ⟨(some 7), .new 123 [(.int .i64 0), (.str []), .nl], none⟩,
 ⟨none, .store 3 (.s 7) (.s 23), none⟩] [22, 23])
 (.seq (.seq (.reg [⟨(some 24), .fadr 0 (.s 7), none⟩,
 ⟨(some 25), .load none (.s 24), none⟩,
 ⟨(some 26), .bin .lss (.s 25) (.c (.int .i64 0)), none⟩,
 ⟨(some 27), .mov (.s 26), none⟩,
 ⟨(some 28), .fadr 0 (.s 7), (some (27, false))⟩,
 ⟨(some 29), .load none (.s 28), (some (27, false))⟩,
 ⟨(some 30), .bin .gtr (.s 29) (.c (.int .i64 12)), (some (27, false))⟩,
 ⟨(some 31), .pick (.s 27) (.c (.bool true)) (.s 30), none⟩,
 ⟨(some 32), .mov (.s 31), none⟩,
 ⟨(some 33), .fadr 0 (.s 7), (some (32, false))⟩,
 ⟨(some 34), .load none (.s 33), (some (32, false))⟩,
 ⟨(some 35), .bin .neq (.s 34) (.c (.int .i64 0)), (some (32, false))⟩,
 ⟨(some 36), .mov (.s 35), (some (32, false))⟩,
 ⟨(some 37), .fadr 1 (.s 7), (some (36, true))⟩,
 ⟨(some 38), .load none (.s 37), (some (36, true))⟩,
 ⟨(some 39), .bin .neq (.s 38) (.c (.str [])), (some (36, true))⟩,
 ⟨(some 40), .pick (.s 36) (.s 39) (.c (.bool false)), (some (32, false))⟩,
 ⟨(some 41), .pick (.s 32) (.c (.bool true)) (.s 40), none⟩] [24, 25, 26, 27, 28, 29, 30, 31, 32, 33, 34, 35, 36, 37, 38, 39, 40])
 (.cond (.s 41)
 (.seq (.reg [⟨(some 2), .mov (.c .nl), none⟩,
 ⟨(some 3), .mov (.c (.int .i64 4)), none⟩] [])
 .ret)
 .skip))
 (.seq (.reg [⟨(some 43), .fadr 0 (.s 7), none⟩,
 ⟨(some 44), .load none (.s 43), none⟩,
 ⟨(some 45), .mov (.s 5), none⟩,
 ⟨(some 46), .call 91 [(.s 44), (.s 45)], none⟩,
 ⟨(some 42), .mov (.s 46), none⟩,
 ⟨(some 47), .ext (.s 42) 0, none⟩,
 ⟨(some 48), .ext (.s 42) 1, none⟩,
 ⟨(some 8), .mov (.s 47), none⟩,
 ⟨(some 9), .mov (.s 48), none⟩] [43, 44, 45, 46, 42, 47, 48])
 (.seq (.seq (.reg [⟨(some 49), .mov (.s 9), none⟩,
 ⟨(some 50), .un .not (.s 49), none⟩] [49])
 (.cond (.s 50)
 (.seq (.reg [⟨(some 2), .mov (.c .nl), none⟩,
 ⟨(some 3), .mov (.c (.int .i64 7)), none⟩] [])
 .ret)
 .skip))
 (.seq (.reg [⟨(some 51), .mov (.s 8), none⟩,
 ⟨(some 5), .mov (.s 51), none⟩] [51])
 (.seq (.reg [⟨(some 52), .call 20 [], none⟩,
 ⟨(some 10), .mov (.s 52), none⟩] [52])
 (.seq (.seq (.reg [⟨(some 53), .fadr 0 (.s 7), none⟩,
 ⟨(some 54), .load none (.s 53), none⟩,
 ⟨(some 55), .bin .eql (.s 54) (.c (.int .i64 0)), none⟩] [53, 54])
 (.cond (.s 55)
 (.reg [⟨(some 56), .mov (.s 10), none⟩,
 ⟨(some 57), .fadr 1 (.s 7), none⟩,
 ⟨(some 58), .load none (.s 57), none⟩,
 ⟨(some 59), .call 53 [(.s 56), (.s 58)], none⟩] [56, 57, 58, 59])
 .skip))
 (.seq (.reg [⟨(some 60), .mov (.s 10), none⟩,
 ⟨(some 61), .fadr 2 (.s 7), none⟩,
 ⟨(some 62), .load none (.s 61), none⟩,
 ⟨(some 63), .call 66 [(.s 60), (.s 62)], none⟩] [60, 61, 62, 63])
 (.seq (.reg [⟨(some 64), .mov (.s 4), none⟩,
 ⟨(some 65), .fadr 0 (.s 7), none⟩,
 ⟨(some 66), .load none (.s 65), none⟩,
 ⟨(some 67), .cvi .u8 (.s 66), none⟩,
 ⟨(some 68), .call 56 [(.s 64), (.s 67)], none⟩] [64, 65, 66, 67, 68])
 (.seq (.reg [⟨(some 69), .mov (.s 4), none⟩,
 ⟨(some 70), .mov (.s 10), none⟩,
 ⟨(some 71), .call 30 [(.s 69), (.s 70)], none⟩] [69, 70, 71])
 (.seq (.reg [⟨(some 73), .mov (.s 4), none⟩,
 ⟨(some 74), .call 22 [(.s 73)], none⟩,
 ⟨(some 72), .mov (.s 74), none⟩,
 ⟨(some 75), .ext (.s 72) 0, none⟩,
 ⟨(some 76), .ext (.s 72) 1, none⟩,
 ⟨(some 11), .mov (.s 75), none⟩,
 ⟨(some 12), .mov (.s 76), none⟩] [73, 74, 72, 75, 76, 11])
 (.seq (.reg [⟨(some 77), .mov (.s 12), none⟩,
 ⟨(some 78), .bin .neq (.s 77) (.c (.int .i64 0)), none⟩] [77])
 (.cond (.s 78)
 (.seq (.reg [⟨(some 79), .mov (.s 12), none⟩,
 ⟨(some 2), .mov (.c .nl), none⟩,
 ⟨(some 3), .mov (.s 79), none⟩] [79])
 .ret)
 .skip))))))))))))))
 (.reg [⟨(some 80), .bin .add (.s 20) (.c (.int .i64 1)), none⟩,
 ⟨(some 20), .mov (.s 80), none⟩] [80])))))))
 (.seq (.seq (.reg [⟨(some 81), .mov (.s 4), none⟩,
 ⟨(some 82), .call 24 [(.s 81)], none⟩,
 ⟨(some 83), .bin .gtr (.s 82) (.c (.int .i64 262144)), none⟩] [81, 82])
 (.cond (.s 83)
 (.seq (.reg [⟨(some 2), .mov (.c .nl), none⟩,
 ⟨(some 3), .mov (.c (.int .i64 6)), none⟩] [])
 .ret)
 .skip))
 (.seq (.reg [⟨(some 84), .mov (.s 4), none⟩,
 ⟨(some 85), .call 22 [(.s 84)], none⟩,
 ⟨(some 86), .ext (.s 85) 0, none⟩,
 ⟨(some 87), .ext (.s 85) 1, none⟩,
 ⟨(some 2), .mov (.s 86), none⟩,
 ⟨(some 3), .mov (.s 87), none⟩] [84, 85, 86, 87])
 .ret)))))))⟩

theorem c_section_Join : compF Tryd.prog 41 = some F_section_Join := by kernel_rfl
abbrev n_section_Join : FuncId := 41

def F_law12_theirs : IFun :=
⟨31, 1, [.tmp 2],
 (.seq (.reg [⟨(some 2), .mov (.c .nl), none⟩] [])
 (.seq (.reg [⟨(some 3), .mov (.c .nl), none⟩] [])
 (.seq (.seq (.reg [⟨(some 4), .mov (.c (.int .i64 0)), none⟩] [])
 (.block 0 (.loop (.seq (.seq (.reg [⟨(some 5), .mov (.s 4), none⟩,
 ⟨(some 6), .mov (.s 0), none⟩,
 ⟨(some 7), .len (.s 6), none⟩,
 ⟨(some 8), .bin .lss (.s 5) (.s 7), none⟩] [5, 6, 7])
 (.cond (.s 8)
 .skip
 (.exit 0)))
 (.seq (.block 1 (.seq (.draw [⟨⟨(some 11), .mov (.s 3), none⟩, []⟩,
 ⟨⟨(some 12), .mov (.s 0), none⟩, []⟩,
 ⟨⟨(some 13), .mov (.s 4), none⟩, []⟩,
 ⟨⟨(some 14), .iadr 3 (.s 12) (.s 13), none⟩, [1, 2]⟩,
 ⟨⟨(some 15), .fadr 0 (.s 14), none⟩, [3, 1, 2]⟩,
 ⟨⟨(some 16), .load none (.s 15), none⟩, [4, 3, 1, 2]⟩,
 ⟨⟨(some 17), .mov (.s 0), none⟩, []⟩,
 ⟨⟨(some 18), .mov (.s 4), none⟩, []⟩,
 ⟨⟨(some 19), .iadr 3 (.s 17) (.s 18), none⟩, [6, 7]⟩,
 ⟨⟨(some 20), .fadr 1 (.s 19), none⟩, [8, 6, 7]⟩,
 ⟨⟨(some 21), .load none (.s 20), none⟩, [9, 8, 6, 7]⟩,
 ⟨⟨(some 22), .mov (.s 0), none⟩, []⟩,
 ⟨⟨(some 23), .mov (.s 4), none⟩, []⟩,
 ⟨⟨(some 24), .iadr 3 (.s 22) (.s 23), none⟩, [11, 12]⟩,
 ⟨⟨(some 25), .fadr 2 (.s 24), none⟩, [13, 11, 12]⟩,
 ⟨⟨(some 26), .load none (.s 25), none⟩, [14, 13, 11, 12]⟩,
 ⟨⟨(some 27), .build [(.int .i64 0), (.str []), .nl] [(0, 1, (.s 16)), (1, 1, (.s 21)), (2, 1, (.s 26))], none⟩, [5, 4, 3, 1, 2, 10, 9, 8, 6, 7, 15, 14, 13, 11, 12]⟩,
 ⟨⟨(some 28), .bsl 123 3 [[(.int .i64 0), (.str []), .nl]] [(0, (.s 27))], none⟩, [16, 5, 4, 3, 1, 2, 10, 9, 8, 6, 7, 15, 14, 13, 11, 12]⟩] [(28, 17)] [])
 (.seq (.reg [⟨(some 29), .app 123 3 (.s 11) (.s 28), none⟩] [])
 (.reg [⟨(some 3), .mov (.s 29), none⟩] [11, 12, 13, 14, 15, 16, 17, 18, 19, 20, 21, 22, 23, 24, 25, 26, 27, 28, 29]))))
 (.reg [⟨(some 9), .mov (.s 4), none⟩,
 ⟨(some 10), .bin .add (.s 9) (.c (.int .i64 1)), none⟩,
 ⟨(some 4), .mov (.s 10), none⟩] [9, 10]))))))
 (.seq (.reg [⟨(some 30), .mov (.s 3), none⟩,
 ⟨(some 2), .mov (.s 30), none⟩] [30])
 .ret))))⟩

theorem c_law12_theirs : compF Tryd.prog 42 = some F_law12_theirs := by kernel_rfl
abbrev n_law12_theirs : FuncId := 42

def F_ref12_Join : IFun :=
⟨88, 1, [.tmp 2, .tmp 3],
 (.seq (.reg [⟨(some 2), .mov (.c .nl), none⟩,
 ⟨(some 3), .mov (.c (.int .i64 0)), none⟩] [])
 (.seq (.reg [⟨(some 9), .build [.nl, (.int .i64 0)] [], none⟩,
 ⟨(some 10), .call 92 [], none⟩,
 ⟨(some 11), .call 67 [(.s 9), (.s 10)], none⟩,
 ⟨(some 4), .new 36 [.nl, (.int .i64 0)], none⟩,
 ⟨none, .store 2 (.s 4) (.s 11), none⟩] [9, 10, 11])
 (.seq (.reg [⟨(some 5), .mov (.c (.int .i64 0)), none⟩] [])
 (.seq (.seq (.reg [⟨(some 6), .mov (.c (.int .i64 0)), none⟩] [])
 (.block 0 (.loop (.seq (.seq (.reg [⟨(some 12), .mov (.s 6), none⟩,
 ⟨(some 13), .mov (.s 0), none⟩,
 ⟨(some 14), .len (.s 13), none⟩,
 ⟨(some 15), .bin .lss (.s 12) (.s 14), none⟩] [12, 13, 14])
 (.cond (.s 15)
 .skip
 (.exit 0)))
 (.seq (.block 1 (.seq (.reg [⟨(some 18), .mov (.s 0), none⟩,
 ⟨(some 19), .mov (.s 6), none⟩,
 ⟨(some 20), .iadr 3 (.s 18) (.s 19), none⟩,
 ⟨(some 21), .load (some 3) (.s 20), none⟩,
 ⟨(some 7), .new 122 [(.int .i64 0), (.str []), .nl], none⟩,
 ⟨none, .store 3 (.s 7) (.s 21), none⟩] [18, 19, 20, 21])
 (.seq (.seq (.reg [⟨(some 22), .fadr 0 (.s 7), none⟩,
 ⟨(some 23), .load none (.s 22), none⟩,
 ⟨(some 24), .bin .lss (.s 23) (.c (.int .i64 0)), none⟩,
 ⟨(some 25), .mov (.s 24), none⟩,
 ⟨(some 26), .fadr 0 (.s 7), (some (25, false))⟩,
 ⟨(some 27), .load none (.s 26), (some (25, false))⟩,
 ⟨(some 28), .bin .gtr (.s 27) (.c (.int .i64 12)), (some (25, false))⟩,
 ⟨(some 29), .pick (.s 25) (.c (.bool true)) (.s 28), none⟩,
 ⟨(some 30), .mov (.s 29), none⟩,
 ⟨(some 31), .fadr 0 (.s 7), (some (30, false))⟩,
 ⟨(some 32), .load none (.s 31), (some (30, false))⟩,
 ⟨(some 33), .bin .neq (.s 32) (.c (.int .i64 0)), (some (30, false))⟩,
 ⟨(some 34), .mov (.s 33), (some (30, false))⟩,
 ⟨(some 35), .fadr 1 (.s 7), (some (34, true))⟩,
 ⟨(some 36), .load none (.s 35), (some (34, true))⟩,
 ⟨(some 37), .bin .neq (.s 36) (.c (.str [])), (some (34, true))⟩,
 ⟨(some 38), .pick (.s 34) (.s 37) (.c (.bool false)), (some (30, false))⟩,
 ⟨(some 39), .pick (.s 30) (.c (.bool true)) (.s 38), none⟩] [22, 23, 24, 25, 26, 27, 28, 29, 30, 31, 32, 33, 34, 35, 36, 37, 38])
 (.cond (.s 39)
 (.seq (.reg [⟨(some 2), .mov (.c .nl), none⟩,
 ⟨(some 3), .mov (.c (.int .i64 4)), none⟩] [])
 .ret)
 .skip))
 (.seq (.seq (.reg [⟨(some 40), .fadr 0 (.s 7), none⟩,
 ⟨(some 41), .load none (.s 40), none⟩,
 ⟨(some 42), .bin .neq (.s 41) (.c (.int .i64 0)), none⟩,
 ⟨(some 43), .mov (.s 42), none⟩,
 ⟨(some 44), .fadr 0 (.s 7), (some (43, true))⟩,
 ⟨(some 45), .load none (.s 44), (some (43, true))⟩,
 ⟨(some 46), .call 46 [(.s 45)], (some (43, true))⟩,
 ⟨(some 47), .mov (.s 5), (some (43, true))⟩,
 ⟨(some 48), .bin .leq (.s 46) (.s 47), (some (43, true))⟩,
 ⟨(some 49), .pick (.s 43) (.s 48) (.c (.bool false)), none⟩] [40, 41, 42, 43, 44, 45, 46, 47, 48])
 (.cond (.s 49)
 (.seq (.reg [⟨(some 2), .mov (.c .nl), none⟩,
 ⟨(some 3), .mov (.c (.int .i64 7)), none⟩] [])
 .ret)
 .skip))
 (.seq (.reg [⟨(some 50), .mov (.s 5), none⟩,
 ⟨(some 51), .fadr 0 (.s 7), none⟩,
 ⟨(some 52), .load none (.s 51), none⟩,
 ⟨(some 53), .call 46 [(.s 52)], none⟩,
 ⟨(some 54), .mnx true (.s 50) (.s 53), none⟩,
 ⟨(some 5), .mov (.s 54), none⟩] [50, 51, 52, 53, 54])
 (.seq (.reg [⟨(some 55), .build [.nl, (.int .i64 0)] [], none⟩,
 ⟨(some 8), .new 36 [.nl, (.int .i64 0)], none⟩,
 ⟨none, .store 2 (.s 8) (.s 55), none⟩] [55])
 (.seq (.seq (.reg [⟨(some 56), .fadr 0 (.s 7), none⟩,
 ⟨(some 57), .load none (.s 56), none⟩,
 ⟨(some 58), .bin .eql (.s 57) (.c (.int .i64 0)), none⟩] [56, 57])
 (.cond (.s 58)
 (.reg [⟨(some 59), .load (some 2) (.s 8), none⟩,
 ⟨(some 60), .fadr 1 (.s 7), none⟩,
 ⟨(some 61), .load none (.s 60), none⟩,
 ⟨(some 62), .call 68 [(.s 59), (.s 61)], none⟩,
 ⟨none, .store 2 (.s 8) (.s 62), none⟩] [59, 60, 61, 62])
 .skip))
 (.seq (.seq (.reg [⟨(some 63), .fadr 1 (.s 8), none⟩,
 ⟨(some 64), .load none (.s 63), none⟩,
 ⟨(some 65), .bin .neq (.s 64) (.c (.int .i64 0)), none⟩] [63, 64])
 (.cond (.s 65)
 (.seq (.seq (.draw [⟨⟨(some 66), .fadr 1 (.s 8), none⟩, []⟩,
 ⟨⟨(some 67), .load none (.s 66), none⟩, [0]⟩,
 ⟨⟨(some 2), .mov (.c .nl), none⟩, []⟩] [] [])
 (.reg [⟨(some 3), .mov (.s 67), none⟩] [66, 67]))
 .ret)
 .skip))
 (.seq (.reg [⟨(some 68), .load (some 2) (.s 8), none⟩,
 ⟨(some 69), .fadr 2 (.s 7), none⟩,
 ⟨(some 70), .load none (.s 69), none⟩,
 ⟨(some 71), .call 67 [(.s 68), (.s 70)], none⟩,
 ⟨none, .store 2 (.s 8) (.s 71), none⟩] [68, 69, 70, 71])
 (.seq (.reg [⟨(some 72), .load (some 2) (.s 4), none⟩,
 ⟨(some 73), .fadr 0 (.s 7), none⟩,
 ⟨(some 74), .load none (.s 73), none⟩,
 ⟨(some 75), .cvi .u8 (.s 74), none⟩,
 ⟨(some 76), .call 57 [(.s 72), (.s 75)], none⟩,
 ⟨none, .store 2 (.s 4) (.s 76), none⟩] [72, 73, 74, 75, 76])
 (.reg [⟨(some 77), .load (some 2) (.s 4), none⟩,
 ⟨(some 78), .load (some 2) (.s 8), none⟩,
 ⟨(some 79), .call 69 [(.s 77), (.s 78)], none⟩,
 ⟨none, .store 2 (.s 4) (.s 79), none⟩] [77, 78, 79])))))))))))
 (.reg [⟨(some 16), .mov (.s 6), none⟩,
 ⟨(some 17), .bin .add (.s 16) (.c (.int .i64 1)), none⟩,
 ⟨(some 6), .mov (.s 17), none⟩] [16, 17]))))))
 (.seq (.seq (.reg [⟨(some 80), .fadr 0 (.s 4), none⟩,
 ⟨(some 81), .load none (.s 80), none⟩,
 ⟨(some 82), .len (.s 81), none⟩,
 ⟨(some 83), .bin .gtr (.s 82) (.c (.int .i64 262144)), none⟩] [80, 81, 82])
 (.cond (.s 83)
 (.seq (.reg [⟨(some 2), .mov (.c .nl), none⟩,
 ⟨(some 3), .mov (.c (.int .i64 6)), none⟩] [])
 .ret)
 .skip))
 (.seq (.seq (.draw [⟨⟨(some 84), .fadr 0 (.s 4), none⟩, []⟩,
 ⟨⟨(some 85), .load none (.s 84), none⟩, [0]⟩,
 ⟨⟨(some 86), .fadr 1 (.s 4), none⟩, []⟩,
 ⟨⟨(some 87), .load none (.s 86), none⟩, [2]⟩,
 ⟨⟨(some 2), .mov (.s 85), none⟩, [1, 0]⟩] [] [])
 (.reg [⟨(some 3), .mov (.s 87), none⟩] [84, 85, 86, 87]))
 .ret))))))⟩

theorem c_ref12_Join : compF Tryd.prog 43 = some F_ref12_Join := by kernel_rfl
abbrev n_ref12_Join : FuncId := 43

def F_section_Place : IFun :=
⟨13, 1, [.tmp 2],
 (.seq (.reg [⟨(some 2), .mov (.c (.int .i64 0)), none⟩] [])
 (.seq (.seq (.reg [⟨(some 3), .mov (.s 0), none⟩,
 ⟨(some 4), .bin .lss (.s 3) (.c (.int .i64 1)), none⟩,
 ⟨(some 5), .mov (.s 4), none⟩,
 ⟨(some 6), .mov (.s 0), (some (5, false))⟩,
 ⟨(some 7), .bin .gtr (.s 6) (.c (.int .i64 12)), (some (5, false))⟩,
 ⟨(some 8), .pick (.s 5) (.c (.bool true)) (.s 7), none⟩] [3, 4, 5, 6, 7])
 (.cond (.s 8)
 (.seq (.reg [⟨(some 2), .mov (.c (.int .i64 0)), none⟩] [])
 .ret)
 .skip))
 (.seq (.reg [⟨(some 9), .mov (.s 0), none⟩,
 ⟨(some 10), .cvi .u8 (.s 9), none⟩,
 ⟨(some 11), .call 93 [(.c (.str [1, 2, 3, 4, 5, 6, 7, 8, 9, 12, 10, 11])), (.s 10)], none⟩,
 ⟨(some 12), .bin .add (.s 11) (.c (.int .i64 1)), none⟩,
 ⟨(some 2), .mov (.s 12), none⟩] [9, 10, 11, 12])
 .ret)))⟩

theorem c_section_Place : compF Tryd.prog 44 = some F_section_Place := by kernel_rfl
abbrev n_section_Place : FuncId := 44

def F_section_At : IFun :=
⟨13, 1, [.tmp 2],
 (.seq (.reg [⟨(some 2), .mov (.c (.int .i64 0)), none⟩] [])
 (.seq (.seq (.reg [⟨(some 3), .mov (.s 0), none⟩,
 ⟨(some 4), .bin .lss (.s 3) (.c (.int .i64 1)), none⟩,
 ⟨(some 5), .mov (.s 4), none⟩,
 ⟨(some 6), .mov (.s 0), (some (5, false))⟩,
 ⟨(some 7), .bin .gtr (.s 6) (.c (.int .i64 12)), (some (5, false))⟩,
 ⟨(some 8), .pick (.s 5) (.c (.bool true)) (.s 7), none⟩] [3, 4, 5, 6, 7])
 (.cond (.s 8)
 (.seq (.reg [⟨(some 2), .mov (.c (.int .i64 0)), none⟩] [])
 .ret)
 .skip))
 (.seq (.reg [⟨(some 9), .mov (.s 0), none⟩,
 ⟨(some 10), .bin .sub (.s 9) (.c (.int .i64 1)), none⟩,
 ⟨(some 11), .sidx (.c (.str [1, 2, 3, 4, 5, 6, 7, 8, 9, 12, 10, 11])) (.s 10), none⟩,
 ⟨(some 12), .cvi .i64 (.s 11), none⟩,
 ⟨(some 2), .mov (.s 12), none⟩] [9, 10, 11, 12])
 .ret)))⟩

theorem c_section_At : compF Tryd.prog 45 = some F_section_At := by kernel_rfl
abbrev n_section_At : FuncId := 45

def F_ref12_Place : IFun :=
⟨13, 1, [.tmp 2],
 (.seq (.reg [⟨(some 2), .mov (.c (.int .i64 0)), none⟩] [])
 (.seq (.seq (.reg [⟨(some 3), .mov (.s 0), none⟩,
 ⟨(some 4), .bin .lss (.s 3) (.c (.int .i64 1)), none⟩,
 ⟨(some 5), .mov (.s 4), none⟩,
 ⟨(some 6), .mov (.s 0), (some (5, false))⟩,
 ⟨(some 7), .bin .gtr (.s 6) (.c (.int .i64 12)), (some (5, false))⟩,
 ⟨(some 8), .pick (.s 5) (.c (.bool true)) (.s 7), none⟩] [3, 4, 5, 6, 7])
 (.cond (.s 8)
 (.seq (.reg [⟨(some 2), .mov (.c (.int .i64 0)), none⟩] [])
 .ret)
 .skip))
 (.seq (.reg [⟨(some 9), .bsl 3 1 [[(.int .i64 0)], [(.int .i64 0)], [(.int .i64 0)], [(.int .i64 0)], [(.int .i64 0)], [(.int .i64 0)], [(.int .i64 0)], [(.int .i64 0)], [(.int .i64 0)], [(.int .i64 0)], [(.int .i64 0)], [(.int .i64 0)], [(.int .i64 0)]] [(0, (.c (.int .i64 0))), (1, (.c (.int .i64 1))), (2, (.c (.int .i64 2))), (3, (.c (.int .i64 3))), (4, (.c (.int .i64 4))), (5, (.c (.int .i64 5))), (6, (.c (.int .i64 6))), (7, (.c (.int .i64 7))), (8, (.c (.int .i64 8))), (9, (.c (.int .i64 9))), (10, (.c (.int .i64 11))), (11, (.c (.int .i64 12))), (12, (.c (.int .i64 10)))], none⟩,
 ⟨(some 10), .mov (.s 0), none⟩,
 ⟨(some 11), .iadr 1 (.s 9) (.s 10), none⟩,
 ⟨(some 12), .load none (.s 11), none⟩,
 ⟨(some 2), .mov (.s 12), none⟩] [9, 10, 11, 12])
 .ret)))⟩

theorem c_ref12_Place : compF Tryd.prog 46 = some F_ref12_Place := by kernel_rfl
abbrev n_ref12_Place : FuncId := 46

def F_ref12_At : IFun :=
⟨13, 1, [.tmp 2],
 (.seq (.reg [⟨(some 2), .mov (.c (.int .i64 0)), none⟩] [])
 (.seq (.seq (.reg [⟨(some 3), .mov (.c (.int .i64 1)), none⟩] [])
 (.block 0 (.loop (.seq (.seq (.reg [⟨(some 4), .mov (.s 3), none⟩,
 ⟨(some 5), .bin .leq (.s 4) (.c (.int .i64 12)), none⟩] [4])
 (.cond (.s 5)
 .skip
 (.exit 0)))
 (.seq (.block 1 (.seq (.reg [⟨(some 8), .mov (.s 3), none⟩,
 ⟨(some 9), .call 46 [(.s 8)], none⟩,
 ⟨(some 10), .mov (.s 0), none⟩,
 ⟨(some 11), .bin .eql (.s 9) (.s 10), none⟩] [8, 9, 10])
 (.cond (.s 11)
 (.seq (.reg [⟨(some 12), .mov (.s 3), none⟩,
 ⟨(some 2), .mov (.s 12), none⟩] [12])
 .ret)
 .skip)))
 (.reg [⟨(some 6), .mov (.s 3), none⟩,
 ⟨(some 7), .bin .add (.s 6) (.c (.int .i64 1)), none⟩,
 ⟨(some 3), .mov (.s 7), none⟩] [6, 7]))))))
 (.seq (.reg [⟨(some 2), .mov (.c (.int .i64 0)), none⟩] [])
 .ret)))⟩

theorem c_ref12_At : compF Tryd.prog 47 = some F_ref12_At := by kernel_rfl
abbrev n_ref12_At : FuncId := 47

def F_section_Split : IFun :=
⟨69, 1, [.tmp 2, .tmp 3],
 (.seq (.reg [⟨(some 2), .mov (.c .nl), none⟩,
 ⟨(some 3), .mov (.c (.int .i64 0)), none⟩] [])
 (.seq (.seq (.reg [⟨(some 14), .mov (.s 0), none⟩,
 ⟨(some 15), .len (.s 14), none⟩,
 ⟨(some 16), .bin .gtr (.s 15) (.c (.int .i64 262144)), none⟩] [14, 15])
 (.cond (.s 16)
 (.seq (.reg [⟨(some 2), .mov (.c .nl), none⟩,
 ⟨(some 3), .mov (.c (.int .i64 6)), none⟩] [])
 .ret)
 .skip))
 (.seq (.seq (.reg [⟨(some 17), .mov (.s 0), none⟩,
 ⟨(some 18), .len (.s 17), none⟩,
 ⟨(some 19), .bin .lss (.s 18) (.c (.int .i64 8)), none⟩,
 ⟨(some 20), .mov (.s 19), none⟩,
 ⟨(some 21), .mov (.s 0), (some (20, false))⟩,
 ⟨(some 22), .slc 1 (.s 21) none (some (.c (.int .i64 8))) none, (some (20, false))⟩,
 ⟨(some 23), .cvs (.s 22), (some (20, false))⟩,
 ⟨(some 24), .bin .neq (.s 23) (.c (.str [0, 97, 115, 109, 1, 0, 0, 0])), (some (20, false))⟩,
 ⟨(some 25), .pick (.s 20) (.c (.bool true)) (.s 24), none⟩] [17, 18, 19, 20, 21, 22, 23, 24])
 (.cond (.s 25)
 (.seq (.reg [⟨(some 2), .mov (.c .nl), none⟩,
 ⟨(some 3), .mov (.c (.int .i64 4)), none⟩] [])
 .ret)
 .skip))
 (.seq (.reg [⟨(some 4), .mov (.c .nl), none⟩] [])
 (.seq (.reg [⟨(some 5), .mov (.c (.int .i64 0)), none⟩] [])
 (.seq (.seq (.reg [⟨(some 26), .mov (.s 0), none⟩,
 ⟨(some 27), .slc 1 (.s 26) (some (.c (.int .i64 8))) none none, none⟩,
 ⟨(some 28), .call 15 [(.s 27)], none⟩,
 ⟨(some 6), .mov (.s 28), none⟩] [26, 27, 28])
 (.block 0 (.loop (.seq (.seq (.reg [⟨(some 29), .mov (.s 6), none⟩,
 ⟨(some 30), .call 28 [(.s 29)], none⟩,
 ⟨(some 31), .bin .gtr (.s 30) (.c (.int .i64 0)), none⟩] [29, 30])
 (.cond (.s 31)
 .skip
 (.exit 0)))
 (.block 1 (.seq (.reg [⟨(some 32), .mov (.s 6), none⟩,
 ⟨(some 33), .call 31 [(.s 32)], none⟩,
 ⟨(some 34), .cvi .i64 (.s 33), none⟩,
 ⟨(some 7), .mov (.s 34), none⟩] [32, 33, 34])
 (.seq (.seq (.reg [⟨(some 35), .mov (.s 7), none⟩,
 ⟨(some 36), .bin .gtr (.s 35) (.c (.int .i64 12)), none⟩] [35])
 (.cond (.s 36)
 (.seq (.reg [⟨(some 2), .mov (.c .nl), none⟩,
 ⟨(some 3), .mov (.c (.int .i64 4)), none⟩] [])
 .ret)
 .skip))
 (.seq (.reg [⟨(some 37), .mov (.s 6), none⟩,
 ⟨(some 38), .mov (.s 6), none⟩,
 ⟨(some 39), .call 32 [(.s 38)], none⟩,
 ⟨(some 40), .call 16 [(.s 37), (.s 39)], none⟩,
 ⟨(some 8), .mov (.s 40), none⟩] [37, 38, 39, 40])
 (.seq (.seq (.reg [⟨(some 41), .mov (.s 6), none⟩,
 ⟨(some 42), .call 26 [(.s 41)], none⟩,
 ⟨(some 9), .mov (.s 42), none⟩] [41, 42])
 (.seq (.reg [⟨(some 43), .mov (.s 9), none⟩,
 ⟨(some 44), .bin .neq (.s 43) (.c (.int .i64 0)), none⟩] [43])
 (.cond (.s 44)
 (.seq (.reg [⟨(some 45), .mov (.s 9), none⟩,
 ⟨(some 2), .mov (.c .nl), none⟩,
 ⟨(some 3), .mov (.s 45), none⟩] [45])
 .ret)
 .skip)))
 (.seq (.reg [⟨(some 47), .mov (.s 7), none⟩,
 ⟨(some 48), .mov (.s 5), none⟩,
 ⟨(some 49), .call 91 [(.s 47), (.s 48)], none⟩,
 ⟨(some 46), .mov (.s 49), none⟩,
 ⟨(some 50), .ext (.s 46) 0, none⟩,
 ⟨(some 51), .ext (.s 46) 1, none⟩,
 ⟨(some 10), .mov (.s 50), none⟩,
 ⟨(some 11), .mov (.s 51), none⟩] [47, 48, 49, 46, 50, 51])
 (.seq (.seq (.reg [⟨(some 52), .mov (.s 11), none⟩,
 ⟨(some 53), .un .not (.s 52), none⟩] [52])
 (.cond (.s 53)
 (.seq (.reg [⟨(some 2), .mov (.c .nl), none⟩,
 ⟨(some 3), .mov (.c (.int .i64 7)), none⟩] [])
 .ret)
 .skip))
 (.seq (.reg [⟨(some 54), .mov (.s 10), none⟩,
 ⟨(some 5), .mov (.s 54), none⟩] [54])
 (.seq (.reg [⟨(some 56), .mov (.s 7), none⟩,
 ⟨(some 57), .mov (.s 8), none⟩,
 ⟨(some 58), .call 94 [(.s 56), (.s 57)], none⟩,
 ⟨(some 55), .mov (.s 58), none⟩,
 ⟨(some 59), .ext (.s 55) 0, none⟩,
 ⟨(some 60), .ext (.s 55) 1, none⟩,
 ⟨(some 12), .new 123 [(.int .i64 0), (.str []), .nl], none⟩,
 ⟨none, .store 3 (.s 12) (.s 59), none⟩,
 ⟨(some 13), .mov (.s 60), none⟩] [56, 57, 58, 55, 59, 60])
 (.seq (.seq (.reg [⟨(some 61), .mov (.s 13), none⟩,
 ⟨(some 62), .bin .neq (.s 61) (.c (.int .i64 0)), none⟩] [61])
 (.cond (.s 62)
 (.seq (.reg [⟨(some 63), .mov (.s 13), none⟩,
 ⟨(some 2), .mov (.c .nl), none⟩,
 ⟨(some 3), .mov (.s 63), none⟩] [63])
 .ret)
 .skip))
 (.reg [⟨(some 64), .mov (.s 4), none⟩,
 ⟨(some 65), .load (some 3) (.s 12), none⟩,
 ⟨(some 66), .bsl 123 3 [[(.int .i64 0), (.str []), .nl]] [(0, (.s 65))], none⟩,
 ⟨(some 67), .app 123 3 (.s 64) (.s 66), none⟩,
 ⟨(some 4), .mov (.s 67), none⟩] [64, 65, 66, 67])))))))))))))))
 (.seq (.reg [⟨(some 68), .mov (.s 4), none⟩,
 ⟨(some 2), .mov (.s 68), none⟩,
 ⟨(some 3), .mov (.c (.int .i64 0)), none⟩] [68])
 .ret)))))))⟩

theorem c_section_Split : compF Tryd.prog 48 = some F_section_Split := by kernel_rfl
abbrev n_section_Split : FuncId := 48

def F_ref12_Same : IFun :=
⟨56, 2, [.tmp 4],
 (.seq (.reg [⟨(some 4), .mov (.c (.bool false)), none⟩] [])
 (.seq (.seq (.reg [⟨(some 6), .mov (.s 0), none⟩,
 ⟨(some 7), .len (.s 6), none⟩,
 ⟨(some 8), .mov (.s 1), none⟩,
 ⟨(some 9), .len (.s 8), none⟩,
 ⟨(some 10), .bin .neq (.s 7) (.s 9), none⟩] [6, 7, 8, 9])
 (.cond (.s 10)
 (.seq (.reg [⟨(some 4), .mov (.c (.bool false)), none⟩] [])
 .ret)
 .skip))
 (.seq (.seq (.reg [⟨(some 5), .mov (.c (.int .i64 0)), none⟩] [])
 (.block 0 (.loop (.seq (.seq (.reg [⟨(some 11), .mov (.s 5), none⟩,
 ⟨(some 12), .mov (.s 0), none⟩,
 ⟨(some 13), .len (.s 12), none⟩,
 ⟨(some 14), .bin .lss (.s 11) (.s 13), none⟩] [11, 12, 13])
 (.cond (.s 14)
 .skip
 (.exit 0)))
 (.seq (.block 1 (.seq (.seq (.draw [⟨⟨(some 17), .mov (.s 0), none⟩, []⟩,
 ⟨⟨(some 18), .mov (.s 5), none⟩, []⟩,
 ⟨⟨(some 19), .iadr 3 (.s 17) (.s 18), none⟩, [0, 1]⟩,
 ⟨⟨(some 20), .fadr 0 (.s 19), none⟩, [2, 0, 1]⟩,
 ⟨⟨(some 21), .load none (.s 20), none⟩, [3, 2, 0, 1]⟩,
 ⟨⟨(some 22), .mov (.s 1), none⟩, []⟩,
 ⟨⟨(some 23), .mov (.s 5), none⟩, []⟩,
 ⟨⟨(some 24), .iadr 3 (.s 22) (.s 23), none⟩, [5, 6]⟩,
 ⟨⟨(some 25), .fadr 0 (.s 24), none⟩, [7, 5, 6]⟩,
 ⟨⟨(some 26), .load none (.s 25), none⟩, [8, 7, 5, 6]⟩] [] [])
 (.seq (.reg [⟨(some 27), .bin .neq (.s 21) (.s 26), none⟩] [])
 (.seq (.reg [⟨(some 28), .mov (.s 27), none⟩] [])
 (.seq (.draw [⟨⟨(some 29), .mov (.s 0), (some (28, false))⟩, []⟩,
 ⟨⟨(some 30), .mov (.s 5), (some (28, false))⟩, []⟩,
 ⟨⟨(some 31), .iadr 3 (.s 29) (.s 30), (some (28, false))⟩, [0, 1]⟩,
 ⟨⟨(some 32), .fadr 1 (.s 31), (some (28, false))⟩, [2, 0, 1]⟩,
 ⟨⟨(some 33), .load none (.s 32), (some (28, false))⟩, [3, 2, 0, 1]⟩,
 ⟨⟨(some 34), .mov (.s 1), (some (28, false))⟩, []⟩,
 ⟨⟨(some 35), .mov (.s 5), (some (28, false))⟩, []⟩,
 ⟨⟨(some 36), .iadr 3 (.s 34) (.s 35), (some (28, false))⟩, [5, 6]⟩,
 ⟨⟨(some 37), .fadr 1 (.s 36), (some (28, false))⟩, [7, 5, 6]⟩,
 ⟨⟨(some 38), .load none (.s 37), (some (28, false))⟩, [8, 7, 5, 6]⟩] [] [])
 (.seq (.reg [⟨(some 39), .bin .neq (.s 33) (.s 38), (some (28, false))⟩] [])
 (.seq (.reg [⟨(some 40), .pick (.s 28) (.c (.bool true)) (.s 39), none⟩] [])
 (.seq (.reg [⟨(some 41), .mov (.s 40), none⟩] [])
 (.seq (.draw [⟨⟨(some 42), .mov (.s 0), (some (41, false))⟩, []⟩,
 ⟨⟨(some 43), .mov (.s 5), (some (41, false))⟩, []⟩,
 ⟨⟨(some 44), .iadr 3 (.s 42) (.s 43), (some (41, false))⟩, [0, 1]⟩,
 ⟨⟨(some 45), .fadr 2 (.s 44), (some (41, false))⟩, [2, 0, 1]⟩,
 ⟨⟨(some 46), .load none (.s 45), (some (41, false))⟩, [3, 2, 0, 1]⟩,
 ⟨⟨(some 47), .cvs (.s 46), (some (41, false))⟩, [4, 3, 2, 0, 1]⟩,
 ⟨⟨(some 48), .mov (.s 1), (some (41, false))⟩, []⟩,
 ⟨⟨(some 49), .mov (.s 5), (some (41, false))⟩, []⟩,
 ⟨⟨(some 50), .iadr 3 (.s 48) (.s 49), (some (41, false))⟩, [6, 7]⟩,
 ⟨⟨(some 51), .fadr 2 (.s 50), (some (41, false))⟩, [8, 6, 7]⟩,
 ⟨⟨(some 52), .load none (.s 51), (some (41, false))⟩, [9, 8, 6, 7]⟩,
 ⟨⟨(some 53), .cvs (.s 52), (some (41, false))⟩, [10, 9, 8, 6, 7]⟩] [] [])
 (.seq (.reg [⟨(some 54), .bin .neq (.s 47) (.s 53), (some (41, false))⟩] [])
 (.reg [⟨(some 55), .pick (.s 41) (.c (.bool true)) (.s 54), none⟩] [17, 18, 19, 20, 21, 22, 23, 24, 25, 26, 27, 28, 29, 30, 31, 32, 33, 34, 35, 36, 37, 38, 39, 40, 41, 42, 43, 44, 45, 46, 47, 48, 49, 50, 51, 52, 53, 54]))))))))))
 (.cond (.s 55)
 (.seq (.reg [⟨(some 4), .mov (.c (.bool false)), none⟩] [])
 .ret)
 .skip)))
 (.reg [⟨(some 15), .mov (.s 5), none⟩,
 ⟨(some 16), .bin .add (.s 15) (.c (.int .i64 1)), none⟩,
 ⟨(some 5), .mov (.s 16), none⟩] [15, 16]))))))
 (.seq (.reg [⟨(some 4), .mov (.c (.bool true)), none⟩] [])
 .ret))))⟩

theorem c_ref12_Same : compF Tryd.prog 49 = some F_ref12_Same := by kernel_rfl
abbrev n_ref12_Same : FuncId := 49

def F_law12_ours : IFun :=
⟨31, 1, [.tmp 2],
 (.seq (.reg [⟨(some 2), .mov (.c .nl), none⟩] [])
 (.seq (.reg [⟨(some 3), .mov (.c .nl), none⟩] [])
 (.seq (.seq (.reg [⟨(some 4), .mov (.c (.int .i64 0)), none⟩] [])
 (.block 0 (.loop (.seq (.seq (.reg [⟨(some 5), .mov (.s 4), none⟩,
 ⟨(some 6), .mov (.s 0), none⟩,
 ⟨(some 7), .len (.s 6), none⟩,
 ⟨(some 8), .bin .lss (.s 5) (.s 7), none⟩] [5, 6, 7])
 (.cond (.s 8)
 .skip
 (.exit 0)))
 (.seq (.block 1 (.seq (.draw [⟨⟨(some 11), .mov (.s 3), none⟩, []⟩,
 ⟨⟨(some 12), .mov (.s 0), none⟩, []⟩,
 ⟨⟨(some 13), .mov (.s 4), none⟩, []⟩,
 ⟨⟨(some 14), .iadr 3 (.s 12) (.s 13), none⟩, [1, 2]⟩,
 ⟨⟨(some 15), .fadr 0 (.s 14), none⟩, [3, 1, 2]⟩,
 ⟨⟨(some 16), .load none (.s 15), none⟩, [4, 3, 1, 2]⟩,
 ⟨⟨(some 17), .mov (.s 0), none⟩, []⟩,
 ⟨⟨(some 18), .mov (.s 4), none⟩, []⟩,
 ⟨⟨(some 19), .iadr 3 (.s 17) (.s 18), none⟩, [6, 7]⟩,
 ⟨⟨(some 20), .fadr 1 (.s 19), none⟩, [8, 6, 7]⟩,
 ⟨⟨(some 21), .load none (.s 20), none⟩, [9, 8, 6, 7]⟩,
 ⟨⟨(some 22), .mov (.s 0), none⟩, []⟩,
 ⟨⟨(some 23), .mov (.s 4), none⟩, []⟩,
 ⟨⟨(some 24), .iadr 3 (.s 22) (.s 23), none⟩, [11, 12]⟩,
 ⟨⟨(some 25), .fadr 2 (.s 24), none⟩, [13, 11, 12]⟩,
 ⟨⟨(some 26), .load none (.s 25), none⟩, [14, 13, 11, 12]⟩,
 ⟨⟨(some 27), .build [(.int .i64 0), (.str []), .nl] [(0, 1, (.s 16)), (1, 1, (.s 21)), (2, 1, (.s 26))], none⟩, [5, 4, 3, 1, 2, 10, 9, 8, 6, 7, 15, 14, 13, 11, 12]⟩,
 ⟨⟨(some 28), .bsl 122 3 [[(.int .i64 0), (.str []), .nl]] [(0, (.s 27))], none⟩, [16, 5, 4, 3, 1, 2, 10, 9, 8, 6, 7, 15, 14, 13, 11, 12]⟩] [(28, 17)] [])
 (.seq (.reg [⟨(some 29), .app 122 3 (.s 11) (.s 28), none⟩] [])
 (.reg [⟨(some 3), .mov (.s 29), none⟩] [11, 12, 13, 14, 15, 16, 17, 18, 19, 20, 21, 22, 23, 24, 25, 26, 27, 28, 29]))))
 (.reg [⟨(some 9), .mov (.s 4), none⟩,
 ⟨(some 10), .bin .add (.s 9) (.c (.int .i64 1)), none⟩,
 ⟨(some 4), .mov (.s 10), none⟩] [9, 10]))))))
 (.seq (.reg [⟨(some 30), .mov (.s 3), none⟩,
 ⟨(some 2), .mov (.s 30), none⟩] [30])
 .ret))))⟩

theorem c_law12_ours : compF Tryd.prog 50 = some F_law12_ours := by kernel_rfl
abbrev n_law12_ours : FuncId := 50

def F_Poctet_Writer_Fail : IFun :=
⟨10, 2, [],
 (.seq (.reg [⟨(some 4), .mov (.s 0), none⟩,
 ⟨(some 5), .call 71 [(.s 4)], none⟩] [4])
 (.cond (.s 5)
 (.reg [⟨(some 6), .mov (.s 0), none⟩,
 ⟨(some 7), .mov (.s 1), none⟩,
 ⟨(some 8), .nchk (.s 6), none⟩,
 ⟨(some 9), .fadr 2 (.s 8), none⟩,
 ⟨none, .store 1 (.s 9) (.s 7), none⟩] [6, 7, 8, 9])
 .skip))⟩

theorem c_Poctet_Writer_Fail : compF Tryd.prog 51 = some F_Poctet_Writer_Fail := by kernel_rfl
abbrev n_Poctet_Writer_Fail : FuncId := 51

def F_ref12_Split : IFun :=
⟨49, 1, [.tmp 2, .tmp 3],
 (.seq (.reg [⟨(some 2), .mov (.c .nl), none⟩,
 ⟨(some 3), .mov (.c (.int .i64 0)), none⟩] [])
 (.seq (.seq (.reg [⟨(some 9), .mov (.s 0), none⟩,
 ⟨(some 10), .len (.s 9), none⟩,
 ⟨(some 11), .bin .gtr (.s 10) (.c (.int .i64 262144)), none⟩] [9, 10])
 (.cond (.s 11)
 (.seq (.reg [⟨(some 2), .mov (.c .nl), none⟩,
 ⟨(some 3), .mov (.c (.int .i64 6)), none⟩] [])
 .ret)
 .skip))
 (.seq (.seq (.seq (.reg [⟨(some 12), .mov (.s 0), none⟩] [])
 (.seq (.reg [⟨(some 13), .len (.s 12), none⟩] [])
 (.seq (.reg [⟨(some 14), .bin .lss (.s 13) (.c (.int .i64 8)), none⟩] [])
 (.seq (.reg [⟨(some 15), .mov (.s 14), none⟩] [])
 (.seq (.draw [⟨⟨(some 16), .mov (.s 0), (some (15, false))⟩, []⟩,
 ⟨⟨(some 17), .slc 1 (.s 16) none (some (.c (.int .i64 8))) none, (some (15, false))⟩, [0]⟩,
 ⟨⟨(some 18), .cvs (.s 17), (some (15, false))⟩, [1, 0]⟩,
 ⟨⟨(some 19), .call 92 [], (some (15, false))⟩, []⟩,
 ⟨⟨(some 20), .cvs (.s 19), (some (15, false))⟩, [3]⟩] [] [])
 (.seq (.reg [⟨(some 21), .bin .neq (.s 18) (.s 20), (some (15, false))⟩] [])
 (.reg [⟨(some 22), .pick (.s 15) (.c (.bool true)) (.s 21), none⟩] [12, 13, 14, 15, 16, 17, 18, 19, 20, 21])))))))
 (.cond (.s 22)
 (.seq (.reg [⟨(some 2), .mov (.c .nl), none⟩,
 ⟨(some 3), .mov (.c (.int .i64 4)), none⟩] [])
 .ret)
 .skip))
 (.seq (.reg [⟨(some 23), .mov (.s 0), none⟩,
 ⟨(some 24), .slc 1 (.s 23) (some (.c (.int .i64 8))) none none, none⟩,
 ⟨(some 0), .mov (.s 24), none⟩] [23, 24])
 (.seq (.reg [⟨(some 4), .mov (.c .nl), none⟩] [])
 (.seq (.reg [⟨(some 5), .mov (.c (.int .i64 0)), none⟩] [])
 (.seq (.block 0 (.loop (.seq (.seq (.reg [⟨(some 25), .mov (.s 0), none⟩,
 ⟨(some 26), .len (.s 25), none⟩,
 ⟨(some 27), .bin .gtr (.s 26) (.c (.int .i64 0)), none⟩] [25, 26])
 (.cond (.s 27)
 .skip
 (.exit 0)))
 (.block 1 (.seq (.reg [⟨(some 29), .mov (.s 0), none⟩,
 ⟨(some 30), .mov (.s 5), none⟩,
 ⟨(some 31), .call 95 [(.s 29), (.s 30)], none⟩,
 ⟨(some 28), .mov (.s 31), none⟩,
 ⟨(some 32), .ext (.s 28) 0, none⟩,
 ⟨(some 33), .ext (.s 28) 1, none⟩,
 ⟨(some 34), .ext (.s 28) 2, none⟩,
 ⟨(some 6), .new 122 [(.int .i64 0), (.str []), .nl], none⟩,
 ⟨none, .store 3 (.s 6) (.s 32), none⟩,
 ⟨(some 7), .mov (.s 33), none⟩,
 ⟨(some 8), .mov (.s 34), none⟩] [29, 30, 31, 28, 32, 33, 34])
 (.seq (.seq (.reg [⟨(some 35), .mov (.s 8), none⟩,
 ⟨(some 36), .bin .neq (.s 35) (.c (.int .i64 0)), none⟩] [35])
 (.cond (.s 36)
 (.seq (.reg [⟨(some 37), .mov (.s 8), none⟩,
 ⟨(some 2), .mov (.c .nl), none⟩,
 ⟨(some 3), .mov (.s 37), none⟩] [37])
 .ret)
 .skip))
 (.seq (.reg [⟨(some 38), .mov (.s 5), none⟩,
 ⟨(some 39), .fadr 0 (.s 6), none⟩,
 ⟨(some 40), .load none (.s 39), none⟩,
 ⟨(some 41), .call 46 [(.s 40)], none⟩,
 ⟨(some 42), .mnx true (.s 38) (.s 41), none⟩,
 ⟨(some 5), .mov (.s 42), none⟩] [38, 39, 40, 41, 42])
 (.seq (.reg [⟨(some 43), .mov (.s 4), none⟩,
 ⟨(some 44), .load (some 3) (.s 6), none⟩,
 ⟨(some 45), .bsl 122 3 [[(.int .i64 0), (.str []), .nl]] [(0, (.s 44))], none⟩,
 ⟨(some 46), .app 122 3 (.s 43) (.s 45), none⟩,
 ⟨(some 4), .mov (.s 46), none⟩] [43, 44, 45, 46])
 (.reg [⟨(some 47), .mov (.s 7), none⟩,
 ⟨(some 0), .mov (.s 47), none⟩] [47])))))))))
 (.seq (.reg [⟨(some 48), .mov (.s 4), none⟩,
 ⟨(some 2), .mov (.s 48), none⟩,
 ⟨(some 3), .mov (.c (.int .i64 0)), none⟩] [48])
 .ret))))))))⟩

theorem c_ref12_Split : compF Tryd.prog 52 = some F_ref12_Split := by kernel_rfl
abbrev n_ref12_Split : FuncId := 52

def F_Poctet_Writer_Name : IFun :=
⟨24, 2, [],
 (.block 0 (.seq (.reg [⟨(some 13), .mov (.s 1), none⟩,
 ⟨(some 14), .call 74 [(.s 13)], none⟩,
 ⟨(some 15), .un .not (.s 14), none⟩,
 ⟨(some 12), .mov (.s 15), none⟩] [13, 14, 15])
 (.cond (.s 12)
 (.reg [⟨(some 16), .mov (.s 0), none⟩,
 ⟨(some 17), .call 51 [(.s 16), (.c (.int .i64 9))], none⟩] [16, 17])
 (.seq (.reg [⟨(some 19), .mov (.s 1), none⟩,
 ⟨(some 20), .slen (.s 19), none⟩,
 ⟨(some 21), .bin .gtr (.s 20) (.c (.int .i64 64)), none⟩,
 ⟨(some 18), .mov (.s 21), none⟩] [19, 20, 21])
 (.cond (.s 18)
 (.reg [⟨(some 22), .mov (.s 0), none⟩,
 ⟨(some 23), .call 51 [(.s 22), (.c (.int .i64 6))], none⟩] [22, 23])
 (.seq (.reg [⟨(some 4), .mov (.s 0), none⟩,
 ⟨(some 5), .mov (.s 1), none⟩,
 ⟨(some 6), .slen (.s 5), none⟩,
 ⟨(some 7), .call 58 [(.s 4), (.s 6)], none⟩] [4, 5, 6, 7])
 (.reg [⟨(some 8), .mov (.s 0), none⟩,
 ⟨(some 9), .mov (.s 1), none⟩,
 ⟨(some 10), .cvb 5 (.s 9), none⟩,
 ⟨(some 11), .call 66 [(.s 8), (.s 10)], none⟩] [8, 9, 10, 11])))))))⟩

theorem c_Poctet_Writer_Name : compF Tryd.prog 53 = some F_Poctet_Writer_Name := by kernel_rfl
abbrev n_Poctet_Writer_Name : FuncId := 53

def F_Poctet_Reader_sound : IFun :=
⟨18, 1, [.tmp 2],
 (.seq (.reg [⟨(some 2), .mov (.c (.bool false)), none⟩] [])
 (.seq (.reg [⟨(some 3), .mov (.s 0), none⟩,
 ⟨(some 4), .pbin .neq (.s 3) (.c .np), none⟩,
 ⟨(some 5), .mov (.s 4), none⟩,
 ⟨(some 6), .mov (.s 0), (some (5, true))⟩,
 ⟨(some 7), .nchk (.s 6), (some (5, true))⟩,
 ⟨(some 8), .fadr 0 (.s 7), (some (5, true))⟩,
 ⟨(some 9), .load none (.s 8), (some (5, true))⟩,
 ⟨(some 10), .pick (.s 5) (.s 9) (.c (.bool false)), none⟩,
 ⟨(some 11), .mov (.s 10), none⟩,
 ⟨(some 12), .mov (.s 0), (some (11, true))⟩,
 ⟨(some 13), .nchk (.s 12), (some (11, true))⟩,
 ⟨(some 14), .fadr 3 (.s 13), (some (11, true))⟩,
 ⟨(some 15), .load none (.s 14), (some (11, true))⟩,
 ⟨(some 16), .bin .eql (.s 15) (.c (.int .i64 0)), (some (11, true))⟩,
 ⟨(some 17), .pick (.s 11) (.s 16) (.c (.bool false)), none⟩,
 ⟨(some 2), .mov (.s 17), none⟩] [3, 4, 5, 6, 7, 8, 9, 10, 11, 12, 13, 14, 15, 16, 17])
 .ret))⟩

theorem c_Poctet_Reader_sound : compF Tryd.prog 54 = some F_Poctet_Reader_sound := by kernel_rfl
abbrev n_Poctet_Reader_sound : FuncId := 54

def F_Poctet_Reader_cut : IFun :=
⟨29, 2, [.tmp 4],
 (.seq (.reg [⟨(some 4), .mov (.c .nl), none⟩] [])
 (.seq (.reg [⟨(some 7), .mov (.s 0), none⟩,
 ⟨(some 8), .nchk (.s 7), none⟩,
 ⟨(some 9), .fadr 2 (.s 8), none⟩,
 ⟨(some 10), .load none (.s 9), none⟩,
 ⟨(some 11), .mov (.s 1), none⟩,
 ⟨(some 12), .bin .add (.s 10) (.s 11), none⟩,
 ⟨(some 5), .mov (.s 12), none⟩] [7, 8, 9, 10, 11, 12])
 (.seq (.seq (.draw [⟨⟨(some 13), .mov (.s 0), none⟩, []⟩,
 ⟨⟨(some 14), .nchk (.s 13), none⟩, [0]⟩,
 ⟨⟨(some 15), .fadr 1 (.s 14), none⟩, [1, 0]⟩,
 ⟨⟨(some 16), .load none (.s 15), none⟩, [2, 1, 0]⟩,
 ⟨⟨(some 17), .mov (.s 0), none⟩, []⟩,
 ⟨⟨(some 18), .nchk (.s 17), none⟩, [4]⟩,
 ⟨⟨(some 19), .fadr 2 (.s 18), none⟩, [5, 4]⟩,
 ⟨⟨(some 20), .load none (.s 19), none⟩, [6, 5, 4]⟩,
 ⟨⟨(some 21), .mov (.s 5), none⟩, []⟩,
 ⟨⟨(some 22), .mov (.s 5), none⟩, []⟩] [] [])
 (.seq (.reg [⟨(some 23), .slc 1 (.s 16) (some (.s 20)) (some (.s 21)) (some (.s 22)), none⟩] [])
 (.reg [⟨(some 6), .mov (.s 23), none⟩] [13, 14, 15, 16, 17, 18, 19, 20, 21, 22, 23])))
 (.seq (.reg [⟨(some 24), .mov (.s 0), none⟩,
 ⟨(some 25), .mov (.s 5), none⟩,
 ⟨(some 26), .nchk (.s 24), none⟩,
 ⟨(some 27), .fadr 2 (.s 26), none⟩,
 ⟨none, .store 1 (.s 27) (.s 25), none⟩] [24, 25, 26, 27])
 (.seq (.reg [⟨(some 28), .mov (.s 6), none⟩,
 ⟨(some 4), .mov (.s 28), none⟩] [28])
 .ret)))))⟩

theorem c_Poctet_Reader_cut : compF Tryd.prog 55 = some F_Poctet_Reader_cut := by kernel_rfl
abbrev n_Poctet_Reader_cut : FuncId := 55

def F_Poctet_Writer_Byte : IFun :=
⟨8, 2, [],
 (.reg [⟨(some 4), .mov (.s 0), none⟩,
 ⟨(some 5), .mov (.s 1), none⟩,
 ⟨(some 6), .bsl 5 1 [[(.int .u8 0)]] [(0, (.s 5))], none⟩,
 ⟨(some 7), .call 66 [(.s 4), (.s 6)], none⟩] [4, 5, 6, 7])⟩

theorem c_Poctet_Writer_Byte : compF Tryd.prog 56 = some F_Poctet_Writer_Byte := by kernel_rfl
abbrev n_Poctet_Writer_Byte : FuncId := 56

def F_ref02_PutByte : IFun :=
⟨9, 2, [.cell 4 (some 2)],
 (.seq (.reg [⟨(some 2), .box 36 2 (.s 0), none⟩,
 ⟨(some 4), .new 36 [.nl, (.int .i64 0)], none⟩] [])
 (.seq (.reg [⟨(some 5), .load (some 2) (.s 2), none⟩,
 ⟨(some 6), .mov (.s 1), none⟩,
 ⟨(some 7), .bsl 5 1 [[(.int .u8 0)]] [(0, (.s 6))], none⟩,
 ⟨(some 8), .call 67 [(.s 5), (.s 7)], none⟩,
 ⟨none, .store 2 (.s 4) (.s 8), none⟩] [5, 6, 7, 8])
 .ret))⟩

theorem c_ref02_PutByte : compF Tryd.prog 57 = some F_ref02_PutByte := by kernel_rfl
abbrev n_ref02_PutByte : FuncId := 57

def F_Poctet_Writer_U32 : IFun :=
⟨17, 2, [],
 (.seq (.seq (.reg [⟨(some 4), .mov (.s 1), none⟩,
 ⟨(some 5), .bin .lss (.s 4) (.c (.int .i64 0)), none⟩,
 ⟨(some 6), .mov (.s 5), none⟩,
 ⟨(some 7), .mov (.s 1), (some (6, false))⟩,
 ⟨(some 8), .bin .gtr (.s 7) (.c (.int .i64 4294967295)), (some (6, false))⟩,
 ⟨(some 9), .pick (.s 6) (.c (.bool true)) (.s 8), none⟩] [4, 5, 6, 7, 8])
 (.cond (.s 9)
 (.seq (.reg [⟨(some 10), .mov (.s 0), none⟩,
 ⟨(some 11), .call 51 [(.s 10), (.c (.int .i64 1))], none⟩] [10, 11])
 .ret)
 .skip))
 (.reg [⟨(some 12), .mov (.s 0), none⟩,
 ⟨(some 13), .mov (.s 1), none⟩,
 ⟨(some 14), .cvi .u64 (.s 13), none⟩,
 ⟨(some 15), .call 96 [(.c .nl), (.s 14)], none⟩,
 ⟨(some 16), .call 66 [(.s 12), (.s 15)], none⟩] [12, 13, 14, 15, 16]))⟩

theorem c_Poctet_Writer_U32 : compF Tryd.prog 58 = some F_Poctet_Writer_U32 := by kernel_rfl
abbrev n_Poctet_Writer_U32 : FuncId := 58

def F_ref02_PutU32 : IFun :=
⟨18, 2, [.cell 4 (some 2)],
 (.seq (.reg [⟨(some 2), .box 36 2 (.s 0), none⟩,
 ⟨(some 4), .new 36 [.nl, (.int .i64 0)], none⟩] [])
 (.seq (.seq (.reg [⟨(some 5), .mov (.s 1), none⟩,
 ⟨(some 6), .bin .lss (.s 5) (.c (.int .i64 0)), none⟩,
 ⟨(some 7), .mov (.s 6), none⟩,
 ⟨(some 8), .mov (.s 1), (some (7, false))⟩,
 ⟨(some 9), .bin .geq (.s 8) (.c (.int .i64 4294967296)), (some (7, false))⟩,
 ⟨(some 10), .pick (.s 7) (.c (.bool true)) (.s 9), none⟩] [5, 6, 7, 8, 9])
 (.cond (.s 10)
 (.seq (.reg [⟨(some 11), .load (some 2) (.s 2), none⟩,
 ⟨(some 12), .call 70 [(.s 11), (.c (.int .i64 1))], none⟩,
 ⟨none, .store 2 (.s 4) (.s 12), none⟩] [11, 12])
 .ret)
 .skip))
 (.seq (.seq (.draw [⟨⟨(some 13), .load (some 2) (.s 2), none⟩, []⟩,
 ⟨⟨(some 14), .mov (.s 1), none⟩, []⟩,
 ⟨⟨(some 15), .cvi .u64 (.s 14), none⟩, [1]⟩,
 ⟨⟨(some 16), .call 97 [(.c .nl), (.s 15)], none⟩, [2, 1]⟩] [] [])
 (.seq (.reg [⟨(some 17), .call 67 [(.s 13), (.s 16)], none⟩] [])
 (.reg [⟨none, .store 2 (.s 4) (.s 17), none⟩] [13, 14, 15, 16, 17])))
 .ret)))⟩

theorem c_ref02_PutU32 : compF Tryd.prog 59 = some F_ref02_PutU32 := by kernel_rfl
abbrev n_ref02_PutU32 : FuncId := 59

def F_Poctet_Writer_S32 : IFun :=
⟨11, 2, [],
 (.reg [⟨(some 4), .mov (.s 0), none⟩,
 ⟨(some 5), .mov (.s 1), none⟩,
 ⟨(some 6), .cvi .u32 (.s 5), none⟩,
 ⟨(some 7), .cvi .i32 (.s 6), none⟩,
 ⟨(some 8), .cvi .i64 (.s 7), none⟩,
 ⟨(some 9), .call 98 [(.c .nl), (.s 8)], none⟩,
 ⟨(some 10), .call 66 [(.s 4), (.s 9)], none⟩] [4, 5, 6, 7, 8, 9, 10])⟩

theorem c_Poctet_Writer_S32 : compF Tryd.prog 60 = some F_Poctet_Writer_S32 := by kernel_rfl
abbrev n_Poctet_Writer_S32 : FuncId := 60

def F_ref02_PutS32 : IFun :=
⟨12, 2, [.cell 4 (some 2)],
 (.seq (.reg [⟨(some 2), .box 36 2 (.s 0), none⟩,
 ⟨(some 4), .new 36 [.nl, (.int .i64 0)], none⟩] [])
 (.seq (.seq (.draw [⟨⟨(some 5), .load (some 2) (.s 2), none⟩, []⟩,
 ⟨⟨(some 6), .mov (.s 1), none⟩, []⟩,
 ⟨⟨(some 7), .cvi .u32 (.s 6), none⟩, [1]⟩,
 ⟨⟨(some 8), .cvi .i32 (.s 7), none⟩, [2, 1]⟩,
 ⟨⟨(some 9), .cvi .i64 (.s 8), none⟩, [3, 2, 1]⟩,
 ⟨⟨(some 10), .call 99 [(.c .nl), (.s 9)], none⟩, [4, 3, 2, 1]⟩] [] [])
 (.seq (.reg [⟨(some 11), .call 67 [(.s 5), (.s 10)], none⟩] [])
 (.reg [⟨none, .store 2 (.s 4) (.s 11), none⟩] [5, 6, 7, 8, 9, 10, 11])))
 .ret))⟩

theorem c_ref02_PutS32 : compF Tryd.prog 61 = some F_ref02_PutS32 := by kernel_rfl
abbrev n_ref02_PutS32 : FuncId := 61

def F_Poctet_Writer_S33 : IFun :=
⟨16, 2, [],
 (.seq (.seq (.reg [⟨(some 4), .mov (.s 1), none⟩,
 ⟨(some 5), .bin .lss (.s 4) (.c (.int .i64 (-4294967296))), none⟩,
 ⟨(some 6), .mov (.s 5), none⟩,
 ⟨(some 7), .mov (.s 1), (some (6, false))⟩,
 ⟨(some 8), .bin .gtr (.s 7) (.c (.int .i64 4294967295)), (some (6, false))⟩,
 ⟨(some 9), .pick (.s 6) (.c (.bool true)) (.s 8), none⟩] [4, 5, 6, 7, 8])
 (.cond (.s 9)
 (.seq (.reg [⟨(some 10), .mov (.s 0), none⟩,
 ⟨(some 11), .call 51 [(.s 10), (.c (.int .i64 1))], none⟩] [10, 11])
 .ret)
 .skip))
 (.reg [⟨(some 12), .mov (.s 0), none⟩,
 ⟨(some 13), .mov (.s 1), none⟩,
 ⟨(some 14), .call 98 [(.c .nl), (.s 13)], none⟩,
 ⟨(some 15), .call 66 [(.s 12), (.s 14)], none⟩] [12, 13, 14, 15]))⟩

theorem c_Poctet_Writer_S33 : compF Tryd.prog 62 = some F_Poctet_Writer_S33 := by kernel_rfl
abbrev n_Poctet_Writer_S33 : FuncId := 62

def F_ref02_PutS33 : IFun :=
⟨17, 2, [.cell 4 (some 2)],
 (.seq (.reg [⟨(some 2), .box 36 2 (.s 0), none⟩,
 ⟨(some 4), .new 36 [.nl, (.int .i64 0)], none⟩] [])
 (.seq (.seq (.reg [⟨(some 5), .mov (.s 1), none⟩,
 ⟨(some 6), .bin .lss (.s 5) (.c (.int .i64 (-4294967296))), none⟩,
 ⟨(some 7), .mov (.s 6), none⟩,
 ⟨(some 8), .mov (.s 1), (some (7, false))⟩,
 ⟨(some 9), .bin .geq (.s 8) (.c (.int .i64 4294967296)), (some (7, false))⟩,
 ⟨(some 10), .pick (.s 7) (.c (.bool true)) (.s 9), none⟩] [5, 6, 7, 8, 9])
 (.cond (.s 10)
 (.seq (.reg [⟨(some 11), .load (some 2) (.s 2), none⟩,
 ⟨(some 12), .call 70 [(.s 11), (.c (.int .i64 1))], none⟩,
 ⟨none, .store 2 (.s 4) (.s 12), none⟩] [11, 12])
 .ret)
 .skip))
 (.seq (.seq (.draw [⟨⟨(some 13), .load (some 2) (.s 2), none⟩, []⟩,
 ⟨⟨(some 14), .mov (.s 1), none⟩, []⟩,
 ⟨⟨(some 15), .call 99 [(.c .nl), (.s 14)], none⟩, [1]⟩] [] [])
 (.seq (.reg [⟨(some 16), .call 67 [(.s 13), (.s 15)], none⟩] [])
 (.reg [⟨none, .store 2 (.s 4) (.s 16), none⟩] [13, 14, 15, 16])))
 .ret)))⟩

theorem c_ref02_PutS33 : compF Tryd.prog 63 = some F_ref02_PutS33 := by kernel_rfl
abbrev n_ref02_PutS33 : FuncId := 63

def F_Poctet_Writer_S64 : IFun :=
⟨9, 2, [],
 (.reg [⟨(some 4), .mov (.s 0), none⟩,
 ⟨(some 5), .mov (.s 1), none⟩,
 ⟨(some 6), .cvi .i64 (.s 5), none⟩,
 ⟨(some 7), .call 98 [(.c .nl), (.s 6)], none⟩,
 ⟨(some 8), .call 66 [(.s 4), (.s 7)], none⟩] [4, 5, 6, 7, 8])⟩

theorem c_Poctet_Writer_S64 : compF Tryd.prog 64 = some F_Poctet_Writer_S64 := by kernel_rfl
abbrev n_Poctet_Writer_S64 : FuncId := 64

def F_ref02_PutS64 : IFun :=
⟨10, 2, [.cell 4 (some 2)],
 (.seq (.reg [⟨(some 2), .box 36 2 (.s 0), none⟩,
 ⟨(some 4), .new 36 [.nl, (.int .i64 0)], none⟩] [])
 (.seq (.seq (.draw [⟨⟨(some 5), .load (some 2) (.s 2), none⟩, []⟩,
 ⟨⟨(some 6), .mov (.s 1), none⟩, []⟩,
 ⟨⟨(some 7), .cvi .i64 (.s 6), none⟩, [1]⟩,
 ⟨⟨(some 8), .call 99 [(.c .nl), (.s 7)], none⟩, [2, 1]⟩] [] [])
 (.seq (.reg [⟨(some 9), .call 67 [(.s 5), (.s 8)], none⟩] [])
 (.reg [⟨none, .store 2 (.s 4) (.s 9), none⟩] [5, 6, 7, 8, 9])))
 .ret))⟩

theorem c_ref02_PutS64 : compF Tryd.prog 65 = some F_ref02_PutS64 := by kernel_rfl
abbrev n_ref02_PutS64 : FuncId := 65

def F_Poctet_Writer_Bytes : IFun :=
⟨15, 2, [],
 (.seq (.reg [⟨(some 4), .mov (.s 0), none⟩,
 ⟨(some 5), .call 71 [(.s 4)], none⟩] [4])
 (.cond (.s 5)
 (.reg [⟨(some 6), .mov (.s 0), none⟩,
 ⟨(some 7), .mov (.s 0), none⟩,
 ⟨(some 8), .nchk (.s 7), none⟩,
 ⟨(some 9), .fadr 1 (.s 8), none⟩,
 ⟨(some 10), .load none (.s 9), none⟩,
 ⟨(some 11), .mov (.s 1), none⟩,
 ⟨(some 12), .app 5 1 (.s 10) (.s 11), none⟩,
 ⟨(some 13), .nchk (.s 6), none⟩,
 ⟨(some 14), .fadr 1 (.s 13), none⟩,
 ⟨none, .store 1 (.s 14) (.s 12), none⟩] [6, 7, 8, 9, 10, 11, 12, 13, 14])
 .skip))⟩

theorem c_Poctet_Writer_Bytes : compF Tryd.prog 66 = some F_Poctet_Writer_Bytes := by kernel_rfl
abbrev n_Poctet_Writer_Bytes : FuncId := 66

def F_ref02_PutBytes : IFun :=
⟨17, 2, [.cell 4 (some 2)],
 (.seq (.reg [⟨(some 2), .box 36 2 (.s 0), none⟩,
 ⟨(some 4), .new 36 [.nl, (.int .i64 0)], none⟩] [])
 (.seq (.seq (.reg [⟨(some 5), .fadr 1 (.s 2), none⟩,
 ⟨(some 6), .load none (.s 5), none⟩,
 ⟨(some 7), .bin .neq (.s 6) (.c (.int .i64 0)), none⟩] [5, 6])
 (.cond (.s 7)
 (.seq (.reg [⟨(some 8), .load (some 2) (.s 2), none⟩,
 ⟨none, .store 2 (.s 4) (.s 8), none⟩] [8])
 .ret)
 .skip))
 (.seq (.reg [⟨(some 9), .bsl 5 1 [] [], none⟩,
 ⟨(some 10), .fadr 0 (.s 2), none⟩,
 ⟨(some 11), .load none (.s 10), none⟩,
 ⟨(some 12), .app 5 1 (.s 9) (.s 11), none⟩,
 ⟨(some 13), .mov (.s 1), none⟩,
 ⟨(some 14), .app 5 1 (.s 12) (.s 13), none⟩,
 ⟨(some 15), .fadr 0 (.s 2), none⟩,
 ⟨none, .store 1 (.s 15) (.s 14), none⟩] [9, 10, 11, 12, 13, 14, 15])
 (.seq (.reg [⟨(some 16), .load (some 2) (.s 2), none⟩,
 ⟨none, .store 2 (.s 4) (.s 16), none⟩] [16])
 .ret))))⟩

theorem c_ref02_PutBytes : compF Tryd.prog 67 = some F_ref02_PutBytes := by kernel_rfl
abbrev n_ref02_PutBytes : FuncId := 67

def F_ref02_PutName : IFun :=
⟨22, 2, [.cell 4 (some 2)],
 (.seq (.reg [⟨(some 2), .box 36 2 (.s 0), none⟩,
 ⟨(some 4), .new 36 [.nl, (.int .i64 0)], none⟩] [])
 (.seq (.seq (.reg [⟨(some 5), .mov (.s 1), none⟩,
 ⟨(some 6), .call 74 [(.s 5)], none⟩,
 ⟨(some 7), .un .not (.s 6), none⟩] [5, 6])
 (.cond (.s 7)
 (.seq (.reg [⟨(some 8), .load (some 2) (.s 2), none⟩,
 ⟨(some 9), .call 70 [(.s 8), (.c (.int .i64 9))], none⟩,
 ⟨none, .store 2 (.s 4) (.s 9), none⟩] [8, 9])
 .ret)
 .skip))
 (.seq (.seq (.reg [⟨(some 10), .mov (.s 1), none⟩,
 ⟨(some 11), .slen (.s 10), none⟩,
 ⟨(some 12), .bin .gtr (.s 11) (.c (.int .i64 64)), none⟩] [10, 11])
 (.cond (.s 12)
 (.seq (.reg [⟨(some 13), .load (some 2) (.s 2), none⟩,
 ⟨(some 14), .call 70 [(.s 13), (.c (.int .i64 6))], none⟩,
 ⟨none, .store 2 (.s 4) (.s 14), none⟩] [13, 14])
 .ret)
 .skip))
 (.seq (.reg [⟨(some 15), .load (some 2) (.s 2), none⟩,
 ⟨(some 16), .mov (.s 1), none⟩,
 ⟨(some 17), .slen (.s 16), none⟩,
 ⟨(some 18), .call 59 [(.s 15), (.s 17)], none⟩,
 ⟨(some 19), .mov (.s 1), none⟩,
 ⟨(some 20), .cvb 5 (.s 19), none⟩,
 ⟨(some 21), .call 67 [(.s 18), (.s 20)], none⟩,
 ⟨none, .store 2 (.s 4) (.s 21), none⟩] [15, 16, 17, 18, 19, 20, 21])
 .ret))))⟩

theorem c_ref02_PutName : compF Tryd.prog 68 = some F_ref02_PutName := by kernel_rfl
abbrev n_ref02_PutName : FuncId := 68

def F_ref02_PutPart : IFun :=
⟨20, 2, [.cell 4 (some 2)],
 (.seq (.reg [⟨(some 2), .box 36 2 (.s 0), none⟩,
 ⟨(some 3), .box 36 2 (.s 1), none⟩,
 ⟨(some 4), .new 36 [.nl, (.int .i64 0)], none⟩] [])
 (.seq (.seq (.reg [⟨(some 5), .fadr 1 (.s 3), none⟩,
 ⟨(some 6), .load none (.s 5), none⟩,
 ⟨(some 7), .bin .neq (.s 6) (.c (.int .i64 0)), none⟩] [5, 6])
 (.cond (.s 7)
 (.seq (.reg [⟨(some 8), .load (some 2) (.s 2), none⟩,
 ⟨(some 9), .fadr 1 (.s 3), none⟩,
 ⟨(some 10), .load none (.s 9), none⟩,
 ⟨(some 11), .call 70 [(.s 8), (.s 10)], none⟩,
 ⟨none, .store 2 (.s 4) (.s 11), none⟩] [8, 9, 10, 11])
 .ret)
 .skip))
 (.seq (.seq (.draw [⟨⟨(some 12), .load (some 2) (.s 2), none⟩, []⟩,
 ⟨⟨(some 13), .fadr 0 (.s 3), none⟩, []⟩,
 ⟨⟨(some 14), .load none (.s 13), none⟩, [1]⟩,
 ⟨⟨(some 15), .len (.s 14), none⟩, [2, 1]⟩,
 ⟨⟨(some 16), .call 59 [(.s 12), (.s 15)], none⟩, [0, 3, 2, 1]⟩,
 ⟨⟨(some 17), .fadr 0 (.s 3), none⟩, []⟩,
 ⟨⟨(some 18), .load none (.s 17), none⟩, [5]⟩] [] [])
 (.seq (.reg [⟨(some 19), .call 67 [(.s 16), (.s 18)], none⟩] [])
 (.reg [⟨none, .store 2 (.s 4) (.s 19), none⟩] [12, 13, 14, 15, 16, 17, 18, 19])))
 .ret)))⟩

theorem c_ref02_PutPart : compF Tryd.prog 69 = some F_ref02_PutPart := by kernel_rfl
abbrev n_ref02_PutPart : FuncId := 69

def F_ref02_PutFail : IFun :=
⟨11, 2, [.cell 4 (some 2)],
 (.seq (.reg [⟨(some 2), .box 36 2 (.s 0), none⟩,
 ⟨(some 4), .new 36 [.nl, (.int .i64 0)], none⟩] [])
 (.seq (.seq (.reg [⟨(some 5), .fadr 1 (.s 2), none⟩,
 ⟨(some 6), .load none (.s 5), none⟩,
 ⟨(some 7), .bin .eql (.s 6) (.c (.int .i64 0)), none⟩] [5, 6])
 (.cond (.s 7)
 (.reg [⟨(some 8), .mov (.s 1), none⟩,
 ⟨(some 9), .fadr 1 (.s 2), none⟩,
 ⟨none, .store 1 (.s 9) (.s 8), none⟩] [8, 9])
 .skip))
 (.seq (.reg [⟨(some 10), .load (some 2) (.s 2), none⟩,
 ⟨none, .store 2 (.s 4) (.s 10), none⟩] [10])
 .ret)))⟩

theorem c_ref02_PutFail : compF Tryd.prog 70 = some F_ref02_PutFail := by kernel_rfl
abbrev n_ref02_PutFail : FuncId := 70

def F_Poctet_Writer_sound : IFun :=
⟨18, 1, [.tmp 2],
 (.seq (.reg [⟨(some 2), .mov (.c (.bool false)), none⟩] [])
 (.seq (.reg [⟨(some 3), .mov (.s 0), none⟩,
 ⟨(some 4), .pbin .neq (.s 3) (.c .np), none⟩,
 ⟨(some 5), .mov (.s 4), none⟩,
 ⟨(some 6), .mov (.s 0), (some (5, true))⟩,
 ⟨(some 7), .nchk (.s 6), (some (5, true))⟩,
 ⟨(some 8), .fadr 0 (.s 7), (some (5, true))⟩,
 ⟨(some 9), .load none (.s 8), (some (5, true))⟩,
 ⟨(some 10), .pick (.s 5) (.s 9) (.c (.bool false)), none⟩,
 ⟨(some 11), .mov (.s 10), none⟩,
 ⟨(some 12), .mov (.s 0), (some (11, true))⟩,
 ⟨(some 13), .nchk (.s 12), (some (11, true))⟩,
 ⟨(some 14), .fadr 2 (.s 13), (some (11, true))⟩,
 ⟨(some 15), .load none (.s 14), (some (11, true))⟩,
 ⟨(some 16), .bin .eql (.s 15) (.c (.int .i64 0)), (some (11, true))⟩,
 ⟨(some 17), .pick (.s 11) (.s 16) (.c (.bool false)), none⟩,
 ⟨(some 2), .mov (.s 17), none⟩] [3, 4, 5, 6, 7, 8, 9, 10, 11, 12, 13, 14, 15, 16, 17])
 .ret))⟩

theorem c_Poctet_Writer_sound : compF Tryd.prog 71 = some F_Poctet_Writer_sound := by kernel_rfl
abbrev n_Poctet_Writer_sound : FuncId := 71

def F_Poctet_Reader_unsigned : IFun :=
⟨40, 2, [.tmp 4],
 (.seq (.reg [⟨(some 4), .mov (.c (.int .u64 0)), none⟩] [])
 (.seq (.seq (.reg [⟨(some 8), .mov (.s 0), none⟩,
 ⟨(some 9), .call 54 [(.s 8)], none⟩,
 ⟨(some 10), .un .not (.s 9), none⟩] [8, 9])
 (.cond (.s 10)
 (.seq (.reg [⟨(some 4), .mov (.c (.int .u64 0)), none⟩] [])
 .ret)
 .skip))
 (.seq (.seq (.draw [⟨⟨(some 12), .mov (.s 0), none⟩, []⟩,
 ⟨⟨(some 13), .nchk (.s 12), none⟩, [0]⟩,
 ⟨⟨(some 14), .fadr 1 (.s 13), none⟩, [1, 0]⟩,
 ⟨⟨(some 15), .load none (.s 14), none⟩, [2, 1, 0]⟩,
 ⟨⟨(some 16), .mov (.s 0), none⟩, []⟩,
 ⟨⟨(some 17), .nchk (.s 16), none⟩, [4]⟩,
 ⟨⟨(some 18), .fadr 2 (.s 17), none⟩, [5, 4]⟩,
 ⟨⟨(some 19), .load none (.s 18), none⟩, [6, 5, 4]⟩,
 ⟨⟨(some 20), .slc 1 (.s 15) (some (.s 19)) none none, none⟩, [3, 2, 1, 0, 7, 6, 5, 4]⟩,
 ⟨⟨(some 21), .mov (.s 1), none⟩, []⟩] [] [])
 (.seq (.reg [⟨(some 22), .call 100 [(.s 20), (.s 21)], none⟩] [])
 (.seq (.reg [⟨(some 11), .mov (.s 22), none⟩] [])
 (.seq (.draw [⟨⟨(some 23), .ext (.s 11) 0, none⟩, []⟩,
 ⟨⟨(some 24), .ext (.s 11) 1, none⟩, []⟩,
 ⟨⟨(some 25), .ext (.s 11) 2, none⟩, []⟩,
 ⟨⟨(some 5), .mov (.s 23), none⟩, [0]⟩,
 ⟨⟨(some 6), .mov (.s 24), none⟩, [1, 3, 0]⟩] [] [])
 (.reg [⟨(some 7), .mov (.s 25), none⟩] [12, 13, 14, 15, 16, 17, 18, 19, 20, 21, 22, 11, 23, 24, 25])))))
 (.seq (.seq (.reg [⟨(some 26), .mov (.s 7), none⟩,
 ⟨(some 27), .bin .neq (.s 26) (.c (.int .i64 0)), none⟩] [26])
 (.cond (.s 27)
 (.seq (.reg [⟨(some 28), .mov (.s 0), none⟩,
 ⟨(some 29), .mov (.s 7), none⟩,
 ⟨(some 30), .call 25 [(.s 28), (.s 29)], none⟩] [28, 29, 30])
 (.seq (.reg [⟨(some 4), .mov (.c (.int .u64 0)), none⟩] [])
 .ret))
 .skip))
 (.seq (.reg [⟨(some 31), .mov (.s 0), none⟩,
 ⟨(some 32), .nchk (.s 31), none⟩,
 ⟨(some 33), .fadr 2 (.s 32), none⟩,
 ⟨(some 34), .load none (.s 33), none⟩,
 ⟨(some 35), .mov (.s 6), none⟩,
 ⟨(some 36), .bin .add (.s 34) (.s 35), none⟩,
 ⟨(some 37), .nchk (.s 31), none⟩,
 ⟨(some 38), .fadr 2 (.s 37), none⟩,
 ⟨none, .store 1 (.s 38) (.s 36), none⟩] [31, 32, 33, 34, 35, 36, 37, 38])
 (.seq (.reg [⟨(some 39), .mov (.s 5), none⟩,
 ⟨(some 4), .mov (.s 39), none⟩] [39])
 .ret))))))⟩

theorem c_Poctet_Reader_unsigned : compF Tryd.prog 72 = some F_Poctet_Reader_unsigned := by kernel_rfl
abbrev n_Poctet_Reader_unsigned : FuncId := 72

def F_Poctet_Reader_Count : IFun :=
⟨33, 2, [.tmp 4],
 (.seq (.reg [⟨(some 4), .mov (.c (.int .i64 0)), none⟩] [])
 (.seq (.seq (.reg [⟨(some 7), .mov (.s 0), none⟩,
 ⟨(some 8), .call 54 [(.s 7)], none⟩,
 ⟨(some 9), .un .not (.s 8), none⟩] [7, 8])
 (.cond (.s 9)
 (.seq (.reg [⟨(some 4), .mov (.c (.int .i64 0)), none⟩] [])
 .ret)
 .skip))
 (.seq (.reg [⟨(some 10), .mov (.s 0), none⟩,
 ⟨(some 11), .nchk (.s 10), none⟩,
 ⟨(some 12), .fadr 2 (.s 11), none⟩,
 ⟨(some 13), .load none (.s 12), none⟩,
 ⟨(some 5), .mov (.s 13), none⟩] [10, 11, 12, 13])
 (.seq (.reg [⟨(some 14), .mov (.s 0), none⟩,
 ⟨(some 15), .call 32 [(.s 14)], none⟩,
 ⟨(some 6), .mov (.s 15), none⟩] [14, 15])
 (.seq (.seq (.reg [⟨(some 16), .mov (.s 0), none⟩,
 ⟨(some 17), .nchk (.s 16), none⟩,
 ⟨(some 18), .fadr 3 (.s 17), none⟩,
 ⟨(some 19), .load none (.s 18), none⟩,
 ⟨(some 20), .bin .eql (.s 19) (.c (.int .i64 0)), none⟩,
 ⟨(some 21), .mov (.s 20), none⟩,
 ⟨(some 22), .mov (.s 6), (some (21, true))⟩,
 ⟨(some 23), .mov (.s 1), (some (21, true))⟩,
 ⟨(some 24), .bin .gtr (.s 22) (.s 23), (some (21, true))⟩,
 ⟨(some 25), .pick (.s 21) (.s 24) (.c (.bool false)), none⟩] [16, 17, 18, 19, 20, 21, 22, 23, 24])
 (.cond (.s 25)
 (.seq (.reg [⟨(some 26), .mov (.s 0), none⟩,
 ⟨(some 27), .mov (.s 5), none⟩,
 ⟨(some 28), .nchk (.s 26), none⟩,
 ⟨(some 29), .fadr 2 (.s 28), none⟩,
 ⟨none, .store 1 (.s 29) (.s 27), none⟩] [26, 27, 28, 29])
 (.seq (.reg [⟨(some 30), .mov (.s 0), none⟩,
 ⟨(some 31), .call 25 [(.s 30), (.c (.int .i64 6))], none⟩] [30, 31])
 (.seq (.reg [⟨(some 4), .mov (.c (.int .i64 0)), none⟩] [])
 .ret)))
 .skip))
 (.seq (.reg [⟨(some 32), .mov (.s 6), none⟩,
 ⟨(some 4), .mov (.s 32), none⟩] [32])
 .ret))))))⟩

theorem c_Poctet_Reader_Count : compF Tryd.prog 73 = some F_Poctet_Reader_Count := by kernel_rfl
abbrev n_Poctet_Reader_Count : FuncId := 73

def F_utf8_ValidString : IFun :=
⟨169, 1, [.tmp 2],
 (.seq (.reg [⟨(some 2), .mov (.c (.bool false)), none⟩] [])
 (.seq (.block 0 (.loop (.seq (.seq (.reg [⟨(some 7), .mov (.s 0), none⟩,
 ⟨(some 8), .slen (.s 7), none⟩,
 ⟨(some 9), .bin .gtr (.s 8) (.c (.int .i64 0)), none⟩] [7, 8])
 (.cond (.s 9)
 .skip
 (.exit 0)))
 (.block 1 (.seq (.reg [⟨(some 10), .mov (.s 0), none⟩,
 ⟨(some 11), .sidx (.s 10) (.c (.int .i64 0)), none⟩,
 ⟨(some 3), .mov (.s 11), none⟩] [10, 11])
 (.seq (.seq (.reg [⟨(some 12), .mov (.s 3), none⟩,
 ⟨(some 13), .bin .lss (.s 12) (.c (.int .u8 128)), none⟩] [12])
 (.cond (.s 13)
 (.seq (.reg [⟨(some 14), .mov (.s 0), none⟩,
 ⟨(some 15), .sslc (.s 14) (some (.c (.int .i64 1))) none, none⟩,
 ⟨(some 0), .mov (.s 15), none⟩] [14, 15])
 (.seq (.seq (.reg [⟨(some 16), .mov (.s 0), none⟩,
 ⟨(some 17), .slen (.s 16), none⟩,
 ⟨(some 18), .bin .gtr (.s 17) (.c (.int .i64 8)), none⟩,
 ⟨(some 19), .mov (.s 18), none⟩,
 ⟨(some 20), .mov (.s 0), (some (19, true))⟩,
 ⟨(some 21), .call 101 [(.s 20)], (some (19, true))⟩,
 ⟨(some 22), .bin .and (.s 21) (.c (.int .u64 9259542123273814144)), (some (19, true))⟩,
 ⟨(some 23), .bin .eql (.s 22) (.c (.int .u64 0)), (some (19, true))⟩,
 ⟨(some 24), .pick (.s 19) (.s 23) (.c (.bool false)), none⟩] [16, 17, 18, 19, 20, 21, 22, 23])
 (.cond (.s 24)
 (.seq (.reg [⟨(some 25), .mov (.s 0), none⟩,
 ⟨(some 26), .sslc (.s 25) (some (.c (.int .i64 8))) none, none⟩,
 ⟨(some 0), .mov (.s 26), none⟩] [25, 26])
 (.seq (.seq (.reg [⟨(some 27), .mov (.s 0), none⟩] [])
 (.seq (.reg [⟨(some 28), .slen (.s 27), none⟩] [])
 (.seq (.reg [⟨(some 29), .bin .gtr (.s 28) (.c (.int .i64 16)), none⟩] [])
 (.seq (.reg [⟨(some 30), .mov (.s 29), none⟩] [])
 (.seq (.draw [⟨⟨(some 31), .mov (.s 0), (some (30, true))⟩, []⟩,
 ⟨⟨(some 32), .call 101 [(.s 31)], (some (30, true))⟩, [0]⟩,
 ⟨⟨(some 33), .mov (.s 0), (some (30, true))⟩, []⟩,
 ⟨⟨(some 34), .sslc (.s 33) (some (.c (.int .i64 8))) none, (some (30, true))⟩, [2]⟩] [] [])
 (.seq (.reg [⟨(some 35), .call 101 [(.s 34)], (some (30, true))⟩] [])
 (.seq (.reg [⟨(some 36), .bin .or (.s 32) (.s 35), (some (30, true))⟩] [])
 (.seq (.reg [⟨(some 37), .bin .and (.s 36) (.c (.int .u64 9259542123273814144)), (some (30, true))⟩] [])
 (.seq (.reg [⟨(some 38), .bin .eql (.s 37) (.c (.int .u64 0)), (some (30, true))⟩] [])
 (.reg [⟨(some 39), .pick (.s 30) (.s 38) (.c (.bool false)), none⟩] [27, 28, 29, 30, 31, 32, 33, 34, 35, 36, 37, 38]))))))))))
 (.cond (.s 39)
 (.seq (.reg [⟨(some 40), .mov (.s 0), none⟩,
 ⟨(some 41), .sslc (.s 40) (some (.c (.int .i64 16))) none, none⟩,
 ⟨(some 0), .mov (.s 41), none⟩] [40, 41])
 (.block 2 (.loop (.seq (.seq (.seq (.reg [⟨(some 42), .mov (.s 0), none⟩] [])
 (.seq (.reg [⟨(some 43), .slen (.s 42), none⟩] [])
 (.seq (.reg [⟨(some 44), .bin .gtr (.s 43) (.c (.int .i64 32)), none⟩] [])
 (.seq (.reg [⟨(some 45), .mov (.s 44), none⟩] [])
 (.seq (.draw [⟨⟨(some 46), .mov (.s 0), (some (45, true))⟩, []⟩,
 ⟨⟨(some 47), .call 101 [(.s 46)], (some (45, true))⟩, [0]⟩,
 ⟨⟨(some 48), .mov (.s 0), (some (45, true))⟩, []⟩,
 ⟨⟨(some 49), .sslc (.s 48) (some (.c (.int .i64 8))) none, (some (45, true))⟩, [2]⟩,
 ⟨⟨(some 50), .call 101 [(.s 49)], (some (45, true))⟩, [3, 2, 1, 0]⟩,
 ⟨⟨(some 51), .bin .or (.s 47) (.s 50), (some (45, true))⟩, [1, 0, 4, 3, 2]⟩,
 ⟨⟨(some 52), .mov (.s 0), (some (45, true))⟩, []⟩,
 ⟨⟨(some 53), .sslc (.s 52) (some (.c (.int .i64 16))) none, (some (45, true))⟩, [6]⟩,
 ⟨⟨(some 54), .call 101 [(.s 53)], (some (45, true))⟩, [7, 6, 4, 3, 2, 1, 0]⟩,
 ⟨⟨(some 55), .mov (.s 0), (some (45, true))⟩, []⟩,
 ⟨⟨(some 56), .sslc (.s 55) (some (.c (.int .i64 24))) none, (some (45, true))⟩, [9]⟩,
 ⟨⟨(some 57), .call 101 [(.s 56)], (some (45, true))⟩, [10, 9, 8, 7, 6, 4, 3, 2, 1, 0]⟩,
 ⟨⟨(some 58), .bin .or (.s 54) (.s 57), (some (45, true))⟩, [8, 7, 6, 4, 3, 2, 1, 0, 11, 10, 9]⟩] [] [])
 (.seq (.reg [⟨(some 59), .bin .or (.s 51) (.s 58), (some (45, true))⟩] [])
 (.seq (.reg [⟨(some 60), .bin .and (.s 59) (.c (.int .u64 9259542123273814144)), (some (45, true))⟩] [])
 (.seq (.reg [⟨(some 61), .bin .eql (.s 60) (.c (.int .u64 0)), (some (45, true))⟩] [])
 (.reg [⟨(some 62), .pick (.s 45) (.s 61) (.c (.bool false)), none⟩] [42, 43, 44, 45, 46, 47, 48, 49, 50, 51, 52, 53, 54, 55, 56, 57, 58, 59, 60, 61])))))))))
 (.cond (.s 62)
 .skip
 (.exit 2)))
 (.block 3 (.reg [⟨(some 63), .mov (.s 0), none⟩,
 ⟨(some 64), .sslc (.s 63) (some (.c (.int .i64 32))) none, none⟩,
 ⟨(some 0), .mov (.s 64), none⟩] [63, 64]))))))
 .skip)))
 .skip))
 (.exit 1)))
 .skip))
 (.seq (.reg [⟨(some 65), .mov (.s 3), none⟩,
 ⟨(some 66), .aadr 1 256 (.s 1000000) (.s 65), none⟩,
 ⟨(some 67), .load none (.s 66), none⟩,
 ⟨(some 4), .mov (.s 67), none⟩] [65, 66, 67])
 (.seq (.reg [⟨(some 68), .mov (.s 4), none⟩,
 ⟨(some 69), .bin .and (.s 68) (.c (.int .u8 7)), none⟩,
 ⟨(some 70), .cvi .i64 (.s 69), none⟩,
 ⟨(some 5), .mov (.s 70), none⟩] [68, 69, 70])
 (.seq (.reg [⟨(some 71), .mov (.s 4), none⟩,
 ⟨(some 72), .bin .shr (.s 71) (.c (.int .u64 4)), none⟩,
 ⟨(some 73), .aadr 2 16 (.s 1000001) (.s 72), none⟩,
 ⟨(some 74), .load (some 2) (.s 73), none⟩,
 ⟨(some 6), .new 140 [(.int .u8 0), (.int .u8 0)], none⟩,
 ⟨none, .store 2 (.s 6) (.s 74), none⟩] [71, 72, 73, 74])
 (.seq (.reg [⟨(some 75), .mov (.s 5), none⟩] [])
 (.block 4 (.seq (.reg [⟨(some 77), .bin .eql (.s 75) (.c (.int .i64 2)), none⟩,
 ⟨(some 76), .mov (.s 77), none⟩] [77])
 (.cond (.s 76)
 (.seq (.seq (.seq (.reg [⟨(some 78), .mov (.s 0), none⟩] [])
 (.seq (.reg [⟨(some 79), .slen (.s 78), none⟩] [])
 (.seq (.reg [⟨(some 80), .bin .lss (.s 79) (.c (.int .i64 2)), none⟩] [])
 (.seq (.reg [⟨(some 81), .mov (.s 80), none⟩] [])
 (.seq (.draw [⟨⟨(some 82), .mov (.s 0), (some (81, false))⟩, []⟩,
 ⟨⟨(some 83), .sidx (.s 82) (.c (.int .i64 1)), (some (81, false))⟩, [0]⟩,
 ⟨⟨(some 84), .fadr 0 (.s 6), (some (81, false))⟩, []⟩,
 ⟨⟨(some 85), .load none (.s 84), (some (81, false))⟩, [2]⟩] [] [])
 (.seq (.reg [⟨(some 86), .bin .lss (.s 83) (.s 85), (some (81, false))⟩] [])
 (.seq (.reg [⟨(some 87), .pick (.s 81) (.c (.bool true)) (.s 86), none⟩] [])
 (.seq (.reg [⟨(some 88), .mov (.s 87), none⟩] [])
 (.seq (.draw [⟨⟨(some 89), .fadr 1 (.s 6), (some (88, false))⟩, []⟩,
 ⟨⟨(some 90), .load none (.s 89), (some (88, false))⟩, [0]⟩,
 ⟨⟨(some 91), .mov (.s 0), (some (88, false))⟩, []⟩,
 ⟨⟨(some 92), .sidx (.s 91) (.c (.int .i64 1)), (some (88, false))⟩, [2]⟩] [] [])
 (.seq (.reg [⟨(some 93), .bin .lss (.s 90) (.s 92), (some (88, false))⟩] [])
 (.reg [⟨(some 94), .pick (.s 88) (.c (.bool true)) (.s 93), none⟩] [78, 79, 80, 81, 82, 83, 84, 85, 86, 87, 88, 89, 90, 91, 92, 93])))))))))))
 (.cond (.s 94)
 (.seq (.reg [⟨(some 2), .mov (.c (.bool false)), none⟩] [])
 .ret)
 .skip))
 (.reg [⟨(some 95), .mov (.s 0), none⟩,
 ⟨(some 96), .sslc (.s 95) (some (.c (.int .i64 2))) none, none⟩,
 ⟨(some 0), .mov (.s 96), none⟩] [95, 96]))
 (.seq (.reg [⟨(some 98), .bin .eql (.s 75) (.c (.int .i64 3)), none⟩,
 ⟨(some 97), .mov (.s 98), none⟩] [98])
 (.cond (.s 97)
 (.seq (.seq (.seq (.reg [⟨(some 99), .mov (.s 0), none⟩] [])
 (.seq (.reg [⟨(some 100), .slen (.s 99), none⟩] [])
 (.seq (.reg [⟨(some 101), .bin .lss (.s 100) (.c (.int .i64 3)), none⟩] [])
 (.seq (.reg [⟨(some 102), .mov (.s 101), none⟩] [])
 (.seq (.draw [⟨⟨(some 103), .mov (.s 0), (some (102, false))⟩, []⟩,
 ⟨⟨(some 104), .sidx (.s 103) (.c (.int .i64 1)), (some (102, false))⟩, [0]⟩,
 ⟨⟨(some 105), .fadr 0 (.s 6), (some (102, false))⟩, []⟩,
 ⟨⟨(some 106), .load none (.s 105), (some (102, false))⟩, [2]⟩] [] [])
 (.seq (.reg [⟨(some 107), .bin .lss (.s 104) (.s 106), (some (102, false))⟩] [])
 (.seq (.reg [⟨(some 108), .pick (.s 102) (.c (.bool true)) (.s 107), none⟩] [])
 (.seq (.reg [⟨(some 109), .mov (.s 108), none⟩] [])
 (.seq (.draw [⟨⟨(some 110), .fadr 1 (.s 6), (some (109, false))⟩, []⟩,
 ⟨⟨(some 111), .load none (.s 110), (some (109, false))⟩, [0]⟩,
 ⟨⟨(some 112), .mov (.s 0), (some (109, false))⟩, []⟩,
 ⟨⟨(some 113), .sidx (.s 112) (.c (.int .i64 1)), (some (109, false))⟩, [2]⟩] [] [])
 (.seq (.reg [⟨(some 114), .bin .lss (.s 111) (.s 113), (some (109, false))⟩] [])
 (.seq (.reg [⟨(some 115), .pick (.s 109) (.c (.bool true)) (.s 114), none⟩] [])
 (.seq (.reg [⟨(some 116), .mov (.s 115), none⟩] [])
 (.seq (.reg [⟨(some 117), .mov (.s 0), (some (116, false))⟩] [])
 (.seq (.reg [⟨(some 118), .sidx (.s 117) (.c (.int .i64 2)), (some (116, false))⟩] [])
 (.seq (.reg [⟨(some 119), .bin .lss (.s 118) (.c (.int .u8 128)), (some (116, false))⟩] [])
 (.seq (.reg [⟨(some 120), .pick (.s 116) (.c (.bool true)) (.s 119), none⟩] [])
 (.seq (.reg [⟨(some 121), .mov (.s 120), none⟩] [])
 (.seq (.reg [⟨(some 122), .mov (.s 0), (some (121, false))⟩] [])
 (.seq (.reg [⟨(some 123), .sidx (.s 122) (.c (.int .i64 2)), (some (121, false))⟩] [])
 (.seq (.reg [⟨(some 124), .bin .lss (.c (.int .u8 191)) (.s 123), (some (121, false))⟩] [])
 (.reg [⟨(some 125), .pick (.s 121) (.c (.bool true)) (.s 124), none⟩] [99, 100, 101, 102, 103, 104, 105, 106, 107, 108, 109, 110, 111, 112, 113, 114, 115, 116, 117, 118, 119, 120, 121, 122, 123, 124])))))))))))))))))))))
 (.cond (.s 125)
 (.seq (.reg [⟨(some 2), .mov (.c (.bool false)), none⟩] [])
 .ret)
 .skip))
 (.reg [⟨(some 126), .mov (.s 0), none⟩,
 ⟨(some 127), .sslc (.s 126) (some (.c (.int .i64 3))) none, none⟩,
 ⟨(some 0), .mov (.s 127), none⟩] [126, 127]))
 (.seq (.reg [⟨(some 129), .bin .eql (.s 75) (.c (.int .i64 4)), none⟩,
 ⟨(some 128), .mov (.s 129), none⟩] [129])
 (.cond (.s 128)
 (.seq (.seq (.seq (.reg [⟨(some 130), .mov (.s 0), none⟩] [])
 (.seq (.reg [⟨(some 131), .slen (.s 130), none⟩] [])
 (.seq (.reg [⟨(some 132), .bin .lss (.s 131) (.c (.int .i64 4)), none⟩] [])
 (.seq (.reg [⟨(some 133), .mov (.s 132), none⟩] [])
 (.seq (.draw [⟨⟨(some 134), .mov (.s 0), (some (133, false))⟩, []⟩,
 ⟨⟨(some 135), .sidx (.s 134) (.c (.int .i64 1)), (some (133, false))⟩, [0]⟩,
 ⟨⟨(some 136), .fadr 0 (.s 6), (some (133, false))⟩, []⟩,
 ⟨⟨(some 137), .load none (.s 136), (some (133, false))⟩, [2]⟩] [] [])
 (.seq (.reg [⟨(some 138), .bin .lss (.s 135) (.s 137), (some (133, false))⟩] [])
 (.seq (.reg [⟨(some 139), .pick (.s 133) (.c (.bool true)) (.s 138), none⟩] [])
 (.seq (.reg [⟨(some 140), .mov (.s 139), none⟩] [])
 (.seq (.draw [⟨⟨(some 141), .fadr 1 (.s 6), (some (140, false))⟩, []⟩,
 ⟨⟨(some 142), .load none (.s 141), (some (140, false))⟩, [0]⟩,
 ⟨⟨(some 143), .mov (.s 0), (some (140, false))⟩, []⟩,
 ⟨⟨(some 144), .sidx (.s 143) (.c (.int .i64 1)), (some (140, false))⟩, [2]⟩] [] [])
 (.seq (.reg [⟨(some 145), .bin .lss (.s 142) (.s 144), (some (140, false))⟩] [])
 (.seq (.reg [⟨(some 146), .pick (.s 140) (.c (.bool true)) (.s 145), none⟩] [])
 (.seq (.reg [⟨(some 147), .mov (.s 146), none⟩] [])
 (.seq (.reg [⟨(some 148), .mov (.s 0), (some (147, false))⟩] [])
 (.seq (.reg [⟨(some 149), .sidx (.s 148) (.c (.int .i64 2)), (some (147, false))⟩] [])
 (.seq (.reg [⟨(some 150), .bin .lss (.s 149) (.c (.int .u8 128)), (some (147, false))⟩] [])
 (.seq (.reg [⟨(some 151), .pick (.s 147) (.c (.bool true)) (.s 150), none⟩] [])
 (.seq (.reg [⟨(some 152), .mov (.s 151), none⟩] [])
 (.seq (.reg [⟨(some 153), .mov (.s 0), (some (152, false))⟩] [])
 (.seq (.reg [⟨(some 154), .sidx (.s 153) (.c (.int .i64 2)), (some (152, false))⟩] [])
 (.seq (.reg [⟨(some 155), .bin .lss (.c (.int .u8 191)) (.s 154), (some (152, false))⟩] [])
 (.seq (.reg [⟨(some 156), .pick (.s 152) (.c (.bool true)) (.s 155), none⟩] [])
 (.seq (.reg [⟨(some 157), .mov (.s 156), none⟩] [])
 (.seq (.reg [⟨(some 158), .mov (.s 0), (some (157, false))⟩] [])
 (.seq (.reg [⟨(some 159), .sidx (.s 158) (.c (.int .i64 3)), (some (157, false))⟩] [])
 (.seq (.reg [⟨(some 160), .bin .lss (.s 159) (.c (.int .u8 128)), (some (157, false))⟩] [])
 (.seq (.reg [⟨(some 161), .pick (.s 157) (.c (.bool true)) (.s 160), none⟩] [])
 (.seq (.reg [⟨(some 162), .mov (.s 161), none⟩] [])
 (.seq (.reg [⟨(some 163), .mov (.s 0), (some (162, false))⟩] [])
 (.seq (.reg [⟨(some 164), .sidx (.s 163) (.c (.int .i64 3)), (some (162, false))⟩] [])
 (.seq (.reg [⟨(some 165), .bin .lss (.c (.int .u8 191)) (.s 164), (some (162, false))⟩] [])
 (.reg [⟨(some 166), .pick (.s 162) (.c (.bool true)) (.s 165), none⟩] [130, 131, 132, 133, 134, 135, 136, 137, 138, 139, 140, 141, 142, 143, 144, 145, 146, 147, 148, 149, 150, 151, 152, 153, 154, 155, 156, 157, 158, 159, 160, 161, 162, 163, 164, 165])))))))))))))))))))))))))))))))
 (.cond (.s 166)
 (.seq (.reg [⟨(some 2), .mov (.c (.bool false)), none⟩] [])
 .ret)
 .skip))
 (.reg [⟨(some 167), .mov (.s 0), none⟩,
 ⟨(some 168), .sslc (.s 167) (some (.c (.int .i64 4))) none, none⟩,
 ⟨(some 0), .mov (.s 168), none⟩] [167, 168]))
 (.seq (.reg [⟨(some 2), .mov (.c (.bool false)), none⟩] [])
 .ret))))))))))))))))))
 (.seq (.reg [⟨(some 2), .mov (.c (.bool true)), none⟩] [])
 .ret)))⟩

theorem c_utf8_ValidString : compF Tryd.prog 74 = some F_utf8_ValidString := by kernel_rfl
abbrev n_utf8_ValidString : FuncId := 74

def F_Poctet_Reader_S32 : IFun :=
⟨7, 1, [.tmp 2],
 (.seq (.reg [⟨(some 2), .mov (.c (.int .u64 0)), none⟩] [])
 (.seq (.reg [⟨(some 3), .mov (.s 0), none⟩,
 ⟨(some 4), .call 102 [(.s 3), (.c (.int .i64 32))], none⟩,
 ⟨(some 5), .cvi .u32 (.s 4), none⟩,
 ⟨(some 6), .cvi .u64 (.s 5), none⟩,
 ⟨(some 2), .mov (.s 6), none⟩] [3, 4, 5, 6])
 .ret))⟩

theorem c_Poctet_Reader_S32 : compF Tryd.prog 75 = some F_Poctet_Reader_S32 := by kernel_rfl
abbrev n_Poctet_Reader_S32 : FuncId := 75

def F_Poctet_Reader_S33 : IFun :=
⟨5, 1, [.tmp 2],
 (.seq (.reg [⟨(some 2), .mov (.c (.int .i64 0)), none⟩] [])
 (.seq (.reg [⟨(some 3), .mov (.s 0), none⟩,
 ⟨(some 4), .call 102 [(.s 3), (.c (.int .i64 33))], none⟩,
 ⟨(some 2), .mov (.s 4), none⟩] [3, 4])
 .ret))⟩

theorem c_Poctet_Reader_S33 : compF Tryd.prog 76 = some F_Poctet_Reader_S33 := by kernel_rfl
abbrev n_Poctet_Reader_S33 : FuncId := 76

def F_Poctet_Reader_S64 : IFun :=
⟨6, 1, [.tmp 2],
 (.seq (.reg [⟨(some 2), .mov (.c (.int .u64 0)), none⟩] [])
 (.seq (.reg [⟨(some 3), .mov (.s 0), none⟩,
 ⟨(some 4), .call 102 [(.s 3), (.c (.int .i64 64))], none⟩,
 ⟨(some 5), .cvi .u64 (.s 4), none⟩,
 ⟨(some 2), .mov (.s 5), none⟩] [3, 4, 5])
 .ret))⟩

theorem c_Poctet_Reader_S64 : compF Tryd.prog 77 = some F_Poctet_Reader_S64 := by kernel_rfl
abbrev n_Poctet_Reader_S64 : FuncId := 77

def F_ref02_Peek : IFun :=
⟨13, 1, [.tmp 2, .tmp 3],
 (.seq (.reg [⟨(some 1), .box 62 3 (.s 0), none⟩,
 ⟨(some 2), .mov (.c (.int .u8 0)), none⟩,
 ⟨(some 3), .mov (.c (.bool false)), none⟩] [])
 (.seq (.seq (.reg [⟨(some 4), .load (some 3) (.s 1), none⟩,
 ⟨(some 5), .call 79 [(.s 4)], none⟩,
 ⟨(some 6), .bin .eql (.s 5) (.c (.int .i64 0)), none⟩] [4, 5])
 (.cond (.s 6)
 (.seq (.reg [⟨(some 2), .mov (.c (.int .u8 0)), none⟩,
 ⟨(some 3), .mov (.c (.bool false)), none⟩] [])
 .ret)
 .skip))
 (.seq (.reg [⟨(some 7), .fadr 0 (.s 1), none⟩,
 ⟨(some 8), .load none (.s 7), none⟩,
 ⟨(some 9), .fadr 1 (.s 1), none⟩,
 ⟨(some 10), .load none (.s 9), none⟩,
 ⟨(some 11), .iadr 1 (.s 8) (.s 10), none⟩,
 ⟨(some 12), .load none (.s 11), none⟩,
 ⟨(some 2), .mov (.s 12), none⟩,
 ⟨(some 3), .mov (.c (.bool true)), none⟩] [7, 8, 9, 10, 11, 12])
 .ret)))⟩

theorem c_ref02_Peek : compF Tryd.prog 78 = some F_ref02_Peek := by kernel_rfl
abbrev n_ref02_Peek : FuncId := 78

def F_ref02_Left : IFun :=
⟨12, 1, [.tmp 2],
 (.seq (.reg [⟨(some 1), .box 62 3 (.s 0), none⟩,
 ⟨(some 2), .mov (.c (.int .i64 0)), none⟩] [])
 (.seq (.seq (.reg [⟨(some 3), .fadr 2 (.s 1), none⟩,
 ⟨(some 4), .load none (.s 3), none⟩,
 ⟨(some 5), .bin .neq (.s 4) (.c (.int .i64 0)), none⟩] [3, 4])
 (.cond (.s 5)
 (.seq (.reg [⟨(some 2), .mov (.c (.int .i64 0)), none⟩] [])
 .ret)
 .skip))
 (.seq (.reg [⟨(some 6), .fadr 0 (.s 1), none⟩,
 ⟨(some 7), .load none (.s 6), none⟩,
 ⟨(some 8), .len (.s 7), none⟩,
 ⟨(some 9), .fadr 1 (.s 1), none⟩,
 ⟨(some 10), .load none (.s 9), none⟩,
 ⟨(some 11), .bin .sub (.s 8) (.s 10), none⟩,
 ⟨(some 2), .mov (.s 11), none⟩] [6, 7, 8, 9, 10, 11])
 .ret)))⟩

theorem c_ref02_Left : compF Tryd.prog 79 = some F_ref02_Left := by kernel_rfl
abbrev n_ref02_Left : FuncId := 79

def F_ref02_End : IFun :=
⟨13, 1, [.tmp 2],
 (.seq (.reg [⟨(some 1), .box 62 3 (.s 0), none⟩,
 ⟨(some 2), .mov (.c (.int .i64 0)), none⟩] [])
 (.seq (.seq (.reg [⟨(some 3), .fadr 2 (.s 1), none⟩,
 ⟨(some 4), .load none (.s 3), none⟩,
 ⟨(some 5), .bin .eql (.s 4) (.c (.int .i64 0)), none⟩,
 ⟨(some 6), .mov (.s 5), none⟩,
 ⟨(some 7), .load (some 3) (.s 1), (some (6, true))⟩,
 ⟨(some 8), .call 79 [(.s 7)], (some (6, true))⟩,
 ⟨(some 9), .bin .gtr (.s 8) (.c (.int .i64 0)), (some (6, true))⟩,
 ⟨(some 10), .pick (.s 6) (.s 9) (.c (.bool false)), none⟩] [3, 4, 5, 6, 7, 8, 9])
 (.cond (.s 10)
 (.seq (.reg [⟨(some 2), .mov (.c (.int .i64 5)), none⟩] [])
 .ret)
 .skip))
 (.seq (.reg [⟨(some 11), .fadr 2 (.s 1), none⟩,
 ⟨(some 12), .load none (.s 11), none⟩,
 ⟨(some 2), .mov (.s 12), none⟩] [11, 12])
 .ret)))⟩

theorem c_ref02_End : compF Tryd.prog 80 = some F_ref02_End := by kernel_rfl
abbrev n_ref02_End : FuncId := 80

def F_ref02_Byte : IFun :=
⟨19, 1, [.cell 2 (some 3), .tmp 3],
 (.seq (.reg [⟨(some 1), .box 62 3 (.s 0), none⟩,
 ⟨(some 2), .new 62 [.nl, (.int .i64 0), (.int .i64 0)], none⟩,
 ⟨(some 3), .mov (.c (.int .u8 0)), none⟩] [])
 (.seq (.reg [⟨(some 7), .load (some 3) (.s 1), none⟩,
 ⟨(some 8), .call 86 [(.s 7), (.c (.int .i64 1))], none⟩,
 ⟨(some 6), .mov (.s 8), none⟩,
 ⟨(some 9), .ext (.s 6) 0, none⟩,
 ⟨(some 10), .ext (.s 6) 1, none⟩,
 ⟨(some 4), .new 62 [.nl, (.int .i64 0), (.int .i64 0)], none⟩,
 ⟨none, .store 3 (.s 4) (.s 9), none⟩,
 ⟨(some 5), .mov (.s 10), none⟩] [7, 8, 6, 9, 10])
 (.seq (.seq (.reg [⟨(some 11), .mov (.s 5), none⟩,
 ⟨(some 12), .len (.s 11), none⟩,
 ⟨(some 13), .bin .eql (.s 12) (.c (.int .i64 0)), none⟩] [11, 12])
 (.cond (.s 13)
 (.seq (.reg [⟨(some 14), .load (some 3) (.s 4), none⟩,
 ⟨none, .store 3 (.s 2) (.s 14), none⟩,
 ⟨(some 3), .mov (.c (.int .u8 0)), none⟩] [14])
 .ret)
 .skip))
 (.seq (.seq (.draw [⟨⟨(some 15), .load (some 3) (.s 4), none⟩, []⟩,
 ⟨⟨(some 16), .mov (.s 5), none⟩, []⟩,
 ⟨⟨(some 17), .iadr 1 (.s 16) (.c (.int .i64 0)), none⟩, [1]⟩,
 ⟨⟨(some 18), .load none (.s 17), none⟩, [2, 1]⟩,
 ⟨⟨none, .store 3 (.s 2) (.s 15), none⟩, [0]⟩] [] [])
 (.reg [⟨(some 3), .mov (.s 18), none⟩] [15, 16, 17, 18]))
 .ret))))⟩

theorem c_ref02_Byte : compF Tryd.prog 81 = some F_ref02_Byte := by kernel_rfl
abbrev n_ref02_Byte : FuncId := 81

def F_ref02_U32 : IFun :=
⟨14, 1, [.cell 2 (some 3), .tmp 3],
 (.seq (.reg [⟨(some 1), .box 62 3 (.s 0), none⟩,
 ⟨(some 2), .new 62 [.nl, (.int .i64 0), (.int .i64 0)], none⟩,
 ⟨(some 3), .mov (.c (.int .i64 0)), none⟩] [])
 (.seq (.reg [⟨(some 7), .load (some 3) (.s 1), none⟩,
 ⟨(some 8), .call 103 [(.s 7), (.c (.int .i64 32))], none⟩,
 ⟨(some 6), .mov (.s 8), none⟩,
 ⟨(some 9), .ext (.s 6) 0, none⟩,
 ⟨(some 10), .ext (.s 6) 1, none⟩,
 ⟨(some 4), .new 62 [.nl, (.int .i64 0), (.int .i64 0)], none⟩,
 ⟨none, .store 3 (.s 4) (.s 9), none⟩,
 ⟨(some 5), .mov (.s 10), none⟩] [7, 8, 6, 9, 10])
 (.seq (.reg [⟨(some 11), .load (some 3) (.s 4), none⟩,
 ⟨(some 12), .mov (.s 5), none⟩,
 ⟨(some 13), .cvi .i64 (.s 12), none⟩,
 ⟨none, .store 3 (.s 2) (.s 11), none⟩,
 ⟨(some 3), .mov (.s 13), none⟩] [11, 12, 13])
 .ret)))⟩

theorem c_ref02_U32 : compF Tryd.prog 82 = some F_ref02_U32 := by kernel_rfl
abbrev n_ref02_U32 : FuncId := 82

def F_ref02_S32 : IFun :=
⟨15, 1, [.cell 2 (some 3), .tmp 3],
 (.seq (.reg [⟨(some 1), .box 62 3 (.s 0), none⟩,
 ⟨(some 2), .new 62 [.nl, (.int .i64 0), (.int .i64 0)], none⟩,
 ⟨(some 3), .mov (.c (.int .u64 0)), none⟩] [])
 (.seq (.reg [⟨(some 7), .load (some 3) (.s 1), none⟩,
 ⟨(some 8), .call 104 [(.s 7), (.c (.int .i64 32))], none⟩,
 ⟨(some 6), .mov (.s 8), none⟩,
 ⟨(some 9), .ext (.s 6) 0, none⟩,
 ⟨(some 10), .ext (.s 6) 1, none⟩,
 ⟨(some 4), .new 62 [.nl, (.int .i64 0), (.int .i64 0)], none⟩,
 ⟨none, .store 3 (.s 4) (.s 9), none⟩,
 ⟨(some 5), .mov (.s 10), none⟩] [7, 8, 6, 9, 10])
 (.seq (.reg [⟨(some 11), .load (some 3) (.s 4), none⟩,
 ⟨(some 12), .mov (.s 5), none⟩,
 ⟨(some 13), .cvi .u32 (.s 12), none⟩,
 ⟨(some 14), .cvi .u64 (.s 13), none⟩,
 ⟨none, .store 3 (.s 2) (.s 11), none⟩,
 ⟨(some 3), .mov (.s 14), none⟩] [11, 12, 13, 14])
 .ret)))⟩

theorem c_ref02_S32 : compF Tryd.prog 83 = some F_ref02_S32 := by kernel_rfl
abbrev n_ref02_S32 : FuncId := 83

def F_ref02_S33 : IFun :=
⟨8, 1, [.cell 2 (some 3), .tmp 3],
 (.seq (.reg [⟨(some 1), .box 62 3 (.s 0), none⟩,
 ⟨(some 2), .new 62 [.nl, (.int .i64 0), (.int .i64 0)], none⟩,
 ⟨(some 3), .mov (.c (.int .i64 0)), none⟩] [])
 (.seq (.reg [⟨(some 4), .load (some 3) (.s 1), none⟩,
 ⟨(some 5), .call 104 [(.s 4), (.c (.int .i64 33))], none⟩,
 ⟨(some 6), .ext (.s 5) 0, none⟩,
 ⟨(some 7), .ext (.s 5) 1, none⟩,
 ⟨none, .store 3 (.s 2) (.s 6), none⟩,
 ⟨(some 3), .mov (.s 7), none⟩] [4, 5, 6, 7])
 .ret))⟩

theorem c_ref02_S33 : compF Tryd.prog 84 = some F_ref02_S33 := by kernel_rfl
abbrev n_ref02_S33 : FuncId := 84

def F_ref02_S64 : IFun :=
⟨14, 1, [.cell 2 (some 3), .tmp 3],
 (.seq (.reg [⟨(some 1), .box 62 3 (.s 0), none⟩,
 ⟨(some 2), .new 62 [.nl, (.int .i64 0), (.int .i64 0)], none⟩,
 ⟨(some 3), .mov (.c (.int .u64 0)), none⟩] [])
 (.seq (.reg [⟨(some 7), .load (some 3) (.s 1), none⟩,
 ⟨(some 8), .call 104 [(.s 7), (.c (.int .i64 64))], none⟩,
 ⟨(some 6), .mov (.s 8), none⟩,
 ⟨(some 9), .ext (.s 6) 0, none⟩,
 ⟨(some 10), .ext (.s 6) 1, none⟩,
 ⟨(some 4), .new 62 [.nl, (.int .i64 0), (.int .i64 0)], none⟩,
 ⟨none, .store 3 (.s 4) (.s 9), none⟩,
 ⟨(some 5), .mov (.s 10), none⟩] [7, 8, 6, 9, 10])
 (.seq (.reg [⟨(some 11), .load (some 3) (.s 4), none⟩,
 ⟨(some 12), .mov (.s 5), none⟩,
 ⟨(some 13), .cvi .u64 (.s 12), none⟩,
 ⟨none, .store 3 (.s 2) (.s 11), none⟩,
 ⟨(some 3), .mov (.s 13), none⟩] [11, 12, 13])
 .ret)))⟩

theorem c_ref02_S64 : compF Tryd.prog 85 = some F_ref02_S64 := by kernel_rfl
abbrev n_ref02_S64 : FuncId := 85

def F_ref02_Take : IFun :=
⟨42, 2, [.cell 4 (some 3), .tmp 5],
 (.seq (.reg [⟨(some 2), .box 62 3 (.s 0), none⟩,
 ⟨(some 4), .new 62 [.nl, (.int .i64 0), (.int .i64 0)], none⟩,
 ⟨(some 5), .mov (.c .nl), none⟩] [])
 (.seq (.block 0 (.seq (.reg [⟨(some 8), .fadr 2 (.s 2), none⟩,
 ⟨(some 9), .load none (.s 8), none⟩,
 ⟨(some 10), .bin .neq (.s 9) (.c (.int .i64 0)), none⟩,
 ⟨(some 7), .mov (.s 10), none⟩] [8, 9, 10])
 (.cond (.s 7)
 (.seq (.reg [⟨(some 11), .load (some 3) (.s 2), none⟩,
 ⟨none, .store 3 (.s 4) (.s 11), none⟩,
 ⟨(some 5), .mov (.c .nl), none⟩] [11])
 .ret)
 (.seq (.reg [⟨(some 13), .mov (.s 1), none⟩,
 ⟨(some 14), .bin .lss (.s 13) (.c (.int .i64 0)), none⟩,
 ⟨(some 12), .mov (.s 14), none⟩] [13, 14])
 (.cond (.s 12)
 (.seq (.reg [⟨(some 15), .load (some 3) (.s 2), none⟩,
 ⟨(some 16), .call 90 [(.s 15), (.c (.int .i64 1))], none⟩,
 ⟨none, .store 3 (.s 4) (.s 16), none⟩,
 ⟨(some 5), .mov (.c .nl), none⟩] [15, 16])
 .ret)
 (.seq (.reg [⟨(some 18), .mov (.s 1), none⟩,
 ⟨(some 19), .load (some 3) (.s 2), none⟩,
 ⟨(some 20), .call 79 [(.s 19)], none⟩,
 ⟨(some 21), .bin .gtr (.s 18) (.s 20), none⟩,
 ⟨(some 17), .mov (.s 21), none⟩] [18, 19, 20, 21])
 (.cond (.s 17)
 (.seq (.reg [⟨(some 22), .load (some 3) (.s 2), none⟩,
 ⟨(some 23), .call 90 [(.s 22), (.c (.int .i64 3))], none⟩,
 ⟨none, .store 3 (.s 4) (.s 23), none⟩,
 ⟨(some 5), .mov (.c .nl), none⟩] [22, 23])
 .ret)
 .skip)))))))
 (.seq (.reg [⟨(some 24), .bsl 5 1 [] [], none⟩,
 ⟨(some 25), .fadr 0 (.s 2), none⟩,
 ⟨(some 26), .load none (.s 25), none⟩,
 ⟨(some 27), .fadr 1 (.s 2), none⟩,
 ⟨(some 28), .load none (.s 27), none⟩,
 ⟨(some 29), .fadr 1 (.s 2), none⟩,
 ⟨(some 30), .load none (.s 29), none⟩,
 ⟨(some 31), .mov (.s 1), none⟩,
 ⟨(some 32), .bin .add (.s 30) (.s 31), none⟩,
 ⟨(some 33), .slc 1 (.s 26) (some (.s 28)) (some (.s 32)) none, none⟩,
 ⟨(some 34), .app 5 1 (.s 24) (.s 33), none⟩,
 ⟨(some 6), .mov (.s 34), none⟩] [24, 25, 26, 27, 28, 29, 30, 31, 32, 33, 34])
 (.seq (.reg [⟨(some 35), .fadr 1 (.s 2), none⟩,
 ⟨(some 36), .load none (.s 35), none⟩,
 ⟨(some 37), .mov (.s 1), none⟩,
 ⟨(some 38), .bin .add (.s 36) (.s 37), none⟩,
 ⟨(some 39), .fadr 1 (.s 2), none⟩,
 ⟨none, .store 1 (.s 39) (.s 38), none⟩] [35, 36, 37, 38, 39])
 (.seq (.reg [⟨(some 40), .load (some 3) (.s 2), none⟩,
 ⟨(some 41), .mov (.s 6), none⟩,
 ⟨none, .store 3 (.s 4) (.s 40), none⟩,
 ⟨(some 5), .mov (.s 41), none⟩] [40, 41])
 .ret)))))⟩

theorem c_ref02_Take : compF Tryd.prog 86 = some F_ref02_Take := by kernel_rfl
abbrev n_ref02_Take : FuncId := 86

def F_ref02_Name : IFun :=
⟨37, 1, [.cell 2 (some 3), .tmp 3],
 (.seq (.reg [⟨(some 1), .box 62 3 (.s 0), none⟩,
 ⟨(some 2), .new 62 [.nl, (.int .i64 0), (.int .i64 0)], none⟩,
 ⟨(some 3), .mov (.c (.str [])), none⟩] [])
 (.seq (.reg [⟨(some 8), .load (some 3) (.s 1), none⟩,
 ⟨(some 9), .call 88 [(.s 8), (.c (.int .i64 64))], none⟩,
 ⟨(some 7), .mov (.s 9), none⟩,
 ⟨(some 10), .ext (.s 7) 0, none⟩,
 ⟨(some 11), .ext (.s 7) 1, none⟩,
 ⟨(some 4), .new 62 [.nl, (.int .i64 0), (.int .i64 0)], none⟩,
 ⟨none, .store 3 (.s 4) (.s 10), none⟩,
 ⟨(some 5), .mov (.s 11), none⟩] [8, 9, 7, 10, 11])
 (.seq (.reg [⟨(some 13), .load (some 3) (.s 4), none⟩,
 ⟨(some 14), .mov (.s 5), none⟩,
 ⟨(some 15), .call 86 [(.s 13), (.s 14)], none⟩,
 ⟨(some 12), .mov (.s 15), none⟩,
 ⟨(some 16), .ext (.s 12) 0, none⟩,
 ⟨(some 17), .ext (.s 12) 1, none⟩,
 ⟨none, .store 3 (.s 4) (.s 16), none⟩,
 ⟨(some 6), .mov (.s 17), none⟩] [13, 14, 15, 12, 16, 17])
 (.seq (.seq (.reg [⟨(some 18), .fadr 2 (.s 4), none⟩,
 ⟨(some 19), .load none (.s 18), none⟩,
 ⟨(some 20), .bin .eql (.s 19) (.c (.int .i64 0)), none⟩,
 ⟨(some 21), .mov (.s 20), none⟩,
 ⟨(some 22), .mov (.s 6), (some (21, true))⟩,
 ⟨(some 23), .call 105 [(.s 22)], (some (21, true))⟩,
 ⟨(some 24), .un .not (.s 23), (some (21, true))⟩,
 ⟨(some 25), .pick (.s 21) (.s 24) (.c (.bool false)), none⟩] [18, 19, 20, 21, 22, 23, 24])
 (.cond (.s 25)
 (.reg [⟨(some 26), .fadr 2 (.s 4), none⟩,
 ⟨none, .store 1 (.s 26) (.c (.int .i64 9)), none⟩] [26])
 .skip))
 (.seq (.seq (.reg [⟨(some 27), .fadr 2 (.s 4), none⟩,
 ⟨(some 28), .load none (.s 27), none⟩,
 ⟨(some 29), .bin .neq (.s 28) (.c (.int .i64 0)), none⟩] [27, 28])
 (.cond (.s 29)
 (.seq (.reg [⟨(some 30), .load (some 3) (.s 1), none⟩,
 ⟨(some 31), .fadr 2 (.s 4), none⟩,
 ⟨(some 32), .load none (.s 31), none⟩,
 ⟨(some 33), .call 90 [(.s 30), (.s 32)], none⟩,
 ⟨none, .store 3 (.s 2) (.s 33), none⟩,
 ⟨(some 3), .mov (.c (.str [])), none⟩] [30, 31, 32, 33])
 .ret)
 .skip))
 (.seq (.seq (.draw [⟨⟨(some 34), .load (some 3) (.s 4), none⟩, []⟩,
 ⟨⟨(some 35), .mov (.s 6), none⟩, []⟩,
 ⟨⟨(some 36), .cvs (.s 35), none⟩, [1]⟩,
 ⟨⟨none, .store 3 (.s 2) (.s 34), none⟩, [0]⟩] [] [])
 (.reg [⟨(some 3), .mov (.s 36), none⟩] [34, 35, 36]))
 .ret))))))⟩

theorem c_ref02_Name : compF Tryd.prog 87 = some F_ref02_Name := by kernel_rfl
abbrev n_ref02_Name : FuncId := 87

def F_ref02_Count : IFun :=
⟨25, 2, [.cell 4 (some 3), .tmp 5],
 (.seq (.reg [⟨(some 2), .box 62 3 (.s 0), none⟩,
 ⟨(some 4), .new 62 [.nl, (.int .i64 0), (.int .i64 0)], none⟩,
 ⟨(some 5), .mov (.c (.int .i64 0)), none⟩] [])
 (.seq (.reg [⟨(some 9), .load (some 3) (.s 2), none⟩,
 ⟨(some 10), .call 82 [(.s 9)], none⟩,
 ⟨(some 8), .mov (.s 10), none⟩,
 ⟨(some 11), .ext (.s 8) 0, none⟩,
 ⟨(some 12), .ext (.s 8) 1, none⟩,
 ⟨(some 6), .new 62 [.nl, (.int .i64 0), (.int .i64 0)], none⟩,
 ⟨none, .store 3 (.s 6) (.s 11), none⟩,
 ⟨(some 7), .mov (.s 12), none⟩] [9, 10, 8, 11, 12])
 (.seq (.seq (.reg [⟨(some 13), .fadr 2 (.s 6), none⟩,
 ⟨(some 14), .load none (.s 13), none⟩,
 ⟨(some 15), .bin .eql (.s 14) (.c (.int .i64 0)), none⟩,
 ⟨(some 16), .mov (.s 15), none⟩,
 ⟨(some 17), .mov (.s 7), (some (16, true))⟩,
 ⟨(some 18), .mov (.s 1), (some (16, true))⟩,
 ⟨(some 19), .bin .gtr (.s 17) (.s 18), (some (16, true))⟩,
 ⟨(some 20), .pick (.s 16) (.s 19) (.c (.bool false)), none⟩] [13, 14, 15, 16, 17, 18, 19])
 (.cond (.s 20)
 (.seq (.reg [⟨(some 21), .load (some 3) (.s 2), none⟩,
 ⟨(some 22), .call 90 [(.s 21), (.c (.int .i64 6))], none⟩,
 ⟨none, .store 3 (.s 4) (.s 22), none⟩,
 ⟨(some 5), .mov (.c (.int .i64 0)), none⟩] [21, 22])
 .ret)
 .skip))
 (.seq (.reg [⟨(some 23), .load (some 3) (.s 6), none⟩,
 ⟨(some 24), .mov (.s 7), none⟩,
 ⟨none, .store 3 (.s 4) (.s 23), none⟩,
 ⟨(some 5), .mov (.s 24), none⟩] [23, 24])
 .ret))))⟩

theorem c_ref02_Count : compF Tryd.prog 88 = some F_ref02_Count := by kernel_rfl
abbrev n_ref02_Count : FuncId := 88

def F_ref02_Sub : IFun :=
⟨19, 2, [.cell 4 (some 3), .cell 5 (some 3)],
 (.seq (.reg [⟨(some 2), .box 62 3 (.s 0), none⟩,
 ⟨(some 4), .new 62 [.nl, (.int .i64 0), (.int .i64 0)], none⟩,
 ⟨(some 5), .new 62 [.nl, (.int .i64 0), (.int .i64 0)], none⟩] [])
 (.seq (.reg [⟨(some 9), .load (some 3) (.s 2), none⟩,
 ⟨(some 10), .mov (.s 1), none⟩,
 ⟨(some 11), .call 86 [(.s 9), (.s 10)], none⟩,
 ⟨(some 8), .mov (.s 11), none⟩,
 ⟨(some 12), .ext (.s 8) 0, none⟩,
 ⟨(some 13), .ext (.s 8) 1, none⟩,
 ⟨(some 6), .new 62 [.nl, (.int .i64 0), (.int .i64 0)], none⟩,
 ⟨none, .store 3 (.s 6) (.s 12), none⟩,
 ⟨(some 7), .mov (.s 13), none⟩] [9, 10, 11, 8, 12, 13])
 (.seq (.seq (.draw [⟨⟨(some 14), .load (some 3) (.s 6), none⟩, []⟩,
 ⟨⟨(some 15), .mov (.s 7), none⟩, []⟩,
 ⟨⟨(some 16), .fadr 2 (.s 6), none⟩, []⟩,
 ⟨⟨(some 17), .load none (.s 16), none⟩, [2]⟩,
 ⟨⟨(some 18), .build [.nl, (.int .i64 0), (.int .i64 0)] [(0, 1, (.s 15)), (2, 1, (.s 17))], none⟩, [1, 3, 2]⟩,
 ⟨⟨none, .store 3 (.s 4) (.s 14), none⟩, [0]⟩] [] [])
 (.reg [⟨none, .store 3 (.s 5) (.s 18), none⟩] [14, 15, 16, 17, 18]))
 .ret)))⟩

theorem c_ref02_Sub : compF Tryd.prog 89 = some F_ref02_Sub := by kernel_rfl
abbrev n_ref02_Sub : FuncId := 89

def F_ref02_Fail : IFun :=
⟨11, 2, [.cell 4 (some 3)],
 (.seq (.reg [⟨(some 2), .box 62 3 (.s 0), none⟩,
 ⟨(some 4), .new 62 [.nl, (.int .i64 0), (.int .i64 0)], none⟩] [])
 (.seq (.seq (.reg [⟨(some 5), .fadr 2 (.s 2), none⟩,
 ⟨(some 6), .load none (.s 5), none⟩,
 ⟨(some 7), .bin .eql (.s 6) (.c (.int .i64 0)), none⟩] [5, 6])
 (.cond (.s 7)
 (.reg [⟨(some 8), .mov (.s 1), none⟩,
 ⟨(some 9), .fadr 2 (.s 2), none⟩,
 ⟨none, .store 1 (.s 9) (.s 8), none⟩] [8, 9])
 .skip))
 (.seq (.reg [⟨(some 10), .load (some 3) (.s 2), none⟩,
 ⟨none, .store 3 (.s 4) (.s 10), none⟩] [10])
 .ret)))⟩

theorem c_ref02_Fail : compF Tryd.prog 90 = some F_ref02_Fail := by kernel_rfl
abbrev n_ref02_Fail : FuncId := 90

def F_section_rises : IFun :=
⟨16, 2, [.tmp 4, .tmp 5],
 (.seq (.reg [⟨(some 4), .mov (.c (.int .i64 0)), none⟩,
 ⟨(some 5), .mov (.c (.bool false)), none⟩] [])
 (.seq (.seq (.reg [⟨(some 7), .mov (.s 0), none⟩,
 ⟨(some 8), .bin .eql (.s 7) (.c (.int .i64 0)), none⟩] [7])
 (.cond (.s 8)
 (.seq (.reg [⟨(some 9), .mov (.s 1), none⟩,
 ⟨(some 4), .mov (.s 9), none⟩,
 ⟨(some 5), .mov (.c (.bool true)), none⟩] [9])
 .ret)
 .skip))
 (.seq (.reg [⟨(some 10), .mov (.s 0), none⟩,
 ⟨(some 11), .call 44 [(.s 10)], none⟩,
 ⟨(some 6), .mov (.s 11), none⟩] [10, 11])
 (.seq (.reg [⟨(some 12), .mov (.s 6), none⟩,
 ⟨(some 13), .mov (.s 6), none⟩,
 ⟨(some 14), .mov (.s 1), none⟩,
 ⟨(some 15), .bin .gtr (.s 13) (.s 14), none⟩,
 ⟨(some 4), .mov (.s 12), none⟩,
 ⟨(some 5), .mov (.s 15), none⟩] [12, 13, 14, 15])
 .ret))))⟩

theorem c_section_rises : compF Tryd.prog 91 = some F_section_rises := by kernel_rfl
abbrev n_section_rises : FuncId := 91

def F_ref12_head : IFun :=
⟨2, 0, [.tmp 0],
 (.seq (.reg [⟨(some 0), .mov (.c .nl), none⟩] [])
 (.seq (.reg [⟨(some 1), .bsl 5 1 [[(.int .u8 0)], [(.int .u8 0)], [(.int .u8 0)], [(.int .u8 0)], [(.int .u8 0)], [(.int .u8 0)], [(.int .u8 0)], [(.int .u8 0)]] [(0, (.c (.int .u8 0))), (1, (.c (.int .u8 97))), (2, (.c (.int .u8 115))), (3, (.c (.int .u8 109))), (4, (.c (.int .u8 1))), (5, (.c (.int .u8 0))), (6, (.c (.int .u8 0))), (7, (.c (.int .u8 0)))], none⟩,
 ⟨(some 0), .mov (.s 1), none⟩] [1])
 .ret))⟩

theorem c_ref12_head : compF Tryd.prog 92 = some F_ref12_head := by kernel_rfl
abbrev n_ref12_head : FuncId := 92

def F_strings_IndexByte : IFun :=
⟨8, 2, [.tmp 4],
 (.seq (.reg [⟨(some 4), .mov (.c (.int .i64 0)), none⟩] [])
 (.seq (.reg [⟨(some 5), .mov (.s 0), none⟩,
 ⟨(some 6), .mov (.s 1), none⟩,
 ⟨(some 7), .call 106 [(.s 5), (.s 6)], none⟩,
 ⟨(some 4), .mov (.s 7), none⟩] [5, 6, 7])
 .ret))⟩

theorem c_strings_IndexByte : compF Tryd.prog 93 = some F_strings_IndexByte := by kernel_rfl
abbrev n_strings_IndexByte : FuncId := 93

def F_section_part : IFun :=
⟨37, 2, [.cell 4 (some 3), .tmp 5],
 (.seq (.reg [⟨(some 4), .new 123 [(.int .i64 0), (.str []), .nl], none⟩,
 ⟨(some 5), .mov (.c (.int .i64 0)), none⟩] [])
 (.seq (.reg [⟨(some 9), .mov (.s 0), none⟩,
 ⟨(some 10), .build [(.int .i64 0), (.str []), .nl] [(0, 1, (.s 9))], none⟩,
 ⟨(some 6), .new 123 [(.int .i64 0), (.str []), .nl], none⟩,
 ⟨none, .store 3 (.s 6) (.s 10), none⟩] [9, 10])
 (.seq (.seq (.reg [⟨(some 11), .mov (.s 0), none⟩,
 ⟨(some 12), .bin .eql (.s 11) (.c (.int .i64 0)), none⟩] [11])
 (.cond (.s 12)
 (.seq (.reg [⟨(some 13), .mov (.s 1), none⟩,
 ⟨(some 14), .call 15 [(.s 13)], none⟩,
 ⟨(some 7), .mov (.s 14), none⟩] [13, 14])
 (.seq (.reg [⟨(some 15), .mov (.s 7), none⟩,
 ⟨(some 16), .call 33 [(.s 15)], none⟩,
 ⟨(some 17), .fadr 1 (.s 6), none⟩,
 ⟨none, .store 1 (.s 17) (.s 16), none⟩] [15, 16, 17])
 (.seq (.seq (.reg [⟨(some 18), .mov (.s 7), none⟩,
 ⟨(some 19), .call 26 [(.s 18)], none⟩,
 ⟨(some 8), .mov (.s 19), none⟩] [18, 19])
 (.seq (.reg [⟨(some 20), .mov (.s 8), none⟩,
 ⟨(some 21), .bin .neq (.s 20) (.c (.int .i64 0)), none⟩] [20])
 (.cond (.s 21)
 (.seq (.reg [⟨(some 22), .build [(.int .i64 0), (.str []), .nl] [], none⟩,
 ⟨(some 23), .mov (.s 8), none⟩,
 ⟨none, .store 3 (.s 4) (.s 22), none⟩,
 ⟨(some 5), .mov (.s 23), none⟩] [22, 23])
 .ret)
 .skip)))
 (.reg [⟨(some 24), .mov (.s 1), none⟩,
 ⟨(some 25), .mov (.s 7), none⟩,
 ⟨(some 26), .call 27 [(.s 25)], none⟩,
 ⟨(some 27), .slc 1 (.s 24) (some (.s 26)) none none, none⟩,
 ⟨(some 1), .mov (.s 27), none⟩] [24, 25, 26, 27]))))
 .skip))
 (.seq (.reg [⟨(some 28), .mov (.s 1), none⟩,
 ⟨(some 29), .len (.s 28), none⟩,
 ⟨(some 30), .mks 5 1 [(.int .u8 0)] (.s 29) (.s 29), none⟩,
 ⟨(some 31), .fadr 2 (.s 6), none⟩,
 ⟨none, .store 1 (.s 31) (.s 30), none⟩] [28, 29, 30, 31])
 (.seq (.reg [⟨(some 32), .fadr 2 (.s 6), none⟩,
 ⟨(some 33), .load none (.s 32), none⟩,
 ⟨(some 34), .mov (.s 1), none⟩,
 ⟨(some 35), .cpy 1 (.s 33) (.s 34), none⟩] [32, 33, 34, 35])
 (.seq (.reg [⟨(some 36), .load (some 3) (.s 6), none⟩,
 ⟨none, .store 3 (.s 4) (.s 36), none⟩,
 ⟨(some 5), .mov (.c (.int .i64 0)), none⟩] [36])
 .ret))))))⟩

theorem c_section_part : compF Tryd.prog 94 = some F_section_part := by kernel_rfl
abbrev n_section_part : FuncId := 94

def F_ref12_one : IFun :=
⟨86, 2, [.cell 4 (some 3), .tmp 5, .tmp 6],
 (.seq (.reg [⟨(some 4), .new 122 [(.int .i64 0), (.str []), .nl], none⟩,
 ⟨(some 5), .mov (.c .nl), none⟩,
 ⟨(some 6), .mov (.c (.int .i64 0)), none⟩] [])
 (.seq (.reg [⟨(some 14), .mov (.s 0), none⟩,
 ⟨(some 15), .call 36 [(.s 14)], none⟩,
 ⟨(some 7), .new 62 [.nl, (.int .i64 0), (.int .i64 0)], none⟩,
 ⟨none, .store 3 (.s 7) (.s 15), none⟩] [14, 15])
 (.seq (.reg [⟨(some 17), .load (some 3) (.s 7), none⟩,
 ⟨(some 18), .call 81 [(.s 17)], none⟩,
 ⟨(some 16), .mov (.s 18), none⟩,
 ⟨(some 19), .ext (.s 16) 0, none⟩,
 ⟨(some 20), .ext (.s 16) 1, none⟩,
 ⟨none, .store 3 (.s 7) (.s 19), none⟩,
 ⟨(some 8), .mov (.s 20), none⟩] [17, 18, 16, 19, 20])
 (.seq (.seq (.reg [⟨(some 21), .fadr 2 (.s 7), none⟩,
 ⟨(some 22), .load none (.s 21), none⟩,
 ⟨(some 23), .bin .eql (.s 22) (.c (.int .i64 0)), none⟩,
 ⟨(some 24), .mov (.s 23), none⟩,
 ⟨(some 25), .mov (.s 8), (some (24, true))⟩,
 ⟨(some 26), .bin .gtr (.s 25) (.c (.int .u8 12)), (some (24, true))⟩,
 ⟨(some 27), .pick (.s 24) (.s 26) (.c (.bool false)), none⟩] [21, 22, 23, 24, 25, 26])
 (.cond (.s 27)
 (.seq (.reg [⟨(some 28), .build [(.int .i64 0), (.str []), .nl] [], none⟩,
 ⟨none, .store 3 (.s 4) (.s 28), none⟩,
 ⟨(some 5), .mov (.c .nl), none⟩,
 ⟨(some 6), .mov (.c (.int .i64 4)), none⟩] [28])
 .ret)
 .skip))
 (.seq (.reg [⟨(some 30), .load (some 3) (.s 7), none⟩,
 ⟨(some 31), .call 82 [(.s 30)], none⟩,
 ⟨(some 29), .mov (.s 31), none⟩,
 ⟨(some 32), .ext (.s 29) 0, none⟩,
 ⟨(some 33), .ext (.s 29) 1, none⟩,
 ⟨none, .store 3 (.s 7) (.s 32), none⟩,
 ⟨(some 9), .mov (.s 33), none⟩] [30, 31, 29, 32, 33])
 (.seq (.reg [⟨(some 35), .load (some 3) (.s 7), none⟩,
 ⟨(some 36), .mov (.s 9), none⟩,
 ⟨(some 37), .call 86 [(.s 35), (.s 36)], none⟩,
 ⟨(some 34), .mov (.s 37), none⟩,
 ⟨(some 38), .ext (.s 34) 0, none⟩,
 ⟨(some 39), .ext (.s 34) 1, none⟩,
 ⟨none, .store 3 (.s 7) (.s 38), none⟩,
 ⟨(some 10), .mov (.s 39), none⟩] [35, 36, 37, 34, 38, 39])
 (.seq (.seq (.reg [⟨(some 40), .fadr 2 (.s 7), none⟩,
 ⟨(some 41), .load none (.s 40), none⟩,
 ⟨(some 42), .bin .neq (.s 41) (.c (.int .i64 0)), none⟩] [40, 41])
 (.cond (.s 42)
 (.seq (.seq (.draw [⟨⟨(some 43), .build [(.int .i64 0), (.str []), .nl] [], none⟩, []⟩,
 ⟨⟨(some 44), .fadr 2 (.s 7), none⟩, []⟩,
 ⟨⟨(some 45), .load none (.s 44), none⟩, [1]⟩,
 ⟨⟨none, .store 3 (.s 4) (.s 43), none⟩, [0]⟩,
 ⟨⟨(some 5), .mov (.c .nl), none⟩, [3, 0]⟩] [] [])
 (.reg [⟨(some 6), .mov (.s 45), none⟩] [43, 44, 45]))
 .ret)
 .skip))
 (.seq (.reg [⟨(some 46), .mov (.s 8), none⟩,
 ⟨(some 47), .cvi .i64 (.s 46), none⟩,
 ⟨(some 48), .mov (.s 10), none⟩,
 ⟨(some 49), .build [(.int .i64 0), (.str []), .nl] [(0, 1, (.s 47)), (2, 1, (.s 48))], none⟩,
 ⟨(some 11), .new 122 [(.int .i64 0), (.str []), .nl], none⟩,
 ⟨none, .store 3 (.s 11) (.s 49), none⟩] [46, 47, 48, 49])
 (.seq (.seq (.reg [⟨(some 50), .mov (.s 8), none⟩,
 ⟨(some 51), .bin .neq (.s 50) (.c (.int .u8 0)), none⟩,
 ⟨(some 52), .mov (.s 51), none⟩,
 ⟨(some 53), .mov (.s 8), (some (52, true))⟩,
 ⟨(some 54), .cvi .i64 (.s 53), (some (52, true))⟩,
 ⟨(some 55), .call 46 [(.s 54)], (some (52, true))⟩,
 ⟨(some 56), .mov (.s 1), (some (52, true))⟩,
 ⟨(some 57), .bin .leq (.s 55) (.s 56), (some (52, true))⟩,
 ⟨(some 58), .pick (.s 52) (.s 57) (.c (.bool false)), none⟩] [50, 51, 52, 53, 54, 55, 56, 57])
 (.cond (.s 58)
 (.seq (.reg [⟨(some 59), .build [(.int .i64 0), (.str []), .nl] [], none⟩,
 ⟨none, .store 3 (.s 4) (.s 59), none⟩,
 ⟨(some 5), .mov (.c .nl), none⟩,
 ⟨(some 6), .mov (.c (.int .i64 7)), none⟩] [59])
 .ret)
 .skip))
 (.seq (.seq (.reg [⟨(some 60), .mov (.s 8), none⟩,
 ⟨(some 61), .bin .eql (.s 60) (.c (.int .u8 0)), none⟩] [60])
 (.cond (.s 61)
 (.seq (.reg [⟨(some 63), .mov (.s 10), none⟩,
 ⟨(some 64), .call 36 [(.s 63)], none⟩,
 ⟨(some 65), .call 87 [(.s 64)], none⟩,
 ⟨(some 62), .mov (.s 65), none⟩,
 ⟨(some 66), .ext (.s 62) 0, none⟩,
 ⟨(some 67), .ext (.s 62) 1, none⟩,
 ⟨(some 12), .new 62 [.nl, (.int .i64 0), (.int .i64 0)], none⟩,
 ⟨none, .store 3 (.s 12) (.s 66), none⟩,
 ⟨(some 13), .mov (.s 67), none⟩] [63, 64, 65, 62, 66, 67])
 (.seq (.seq (.reg [⟨(some 68), .fadr 2 (.s 12), none⟩,
 ⟨(some 69), .load none (.s 68), none⟩,
 ⟨(some 70), .bin .neq (.s 69) (.c (.int .i64 0)), none⟩] [68, 69])
 (.cond (.s 70)
 (.seq (.seq (.draw [⟨⟨(some 71), .build [(.int .i64 0), (.str []), .nl] [], none⟩, []⟩,
 ⟨⟨(some 72), .fadr 2 (.s 12), none⟩, []⟩,
 ⟨⟨(some 73), .load none (.s 72), none⟩, [1]⟩,
 ⟨⟨none, .store 3 (.s 4) (.s 71), none⟩, [0]⟩,
 ⟨⟨(some 5), .mov (.c .nl), none⟩, [3, 0]⟩] [] [])
 (.reg [⟨(some 6), .mov (.s 73), none⟩] [71, 72, 73]))
 .ret)
 .skip))
 (.seq (.reg [⟨(some 74), .mov (.s 13), none⟩,
 ⟨(some 75), .fadr 1 (.s 11), none⟩,
 ⟨none, .store 1 (.s 75) (.s 74), none⟩] [74, 75])
 (.reg [⟨(some 76), .mov (.s 10), none⟩,
 ⟨(some 77), .fadr 1 (.s 12), none⟩,
 ⟨(some 78), .load none (.s 77), none⟩,
 ⟨(some 79), .slc 1 (.s 76) (some (.s 78)) none none, none⟩,
 ⟨(some 80), .fadr 2 (.s 11), none⟩,
 ⟨none, .store 1 (.s 80) (.s 79), none⟩] [76, 77, 78, 79, 80]))))
 .skip))
 (.seq (.seq (.draw [⟨⟨(some 81), .load (some 3) (.s 11), none⟩, []⟩,
 ⟨⟨(some 82), .mov (.s 0), none⟩, []⟩,
 ⟨⟨(some 83), .fadr 1 (.s 7), none⟩, []⟩,
 ⟨⟨(some 84), .load none (.s 83), none⟩, [2]⟩,
 ⟨⟨(some 85), .slc 1 (.s 82) (some (.s 84)) none none, none⟩, [1, 3, 2]⟩,
 ⟨⟨none, .store 3 (.s 4) (.s 81), none⟩, [0]⟩] [] [])
 (.seq (.reg [⟨(some 5), .mov (.s 85), none⟩] [])
 (.reg [⟨(some 6), .mov (.c (.int .i64 0)), none⟩] [81, 82, 83, 84, 85])))
 .ret)))))))))))⟩

theorem c_ref12_one : compF Tryd.prog 95 = some F_ref12_one := by kernel_rfl
abbrev n_ref12_one : FuncId := 95

def F_leb_PutU : IFun :=
⟨24, 2, [.tmp 4],
 (.seq (.reg [⟨(some 4), .mov (.c .nl), none⟩] [])
 (.seq (.reg [⟨(some 6), .bsl 5 1 [] [], none⟩,
 ⟨(some 7), .mov (.s 0), none⟩,
 ⟨(some 8), .app 5 1 (.s 6) (.s 7), none⟩,
 ⟨(some 5), .mov (.s 8), none⟩] [6, 7, 8])
 (.seq (.block 0 (.loop (.seq (.seq (.reg [⟨(some 9), .mov (.s 1), none⟩,
 ⟨(some 10), .bin .geq (.s 9) (.c (.int .u64 128)), none⟩] [9])
 (.cond (.s 10)
 .skip
 (.exit 0)))
 (.block 1 (.seq (.reg [⟨(some 11), .mov (.s 5), none⟩,
 ⟨(some 12), .mov (.s 1), none⟩,
 ⟨(some 13), .cvi .u8 (.s 12), none⟩,
 ⟨(some 14), .bin .or (.s 13) (.c (.int .u8 128)), none⟩,
 ⟨(some 15), .bsl 5 1 [[(.int .u8 0)]] [(0, (.s 14))], none⟩,
 ⟨(some 16), .app 5 1 (.s 11) (.s 15), none⟩,
 ⟨(some 5), .mov (.s 16), none⟩] [11, 12, 13, 14, 15, 16])
 (.reg [⟨(some 17), .mov (.s 1), none⟩,
 ⟨(some 18), .bin .shr (.s 17) (.c (.int .u64 7)), none⟩,
 ⟨(some 1), .mov (.s 18), none⟩] [17, 18]))))))
 (.seq (.reg [⟨(some 19), .mov (.s 5), none⟩,
 ⟨(some 20), .mov (.s 1), none⟩,
 ⟨(some 21), .cvi .u8 (.s 20), none⟩,
 ⟨(some 22), .bsl 5 1 [[(.int .u8 0)]] [(0, (.s 21))], none⟩,
 ⟨(some 23), .app 5 1 (.s 19) (.s 22), none⟩,
 ⟨(some 4), .mov (.s 23), none⟩] [19, 20, 21, 22, 23])
 .ret))))⟩

theorem c_leb_PutU : compF Tryd.prog 96 = some F_leb_PutU := by kernel_rfl
abbrev n_leb_PutU : FuncId := 96

def F_ref01_PutU : IFun :=
⟨25, 2, [.tmp 4],
 (.seq (.reg [⟨(some 4), .mov (.c .nl), none⟩] [])
 (.seq (.reg [⟨(some 6), .bsl 5 1 [] [], none⟩,
 ⟨(some 7), .mov (.s 0), none⟩,
 ⟨(some 8), .app 5 1 (.s 6) (.s 7), none⟩,
 ⟨(some 5), .mov (.s 8), none⟩] [6, 7, 8])
 (.seq (.block 0 (.loop (.seq (.seq (.reg [⟨(some 9), .mov (.s 1), none⟩,
 ⟨(some 10), .bin .geq (.s 9) (.c (.int .u64 128)), none⟩] [9])
 (.cond (.s 10)
 .skip
 (.exit 0)))
 (.block 1 (.seq (.reg [⟨(some 11), .mov (.s 5), none⟩,
 ⟨(some 12), .mov (.s 1), none⟩,
 ⟨(some 13), .bin .rem (.s 12) (.c (.int .u64 128)), none⟩,
 ⟨(some 14), .cvi .u8 (.s 13), none⟩,
 ⟨(some 15), .bin .add (.s 14) (.c (.int .u8 128)), none⟩,
 ⟨(some 16), .bsl 5 1 [[(.int .u8 0)]] [(0, (.s 15))], none⟩,
 ⟨(some 17), .app 5 1 (.s 11) (.s 16), none⟩,
 ⟨(some 5), .mov (.s 17), none⟩] [11, 12, 13, 14, 15, 16, 17])
 (.reg [⟨(some 18), .mov (.s 1), none⟩,
 ⟨(some 19), .bin .quo (.s 18) (.c (.int .u64 128)), none⟩,
 ⟨(some 1), .mov (.s 19), none⟩] [18, 19]))))))
 (.seq (.reg [⟨(some 20), .mov (.s 5), none⟩,
 ⟨(some 21), .mov (.s 1), none⟩,
 ⟨(some 22), .cvi .u8 (.s 21), none⟩,
 ⟨(some 23), .bsl 5 1 [[(.int .u8 0)]] [(0, (.s 22))], none⟩,
 ⟨(some 24), .app 5 1 (.s 20) (.s 23), none⟩,
 ⟨(some 4), .mov (.s 24), none⟩] [20, 21, 22, 23, 24])
 .ret))))⟩

theorem c_ref01_PutU : compF Tryd.prog 97 = some F_ref01_PutU := by kernel_rfl
abbrev n_ref01_PutU : FuncId := 97

def F_leb_PutS : IFun :=
⟨29, 2, [.tmp 4],
 (.seq (.reg [⟨(some 4), .mov (.c .nl), none⟩] [])
 (.seq (.reg [⟨(some 6), .bsl 5 1 [] [], none⟩,
 ⟨(some 7), .mov (.s 0), none⟩,
 ⟨(some 8), .app 5 1 (.s 6) (.s 7), none⟩,
 ⟨(some 5), .mov (.s 8), none⟩] [6, 7, 8])
 (.seq (.block 0 (.loop (.seq (.seq (.reg [⟨(some 9), .mov (.s 1), none⟩,
 ⟨(some 10), .bin .lss (.s 9) (.c (.int .i64 (-64))), none⟩,
 ⟨(some 11), .mov (.s 10), none⟩,
 ⟨(some 12), .mov (.s 1), (some (11, false))⟩,
 ⟨(some 13), .bin .gtr (.s 12) (.c (.int .i64 63)), (some (11, false))⟩,
 ⟨(some 14), .pick (.s 11) (.c (.bool true)) (.s 13), none⟩] [9, 10, 11, 12, 13])
 (.cond (.s 14)
 .skip
 (.exit 0)))
 (.block 1 (.seq (.reg [⟨(some 15), .mov (.s 5), none⟩,
 ⟨(some 16), .mov (.s 1), none⟩,
 ⟨(some 17), .cvi .u8 (.s 16), none⟩,
 ⟨(some 18), .bin .or (.s 17) (.c (.int .u8 128)), none⟩,
 ⟨(some 19), .bsl 5 1 [[(.int .u8 0)]] [(0, (.s 18))], none⟩,
 ⟨(some 20), .app 5 1 (.s 15) (.s 19), none⟩,
 ⟨(some 5), .mov (.s 20), none⟩] [15, 16, 17, 18, 19, 20])
 (.reg [⟨(some 21), .mov (.s 1), none⟩,
 ⟨(some 22), .bin .shr (.s 21) (.c (.int .u64 7)), none⟩,
 ⟨(some 1), .mov (.s 22), none⟩] [21, 22]))))))
 (.seq (.reg [⟨(some 23), .mov (.s 5), none⟩,
 ⟨(some 24), .mov (.s 1), none⟩,
 ⟨(some 25), .cvi .u8 (.s 24), none⟩,
 ⟨(some 26), .bin .and (.s 25) (.c (.int .u8 127)), none⟩,
 ⟨(some 27), .bsl 5 1 [[(.int .u8 0)]] [(0, (.s 26))], none⟩,
 ⟨(some 28), .app 5 1 (.s 23) (.s 27), none⟩,
 ⟨(some 4), .mov (.s 28), none⟩] [23, 24, 25, 26, 27, 28])
 .ret))))⟩

theorem c_leb_PutS : compF Tryd.prog 98 = some F_leb_PutS := by kernel_rfl
abbrev n_leb_PutS : FuncId := 98

def F_ref01_PutS : IFun :=
⟨30, 2, [.tmp 4],
 (.seq (.reg [⟨(some 4), .mov (.c .nl), none⟩] [])
 (.seq (.reg [⟨(some 6), .bsl 5 1 [] [], none⟩,
 ⟨(some 7), .mov (.s 0), none⟩,
 ⟨(some 8), .app 5 1 (.s 6) (.s 7), none⟩,
 ⟨(some 5), .mov (.s 8), none⟩] [6, 7, 8])
 (.seq (.block 0 (.loop (.seq (.seq (.reg [⟨(some 9), .mov (.s 1), none⟩,
 ⟨(some 10), .bin .lss (.s 9) (.c (.int .i64 (-64))), none⟩,
 ⟨(some 11), .mov (.s 10), none⟩,
 ⟨(some 12), .mov (.s 1), (some (11, false))⟩,
 ⟨(some 13), .bin .gtr (.s 12) (.c (.int .i64 63)), (some (11, false))⟩,
 ⟨(some 14), .pick (.s 11) (.c (.bool true)) (.s 13), none⟩] [9, 10, 11, 12, 13])
 (.cond (.s 14)
 .skip
 (.exit 0)))
 (.block 1 (.seq (.reg [⟨(some 15), .mov (.s 5), none⟩,
 ⟨(some 16), .mov (.s 1), none⟩,
 ⟨(some 17), .bin .and (.s 16) (.c (.int .i64 127)), none⟩,
 ⟨(some 18), .cvi .u8 (.s 17), none⟩,
 ⟨(some 19), .bin .add (.s 18) (.c (.int .u8 128)), none⟩,
 ⟨(some 20), .bsl 5 1 [[(.int .u8 0)]] [(0, (.s 19))], none⟩,
 ⟨(some 21), .app 5 1 (.s 15) (.s 20), none⟩,
 ⟨(some 5), .mov (.s 21), none⟩] [15, 16, 17, 18, 19, 20, 21])
 (.reg [⟨(some 22), .mov (.s 1), none⟩,
 ⟨(some 23), .bin .shr (.s 22) (.c (.int .u64 7)), none⟩,
 ⟨(some 1), .mov (.s 23), none⟩] [22, 23]))))))
 (.seq (.reg [⟨(some 24), .mov (.s 5), none⟩,
 ⟨(some 25), .mov (.s 1), none⟩,
 ⟨(some 26), .bin .and (.s 25) (.c (.int .i64 127)), none⟩,
 ⟨(some 27), .cvi .u8 (.s 26), none⟩,
 ⟨(some 28), .bsl 5 1 [[(.int .u8 0)]] [(0, (.s 27))], none⟩,
 ⟨(some 29), .app 5 1 (.s 24) (.s 28), none⟩,
 ⟨(some 4), .mov (.s 29), none⟩] [24, 25, 26, 27, 28, 29])
 .ret))))⟩

theorem c_ref01_PutS : compF Tryd.prog 99 = some F_ref01_PutS := by kernel_rfl
abbrev n_ref01_PutS : FuncId := 99

def F_leb_U : IFun :=
⟨32, 2, [.tmp 4, .tmp 5, .tmp 6],
 (.seq (.reg [⟨(some 4), .mov (.c (.int .u64 0)), none⟩,
 ⟨(some 5), .mov (.c (.int .i64 0)), none⟩,
 ⟨(some 6), .mov (.c (.int .i64 0)), none⟩] [])
 (.seq (.reg [⟨(some 11), .mov (.s 0), none⟩,
 ⟨(some 12), .mov (.s 1), none⟩,
 ⟨(some 13), .call 107 [(.s 11), (.s 12)], none⟩,
 ⟨(some 10), .mov (.s 13), none⟩,
 ⟨(some 14), .ext (.s 10) 0, none⟩,
 ⟨(some 15), .ext (.s 10) 1, none⟩,
 ⟨(some 16), .ext (.s 10) 2, none⟩,
 ⟨(some 7), .mov (.s 14), none⟩,
 ⟨(some 8), .mov (.s 15), none⟩,
 ⟨(some 9), .mov (.s 16), none⟩] [11, 12, 13, 10, 14, 15, 16])
 (.seq (.seq (.reg [⟨(some 17), .mov (.s 9), none⟩,
 ⟨(some 18), .bin .neq (.s 17) (.c (.int .i64 0)), none⟩] [17])
 (.cond (.s 18)
 (.seq (.reg [⟨(some 19), .mov (.s 9), none⟩,
 ⟨(some 4), .mov (.c (.int .u64 0)), none⟩,
 ⟨(some 5), .mov (.c (.int .i64 0)), none⟩,
 ⟨(some 6), .mov (.s 19), none⟩] [19])
 .ret)
 .skip))
 (.seq (.seq (.reg [⟨(some 20), .mov (.s 0), none⟩,
 ⟨(some 21), .mov (.s 7), none⟩,
 ⟨(some 22), .iadr 1 (.s 20) (.s 21), none⟩,
 ⟨(some 23), .load none (.s 22), none⟩,
 ⟨(some 24), .mov (.s 8), none⟩,
 ⟨(some 25), .bin .shr (.s 23) (.s 24), none⟩,
 ⟨(some 26), .bin .neq (.s 25) (.c (.int .u8 0)), none⟩] [20, 21, 22, 23, 24, 25])
 (.cond (.s 26)
 (.seq (.reg [⟨(some 4), .mov (.c (.int .u64 0)), none⟩,
 ⟨(some 5), .mov (.c (.int .i64 0)), none⟩,
 ⟨(some 6), .mov (.c (.int .i64 4)), none⟩] [])
 .ret)
 .skip))
 (.seq (.reg [⟨(some 27), .mov (.s 0), none⟩,
 ⟨(some 28), .mov (.s 7), none⟩,
 ⟨(some 29), .call 108 [(.s 27), (.s 28)], none⟩,
 ⟨(some 30), .mov (.s 7), none⟩,
 ⟨(some 31), .bin .add (.s 30) (.c (.int .i64 1)), none⟩,
 ⟨(some 4), .mov (.s 29), none⟩,
 ⟨(some 5), .mov (.s 31), none⟩,
 ⟨(some 6), .mov (.c (.int .i64 0)), none⟩] [27, 28, 29, 30, 31])
 .ret)))))⟩

theorem c_leb_U : compF Tryd.prog 100 = some F_leb_U := by kernel_rfl
abbrev n_leb_U : FuncId := 100

def F_utf8_word_string : IFun :=
⟨59, 1, [.tmp 2],
 (.seq (.reg [⟨(some 2), .mov (.c (.int .u64 0)), none⟩] [])
 (.seq (.cond (.c (.bool false))
 (.seq (.seq (.draw [⟨⟨(some 3), .mov (.s 0), none⟩, []⟩,
 ⟨⟨(some 4), .sidx (.s 3) (.c (.int .i64 0)), none⟩, [0]⟩,
 ⟨⟨(some 5), .cvi .u64 (.s 4), none⟩, [1, 0]⟩,
 ⟨⟨(some 6), .mov (.s 0), none⟩, []⟩,
 ⟨⟨(some 7), .sidx (.s 6) (.c (.int .i64 1)), none⟩, [3]⟩,
 ⟨⟨(some 8), .cvi .u64 (.s 7), none⟩, [4, 3]⟩,
 ⟨⟨(some 9), .bin .shl (.s 8) (.c (.int .u64 8)), none⟩, [5, 4, 3]⟩,
 ⟨⟨(some 10), .bin .or (.s 5) (.s 9), none⟩, [2, 1, 0, 6, 5, 4, 3]⟩,
 ⟨⟨(some 11), .mov (.s 0), none⟩, []⟩,
 ⟨⟨(some 12), .sidx (.s 11) (.c (.int .i64 2)), none⟩, [8]⟩,
 ⟨⟨(some 13), .cvi .u64 (.s 12), none⟩, [9, 8]⟩,
 ⟨⟨(some 14), .bin .shl (.s 13) (.c (.int .u64 16)), none⟩, [10, 9, 8]⟩,
 ⟨⟨(some 15), .bin .or (.s 10) (.s 14), none⟩, [7, 2, 1, 0, 6, 5, 4, 3, 11, 10, 9, 8]⟩,
 ⟨⟨(some 16), .mov (.s 0), none⟩, []⟩,
 ⟨⟨(some 17), .sidx (.s 16) (.c (.int .i64 3)), none⟩, [13]⟩,
 ⟨⟨(some 18), .cvi .u64 (.s 17), none⟩, [14, 13]⟩,
 ⟨⟨(some 19), .bin .shl (.s 18) (.c (.int .u64 24)), none⟩, [15, 14, 13]⟩] [] [])
 (.seq (.reg [⟨(some 20), .bin .or (.s 15) (.s 19), none⟩] [])
 (.reg [⟨(some 2), .mov (.s 20), none⟩] [3, 4, 5, 6, 7, 8, 9, 10, 11, 12, 13, 14, 15, 16, 17, 18, 19, 20])))
 .ret)
 .skip)
 (.seq (.seq (.draw [⟨⟨(some 21), .mov (.s 0), none⟩, []⟩,
 ⟨⟨(some 22), .sidx (.s 21) (.c (.int .i64 0)), none⟩, [0]⟩,
 ⟨⟨(some 23), .cvi .u64 (.s 22), none⟩, [1, 0]⟩,
 ⟨⟨(some 24), .mov (.s 0), none⟩, []⟩,
 ⟨⟨(some 25), .sidx (.s 24) (.c (.int .i64 1)), none⟩, [3]⟩,
 ⟨⟨(some 26), .cvi .u64 (.s 25), none⟩, [4, 3]⟩,
 ⟨⟨(some 27), .bin .shl (.s 26) (.c (.int .u64 8)), none⟩, [5, 4, 3]⟩,
 ⟨⟨(some 28), .bin .or (.s 23) (.s 27), none⟩, [2, 1, 0, 6, 5, 4, 3]⟩,
 ⟨⟨(some 29), .mov (.s 0), none⟩, []⟩,
 ⟨⟨(some 30), .sidx (.s 29) (.c (.int .i64 2)), none⟩, [8]⟩,
 ⟨⟨(some 31), .cvi .u64 (.s 30), none⟩, [9, 8]⟩,
 ⟨⟨(some 32), .bin .shl (.s 31) (.c (.int .u64 16)), none⟩, [10, 9, 8]⟩,
 ⟨⟨(some 33), .bin .or (.s 28) (.s 32), none⟩, [7, 2, 1, 0, 6, 5, 4, 3, 11, 10, 9, 8]⟩,
 ⟨⟨(some 34), .mov (.s 0), none⟩, []⟩,
 ⟨⟨(some 35), .sidx (.s 34) (.c (.int .i64 3)), none⟩, [13]⟩,
 ⟨⟨(some 36), .cvi .u64 (.s 35), none⟩, [14, 13]⟩,
 ⟨⟨(some 37), .bin .shl (.s 36) (.c (.int .u64 24)), none⟩, [15, 14, 13]⟩,
 ⟨⟨(some 38), .bin .or (.s 33) (.s 37), none⟩, [12, 7, 2, 1, 0, 6, 5, 4, 3, 11, 10, 9, 8, 16, 15, 14, 13]⟩,
 ⟨⟨(some 39), .mov (.s 0), none⟩, []⟩,
 ⟨⟨(some 40), .sidx (.s 39) (.c (.int .i64 4)), none⟩, [18]⟩,
 ⟨⟨(some 41), .cvi .u64 (.s 40), none⟩, [19, 18]⟩,
 ⟨⟨(some 42), .bin .shl (.s 41) (.c (.int .u64 32)), none⟩, [20, 19, 18]⟩,
 ⟨⟨(some 43), .bin .or (.s 38) (.s 42), none⟩, [17, 12, 7, 2, 1, 0, 6, 5, 4, 3, 11, 10, 9, 8, 16, 15, 14, 13, 21, 20, 19, 18]⟩,
 ⟨⟨(some 44), .mov (.s 0), none⟩, []⟩,
 ⟨⟨(some 45), .sidx (.s 44) (.c (.int .i64 5)), none⟩, [23]⟩,
 ⟨⟨(some 46), .cvi .u64 (.s 45), none⟩, [24, 23]⟩,
 ⟨⟨(some 47), .bin .shl (.s 46) (.c (.int .u64 40)), none⟩, [25, 24, 23]⟩,
 ⟨⟨(some 48), .bin .or (.s 43) (.s 47), none⟩, [22, 17, 12, 7, 2, 1, 0, 6, 5, 4, 3, 11, 10, 9, 8, 16, 15, 14, 13, 21, 20, 19, 18, 26, 25, 24, 23]⟩,
 ⟨⟨(some 49), .mov (.s 0), none⟩, []⟩,
 ⟨⟨(some 50), .sidx (.s 49) (.c (.int .i64 6)), none⟩, [28]⟩,
 ⟨⟨(some 51), .cvi .u64 (.s 50), none⟩, [29, 28]⟩,
 ⟨⟨(some 52), .bin .shl (.s 51) (.c (.int .u64 48)), none⟩, [30, 29, 28]⟩,
 ⟨⟨(some 53), .bin .or (.s 48) (.s 52), none⟩, [27, 22, 17, 12, 7, 2, 1, 0, 6, 5, 4, 3, 11, 10, 9, 8, 16, 15, 14, 13, 21, 20, 19, 18, 26, 25, 24, 23, 31, 30, 29, 28]⟩,
 ⟨⟨(some 54), .mov (.s 0), none⟩, []⟩,
 ⟨⟨(some 55), .sidx (.s 54) (.c (.int .i64 7)), none⟩, [33]⟩,
 ⟨⟨(some 56), .cvi .u64 (.s 55), none⟩, [34, 33]⟩,
 ⟨⟨(some 57), .bin .shl (.s 56) (.c (.int .u64 56)), none⟩, [35, 34, 33]⟩] [] [])
 (.seq (.reg [⟨(some 58), .bin .or (.s 53) (.s 57), none⟩] [])
 (.reg [⟨(some 2), .mov (.s 58), none⟩] [21, 22, 23, 24, 25, 26, 27, 28, 29, 30, 31, 32, 33, 34, 35, 36, 37, 38, 39, 40, 41, 42, 43, 44, 45, 46, 47, 48, 49, 50, 51, 52, 53, 54, 55, 56, 57, 58])))
 .ret)))⟩

theorem c_utf8_word_string : compF Tryd.prog 101 = some F_utf8_word_string := by kernel_rfl
abbrev n_utf8_word_string : FuncId := 101

def F_Poctet_Reader_signed : IFun :=
⟨40, 2, [.tmp 4],
 (.seq (.reg [⟨(some 4), .mov (.c (.int .i64 0)), none⟩] [])
 (.seq (.seq (.reg [⟨(some 8), .mov (.s 0), none⟩,
 ⟨(some 9), .call 54 [(.s 8)], none⟩,
 ⟨(some 10), .un .not (.s 9), none⟩] [8, 9])
 (.cond (.s 10)
 (.seq (.reg [⟨(some 4), .mov (.c (.int .i64 0)), none⟩] [])
 .ret)
 .skip))
 (.seq (.seq (.draw [⟨⟨(some 12), .mov (.s 0), none⟩, []⟩,
 ⟨⟨(some 13), .nchk (.s 12), none⟩, [0]⟩,
 ⟨⟨(some 14), .fadr 1 (.s 13), none⟩, [1, 0]⟩,
 ⟨⟨(some 15), .load none (.s 14), none⟩, [2, 1, 0]⟩,
 ⟨⟨(some 16), .mov (.s 0), none⟩, []⟩,
 ⟨⟨(some 17), .nchk (.s 16), none⟩, [4]⟩,
 ⟨⟨(some 18), .fadr 2 (.s 17), none⟩, [5, 4]⟩,
 ⟨⟨(some 19), .load none (.s 18), none⟩, [6, 5, 4]⟩,
 ⟨⟨(some 20), .slc 1 (.s 15) (some (.s 19)) none none, none⟩, [3, 2, 1, 0, 7, 6, 5, 4]⟩,
 ⟨⟨(some 21), .mov (.s 1), none⟩, []⟩] [] [])
 (.seq (.reg [⟨(some 22), .call 109 [(.s 20), (.s 21)], none⟩] [])
 (.seq (.reg [⟨(some 11), .mov (.s 22), none⟩] [])
 (.seq (.draw [⟨⟨(some 23), .ext (.s 11) 0, none⟩, []⟩,
 ⟨⟨(some 24), .ext (.s 11) 1, none⟩, []⟩,
 ⟨⟨(some 25), .ext (.s 11) 2, none⟩, []⟩,
 ⟨⟨(some 5), .mov (.s 23), none⟩, [0]⟩,
 ⟨⟨(some 6), .mov (.s 24), none⟩, [1, 3, 0]⟩] [] [])
 (.reg [⟨(some 7), .mov (.s 25), none⟩] [12, 13, 14, 15, 16, 17, 18, 19, 20, 21, 22, 11, 23, 24, 25])))))
 (.seq (.seq (.reg [⟨(some 26), .mov (.s 7), none⟩,
 ⟨(some 27), .bin .neq (.s 26) (.c (.int .i64 0)), none⟩] [26])
 (.cond (.s 27)
 (.seq (.reg [⟨(some 28), .mov (.s 0), none⟩,
 ⟨(some 29), .mov (.s 7), none⟩,
 ⟨(some 30), .call 25 [(.s 28), (.s 29)], none⟩] [28, 29, 30])
 (.seq (.reg [⟨(some 4), .mov (.c (.int .i64 0)), none⟩] [])
 .ret))
 .skip))
 (.seq (.reg [⟨(some 31), .mov (.s 0), none⟩,
 ⟨(some 32), .nchk (.s 31), none⟩,
 ⟨(some 33), .fadr 2 (.s 32), none⟩,
 ⟨(some 34), .load none (.s 33), none⟩,
 ⟨(some 35), .mov (.s 6), none⟩,
 ⟨(some 36), .bin .add (.s 34) (.s 35), none⟩,
 ⟨(some 37), .nchk (.s 31), none⟩,
 ⟨(some 38), .fadr 2 (.s 37), none⟩,
 ⟨none, .store 1 (.s 38) (.s 36), none⟩] [31, 32, 33, 34, 35, 36, 37, 38])
 (.seq (.reg [⟨(some 39), .mov (.s 5), none⟩,
 ⟨(some 4), .mov (.s 39), none⟩] [39])
 .ret))))))⟩

theorem c_Poctet_Reader_signed : compF Tryd.prog 102 = some F_Poctet_Reader_signed := by kernel_rfl
abbrev n_Poctet_Reader_signed : FuncId := 102

def F_ref02_unsigned : IFun :=
⟨36, 2, [.cell 4 (some 3), .tmp 5],
 (.seq (.reg [⟨(some 2), .box 62 3 (.s 0), none⟩,
 ⟨(some 4), .new 62 [.nl, (.int .i64 0), (.int .i64 0)], none⟩,
 ⟨(some 5), .mov (.c (.int .u64 0)), none⟩] [])
 (.seq (.seq (.reg [⟨(some 9), .fadr 2 (.s 2), none⟩,
 ⟨(some 10), .load none (.s 9), none⟩,
 ⟨(some 11), .bin .neq (.s 10) (.c (.int .i64 0)), none⟩] [9, 10])
 (.cond (.s 11)
 (.seq (.reg [⟨(some 12), .load (some 3) (.s 2), none⟩,
 ⟨none, .store 3 (.s 4) (.s 12), none⟩,
 ⟨(some 5), .mov (.c (.int .u64 0)), none⟩] [12])
 .ret)
 .skip))
 (.seq (.reg [⟨(some 14), .fadr 0 (.s 2), none⟩,
 ⟨(some 15), .load none (.s 14), none⟩,
 ⟨(some 16), .fadr 1 (.s 2), none⟩,
 ⟨(some 17), .load none (.s 16), none⟩,
 ⟨(some 18), .slc 1 (.s 15) (some (.s 17)) none none, none⟩,
 ⟨(some 19), .mov (.s 1), none⟩,
 ⟨(some 20), .call 110 [(.s 18), (.s 19)], none⟩,
 ⟨(some 13), .mov (.s 20), none⟩,
 ⟨(some 21), .ext (.s 13) 0, none⟩,
 ⟨(some 22), .ext (.s 13) 1, none⟩,
 ⟨(some 23), .ext (.s 13) 2, none⟩,
 ⟨(some 6), .mov (.s 21), none⟩,
 ⟨(some 7), .mov (.s 22), none⟩,
 ⟨(some 8), .mov (.s 23), none⟩] [14, 15, 16, 17, 18, 19, 20, 13, 21, 22, 23])
 (.seq (.seq (.reg [⟨(some 24), .mov (.s 8), none⟩,
 ⟨(some 25), .bin .neq (.s 24) (.c (.int .i64 0)), none⟩] [24])
 (.cond (.s 25)
 (.seq (.reg [⟨(some 26), .load (some 3) (.s 2), none⟩,
 ⟨(some 27), .mov (.s 8), none⟩,
 ⟨(some 28), .call 90 [(.s 26), (.s 27)], none⟩,
 ⟨none, .store 3 (.s 4) (.s 28), none⟩,
 ⟨(some 5), .mov (.c (.int .u64 0)), none⟩] [26, 27, 28])
 .ret)
 .skip))
 (.seq (.reg [⟨(some 29), .fadr 1 (.s 2), none⟩,
 ⟨(some 30), .load none (.s 29), none⟩,
 ⟨(some 31), .mov (.s 7), none⟩,
 ⟨(some 32), .bin .add (.s 30) (.s 31), none⟩,
 ⟨(some 33), .fadr 1 (.s 2), none⟩,
 ⟨none, .store 1 (.s 33) (.s 32), none⟩] [29, 30, 31, 32, 33])
 (.seq (.reg [⟨(some 34), .load (some 3) (.s 2), none⟩,
 ⟨(some 35), .mov (.s 6), none⟩,
 ⟨none, .store 3 (.s 4) (.s 34), none⟩,
 ⟨(some 5), .mov (.s 35), none⟩] [34, 35])
 .ret))))))⟩

theorem c_ref02_unsigned : compF Tryd.prog 103 = some F_ref02_unsigned := by kernel_rfl
abbrev n_ref02_unsigned : FuncId := 103

def F_ref02_signed : IFun :=
⟨36, 2, [.cell 4 (some 3), .tmp 5],
 (.seq (.reg [⟨(some 2), .box 62 3 (.s 0), none⟩,
 ⟨(some 4), .new 62 [.nl, (.int .i64 0), (.int .i64 0)], none⟩,
 ⟨(some 5), .mov (.c (.int .i64 0)), none⟩] [])
 (.seq (.seq (.reg [⟨(some 9), .fadr 2 (.s 2), none⟩,
 ⟨(some 10), .load none (.s 9), none⟩,
 ⟨(some 11), .bin .neq (.s 10) (.c (.int .i64 0)), none⟩] [9, 10])
 (.cond (.s 11)
 (.seq (.reg [⟨(some 12), .load (some 3) (.s 2), none⟩,
 ⟨none, .store 3 (.s 4) (.s 12), none⟩,
 ⟨(some 5), .mov (.c (.int .i64 0)), none⟩] [12])
 .ret)
 .skip))
 (.seq (.reg [⟨(some 14), .fadr 0 (.s 2), none⟩,
 ⟨(some 15), .load none (.s 14), none⟩,
 ⟨(some 16), .fadr 1 (.s 2), none⟩,
 ⟨(some 17), .load none (.s 16), none⟩,
 ⟨(some 18), .slc 1 (.s 15) (some (.s 17)) none none, none⟩,
 ⟨(some 19), .mov (.s 1), none⟩,
 ⟨(some 20), .call 111 [(.s 18), (.s 19)], none⟩,
 ⟨(some 13), .mov (.s 20), none⟩,
 ⟨(some 21), .ext (.s 13) 0, none⟩,
 ⟨(some 22), .ext (.s 13) 1, none⟩,
 ⟨(some 23), .ext (.s 13) 2, none⟩,
 ⟨(some 6), .mov (.s 21), none⟩,
 ⟨(some 7), .mov (.s 22), none⟩,
 ⟨(some 8), .mov (.s 23), none⟩] [14, 15, 16, 17, 18, 19, 20, 13, 21, 22, 23])
 (.seq (.seq (.reg [⟨(some 24), .mov (.s 8), none⟩,
 ⟨(some 25), .bin .neq (.s 24) (.c (.int .i64 0)), none⟩] [24])
 (.cond (.s 25)
 (.seq (.reg [⟨(some 26), .load (some 3) (.s 2), none⟩,
 ⟨(some 27), .mov (.s 8), none⟩,
 ⟨(some 28), .call 90 [(.s 26), (.s 27)], none⟩,
 ⟨none, .store 3 (.s 4) (.s 28), none⟩,
 ⟨(some 5), .mov (.c (.int .i64 0)), none⟩] [26, 27, 28])
 .ret)
 .skip))
 (.seq (.reg [⟨(some 29), .fadr 1 (.s 2), none⟩,
 ⟨(some 30), .load none (.s 29), none⟩,
 ⟨(some 31), .mov (.s 7), none⟩,
 ⟨(some 32), .bin .add (.s 30) (.s 31), none⟩,
 ⟨(some 33), .fadr 1 (.s 2), none⟩,
 ⟨none, .store 1 (.s 33) (.s 32), none⟩] [29, 30, 31, 32, 33])
 (.seq (.reg [⟨(some 34), .load (some 3) (.s 2), none⟩,
 ⟨(some 35), .mov (.s 6), none⟩,
 ⟨none, .store 3 (.s 4) (.s 34), none⟩,
 ⟨(some 5), .mov (.s 35), none⟩] [34, 35])
 .ret))))))⟩

theorem c_ref02_signed : compF Tryd.prog 104 = some F_ref02_signed := by kernel_rfl
abbrev n_ref02_signed : FuncId := 104

def F_utf8_Valid : IFun :=
⟨188, 1, [.tmp 2],
 (.seq (.reg [⟨(some 2), .mov (.c (.bool false)), none⟩] [])
 (.seq (.reg [⟨(some 7), .mov (.s 0), none⟩,
 ⟨(some 8), .mov (.s 0), none⟩,
 ⟨(some 9), .len (.s 8), none⟩,
 ⟨(some 10), .mov (.s 0), none⟩,
 ⟨(some 11), .len (.s 10), none⟩,
 ⟨(some 12), .slc 1 (.s 7) none (some (.s 9)) (some (.s 11)), none⟩,
 ⟨(some 0), .mov (.s 12), none⟩] [7, 8, 9, 10, 11, 12])
 (.seq (.block 0 (.loop (.seq (.seq (.reg [⟨(some 13), .mov (.s 0), none⟩,
 ⟨(some 14), .len (.s 13), none⟩,
 ⟨(some 15), .bin .gtr (.s 14) (.c (.int .i64 0)), none⟩] [13, 14])
 (.cond (.s 15)
 .skip
 (.exit 0)))
 (.block 1 (.seq (.reg [⟨(some 16), .mov (.s 0), none⟩,
 ⟨(some 17), .iadr 1 (.s 16) (.c (.int .i64 0)), none⟩,
 ⟨(some 18), .load none (.s 17), none⟩,
 ⟨(some 3), .mov (.s 18), none⟩] [16, 17, 18])
 (.seq (.seq (.reg [⟨(some 19), .mov (.s 3), none⟩,
 ⟨(some 20), .bin .lss (.s 19) (.c (.int .u8 128)), none⟩] [19])
 (.cond (.s 20)
 (.seq (.reg [⟨(some 21), .mov (.s 0), none⟩,
 ⟨(some 22), .slc 1 (.s 21) (some (.c (.int .i64 1))) none none, none⟩,
 ⟨(some 0), .mov (.s 22), none⟩] [21, 22])
 (.seq (.seq (.reg [⟨(some 23), .mov (.s 0), none⟩,
 ⟨(some 24), .len (.s 23), none⟩,
 ⟨(some 25), .bin .gtr (.s 24) (.c (.int .i64 8)), none⟩,
 ⟨(some 26), .mov (.s 25), none⟩,
 ⟨(some 27), .mov (.s 0), (some (26, true))⟩,
 ⟨(some 28), .call 112 [(.s 27)], (some (26, true))⟩,
 ⟨(some 29), .bin .and (.s 28) (.c (.int .u64 9259542123273814144)), (some (26, true))⟩,
 ⟨(some 30), .bin .eql (.s 29) (.c (.int .u64 0)), (some (26, true))⟩,
 ⟨(some 31), .pick (.s 26) (.s 30) (.c (.bool false)), none⟩] [23, 24, 25, 26, 27, 28, 29, 30])
 (.cond (.s 31)
 (.seq (.reg [⟨(some 32), .mov (.s 0), none⟩,
 ⟨(some 33), .slc 1 (.s 32) (some (.c (.int .i64 8))) none none, none⟩,
 ⟨(some 0), .mov (.s 33), none⟩] [32, 33])
 (.seq (.seq (.reg [⟨(some 34), .mov (.s 0), none⟩] [])
 (.seq (.reg [⟨(some 35), .len (.s 34), none⟩] [])
 (.seq (.reg [⟨(some 36), .bin .gtr (.s 35) (.c (.int .i64 16)), none⟩] [])
 (.seq (.reg [⟨(some 37), .mov (.s 36), none⟩] [])
 (.seq (.draw [⟨⟨(some 38), .mov (.s 0), (some (37, true))⟩, []⟩,
 ⟨⟨(some 39), .call 112 [(.s 38)], (some (37, true))⟩, [0]⟩,
 ⟨⟨(some 40), .mov (.s 0), (some (37, true))⟩, []⟩,
 ⟨⟨(some 41), .slc 1 (.s 40) (some (.c (.int .i64 8))) none none, (some (37, true))⟩, [2]⟩] [] [])
 (.seq (.reg [⟨(some 42), .call 112 [(.s 41)], (some (37, true))⟩] [])
 (.seq (.reg [⟨(some 43), .bin .or (.s 39) (.s 42), (some (37, true))⟩] [])
 (.seq (.reg [⟨(some 44), .bin .and (.s 43) (.c (.int .u64 9259542123273814144)), (some (37, true))⟩] [])
 (.seq (.reg [⟨(some 45), .bin .eql (.s 44) (.c (.int .u64 0)), (some (37, true))⟩] [])
 (.reg [⟨(some 46), .pick (.s 37) (.s 45) (.c (.bool false)), none⟩] [34, 35, 36, 37, 38, 39, 40, 41, 42, 43, 44, 45]))))))))))
 (.cond (.s 46)
 (.seq (.reg [⟨(some 47), .mov (.s 0), none⟩,
 ⟨(some 48), .slc 1 (.s 47) (some (.c (.int .i64 16))) none none, none⟩,
 ⟨(some 0), .mov (.s 48), none⟩] [47, 48])
 (.block 2 (.loop (.seq (.seq (.seq (.reg [⟨(some 49), .mov (.s 0), none⟩] [])
 (.seq (.reg [⟨(some 50), .len (.s 49), none⟩] [])
 (.seq (.reg [⟨(some 51), .bin .gtr (.s 50) (.c (.int .i64 32)), none⟩] [])
 (.seq (.reg [⟨(some 52), .mov (.s 51), none⟩] [])
 (.seq (.draw [⟨⟨(some 53), .mov (.s 0), (some (52, true))⟩, []⟩,
 ⟨⟨(some 54), .call 112 [(.s 53)], (some (52, true))⟩, [0]⟩,
 ⟨⟨(some 55), .mov (.s 0), (some (52, true))⟩, []⟩,
 ⟨⟨(some 56), .slc 1 (.s 55) (some (.c (.int .i64 8))) none none, (some (52, true))⟩, [2]⟩,
 ⟨⟨(some 57), .call 112 [(.s 56)], (some (52, true))⟩, [3, 2, 1, 0]⟩,
 ⟨⟨(some 58), .bin .or (.s 54) (.s 57), (some (52, true))⟩, [1, 0, 4, 3, 2]⟩,
 ⟨⟨(some 59), .mov (.s 0), (some (52, true))⟩, []⟩,
 ⟨⟨(some 60), .slc 1 (.s 59) (some (.c (.int .i64 16))) none none, (some (52, true))⟩, [6]⟩,
 ⟨⟨(some 61), .call 112 [(.s 60)], (some (52, true))⟩, [7, 6, 4, 3, 2, 1, 0]⟩,
 ⟨⟨(some 62), .mov (.s 0), (some (52, true))⟩, []⟩,
 ⟨⟨(some 63), .slc 1 (.s 62) (some (.c (.int .i64 24))) none none, (some (52, true))⟩, [9]⟩,
 ⟨⟨(some 64), .call 112 [(.s 63)], (some (52, true))⟩, [10, 9, 8, 7, 6, 4, 3, 2, 1, 0]⟩,
 ⟨⟨(some 65), .bin .or (.s 61) (.s 64), (some (52, true))⟩, [8, 7, 6, 4, 3, 2, 1, 0, 11, 10, 9]⟩] [] [])
 (.seq (.reg [⟨(some 66), .bin .or (.s 58) (.s 65), (some (52, true))⟩] [])
 (.seq (.reg [⟨(some 67), .bin .and (.s 66) (.c (.int .u64 9259542123273814144)), (some (52, true))⟩] [])
 (.seq (.reg [⟨(some 68), .bin .eql (.s 67) (.c (.int .u64 0)), (some (52, true))⟩] [])
 (.reg [⟨(some 69), .pick (.s 52) (.s 68) (.c (.bool false)), none⟩] [49, 50, 51, 52, 53, 54, 55, 56, 57, 58, 59, 60, 61, 62, 63, 64, 65, 66, 67, 68])))))))))
 (.cond (.s 69)
 .skip
 (.exit 2)))
 (.block 3 (.reg [⟨(some 70), .mov (.s 0), none⟩,
 ⟨(some 71), .slc 1 (.s 70) (some (.c (.int .i64 32))) none none, none⟩,
 ⟨(some 0), .mov (.s 71), none⟩] [70, 71]))))))
 .skip)))
 .skip))
 (.exit 1)))
 .skip))
 (.seq (.reg [⟨(some 72), .mov (.s 3), none⟩,
 ⟨(some 73), .aadr 1 256 (.s 1000000) (.s 72), none⟩,
 ⟨(some 74), .load none (.s 73), none⟩,
 ⟨(some 4), .mov (.s 74), none⟩] [72, 73, 74])
 (.seq (.reg [⟨(some 75), .mov (.s 4), none⟩,
 ⟨(some 76), .bin .and (.s 75) (.c (.int .u8 7)), none⟩,
 ⟨(some 77), .cvi .i64 (.s 76), none⟩,
 ⟨(some 5), .mov (.s 77), none⟩] [75, 76, 77])
 (.seq (.reg [⟨(some 78), .mov (.s 4), none⟩,
 ⟨(some 79), .bin .shr (.s 78) (.c (.int .u64 4)), none⟩,
 ⟨(some 80), .aadr 2 16 (.s 1000001) (.s 79), none⟩,
 ⟨(some 81), .load (some 2) (.s 80), none⟩,
 ⟨(some 6), .new 140 [(.int .u8 0), (.int .u8 0)], none⟩,
 ⟨none, .store 2 (.s 6) (.s 81), none⟩] [78, 79, 80, 81])
 (.seq (.reg [⟨(some 82), .mov (.s 5), none⟩] [])
 (.block 4 (.seq (.reg [⟨(some 84), .bin .eql (.s 82) (.c (.int .i64 2)), none⟩,
 ⟨(some 83), .mov (.s 84), none⟩] [84])
 (.cond (.s 83)
 (.seq (.seq (.seq (.reg [⟨(some 85), .mov (.s 0), none⟩] [])
 (.seq (.reg [⟨(some 86), .len (.s 85), none⟩] [])
 (.seq (.reg [⟨(some 87), .bin .lss (.s 86) (.c (.int .i64 2)), none⟩] [])
 (.seq (.reg [⟨(some 88), .mov (.s 87), none⟩] [])
 (.seq (.draw [⟨⟨(some 89), .mov (.s 0), (some (88, false))⟩, []⟩,
 ⟨⟨(some 90), .iadr 1 (.s 89) (.c (.int .i64 1)), (some (88, false))⟩, [0]⟩,
 ⟨⟨(some 91), .load none (.s 90), (some (88, false))⟩, [1, 0]⟩,
 ⟨⟨(some 92), .fadr 0 (.s 6), (some (88, false))⟩, []⟩,
 ⟨⟨(some 93), .load none (.s 92), (some (88, false))⟩, [3]⟩] [] [])
 (.seq (.reg [⟨(some 94), .bin .lss (.s 91) (.s 93), (some (88, false))⟩] [])
 (.seq (.reg [⟨(some 95), .pick (.s 88) (.c (.bool true)) (.s 94), none⟩] [])
 (.seq (.reg [⟨(some 96), .mov (.s 95), none⟩] [])
 (.seq (.draw [⟨⟨(some 97), .fadr 1 (.s 6), (some (96, false))⟩, []⟩,
 ⟨⟨(some 98), .load none (.s 97), (some (96, false))⟩, [0]⟩,
 ⟨⟨(some 99), .mov (.s 0), (some (96, false))⟩, []⟩,
 ⟨⟨(some 100), .iadr 1 (.s 99) (.c (.int .i64 1)), (some (96, false))⟩, [2]⟩,
 ⟨⟨(some 101), .load none (.s 100), (some (96, false))⟩, [3, 2]⟩] [] [])
 (.seq (.reg [⟨(some 102), .bin .lss (.s 98) (.s 101), (some (96, false))⟩] [])
 (.reg [⟨(some 103), .pick (.s 96) (.c (.bool true)) (.s 102), none⟩] [85, 86, 87, 88, 89, 90, 91, 92, 93, 94, 95, 96, 97, 98, 99, 100, 101, 102])))))))))))
 (.cond (.s 103)
 (.seq (.reg [⟨(some 2), .mov (.c (.bool false)), none⟩] [])
 .ret)
 .skip))
 (.reg [⟨(some 104), .mov (.s 0), none⟩,
 ⟨(some 105), .slc 1 (.s 104) (some (.c (.int .i64 2))) none none, none⟩,
 ⟨(some 0), .mov (.s 105), none⟩] [104, 105]))
 (.seq (.reg [⟨(some 107), .bin .eql (.s 82) (.c (.int .i64 3)), none⟩,
 ⟨(some 106), .mov (.s 107), none⟩] [107])
 (.cond (.s 106)
 (.seq (.seq (.seq (.reg [⟨(some 108), .mov (.s 0), none⟩] [])
 (.seq (.reg [⟨(some 109), .len (.s 108), none⟩] [])
 (.seq (.reg [⟨(some 110), .bin .lss (.s 109) (.c (.int .i64 3)), none⟩] [])
 (.seq (.reg [⟨(some 111), .mov (.s 110), none⟩] [])
 (.seq (.draw [⟨⟨(some 112), .mov (.s 0), (some (111, false))⟩, []⟩,
 ⟨⟨(some 113), .iadr 1 (.s 112) (.c (.int .i64 1)), (some (111, false))⟩, [0]⟩,
 ⟨⟨(some 114), .load none (.s 113), (some (111, false))⟩, [1, 0]⟩,
 ⟨⟨(some 115), .fadr 0 (.s 6), (some (111, false))⟩, []⟩,
 ⟨⟨(some 116), .load none (.s 115), (some (111, false))⟩, [3]⟩] [] [])
 (.seq (.reg [⟨(some 117), .bin .lss (.s 114) (.s 116), (some (111, false))⟩] [])
 (.seq (.reg [⟨(some 118), .pick (.s 111) (.c (.bool true)) (.s 117), none⟩] [])
 (.seq (.reg [⟨(some 119), .mov (.s 118), none⟩] [])
 (.seq (.draw [⟨⟨(some 120), .fadr 1 (.s 6), (some (119, false))⟩, []⟩,
 ⟨⟨(some 121), .load none (.s 120), (some (119, false))⟩, [0]⟩,
 ⟨⟨(some 122), .mov (.s 0), (some (119, false))⟩, []⟩,
 ⟨⟨(some 123), .iadr 1 (.s 122) (.c (.int .i64 1)), (some (119, false))⟩, [2]⟩,
 ⟨⟨(some 124), .load none (.s 123), (some (119, false))⟩, [3, 2]⟩] [] [])
 (.seq (.reg [⟨(some 125), .bin .lss (.s 121) (.s 124), (some (119, false))⟩] [])
 (.seq (.reg [⟨(some 126), .pick (.s 119) (.c (.bool true)) (.s 125), none⟩] [])
 (.seq (.reg [⟨(some 127), .mov (.s 126), none⟩] [])
 (.seq (.reg [⟨(some 128), .mov (.s 0), (some (127, false))⟩] [])
 (.seq (.reg [⟨(some 129), .iadr 1 (.s 128) (.c (.int .i64 2)), (some (127, false))⟩] [])
 (.seq (.reg [⟨(some 130), .load none (.s 129), (some (127, false))⟩] [])
 (.seq (.reg [⟨(some 131), .bin .lss (.s 130) (.c (.int .u8 128)), (some (127, false))⟩] [])
 (.seq (.reg [⟨(some 132), .pick (.s 127) (.c (.bool true)) (.s 131), none⟩] [])
 (.seq (.reg [⟨(some 133), .mov (.s 132), none⟩] [])
 (.seq (.reg [⟨(some 134), .mov (.s 0), (some (133, false))⟩] [])
 (.seq (.reg [⟨(some 135), .iadr 1 (.s 134) (.c (.int .i64 2)), (some (133, false))⟩] [])
 (.seq (.reg [⟨(some 136), .load none (.s 135), (some (133, false))⟩] [])
 (.seq (.reg [⟨(some 137), .bin .lss (.c (.int .u8 191)) (.s 136), (some (133, false))⟩] [])
 (.reg [⟨(some 138), .pick (.s 133) (.c (.bool true)) (.s 137), none⟩] [108, 109, 110, 111, 112, 113, 114, 115, 116, 117, 118, 119, 120, 121, 122, 123, 124, 125, 126, 127, 128, 129, 130, 131, 132, 133, 134, 135, 136, 137])))))))))))))))))))))))
 (.cond (.s 138)
 (.seq (.reg [⟨(some 2), .mov (.c (.bool false)), none⟩] [])
 .ret)
 .skip))
 (.reg [⟨(some 139), .mov (.s 0), none⟩,
 ⟨(some 140), .slc 1 (.s 139) (some (.c (.int .i64 3))) none none, none⟩,
 ⟨(some 0), .mov (.s 140), none⟩] [139, 140]))
 (.seq (.reg [⟨(some 142), .bin .eql (.s 82) (.c (.int .i64 4)), none⟩,
 ⟨(some 141), .mov (.s 142), none⟩] [142])
 (.cond (.s 141)
 (.seq (.seq (.seq (.reg [⟨(some 143), .mov (.s 0), none⟩] [])
 (.seq (.reg [⟨(some 144), .len (.s 143), none⟩] [])
 (.seq (.reg [⟨(some 145), .bin .lss (.s 144) (.c (.int .i64 4)), none⟩] [])
 (.seq (.reg [⟨(some 146), .mov (.s 145), none⟩] [])
 (.seq (.draw [⟨⟨(some 147), .mov (.s 0), (some (146, false))⟩, []⟩,
 ⟨⟨(some 148), .iadr 1 (.s 147) (.c (.int .i64 1)), (some (146, false))⟩, [0]⟩,
 ⟨⟨(some 149), .load none (.s 148), (some (146, false))⟩, [1, 0]⟩,
 ⟨⟨(some 150), .fadr 0 (.s 6), (some (146, false))⟩, []⟩,
 ⟨⟨(some 151), .load none (.s 150), (some (146, false))⟩, [3]⟩] [] [])
 (.seq (.reg [⟨(some 152), .bin .lss (.s 149) (.s 151), (some (146, false))⟩] [])
 (.seq (.reg [⟨(some 153), .pick (.s 146) (.c (.bool true)) (.s 152), none⟩] [])
 (.seq (.reg [⟨(some 154), .mov (.s 153), none⟩] [])
 (.seq (.draw [⟨⟨(some 155), .fadr 1 (.s 6), (some (154, false))⟩, []⟩,
 ⟨⟨(some 156), .load none (.s 155), (some (154, false))⟩, [0]⟩,
 ⟨⟨(some 157), .mov (.s 0), (some (154, false))⟩, []⟩,
 ⟨⟨(some 158), .iadr 1 (.s 157) (.c (.int .i64 1)), (some (154, false))⟩, [2]⟩,
 ⟨⟨(some 159), .load none (.s 158), (some (154, false))⟩, [3, 2]⟩] [] [])
 (.seq (.reg [⟨(some 160), .bin .lss (.s 156) (.s 159), (some (154, false))⟩] [])
 (.seq (.reg [⟨(some 161), .pick (.s 154) (.c (.bool true)) (.s 160), none⟩] [])
 (.seq (.reg [⟨(some 162), .mov (.s 161), none⟩] [])
 (.seq (.reg [⟨(some 163), .mov (.s 0), (some (162, false))⟩] [])
 (.seq (.reg [⟨(some 164), .iadr 1 (.s 163) (.c (.int .i64 2)), (some (162, false))⟩] [])
 (.seq (.reg [⟨(some 165), .load none (.s 164), (some (162, false))⟩] [])
 (.seq (.reg [⟨(some 166), .bin .lss (.s 165) (.c (.int .u8 128)), (some (162, false))⟩] [])
 (.seq (.reg [⟨(some 167), .pick (.s 162) (.c (.bool true)) (.s 166), none⟩] [])
 (.seq (.reg [⟨(some 168), .mov (.s 167), none⟩] [])
 (.seq (.reg [⟨(some 169), .mov (.s 0), (some (168, false))⟩] [])
 (.seq (.reg [⟨(some 170), .iadr 1 (.s 169) (.c (.int .i64 2)), (some (168, false))⟩] [])
 (.seq (.reg [⟨(some 171), .load none (.s 170), (some (168, false))⟩] [])
 (.seq (.reg [⟨(some 172), .bin .lss (.c (.int .u8 191)) (.s 171), (some (168, false))⟩] [])
 (.seq (.reg [⟨(some 173), .pick (.s 168) (.c (.bool true)) (.s 172), none⟩] [])
 (.seq (.reg [⟨(some 174), .mov (.s 173), none⟩] [])
 (.seq (.reg [⟨(some 175), .mov (.s 0), (some (174, false))⟩] [])
 (.seq (.reg [⟨(some 176), .iadr 1 (.s 175) (.c (.int .i64 3)), (some (174, false))⟩] [])
 (.seq (.reg [⟨(some 177), .load none (.s 176), (some (174, false))⟩] [])
 (.seq (.reg [⟨(some 178), .bin .lss (.s 177) (.c (.int .u8 128)), (some (174, false))⟩] [])
 (.seq (.reg [⟨(some 179), .pick (.s 174) (.c (.bool true)) (.s 178), none⟩] [])
 (.seq (.reg [⟨(some 180), .mov (.s 179), none⟩] [])
 (.seq (.reg [⟨(some 181), .mov (.s 0), (some (180, false))⟩] [])
 (.seq (.reg [⟨(some 182), .iadr 1 (.s 181) (.c (.int .i64 3)), (some (180, false))⟩] [])
 (.seq (.reg [⟨(some 183), .load none (.s 182), (some (180, false))⟩] [])
 (.seq (.reg [⟨(some 184), .bin .lss (.c (.int .u8 191)) (.s 183), (some (180, false))⟩] [])
 (.reg [⟨(some 185), .pick (.s 180) (.c (.bool true)) (.s 184), none⟩] [143, 144, 145, 146, 147, 148, 149, 150, 151, 152, 153, 154, 155, 156, 157, 158, 159, 160, 161, 162, 163, 164, 165, 166, 167, 168, 169, 170, 171, 172, 173, 174, 175, 176, 177, 178, 179, 180, 181, 182, 183, 184])))))))))))))))))))))))))))))))))))
 (.cond (.s 185)
 (.seq (.reg [⟨(some 2), .mov (.c (.bool false)), none⟩] [])
 .ret)
 .skip))
 (.reg [⟨(some 186), .mov (.s 0), none⟩,
 ⟨(some 187), .slc 1 (.s 186) (some (.c (.int .i64 4))) none none, none⟩,
 ⟨(some 0), .mov (.s 187), none⟩] [186, 187]))
 (.seq (.reg [⟨(some 2), .mov (.c (.bool false)), none⟩] [])
 .ret))))))))))))))))))
 (.seq (.reg [⟨(some 2), .mov (.c (.bool true)), none⟩] [])
 .ret))))⟩

theorem c_utf8_Valid : compF Tryd.prog 105 = some F_utf8_Valid := by kernel_rfl
abbrev n_utf8_Valid : FuncId := 105

def F_stringslite_IndexByte : IFun :=
⟨8, 2, [.tmp 4],
 (.seq (.reg [⟨(some 4), .mov (.c (.int .i64 0)), none⟩] [])
 (.seq (.reg [⟨(some 5), .mov (.s 0), none⟩,
 ⟨(some 6), .mov (.s 1), none⟩,
 ⟨(some 7), .sib (.s 5) (.s 6), none⟩,
 ⟨(some 4), .mov (.s 7), none⟩] [5, 6, 7])
 .ret))⟩

theorem c_stringslite_IndexByte : compF Tryd.prog 106 = some F_stringslite_IndexByte := by kernel_rfl
abbrev n_stringslite_IndexByte : FuncId := 106

def F_leb_last : IFun :=
⟨42, 2, [.tmp 4, .tmp 5, .tmp 6],
 (.seq (.reg [⟨(some 4), .mov (.c (.int .i64 0)), none⟩,
 ⟨(some 5), .mov (.c (.int .i64 0)), none⟩,
 ⟨(some 6), .mov (.c (.int .i64 0)), none⟩] [])
 (.seq (.seq (.reg [⟨(some 9), .mov (.s 1), none⟩,
 ⟨(some 10), .bin .lss (.s 9) (.c (.int .i64 1)), none⟩,
 ⟨(some 11), .mov (.s 10), none⟩,
 ⟨(some 12), .mov (.s 1), (some (11, false))⟩,
 ⟨(some 13), .bin .gtr (.s 12) (.c (.int .i64 64)), (some (11, false))⟩,
 ⟨(some 14), .pick (.s 11) (.c (.bool true)) (.s 13), none⟩] [9, 10, 11, 12, 13])
 (.cond (.s 14)
 (.seq (.reg [⟨(some 4), .mov (.c (.int .i64 0)), none⟩,
 ⟨(some 5), .mov (.c (.int .i64 0)), none⟩,
 ⟨(some 6), .mov (.c (.int .i64 1)), none⟩] [])
 .ret)
 .skip))
 (.seq (.reg [⟨(some 15), .mov (.s 1), none⟩,
 ⟨(some 16), .bin .add (.s 15) (.c (.int .i64 6)), none⟩,
 ⟨(some 17), .bin .quo (.s 16) (.c (.int .i64 7)), none⟩,
 ⟨(some 7), .mov (.s 17), none⟩] [15, 16, 17])
 (.seq (.seq (.reg [⟨(some 18), .mov (.s 7), none⟩,
 ⟨(some 19), .mov (.c (.int .i64 0)), none⟩] [])
 (.block 0 (.loop (.seq (.reg [⟨(some 20), .bin .lss (.s 19) (.s 18), none⟩] [])
 (.seq (.cond (.s 20)
 .skip
 (.exit 0))
 (.seq (.block 1 (.seq (.reg [⟨(some 21), .mov (.s 19), none⟩,
 ⟨(some 8), .mov (.s 21), none⟩] [21])
 (.seq (.seq (.reg [⟨(some 22), .mov (.s 8), none⟩,
 ⟨(some 23), .mov (.s 0), none⟩,
 ⟨(some 24), .len (.s 23), none⟩,
 ⟨(some 25), .bin .geq (.s 22) (.s 24), none⟩] [22, 23, 24])
 (.cond (.s 25)
 (.seq (.reg [⟨(some 4), .mov (.c (.int .i64 0)), none⟩,
 ⟨(some 5), .mov (.c (.int .i64 0)), none⟩,
 ⟨(some 6), .mov (.c (.int .i64 3)), none⟩] [])
 .ret)
 .skip))
 (.seq (.seq (.reg [⟨(some 26), .mov (.s 0), none⟩,
 ⟨(some 27), .mov (.s 8), none⟩,
 ⟨(some 28), .iadr 1 (.s 26) (.s 27), none⟩,
 ⟨(some 29), .load none (.s 28), none⟩,
 ⟨(some 30), .bin .geq (.s 29) (.c (.int .u8 128)), none⟩] [26, 27, 28, 29])
 (.cond (.s 30)
 (.exit 1)
 .skip))
 (.seq (.seq (.reg [⟨(some 31), .mov (.s 8), none⟩,
 ⟨(some 32), .mov (.s 7), none⟩,
 ⟨(some 33), .bin .sub (.s 32) (.c (.int .i64 1)), none⟩,
 ⟨(some 34), .bin .eql (.s 31) (.s 33), none⟩] [31, 32, 33])
 (.cond (.s 34)
 (.seq (.reg [⟨(some 35), .mov (.s 8), none⟩,
 ⟨(some 36), .mov (.s 1), none⟩,
 ⟨(some 37), .mov (.s 8), none⟩,
 ⟨(some 38), .bin .mul (.c (.int .i64 7)) (.s 37), none⟩,
 ⟨(some 39), .bin .sub (.s 36) (.s 38), none⟩,
 ⟨(some 4), .mov (.s 35), none⟩,
 ⟨(some 5), .mov (.s 39), none⟩,
 ⟨(some 6), .mov (.c (.int .i64 0)), none⟩] [35, 36, 37, 38, 39])
 .ret)
 .skip))
 (.seq (.reg [⟨(some 40), .mov (.s 8), none⟩,
 ⟨(some 4), .mov (.s 40), none⟩,
 ⟨(some 5), .mov (.c (.int .i64 7)), none⟩,
 ⟨(some 6), .mov (.c (.int .i64 0)), none⟩] [40])
 .ret))))))
 (.reg [⟨(some 41), .bin .add (.s 19) (.c (.int .i64 1)), none⟩,
 ⟨(some 19), .mov (.s 41), none⟩] [41])))))))
 (.seq (.reg [⟨(some 4), .mov (.c (.int .i64 0)), none⟩,
 ⟨(some 5), .mov (.c (.int .i64 0)), none⟩,
 ⟨(some 6), .mov (.c (.int .i64 4)), none⟩] [])
 .ret)))))⟩

theorem c_leb_last : compF Tryd.prog 107 = some F_leb_last := by kernel_rfl
abbrev n_leb_last : FuncId := 107

def F_leb_sum : IFun :=
⟨25, 2, [.tmp 4],
 (.seq (.reg [⟨(some 4), .mov (.c (.int .u64 0)), none⟩] [])
 (.seq (.reg [⟨(some 5), .mov (.c (.int .u64 0)), none⟩] [])
 (.seq (.seq (.reg [⟨(some 7), .mov (.s 1), none⟩,
 ⟨(some 8), .bin .add (.s 7) (.c (.int .i64 1)), none⟩,
 ⟨(some 9), .mov (.c (.int .i64 0)), none⟩] [7])
 (.block 0 (.loop (.seq (.reg [⟨(some 10), .bin .lss (.s 9) (.s 8), none⟩] [])
 (.seq (.cond (.s 10)
 .skip
 (.exit 0))
 (.seq (.block 1 (.seq (.reg [⟨(some 11), .mov (.s 9), none⟩,
 ⟨(some 6), .mov (.s 11), none⟩] [11])
 (.reg [⟨(some 12), .mov (.s 5), none⟩,
 ⟨(some 13), .mov (.s 0), none⟩,
 ⟨(some 14), .mov (.s 6), none⟩,
 ⟨(some 15), .iadr 1 (.s 13) (.s 14), none⟩,
 ⟨(some 16), .load none (.s 15), none⟩,
 ⟨(some 17), .bin .and (.s 16) (.c (.int .u8 127)), none⟩,
 ⟨(some 18), .cvi .u64 (.s 17), none⟩,
 ⟨(some 19), .mov (.s 6), none⟩,
 ⟨(some 20), .bin .mul (.c (.int .i64 7)) (.s 19), none⟩,
 ⟨(some 21), .bin .shl (.s 18) (.s 20), none⟩,
 ⟨(some 22), .bin .or (.s 12) (.s 21), none⟩,
 ⟨(some 5), .mov (.s 22), none⟩] [12, 13, 14, 15, 16, 17, 18, 19, 20, 21, 22])))
 (.reg [⟨(some 23), .bin .add (.s 9) (.c (.int .i64 1)), none⟩,
 ⟨(some 9), .mov (.s 23), none⟩] [23])))))))
 (.seq (.reg [⟨(some 24), .mov (.s 5), none⟩,
 ⟨(some 4), .mov (.s 24), none⟩] [24])
 .ret))))⟩

theorem c_leb_sum : compF Tryd.prog 108 = some F_leb_sum := by kernel_rfl
abbrev n_leb_sum : FuncId := 108

def F_leb_S : IFun :=
⟨63, 2, [.tmp 4, .tmp 5, .tmp 6],
 (.seq (.reg [⟨(some 4), .mov (.c (.int .i64 0)), none⟩,
 ⟨(some 5), .mov (.c (.int .i64 0)), none⟩,
 ⟨(some 6), .mov (.c (.int .i64 0)), none⟩] [])
 (.seq (.reg [⟨(some 14), .mov (.s 0), none⟩,
 ⟨(some 15), .mov (.s 1), none⟩,
 ⟨(some 16), .call 107 [(.s 14), (.s 15)], none⟩,
 ⟨(some 13), .mov (.s 16), none⟩,
 ⟨(some 17), .ext (.s 13) 0, none⟩,
 ⟨(some 18), .ext (.s 13) 1, none⟩,
 ⟨(some 19), .ext (.s 13) 2, none⟩,
 ⟨(some 7), .mov (.s 17), none⟩,
 ⟨(some 8), .mov (.s 18), none⟩,
 ⟨(some 9), .mov (.s 19), none⟩] [14, 15, 16, 13, 17, 18, 19])
 (.seq (.seq (.reg [⟨(some 20), .mov (.s 9), none⟩,
 ⟨(some 21), .bin .neq (.s 20) (.c (.int .i64 0)), none⟩] [20])
 (.cond (.s 21)
 (.seq (.reg [⟨(some 22), .mov (.s 9), none⟩,
 ⟨(some 4), .mov (.c (.int .i64 0)), none⟩,
 ⟨(some 5), .mov (.c (.int .i64 0)), none⟩,
 ⟨(some 6), .mov (.s 22), none⟩] [22])
 .ret)
 .skip))
 (.seq (.reg [⟨(some 23), .mov (.s 0), none⟩,
 ⟨(some 24), .mov (.s 7), none⟩,
 ⟨(some 25), .iadr 1 (.s 23) (.s 24), none⟩,
 ⟨(some 26), .load none (.s 25), none⟩,
 ⟨(some 27), .mov (.s 8), none⟩,
 ⟨(some 28), .bin .sub (.s 27) (.c (.int .i64 1)), none⟩,
 ⟨(some 29), .bin .shr (.s 26) (.s 28), none⟩,
 ⟨(some 10), .mov (.s 29), none⟩] [23, 24, 25, 26, 27, 28, 29])
 (.seq (.seq (.reg [⟨(some 30), .mov (.s 10), none⟩,
 ⟨(some 31), .bin .neq (.s 30) (.c (.int .u8 0)), none⟩,
 ⟨(some 32), .mov (.s 31), none⟩,
 ⟨(some 33), .mov (.s 10), (some (32, true))⟩,
 ⟨(some 34), .mov (.s 8), (some (32, true))⟩,
 ⟨(some 35), .bin .sub (.s 34) (.c (.int .i64 1)), (some (32, true))⟩,
 ⟨(some 36), .bin .shr (.c (.int .u8 127)) (.s 35), (some (32, true))⟩,
 ⟨(some 37), .bin .neq (.s 33) (.s 36), (some (32, true))⟩,
 ⟨(some 38), .pick (.s 32) (.s 37) (.c (.bool false)), none⟩] [30, 31, 32, 33, 34, 35, 36, 37])
 (.cond (.s 38)
 (.seq (.reg [⟨(some 4), .mov (.c (.int .i64 0)), none⟩,
 ⟨(some 5), .mov (.c (.int .i64 0)), none⟩,
 ⟨(some 6), .mov (.c (.int .i64 4)), none⟩] [])
 .ret)
 .skip))
 (.seq (.reg [⟨(some 39), .mov (.s 0), none⟩,
 ⟨(some 40), .mov (.s 7), none⟩,
 ⟨(some 41), .call 108 [(.s 39), (.s 40)], none⟩,
 ⟨(some 11), .mov (.s 41), none⟩] [39, 40, 41])
 (.seq (.seq (.reg [⟨(some 42), .mov (.s 7), none⟩,
 ⟨(some 43), .bin .add (.s 42) (.c (.int .i64 1)), none⟩,
 ⟨(some 44), .bin .mul (.c (.int .i64 7)) (.s 43), none⟩,
 ⟨(some 12), .mov (.s 44), none⟩] [42, 43, 44])
 (.seq (.reg [⟨(some 45), .mov (.s 12), none⟩,
 ⟨(some 46), .bin .lss (.s 45) (.c (.int .i64 64)), none⟩,
 ⟨(some 47), .mov (.s 46), none⟩,
 ⟨(some 48), .mov (.s 0), (some (47, true))⟩,
 ⟨(some 49), .mov (.s 7), (some (47, true))⟩,
 ⟨(some 50), .iadr 1 (.s 48) (.s 49), (some (47, true))⟩,
 ⟨(some 51), .load none (.s 50), (some (47, true))⟩,
 ⟨(some 52), .bin .and (.s 51) (.c (.int .u8 64)), (some (47, true))⟩,
 ⟨(some 53), .bin .neq (.s 52) (.c (.int .u8 0)), (some (47, true))⟩,
 ⟨(some 54), .pick (.s 47) (.s 53) (.c (.bool false)), none⟩] [45, 46, 47, 48, 49, 50, 51, 52, 53])
 (.cond (.s 54)
 (.reg [⟨(some 55), .mov (.s 11), none⟩,
 ⟨(some 56), .mov (.s 12), none⟩,
 ⟨(some 57), .bin .shl (.c (.int .u64 18446744073709551615)) (.s 56), none⟩,
 ⟨(some 58), .bin .or (.s 55) (.s 57), none⟩,
 ⟨(some 11), .mov (.s 58), none⟩] [55, 56, 57, 58])
 .skip)))
 (.seq (.reg [⟨(some 59), .mov (.s 11), none⟩,
 ⟨(some 60), .cvi .i64 (.s 59), none⟩,
 ⟨(some 61), .mov (.s 7), none⟩,
 ⟨(some 62), .bin .add (.s 61) (.c (.int .i64 1)), none⟩,
 ⟨(some 4), .mov (.s 60), none⟩,
 ⟨(some 5), .mov (.s 62), none⟩,
 ⟨(some 6), .mov (.c (.int .i64 0)), none⟩] [59, 60, 61, 62])
 .ret))))))))⟩

theorem c_leb_S : compF Tryd.prog 109 = some F_leb_S := by kernel_rfl
abbrev n_leb_S : FuncId := 109

def F_ref01_U : IFun :=
⟨56, 2, [.tmp 4, .tmp 5, .tmp 6],
 (.seq (.reg [⟨(some 4), .mov (.c (.int .u64 0)), none⟩,
 ⟨(some 5), .mov (.c (.int .i64 0)), none⟩,
 ⟨(some 6), .mov (.c (.int .i64 0)), none⟩] [])
 (.seq (.reg [⟨(some 13), .mov (.s 0), none⟩,
 ⟨(some 14), .mov (.s 1), none⟩,
 ⟨(some 15), .call 114 [(.s 13), (.s 14)], none⟩,
 ⟨(some 12), .mov (.s 15), none⟩,
 ⟨(some 16), .ext (.s 12) 0, none⟩,
 ⟨(some 17), .ext (.s 12) 1, none⟩,
 ⟨(some 7), .mov (.s 16), none⟩,
 ⟨(some 8), .mov (.s 17), none⟩] [13, 14, 15, 12, 16, 17])
 (.seq (.seq (.reg [⟨(some 18), .mov (.s 8), none⟩,
 ⟨(some 19), .bin .neq (.s 18) (.c (.int .i64 0)), none⟩] [18])
 (.cond (.s 19)
 (.seq (.reg [⟨(some 20), .mov (.s 8), none⟩,
 ⟨(some 4), .mov (.c (.int .u64 0)), none⟩,
 ⟨(some 5), .mov (.c (.int .i64 0)), none⟩,
 ⟨(some 6), .mov (.s 20), none⟩] [20])
 .ret)
 .skip))
 (.seq (.reg [⟨(some 21), .mov (.s 1), none⟩,
 ⟨(some 22), .mov (.s 7), none⟩,
 ⟨(some 23), .bin .sub (.s 22) (.c (.int .i64 1)), none⟩,
 ⟨(some 24), .bin .mul (.c (.int .i64 7)) (.s 23), none⟩,
 ⟨(some 25), .bin .sub (.s 21) (.s 24), none⟩,
 ⟨(some 9), .mov (.s 25), none⟩] [21, 22, 23, 24, 25])
 (.seq (.seq (.reg [⟨(some 26), .mov (.s 9), none⟩,
 ⟨(some 27), .bin .lss (.s 26) (.c (.int .i64 7)), none⟩,
 ⟨(some 28), .mov (.s 27), none⟩,
 ⟨(some 29), .mov (.s 0), (some (28, true))⟩,
 ⟨(some 30), .mov (.s 7), (some (28, true))⟩,
 ⟨(some 31), .bin .sub (.s 30) (.c (.int .i64 1)), (some (28, true))⟩,
 ⟨(some 32), .iadr 1 (.s 29) (.s 31), (some (28, true))⟩,
 ⟨(some 33), .load none (.s 32), (some (28, true))⟩,
 ⟨(some 34), .cvi .i64 (.s 33), (some (28, true))⟩,
 ⟨(some 35), .mov (.s 9), (some (28, true))⟩,
 ⟨(some 36), .bin .shr (.s 34) (.s 35), (some (28, true))⟩,
 ⟨(some 37), .bin .neq (.s 36) (.c (.int .i64 0)), (some (28, true))⟩,
 ⟨(some 38), .pick (.s 28) (.s 37) (.c (.bool false)), none⟩] [26, 27, 28, 29, 30, 31, 32, 33, 34, 35, 36, 37])
 (.cond (.s 38)
 (.seq (.reg [⟨(some 4), .mov (.c (.int .u64 0)), none⟩,
 ⟨(some 5), .mov (.c (.int .i64 0)), none⟩,
 ⟨(some 6), .mov (.c (.int .i64 4)), none⟩] [])
 .ret)
 .skip))
 (.seq (.reg [⟨(some 10), .mov (.c (.int .u64 0)), none⟩] [])
 (.seq (.seq (.reg [⟨(some 39), .mov (.s 7), none⟩,
 ⟨(some 40), .bin .sub (.s 39) (.c (.int .i64 1)), none⟩,
 ⟨(some 11), .mov (.s 40), none⟩] [39, 40])
 (.block 0 (.loop (.seq (.seq (.reg [⟨(some 41), .mov (.s 11), none⟩,
 ⟨(some 42), .bin .geq (.s 41) (.c (.int .i64 0)), none⟩] [41])
 (.cond (.s 42)
 .skip
 (.exit 0)))
 (.seq (.block 1 (.reg [⟨(some 45), .mov (.s 10), none⟩,
 ⟨(some 46), .bin .mul (.s 45) (.c (.int .u64 128)), none⟩,
 ⟨(some 47), .mov (.s 0), none⟩,
 ⟨(some 48), .mov (.s 11), none⟩,
 ⟨(some 49), .iadr 1 (.s 47) (.s 48), none⟩,
 ⟨(some 50), .load none (.s 49), none⟩,
 ⟨(some 51), .bin .rem (.s 50) (.c (.int .u8 128)), none⟩,
 ⟨(some 52), .cvi .u64 (.s 51), none⟩,
 ⟨(some 53), .bin .add (.s 46) (.s 52), none⟩,
 ⟨(some 10), .mov (.s 53), none⟩] [45, 46, 47, 48, 49, 50, 51, 52, 53]))
 (.reg [⟨(some 43), .mov (.s 11), none⟩,
 ⟨(some 44), .bin .sub (.s 43) (.c (.int .i64 1)), none⟩,
 ⟨(some 11), .mov (.s 44), none⟩] [43, 44]))))))
 (.seq (.reg [⟨(some 54), .mov (.s 10), none⟩,
 ⟨(some 55), .mov (.s 7), none⟩,
 ⟨(some 4), .mov (.s 54), none⟩,
 ⟨(some 5), .mov (.s 55), none⟩,
 ⟨(some 6), .mov (.c (.int .i64 0)), none⟩] [54, 55])
 .ret))))))))⟩

theorem c_ref01_U : compF Tryd.prog 110 = some F_ref01_U := by kernel_rfl
abbrev n_ref01_U : FuncId := 110

def F_ref01_S : IFun :=
⟨71, 2, [.tmp 4, .tmp 5, .tmp 6],
 (.seq (.reg [⟨(some 4), .mov (.c (.int .i64 0)), none⟩,
 ⟨(some 5), .mov (.c (.int .i64 0)), none⟩,
 ⟨(some 6), .mov (.c (.int .i64 0)), none⟩] [])
 (.seq (.reg [⟨(some 14), .mov (.s 0), none⟩,
 ⟨(some 15), .mov (.s 1), none⟩,
 ⟨(some 16), .call 114 [(.s 14), (.s 15)], none⟩,
 ⟨(some 13), .mov (.s 16), none⟩,
 ⟨(some 17), .ext (.s 13) 0, none⟩,
 ⟨(some 18), .ext (.s 13) 1, none⟩,
 ⟨(some 7), .mov (.s 17), none⟩,
 ⟨(some 8), .mov (.s 18), none⟩] [14, 15, 16, 13, 17, 18])
 (.seq (.seq (.reg [⟨(some 19), .mov (.s 8), none⟩,
 ⟨(some 20), .bin .neq (.s 19) (.c (.int .i64 0)), none⟩] [19])
 (.cond (.s 20)
 (.seq (.reg [⟨(some 21), .mov (.s 8), none⟩,
 ⟨(some 4), .mov (.c (.int .i64 0)), none⟩,
 ⟨(some 5), .mov (.c (.int .i64 0)), none⟩,
 ⟨(some 6), .mov (.s 21), none⟩] [21])
 .ret)
 .skip))
 (.seq (.reg [⟨(some 22), .mov (.s 1), none⟩,
 ⟨(some 23), .mov (.s 7), none⟩,
 ⟨(some 24), .bin .sub (.s 23) (.c (.int .i64 1)), none⟩,
 ⟨(some 25), .bin .mul (.c (.int .i64 7)) (.s 24), none⟩,
 ⟨(some 26), .bin .sub (.s 22) (.s 25), none⟩,
 ⟨(some 9), .mov (.s 26), none⟩] [22, 23, 24, 25, 26])
 (.seq (.seq (.reg [⟨(some 27), .mov (.s 9), none⟩,
 ⟨(some 28), .bin .lss (.s 27) (.c (.int .i64 7)), none⟩] [27])
 (.cond (.s 28)
 (.seq (.reg [⟨(some 29), .mov (.s 0), none⟩,
 ⟨(some 30), .mov (.s 7), none⟩,
 ⟨(some 31), .bin .sub (.s 30) (.c (.int .i64 1)), none⟩,
 ⟨(some 32), .iadr 1 (.s 29) (.s 31), none⟩,
 ⟨(some 33), .load none (.s 32), none⟩,
 ⟨(some 34), .cvi .i64 (.s 33), none⟩,
 ⟨(some 35), .mov (.s 9), none⟩,
 ⟨(some 36), .bin .sub (.s 35) (.c (.int .i64 1)), none⟩,
 ⟨(some 37), .bin .shr (.s 34) (.s 36), none⟩,
 ⟨(some 10), .mov (.s 37), none⟩] [29, 30, 31, 32, 33, 34, 35, 36, 37])
 (.seq (.reg [⟨(some 38), .mov (.s 10), none⟩,
 ⟨(some 39), .bin .neq (.s 38) (.c (.int .i64 0)), none⟩,
 ⟨(some 40), .mov (.s 39), none⟩,
 ⟨(some 41), .mov (.s 10), (some (40, true))⟩,
 ⟨(some 42), .mov (.s 9), (some (40, true))⟩,
 ⟨(some 43), .bin .sub (.c (.int .i64 8)) (.s 42), (some (40, true))⟩,
 ⟨(some 44), .bin .shl (.c (.int .i64 1)) (.s 43), (some (40, true))⟩,
 ⟨(some 45), .bin .sub (.s 44) (.c (.int .i64 1)), (some (40, true))⟩,
 ⟨(some 46), .bin .neq (.s 41) (.s 45), (some (40, true))⟩,
 ⟨(some 47), .pick (.s 40) (.s 46) (.c (.bool false)), none⟩] [38, 39, 40, 41, 42, 43, 44, 45, 46])
 (.cond (.s 47)
 (.seq (.reg [⟨(some 4), .mov (.c (.int .i64 0)), none⟩,
 ⟨(some 5), .mov (.c (.int .i64 0)), none⟩,
 ⟨(some 6), .mov (.c (.int .i64 4)), none⟩] [])
 .ret)
 .skip)))
 .skip))
 (.seq (.reg [⟨(some 11), .mov (.c (.int .i64 0)), none⟩] [])
 (.seq (.seq (.reg [⟨(some 48), .mov (.s 0), none⟩,
 ⟨(some 49), .mov (.s 7), none⟩,
 ⟨(some 50), .bin .sub (.s 49) (.c (.int .i64 1)), none⟩,
 ⟨(some 51), .iadr 1 (.s 48) (.s 50), none⟩,
 ⟨(some 52), .load none (.s 51), none⟩,
 ⟨(some 53), .bin .geq (.s 52) (.c (.int .u8 64)), none⟩] [48, 49, 50, 51, 52])
 (.cond (.s 53)
 (.reg [⟨(some 11), .mov (.c (.int .i64 (-1))), none⟩] [])
 .skip))
 (.seq (.seq (.reg [⟨(some 54), .mov (.s 7), none⟩,
 ⟨(some 55), .bin .sub (.s 54) (.c (.int .i64 1)), none⟩,
 ⟨(some 12), .mov (.s 55), none⟩] [54, 55])
 (.block 0 (.loop (.seq (.seq (.reg [⟨(some 56), .mov (.s 12), none⟩,
 ⟨(some 57), .bin .geq (.s 56) (.c (.int .i64 0)), none⟩] [56])
 (.cond (.s 57)
 .skip
 (.exit 0)))
 (.seq (.block 1 (.reg [⟨(some 60), .mov (.s 11), none⟩,
 ⟨(some 61), .bin .mul (.s 60) (.c (.int .i64 128)), none⟩,
 ⟨(some 62), .mov (.s 0), none⟩,
 ⟨(some 63), .mov (.s 12), none⟩,
 ⟨(some 64), .iadr 1 (.s 62) (.s 63), none⟩,
 ⟨(some 65), .load none (.s 64), none⟩,
 ⟨(some 66), .bin .rem (.s 65) (.c (.int .u8 128)), none⟩,
 ⟨(some 67), .cvi .i64 (.s 66), none⟩,
 ⟨(some 68), .bin .add (.s 61) (.s 67), none⟩,
 ⟨(some 11), .mov (.s 68), none⟩] [60, 61, 62, 63, 64, 65, 66, 67, 68]))
 (.reg [⟨(some 58), .mov (.s 12), none⟩,
 ⟨(some 59), .bin .sub (.s 58) (.c (.int .i64 1)), none⟩,
 ⟨(some 12), .mov (.s 59), none⟩] [58, 59]))))))
 (.seq (.reg [⟨(some 69), .mov (.s 11), none⟩,
 ⟨(some 70), .mov (.s 7), none⟩,
 ⟨(some 4), .mov (.s 69), none⟩,
 ⟨(some 5), .mov (.s 70), none⟩,
 ⟨(some 6), .mov (.c (.int .i64 0)), none⟩] [69, 70])
 .ret)))))))))⟩

theorem c_ref01_S : compF Tryd.prog 111 = some F_ref01_S := by kernel_rfl
abbrev n_ref01_S : FuncId := 111

def F_utf8_word_byte : IFun :=
⟨71, 1, [.tmp 2],
 (.seq (.reg [⟨(some 2), .mov (.c (.int .u64 0)), none⟩] [])
 (.seq (.cond (.c (.bool false))
 (.seq (.seq (.draw [⟨⟨(some 3), .mov (.s 0), none⟩, []⟩,
 ⟨⟨(some 4), .iadr 1 (.s 3) (.c (.int .i64 0)), none⟩, [0]⟩,
 ⟨⟨(some 5), .load none (.s 4), none⟩, [1, 0]⟩,
 ⟨⟨(some 6), .cvi .u64 (.s 5), none⟩, [2, 1, 0]⟩,
 ⟨⟨(some 7), .mov (.s 0), none⟩, []⟩,
 ⟨⟨(some 8), .iadr 1 (.s 7) (.c (.int .i64 1)), none⟩, [4]⟩,
 ⟨⟨(some 9), .load none (.s 8), none⟩, [5, 4]⟩,
 ⟨⟨(some 10), .cvi .u64 (.s 9), none⟩, [6, 5, 4]⟩,
 ⟨⟨(some 11), .bin .shl (.s 10) (.c (.int .u64 8)), none⟩, [7, 6, 5, 4]⟩,
 ⟨⟨(some 12), .bin .or (.s 6) (.s 11), none⟩, [3, 2, 1, 0, 8, 7, 6, 5, 4]⟩,
 ⟨⟨(some 13), .mov (.s 0), none⟩, []⟩,
 ⟨⟨(some 14), .iadr 1 (.s 13) (.c (.int .i64 2)), none⟩, [10]⟩,
 ⟨⟨(some 15), .load none (.s 14), none⟩, [11, 10]⟩,
 ⟨⟨(some 16), .cvi .u64 (.s 15), none⟩, [12, 11, 10]⟩,
 ⟨⟨(some 17), .bin .shl (.s 16) (.c (.int .u64 16)), none⟩, [13, 12, 11, 10]⟩,
 ⟨⟨(some 18), .bin .or (.s 12) (.s 17), none⟩, [9, 3, 2, 1, 0, 8, 7, 6, 5, 4, 14, 13, 12, 11, 10]⟩,
 ⟨⟨(some 19), .mov (.s 0), none⟩, []⟩,
 ⟨⟨(some 20), .iadr 1 (.s 19) (.c (.int .i64 3)), none⟩, [16]⟩,
 ⟨⟨(some 21), .load none (.s 20), none⟩, [17, 16]⟩,
 ⟨⟨(some 22), .cvi .u64 (.s 21), none⟩, [18, 17, 16]⟩,
 ⟨⟨(some 23), .bin .shl (.s 22) (.c (.int .u64 24)), none⟩, [19, 18, 17, 16]⟩] [] [])
 (.seq (.reg [⟨(some 24), .bin .or (.s 18) (.s 23), none⟩] [])
 (.reg [⟨(some 2), .mov (.s 24), none⟩] [3, 4, 5, 6, 7, 8, 9, 10, 11, 12, 13, 14, 15, 16, 17, 18, 19, 20, 21, 22, 23, 24])))
 .ret)
 .skip)
 (.seq (.seq (.draw [⟨⟨(some 25), .mov (.s 0), none⟩, []⟩,
 ⟨⟨(some 26), .iadr 1 (.s 25) (.c (.int .i64 0)), none⟩, [0]⟩,
 ⟨⟨(some 27), .load none (.s 26), none⟩, [1, 0]⟩,
 ⟨⟨(some 28), .cvi .u64 (.s 27), none⟩, [2, 1, 0]⟩,
 ⟨⟨(some 29), .mov (.s 0), none⟩, []⟩,
 ⟨⟨(some 30), .iadr 1 (.s 29) (.c (.int .i64 1)), none⟩, [4]⟩,
 ⟨⟨(some 31), .load none (.s 30), none⟩, [5, 4]⟩,
 ⟨⟨(some 32), .cvi .u64 (.s 31), none⟩, [6, 5, 4]⟩,
 ⟨⟨(some 33), .bin .shl (.s 32) (.c (.int .u64 8)), none⟩, [7, 6, 5, 4]⟩,
 ⟨⟨(some 34), .bin .or (.s 28) (.s 33), none⟩, [3, 2, 1, 0, 8, 7, 6, 5, 4]⟩,
 ⟨⟨(some 35), .mov (.s 0), none⟩, []⟩,
 ⟨⟨(some 36), .iadr 1 (.s 35) (.c (.int .i64 2)), none⟩, [10]⟩,
 ⟨⟨(some 37), .load none (.s 36), none⟩, [11, 10]⟩,
 ⟨⟨(some 38), .cvi .u64 (.s 37), none⟩, [12, 11, 10]⟩,
 ⟨⟨(some 39), .bin .shl (.s 38) (.c (.int .u64 16)), none⟩, [13, 12, 11, 10]⟩,
 ⟨⟨(some 40), .bin .or (.s 34) (.s 39), none⟩, [9, 3, 2, 1, 0, 8, 7, 6, 5, 4, 14, 13, 12, 11, 10]⟩,
 ⟨⟨(some 41), .mov (.s 0), none⟩, []⟩,
 ⟨⟨(some 42), .iadr 1 (.s 41) (.c (.int .i64 3)), none⟩, [16]⟩,
 ⟨⟨(some 43), .load none (.s 42), none⟩, [17, 16]⟩,
 ⟨⟨(some 44), .cvi .u64 (.s 43), none⟩, [18, 17, 16]⟩,
 ⟨⟨(some 45), .bin .shl (.s 44) (.c (.int .u64 24)), none⟩, [19, 18, 17, 16]⟩,
 ⟨⟨(some 46), .bin .or (.s 40) (.s 45), none⟩, [15, 9, 3, 2, 1, 0, 8, 7, 6, 5, 4, 14, 13, 12, 11, 10, 20, 19, 18, 17, 16]⟩,
 ⟨⟨(some 47), .mov (.s 0), none⟩, []⟩,
 ⟨⟨(some 48), .iadr 1 (.s 47) (.c (.int .i64 4)), none⟩, [22]⟩,
 ⟨⟨(some 49), .load none (.s 48), none⟩, [23, 22]⟩,
 ⟨⟨(some 50), .cvi .u64 (.s 49), none⟩, [24, 23, 22]⟩,
 ⟨⟨(some 51), .bin .shl (.s 50) (.c (.int .u64 32)), none⟩, [25, 24, 23, 22]⟩,
 ⟨⟨(some 52), .bin .or (.s 46) (.s 51), none⟩, [21, 15, 9, 3, 2, 1, 0, 8, 7, 6, 5, 4, 14, 13, 12, 11, 10, 20, 19, 18, 17, 16, 26, 25, 24, 23, 22]⟩,
 ⟨⟨(some 53), .mov (.s 0), none⟩, []⟩,
 ⟨⟨(some 54), .iadr 1 (.s 53) (.c (.int .i64 5)), none⟩, [28]⟩,
 ⟨⟨(some 55), .load none (.s 54), none⟩, [29, 28]⟩,
 ⟨⟨(some 56), .cvi .u64 (.s 55), none⟩, [30, 29, 28]⟩,
 ⟨⟨(some 57), .bin .shl (.s 56) (.c (.int .u64 40)), none⟩, [31, 30, 29, 28]⟩,
 ⟨⟨(some 58), .bin .or (.s 52) (.s 57), none⟩, [27, 21, 15, 9, 3, 2, 1, 0, 8, 7, 6, 5, 4, 14, 13, 12, 11, 10, 20, 19, 18, 17, 16, 26, 25, 24, 23, 22, 32, 31, 30, 29, 28]⟩,
 ⟨⟨(some 59), .mov (.s 0), none⟩, []⟩,
 ⟨⟨(some 60), .iadr 1 (.s 59) (.c (.int .i64 6)), none⟩, [34]⟩,
 ⟨⟨(some 61), .load none (.s 60), none⟩, [35, 34]⟩,
 ⟨⟨(some 62), .cvi .u64 (.s 61), none⟩, [36, 35, 34]⟩,
 ⟨⟨(some 63), .bin .shl (.s 62) (.c (.int .u64 48)), none⟩, [37, 36, 35, 34]⟩,
 ⟨⟨(some 64), .bin .or (.s 58) (.s 63), none⟩, [33, 27, 21, 15, 9, 3, 2, 1, 0, 8, 7, 6, 5, 4, 14, 13, 12, 11, 10, 20, 19, 18, 17, 16, 26, 25, 24, 23, 22, 32, 31, 30, 29, 28, 38, 37, 36, 35, 34]⟩,
 ⟨⟨(some 65), .mov (.s 0), none⟩, []⟩,
 ⟨⟨(some 66), .iadr 1 (.s 65) (.c (.int .i64 7)), none⟩, [40]⟩,
 ⟨⟨(some 67), .load none (.s 66), none⟩, [41, 40]⟩,
 ⟨⟨(some 68), .cvi .u64 (.s 67), none⟩, [42, 41, 40]⟩,
 ⟨⟨(some 69), .bin .shl (.s 68) (.c (.int .u64 56)), none⟩, [43, 42, 41, 40]⟩] [] [])
 (.seq (.reg [⟨(some 70), .bin .or (.s 64) (.s 69), none⟩] [])
 (.reg [⟨(some 2), .mov (.s 70), none⟩] [25, 26, 27, 28, 29, 30, 31, 32, 33, 34, 35, 36, 37, 38, 39, 40, 41, 42, 43, 44, 45, 46, 47, 48, 49, 50, 51, 52, 53, 54, 55, 56, 57, 58, 59, 60, 61, 62, 63, 64, 65, 66, 67, 68, 69, 70])))
 .ret)))⟩

theorem c_utf8_word_byte : compF Tryd.prog 112 = some F_utf8_word_byte := by kernel_rfl
abbrev n_utf8_word_byte : FuncId := 112

def F_ref01_form : IFun :=
⟨39, 2, [.tmp 4, .tmp 5],
 (.seq (.reg [⟨(some 4), .mov (.c (.int .i64 0)), none⟩,
 ⟨(some 5), .mov (.c (.int .i64 0)), none⟩] [])
 (.seq (.seq (.reg [⟨(some 8), .mov (.s 1), none⟩,
 ⟨(some 9), .bin .lss (.s 8) (.c (.int .i64 1)), none⟩,
 ⟨(some 10), .mov (.s 9), none⟩,
 ⟨(some 11), .mov (.s 1), (some (10, false))⟩,
 ⟨(some 12), .bin .gtr (.s 11) (.c (.int .i64 64)), (some (10, false))⟩,
 ⟨(some 13), .pick (.s 10) (.c (.bool true)) (.s 12), none⟩] [8, 9, 10, 11, 12])
 (.cond (.s 13)
 (.seq (.reg [⟨(some 4), .mov (.c (.int .i64 0)), none⟩,
 ⟨(some 5), .mov (.c (.int .i64 1)), none⟩] [])
 .ret)
 .skip))
 (.seq (.reg [⟨(some 14), .mov (.s 1), none⟩,
 ⟨(some 15), .bin .add (.s 14) (.c (.int .i64 6)), none⟩,
 ⟨(some 16), .bin .quo (.s 15) (.c (.int .i64 7)), none⟩,
 ⟨(some 6), .mov (.s 16), none⟩] [14, 15, 16])
 (.seq (.seq (.reg [⟨(some 7), .mov (.c (.int .i64 0)), none⟩] [])
 (.block 0 (.loop (.seq (.seq (.reg [⟨(some 17), .mov (.s 7), none⟩,
 ⟨(some 18), .mov (.s 0), none⟩,
 ⟨(some 19), .len (.s 18), none⟩,
 ⟨(some 20), .bin .lss (.s 17) (.s 19), none⟩,
 ⟨(some 21), .mov (.s 20), none⟩,
 ⟨(some 22), .mov (.s 7), (some (21, true))⟩,
 ⟨(some 23), .mov (.s 6), (some (21, true))⟩,
 ⟨(some 24), .bin .lss (.s 22) (.s 23), (some (21, true))⟩,
 ⟨(some 25), .pick (.s 21) (.s 24) (.c (.bool false)), none⟩] [17, 18, 19, 20, 21, 22, 23, 24])
 (.cond (.s 25)
 .skip
 (.exit 0)))
 (.seq (.block 1 (.seq (.reg [⟨(some 28), .mov (.s 0), none⟩,
 ⟨(some 29), .mov (.s 7), none⟩,
 ⟨(some 30), .iadr 1 (.s 28) (.s 29), none⟩,
 ⟨(some 31), .load none (.s 30), none⟩,
 ⟨(some 32), .bin .lss (.s 31) (.c (.int .u8 128)), none⟩] [28, 29, 30, 31])
 (.cond (.s 32)
 (.seq (.reg [⟨(some 33), .mov (.s 7), none⟩,
 ⟨(some 34), .bin .add (.s 33) (.c (.int .i64 1)), none⟩,
 ⟨(some 4), .mov (.s 34), none⟩,
 ⟨(some 5), .mov (.c (.int .i64 0)), none⟩] [33, 34])
 .ret)
 .skip)))
 (.reg [⟨(some 26), .mov (.s 7), none⟩,
 ⟨(some 27), .bin .add (.s 26) (.c (.int .i64 1)), none⟩,
 ⟨(some 7), .mov (.s 27), none⟩] [26, 27]))))))
 (.seq (.seq (.reg [⟨(some 35), .mov (.s 0), none⟩,
 ⟨(some 36), .len (.s 35), none⟩,
 ⟨(some 37), .mov (.s 6), none⟩,
 ⟨(some 38), .bin .lss (.s 36) (.s 37), none⟩] [35, 36, 37])
 (.cond (.s 38)
 (.seq (.reg [⟨(some 4), .mov (.c (.int .i64 0)), none⟩,
 ⟨(some 5), .mov (.c (.int .i64 3)), none⟩] [])
 .ret)
 .skip))
 (.seq (.reg [⟨(some 4), .mov (.c (.int .i64 0)), none⟩,
 ⟨(some 5), .mov (.c (.int .i64 4)), none⟩] [])
 .ret))))))⟩

theorem c_ref01_form : compF Tryd.prog 114 = some F_ref01_form := by kernel_rfl
abbrev n_ref01_form : FuncId := 114

theorem mixed : Tryd.prog.follows .mixedOrders = true := by kernel_rfl
end Go.Proofs.YtkejmhpodhbeeaaDoor
