import Derived.Test.YtlmnepdibhdpaaaMwU
import Derived.Test.YtlmnepdibhdpaaaProg
import Derived.KernelRfl
namespace Go.Proofs.Ytlmnepdibhdpaaa
open Go.Mw

/-- millwright/millwrightlaw09.NestChecks -/
def F_law09_NestChecks : IFun :=
⟨32, 1, [.tmp 2],
  (.seq (.reg [⟨(some 2), .mov (.c (.bool false)), none⟩] [])
  (.seq (.seq (.reg [⟨(some 7), .mov (.s 0), none⟩,
    ⟨(some 8), .len (.s 7), none⟩,
    ⟨(some 9), .bin .gtr (.s 8) (.c (.int .i64 150)), none⟩] [7, 8])
  (.cond (.s 9)
   (.seq (.reg [⟨(some 10), .call 8 [], none⟩,
     ⟨(some 2), .mov (.s 10), none⟩] [10])
   .ret)
   .skip))
  (.seq (.reg [⟨(some 12), .mov (.s 0), none⟩,
    ⟨(some 13), .call 9 [(.s 12)], none⟩,
    ⟨(some 11), .mov (.s 13), none⟩,
    ⟨(some 14), .ext (.s 11) 0, none⟩,
    ⟨(some 15), .ext (.s 11) 1, none⟩,
    ⟨(some 3), .mov (.s 14), none⟩,
    ⟨(some 4), .mov (.s 15), none⟩] [12, 13, 11, 14, 15])
  (.seq (.reg [⟨(some 17), .mov (.s 0), none⟩,
    ⟨(some 18), .call 10 [(.s 17)], none⟩,
    ⟨(some 16), .mov (.s 18), none⟩,
    ⟨(some 19), .ext (.s 16) 0, none⟩,
    ⟨(some 20), .ext (.s 16) 1, none⟩,
    ⟨(some 5), .mov (.s 19), none⟩,
    ⟨(some 6), .mov (.s 20), none⟩] [17, 18, 16, 19, 20])
  (.seq (.reg [⟨(some 21), .mov (.s 3), none⟩,
    ⟨(some 22), .mov (.s 5), none⟩,
    ⟨(some 23), .bin .eql (.s 21) (.s 22), none⟩,
    ⟨(some 24), .mov (.s 23), none⟩,
    ⟨(some 25), .mov (.s 4), (some (24, true))⟩,
    ⟨(some 26), .mov (.s 6), (some (24, true))⟩,
    ⟨(some 27), .bin .eql (.s 25) (.s 26), (some (24, true))⟩,
    ⟨(some 28), .pick (.s 24) (.s 27) (.c (.bool false)), none⟩,
    ⟨(some 29), .mov (.s 28), none⟩,
    ⟨(some 30), .call 8 [], (some (29, true))⟩,
    ⟨(some 31), .pick (.s 29) (.s 30) (.c (.bool false)), none⟩,
    ⟨(some 2), .mov (.s 31), none⟩] [21, 22, 23, 24, 25, 26, 27, 28, 29, 30, 31])
  .ret)))))⟩

theorem c_law09_NestChecks : compF Try.prog 3 = some F_law09_NestChecks := by kernel_rfl
abbrev n_law09_NestChecks : FuncId := 3

/-- millwright/millwrightlaw09.NestBlocks -/
def F_law09_NestBlocks : IFun :=
⟨36, 1, [.tmp 2],
  (.seq (.reg [⟨(some 2), .mov (.c (.bool false)), none⟩] [])
  (.seq (.seq (.reg [⟨(some 3), .mov (.s 0), none⟩,
    ⟨(some 4), .len (.s 3), none⟩,
    ⟨(some 5), .bin .gtr (.s 4) (.c (.int .i64 120)), none⟩] [3, 4])
  (.cond (.s 5)
   (.seq (.reg [⟨(some 6), .call 8 [], none⟩,
     ⟨(some 2), .mov (.s 6), none⟩] [6])
   .ret)
   .skip))
  (.seq (.reg [⟨(some 7), .mov (.s 0), none⟩,
    ⟨(some 8), .call 12 [(.s 7)], none⟩,
    ⟨(some 9), .mov (.s 0), none⟩,
    ⟨(some 10), .call 13 [(.s 9)], none⟩,
    ⟨(some 11), .call 11 [(.s 8), (.s 10)], none⟩,
    ⟨(some 12), .mov (.s 11), none⟩,
    ⟨(some 13), .mov (.s 0), (some (12, true))⟩,
    ⟨(some 14), .call 14 [(.s 13)], (some (12, true))⟩,
    ⟨(some 15), .mov (.s 0), (some (12, true))⟩,
    ⟨(some 16), .call 15 [(.s 15)], (some (12, true))⟩,
    ⟨(some 17), .call 11 [(.s 14), (.s 16)], (some (12, true))⟩,
    ⟨(some 18), .pick (.s 12) (.s 17) (.c (.bool false)), none⟩,
    ⟨(some 19), .mov (.s 18), none⟩,
    ⟨(some 20), .mov (.s 0), (some (19, true))⟩,
    ⟨(some 21), .call 16 [(.s 20)], (some (19, true))⟩,
    ⟨(some 22), .mov (.s 0), (some (19, true))⟩,
    ⟨(some 23), .call 17 [(.s 22)], (some (19, true))⟩,
    ⟨(some 24), .call 11 [(.s 21), (.s 23)], (some (19, true))⟩,
    ⟨(some 25), .pick (.s 19) (.s 24) (.c (.bool false)), none⟩,
    ⟨(some 26), .mov (.s 25), none⟩,
    ⟨(some 27), .mov (.s 0), (some (26, true))⟩,
    ⟨(some 28), .call 18 [(.s 27)], (some (26, true))⟩,
    ⟨(some 29), .mov (.s 0), (some (26, true))⟩,
    ⟨(some 30), .call 19 [(.s 29)], (some (26, true))⟩,
    ⟨(some 31), .call 11 [(.s 28), (.s 30)], (some (26, true))⟩,
    ⟨(some 32), .pick (.s 26) (.s 31) (.c (.bool false)), none⟩,
    ⟨(some 33), .mov (.s 32), none⟩,
    ⟨(some 34), .call 8 [], (some (33, true))⟩,
    ⟨(some 35), .pick (.s 33) (.s 34) (.c (.bool false)), none⟩,
    ⟨(some 2), .mov (.s 35), none⟩] [7, 8, 9, 10, 11, 12, 13, 14, 15, 16, 17, 18, 19, 20, 21, 22, 23, 24, 25, 26, 27, 28, 29, 30, 31, 32, 33, 34, 35])
  .ret)))⟩

theorem c_law09_NestBlocks : compF Try.prog 4 = some F_law09_NestBlocks := by kernel_rfl
abbrev n_law09_NestBlocks : FuncId := 4

/-- millwright/millwrightlaw09.NestTargets -/
def F_law09_NestTargets : IFun :=
⟨40, 3, [.tmp 6],
  (.seq (.reg [⟨(some 6), .mov (.c (.bool false)), none⟩] [])
  (.seq (.seq (.reg [⟨(some 11), .mov (.s 0), none⟩,
    ⟨(some 12), .len (.s 11), none⟩,
    ⟨(some 13), .bin .gtr (.s 12) (.c (.int .i64 100)), none⟩] [11, 12])
  (.cond (.s 13)
   (.seq (.reg [⟨(some 14), .call 8 [], none⟩,
     ⟨(some 6), .mov (.s 14), none⟩] [14])
   .ret)
   .skip))
  (.seq (.reg [⟨(some 16), .mov (.s 0), none⟩,
    ⟨(some 17), .mov (.s 1), none⟩,
    ⟨(some 18), .mov (.s 2), none⟩,
    ⟨(some 19), .call 20 [(.s 16), (.s 17), (.s 18)], none⟩,
    ⟨(some 15), .mov (.s 19), none⟩,
    ⟨(some 20), .ext (.s 15) 0, none⟩,
    ⟨(some 21), .ext (.s 15) 1, none⟩,
    ⟨(some 7), .mov (.s 20), none⟩,
    ⟨(some 8), .mov (.s 21), none⟩] [16, 17, 18, 19, 15, 20, 21])
  (.seq (.reg [⟨(some 23), .mov (.s 0), none⟩,
    ⟨(some 24), .mov (.s 1), none⟩,
    ⟨(some 25), .mov (.s 2), none⟩,
    ⟨(some 26), .call 21 [(.s 23), (.s 24), (.s 25)], none⟩,
    ⟨(some 22), .mov (.s 26), none⟩,
    ⟨(some 27), .ext (.s 22) 0, none⟩,
    ⟨(some 28), .ext (.s 22) 1, none⟩,
    ⟨(some 9), .mov (.s 27), none⟩,
    ⟨(some 10), .mov (.s 28), none⟩] [23, 24, 25, 26, 22, 27, 28])
  (.seq (.reg [⟨(some 29), .mov (.s 7), none⟩,
    ⟨(some 30), .mov (.s 9), none⟩,
    ⟨(some 31), .bin .eql (.s 29) (.s 30), none⟩,
    ⟨(some 32), .mov (.s 31), none⟩,
    ⟨(some 33), .mov (.s 8), (some (32, true))⟩,
    ⟨(some 34), .mov (.s 10), (some (32, true))⟩,
    ⟨(some 35), .bbin .eql (.s 33) (.s 34), (some (32, true))⟩,
    ⟨(some 36), .pick (.s 32) (.s 35) (.c (.bool false)), none⟩,
    ⟨(some 37), .mov (.s 36), none⟩,
    ⟨(some 38), .call 8 [], (some (37, true))⟩,
    ⟨(some 39), .pick (.s 37) (.s 38) (.c (.bool false)), none⟩,
    ⟨(some 6), .mov (.s 39), none⟩] [29, 30, 31, 32, 33, 34, 35, 36, 37, 38, 39])
  .ret)))))⟩

theorem c_law09_NestTargets : compF Try.prog 5 = some F_law09_NestTargets := by kernel_rfl
abbrev n_law09_NestTargets : FuncId := 5

/-- millwright/millwrightlaw09.NestWithin -/
def F_law09_NestWithin : IFun :=
⟨207, 1, [.tmp 2],
  (.seq (.reg [⟨(some 2), .mov (.c (.bool false)), none⟩] [])
  (.seq (.seq (.reg [⟨(some 11), .mov (.s 0), none⟩,
    ⟨(some 12), .len (.s 11), none⟩,
    ⟨(some 13), .bin .gtr (.s 12) (.c (.int .i64 200)), none⟩] [11, 12])
  (.cond (.s 13)
   (.seq (.reg [⟨(some 14), .call 8 [], none⟩,
     ⟨(some 2), .mov (.s 14), none⟩] [14])
   .ret)
   .skip))
  (.seq (.seq (.reg [⟨(some 16), .mov (.s 0), none⟩,
    ⟨(some 17), .call 9 [(.s 16)], none⟩,
    ⟨(some 15), .mov (.s 17), none⟩,
    ⟨(some 18), .ext (.s 15) 0, none⟩,
    ⟨(some 19), .ext (.s 15) 1, none⟩,
    ⟨(some 3), .mov (.s 18), none⟩,
    ⟨(some 4), .mov (.s 19), none⟩] [16, 17, 15, 18, 19, 3])
  (.seq (.reg [⟨(some 20), .mov (.s 4), none⟩,
    ⟨(some 21), .bin .neq (.s 20) (.c (.int .i64 0)), none⟩] [20])
  (.cond (.s 21)
   (.seq (.reg [⟨(some 22), .mov (.s 0), none⟩,
     ⟨(some 23), .call 12 [(.s 22)], none⟩,
     ⟨(some 24), .len (.s 23), none⟩,
     ⟨(some 25), .mov (.s 0), none⟩,
     ⟨(some 26), .call 14 [(.s 25)], none⟩,
     ⟨(some 27), .len (.s 26), none⟩,
     ⟨(some 28), .bin .add (.s 24) (.s 27), none⟩,
     ⟨(some 29), .mov (.s 0), none⟩,
     ⟨(some 30), .call 16 [(.s 29)], none⟩,
     ⟨(some 31), .len (.s 30), none⟩,
     ⟨(some 32), .bin .add (.s 28) (.s 31), none⟩,
     ⟨(some 33), .mov (.s 0), none⟩,
     ⟨(some 34), .call 18 [(.s 33)], none⟩,
     ⟨(some 35), .len (.s 34), none⟩,
     ⟨(some 36), .bin .add (.s 32) (.s 35), none⟩,
     ⟨(some 37), .bin .eql (.s 36) (.c (.int .i64 0)), none⟩,
     ⟨(some 38), .mov (.s 37), none⟩,
     ⟨(some 39), .call 8 [], (some (38, true))⟩,
     ⟨(some 40), .pick (.s 38) (.s 39) (.c (.bool false)), none⟩,
     ⟨(some 2), .mov (.s 40), none⟩] [22, 23, 24, 25, 26, 27, 28, 29, 30, 31, 32, 33, 34, 35, 36, 37, 38, 39, 40])
   .ret)
   .skip)))
  (.seq (.reg [⟨(some 41), .mov (.s 0), none⟩,
    ⟨(some 42), .call 12 [(.s 41)], none⟩,
    ⟨(some 43), .mov (.s 0), none⟩,
    ⟨(some 44), .call 14 [(.s 43)], none⟩,
    ⟨(some 45), .mov (.s 0), none⟩,
    ⟨(some 46), .call 16 [(.s 45)], none⟩,
    ⟨(some 47), .mov (.s 0), none⟩,
    ⟨(some 48), .call 18 [(.s 47)], none⟩,
    ⟨(some 5), .mov (.s 42), none⟩,
    ⟨(some 6), .mov (.s 44), none⟩,
    ⟨(some 7), .mov (.s 46), none⟩,
    ⟨(some 8), .mov (.s 48), none⟩] [41, 42, 43, 44, 45, 46, 47, 48])
  (.seq (.seq (.reg [⟨(some 49), .mov (.s 5), none⟩,
    ⟨(some 50), .len (.s 49), none⟩,
    ⟨(some 51), .mov (.s 0), none⟩,
    ⟨(some 52), .len (.s 51), none⟩,
    ⟨(some 53), .bin .neq (.s 50) (.s 52), none⟩,
    ⟨(some 54), .mov (.s 53), none⟩,
    ⟨(some 55), .mov (.s 6), (some (54, false))⟩,
    ⟨(some 56), .len (.s 55), (some (54, false))⟩,
    ⟨(some 57), .mov (.s 0), (some (54, false))⟩,
    ⟨(some 58), .len (.s 57), (some (54, false))⟩,
    ⟨(some 59), .bin .neq (.s 56) (.s 58), (some (54, false))⟩,
    ⟨(some 60), .pick (.s 54) (.c (.bool true)) (.s 59), none⟩,
    ⟨(some 61), .mov (.s 60), none⟩,
    ⟨(some 62), .mov (.s 7), (some (61, false))⟩,
    ⟨(some 63), .len (.s 62), (some (61, false))⟩,
    ⟨(some 64), .mov (.s 0), (some (61, false))⟩,
    ⟨(some 65), .len (.s 64), (some (61, false))⟩,
    ⟨(some 66), .bin .neq (.s 63) (.s 65), (some (61, false))⟩,
    ⟨(some 67), .pick (.s 61) (.c (.bool true)) (.s 66), none⟩,
    ⟨(some 68), .mov (.s 67), none⟩,
    ⟨(some 69), .mov (.s 8), (some (68, false))⟩,
    ⟨(some 70), .len (.s 69), (some (68, false))⟩,
    ⟨(some 71), .mov (.s 0), (some (68, false))⟩,
    ⟨(some 72), .len (.s 71), (some (68, false))⟩,
    ⟨(some 73), .bin .neq (.s 70) (.s 72), (some (68, false))⟩,
    ⟨(some 74), .pick (.s 68) (.c (.bool true)) (.s 73), none⟩] [49, 50, 51, 52, 53, 54, 55, 56, 57, 58, 59, 60, 61, 62, 63, 64, 65, 66, 67, 68, 69, 70, 71, 72, 73])
  (.cond (.s 74)
   (.seq (.reg [⟨(some 2), .mov (.c (.bool false)), none⟩] [])
   .ret)
   .skip))
  (.seq (.seq (.reg [⟨(some 9), .mov (.c (.int .i64 0)), none⟩] [])
  (.block 0 (.loop (.seq (.seq (.reg [⟨(some 75), .mov (.s 9), none⟩,
      ⟨(some 76), .mov (.s 0), none⟩,
      ⟨(some 77), .len (.s 76), none⟩,
      ⟨(some 78), .bin .lss (.s 75) (.s 77), none⟩] [75, 76, 77])
    (.cond (.s 78)
     .skip
     (.exit 0)))
    (.seq (.block 1 (.seq (.reg [⟨(some 81), .mov (.s 8), none⟩,
       ⟨(some 82), .mov (.s 9), none⟩,
       ⟨(some 83), .iadr 1 (.s 81) (.s 82), none⟩,
       ⟨(some 84), .load none (.s 83), none⟩,
       ⟨(some 10), .mov (.s 84), none⟩] [81, 82, 83, 84])
     (.seq (.seq (.draw [⟨⟨(some 85), .mov (.s 10), none⟩, []⟩,
       ⟨⟨(some 86), .mov (.s 9), none⟩, []⟩,
       ⟨⟨(some 87), .bin .geq (.s 85) (.s 86), none⟩, [0, 1]⟩,
       ⟨⟨(some 88), .mov (.s 87), none⟩, [2, 0, 1]⟩,
       ⟨⟨(some 89), .mov (.s 10), (some (88, false))⟩, [3, 2, 0, 1]⟩,
       ⟨⟨(some 90), .bin .lss (.s 89) (.c (.int .i64 (-1))), (some (88, false))⟩, [4, 3, 2, 0, 1]⟩,
       ⟨⟨(some 91), .pick (.s 88) (.c (.bool true)) (.s 90), none⟩, [3, 2, 0, 1, 5, 4]⟩,
       ⟨⟨(some 92), .mov (.s 91), none⟩, [6, 3, 2, 0, 1, 5, 4]⟩,
       ⟨⟨(some 93), .mov (.s 10), (some (92, false))⟩, [7, 6, 3, 2, 0, 1, 5, 4]⟩,
       ⟨⟨(some 94), .bin .geq (.s 93) (.c (.int .i64 0)), (some (92, false))⟩, [8, 7, 6, 3, 2, 0, 1, 5, 4]⟩,
       ⟨⟨(some 95), .mov (.s 94), (some (92, false))⟩, [9, 8, 7, 6, 3, 2, 0, 1, 5, 4]⟩,
       ⟨⟨(some 96), .mov (.s 5), (some (95, true))⟩, [10, 9, 8, 7, 6, 3, 2, 0, 1, 5, 4]⟩,
       ⟨⟨(some 97), .mov (.s 10), (some (95, true))⟩, [10, 9, 8, 7, 6, 3, 2, 0, 1, 5, 4]⟩,
       ⟨⟨(some 98), .iadr 1 (.s 96) (.s 97), (some (95, true))⟩, [11, 10, 9, 8, 7, 6, 3, 2, 0, 1, 5, 4, 12]⟩,
       ⟨⟨(some 99), .load none (.s 98), (some (95, true))⟩, [13, 11, 10, 9, 8, 7, 6, 3, 2, 0, 1, 5, 4, 12]⟩,
       ⟨⟨(some 100), .mov (.s 9), (some (95, true))⟩, [10, 9, 8, 7, 6, 3, 2, 0, 1, 5, 4]⟩,
       ⟨⟨(some 101), .bin .lss (.s 99) (.s 100), (some (95, true))⟩, [14, 13, 11, 10, 9, 8, 7, 6, 3, 2, 0, 1, 5, 4, 12, 15]⟩,
       ⟨⟨(some 102), .mov (.s 101), (some (95, true))⟩, [16, 14, 13, 11, 10, 9, 8, 7, 6, 3, 2, 0, 1, 5, 4, 12, 15]⟩,
       ⟨⟨(some 103), .mov (.s 7), (some (102, false))⟩, [17, 16, 14, 13, 11, 10, 9, 8, 7, 6, 3, 2, 0, 1, 5, 4, 12, 15]⟩,
       ⟨⟨(some 104), .mov (.s 9), (some (102, false))⟩, [17, 16, 14, 13, 11, 10, 9, 8, 7, 6, 3, 2, 0, 1, 5, 4, 12, 15]⟩,
       ⟨⟨(some 105), .iadr 1 (.s 103) (.s 104), (some (102, false))⟩, [18, 17, 16, 14, 13, 11, 10, 9, 8, 7, 6, 3, 2, 0, 1, 5, 4, 12, 15, 19]⟩,
       ⟨⟨(some 106), .load none (.s 105), (some (102, false))⟩, [20, 18, 17, 16, 14, 13, 11, 10, 9, 8, 7, 6, 3, 2, 0, 1, 5, 4, 12, 15, 19]⟩,
       ⟨⟨(some 107), .mov (.s 7), (some (102, false))⟩, [17, 16, 14, 13, 11, 10, 9, 8, 7, 6, 3, 2, 0, 1, 5, 4, 12, 15]⟩,
       ⟨⟨(some 108), .mov (.s 10), (some (102, false))⟩, [17, 16, 14, 13, 11, 10, 9, 8, 7, 6, 3, 2, 0, 1, 5, 4, 12, 15]⟩,
       ⟨⟨(some 109), .iadr 1 (.s 107) (.s 108), (some (102, false))⟩, [22, 17, 16, 14, 13, 11, 10, 9, 8, 7, 6, 3, 2, 0, 1, 5, 4, 12, 15, 23]⟩,
       ⟨⟨(some 110), .load none (.s 109), (some (102, false))⟩, [24, 22, 17, 16, 14, 13, 11, 10, 9, 8, 7, 6, 3, 2, 0, 1, 5, 4, 12, 15, 23]⟩,
       ⟨⟨(some 111), .bin .add (.s 110) (.c (.int .i64 1)), (some (102, false))⟩, [25, 24, 22, 17, 16, 14, 13, 11, 10, 9, 8, 7, 6, 3, 2, 0, 1, 5, 4, 12, 15, 23]⟩,
       ⟨⟨(some 112), .bin .neq (.s 106) (.s 111), (some (102, false))⟩, [21, 20, 18, 17, 16, 14, 13, 11, 10, 9, 8, 7, 6, 3, 2, 0, 1, 5, 4, 12, 15, 19, 26, 25, 24, 22, 23]⟩,
       ⟨⟨(some 113), .pick (.s 102) (.c (.bool true)) (.s 112), (some (95, true))⟩, [17, 16, 14, 13, 11, 10, 9, 8, 7, 6, 3, 2, 0, 1, 5, 4, 12, 15, 27, 21, 20, 18, 19, 26, 25, 24, 22, 23]⟩,
       ⟨⟨(some 114), .pick (.s 95) (.s 113) (.c (.bool false)), (some (92, false))⟩, [10, 9, 8, 7, 6, 3, 2, 0, 1, 5, 4, 28, 17, 16, 14, 13, 11, 12, 15, 27, 21, 20, 18, 19, 26, 25, 24, 22, 23]⟩,
       ⟨⟨(some 115), .pick (.s 92) (.c (.bool true)) (.s 114), none⟩, [7, 6, 3, 2, 0, 1, 5, 4, 29, 10, 9, 8, 28, 17, 16, 14, 13, 11, 12, 15, 27, 21, 20, 18, 19, 26, 25, 24, 22, 23]⟩,
       ⟨⟨(some 116), .mov (.s 115), none⟩, [30, 7, 6, 3, 2, 0, 1, 5, 4, 29, 10, 9, 8, 28, 17, 16, 14, 13, 11, 12, 15, 27, 21, 20, 18, 19, 26, 25, 24, 22, 23]⟩,
       ⟨⟨(some 117), .mov (.s 10), (some (116, false))⟩, [31, 30, 7, 6, 3, 2, 0, 1, 5, 4, 29, 10, 9, 8, 28, 17, 16, 14, 13, 11, 12, 15, 27, 21, 20, 18, 19, 26, 25, 24, 22, 23]⟩,
       ⟨⟨(some 118), .bin .lss (.s 117) (.c (.int .i64 0)), (some (116, false))⟩, [32, 31, 30, 7, 6, 3, 2, 0, 1, 5, 4, 29, 10, 9, 8, 28, 17, 16, 14, 13, 11, 12, 15, 27, 21, 20, 18, 19, 26, 25, 24, 22, 23]⟩,
       ⟨⟨(some 119), .mov (.s 118), (some (116, false))⟩, [33, 32, 31, 30, 7, 6, 3, 2, 0, 1, 5, 4, 29, 10, 9, 8, 28, 17, 16, 14, 13, 11, 12, 15, 27, 21, 20, 18, 19, 26, 25, 24, 22, 23]⟩,
       ⟨⟨(some 120), .mov (.s 7), (some (119, true))⟩, [34, 33, 32, 31, 30, 7, 6, 3, 2, 0, 1, 5, 4, 29, 10, 9, 8, 28, 17, 16, 14, 13, 11, 12, 15, 27, 21, 20, 18, 19, 26, 25, 24, 22, 23]⟩,
       ⟨⟨(some 121), .mov (.s 9), (some (119, true))⟩, [34, 33, 32, 31, 30, 7, 6, 3, 2, 0, 1, 5, 4, 29, 10, 9, 8, 28, 17, 16, 14, 13, 11, 12, 15, 27, 21, 20, 18, 19, 26, 25, 24, 22, 23]⟩,
       ⟨⟨(some 122), .iadr 1 (.s 120) (.s 121), (some (119, true))⟩, [35, 34, 33, 32, 31, 30, 7, 6, 3, 2, 0, 1, 5, 4, 29, 10, 9, 8, 28, 17, 16, 14, 13, 11, 12, 15, 27, 21, 20, 18, 19, 26, 25, 24, 22, 23, 36]⟩,
       ⟨⟨(some 123), .load none (.s 122), (some (119, true))⟩, [37, 35, 34, 33, 32, 31, 30, 7, 6, 3, 2, 0, 1, 5, 4, 29, 10, 9, 8, 28, 17, 16, 14, 13, 11, 12, 15, 27, 21, 20, 18, 19, 26, 25, 24, 22, 23, 36]⟩,
       ⟨⟨(some 124), .bin .neq (.s 123) (.c (.int .i64 1)), (some (119, true))⟩, [38, 37, 35, 34, 33, 32, 31, 30, 7, 6, 3, 2, 0, 1, 5, 4, 29, 10, 9, 8, 28, 17, 16, 14, 13, 11, 12, 15, 27, 21, 20, 18, 19, 26, 25, 24, 22, 23, 36]⟩,
       ⟨⟨(some 125), .pick (.s 119) (.s 124) (.c (.bool false)), (some (116, false))⟩, [34, 33, 32, 31, 30, 7, 6, 3, 2, 0, 1, 5, 4, 29, 10, 9, 8, 28, 17, 16, 14, 13, 11, 12, 15, 27, 21, 20, 18, 19, 26, 25, 24, 22, 23, 39, 38, 37, 35, 36]⟩,
       ⟨⟨(some 126), .pick (.s 116) (.c (.bool true)) (.s 125), none⟩, [31, 30, 7, 6, 3, 2, 0, 1, 5, 4, 29, 10, 9, 8, 28, 17, 16, 14, 13, 11, 12, 15, 27, 21, 20, 18, 19, 26, 25, 24, 22, 23, 40, 34, 33, 32, 39, 38, 37, 35, 36]⟩] [] [85, 86, 87, 88, 89, 90, 91, 92, 93, 94, 95, 96, 97, 98, 99, 100, 101, 102, 103, 104, 105, 106, 107, 108, 109, 110, 111, 112, 113, 114, 115, 116, 117, 118, 119, 120, 121, 122, 123, 124, 125])
     (.cond (.s 126)
      (.seq (.reg [⟨(some 2), .mov (.c (.bool false)), none⟩] [])
      .ret)
      .skip))
     (.seq (.seq (.reg [⟨(some 127), .mov (.s 5), none⟩,
       ⟨(some 128), .mov (.s 9), none⟩,
       ⟨(some 129), .iadr 1 (.s 127) (.s 128), none⟩,
       ⟨(some 130), .load none (.s 129), none⟩,
       ⟨(some 131), .bin .geq (.s 130) (.c (.int .i64 0)), none⟩,
       ⟨(some 132), .mov (.s 131), none⟩,
       ⟨(some 133), .mov (.s 5), (some (132, true))⟩,
       ⟨(some 134), .mov (.s 9), (some (132, true))⟩,
       ⟨(some 135), .iadr 1 (.s 133) (.s 134), (some (132, true))⟩,
       ⟨(some 136), .load none (.s 135), (some (132, true))⟩,
       ⟨(some 137), .mov (.s 9), (some (132, true))⟩,
       ⟨(some 138), .bin .leq (.s 136) (.s 137), (some (132, true))⟩,
       ⟨(some 139), .mov (.s 138), (some (132, true))⟩,
       ⟨(some 140), .mov (.s 5), (some (139, false))⟩,
       ⟨(some 141), .mov (.s 9), (some (139, false))⟩,
       ⟨(some 142), .iadr 1 (.s 140) (.s 141), (some (139, false))⟩,
       ⟨(some 143), .load none (.s 142), (some (139, false))⟩,
       ⟨(some 144), .mov (.s 0), (some (139, false))⟩,
       ⟨(some 145), .len (.s 144), (some (139, false))⟩,
       ⟨(some 146), .bin .geq (.s 143) (.s 145), (some (139, false))⟩,
       ⟨(some 147), .pick (.s 139) (.c (.bool true)) (.s 146), (some (132, true))⟩,
       ⟨(some 148), .mov (.s 147), (some (132, true))⟩,
       ⟨(some 149), .mov (.s 0), (some (148, false))⟩,
       ⟨(some 150), .mov (.s 5), (some (148, false))⟩,
       ⟨(some 151), .mov (.s 9), (some (148, false))⟩,
       ⟨(some 152), .iadr 1 (.s 150) (.s 151), (some (148, false))⟩,
       ⟨(some 153), .load none (.s 152), (some (148, false))⟩,
       ⟨(some 154), .iadr 9 (.s 149) (.s 153), (some (148, false))⟩,
       ⟨(some 155), .fadr 0 (.s 154), (some (148, false))⟩,
       ⟨(some 156), .load none (.s 155), (some (148, false))⟩,
       ⟨(some 157), .bin .neq (.s 156) (.c (.int .i64 11)), (some (148, false))⟩,
       ⟨(some 158), .pick (.s 148) (.c (.bool true)) (.s 157), (some (132, true))⟩,
       ⟨(some 159), .mov (.s 158), (some (132, true))⟩,
       ⟨(some 160), .mov (.s 8), (some (159, false))⟩,
       ⟨(some 161), .mov (.s 5), (some (159, false))⟩,
       ⟨(some 162), .mov (.s 9), (some (159, false))⟩,
       ⟨(some 163), .iadr 1 (.s 161) (.s 162), (some (159, false))⟩,
       ⟨(some 164), .load none (.s 163), (some (159, false))⟩,
       ⟨(some 165), .iadr 1 (.s 160) (.s 164), (some (159, false))⟩,
       ⟨(some 166), .load none (.s 165), (some (159, false))⟩,
       ⟨(some 167), .mov (.s 9), (some (159, false))⟩,
       ⟨(some 168), .bin .neq (.s 166) (.s 167), (some (159, false))⟩,
       ⟨(some 169), .pick (.s 159) (.c (.bool true)) (.s 168), (some (132, true))⟩,
       ⟨(some 170), .pick (.s 132) (.s 169) (.c (.bool false)), none⟩] [127, 128, 129, 130, 131, 132, 133, 134, 135, 136, 137, 138, 139, 140, 141, 142, 143, 144, 145, 146, 147, 148, 149, 150, 151, 152, 153, 154, 155, 156, 157, 158, 159, 160, 161, 162, 163, 164, 165, 166, 167, 168, 169])
     (.cond (.s 170)
      (.seq (.reg [⟨(some 2), .mov (.c (.bool false)), none⟩] [])
      .ret)
      .skip))
     (.seq (.draw [⟨⟨(some 171), .mov (.s 6), none⟩, []⟩,
       ⟨⟨(some 172), .mov (.s 9), none⟩, []⟩,
       ⟨⟨(some 173), .iadr 1 (.s 171) (.s 172), none⟩, [0, 1]⟩,
       ⟨⟨(some 174), .load none (.s 173), none⟩, [2, 0, 1]⟩,
       ⟨⟨(some 175), .bin .geq (.s 174) (.c (.int .i64 0)), none⟩, [3, 2, 0, 1]⟩,
       ⟨⟨(some 176), .mov (.s 175), none⟩, [4, 3, 2, 0, 1]⟩,
       ⟨⟨(some 177), .mov (.s 6), (some (176, true))⟩, [5, 4, 3, 2, 0, 1]⟩,
       ⟨⟨(some 178), .mov (.s 9), (some (176, true))⟩, [5, 4, 3, 2, 0, 1]⟩,
       ⟨⟨(some 179), .iadr 1 (.s 177) (.s 178), (some (176, true))⟩, [6, 5, 4, 3, 2, 0, 1, 7]⟩,
       ⟨⟨(some 180), .load none (.s 179), (some (176, true))⟩, [8, 6, 5, 4, 3, 2, 0, 1, 7]⟩,
       ⟨⟨(some 181), .mov (.s 9), (some (176, true))⟩, [5, 4, 3, 2, 0, 1]⟩,
       ⟨⟨(some 182), .bin .leq (.s 180) (.s 181), (some (176, true))⟩, [9, 8, 6, 5, 4, 3, 2, 0, 1, 7, 10]⟩,
       ⟨⟨(some 183), .mov (.s 182), (some (176, true))⟩, [11, 9, 8, 6, 5, 4, 3, 2, 0, 1, 7, 10]⟩,
       ⟨⟨(some 184), .mov (.s 6), (some (183, false))⟩, [12, 11, 9, 8, 6, 5, 4, 3, 2, 0, 1, 7, 10]⟩,
       ⟨⟨(some 185), .mov (.s 9), (some (183, false))⟩, [12, 11, 9, 8, 6, 5, 4, 3, 2, 0, 1, 7, 10]⟩,
       ⟨⟨(some 186), .iadr 1 (.s 184) (.s 185), (some (183, false))⟩, [13, 12, 11, 9, 8, 6, 5, 4, 3, 2, 0, 1, 7, 10, 14]⟩,
       ⟨⟨(some 187), .load none (.s 186), (some (183, false))⟩, [15, 13, 12, 11, 9, 8, 6, 5, 4, 3, 2, 0, 1, 7, 10, 14]⟩,
       ⟨⟨(some 188), .mov (.s 5), (some (183, false))⟩, [12, 11, 9, 8, 6, 5, 4, 3, 2, 0, 1, 7, 10]⟩,
       ⟨⟨(some 189), .mov (.s 9), (some (183, false))⟩, [12, 11, 9, 8, 6, 5, 4, 3, 2, 0, 1, 7, 10]⟩,
       ⟨⟨(some 190), .iadr 1 (.s 188) (.s 189), (some (183, false))⟩, [17, 12, 11, 9, 8, 6, 5, 4, 3, 2, 0, 1, 7, 10, 18]⟩,
       ⟨⟨(some 191), .load none (.s 190), (some (183, false))⟩, [19, 17, 12, 11, 9, 8, 6, 5, 4, 3, 2, 0, 1, 7, 10, 18]⟩,
       ⟨⟨(some 192), .bin .geq (.s 187) (.s 191), (some (183, false))⟩, [16, 15, 13, 12, 11, 9, 8, 6, 5, 4, 3, 2, 0, 1, 7, 10, 14, 20, 19, 17, 18]⟩,
       ⟨⟨(some 193), .pick (.s 183) (.c (.bool true)) (.s 192), (some (176, true))⟩, [12, 11, 9, 8, 6, 5, 4, 3, 2, 0, 1, 7, 10, 21, 16, 15, 13, 14, 20, 19, 17, 18]⟩,
       ⟨⟨(some 194), .mov (.s 193), (some (176, true))⟩, [22, 12, 11, 9, 8, 6, 5, 4, 3, 2, 0, 1, 7, 10, 21, 16, 15, 13, 14, 20, 19, 17, 18]⟩,
       ⟨⟨(some 195), .mov (.s 8), (some (194, false))⟩, [23, 22, 12, 11, 9, 8, 6, 5, 4, 3, 2, 0, 1, 7, 10, 21, 16, 15, 13, 14, 20, 19, 17, 18]⟩,
       ⟨⟨(some 196), .mov (.s 6), (some (194, false))⟩, [23, 22, 12, 11, 9, 8, 6, 5, 4, 3, 2, 0, 1, 7, 10, 21, 16, 15, 13, 14, 20, 19, 17, 18]⟩,
       ⟨⟨(some 197), .mov (.s 9), (some (194, false))⟩, [23, 22, 12, 11, 9, 8, 6, 5, 4, 3, 2, 0, 1, 7, 10, 21, 16, 15, 13, 14, 20, 19, 17, 18]⟩,
       ⟨⟨(some 198), .iadr 1 (.s 196) (.s 197), (some (194, false))⟩, [25, 23, 22, 12, 11, 9, 8, 6, 5, 4, 3, 2, 0, 1, 7, 10, 21, 16, 15, 13, 14, 20, 19, 17, 18, 26]⟩,
       ⟨⟨(some 199), .load none (.s 198), (some (194, false))⟩, [27, 25, 23, 22, 12, 11, 9, 8, 6, 5, 4, 3, 2, 0, 1, 7, 10, 21, 16, 15, 13, 14, 20, 19, 17, 18, 26]⟩,
       ⟨⟨(some 200), .iadr 1 (.s 195) (.s 199), (some (194, false))⟩, [24, 23, 22, 12, 11, 9, 8, 6, 5, 4, 3, 2, 0, 1, 7, 10, 21, 16, 15, 13, 14, 20, 19, 17, 18, 28, 27, 25, 26]⟩,
       ⟨⟨(some 201), .load none (.s 200), (some (194, false))⟩, [29, 24, 23, 22, 12, 11, 9, 8, 6, 5, 4, 3, 2, 0, 1, 7, 10, 21, 16, 15, 13, 14, 20, 19, 17, 18, 28, 27, 25, 26]⟩,
       ⟨⟨(some 202), .mov (.s 9), (some (194, false))⟩, [23, 22, 12, 11, 9, 8, 6, 5, 4, 3, 2, 0, 1, 7, 10, 21, 16, 15, 13, 14, 20, 19, 17, 18]⟩,
       ⟨⟨(some 203), .bin .neq (.s 201) (.s 202), (some (194, false))⟩, [30, 29, 24, 23, 22, 12, 11, 9, 8, 6, 5, 4, 3, 2, 0, 1, 7, 10, 21, 16, 15, 13, 14, 20, 19, 17, 18, 28, 27, 25, 26, 31]⟩,
       ⟨⟨(some 204), .pick (.s 194) (.c (.bool true)) (.s 203), (some (176, true))⟩, [23, 22, 12, 11, 9, 8, 6, 5, 4, 3, 2, 0, 1, 7, 10, 21, 16, 15, 13, 14, 20, 19, 17, 18, 32, 30, 29, 24, 28, 27, 25, 26, 31]⟩,
       ⟨⟨(some 205), .pick (.s 176) (.s 204) (.c (.bool false)), none⟩, [5, 4, 3, 2, 0, 1, 33, 23, 22, 12, 11, 9, 8, 6, 7, 10, 21, 16, 15, 13, 14, 20, 19, 17, 18, 32, 30, 29, 24, 28, 27, 25, 26, 31]⟩] [] [171, 172, 173, 174, 175, 176, 177, 178, 179, 180, 181, 182, 183, 184, 185, 186, 187, 188, 189, 190, 191, 192, 193, 194, 195, 196, 197, 198, 199, 200, 201, 202, 203, 204])
     (.cond (.s 205)
      (.seq (.reg [⟨(some 2), .mov (.c (.bool false)), none⟩] [])
      .ret)
      .skip))))))
    (.reg [⟨(some 79), .mov (.s 9), none⟩,
      ⟨(some 80), .bin .add (.s 79) (.c (.int .i64 1)), none⟩,
      ⟨(some 9), .mov (.s 80), none⟩] [79, 80]))))))
  (.seq (.reg [⟨(some 206), .call 8 [], none⟩,
    ⟨(some 2), .mov (.s 206), none⟩] [206])
  .ret)))))))⟩

theorem c_law09_NestWithin : compF Try.prog 6 = some F_law09_NestWithin := by kernel_rfl
abbrev n_law09_NestWithin : FuncId := 6

/-- millwright/millwrightlaw09.NestFronts -/
def F_law09_NestFronts : IFun :=
⟨73, 3, [.tmp 6],
  (.seq (.reg [⟨(some 5), .box 41 9 (.s 2), none⟩,
    ⟨(some 6), .mov (.c (.bool false)), none⟩] [])
  (.seq (.seq (.reg [⟨(some 14), .mov (.s 0), none⟩,
    ⟨(some 15), .len (.s 14), none⟩,
    ⟨(some 16), .bin .gtr (.s 15) (.c (.int .i64 200)), none⟩,
    ⟨(some 17), .mov (.s 16), none⟩,
    ⟨(some 18), .mov (.s 0), (some (17, false))⟩,
    ⟨(some 19), .len (.s 18), (some (17, false))⟩,
    ⟨(some 20), .bin .eql (.s 19) (.c (.int .i64 0)), (some (17, false))⟩,
    ⟨(some 21), .pick (.s 17) (.c (.bool true)) (.s 20), none⟩] [14, 15, 16, 17, 18, 19, 20])
  (.cond (.s 21)
   (.seq (.reg [⟨(some 22), .call 8 [], none⟩,
     ⟨(some 6), .mov (.s 22), none⟩] [22])
   .ret)
   .skip))
  (.seq (.seq (.reg [⟨(some 24), .mov (.s 0), none⟩,
    ⟨(some 25), .call 9 [(.s 24)], none⟩,
    ⟨(some 23), .mov (.s 25), none⟩,
    ⟨(some 26), .ext (.s 23) 0, none⟩,
    ⟨(some 27), .ext (.s 23) 1, none⟩,
    ⟨(some 7), .mov (.s 26), none⟩,
    ⟨(some 8), .mov (.s 27), none⟩] [24, 25, 23, 26, 27, 7])
  (.seq (.reg [⟨(some 28), .mov (.s 8), none⟩,
    ⟨(some 29), .bin .neq (.s 28) (.c (.int .i64 0)), none⟩] [28])
  (.cond (.s 29)
   (.seq (.reg [⟨(some 30), .call 8 [], none⟩,
     ⟨(some 6), .mov (.s 30), none⟩] [30])
   .ret)
   .skip)))
  (.seq (.reg [⟨(some 31), .mov (.s 1), none⟩,
    ⟨(some 32), .cvi .i64 (.s 31), none⟩,
    ⟨(some 33), .mov (.s 0), none⟩,
    ⟨(some 34), .len (.s 33), none⟩,
    ⟨(some 35), .bin .rem (.s 32) (.s 34), none⟩,
    ⟨(some 9), .mov (.s 35), none⟩] [31, 32, 33, 34, 35])
  (.seq (.reg [⟨(some 37), .mov (.s 0), none⟩,
    ⟨(some 38), .mov (.s 9), none⟩,
    ⟨(some 39), .slc 9 (.s 37) none (some (.s 38)) none, none⟩,
    ⟨(some 40), .call 9 [(.s 39)], none⟩,
    ⟨(some 36), .mov (.s 40), none⟩,
    ⟨(some 41), .ext (.s 36) 0, none⟩,
    ⟨(some 42), .ext (.s 36) 1, none⟩,
    ⟨(some 10), .mov (.s 41), none⟩,
    ⟨(some 11), .mov (.s 42), none⟩] [37, 38, 39, 40, 36, 41, 42])
  (.seq (.draw [⟨⟨(some 44), .bsl 41 9 [] [], none⟩, []⟩,
    ⟨⟨(some 45), .mov (.s 0), none⟩, []⟩,
    ⟨⟨(some 46), .app 41 9 (.s 44) (.s 45), none⟩, [0, 1]⟩,
    ⟨⟨(some 47), .load (some 9) (.s 5), none⟩, []⟩,
    ⟨⟨(some 48), .bsl 41 9 [[(.int .i64 0), (.int .i64 0), (.int .i64 0), (.int .u64 0), (.int .i64 0), (.int .i64 0), (.int .i64 0), .nl, .nl]] [(0, (.s 47))], none⟩, [3]⟩,
    ⟨⟨(some 49), .app 41 9 (.s 46) (.s 48), none⟩, [2, 0, 1, 4, 3]⟩,
    ⟨⟨(some 50), .call 9 [(.s 49)], none⟩, [5, 2, 0, 1, 4, 3]⟩,
    ⟨⟨(some 43), .mov (.s 50), none⟩, [6, 5, 2, 0, 1, 4, 3]⟩,
    ⟨⟨(some 51), .ext (.s 43) 0, none⟩, [7, 6, 5, 2, 0, 1, 4, 3]⟩,
    ⟨⟨(some 52), .ext (.s 43) 1, none⟩, [7, 6, 5, 2, 0, 1, 4, 3]⟩,
    ⟨⟨(some 12), .mov (.s 51), none⟩, [8, 7, 6, 5, 2, 0, 1, 4, 3]⟩,
    ⟨⟨(some 13), .mov (.s 52), none⟩, [9, 7, 6, 5, 2, 0, 1, 4, 3, 10, 8]⟩] [(44, 0), (46, 2), (48, 4), (49, 5)] [44, 45, 46, 47, 48, 49, 50, 43, 51, 52])
  (.seq (.reg [⟨(some 53), .mov (.s 10), none⟩,
    ⟨(some 54), .mov (.s 9), none⟩,
    ⟨(some 55), .bin .eql (.s 53) (.s 54), none⟩,
    ⟨(some 56), .mov (.s 55), none⟩,
    ⟨(some 57), .mov (.s 11), (some (56, true))⟩,
    ⟨(some 58), .bin .eql (.s 57) (.c (.int .i64 3)), (some (56, true))⟩,
    ⟨(some 59), .pick (.s 56) (.s 58) (.c (.bool false)), none⟩,
    ⟨(some 60), .mov (.s 59), none⟩,
    ⟨(some 61), .mov (.s 12), (some (60, true))⟩,
    ⟨(some 62), .mov (.s 0), (some (60, true))⟩,
    ⟨(some 63), .len (.s 62), (some (60, true))⟩,
    ⟨(some 64), .bin .eql (.s 61) (.s 63), (some (60, true))⟩,
    ⟨(some 65), .pick (.s 60) (.s 64) (.c (.bool false)), none⟩,
    ⟨(some 66), .mov (.s 65), none⟩,
    ⟨(some 67), .mov (.s 13), (some (66, true))⟩,
    ⟨(some 68), .bin .eql (.s 67) (.c (.int .i64 16)), (some (66, true))⟩,
    ⟨(some 69), .pick (.s 66) (.s 68) (.c (.bool false)), none⟩,
    ⟨(some 70), .mov (.s 69), none⟩,
    ⟨(some 71), .call 8 [], (some (70, true))⟩,
    ⟨(some 72), .pick (.s 70) (.s 71) (.c (.bool false)), none⟩,
    ⟨(some 6), .mov (.s 72), none⟩] [53, 54, 55, 56, 57, 58, 59, 60, 61, 62, 63, 64, 65, 66, 67, 68, 69, 70, 71, 72])
  .ret)))))))⟩

theorem c_law09_NestFronts : compF Try.prog 7 = some F_law09_NestFronts := by kernel_rfl
abbrev n_law09_NestFronts : FuncId := 7

/-- millwright/millwrightlaw09.alive -/
def F_law09_alive : IFun :=
⟨94, 0, [.tmp 0],
  (.seq (.reg [⟨(some 0), .mov (.c (.bool false)), none⟩] [])
  (.seq (.reg [⟨(some 12), .bsl 34 1 [[(.int .i64 0)], [(.int .i64 0)], [(.int .i64 0)], [(.int .i64 0)], [(.int .i64 0)], [(.int .i64 0)]] [(0, (.c (.int .i64 2))), (1, (.c (.int .i64 4))), (2, (.c (.int .i64 5))), (3, (.c (.int .i64 11))), (4, (.c (.int .i64 11))), (5, (.c (.int .i64 11)))], none⟩,
    ⟨(some 13), .call 22 [(.s 12)], none⟩,
    ⟨(some 1), .mov (.s 13), none⟩] [12, 13])
  (.seq (.reg [⟨(some 15), .mov (.s 1), none⟩,
    ⟨(some 16), .call 9 [(.s 15)], none⟩,
    ⟨(some 14), .mov (.s 16), none⟩,
    ⟨(some 17), .ext (.s 14) 0, none⟩,
    ⟨(some 18), .ext (.s 14) 1, none⟩,
    ⟨(some 2), .mov (.s 17), none⟩,
    ⟨(some 3), .mov (.s 18), none⟩] [15, 16, 14, 17, 18, 2])
  (.seq (.reg [⟨(some 20), .mov (.s 1), none⟩,
    ⟨(some 21), .call 20 [(.s 20), (.c (.int .i64 2)), (.c (.int .i64 1))], none⟩,
    ⟨(some 19), .mov (.s 21), none⟩,
    ⟨(some 22), .ext (.s 19) 0, none⟩,
    ⟨(some 23), .ext (.s 19) 1, none⟩,
    ⟨(some 4), .mov (.s 22), none⟩,
    ⟨(some 5), .mov (.s 23), none⟩] [20, 21, 19, 22, 23])
  (.seq (.reg [⟨(some 25), .mov (.s 1), none⟩,
    ⟨(some 26), .call 20 [(.s 25), (.c (.int .i64 2)), (.c (.int .i64 3))], none⟩,
    ⟨(some 24), .mov (.s 26), none⟩,
    ⟨(some 27), .ext (.s 24) 0, none⟩,
    ⟨(some 28), .ext (.s 24) 1, none⟩,
    ⟨(some 6), .mov (.s 27), none⟩,
    ⟨(some 7), .mov (.s 28), none⟩] [25, 26, 24, 27, 28, 6])
  (.seq (.reg [⟨(some 30), .bsl 34 1 [[(.int .i64 0)], [(.int .i64 0)]] [(0, (.c (.int .i64 5))), (1, (.c (.int .i64 11)))], none⟩,
    ⟨(some 31), .call 22 [(.s 30)], none⟩,
    ⟨(some 32), .call 9 [(.s 31)], none⟩,
    ⟨(some 29), .mov (.s 32), none⟩,
    ⟨(some 33), .ext (.s 29) 0, none⟩,
    ⟨(some 34), .ext (.s 29) 1, none⟩,
    ⟨(some 8), .mov (.s 33), none⟩,
    ⟨(some 9), .mov (.s 34), none⟩] [30, 31, 32, 29, 33, 34])
  (.seq (.reg [⟨(some 36), .bsl 34 1 [[(.int .i64 0)], [(.int .i64 0)]] [(0, (.c (.int .i64 2))), (1, (.c (.int .i64 11)))], none⟩,
    ⟨(some 37), .call 22 [(.s 36)], none⟩,
    ⟨(some 38), .call 9 [(.s 37)], none⟩,
    ⟨(some 35), .mov (.s 38), none⟩,
    ⟨(some 39), .ext (.s 35) 0, none⟩,
    ⟨(some 40), .ext (.s 35) 1, none⟩,
    ⟨(some 10), .mov (.s 39), none⟩,
    ⟨(some 11), .mov (.s 40), none⟩] [36, 37, 38, 35, 39, 40])
  (.seq (.reg [⟨(some 41), .mov (.s 3), none⟩,
    ⟨(some 42), .bin .eql (.s 41) (.c (.int .i64 0)), none⟩,
    ⟨(some 43), .mov (.s 42), none⟩,
    ⟨(some 44), .mov (.s 1), (some (43, true))⟩,
    ⟨(some 45), .call 12 [(.s 44)], (some (43, true))⟩,
    ⟨(some 46), .bsl 3 1 [[(.int .i64 0)], [(.int .i64 0)], [(.int .i64 0)], [(.int .i64 0)], [(.int .i64 0)], [(.int .i64 0)]] [(0, (.c (.int .i64 4))), (1, (.c (.int .i64 3))), (2, (.c (.int .i64 (-1)))), (3, (.c (.int .i64 (-1)))), (4, (.c (.int .i64 (-1)))), (5, (.c (.int .i64 (-1))))], (some (43, true))⟩,
    ⟨(some 47), .call 11 [(.s 45), (.s 46)], (some (43, true))⟩,
    ⟨(some 48), .pick (.s 43) (.s 47) (.c (.bool false)), none⟩,
    ⟨(some 49), .mov (.s 48), none⟩,
    ⟨(some 50), .mov (.s 1), (some (49, true))⟩,
    ⟨(some 51), .call 14 [(.s 50)], (some (49, true))⟩,
    ⟨(some 52), .bsl 3 1 [[(.int .i64 0)], [(.int .i64 0)], [(.int .i64 0)], [(.int .i64 0)], [(.int .i64 0)], [(.int .i64 0)]] [(0, (.c (.int .i64 (-1)))), (1, (.c (.int .i64 2))), (2, (.c (.int .i64 (-1)))), (3, (.c (.int .i64 (-1)))), (4, (.c (.int .i64 (-1)))), (5, (.c (.int .i64 (-1))))], (some (49, true))⟩,
    ⟨(some 53), .call 11 [(.s 51), (.s 52)], (some (49, true))⟩,
    ⟨(some 54), .pick (.s 49) (.s 53) (.c (.bool false)), none⟩,
    ⟨(some 55), .mov (.s 54), none⟩,
    ⟨(some 56), .mov (.s 1), (some (55, true))⟩,
    ⟨(some 57), .call 16 [(.s 56)], (some (55, true))⟩,
    ⟨(some 58), .bsl 3 1 [[(.int .i64 0)], [(.int .i64 0)], [(.int .i64 0)], [(.int .i64 0)], [(.int .i64 0)], [(.int .i64 0)]] [(0, (.c (.int .i64 1))), (1, (.c (.int .i64 2))), (2, (.c (.int .i64 3))), (3, (.c (.int .i64 3))), (4, (.c (.int .i64 2))), (5, (.c (.int .i64 1)))], (some (55, true))⟩,
    ⟨(some 59), .call 11 [(.s 57), (.s 58)], (some (55, true))⟩,
    ⟨(some 60), .pick (.s 55) (.s 59) (.c (.bool false)), none⟩,
    ⟨(some 61), .mov (.s 60), none⟩,
    ⟨(some 62), .mov (.s 1), (some (61, true))⟩,
    ⟨(some 63), .call 18 [(.s 62)], (some (61, true))⟩,
    ⟨(some 64), .bsl 3 1 [[(.int .i64 0)], [(.int .i64 0)], [(.int .i64 0)], [(.int .i64 0)], [(.int .i64 0)], [(.int .i64 0)]] [(0, (.c (.int .i64 (-1)))), (1, (.c (.int .i64 0))), (2, (.c (.int .i64 1))), (3, (.c (.int .i64 1))), (4, (.c (.int .i64 0))), (5, (.c (.int .i64 (-1))))], (some (61, true))⟩,
    ⟨(some 65), .call 11 [(.s 63), (.s 64)], (some (61, true))⟩,
    ⟨(some 66), .pick (.s 61) (.s 65) (.c (.bool false)), none⟩,
    ⟨(some 67), .mov (.s 66), none⟩,
    ⟨(some 68), .mov (.s 4), (some (67, true))⟩,
    ⟨(some 69), .bin .eql (.s 68) (.c (.int .i64 4)), (some (67, true))⟩,
    ⟨(some 70), .pick (.s 67) (.s 69) (.c (.bool false)), none⟩,
    ⟨(some 71), .mov (.s 70), none⟩,
    ⟨(some 72), .mov (.s 5), (some (71, true))⟩,
    ⟨(some 73), .pick (.s 71) (.s 72) (.c (.bool false)), none⟩,
    ⟨(some 74), .mov (.s 73), none⟩,
    ⟨(some 75), .mov (.s 7), (some (74, true))⟩,
    ⟨(some 76), .un .not (.s 75), (some (74, true))⟩,
    ⟨(some 77), .pick (.s 74) (.s 76) (.c (.bool false)), none⟩,
    ⟨(some 78), .mov (.s 77), none⟩,
    ⟨(some 79), .mov (.s 8), (some (78, true))⟩,
    ⟨(some 80), .bin .eql (.s 79) (.c (.int .i64 0)), (some (78, true))⟩,
    ⟨(some 81), .pick (.s 78) (.s 80) (.c (.bool false)), none⟩,
    ⟨(some 82), .mov (.s 81), none⟩,
    ⟨(some 83), .mov (.s 9), (some (82, true))⟩,
    ⟨(some 84), .bin .eql (.s 83) (.c (.int .i64 16)), (some (82, true))⟩,
    ⟨(some 85), .pick (.s 82) (.s 84) (.c (.bool false)), none⟩,
    ⟨(some 86), .mov (.s 85), none⟩,
    ⟨(some 87), .mov (.s 10), (some (86, true))⟩,
    ⟨(some 88), .bin .eql (.s 87) (.c (.int .i64 2)), (some (86, true))⟩,
    ⟨(some 89), .pick (.s 86) (.s 88) (.c (.bool false)), none⟩,
    ⟨(some 90), .mov (.s 89), none⟩,
    ⟨(some 91), .mov (.s 11), (some (90, true))⟩,
    ⟨(some 92), .bin .eql (.s 91) (.c (.int .i64 3)), (some (90, true))⟩,
    ⟨(some 93), .pick (.s 90) (.s 92) (.c (.bool false)), none⟩,
    ⟨(some 0), .mov (.s 93), none⟩] [41, 42, 43, 44, 45, 46, 47, 48, 49, 50, 51, 52, 53, 54, 55, 56, 57, 58, 59, 60, 61, 62, 63, 64, 65, 66, 67, 68, 69, 70, 71, 72, 73, 74, 75, 76, 77, 78, 79, 80, 81, 82, 83, 84, 85, 86, 87, 88, 89, 90, 91, 92, 93])
  .ret))))))))⟩

theorem c_law09_alive : compF Try.prog 8 = some F_law09_alive := by kernel_rfl
abbrev n_law09_alive : FuncId := 8

/-- millwright/nest.Check -/
def F_nest_Check : IFun :=
⟨15, 1, [.tmp 2, .tmp 3],
  (.seq (.reg [⟨(some 2), .mov (.c (.int .i64 0)), none⟩,
    ⟨(some 3), .mov (.c (.int .i64 0)), none⟩] [])
  (.seq (.reg [⟨(some 8), .mov (.s 0), none⟩,
    ⟨(some 9), .call 23 [(.s 8)], none⟩,
    ⟨(some 7), .mov (.s 9), none⟩,
    ⟨(some 10), .ext (.s 7) 0, none⟩,
    ⟨(some 11), .ext (.s 7) 1, none⟩,
    ⟨(some 12), .ext (.s 7) 2, none⟩,
    ⟨(some 4), .new 46 [.nl, .nl, .nl, .nl], none⟩,
    ⟨none, .store 4 (.s 4) (.s 10), none⟩,
    ⟨(some 5), .mov (.s 11), none⟩,
    ⟨(some 6), .mov (.s 12), none⟩] [8, 9, 7, 10, 11, 12, 4])
  (.seq (.reg [⟨(some 13), .mov (.s 5), none⟩,
    ⟨(some 14), .mov (.s 6), none⟩,
    ⟨(some 2), .mov (.s 13), none⟩,
    ⟨(some 3), .mov (.s 14), none⟩] [13, 14])
  .ret)))⟩

theorem c_nest_Check : compF Try.prog 9 = some F_nest_Check := by kernel_rfl
abbrev n_nest_Check : FuncId := 9

/-- millwright/millwrightref09.Check -/
def F_ref09_Check : IFun :=
⟨71, 1, [.tmp 2, .tmp 3],
  (.seq (.reg [⟨(some 2), .mov (.c (.int .i64 0)), none⟩,
    ⟨(some 3), .mov (.c (.int .i64 0)), none⟩] [])
  (.seq (.seq (.reg [⟨(some 4), .mov (.c (.int .i64 0)), none⟩] [])
  (.block 0 (.loop (.seq (.seq (.reg [⟨(some 7), .mov (.s 4), none⟩,
      ⟨(some 8), .mov (.s 0), none⟩,
      ⟨(some 9), .len (.s 8), none⟩,
      ⟨(some 10), .bin .lss (.s 7) (.s 9), none⟩] [7, 8, 9])
    (.cond (.s 10)
     .skip
     (.exit 0)))
    (.seq (.block 1 (.seq (.reg [⟨(some 13), .mov (.s 0), none⟩,
       ⟨(some 14), .mov (.s 4), none⟩,
       ⟨(some 15), .call 24 [(.s 13), (.s 14)], none⟩,
       ⟨(some 5), .mov (.s 15), none⟩] [13, 14, 15])
     (.seq (.seq (.reg [⟨(some 16), .mov (.s 5), none⟩,
       ⟨(some 17), .len (.s 16), none⟩,
       ⟨(some 18), .bin .eql (.s 17) (.c (.int .i64 0)), none⟩] [16, 17])
     (.cond (.s 18)
      (.seq (.reg [⟨(some 19), .mov (.s 4), none⟩,
        ⟨(some 2), .mov (.s 19), none⟩,
        ⟨(some 3), .mov (.c (.int .i64 16)), none⟩] [19])
      .ret)
      .skip))
     (.seq (.reg [⟨(some 20), .mov (.s 5), none⟩,
       ⟨(some 21), .mov (.s 5), none⟩,
       ⟨(some 22), .len (.s 21), none⟩,
       ⟨(some 23), .bin .sub (.s 22) (.c (.int .i64 1)), none⟩,
       ⟨(some 24), .iadr 1 (.s 20) (.s 23), none⟩,
       ⟨(some 25), .load none (.s 24), none⟩,
       ⟨(some 6), .mov (.s 25), none⟩] [20, 21, 22, 23, 24, 25])
     (.seq (.seq (.reg [⟨(some 26), .mov (.s 0), none⟩,
       ⟨(some 27), .mov (.s 4), none⟩,
       ⟨(some 28), .iadr 9 (.s 26) (.s 27), none⟩,
       ⟨(some 29), .fadr 0 (.s 28), none⟩,
       ⟨(some 30), .load none (.s 29), none⟩,
       ⟨(some 31), .bin .eql (.s 30) (.c (.int .i64 5)), none⟩,
       ⟨(some 32), .mov (.s 31), none⟩,
       ⟨(some 33), .mov (.s 6), (some (32, true))⟩,
       ⟨(some 34), .bin .lss (.s 33) (.c (.int .i64 0)), (some (32, true))⟩,
       ⟨(some 35), .mov (.s 34), (some (32, true))⟩,
       ⟨(some 36), .mov (.s 0), (some (35, false))⟩,
       ⟨(some 37), .mov (.s 6), (some (35, false))⟩,
       ⟨(some 38), .iadr 9 (.s 36) (.s 37), (some (35, false))⟩,
       ⟨(some 39), .fadr 0 (.s 38), (some (35, false))⟩,
       ⟨(some 40), .load none (.s 39), (some (35, false))⟩,
       ⟨(some 41), .bin .neq (.s 40) (.c (.int .i64 4)), (some (35, false))⟩,
       ⟨(some 42), .pick (.s 35) (.c (.bool true)) (.s 41), (some (32, true))⟩,
       ⟨(some 43), .mov (.s 42), (some (32, true))⟩,
       ⟨(some 44), .mov (.s 0), (some (43, false))⟩,
       ⟨(some 45), .mov (.s 6), (some (43, false))⟩,
       ⟨(some 46), .mov (.s 4), (some (43, false))⟩,
       ⟨(some 47), .call 25 [(.s 44), (.s 45), (.s 46)], (some (43, false))⟩,
       ⟨(some 48), .pick (.s 43) (.c (.bool true)) (.s 47), (some (32, true))⟩,
       ⟨(some 49), .pick (.s 32) (.s 48) (.c (.bool false)), none⟩] [26, 27, 28, 29, 30, 31, 32, 33, 34, 35, 36, 37, 38, 39, 40, 41, 42, 43, 44, 45, 46, 47, 48])
     (.cond (.s 49)
      (.seq (.reg [⟨(some 50), .mov (.s 4), none⟩,
        ⟨(some 2), .mov (.s 50), none⟩,
        ⟨(some 3), .mov (.c (.int .i64 16)), none⟩] [50])
      .ret)
      .skip))
     (.seq (.reg [⟨(some 51), .mov (.s 0), none⟩,
       ⟨(some 52), .mov (.s 4), none⟩,
       ⟨(some 53), .iadr 9 (.s 51) (.s 52), none⟩,
       ⟨(some 54), .fadr 0 (.s 53), none⟩,
       ⟨(some 55), .load none (.s 54), none⟩,
       ⟨(some 56), .call 26 [(.s 55)], none⟩,
       ⟨(some 57), .mov (.s 56), none⟩,
       ⟨(some 58), .mov (.s 5), (some (57, true))⟩,
       ⟨(some 59), .len (.s 58), (some (57, true))⟩,
       ⟨(some 60), .bin .geq (.s 59) (.c (.int .i64 32)), (some (57, true))⟩,
       ⟨(some 61), .pick (.s 57) (.s 60) (.c (.bool false)), none⟩] [51, 52, 53, 54, 55, 56, 57, 58, 59, 60])
     (.cond (.s 61)
      (.seq (.reg [⟨(some 62), .mov (.s 4), none⟩,
        ⟨(some 2), .mov (.s 62), none⟩,
        ⟨(some 3), .mov (.c (.int .i64 6)), none⟩] [62])
      .ret)
      .skip)))))))
    (.reg [⟨(some 11), .mov (.s 4), none⟩,
      ⟨(some 12), .bin .add (.s 11) (.c (.int .i64 1)), none⟩,
      ⟨(some 4), .mov (.s 12), none⟩] [11, 12]))))))
  (.seq (.seq (.reg [⟨(some 63), .mov (.s 0), none⟩,
    ⟨(some 64), .mov (.s 0), none⟩,
    ⟨(some 65), .len (.s 64), none⟩,
    ⟨(some 66), .call 24 [(.s 63), (.s 65)], none⟩,
    ⟨(some 67), .len (.s 66), none⟩,
    ⟨(some 68), .bin .gtr (.s 67) (.c (.int .i64 0)), none⟩] [63, 64, 65, 66, 67])
  (.cond (.s 68)
   (.seq (.reg [⟨(some 69), .mov (.s 0), none⟩,
     ⟨(some 70), .len (.s 69), none⟩,
     ⟨(some 2), .mov (.s 70), none⟩,
     ⟨(some 3), .mov (.c (.int .i64 3)), none⟩] [69, 70])
   .ret)
   .skip))
  (.seq (.reg [⟨(some 2), .mov (.c (.int .i64 0)), none⟩,
    ⟨(some 3), .mov (.c (.int .i64 0)), none⟩] [])
  .ret))))⟩

theorem c_ref09_Check : compF Try.prog 10 = some F_ref09_Check := by kernel_rfl
abbrev n_ref09_Check : FuncId := 10

/-- millwright/millwrightref09.Same -/
def F_ref09_Same : IFun :=
⟨26, 2, [.tmp 4],
  (.seq (.reg [⟨(some 4), .mov (.c (.bool false)), none⟩] [])
  (.seq (.seq (.reg [⟨(some 6), .mov (.s 0), none⟩,
    ⟨(some 7), .len (.s 6), none⟩,
    ⟨(some 8), .mov (.s 1), none⟩,
    ⟨(some 9), .len (.s 8), none⟩,
    ⟨(some 10), .bin .neq (.s 7) (.s 9), none⟩] [6, 7, 8, 9])
  (.cond (.s 10)
   (.seq (.reg [⟨(some 4), .mov (.c (.bool false)), none⟩] [])
   .ret)
   .skip))
  (.seq (.seq (.reg [⟨(some 5), .mov (.c (.int .i64 0)), none⟩] [])
  (.block 0 (.loop (.seq (.seq (.reg [⟨(some 11), .mov (.s 5), none⟩,
      ⟨(some 12), .mov (.s 0), none⟩,
      ⟨(some 13), .len (.s 12), none⟩,
      ⟨(some 14), .bin .lss (.s 11) (.s 13), none⟩] [11, 12, 13])
    (.cond (.s 14)
     .skip
     (.exit 0)))
    (.seq (.block 1 (.seq (.draw [⟨⟨(some 17), .mov (.s 0), none⟩, []⟩,
       ⟨⟨(some 18), .mov (.s 5), none⟩, []⟩,
       ⟨⟨(some 19), .iadr 1 (.s 17) (.s 18), none⟩, [0, 1]⟩,
       ⟨⟨(some 20), .load none (.s 19), none⟩, [2, 0, 1]⟩,
       ⟨⟨(some 21), .mov (.s 1), none⟩, []⟩,
       ⟨⟨(some 22), .mov (.s 5), none⟩, []⟩,
       ⟨⟨(some 23), .iadr 1 (.s 21) (.s 22), none⟩, [4, 5]⟩,
       ⟨⟨(some 24), .load none (.s 23), none⟩, [6, 4, 5]⟩,
       ⟨⟨(some 25), .bin .neq (.s 20) (.s 24), none⟩, [3, 2, 0, 1, 7, 6, 4, 5]⟩] [] [17, 18, 19, 20, 21, 22, 23, 24])
     (.cond (.s 25)
      (.seq (.reg [⟨(some 4), .mov (.c (.bool false)), none⟩] [])
      .ret)
      .skip)))
    (.reg [⟨(some 15), .mov (.s 5), none⟩,
      ⟨(some 16), .bin .add (.s 15) (.c (.int .i64 1)), none⟩,
      ⟨(some 5), .mov (.s 16), none⟩] [15, 16]))))))
  (.seq (.reg [⟨(some 4), .mov (.c (.bool true)), none⟩] [])
  .ret))))⟩

theorem c_ref09_Same : compF Try.prog 11 = some F_ref09_Same := by kernel_rfl
abbrev n_ref09_Same : FuncId := 11

/-- millwright/nest.Ends -/
def F_nest_Ends : IFun :=
⟨14, 1, [.tmp 2],
  (.seq (.reg [⟨(some 2), .mov (.c .nl), none⟩] [])
  (.seq (.reg [⟨(some 7), .mov (.s 0), none⟩,
    ⟨(some 8), .call 23 [(.s 7)], none⟩,
    ⟨(some 6), .mov (.s 8), none⟩,
    ⟨(some 9), .ext (.s 6) 0, none⟩,
    ⟨(some 10), .ext (.s 6) 1, none⟩,
    ⟨(some 11), .ext (.s 6) 2, none⟩,
    ⟨(some 3), .new 46 [.nl, .nl, .nl, .nl], none⟩,
    ⟨none, .store 4 (.s 3) (.s 9), none⟩,
    ⟨(some 4), .mov (.s 10), none⟩,
    ⟨(some 5), .mov (.s 11), none⟩] [7, 8, 6, 9, 10, 11, 4, 5])
  (.seq (.reg [⟨(some 12), .fadr 0 (.s 3), none⟩,
    ⟨(some 13), .load none (.s 12), none⟩,
    ⟨(some 2), .mov (.s 13), none⟩] [12, 13])
  .ret)))⟩

theorem c_nest_Ends : compF Try.prog 12 = some F_nest_Ends := by kernel_rfl
abbrev n_nest_Ends : FuncId := 12

/-- millwright/millwrightref09.Ends -/
def F_ref09_Ends : IFun :=
⟨48, 1, [.tmp 2],
  (.seq (.reg [⟨(some 2), .mov (.c .nl), none⟩] [])
  (.seq (.seq (.reg [⟨(some 10), .mov (.s 0), none⟩,
    ⟨(some 11), .call 10 [(.s 10)], none⟩,
    ⟨(some 9), .mov (.s 11), none⟩,
    ⟨(some 12), .ext (.s 9) 0, none⟩,
    ⟨(some 13), .ext (.s 9) 1, none⟩,
    ⟨(some 3), .mov (.s 12), none⟩,
    ⟨(some 4), .mov (.s 13), none⟩] [10, 11, 9, 12, 13, 3])
  (.seq (.reg [⟨(some 14), .mov (.s 4), none⟩,
    ⟨(some 15), .bin .neq (.s 14) (.c (.int .i64 0)), none⟩] [14])
  (.cond (.s 15)
   (.seq (.reg [⟨(some 2), .mov (.c .nl), none⟩] [])
   .ret)
   .skip)))
  (.seq (.reg [⟨(some 16), .mov (.s 0), none⟩,
    ⟨(some 17), .call 27 [(.s 16)], none⟩,
    ⟨(some 5), .mov (.s 17), none⟩] [16, 17])
  (.seq (.seq (.reg [⟨(some 6), .mov (.c (.int .i64 0)), none⟩] [])
  (.block 0 (.loop (.seq (.seq (.reg [⟨(some 18), .mov (.s 6), none⟩,
      ⟨(some 19), .mov (.s 0), none⟩,
      ⟨(some 20), .len (.s 19), none⟩,
      ⟨(some 21), .bin .lss (.s 18) (.s 20), none⟩] [18, 19, 20])
    (.cond (.s 21)
     .skip
     (.exit 0)))
    (.seq (.block 1 (.seq (.reg [⟨(some 24), .mov (.s 0), none⟩,
       ⟨(some 25), .mov (.s 6), none⟩,
       ⟨(some 26), .call 24 [(.s 24), (.s 25)], none⟩,
       ⟨(some 7), .mov (.s 26), none⟩] [24, 25, 26])
     (.seq (.reg [⟨(some 27), .mov (.s 7), none⟩,
       ⟨(some 28), .mov (.s 7), none⟩,
       ⟨(some 29), .len (.s 28), none⟩,
       ⟨(some 30), .bin .sub (.s 29) (.c (.int .i64 1)), none⟩,
       ⟨(some 31), .iadr 1 (.s 27) (.s 30), none⟩,
       ⟨(some 32), .load none (.s 31), none⟩,
       ⟨(some 8), .mov (.s 32), none⟩] [27, 28, 29, 30, 31, 32])
     (.seq (.reg [⟨(some 33), .mov (.s 0), none⟩,
       ⟨(some 34), .mov (.s 6), none⟩,
       ⟨(some 35), .iadr 9 (.s 33) (.s 34), none⟩,
       ⟨(some 36), .fadr 0 (.s 35), none⟩,
       ⟨(some 37), .load none (.s 36), none⟩,
       ⟨(some 38), .bin .eql (.s 37) (.c (.int .i64 11)), none⟩,
       ⟨(some 39), .mov (.s 38), none⟩,
       ⟨(some 40), .mov (.s 8), (some (39, true))⟩,
       ⟨(some 41), .bin .geq (.s 40) (.c (.int .i64 0)), (some (39, true))⟩,
       ⟨(some 42), .pick (.s 39) (.s 41) (.c (.bool false)), none⟩] [33, 34, 35, 36, 37, 38, 39, 40, 41])
     (.cond (.s 42)
      (.reg [⟨(some 43), .mov (.s 5), none⟩,
        ⟨(some 44), .mov (.s 8), none⟩,
        ⟨(some 45), .mov (.s 6), none⟩,
        ⟨(some 46), .iadr 1 (.s 43) (.s 44), none⟩,
        ⟨none, .store 1 (.s 46) (.s 45), none⟩] [43, 44, 45, 46])
      .skip)))))
    (.reg [⟨(some 22), .mov (.s 6), none⟩,
      ⟨(some 23), .bin .add (.s 22) (.c (.int .i64 1)), none⟩,
      ⟨(some 6), .mov (.s 23), none⟩] [22, 23]))))))
  (.seq (.reg [⟨(some 47), .mov (.s 5), none⟩,
    ⟨(some 2), .mov (.s 47), none⟩] [47])
  .ret)))))⟩

theorem c_ref09_Ends : compF Try.prog 13 = some F_ref09_Ends := by kernel_rfl
abbrev n_ref09_Ends : FuncId := 13

/-- millwright/nest.Elses -/
def F_nest_Elses : IFun :=
⟨14, 1, [.tmp 2],
  (.seq (.reg [⟨(some 2), .mov (.c .nl), none⟩] [])
  (.seq (.reg [⟨(some 7), .mov (.s 0), none⟩,
    ⟨(some 8), .call 23 [(.s 7)], none⟩,
    ⟨(some 6), .mov (.s 8), none⟩,
    ⟨(some 9), .ext (.s 6) 0, none⟩,
    ⟨(some 10), .ext (.s 6) 1, none⟩,
    ⟨(some 11), .ext (.s 6) 2, none⟩,
    ⟨(some 3), .new 46 [.nl, .nl, .nl, .nl], none⟩,
    ⟨none, .store 4 (.s 3) (.s 9), none⟩,
    ⟨(some 4), .mov (.s 10), none⟩,
    ⟨(some 5), .mov (.s 11), none⟩] [7, 8, 6, 9, 10, 11, 4, 5])
  (.seq (.reg [⟨(some 12), .fadr 1 (.s 3), none⟩,
    ⟨(some 13), .load none (.s 12), none⟩,
    ⟨(some 2), .mov (.s 13), none⟩] [12, 13])
  .ret)))⟩

theorem c_nest_Elses : compF Try.prog 14 = some F_nest_Elses := by kernel_rfl
abbrev n_nest_Elses : FuncId := 14

/-- millwright/millwrightref09.Elses -/
def F_ref09_Elses : IFun :=
⟨42, 1, [.tmp 2],
  (.seq (.reg [⟨(some 2), .mov (.c .nl), none⟩] [])
  (.seq (.seq (.reg [⟨(some 9), .mov (.s 0), none⟩,
    ⟨(some 10), .call 10 [(.s 9)], none⟩,
    ⟨(some 8), .mov (.s 10), none⟩,
    ⟨(some 11), .ext (.s 8) 0, none⟩,
    ⟨(some 12), .ext (.s 8) 1, none⟩,
    ⟨(some 3), .mov (.s 11), none⟩,
    ⟨(some 4), .mov (.s 12), none⟩] [9, 10, 8, 11, 12, 3])
  (.seq (.reg [⟨(some 13), .mov (.s 4), none⟩,
    ⟨(some 14), .bin .neq (.s 13) (.c (.int .i64 0)), none⟩] [13])
  (.cond (.s 14)
   (.seq (.reg [⟨(some 2), .mov (.c .nl), none⟩] [])
   .ret)
   .skip)))
  (.seq (.reg [⟨(some 15), .mov (.s 0), none⟩,
    ⟨(some 16), .call 27 [(.s 15)], none⟩,
    ⟨(some 5), .mov (.s 16), none⟩] [15, 16])
  (.seq (.seq (.reg [⟨(some 6), .mov (.c (.int .i64 0)), none⟩] [])
  (.block 0 (.loop (.seq (.seq (.reg [⟨(some 17), .mov (.s 6), none⟩,
      ⟨(some 18), .mov (.s 0), none⟩,
      ⟨(some 19), .len (.s 18), none⟩,
      ⟨(some 20), .bin .lss (.s 17) (.s 19), none⟩] [17, 18, 19])
    (.cond (.s 20)
     .skip
     (.exit 0)))
    (.seq (.block 1 (.seq (.reg [⟨(some 23), .mov (.s 0), none⟩,
       ⟨(some 24), .mov (.s 6), none⟩,
       ⟨(some 25), .call 24 [(.s 23), (.s 24)], none⟩,
       ⟨(some 7), .mov (.s 25), none⟩] [23, 24, 25])
     (.seq (.reg [⟨(some 26), .mov (.s 0), none⟩,
       ⟨(some 27), .mov (.s 6), none⟩,
       ⟨(some 28), .iadr 9 (.s 26) (.s 27), none⟩,
       ⟨(some 29), .fadr 0 (.s 28), none⟩,
       ⟨(some 30), .load none (.s 29), none⟩,
       ⟨(some 31), .bin .eql (.s 30) (.c (.int .i64 5)), none⟩] [26, 27, 28, 29, 30])
     (.cond (.s 31)
      (.reg [⟨(some 32), .mov (.s 5), none⟩,
        ⟨(some 33), .mov (.s 7), none⟩,
        ⟨(some 34), .mov (.s 7), none⟩,
        ⟨(some 35), .len (.s 34), none⟩,
        ⟨(some 36), .bin .sub (.s 35) (.c (.int .i64 1)), none⟩,
        ⟨(some 37), .iadr 1 (.s 33) (.s 36), none⟩,
        ⟨(some 38), .load none (.s 37), none⟩,
        ⟨(some 39), .mov (.s 6), none⟩,
        ⟨(some 40), .iadr 1 (.s 32) (.s 38), none⟩,
        ⟨none, .store 1 (.s 40) (.s 39), none⟩] [32, 33, 34, 35, 36, 37, 38, 39, 40])
      .skip))))
    (.reg [⟨(some 21), .mov (.s 6), none⟩,
      ⟨(some 22), .bin .add (.s 21) (.c (.int .i64 1)), none⟩,
      ⟨(some 6), .mov (.s 22), none⟩] [21, 22]))))))
  (.seq (.reg [⟨(some 41), .mov (.s 5), none⟩,
    ⟨(some 2), .mov (.s 41), none⟩] [41])
  .ret)))))⟩

theorem c_ref09_Elses : compF Try.prog 15 = some F_ref09_Elses := by kernel_rfl
abbrev n_ref09_Elses : FuncId := 15

/-- millwright/nest.Depths -/
def F_nest_Depths : IFun :=
⟨14, 1, [.tmp 2],
  (.seq (.reg [⟨(some 2), .mov (.c .nl), none⟩] [])
  (.seq (.reg [⟨(some 7), .mov (.s 0), none⟩,
    ⟨(some 8), .call 23 [(.s 7)], none⟩,
    ⟨(some 6), .mov (.s 8), none⟩,
    ⟨(some 9), .ext (.s 6) 0, none⟩,
    ⟨(some 10), .ext (.s 6) 1, none⟩,
    ⟨(some 11), .ext (.s 6) 2, none⟩,
    ⟨(some 3), .new 46 [.nl, .nl, .nl, .nl], none⟩,
    ⟨none, .store 4 (.s 3) (.s 9), none⟩,
    ⟨(some 4), .mov (.s 10), none⟩,
    ⟨(some 5), .mov (.s 11), none⟩] [7, 8, 6, 9, 10, 11, 4, 5])
  (.seq (.reg [⟨(some 12), .fadr 2 (.s 3), none⟩,
    ⟨(some 13), .load none (.s 12), none⟩,
    ⟨(some 2), .mov (.s 13), none⟩] [12, 13])
  .ret)))⟩

theorem c_nest_Depths : compF Try.prog 16 = some F_nest_Depths := by kernel_rfl
abbrev n_nest_Depths : FuncId := 16

/-- millwright/millwrightref09.Depths -/
def F_ref09_Depths : IFun :=
⟨28, 1, [.tmp 2],
  (.seq (.reg [⟨(some 2), .mov (.c .nl), none⟩] [])
  (.seq (.seq (.reg [⟨(some 8), .mov (.s 0), none⟩,
    ⟨(some 9), .call 10 [(.s 8)], none⟩,
    ⟨(some 7), .mov (.s 9), none⟩,
    ⟨(some 10), .ext (.s 7) 0, none⟩,
    ⟨(some 11), .ext (.s 7) 1, none⟩,
    ⟨(some 3), .mov (.s 10), none⟩,
    ⟨(some 4), .mov (.s 11), none⟩] [8, 9, 7, 10, 11, 3])
  (.seq (.reg [⟨(some 12), .mov (.s 4), none⟩,
    ⟨(some 13), .bin .neq (.s 12) (.c (.int .i64 0)), none⟩] [12])
  (.cond (.s 13)
   (.seq (.reg [⟨(some 2), .mov (.c .nl), none⟩] [])
   .ret)
   .skip)))
  (.seq (.reg [⟨(some 5), .mov (.c .nl), none⟩] [])
  (.seq (.seq (.reg [⟨(some 6), .mov (.c (.int .i64 0)), none⟩] [])
  (.block 0 (.loop (.seq (.seq (.reg [⟨(some 14), .mov (.s 6), none⟩,
      ⟨(some 15), .mov (.s 0), none⟩,
      ⟨(some 16), .len (.s 15), none⟩,
      ⟨(some 17), .bin .lss (.s 14) (.s 16), none⟩] [14, 15, 16])
    (.cond (.s 17)
     .skip
     (.exit 0)))
    (.seq (.block 1 (.reg [⟨(some 20), .mov (.s 5), none⟩,
       ⟨(some 21), .mov (.s 0), none⟩,
       ⟨(some 22), .mov (.s 6), none⟩,
       ⟨(some 23), .call 24 [(.s 21), (.s 22)], none⟩,
       ⟨(some 24), .len (.s 23), none⟩,
       ⟨(some 25), .bsl 3 1 [[(.int .i64 0)]] [(0, (.s 24))], none⟩,
       ⟨(some 26), .app 3 1 (.s 20) (.s 25), none⟩,
       ⟨(some 5), .mov (.s 26), none⟩] [20, 21, 22, 23, 24, 25, 26]))
    (.reg [⟨(some 18), .mov (.s 6), none⟩,
      ⟨(some 19), .bin .add (.s 18) (.c (.int .i64 1)), none⟩,
      ⟨(some 6), .mov (.s 19), none⟩] [18, 19]))))))
  (.seq (.reg [⟨(some 27), .mov (.s 5), none⟩,
    ⟨(some 2), .mov (.s 27), none⟩] [27])
  .ret)))))⟩

theorem c_ref09_Depths : compF Try.prog 17 = some F_ref09_Depths := by kernel_rfl
abbrev n_ref09_Depths : FuncId := 17

/-- millwright/nest.Heads -/
def F_nest_Heads : IFun :=
⟨14, 1, [.tmp 2],
  (.seq (.reg [⟨(some 2), .mov (.c .nl), none⟩] [])
  (.seq (.reg [⟨(some 7), .mov (.s 0), none⟩,
    ⟨(some 8), .call 23 [(.s 7)], none⟩,
    ⟨(some 6), .mov (.s 8), none⟩,
    ⟨(some 9), .ext (.s 6) 0, none⟩,
    ⟨(some 10), .ext (.s 6) 1, none⟩,
    ⟨(some 11), .ext (.s 6) 2, none⟩,
    ⟨(some 3), .new 46 [.nl, .nl, .nl, .nl], none⟩,
    ⟨none, .store 4 (.s 3) (.s 9), none⟩,
    ⟨(some 4), .mov (.s 10), none⟩,
    ⟨(some 5), .mov (.s 11), none⟩] [7, 8, 6, 9, 10, 11, 4, 5])
  (.seq (.reg [⟨(some 12), .fadr 3 (.s 3), none⟩,
    ⟨(some 13), .load none (.s 12), none⟩,
    ⟨(some 2), .mov (.s 13), none⟩] [12, 13])
  .ret)))⟩

theorem c_nest_Heads : compF Try.prog 18 = some F_nest_Heads := by kernel_rfl
abbrev n_nest_Heads : FuncId := 18

/-- millwright/millwrightref09.Heads -/
def F_ref09_Heads : IFun :=
⟨34, 1, [.tmp 2],
  (.seq (.reg [⟨(some 2), .mov (.c .nl), none⟩] [])
  (.seq (.seq (.reg [⟨(some 9), .mov (.s 0), none⟩,
    ⟨(some 10), .call 10 [(.s 9)], none⟩,
    ⟨(some 8), .mov (.s 10), none⟩,
    ⟨(some 11), .ext (.s 8) 0, none⟩,
    ⟨(some 12), .ext (.s 8) 1, none⟩,
    ⟨(some 3), .mov (.s 11), none⟩,
    ⟨(some 4), .mov (.s 12), none⟩] [9, 10, 8, 11, 12, 3])
  (.seq (.reg [⟨(some 13), .mov (.s 4), none⟩,
    ⟨(some 14), .bin .neq (.s 13) (.c (.int .i64 0)), none⟩] [13])
  (.cond (.s 14)
   (.seq (.reg [⟨(some 2), .mov (.c .nl), none⟩] [])
   .ret)
   .skip)))
  (.seq (.reg [⟨(some 5), .mov (.c .nl), none⟩] [])
  (.seq (.seq (.reg [⟨(some 6), .mov (.c (.int .i64 0)), none⟩] [])
  (.block 0 (.loop (.seq (.seq (.reg [⟨(some 15), .mov (.s 6), none⟩,
      ⟨(some 16), .mov (.s 0), none⟩,
      ⟨(some 17), .len (.s 16), none⟩,
      ⟨(some 18), .bin .lss (.s 15) (.s 17), none⟩] [15, 16, 17])
    (.cond (.s 18)
     .skip
     (.exit 0)))
    (.seq (.block 1 (.seq (.reg [⟨(some 21), .mov (.s 0), none⟩,
       ⟨(some 22), .mov (.s 6), none⟩,
       ⟨(some 23), .call 24 [(.s 21), (.s 22)], none⟩,
       ⟨(some 7), .mov (.s 23), none⟩] [21, 22, 23])
     (.reg [⟨(some 24), .mov (.s 5), none⟩,
       ⟨(some 25), .mov (.s 7), none⟩,
       ⟨(some 26), .mov (.s 7), none⟩,
       ⟨(some 27), .len (.s 26), none⟩,
       ⟨(some 28), .bin .sub (.s 27) (.c (.int .i64 1)), none⟩,
       ⟨(some 29), .iadr 1 (.s 25) (.s 28), none⟩,
       ⟨(some 30), .load none (.s 29), none⟩,
       ⟨(some 31), .bsl 3 1 [[(.int .i64 0)]] [(0, (.s 30))], none⟩,
       ⟨(some 32), .app 3 1 (.s 24) (.s 31), none⟩,
       ⟨(some 5), .mov (.s 32), none⟩] [24, 25, 26, 27, 28, 29, 30, 31, 32])))
    (.reg [⟨(some 19), .mov (.s 6), none⟩,
      ⟨(some 20), .bin .add (.s 19) (.c (.int .i64 1)), none⟩,
      ⟨(some 6), .mov (.s 20), none⟩] [19, 20]))))))
  (.seq (.reg [⟨(some 33), .mov (.s 5), none⟩,
    ⟨(some 2), .mov (.s 33), none⟩] [33])
  .ret)))))⟩

theorem c_ref09_Heads : compF Try.prog 19 = some F_ref09_Heads := by kernel_rfl
abbrev n_ref09_Heads : FuncId := 19

/-- millwright/nest.Target -/
def F_nest_Target : IFun :=
⟨77, 3, [.tmp 6, .tmp 7],
  (.seq (.reg [⟨(some 6), .mov (.c (.int .i64 0)), none⟩,
    ⟨(some 7), .mov (.c (.bool false)), none⟩] [])
  (.seq (.reg [⟨(some 13), .mov (.s 0), none⟩,
    ⟨(some 14), .call 23 [(.s 13)], none⟩,
    ⟨(some 12), .mov (.s 14), none⟩,
    ⟨(some 15), .ext (.s 12) 0, none⟩,
    ⟨(some 16), .ext (.s 12) 1, none⟩,
    ⟨(some 17), .ext (.s 12) 2, none⟩,
    ⟨(some 8), .new 46 [.nl, .nl, .nl, .nl], none⟩,
    ⟨none, .store 4 (.s 8) (.s 15), none⟩,
    ⟨(some 9), .mov (.s 16), none⟩,
    ⟨(some 10), .mov (.s 17), none⟩] [13, 14, 12, 15, 16, 17, 9])
  (.seq (.seq (.reg [⟨(some 18), .mov (.s 10), none⟩,
    ⟨(some 19), .bin .neq (.s 18) (.c (.int .i64 0)), none⟩,
    ⟨(some 20), .mov (.s 19), none⟩,
    ⟨(some 21), .mov (.s 1), (some (20, false))⟩,
    ⟨(some 22), .bin .lss (.s 21) (.c (.int .i64 0)), (some (20, false))⟩,
    ⟨(some 23), .pick (.s 20) (.c (.bool true)) (.s 22), none⟩,
    ⟨(some 24), .mov (.s 23), none⟩,
    ⟨(some 25), .mov (.s 1), (some (24, false))⟩,
    ⟨(some 26), .mov (.s 0), (some (24, false))⟩,
    ⟨(some 27), .len (.s 26), (some (24, false))⟩,
    ⟨(some 28), .bin .geq (.s 25) (.s 27), (some (24, false))⟩,
    ⟨(some 29), .pick (.s 24) (.c (.bool true)) (.s 28), none⟩,
    ⟨(some 30), .mov (.s 29), none⟩,
    ⟨(some 31), .mov (.s 2), (some (30, false))⟩,
    ⟨(some 32), .bin .lss (.s 31) (.c (.int .i64 0)), (some (30, false))⟩,
    ⟨(some 33), .pick (.s 30) (.c (.bool true)) (.s 32), none⟩,
    ⟨(some 34), .mov (.s 33), none⟩,
    ⟨(some 35), .mov (.s 2), (some (34, false))⟩,
    ⟨(some 36), .fadr 2 (.s 8), (some (34, false))⟩,
    ⟨(some 37), .load none (.s 36), (some (34, false))⟩,
    ⟨(some 38), .mov (.s 1), (some (34, false))⟩,
    ⟨(some 39), .iadr 1 (.s 37) (.s 38), (some (34, false))⟩,
    ⟨(some 40), .load none (.s 39), (some (34, false))⟩,
    ⟨(some 41), .bin .geq (.s 35) (.s 40), (some (34, false))⟩,
    ⟨(some 42), .pick (.s 34) (.c (.bool true)) (.s 41), none⟩] [18, 19, 20, 21, 22, 23, 24, 25, 26, 27, 28, 29, 30, 31, 32, 33, 34, 35, 36, 37, 38, 39, 40, 41])
  (.cond (.s 42)
   (.seq (.reg [⟨(some 6), .mov (.c (.int .i64 0)), none⟩,
     ⟨(some 7), .mov (.c (.bool false)), none⟩] [])
   .ret)
   .skip))
  (.seq (.reg [⟨(some 43), .fadr 3 (.s 8), none⟩,
    ⟨(some 44), .load none (.s 43), none⟩,
    ⟨(some 45), .mov (.s 1), none⟩,
    ⟨(some 46), .iadr 1 (.s 44) (.s 45), none⟩,
    ⟨(some 47), .load none (.s 46), none⟩,
    ⟨(some 11), .mov (.s 47), none⟩] [43, 44, 45, 46, 47])
  (.seq (.block 0 (.loop (.seq (.seq (.reg [⟨(some 48), .mov (.s 2), none⟩,
      ⟨(some 49), .bin .gtr (.s 48) (.c (.int .i64 0)), none⟩] [48])
    (.cond (.s 49)
     .skip
     (.exit 0)))
    (.seq (.block 1 (.reg [⟨(some 52), .fadr 3 (.s 8), none⟩,
       ⟨(some 53), .load none (.s 52), none⟩,
       ⟨(some 54), .mov (.s 11), none⟩,
       ⟨(some 55), .iadr 1 (.s 53) (.s 54), none⟩,
       ⟨(some 56), .load none (.s 55), none⟩,
       ⟨(some 11), .mov (.s 56), none⟩] [52, 53, 54, 55, 56]))
    (.reg [⟨(some 50), .mov (.s 2), none⟩,
      ⟨(some 51), .bin .sub (.s 50) (.c (.int .i64 1)), none⟩,
      ⟨(some 2), .mov (.s 51), none⟩] [50, 51])))))
  (.seq (.block 2 (.seq (.reg [⟨(some 58), .mov (.s 11), none⟩,
     ⟨(some 59), .bin .lss (.s 58) (.c (.int .i64 0)), none⟩,
     ⟨(some 57), .mov (.s 59), none⟩] [58, 59])
   (.cond (.s 57)
    (.seq (.reg [⟨(some 60), .mov (.s 0), none⟩,
      ⟨(some 61), .len (.s 60), none⟩,
      ⟨(some 62), .bin .sub (.s 61) (.c (.int .i64 1)), none⟩,
      ⟨(some 6), .mov (.s 62), none⟩,
      ⟨(some 7), .mov (.c (.bool true)), none⟩] [60, 61, 62])
    .ret)
    (.seq (.reg [⟨(some 64), .mov (.s 0), none⟩,
      ⟨(some 65), .mov (.s 11), none⟩,
      ⟨(some 66), .iadr 9 (.s 64) (.s 65), none⟩,
      ⟨(some 67), .fadr 0 (.s 66), none⟩,
      ⟨(some 68), .load none (.s 67), none⟩,
      ⟨(some 69), .bin .eql (.s 68) (.c (.int .i64 3)), none⟩,
      ⟨(some 63), .mov (.s 69), none⟩] [64, 65, 66, 67, 68, 69])
    (.cond (.s 63)
     (.seq (.reg [⟨(some 70), .mov (.s 11), none⟩,
       ⟨(some 71), .bin .add (.s 70) (.c (.int .i64 1)), none⟩,
       ⟨(some 6), .mov (.s 71), none⟩,
       ⟨(some 7), .mov (.c (.bool true)), none⟩] [70, 71])
     .ret)
     .skip)))))
  (.seq (.reg [⟨(some 72), .fadr 0 (.s 8), none⟩,
    ⟨(some 73), .load none (.s 72), none⟩,
    ⟨(some 74), .mov (.s 11), none⟩,
    ⟨(some 75), .iadr 1 (.s 73) (.s 74), none⟩,
    ⟨(some 76), .load none (.s 75), none⟩,
    ⟨(some 6), .mov (.s 76), none⟩,
    ⟨(some 7), .mov (.c (.bool true)), none⟩] [72, 73, 74, 75, 76])
  .ret)))))))⟩

theorem c_nest_Target : compF Try.prog 20 = some F_nest_Target := by kernel_rfl
abbrev n_nest_Target : FuncId := 20

/-- millwright/millwrightref09.Target -/
def F_ref09_Target : IFun :=
⟨66, 3, [.tmp 6, .tmp 7],
  (.seq (.reg [⟨(some 6), .mov (.c (.int .i64 0)), none⟩,
    ⟨(some 7), .mov (.c (.bool false)), none⟩] [])
  (.seq (.seq (.reg [⟨(some 13), .mov (.s 0), none⟩,
    ⟨(some 14), .call 10 [(.s 13)], none⟩,
    ⟨(some 12), .mov (.s 14), none⟩,
    ⟨(some 15), .ext (.s 12) 0, none⟩,
    ⟨(some 16), .ext (.s 12) 1, none⟩,
    ⟨(some 8), .mov (.s 15), none⟩,
    ⟨(some 9), .mov (.s 16), none⟩] [13, 14, 12, 15, 16, 8])
  (.seq (.reg [⟨(some 17), .mov (.s 9), none⟩,
    ⟨(some 18), .bin .neq (.s 17) (.c (.int .i64 0)), none⟩,
    ⟨(some 19), .mov (.s 18), none⟩,
    ⟨(some 20), .mov (.s 1), (some (19, false))⟩,
    ⟨(some 21), .bin .lss (.s 20) (.c (.int .i64 0)), (some (19, false))⟩,
    ⟨(some 22), .pick (.s 19) (.c (.bool true)) (.s 21), none⟩,
    ⟨(some 23), .mov (.s 22), none⟩,
    ⟨(some 24), .mov (.s 1), (some (23, false))⟩,
    ⟨(some 25), .mov (.s 0), (some (23, false))⟩,
    ⟨(some 26), .len (.s 25), (some (23, false))⟩,
    ⟨(some 27), .bin .geq (.s 24) (.s 26), (some (23, false))⟩,
    ⟨(some 28), .pick (.s 23) (.c (.bool true)) (.s 27), none⟩] [17, 18, 19, 20, 21, 22, 23, 24, 25, 26, 27])
  (.cond (.s 28)
   (.seq (.reg [⟨(some 6), .mov (.c (.int .i64 0)), none⟩,
     ⟨(some 7), .mov (.c (.bool false)), none⟩] [])
   .ret)
   .skip)))
  (.seq (.reg [⟨(some 29), .mov (.s 0), none⟩,
    ⟨(some 30), .mov (.s 1), none⟩,
    ⟨(some 31), .call 24 [(.s 29), (.s 30)], none⟩,
    ⟨(some 10), .mov (.s 31), none⟩] [29, 30, 31])
  (.seq (.seq (.reg [⟨(some 32), .mov (.s 2), none⟩,
    ⟨(some 33), .bin .lss (.s 32) (.c (.int .i64 0)), none⟩,
    ⟨(some 34), .mov (.s 33), none⟩,
    ⟨(some 35), .mov (.s 2), (some (34, false))⟩,
    ⟨(some 36), .mov (.s 10), (some (34, false))⟩,
    ⟨(some 37), .len (.s 36), (some (34, false))⟩,
    ⟨(some 38), .bin .geq (.s 35) (.s 37), (some (34, false))⟩,
    ⟨(some 39), .pick (.s 34) (.c (.bool true)) (.s 38), none⟩] [32, 33, 34, 35, 36, 37, 38])
  (.cond (.s 39)
   (.seq (.reg [⟨(some 6), .mov (.c (.int .i64 0)), none⟩,
     ⟨(some 7), .mov (.c (.bool false)), none⟩] [])
   .ret)
   .skip))
  (.seq (.reg [⟨(some 40), .mov (.s 10), none⟩,
    ⟨(some 41), .mov (.s 10), none⟩,
    ⟨(some 42), .len (.s 41), none⟩,
    ⟨(some 43), .bin .sub (.s 42) (.c (.int .i64 1)), none⟩,
    ⟨(some 44), .mov (.s 2), none⟩,
    ⟨(some 45), .bin .sub (.s 43) (.s 44), none⟩,
    ⟨(some 46), .iadr 1 (.s 40) (.s 45), none⟩,
    ⟨(some 47), .load none (.s 46), none⟩,
    ⟨(some 11), .mov (.s 47), none⟩] [40, 41, 42, 43, 44, 45, 46, 47])
  (.seq (.seq (.reg [⟨(some 48), .mov (.s 11), none⟩,
    ⟨(some 49), .bin .lss (.s 48) (.c (.int .i64 0)), none⟩] [48])
  (.cond (.s 49)
   (.seq (.reg [⟨(some 50), .mov (.s 0), none⟩,
     ⟨(some 51), .len (.s 50), none⟩,
     ⟨(some 52), .bin .sub (.s 51) (.c (.int .i64 1)), none⟩,
     ⟨(some 6), .mov (.s 52), none⟩,
     ⟨(some 7), .mov (.c (.bool true)), none⟩] [50, 51, 52])
   .ret)
   .skip))
  (.seq (.seq (.reg [⟨(some 53), .mov (.s 0), none⟩,
    ⟨(some 54), .mov (.s 11), none⟩,
    ⟨(some 55), .iadr 9 (.s 53) (.s 54), none⟩,
    ⟨(some 56), .fadr 0 (.s 55), none⟩,
    ⟨(some 57), .load none (.s 56), none⟩,
    ⟨(some 58), .bin .eql (.s 57) (.c (.int .i64 3)), none⟩] [53, 54, 55, 56, 57])
  (.cond (.s 58)
   (.seq (.reg [⟨(some 59), .mov (.s 11), none⟩,
     ⟨(some 60), .bin .add (.s 59) (.c (.int .i64 1)), none⟩,
     ⟨(some 6), .mov (.s 60), none⟩,
     ⟨(some 7), .mov (.c (.bool true)), none⟩] [59, 60])
   .ret)
   .skip))
  (.seq (.reg [⟨(some 61), .mov (.s 0), none⟩,
    ⟨(some 62), .call 13 [(.s 61)], none⟩,
    ⟨(some 63), .mov (.s 11), none⟩,
    ⟨(some 64), .iadr 1 (.s 62) (.s 63), none⟩,
    ⟨(some 65), .load none (.s 64), none⟩,
    ⟨(some 6), .mov (.s 65), none⟩,
    ⟨(some 7), .mov (.c (.bool true)), none⟩] [61, 62, 63, 64, 65])
  .ret))))))))⟩

theorem c_ref09_Target : compF Try.prog 21 = some F_ref09_Target := by kernel_rfl
abbrev n_ref09_Target : FuncId := 21

/-- millwright/millwrightlaw09.ops -/
def F_law09_ops : IFun :=
⟨20, 1, [.tmp 2],
  (.seq (.reg [⟨(some 2), .mov (.c .nl), none⟩] [])
  (.seq (.reg [⟨(some 3), .mov (.c .nl), none⟩] [])
  (.seq (.seq (.reg [⟨(some 4), .mov (.c (.int .i64 0)), none⟩] [])
  (.block 0 (.loop (.seq (.seq (.reg [⟨(some 5), .mov (.s 4), none⟩,
      ⟨(some 6), .mov (.s 0), none⟩,
      ⟨(some 7), .len (.s 6), none⟩,
      ⟨(some 8), .bin .lss (.s 5) (.s 7), none⟩] [5, 6, 7])
    (.cond (.s 8)
     .skip
     (.exit 0)))
    (.seq (.block 1 (.reg [⟨(some 11), .mov (.s 3), none⟩,
       ⟨(some 12), .mov (.s 0), none⟩,
       ⟨(some 13), .mov (.s 4), none⟩,
       ⟨(some 14), .iadr 1 (.s 12) (.s 13), none⟩,
       ⟨(some 15), .load none (.s 14), none⟩,
       ⟨(some 16), .build [(.int .i64 0), (.int .i64 0), (.int .i64 0), (.int .u64 0), (.int .i64 0), (.int .i64 0), (.int .i64 0), .nl, .nl] [(0, 1, (.s 15))], none⟩,
       ⟨(some 17), .bsl 41 9 [[(.int .i64 0), (.int .i64 0), (.int .i64 0), (.int .u64 0), (.int .i64 0), (.int .i64 0), (.int .i64 0), .nl, .nl]] [(0, (.s 16))], none⟩,
       ⟨(some 18), .app 41 9 (.s 11) (.s 17), none⟩,
       ⟨(some 3), .mov (.s 18), none⟩] [11, 12, 13, 14, 15, 16, 17, 18]))
    (.reg [⟨(some 9), .mov (.s 4), none⟩,
      ⟨(some 10), .bin .add (.s 9) (.c (.int .i64 1)), none⟩,
      ⟨(some 4), .mov (.s 10), none⟩] [9, 10]))))))
  (.seq (.reg [⟨(some 19), .mov (.s 3), none⟩,
    ⟨(some 2), .mov (.s 19), none⟩] [19])
  .ret))))⟩

theorem c_law09_ops : compF Try.prog 22 = some F_law09_ops := by kernel_rfl
abbrev n_law09_ops : FuncId := 22

/-- millwright/nest.look -/
def F_nest_look : IFun :=
⟨135, 1, [.cell 2 (some 4), .tmp 3, .tmp 4],
  (.seq (.reg [⟨(some 2), .new 46 [.nl, .nl, .nl, .nl], none⟩,
    ⟨(some 3), .mov (.c (.int .i64 0)), none⟩,
    ⟨(some 4), .mov (.c (.int .i64 0)), none⟩] [])
  (.seq (.reg [⟨(some 11), .mov (.s 0), none⟩,
    ⟨(some 12), .len (.s 11), none⟩,
    ⟨(some 5), .mov (.s 12), none⟩] [11, 12])
  (.seq (.reg [⟨(some 13), .mov (.s 5), none⟩,
    ⟨(some 14), .call 28 [(.s 13)], none⟩,
    ⟨(some 15), .mov (.s 5), none⟩,
    ⟨(some 16), .call 28 [(.s 15)], none⟩,
    ⟨(some 17), .mov (.s 5), none⟩,
    ⟨(some 18), .call 28 [(.s 17)], none⟩,
    ⟨(some 19), .mov (.s 5), none⟩,
    ⟨(some 20), .call 28 [(.s 19)], none⟩,
    ⟨(some 21), .build [.nl, .nl, .nl, .nl] [(0, 1, (.s 14)), (1, 1, (.s 16)), (2, 1, (.s 18)), (3, 1, (.s 20))], none⟩,
    ⟨(some 6), .new 46 [.nl, .nl, .nl, .nl], none⟩,
    ⟨none, .store 4 (.s 6) (.s 21), none⟩] [13, 14, 15, 16, 17, 18, 19, 20, 21])
  (.seq (.reg [⟨(some 22), .build [(.int .i64 0), (.bool false)] [(0, 1, (.c (.int .i64 (-1))))], none⟩,
    ⟨(some 23), .bsl 53 2 [[(.int .i64 0), (.bool false)]] [(0, (.s 22))], none⟩,
    ⟨(some 7), .mov (.s 23), none⟩] [22, 23])
  (.seq .skip
  (.seq (.seq (.reg [⟨(some 24), .mov (.s 0), none⟩,
    ⟨(some 25), .len (.s 24), none⟩,
    ⟨(some 26), .mov (.c (.int .i64 0)), none⟩] [])
  (.block 0 (.loop (.seq (.reg [⟨(some 27), .bin .lss (.s 26) (.s 25), none⟩] [])
    (.seq (.cond (.s 27)
     .skip
     (.exit 0))
    (.seq (.block 1 (.seq (.reg [⟨(some 28), .mov (.s 26), none⟩,
       ⟨(some 29), .iadr 9 (.s 24) (.s 26), none⟩,
       ⟨(some 30), .load (some 9) (.s 29), none⟩,
       ⟨(some 9), .new 41 [(.int .i64 0), (.int .i64 0), (.int .i64 0), (.int .u64 0), (.int .i64 0), (.int .i64 0), (.int .i64 0), .nl, .nl], none⟩,
       ⟨(some 8), .mov (.s 28), none⟩,
       ⟨none, .store 9 (.s 9) (.s 30), none⟩] [28, 29, 30])
     (.seq (.seq (.reg [⟨(some 31), .mov (.s 7), none⟩,
       ⟨(some 32), .len (.s 31), none⟩,
       ⟨(some 33), .bin .eql (.s 32) (.c (.int .i64 0)), none⟩] [31, 32])
     (.cond (.s 33)
      (.seq (.reg [⟨(some 34), .build [.nl, .nl, .nl, .nl] [], none⟩,
        ⟨(some 35), .mov (.s 8), none⟩,
        ⟨none, .store 4 (.s 2) (.s 34), none⟩,
        ⟨(some 3), .mov (.s 35), none⟩,
        ⟨(some 4), .mov (.c (.int .i64 16)), none⟩] [34, 35])
      .ret)
      .skip))
     (.seq (.reg [⟨(some 36), .mov (.s 7), none⟩,
       ⟨(some 37), .mov (.s 7), none⟩,
       ⟨(some 38), .len (.s 37), none⟩,
       ⟨(some 39), .bin .sub (.s 38) (.c (.int .i64 1)), none⟩,
       ⟨(some 40), .iadr 2 (.s 36) (.s 39), none⟩,
       ⟨(some 10), .mov (.s 40), none⟩] [36, 37, 38, 39, 40])
     (.seq (.reg [⟨(some 41), .fadr 2 (.s 6), none⟩,
       ⟨(some 42), .load none (.s 41), none⟩,
       ⟨(some 43), .mov (.s 8), none⟩,
       ⟨(some 44), .mov (.s 7), none⟩,
       ⟨(some 45), .len (.s 44), none⟩,
       ⟨(some 46), .iadr 1 (.s 42) (.s 43), none⟩,
       ⟨none, .store 1 (.s 46) (.s 45), none⟩] [41, 42, 43, 44, 45, 46])
     (.seq (.draw [⟨⟨(some 47), .fadr 3 (.s 6), none⟩, []⟩,
       ⟨⟨(some 48), .load none (.s 47), none⟩, [0]⟩,
       ⟨⟨(some 49), .mov (.s 8), none⟩, []⟩,
       ⟨⟨(some 50), .mov (.s 10), none⟩, []⟩,
       ⟨⟨(some 51), .nchk (.s 50), none⟩, [3]⟩,
       ⟨⟨(some 52), .fadr 0 (.s 51), none⟩, [4, 3]⟩,
       ⟨⟨(some 53), .load none (.s 52), none⟩, [5, 4, 3]⟩,
       ⟨⟨(some 54), .iadr 1 (.s 48) (.s 49), none⟩, [1, 0, 2, 3, 4, 5, 6]⟩,
       ⟨⟨none, .store 1 (.s 54) (.s 53), none⟩, [7, 1, 0, 2, 3, 4, 5, 6]⟩] [] [47, 48, 49, 50, 51, 52, 53, 54])
     (.seq (.reg [⟨(some 55), .fadr 0 (.s 9), none⟩,
       ⟨(some 56), .load none (.s 55), none⟩] [55])
     (.block 2 (.seq (.seq (.reg [⟨(some 58), .bin .eql (.s 56) (.c (.int .i64 2)), none⟩,
        ⟨(some 57), .mov (.s 58), none⟩] [58])
      (.cond (.s 57)
       .skip
       (.seq (.reg [⟨(some 59), .bin .eql (.s 56) (.c (.int .i64 3)), none⟩,
         ⟨(some 57), .mov (.s 59), none⟩] [59])
       (.cond (.s 57)
        .skip
        (.reg [⟨(some 60), .bin .eql (.s 56) (.c (.int .i64 4)), none⟩,
          ⟨(some 57), .mov (.s 60), none⟩] [60])))))
      (.cond (.s 57)
       (.seq (.seq (.reg [⟨(some 61), .mov (.s 7), none⟩,
         ⟨(some 62), .len (.s 61), none⟩,
         ⟨(some 63), .bin .eql (.s 62) (.c (.int .i64 32)), none⟩] [61, 62])
       (.cond (.s 63)
        (.seq (.reg [⟨(some 64), .build [.nl, .nl, .nl, .nl] [], none⟩,
          ⟨(some 65), .mov (.s 8), none⟩,
          ⟨none, .store 4 (.s 2) (.s 64), none⟩,
          ⟨(some 3), .mov (.s 65), none⟩,
          ⟨(some 4), .mov (.c (.int .i64 6)), none⟩] [64, 65])
        .ret)
        .skip))
       (.reg [⟨(some 66), .mov (.s 7), none⟩,
         ⟨(some 67), .mov (.s 8), none⟩,
         ⟨(some 68), .build [(.int .i64 0), (.bool false)] [(0, 1, (.s 67))], none⟩,
         ⟨(some 69), .bsl 53 2 [[(.int .i64 0), (.bool false)]] [(0, (.s 68))], none⟩,
         ⟨(some 70), .app 53 2 (.s 66) (.s 69), none⟩,
         ⟨(some 7), .mov (.s 70), none⟩] [66, 67, 68, 69, 70]))
       (.seq (.reg [⟨(some 72), .bin .eql (.s 56) (.c (.int .i64 5)), none⟩,
         ⟨(some 71), .mov (.s 72), none⟩] [72])
       (.cond (.s 71)
        (.seq (.seq (.reg [⟨(some 73), .mov (.s 10), none⟩,
          ⟨(some 74), .nchk (.s 73), none⟩,
          ⟨(some 75), .fadr 0 (.s 74), none⟩,
          ⟨(some 76), .load none (.s 75), none⟩,
          ⟨(some 77), .bin .lss (.s 76) (.c (.int .i64 0)), none⟩,
          ⟨(some 78), .mov (.s 77), none⟩,
          ⟨(some 79), .mov (.s 0), (some (78, false))⟩,
          ⟨(some 80), .mov (.s 10), (some (78, false))⟩,
          ⟨(some 81), .nchk (.s 80), (some (78, false))⟩,
          ⟨(some 82), .fadr 0 (.s 81), (some (78, false))⟩,
          ⟨(some 83), .load none (.s 82), (some (78, false))⟩,
          ⟨(some 84), .iadr 9 (.s 79) (.s 83), (some (78, false))⟩,
          ⟨(some 85), .fadr 0 (.s 84), (some (78, false))⟩,
          ⟨(some 86), .load none (.s 85), (some (78, false))⟩,
          ⟨(some 87), .bin .neq (.s 86) (.c (.int .i64 4)), (some (78, false))⟩,
          ⟨(some 88), .pick (.s 78) (.c (.bool true)) (.s 87), none⟩,
          ⟨(some 89), .mov (.s 88), none⟩,
          ⟨(some 90), .mov (.s 10), (some (89, false))⟩,
          ⟨(some 91), .nchk (.s 90), (some (89, false))⟩,
          ⟨(some 92), .fadr 1 (.s 91), (some (89, false))⟩,
          ⟨(some 93), .load none (.s 92), (some (89, false))⟩,
          ⟨(some 94), .pick (.s 89) (.c (.bool true)) (.s 93), none⟩] [73, 74, 75, 76, 77, 78, 79, 80, 81, 82, 83, 84, 85, 86, 87, 88, 89, 90, 91, 92, 93])
        (.cond (.s 94)
         (.seq (.reg [⟨(some 95), .build [.nl, .nl, .nl, .nl] [], none⟩,
           ⟨(some 96), .mov (.s 8), none⟩,
           ⟨none, .store 4 (.s 2) (.s 95), none⟩,
           ⟨(some 3), .mov (.s 96), none⟩,
           ⟨(some 4), .mov (.c (.int .i64 16)), none⟩] [95, 96])
         .ret)
         .skip))
        (.seq (.reg [⟨(some 97), .mov (.s 10), none⟩,
          ⟨(some 98), .nchk (.s 97), none⟩,
          ⟨(some 99), .fadr 1 (.s 98), none⟩,
          ⟨none, .store 1 (.s 99) (.c (.bool true)), none⟩] [97, 98, 99])
        (.draw [⟨⟨(some 100), .fadr 1 (.s 6), none⟩, []⟩,
          ⟨⟨(some 101), .load none (.s 100), none⟩, [0]⟩,
          ⟨⟨(some 102), .mov (.s 10), none⟩, []⟩,
          ⟨⟨(some 103), .nchk (.s 102), none⟩, [2]⟩,
          ⟨⟨(some 104), .fadr 0 (.s 103), none⟩, [3, 2]⟩,
          ⟨⟨(some 105), .load none (.s 104), none⟩, [4, 3, 2]⟩,
          ⟨⟨(some 106), .mov (.s 8), none⟩, []⟩,
          ⟨⟨(some 107), .iadr 1 (.s 101) (.s 105), none⟩, [1, 0, 5, 4, 3, 2, 6]⟩,
          ⟨⟨none, .store 1 (.s 107) (.s 106), none⟩, [7, 1, 0, 5, 4, 3, 2, 6]⟩] [] [100, 101, 102, 103, 104, 105, 106, 107])))
        (.seq (.reg [⟨(some 109), .bin .eql (.s 56) (.c (.int .i64 11)), none⟩,
          ⟨(some 108), .mov (.s 109), none⟩] [109])
        (.cond (.s 108)
         (.seq (.seq (.reg [⟨(some 110), .mov (.s 10), none⟩,
           ⟨(some 111), .nchk (.s 110), none⟩,
           ⟨(some 112), .fadr 0 (.s 111), none⟩,
           ⟨(some 113), .load none (.s 112), none⟩,
           ⟨(some 114), .bin .geq (.s 113) (.c (.int .i64 0)), none⟩] [110, 111, 112, 113])
         (.cond (.s 114)
          (.draw [⟨⟨(some 115), .fadr 0 (.s 6), none⟩, []⟩,
            ⟨⟨(some 116), .load none (.s 115), none⟩, [0]⟩,
            ⟨⟨(some 117), .mov (.s 10), none⟩, []⟩,
            ⟨⟨(some 118), .nchk (.s 117), none⟩, [2]⟩,
            ⟨⟨(some 119), .fadr 0 (.s 118), none⟩, [3, 2]⟩,
            ⟨⟨(some 120), .load none (.s 119), none⟩, [4, 3, 2]⟩,
            ⟨⟨(some 121), .mov (.s 8), none⟩, []⟩,
            ⟨⟨(some 122), .iadr 1 (.s 116) (.s 120), none⟩, [1, 0, 5, 4, 3, 2, 6]⟩,
            ⟨⟨none, .store 1 (.s 122) (.s 121), none⟩, [7, 1, 0, 5, 4, 3, 2, 6]⟩] [] [115, 116, 117, 118, 119, 120, 121, 122])
          .skip))
         (.reg [⟨(some 123), .mov (.s 7), none⟩,
           ⟨(some 124), .mov (.s 7), none⟩,
           ⟨(some 125), .len (.s 124), none⟩,
           ⟨(some 126), .bin .sub (.s 125) (.c (.int .i64 1)), none⟩,
           ⟨(some 127), .slc 2 (.s 123) none (some (.s 126)) none, none⟩,
           ⟨(some 7), .mov (.s 127), none⟩] [123, 124, 125, 126, 127]))
         (.exit 1)))))))))))))))
    (.reg [⟨(some 128), .bin .add (.s 26) (.c (.int .i64 1)), none⟩,
      ⟨(some 26), .mov (.s 128), none⟩] [128])))))))
  (.seq (.seq (.reg [⟨(some 129), .mov (.s 7), none⟩,
    ⟨(some 130), .len (.s 129), none⟩,
    ⟨(some 131), .bin .gtr (.s 130) (.c (.int .i64 0)), none⟩] [129, 130])
  (.cond (.s 131)
   (.seq (.reg [⟨(some 132), .build [.nl, .nl, .nl, .nl] [], none⟩,
     ⟨(some 133), .mov (.s 5), none⟩,
     ⟨none, .store 4 (.s 2) (.s 132), none⟩,
     ⟨(some 3), .mov (.s 133), none⟩,
     ⟨(some 4), .mov (.c (.int .i64 3)), none⟩] [132, 133])
   .ret)
   .skip))
  (.seq (.reg [⟨(some 134), .load (some 4) (.s 6), none⟩,
    ⟨none, .store 4 (.s 2) (.s 134), none⟩,
    ⟨(some 3), .mov (.c (.int .i64 0)), none⟩,
    ⟨(some 4), .mov (.c (.int .i64 0)), none⟩] [134])
  .ret))))))))⟩

theorem c_nest_look : compF Try.prog 23 = some F_nest_look := by kernel_rfl
abbrev n_nest_look : FuncId := 23

/-- millwright/millwrightref09.round -/
def F_ref09_round : IFun :=
⟨40, 2, [.tmp 4],
  (.seq (.reg [⟨(some 4), .mov (.c .nl), none⟩] [])
  (.seq (.reg [⟨(some 7), .bsl 3 1 [[(.int .i64 0)]] [(0, (.c (.int .i64 (-1))))], none⟩,
    ⟨(some 5), .mov (.s 7), none⟩] [7])
  (.seq (.seq (.reg [⟨(some 6), .mov (.c (.int .i64 0)), none⟩] [])
  (.block 0 (.loop (.seq (.seq (.reg [⟨(some 8), .mov (.s 6), none⟩,
      ⟨(some 9), .mov (.s 1), none⟩,
      ⟨(some 10), .bin .lss (.s 8) (.s 9), none⟩] [8, 9])
    (.cond (.s 10)
     .skip
     (.exit 0)))
    (.seq (.block 1 (.seq (.seq (.reg [⟨(some 13), .mov (.s 0), none⟩,
       ⟨(some 14), .mov (.s 6), none⟩,
       ⟨(some 15), .iadr 9 (.s 13) (.s 14), none⟩,
       ⟨(some 16), .fadr 0 (.s 15), none⟩,
       ⟨(some 17), .load none (.s 16), none⟩,
       ⟨(some 18), .call 26 [(.s 17)], none⟩] [13, 14, 15, 16, 17])
     (.cond (.s 18)
      (.reg [⟨(some 19), .mov (.s 5), none⟩,
        ⟨(some 20), .mov (.s 6), none⟩,
        ⟨(some 21), .bsl 3 1 [[(.int .i64 0)]] [(0, (.s 20))], none⟩,
        ⟨(some 22), .app 3 1 (.s 19) (.s 21), none⟩,
        ⟨(some 5), .mov (.s 22), none⟩] [19, 20, 21, 22])
      .skip))
     (.seq (.reg [⟨(some 23), .mov (.s 0), none⟩,
       ⟨(some 24), .mov (.s 6), none⟩,
       ⟨(some 25), .iadr 9 (.s 23) (.s 24), none⟩,
       ⟨(some 26), .fadr 0 (.s 25), none⟩,
       ⟨(some 27), .load none (.s 26), none⟩,
       ⟨(some 28), .bin .eql (.s 27) (.c (.int .i64 11)), none⟩,
       ⟨(some 29), .mov (.s 28), none⟩,
       ⟨(some 30), .mov (.s 5), (some (29, true))⟩,
       ⟨(some 31), .len (.s 30), (some (29, true))⟩,
       ⟨(some 32), .bin .gtr (.s 31) (.c (.int .i64 0)), (some (29, true))⟩,
       ⟨(some 33), .pick (.s 29) (.s 32) (.c (.bool false)), none⟩] [23, 24, 25, 26, 27, 28, 29, 30, 31, 32])
     (.cond (.s 33)
      (.reg [⟨(some 34), .mov (.s 5), none⟩,
        ⟨(some 35), .mov (.s 5), none⟩,
        ⟨(some 36), .len (.s 35), none⟩,
        ⟨(some 37), .bin .sub (.s 36) (.c (.int .i64 1)), none⟩,
        ⟨(some 38), .slc 1 (.s 34) none (some (.s 37)) none, none⟩,
        ⟨(some 5), .mov (.s 38), none⟩] [34, 35, 36, 37, 38])
      .skip))))
    (.reg [⟨(some 11), .mov (.s 6), none⟩,
      ⟨(some 12), .bin .add (.s 11) (.c (.int .i64 1)), none⟩,
      ⟨(some 6), .mov (.s 12), none⟩] [11, 12]))))))
  (.seq (.reg [⟨(some 39), .mov (.s 5), none⟩,
    ⟨(some 4), .mov (.s 39), none⟩] [39])
  .ret))))⟩

theorem c_ref09_round : compF Try.prog 24 = some F_ref09_round := by kernel_rfl
abbrev n_ref09_round : FuncId := 24

/-- millwright/millwrightref09.elsed -/
def F_ref09_elsed : IFun :=
⟨40, 3, [.tmp 6],
  (.seq (.reg [⟨(some 6), .mov (.c (.bool false)), none⟩] [])
  (.seq (.seq (.reg [⟨(some 9), .mov (.s 1), none⟩,
    ⟨(some 10), .bin .add (.s 9) (.c (.int .i64 1)), none⟩,
    ⟨(some 7), .mov (.s 10), none⟩] [9, 10])
  (.block 0 (.loop (.seq (.seq (.reg [⟨(some 11), .mov (.s 7), none⟩,
      ⟨(some 12), .mov (.s 2), none⟩,
      ⟨(some 13), .bin .lss (.s 11) (.s 12), none⟩] [11, 12])
    (.cond (.s 13)
     .skip
     (.exit 0)))
    (.seq (.block 1 (.seq (.reg [⟨(some 16), .mov (.s 0), none⟩,
       ⟨(some 17), .mov (.s 7), none⟩,
       ⟨(some 18), .call 24 [(.s 16), (.s 17)], none⟩,
       ⟨(some 8), .mov (.s 18), none⟩] [16, 17, 18])
     (.seq (.reg [⟨(some 19), .mov (.s 0), none⟩,
       ⟨(some 20), .mov (.s 7), none⟩,
       ⟨(some 21), .iadr 9 (.s 19) (.s 20), none⟩,
       ⟨(some 22), .fadr 0 (.s 21), none⟩,
       ⟨(some 23), .load none (.s 22), none⟩,
       ⟨(some 24), .bin .eql (.s 23) (.c (.int .i64 5)), none⟩,
       ⟨(some 25), .mov (.s 24), none⟩,
       ⟨(some 26), .mov (.s 8), (some (25, true))⟩,
       ⟨(some 27), .len (.s 26), (some (25, true))⟩,
       ⟨(some 28), .bin .gtr (.s 27) (.c (.int .i64 0)), (some (25, true))⟩,
       ⟨(some 29), .pick (.s 25) (.s 28) (.c (.bool false)), none⟩,
       ⟨(some 30), .mov (.s 29), none⟩,
       ⟨(some 31), .mov (.s 8), (some (30, true))⟩,
       ⟨(some 32), .mov (.s 8), (some (30, true))⟩,
       ⟨(some 33), .len (.s 32), (some (30, true))⟩,
       ⟨(some 34), .bin .sub (.s 33) (.c (.int .i64 1)), (some (30, true))⟩,
       ⟨(some 35), .iadr 1 (.s 31) (.s 34), (some (30, true))⟩,
       ⟨(some 36), .load none (.s 35), (some (30, true))⟩,
       ⟨(some 37), .mov (.s 1), (some (30, true))⟩,
       ⟨(some 38), .bin .eql (.s 36) (.s 37), (some (30, true))⟩,
       ⟨(some 39), .pick (.s 30) (.s 38) (.c (.bool false)), none⟩] [19, 20, 21, 22, 23, 24, 25, 26, 27, 28, 29, 30, 31, 32, 33, 34, 35, 36, 37, 38])
     (.cond (.s 39)
      (.seq (.reg [⟨(some 6), .mov (.c (.bool true)), none⟩] [])
      .ret)
      .skip))))
    (.reg [⟨(some 14), .mov (.s 7), none⟩,
      ⟨(some 15), .bin .add (.s 14) (.c (.int .i64 1)), none⟩,
      ⟨(some 7), .mov (.s 15), none⟩] [14, 15]))))))
  (.seq (.reg [⟨(some 6), .mov (.c (.bool false)), none⟩] [])
  .ret)))⟩

theorem c_ref09_elsed : compF Try.prog 25 = some F_ref09_elsed := by kernel_rfl
abbrev n_ref09_elsed : FuncId := 25

/-- millwright/millwrightref09.begins -/
def F_ref09_begins : IFun :=
⟨13, 1, [.tmp 2],
  (.seq (.reg [⟨(some 2), .mov (.c (.bool false)), none⟩] [])
  (.seq (.reg [⟨(some 3), .mov (.s 0), none⟩,
    ⟨(some 4), .bin .eql (.s 3) (.c (.int .i64 2)), none⟩,
    ⟨(some 5), .mov (.s 4), none⟩,
    ⟨(some 6), .mov (.s 0), (some (5, false))⟩,
    ⟨(some 7), .bin .eql (.s 6) (.c (.int .i64 3)), (some (5, false))⟩,
    ⟨(some 8), .pick (.s 5) (.c (.bool true)) (.s 7), none⟩,
    ⟨(some 9), .mov (.s 8), none⟩,
    ⟨(some 10), .mov (.s 0), (some (9, false))⟩,
    ⟨(some 11), .bin .eql (.s 10) (.c (.int .i64 4)), (some (9, false))⟩,
    ⟨(some 12), .pick (.s 9) (.c (.bool true)) (.s 11), none⟩,
    ⟨(some 2), .mov (.s 12), none⟩] [3, 4, 5, 6, 7, 8, 9, 10, 11, 12])
  .ret))⟩

theorem c_ref09_begins : compF Try.prog 26 = some F_ref09_begins := by kernel_rfl
abbrev n_ref09_begins : FuncId := 26

/-- millwright/millwrightref09.none -/
def F_ref09_none : IFun :=
⟨15, 1, [.tmp 2],
  (.seq (.reg [⟨(some 2), .mov (.c .nl), none⟩] [])
  (.seq (.reg [⟨(some 3), .mov (.c .nl), none⟩] [])
  (.seq (.seq (.reg [⟨(some 4), .mov (.c (.int .i64 0)), none⟩] [])
  (.block 0 (.loop (.seq (.seq (.reg [⟨(some 5), .mov (.s 4), none⟩,
      ⟨(some 6), .mov (.s 0), none⟩,
      ⟨(some 7), .len (.s 6), none⟩,
      ⟨(some 8), .bin .lss (.s 5) (.s 7), none⟩] [5, 6, 7])
    (.cond (.s 8)
     .skip
     (.exit 0)))
    (.seq (.block 1 (.reg [⟨(some 11), .mov (.s 3), none⟩,
       ⟨(some 12), .bsl 3 1 [[(.int .i64 0)]] [(0, (.c (.int .i64 (-1))))], none⟩,
       ⟨(some 13), .app 3 1 (.s 11) (.s 12), none⟩,
       ⟨(some 3), .mov (.s 13), none⟩] [11, 12, 13]))
    (.reg [⟨(some 9), .mov (.s 4), none⟩,
      ⟨(some 10), .bin .add (.s 9) (.c (.int .i64 1)), none⟩,
      ⟨(some 4), .mov (.s 10), none⟩] [9, 10]))))))
  (.seq (.reg [⟨(some 14), .mov (.s 3), none⟩,
    ⟨(some 2), .mov (.s 14), none⟩] [14])
  .ret))))⟩

theorem c_ref09_none : compF Try.prog 27 = some F_ref09_none := by kernel_rfl
abbrev n_ref09_none : FuncId := 27

/-- millwright/nest.none -/
def F_nest_none : IFun :=
⟨17, 1, [.tmp 2],
  (.seq (.reg [⟨(some 2), .mov (.c .nl), none⟩] [])
  (.seq (.reg [⟨(some 5), .mov (.s 0), none⟩,
    ⟨(some 6), .mks 3 1 [(.int .i64 0)] (.s 5) (.s 5), none⟩,
    ⟨(some 3), .mov (.s 6), none⟩] [5, 6])
  (.seq (.seq (.reg [⟨(some 7), .mov (.s 3), none⟩,
    ⟨(some 8), .len (.s 7), none⟩,
    ⟨(some 9), .mov (.c (.int .i64 0)), none⟩] [7])
  (.block 0 (.loop (.seq (.reg [⟨(some 10), .bin .lss (.s 9) (.s 8), none⟩] [])
    (.seq (.cond (.s 10)
     .skip
     (.exit 0))
    (.seq (.block 1 (.seq (.reg [⟨(some 11), .mov (.s 9), none⟩,
       ⟨(some 4), .mov (.s 11), none⟩] [11])
     (.reg [⟨(some 12), .mov (.s 3), none⟩,
       ⟨(some 13), .mov (.s 4), none⟩,
       ⟨(some 14), .iadr 1 (.s 12) (.s 13), none⟩,
       ⟨none, .store 1 (.s 14) (.c (.int .i64 (-1))), none⟩] [12, 13, 14])))
    (.reg [⟨(some 15), .bin .add (.s 9) (.c (.int .i64 1)), none⟩,
      ⟨(some 9), .mov (.s 15), none⟩] [15])))))))
  (.seq (.reg [⟨(some 16), .mov (.s 3), none⟩,
    ⟨(some 2), .mov (.s 16), none⟩] [16])
  .ret))))⟩

theorem c_nest_none : compF Try.prog 28 = some F_nest_none := by kernel_rfl
abbrev n_nest_none : FuncId := 28

theorem mixed : Try.prog.follows .mixedOrders = true := by kernel_rfl
end Go.Proofs.Ytlmnepdibhdpaaa
