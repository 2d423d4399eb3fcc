import Derived.Test.YtdefmgmmjfgbpaaGreatDoorUQb
import Derived.Test.YtdefmgmmjfgbpaaGreatDoorProg
import Derived.KernelRfl
set_option linter.all false
namespace Go.Proofs.YtdefmgmmjfgbpaaGreatDoor
open Go.Mw
def JW:aF :=
⟨51,1,[.tmp 2],
 (sr [o0 1 (.box 33 12 (.s 0)),
 mB 2 false] []
 (.seq (sr [lS 5 12 1,
 c1 6 4 5,
 uN 7 6] [5,6]
 (.cond (.s 7)
 (sr [c0 8 5,
 mv 2 8] [8]
 .ret)
 .skip))
 (sr [lS 9 12 1,
 c1 10 6 9,
 o0 3 (.new 33 [.nl,.nl,.nl,.nl,.nl,.nl,.nl,(.bool false),(.int .i64 0),.nl,.nl,.nl]),
 sT 12 3 10] [9,10]
 (sr [lS 11 12 1,
 c1 12 7 11,
 o0 4 (.new 33 [.nl,.nl,.nl,.nl,.nl,.nl,.nl,(.bool false),(.int .i64 0),.nl,.nl,.nl]),
 sT 12 4 12] [11,12]
 (.seq (.seq (.seq (.draw [⟨lS 13 12 4,[]⟩,
 ⟨lS 14 12 1,[]⟩] [] [])
 (sr [c2 15 8 13 14] []
 (sr [uN 16 15] []
 (sr [mv 17 16] []
 (.seq (.draw [⟨oF 18 17 (.load (some 12) (.s 4)),[]⟩,
 ⟨oF 19 17 (.load (some 12) (.s 1)),[]⟩] [] [])
 (sr [oF 20 17 (.call 9 [(.s 18),(.s 19)])] []
 (sr [oF 21 17 (.un .not (.s 20))] []
 (sr [pT 22 17 21] []
 (sr [mv 23 22] []
 (.seq (.draw [⟨oF 24 23 (.load (some 12) (.s 4)),[]⟩,
 ⟨oF 25 23 (.call 10 [(.s 24)]),[0]⟩,
 ⟨oF 26 23 (.load (some 12) (.s 1)),[]⟩] [(25,1)] [])
 (sr [oF 27 23 (.call 10 [(.s 26)])] []
 (sr [oF 28 23 (.sbin .neq [.i,.i,.i,.i] (.s 25) (.s 27))] []
 (sr [pT 29 23 28] []
 (sr [mv 30 29] []
 (.seq (.draw [⟨oF 31 30 (.load (some 12) (.s 4)),[]⟩,
 ⟨oF 32 30 (.call 11 [(.s 31)]),[0]⟩,
 ⟨oF 33 30 (.load (some 12) (.s 1)),[]⟩] [(32,1)] [])
 (sr [oF 34 30 (.call 11 [(.s 33)])] []
 (sr [oF 35 30 (.bin .neq (.s 32) (.s 34))] []
 (.reg [pT 36 30 35] [13,14,15,16,17,18,19,20,21,22,23,24,25,26,27,28,29,30,31,32,33,34,35]))))))))))))))))))
 (.cond (.s 36)
 (sr [mB 2 false] []
 .ret)
 .skip))
 (sr [lS 37 12 4,
 c1 38 12 37] [37,38]
 (.seq (.seq (.draw [⟨lS 39 12 1,[]⟩,
 ⟨lS 40 12 3,[]⟩] [] [])
 (sr [c2 41 8 39 40] []
 (sr [mv 42 41] []
 (.seq (.draw [⟨ot 43 42 (.load (some 12) (.s 1)),[]⟩,
 ⟨ot 44 42 (.call 7 [(.s 43)]),[0]⟩,
 ⟨ot 45 42 (.load (some 12) (.s 3)),[]⟩] [(44,1)] [])
 (sr [ot 46 42 (.call 9 [(.s 44),(.s 45)])] []
 (sr [pF 47 42 46] []
 (sr [mv 48 47] []
 (sr [ot 49 48 (.call 5 [])] []
 (sr [pF 50 48 49] []
 (.reg [mv 2 50] [39,40,41,42,43,44,45,46,47,48,49,50]))))))))))
 .ret)))))))⟩
theorem SF:aq Tryz.prog 3=some JW:=by kernel_rfl
abbrev Uh:FuncId:=3
def zr:aF :=
⟨221,1,[.cell 2 (some 12)],
 (sr [o0 1 (.box 33 12 (.s 0)),
 o0 2 (.new 33 [.nl,.nl,.nl,.nl,.nl,.nl,.nl,(.bool false),(.int .i64 0),.nl,.nl,.nl])] []
 (sr [fa 17 7 1,
 lo 18 17,
 fa 19 8 1,
 lo 20 19,
 o0 21 (.build [.nl,.nl,.nl,.nl,.nl,.nl,.nl,(.bool false),(.int .i64 0),.nl,.nl,.nl] [(7,1,(.s 18)),(8,1,(.s 20))]),
 o0 3 (.new 33 [.nl,.nl,.nl,.nl,.nl,.nl,.nl,(.bool false),(.int .i64 0),.nl,.nl,.nl]),
 sT 12 3 21] [17,18,19,20,21]
 (.seq (sr [mI 4 0] []
 (.block 0 (.loop (.seq (sr [mv 22 4,
 fa 23 0 1,
 lo 24 23,
 ln 25 24,
 bS 26 .lss 22 25] [22,23,24,25]
 (.cond (.s 26)
 .skip
 (.exit 0)))
 (.seq (.block 1 (sr [fa 29 0 1,
 lo 30 29,
 mv 31 4,
 ia 32 2 30 31,
 lS 33 2 32,
 o0 5 (.new 47 [.nl,.nl]),
 sT 2 5 33] [29,30,31,32,33]
 (.seq (.draw [⟨fa 34 0 3,[]⟩,
 ⟨lo 35 34,[0]⟩,
 ⟨o0 36 (.bsl 49 1 [] []),[]⟩,
 ⟨fa 37 0 5,[]⟩,
 ⟨lo 38 37,[3]⟩,
 ⟨o0 39 (.app 49 1 (.s 36) (.s 38)),[2,4,3]⟩,
 ⟨o0 40 (.bsl 49 1 [] []),[]⟩,
 ⟨fa 41 1 5,[]⟩,
 ⟨lo 42 41,[7]⟩,
 ⟨o0 43 (.app 49 1 (.s 40) (.s 42)),[6,8,7,5,2,4,3]⟩,
 ⟨o0 44 (.build [.nl,.nl] [(0,1,(.s 39)),(1,1,(.s 43))]),[5,2,4,3,9,6,8,7]⟩,
 ⟨o0 45 (.bsl 47 2 [[.nl,.nl]] [(0,(.s 44))]),[10,5,2,4,3,9,6,8,7]⟩] [(36,2),(39,5),(40,6),(43,9),(45,11)] [])
 (sr [o0 46 (.app 47 2 (.s 35) (.s 45))] []
 (sr [fa 47 0 3] []
 (.reg [sT 1 47 46] [34,35,36,37,38,39,40,41,42,43,44,45,46,47]))))))
 (.reg [mv 27 4,
 bI 28 .add 27 1,
 mv 4 28] [27,28]))))))
 (sr [o0 48 (.bsl 57 13 [] []),
 fa 49 1 1,
 lo 50 49,
 o0 51 (.app 57 13 (.s 48) (.s 50)),
 fa 52 1 3,
 sT 1 52 51] [48,49,50,51,52]
 (.seq (sr [mI 6 0] []
 (.block 2 (.loop (.seq (sr [mv 53 6,
 fa 54 2 1,
 lo 55 54,
 ln 56 55,
 bS 57 .lss 53 56] [53,54,55,56]
 (.cond (.s 57)
 .skip
 (.exit 2)))
 (.seq (.block 3 (sr [fa 60 2 1,
 lo 61 60,
 mv 62 6,
 ia 63 3 61 62,
 lS 64 3 63,
 o0 7 (.new 60 [(.int .i64 0),.nl,.nl]),
 sT 3 7 64] [60,61,62,63,64]
 (.seq (.draw [⟨fa 65 2 3,[]⟩,
 ⟨lo 66 65,[0]⟩,
 ⟨fa 67 0 7,[]⟩,
 ⟨lo 68 67,[2]⟩,
 ⟨o0 69 (.bsl 49 1 [] []),[]⟩,
 ⟨fa 70 1 7,[]⟩,
 ⟨lo 71 70,[5]⟩,
 ⟨o0 72 (.app 49 1 (.s 69) (.s 71)),[4,6,5]⟩,
 ⟨fa 73 2 7,[]⟩,
 ⟨lo 74 73,[8]⟩,
 ⟨c1 75 14 74,[9,8,7,4,6,5]⟩,
 ⟨o0 76 (.build [(.int .i64 0),.nl,.nl] [(0,1,(.s 68)),(1,1,(.s 72)),(2,1,(.s 75))]),[3,2,7,4,6,5,10,9,8]⟩,
 ⟨o0 77 (.bsl 60 3 [[(.int .i64 0),.nl,.nl]] [(0,(.s 76))]),[11,3,2,7,4,6,5,10,9,8]⟩] [(69,4),(72,7),(75,10),(77,12)] [])
 (sr [o0 78 (.app 60 3 (.s 66) (.s 77))] []
 (sr [fa 79 2 3] []
 (.reg [sT 1 79 78] [65,66,67,68,69,70,71,72,73,74,75,76,77,78,79]))))))
 (.reg [mv 58 6,
 bI 59 .add 58 1,
 mv 6 59] [58,59]))))))
 (sr [o0 80 (.bsl 53 4 [] []),
 fa 81 3 1,
 lo 82 81,
 o0 83 (.app 53 4 (.s 80) (.s 82)),
 fa 84 3 3,
 sT 1 84 83] [80,81,82,83,84]
 (sr [o0 85 (.bsl 51 3 [] []),
 fa 86 4 1,
 lo 87 86,
 o0 88 (.app 51 3 (.s 85) (.s 87)),
 fa 89 4 3,
 sT 1 89 88] [85,86,87,88,89]
 (.seq (sr [mI 8 0] []
 (.block 4 (.loop (.seq (sr [mv 90 8,
 fa 91 5 1,
 lo 92 91,
 ln 93 92,
 bS 94 .lss 90 93] [90,91,92,93]
 (.cond (.s 94)
 .skip
 (.exit 4)))
 (.seq (.block 5 (.seq (.draw [⟨fa 97 5 3,[]⟩,
 ⟨lo 98 97,[0]⟩,
 ⟨fa 99 5 1,[]⟩,
 ⟨lo 100 99,[2]⟩,
 ⟨mv 101 8,[]⟩,
 ⟨ia 102 3 100 101,[3,2,4]⟩,
 ⟨fa 103 0 102,[5,3,2,4]⟩,
 ⟨lS 104 2 103,[6,5,3,2,4]⟩,
 ⟨fa 105 5 1,[]⟩,
 ⟨lo 106 105,[8]⟩,
 ⟨mv 107 8,[]⟩,
 ⟨ia 108 3 106 107,[9,8,10]⟩,
 ⟨fa 109 2 108,[11,9,8,10]⟩,
 ⟨lo 110 109,[12,11,9,8,10]⟩,
 ⟨c1 111 14 110,[13,12,11,9,8,10]⟩,
 ⟨o0 112 (.build [(.int .i64 0),(.bool false),.nl] [(0,2,(.s 104)),(2,1,(.s 111))]),[7,6,5,3,2,4,14,13,12,11,9,8,10]⟩,
 ⟨o0 113 (.bsl 62 3 [[(.int .i64 0),(.bool false),.nl]] [(0,(.s 112))]),[15,7,6,5,3,2,4,14,13,12,11,9,8,10]⟩] [(111,14),(113,16)] [])
 (sr [o0 114 (.app 62 3 (.s 98) (.s 113))] []
 (sr [fa 115 5 3] []
 (.reg [sT 1 115 114] [97,98,99,100,101,102,103,104,105,106,107,108,109,110,111,112,113,114,115])))))
 (.reg [mv 95 8,
 bI 96 .add 95 1,
 mv 8 96] [95,96]))))))
 (sr [o0 116 (.bsl 64 3 [] []),
 fa 117 6 1,
 lo 118 117,
 o0 119 (.app 64 3 (.s 116) (.s 118)),
 fa 120 6 3,
 sT 1 120 119] [116,117,118,119,120]
 (.seq (sr [mI 9 0] []
 (.block 6 (.loop (.seq (sr [mv 121 9,
 fa 122 9 1,
 lo 123 122,
 ln 124 123,
 bS 125 .lss 121 124] [121,122,123,124]
 (.cond (.s 125)
 .skip
 (.exit 6)))
 (.seq (.block 7 (sr [fa 128 9 1,
 lo 129 128,
 mv 130 9,
 ia 131 5 129 130,
 lS 132 5 131,
 o0 10 (.new 66 [(.int .i64 0),(.int .i64 0),.nl,(.int .i64 0),.nl]),
 sT 5 10 132] [128,129,130,131,132]
 (sr [o0 11 (.mov (.c .nl))] []
 (.seq (sr [mI 12 0] []
 (.block 8 (.loop (.seq (sr [mv 133 12,
 fa 134 4 10,
 lo 135 134,
 ln 136 135,
 bS 137 .lss 133 136] [133,134,135,136]
 (.cond (.s 137)
 .skip
 (.exit 8)))
 (.seq (.block 9 (.reg [mv 140 11,
 fa 141 4 10,
 lo 142 141,
 mv 143 12,
 ia 144 1 142 143,
 lo 145 144,
 c1 146 14 145,
 o0 147 (.bsl 58 1 [[.nl]] [(0,(.s 146))]),
 o0 148 (.app 58 1 (.s 140) (.s 147)),
 mv 11 148] [140,141,142,143,144,145,146,147,148]))
 (.reg [mv 138 12,
 bI 139 .add 138 1,
 mv 12 139] [138,139]))))))
 (.seq (.draw [⟨fa 149 9 3,[]⟩,
 ⟨lo 150 149,[0]⟩,
 ⟨fa 151 0 10,[]⟩,
 ⟨lo 152 151,[2]⟩,
 ⟨fa 153 1 10,[]⟩,
 ⟨lo 154 153,[4]⟩,
 ⟨fa 155 2 10,[]⟩,
 ⟨lo 156 155,[6]⟩,
 ⟨c1 157 14 156,[7,6]⟩,
 ⟨fa 158 3 10,[]⟩,
 ⟨lo 159 158,[9]⟩,
 ⟨mv 160 11,[]⟩,
 ⟨o0 161 (.build [(.int .i64 0),(.int .i64 0),.nl,(.int .i64 0),.nl] [(0,1,(.s 152)),(1,1,(.s 154)),(2,1,(.s 157)),(3,1,(.s 159)),(4,1,(.s 160))]),[3,2,5,4,8,7,6,10,9,11]⟩,
 ⟨o0 162 (.bsl 66 5 [[(.int .i64 0),(.int .i64 0),.nl,(.int .i64 0),.nl]] [(0,(.s 161))]),[12,3,2,5,4,8,7,6,10,9,11]⟩] [(157,8),(162,13)] [])
 (sr [o0 163 (.app 66 5 (.s 150) (.s 162))] []
 (sr [fa 164 9 3] []
 (.reg [sT 1 164 163] [149,150,151,152,153,154,155,156,157,158,159,160,161,162,163,164]))))))))
 (.reg [mv 126 9,
 bI 127 .add 126 1,
 mv 9 127] [126,127]))))))
 (.seq (sr [mI 13 0] []
 (.block 10 (.loop (.seq (sr [mv 165 13,
 fa 166 10 1,
 lo 167 166,
 ln 168 167,
 bS 169 .lss 165 168] [165,166,167,168]
 (.cond (.s 169)
 .skip
 (.exit 10)))
 (.seq (.block 11 (sr [fa 172 10 1,
 lo 173 172,
 mv 174 13,
 ia 175 4 173 174,
 lS 176 4 175,
 o0 14 (.new 69 [(.int .i64 0),(.int .i64 0),.nl,.nl]),
 sT 4 14 176] [172,173,174,175,176]
 (.seq (.draw [⟨fa 177 10 3,[]⟩,
 ⟨lo 178 177,[0]⟩,
 ⟨fa 179 0 14,[]⟩,
 ⟨lo 180 179,[2]⟩,
 ⟨fa 181 1 14,[]⟩,
 ⟨lo 182 181,[4]⟩,
 ⟨fa 183 2 14,[]⟩,
 ⟨lo 184 183,[6]⟩,
 ⟨c1 185 14 184,[7,6]⟩,
 ⟨o0 186 (.bsl 5 1 [] []),[]⟩,
 ⟨fa 187 3 14,[]⟩,
 ⟨lo 188 187,[10]⟩,
 ⟨o0 189 (.app 5 1 (.s 186) (.s 188)),[9,11,10,8,7,6]⟩,
 ⟨o0 190 (.build [(.int .i64 0),(.int .i64 0),.nl,.nl] [(0,1,(.s 180)),(1,1,(.s 182)),(2,1,(.s 185)),(3,1,(.s 189))]),[3,2,5,4,8,7,6,12,9,11,10]⟩,
 ⟨o0 191 (.bsl 69 4 [[(.int .i64 0),(.int .i64 0),.nl,.nl]] [(0,(.s 190))]),[13,3,2,5,4,8,7,6,12,9,11,10]⟩] [(185,8),(186,9),(189,12),(191,14)] [])
 (sr [o0 192 (.app 69 4 (.s 178) (.s 191))] []
 (sr [fa 193 10 3] []
 (.reg [sT 1 193 192] [177,178,179,180,181,182,183,184,185,186,187,188,189,190,191,192,193]))))))
 (.reg [mv 170 13,
 bI 171 .add 170 1,
 mv 13 171] [170,171]))))))
 (.seq (sr [mI 15 0] []
 (.block 12 (.loop (.seq (sr [mv 194 15,
 fa 195 11 1,
 lo 196 195,
 ln 197 196,
 bS 198 .lss 194 197] [194,195,196,197]
 (.cond (.s 198)
 .skip
 (.exit 12)))
 (.seq (.block 13 (.seq (.reg [fa 201 11 1,
 lo 202 201,
 mv 203 15,
 ia 204 3 202 203,
 lS 205 3 204,
 o0 16 (.new 71 [(.int .i64 0),(.str []),.nl]),
 sT 3 16 205] [201,202,203,204,205])
 (.seq (.draw [⟨fa 206 11 3,[]⟩,
 ⟨lo 207 206,[0]⟩,
 ⟨fa 208 0 16,[]⟩,
 ⟨lo 209 208,[2]⟩,
 ⟨fa 210 1 16,[]⟩,
 ⟨lo 211 210,[4]⟩,
 ⟨o0 212 (.bsl 5 1 [] []),[]⟩,
 ⟨fa 213 2 16,[]⟩,
 ⟨lo 214 213,[7]⟩,
 ⟨o0 215 (.app 5 1 (.s 212) (.s 214)),[6,8,7]⟩,
 ⟨o0 216 (.build [(.int .i64 0),(.str []),.nl] [(0,1,(.s 209)),(1,1,(.s 211)),(2,1,(.s 215))]),[3,2,5,4,9,6,8,7]⟩,
 ⟨o0 217 (.bsl 71 3 [[(.int .i64 0),(.str []),.nl]] [(0,(.s 216))]),[10,3,2,5,4,9,6,8,7]⟩] [(212,6),(215,9),(217,11)] [])
 (sr [o0 218 (.app 71 3 (.s 207) (.s 217))] []
 (sr [fa 219 11 3] []
 (.reg [sT 1 219 218] [206,207,208,209,210,211,212,213,214,215,216,217,218,219]))))))
 (.reg [mv 199 15,
 bI 200 .add 199 1,
 mv 15 200] [199,200]))))))
 (sr [lS 220 12 3,
 sT 12 2 220] [220]
 .ret)))))))))))))⟩
theorem ON:aq Tryz.prog 6=some zr:=by kernel_rfl
abbrev Jr:FuncId:=6
def JZ:aF :=
⟨280,1,[],
 (sr [o0 1 (.box 33 12 (.s 0))] []
 (.seq (sr [mI 2 0] []
 (.block 0 (.loop (.seq (sr [mv 13 2,
 fa 14 0 1,
 lo 15 14,
 ln 16 15,
 bS 17 .lss 13 16] [13,14,15,16]
 (.cond (.s 17)
 .skip
 (.exit 0)))
 (.seq (.block 1 (sr [fa 20 0 1,
 lo 21 20,
 mv 22 2,
 ia 23 2 21 22,
 fa 24 0 23,
 lo 25 24,
 o0 26 (.call 101 [(.s 25),(.c .nl)])] [20,21,22,23,24,25,26]
 (sr [fa 27 0 1,
 lo 28 27,
 mv 29 2,
 ia 30 2 28 29,
 fa 31 1 30,
 lo 32 31,
 o0 33 (.call 101 [(.s 32),(.c .nl)])] [27,28,29,30,31,32,33]
 (.reg [fa 34 0 1,
 lo 35 34,
 mv 36 2,
 o0 37 (.build [.nl,.nl] []),
 ia 38 2 35 36,
 sT 2 38 37] [34,35,36,37,38]))))
 (.reg [mv 18 2,
 bI 19 .add 18 1,
 mv 2 19] [18,19]))))))
 (.seq (sr [mI 3 0] []
 (.block 2 (.loop (.seq (sr [mv 39 3,
 fa 40 1 1,
 lo 41 40,
 ln 42 41,
 bS 43 .lss 39 42] [39,40,41,42]
 (.cond (.s 43)
 .skip
 (.exit 2)))
 (.seq (.block 3 (.reg [fa 46 1 1,
 lo 47 46,
 mv 48 3,
 o0 49 (.build [(.str []),(.str []),(.int .i64 0),(.int .i64 0),(.int .i64 0),(.int .i64 0),(.int .i64 0),(.bool false),(.int .i64 0),(.int .i64 0),(.bool false),(.int .i64 0),(.bool false)] [(2,1,(iC (-1)))]),
 ia 50 13 47 48,
 sT 13 50 49] [46,47,48,49,50]))
 (.reg [mv 44 3,
 bI 45 .add 44 1,
 mv 3 45] [44,45]))))))
 (.seq (sr [mI 4 0] []
 (.block 4 (.loop (.seq (sr [mv 51 4,
 fa 52 2 1,
 lo 53 52,
 ln 54 53,
 bS 55 .lss 51 54] [51,52,53,54]
 (.cond (.s 55)
 .skip
 (.exit 4)))
 (.seq (.block 5 (sr [fa 58 2 1,
 lo 59 58,
 mv 60 4,
 ia 61 3 59 60,
 fa 62 1 61,
 lo 63 62,
 o0 64 (.call 101 [(.s 63),(.c .nl)])] [58,59,60,61,62,63,64]
 (sr [fa 65 2 1,
 lo 66 65,
 mv 67 4,
 ia 68 3 66 67,
 fa 69 2 68,
 lo 70 69,
 c1 71 102 70] [65,66,67,68,69,70,71]
 (.reg [fa 72 2 1,
 lo 73 72,
 mv 74 4,
 o0 75 (.build [(.int .i64 0),.nl,.nl] [(0,1,(iC (-1)))]),
 ia 76 3 73 74,
 sT 3 76 75] [72,73,74,75,76]))))
 (.reg [mv 56 4,
 bI 57 .add 56 1,
 mv 4 57] [56,57]))))))
 (.seq (sr [mI 5 0] []
 (.block 6 (.loop (.seq (sr [mv 77 5,
 fa 78 3 1,
 lo 79 78,
 ln 80 79,
 bS 81 .lss 77 80] [77,78,79,80]
 (.cond (.s 81)
 .skip
 (.exit 6)))
 (.seq (.block 7 (.seq (.draw [⟨fa 84 3 1,[]⟩,
 ⟨lo 85 84,[0]⟩,
 ⟨mv 86 5,[]⟩,
 ⟨fa 87 3 1,[]⟩,
 ⟨lo 88 87,[3]⟩,
 ⟨mv 89 5,[]⟩,
 ⟨ia 90 4 88 89,[4,3,5]⟩,
 ⟨fa 91 1 90,[6,4,3,5]⟩,
 ⟨fa 92 0 91,[7,6,4,3,5]⟩,
 ⟨lo 93 92,[8,7,6,4,3,5]⟩,
 ⟨bI 94 .xor 93 1,[9,8,7,6,4,3,5]⟩] [] [])
 (sr [ia 95 4 85 86] []
 (sr [fa 96 1 95] []
 (sr [fa 97 0 96] []
 (.reg [sT 1 97 94] [84,85,86,87,88,89,90,91,92,93,94,95,96,97]))))))
 (.reg [mv 82 5,
 bI 83 .add 82 1,
 mv 5 83] [82,83]))))))
 (.seq (sr [mI 6 0] []
 (.block 8 (.loop (.seq (sr [mv 98 6,
 fa 99 4 1,
 lo 100 99,
 ln 101 100,
 bS 102 .lss 98 101] [98,99,100,101]
 (.cond (.s 102)
 .skip
 (.exit 8)))
 (.seq (.block 9 (.seq (.draw [⟨fa 105 4 1,[]⟩,
 ⟨lo 106 105,[0]⟩,
 ⟨mv 107 6,[]⟩,
 ⟨fa 108 4 1,[]⟩,
 ⟨lo 109 108,[3]⟩,
 ⟨mv 110 6,[]⟩,
 ⟨ia 111 3 109 110,[4,3,5]⟩,
 ⟨fa 112 0 111,[6,4,3,5]⟩,
 ⟨lo 113 112,[7,6,4,3,5]⟩,
 ⟨bI 114 .xor 113 1,[8,7,6,4,3,5]⟩] [] [])
 (sr [ia 115 3 106 107] []
 (sr [fa 116 0 115] []
 (.reg [sT 1 116 114] [105,106,107,108,109,110,111,112,113,114,115,116])))))
 (.reg [mv 103 6,
 bI 104 .add 103 1,
 mv 6 104] [103,104]))))))
 (.seq (sr [mI 7 0] []
 (.block 10 (.loop (.seq (sr [mv 117 7,
 fa 118 5 1,
 lo 119 118,
 ln 120 119,
 bS 121 .lss 117 120] [117,118,119,120]
 (.cond (.s 121)
 .skip
 (.exit 10)))
 (.seq (.block 11 (sr [fa 124 5 1,
 lo 125 124,
 mv 126 7,
 ia 127 3 125 126,
 fa 128 2 127,
 lo 129 128,
 c1 130 102 129] [124,125,126,127,128,129,130]
 (.seq (.draw [⟨fa 131 5 1,[]⟩,
 ⟨lo 132 131,[0]⟩,
 ⟨mv 133 7,[]⟩,
 ⟨fa 134 5 1,[]⟩,
 ⟨lo 135 134,[3]⟩,
 ⟨mv 136 7,[]⟩,
 ⟨ia 137 3 135 136,[4,3,5]⟩,
 ⟨fa 138 0 137,[6,4,3,5]⟩,
 ⟨fa 139 1 138,[7,6,4,3,5]⟩,
 ⟨lo 140 139,[8,7,6,4,3,5]⟩,
 ⟨uN 141 140,[9,8,7,6,4,3,5]⟩] [] [])
 (sr [ia 142 3 132 133] []
 (sr [fa 143 0 142] []
 (sr [fa 144 1 143] []
 (.reg [sT 1 144 141] [131,132,133,134,135,136,137,138,139,140,141,142,143,144])))))))
 (.reg [mv 122 7,
 bI 123 .add 122 1,
 mv 7 123] [122,123]))))))
 (.seq (sr [mI 8 0] []
 (.block 12 (.loop (.seq (sr [mv 145 8,
 fa 146 6 1,
 lo 147 146,
 ln 148 147,
 bS 149 .lss 145 148] [145,146,147,148]
 (.cond (.s 149)
 .skip
 (.exit 12)))
 (.seq (.block 13 (.seq (.draw [⟨fa 152 6 1,[]⟩,
 ⟨lo 153 152,[0]⟩,
 ⟨mv 154 8,[]⟩,
 ⟨fa 155 6 1,[]⟩,
 ⟨lo 156 155,[3]⟩,
 ⟨mv 157 8,[]⟩,
 ⟨ia 158 3 156 157,[4,3,5]⟩,
 ⟨fa 159 2 158,[6,4,3,5]⟩,
 ⟨lo 160 159,[7,6,4,3,5]⟩,
 ⟨bI 161 .xor 160 1,[8,7,6,4,3,5]⟩] [] [])
 (sr [ia 162 3 153 154] []
 (sr [fa 163 2 162] []
 (.reg [sT 1 163 161] [152,153,154,155,156,157,158,159,160,161,162,163])))))
 (.reg [mv 150 8,
 bI 151 .add 150 1,
 mv 8 151] [150,151]))))))
 (.seq (sr [mI 9 0] []
 (.block 14 (.loop (.seq (sr [mv 164 9,
 fa 165 9 1,
 lo 166 165,
 ln 167 166,
 bS 168 .lss 164 167] [164,165,166,167]
 (.cond (.s 168)
 .skip
 (.exit 14)))
 (.seq (.block 15 (sr [fa 171 9 1,
 lo 172 171,
 mv 173 9,
 ia 174 5 172 173,
 fa 175 2 174,
 lo 176 175,
 c1 177 102 176] [171,172,173,174,175,176,177]
 (.seq (sr [mI 10 0] []
 (.block 16 (.loop (.seq (sr [mv 178 10,
 fa 179 9 1,
 lo 180 179,
 mv 181 9,
 ia 182 5 180 181,
 fa 183 4 182,
 lo 184 183,
 ln 185 184,
 bS 186 .lss 178 185] [178,179,180,181,182,183,184,185]
 (.cond (.s 186)
 .skip
 (.exit 16)))
 (.seq (.block 17 (sr [fa 189 9 1,
 lo 190 189,
 mv 191 9,
 ia 192 5 190 191,
 fa 193 4 192,
 lo 194 193,
 mv 195 10,
 ia 196 1 194 195,
 lo 197 196,
 c1 198 102 197] [189,190,191,192,193,194,195,196,197,198]
 (.reg [fa 199 9 1,
 lo 200 199,
 mv 201 9,
 ia 202 5 200 201,
 fa 203 4 202,
 lo 204 203,
 mv 205 10,
 o0 206 (.build [(.int .i64 0),(.int .i64 0),(.int .i64 0),(.int .u64 0),(.int .i64 0),(.int .i64 0),(.int .i64 0),.nl,.nl] [(0,1,(iC (-1)))]),
 o0 207 (.bsl 79 9 [[(.int .i64 0),(.int .i64 0),(.int .i64 0),(.int .u64 0),(.int .i64 0),(.int .i64 0),(.int .i64 0),.nl,.nl]] [(0,(.s 206))]),
 ia 208 1 204 205,
 sT 1 208 207] [199,200,201,202,203,204,205,206,207,208])))
 (.reg [mv 187 10,
 bI 188 .add 187 1,
 mv 10 188] [187,188]))))))
 (.seq (.draw [⟨fa 209 9 1,[]⟩,
 ⟨lo 210 209,[0]⟩,
 ⟨mv 211 9,[]⟩,
 ⟨fa 212 9 1,[]⟩,
 ⟨lo 213 212,[3]⟩,
 ⟨mv 214 9,[]⟩,
 ⟨ia 215 5 213 214,[4,3,5]⟩,
 ⟨fa 216 0 215,[6,4,3,5]⟩,
 ⟨lo 217 216,[7,6,4,3,5]⟩,
 ⟨bI 218 .xor 217 1,[8,7,6,4,3,5]⟩] [] [])
 (sr [ia 219 5 210 211] []
 (sr [fa 220 0 219] []
 (.reg [sT 1 220 218] [209,210,211,212,213,214,215,216,217,218,219,220])))))))
 (.reg [mv 169 9,
 bI 170 .add 169 1,
 mv 9 170] [169,170]))))))
 (.seq (sr [mI 11 0] []
 (.block 18 (.loop (.seq (sr [mv 221 11,
 fa 222 10 1,
 lo 223 222,
 ln 224 223,
 bS 225 .lss 221 224] [221,222,223,224]
 (.cond (.s 225)
 .skip
 (.exit 18)))
 (.seq (.block 19 (sr [fa 228 10 1,
 lo 229 228,
 mv 230 11,
 ia 231 4 229 230,
 fa 232 2 231,
 lo 233 232,
 c1 234 102 233] [228,229,230,231,232,233,234]
 (sr [fa 235 10 1,
 lo 236 235,
 mv 237 11,
 ia 238 4 236 237,
 fa 239 3 238,
 lo 240 239,
 o0 241 (.call 101 [(.c .nl),(.s 240)])] [235,236,237,238,239,240,241]
 (.seq (.draw [⟨fa 242 10 1,[]⟩,
 ⟨lo 243 242,[0]⟩,
 ⟨mv 244 11,[]⟩,
 ⟨fa 245 10 1,[]⟩,
 ⟨lo 246 245,[3]⟩,
 ⟨mv 247 11,[]⟩,
 ⟨ia 248 4 246 247,[4,3,5]⟩,
 ⟨fa 249 0 248,[6,4,3,5]⟩,
 ⟨lo 250 249,[7,6,4,3,5]⟩,
 ⟨bI 251 .xor 250 1,[8,7,6,4,3,5]⟩] [] [])
 (sr [ia 252 4 243 244] []
 (sr [fa 253 0 252] []
 (.reg [sT 1 253 251] [242,243,244,245,246,247,248,249,250,251,252,253])))))))
 (.reg [mv 226 11,
 bI 227 .add 226 1,
 mv 11 227] [226,227]))))))
 (sr [mI 12 0] []
 (.block 20 (.loop (.seq (sr [mv 254 12,
 fa 255 11 1,
 lo 256 255,
 ln 257 256,
 bS 258 .lss 254 257] [254,255,256,257]
 (.cond (.s 258)
 .skip
 (.exit 20)))
 (.seq (.block 21 (sr [fa 261 11 1,
 lo 262 261,
 mv 263 12,
 ia 264 3 262 263,
 fa 265 2 264,
 lo 266 265,
 o0 267 (.call 101 [(.c .nl),(.s 266)])] [261,262,263,264,265,266,267]
 (.seq (.draw [⟨fa 268 11 1,[]⟩,
 ⟨lo 269 268,[0]⟩,
 ⟨mv 270 12,[]⟩,
 ⟨fa 271 11 1,[]⟩,
 ⟨lo 272 271,[3]⟩,
 ⟨mv 273 12,[]⟩,
 ⟨ia 274 3 272 273,[4,3,5]⟩,
 ⟨fa 275 0 274,[6,4,3,5]⟩,
 ⟨lo 276 275,[7,6,4,3,5]⟩,
 ⟨bI 277 .xor 276 1,[8,7,6,4,3,5]⟩] [] [])
 (sr [ia 278 3 269 270] []
 (sr [fa 279 0 278] []
 (.reg [sT 1 279 277] [268,269,270,271,272,273,274,275,276,277,278,279]))))))
 (.reg [mv 259 12,
 bI 260 .add 259 1,
 mv 12 260] [259,260]))))))))))))))))⟩
theorem SN:aq Tryz.prog 12=some JZ:=by kernel_rfl
abbrev Uq:FuncId:=12
def Fc:aF :=
⟨56,2,[.tmp 4],
 (sr [mB 4 false] []
 (.seq (sr [mv 6 0,
 ln 7 6,
 mv 8 1,
 ln 9 8,
 bS 10 .neq 7 9] [6,7,8,9]
 (.cond (.s 10)
 (sr [mB 4 false] []
 .ret)
 .skip))
 (.seq (sr [mI 5 0] []
 (.block 0 (.loop (.seq (sr [mv 11 5,
 mv 12 0,
 ln 13 12,
 bS 14 .lss 11 13] [11,12,13]
 (.cond (.s 14)
 .skip
 (.exit 0)))
 (.seq (.block 1 (.seq (.seq (.draw [⟨mv 17 0,[]⟩,
 ⟨mv 18 5,[]⟩,
 ⟨ia 19 3 17 18,[0,1]⟩,
 ⟨fa 20 0 19,[2,0,1]⟩,
 ⟨lo 21 20,[3,2,0,1]⟩,
 ⟨mv 22 1,[]⟩,
 ⟨mv 23 5,[]⟩,
 ⟨ia 24 3 22 23,[5,6]⟩,
 ⟨fa 25 0 24,[7,5,6]⟩,
 ⟨lo 26 25,[8,7,5,6]⟩] [] [])
 (sr [bS 27 .neq 21 26] []
 (sr [mv 28 27] []
 (.seq (.draw [⟨mf 29 0 28,[]⟩,
 ⟨mf 30 5 28,[]⟩,
 ⟨oF 31 28 (.iadr 3 (.s 29) (.s 30)),[0,1]⟩,
 ⟨oF 32 28 (fd 1 31),[2,0,1]⟩,
 ⟨oF 33 28 (ld 32),[3,2,0,1]⟩,
 ⟨mf 34 1 28,[]⟩,
 ⟨mf 35 5 28,[]⟩,
 ⟨oF 36 28 (.iadr 3 (.s 34) (.s 35)),[5,6]⟩,
 ⟨oF 37 28 (fd 1 36),[7,5,6]⟩,
 ⟨oF 38 28 (ld 37),[8,7,5,6]⟩] [] [])
 (sr [oF 39 28 (.call 107 [(.s 33),(.s 38)])] []
 (sr [oF 40 28 (.un .not (.s 39))] []
 (sr [pT 41 28 40] []
 (sr [mv 42 41] []
 (.seq (.draw [⟨mf 43 0 42,[]⟩,
 ⟨mf 44 5 42,[]⟩,
 ⟨oF 45 42 (.iadr 3 (.s 43) (.s 44)),[0,1]⟩,
 ⟨oF 46 42 (fd 2 45),[2,0,1]⟩,
 ⟨oF 47 42 (ld 46),[3,2,0,1]⟩,
 ⟨mf 48 1 42,[]⟩,
 ⟨mf 49 5 42,[]⟩,
 ⟨oF 50 42 (.iadr 3 (.s 48) (.s 49)),[5,6]⟩,
 ⟨oF 51 42 (fd 2 50),[7,5,6]⟩,
 ⟨oF 52 42 (ld 51),[8,7,5,6]⟩] [] [])
 (sr [oF 53 42 (.call 108 [(.s 47),(.s 52)])] []
 (sr [oF 54 42 (.un .not (.s 53))] []
 (.reg [pT 55 42 54] [17,18,19,20,21,22,23,24,25,26,27,28,29,30,31,32,33,34,35,36,37,38,39,40,41,42,43,44,45,46,47,48,49,50,51,52,53,54]))))))))))))
 (.cond (.s 55)
 (sr [mB 4 false] []
 .ret)
 .skip)))
 (.reg [mv 15 5,
 bI 16 .add 15 1,
 mv 5 16] [15,16]))))))
 (sr [mB 4 true] []
 .ret))))⟩
theorem SK:aq Tryz.prog 37=some Fc:=by kernel_rfl
abbrev Um:FuncId:=37
def E7:aF :=
⟨26,2,[.tmp 4],
 (sr [mB 4 false] []
 (.seq (sr [mv 6 0,
 ln 7 6,
 mv 8 1,
 ln 9 8,
 bS 10 .neq 7 9] [6,7,8,9]
 (.cond (.s 10)
 (sr [mB 4 false] []
 .ret)
 .skip))
 (.seq (sr [mI 5 0] []
 (.block 0 (.loop (.seq (sr [mv 11 5,
 mv 12 0,
 ln 13 12,
 bS 14 .lss 11 13] [11,12,13]
 (.cond (.s 14)
 .skip
 (.exit 0)))
 (.seq (.block 1 (.seq (.seq (.draw [⟨mv 17 0,[]⟩,
 ⟨mv 18 5,[]⟩,
 ⟨ia 19 3 17 18,[0,1]⟩,
 ⟨lS 20 3 19,[2,0,1]⟩,
 ⟨mv 21 1,[]⟩,
 ⟨mv 22 5,[]⟩,
 ⟨ia 23 3 21 22,[4,5]⟩,
 ⟨lS 24 3 23,[6,4,5]⟩] [] [])
 (.reg [o0 25 (.sbin .neq [.s,.i,.i] (.s 20) (.s 24))] [17,18,19,20,21,22,23,24]))
 (.cond (.s 25)
 (sr [mB 4 false] []
 .ret)
 .skip)))
 (.reg [mv 15 5,
 bI 16 .add 15 1,
 mv 5 16] [15,16]))))))
 (sr [mB 4 true] []
 .ret))))⟩
theorem SB:aq Tryz.prog 40=some E7:=by kernel_rfl
abbrev Ue:FuncId:=40
def E6:aF :=
⟨56,2,[.tmp 4],
 (sr [mB 4 false] []
 (.seq (sr [mv 6 0,
 ln 7 6,
 mv 8 1,
 ln 9 8,
 bS 10 .neq 7 9] [6,7,8,9]
 (.cond (.s 10)
 (sr [mB 4 false] []
 .ret)
 .skip))
 (.seq (sr [mI 5 0] []
 (.block 0 (.loop (.seq (sr [mv 11 5,
 mv 12 0,
 ln 13 12,
 bS 14 .lss 11 13] [11,12,13]
 (.cond (.s 14)
 .skip
 (.exit 0)))
 (.seq (.block 1 (.seq (.seq (.draw [⟨mv 17 0,[]⟩,
 ⟨mv 18 5,[]⟩,
 ⟨ia 19 3 17 18,[0,1]⟩,
 ⟨fa 20 0 19,[2,0,1]⟩,
 ⟨lo 21 20,[3,2,0,1]⟩,
 ⟨mv 22 1,[]⟩,
 ⟨mv 23 5,[]⟩,
 ⟨ia 24 3 22 23,[5,6]⟩,
 ⟨fa 25 0 24,[7,5,6]⟩,
 ⟨lo 26 25,[8,7,5,6]⟩] [] [])
 (sr [bS 27 .neq 21 26] []
 (sr [mv 28 27] []
 (.seq (.draw [⟨mf 29 0 28,[]⟩,
 ⟨mf 30 5 28,[]⟩,
 ⟨oF 31 28 (.iadr 3 (.s 29) (.s 30)),[0,1]⟩,
 ⟨oF 32 28 (fd 1 31),[2,0,1]⟩,
 ⟨oF 33 28 (ld 32),[3,2,0,1]⟩,
 ⟨mf 34 1 28,[]⟩,
 ⟨mf 35 5 28,[]⟩,
 ⟨oF 36 28 (.iadr 3 (.s 34) (.s 35)),[5,6]⟩,
 ⟨oF 37 28 (fd 1 36),[7,5,6]⟩,
 ⟨oF 38 28 (ld 37),[8,7,5,6]⟩] [] [])
 (sr [oF 39 28 (.bin .neq (.s 33) (.s 38))] []
 (sr [pT 40 28 39] []
 (sr [mv 41 40] []
 (.seq (.draw [⟨mf 42 0 41,[]⟩,
 ⟨mf 43 5 41,[]⟩,
 ⟨oF 44 41 (.iadr 3 (.s 42) (.s 43)),[0,1]⟩,
 ⟨oF 45 41 (fd 2 44),[2,0,1]⟩,
 ⟨oF 46 41 (ld 45),[3,2,0,1]⟩,
 ⟨oF 47 41 (.cvs (.s 46)),[4,3,2,0,1]⟩,
 ⟨mf 48 1 41,[]⟩,
 ⟨mf 49 5 41,[]⟩,
 ⟨oF 50 41 (.iadr 3 (.s 48) (.s 49)),[6,7]⟩,
 ⟨oF 51 41 (fd 2 50),[8,6,7]⟩,
 ⟨oF 52 41 (ld 51),[9,8,6,7]⟩,
 ⟨oF 53 41 (.cvs (.s 52)),[10,9,8,6,7]⟩] [] [])
 (sr [oF 54 41 (.bin .neq (.s 47) (.s 53))] []
 (.reg [pT 55 41 54] [17,18,19,20,21,22,23,24,25,26,27,28,29,30,31,32,33,34,35,36,37,38,39,40,41,42,43,44,45,46,47,48,49,50,51,52,53,54]))))))))))
 (.cond (.s 55)
 (sr [mB 4 false] []
 .ret)
 .skip)))
 (.reg [mv 15 5,
 bI 16 .add 15 1,
 mv 5 16] [15,16]))))))
 (sr [mB 4 true] []
 .ret))))⟩
theorem SA:aq Tryz.prog 43=some E6:=by kernel_rfl
abbrev Ud:FuncId:=43
def zS:aF :=
⟨17,2,[.tmp 4],
 (sr [o0 2 (.box 62 3 (.s 0)),
 o0 3 (.box 62 3 (.s 1)),
 mB 4 false] []
 (sr [fa 5 0 2,
 lS 6 2 5,
 fa 7 0 3,
 lS 8 2 7,
 o0 9 (.sbin .eql [.i,.b] (.s 6) (.s 8)),
 mv 10 9,
 ot 11 10 (fd 2 2),
 ot 12 10 (ld 11),
 ot 13 10 (fd 2 3),
 ot 14 10 (ld 13),
 ot 15 10 (.call 46 [(.s 12),(.s 14)]),
 pF 16 10 15,
 mv 4 16] [5,6,7,8,9,10,11,12,13,14,15,16]
 .ret))⟩
theorem Ti:aq Tryz.prog 47=some zS:=by kernel_rfl
abbrev QY:FuncId:=47
def tY:aF :=
⟨33,2,[.tmp 4],
 (sr [o0 2 (.box 69 4 (.s 0)),
 o0 3 (.box 69 4 (.s 1)),
 mB 4 false] []
 (sr [fa 5 0 2,
 lo 6 5,
 fa 7 0 3,
 lo 8 7,
 bS 9 .eql 6 8,
 mv 10 9,
 ot 11 10 (fd 1 2),
 ot 12 10 (ld 11),
 ot 13 10 (fd 1 3),
 ot 14 10 (ld 13),
 ot 15 10 (.bin .eql (.s 12) (.s 14)),
 pF 16 10 15,
 mv 17 16,
 ot 18 17 (fd 2 2),
 ot 19 17 (ld 18),
 ot 20 17 (fd 2 3),
 ot 21 17 (ld 20),
 ot 22 17 (.call 46 [(.s 19),(.s 21)]),
 pF 23 17 22,
 mv 24 23,
 ot 25 24 (fd 3 2),
 ot 26 24 (ld 25),
 ot 27 24 (.cvs (.s 26)),
 ot 28 24 (fd 3 3),
 ot 29 24 (ld 28),
 ot 30 24 (.cvs (.s 29)),
 ot 31 24 (.bin .eql (.s 27) (.s 30)),
 pF 32 24 31,
 mv 4 32] [5,6,7,8,9,10,11,12,13,14,15,16,17,18,19,20,21,22,23,24,25,26,27,28,29,30,31,32]
 .ret))⟩
theorem Tk:aq Tryz.prog 50=some tY:=by kernel_rfl
abbrev Q0:FuncId:=50
def r8:aF :=
⟨17,2,[.tmp 4],
 (sr [o0 2 (.box 47 2 (.s 0)),
 o0 3 (.box 47 2 (.s 1)),
 mB 4 false] []
 (sr [fa 5 0 2,
 lo 6 5,
 fa 7 0 3,
 lo 8 7,
 c2 9 109 6 8,
 mv 10 9,
 ot 11 10 (fd 1 2),
 ot 12 10 (ld 11),
 ot 13 10 (fd 1 3),
 ot 14 10 (ld 13),
 ot 15 10 (.call 109 [(.s 12),(.s 14)]),
 pF 16 10 15,
 mv 4 16] [5,6,7,8,9,10,11,12,13,14,15,16]
 .ret))⟩
theorem OP:aq Tryz.prog 53=some r8:=by kernel_rfl
abbrev Js:FuncId:=53
def JT:aF :=
⟨8,2,[.tmp 4],
 (sr [o0 2 (.box 57 13 (.s 0)),
 o0 3 (.box 57 13 (.s 1)),
 mB 4 false] []
 (sr [lS 5 13 2,
 lS 6 13 3,
 o0 7 (.sbin .eql [.s,.s,.i,.i,.i,.i,.i,.b,.i,.i,.b,.i,.b] (.s 5) (.s 6)),
 mv 4 7] [5,6,7]
 .ret))⟩
theorem R_:aq Tryz.prog 55=some JT:=by kernel_rfl
abbrev Qm:FuncId:=55
def E0:aF :=
⟨30,3,[.tmp 6],
 (sr [mB 6 false] []
 (.seq (sr [mv 8 0,
 ln 9 8,
 mv 10 1,
 ln 11 10,
 bS 12 .neq 9 11] [8,9,10,11]
 (.cond (.s 12)
 (sr [mB 6 false] []
 .ret)
 .skip))
 (.seq (sr [mv 13 0,
 ln 14 13,
 mI 15 0] [13]
 (.block 0 (.loop (sr [bS 16 .lss 15 14] []
 (.seq (.cond (.s 16)
 .skip
 (.exit 0))
 (.seq (.block 1 (sr [mv 17 15,
 mv 7 17] [17]
 (.seq (.seq (.draw [⟨mv 18 2,[]⟩,
 ⟨mv 19 0,[]⟩,
 ⟨mv 20 7,[]⟩,
 ⟨ia 21 4 19 20,[1,2]⟩,
 ⟨lS 22 4 21,[3,1,2]⟩,
 ⟨mv 23 1,[]⟩,
 ⟨mv 24 7,[]⟩,
 ⟨ia 25 4 23 24,[5,6]⟩,
 ⟨lS 26 4 25,[7,5,6]⟩] [] [])
 (sr [o0 27 (.callv (.s 18) [(.s 22),(.s 26)])] []
 (.reg [uN 28 27] [18,19,20,21,22,23,24,25,26,27])))
 (.cond (.s 28)
 (sr [mB 6 false] []
 .ret)
 .skip))))
 (.reg [bI 29 .add 15 1,
 mv 15 29] [29])))))))
 (sr [mB 6 true] []
 .ret))))⟩
theorem Sp:aq Tryz.prog 57=some E0:=by kernel_rfl
abbrev T8:FuncId:=57
def ES:aF :=
⟨30,3,[.tmp 6],
 (sr [mB 6 false] []
 (.seq (sr [mv 8 0,
 ln 9 8,
 mv 10 1,
 ln 11 10,
 bS 12 .neq 9 11] [8,9,10,11]
 (.cond (.s 12)
 (sr [mB 6 false] []
 .ret)
 .skip))
 (.seq (sr [mv 13 0,
 ln 14 13,
 mI 15 0] [13]
 (.block 0 (.loop (sr [bS 16 .lss 15 14] []
 (.seq (.cond (.s 16)
 .skip
 (.exit 0))
 (.seq (.block 1 (sr [mv 17 15,
 mv 7 17] [17]
 (.seq (.seq (.draw [⟨mv 18 2,[]⟩,
 ⟨mv 19 0,[]⟩,
 ⟨mv 20 7,[]⟩,
 ⟨ia 21 3 19 20,[1,2]⟩,
 ⟨lS 22 3 21,[3,1,2]⟩,
 ⟨mv 23 1,[]⟩,
 ⟨mv 24 7,[]⟩,
 ⟨ia 25 3 23 24,[5,6]⟩,
 ⟨lS 26 3 25,[7,5,6]⟩] [] [])
 (sr [o0 27 (.callv (.s 18) [(.s 22),(.s 26)])] []
 (.reg [uN 28 27] [18,19,20,21,22,23,24,25,26,27])))
 (.cond (.s 28)
 (sr [mB 6 false] []
 .ret)
 .skip))))
 (.reg [bI 29 .add 15 1,
 mv 15 29] [29])))))))
 (sr [mB 6 true] []
 .ret))))⟩
theorem R8:aq Tryz.prog 61=some ES:=by kernel_rfl
abbrev TY:FuncId:=61
def E3:aF :=
⟨30,3,[.tmp 6],
 (sr [mB 6 false] []
 (.seq (sr [mv 8 0,
 ln 9 8,
 mv 10 1,
 ln 11 10,
 bS 12 .neq 9 11] [8,9,10,11]
 (.cond (.s 12)
 (sr [mB 6 false] []
 .ret)
 .skip))
 (.seq (sr [mv 13 0,
 ln 14 13,
 mI 15 0] [13]
 (.block 0 (.loop (sr [bS 16 .lss 15 14] []
 (.seq (.cond (.s 16)
 .skip
 (.exit 0))
 (.seq (.block 1 (sr [mv 17 15,
 mv 7 17] [17]
 (.seq (.seq (.draw [⟨mv 18 2,[]⟩,
 ⟨mv 19 0,[]⟩,
 ⟨mv 20 7,[]⟩,
 ⟨ia 21 5 19 20,[1,2]⟩,
 ⟨lS 22 5 21,[3,1,2]⟩,
 ⟨mv 23 1,[]⟩,
 ⟨mv 24 7,[]⟩,
 ⟨ia 25 5 23 24,[5,6]⟩,
 ⟨lS 26 5 25,[7,5,6]⟩] [] [])
 (sr [o0 27 (.callv (.s 18) [(.s 22),(.s 26)])] []
 (.reg [uN 28 27] [18,19,20,21,22,23,24,25,26,27])))
 (.cond (.s 28)
 (sr [mB 6 false] []
 .ret)
 .skip))))
 (.reg [bI 29 .add 15 1,
 mv 15 29] [29])))))))
 (sr [mB 6 true] []
 .ret))))⟩
theorem Sx:aq Tryz.prog 64=some E3:=by kernel_rfl
abbrev Ua:FuncId:=64
def RT:aF :=
⟨56,6,[],
 (.seq (sr [mv 16 2,
 ln 17 16,
 mv 18 4,
 bS 19 .add 17 18,
 mv 20 3,
 bS 21 .gtr 19 20] [16,17,18,19,20]
 (.cond (.s 21)
 (.reg [mv 22 0,
 mv 23 1,
 mv 24 3,
 mv 25 4,
 bS 26 .sub 24 25,
 o0 27 (.mnx true (iC 0) (.s 26)),
 o0 28 (.call 90 [(.s 22),(.s 23),(.s 27),(iC 0),(iC 6)])] [22,23,24,25,26,27,28])
 .skip))
 (sr [mv 29 2,
 ln 30 29,
 mI 31 0] []
 (.block 0 (.loop (sr [bS 32 .lss 31 30] []
 (.seq (.cond (.s 32)
 .skip
 (.exit 0))
 (.seq (.block 1 (sr [mv 33 31,
 ia 34 2 29 31,
 lS 35 2 34,
 o0 13 (.new 47 [.nl,.nl]),
 mv 12 33,
 sT 2 13 35] [33,34,35]
 (.seq (sr [mv 36 0,
 nk 37 36,
 fa 38 0 37,
 fa 39 3 38,
 lo 40 39,
 bI 41 .neq 40 0] [36,37,38,39,40]
 (cR 41))
 (sr [mv 43 5,
 mv 44 12,
 lS 45 2 13,
 o0 46 (.callv (.s 43) [(.s 44),(.s 45)]),
 mv 42 46,
 xt 47 42 0,
 xt 48 42 1,
 mv 14 47,
 mv 15 48] [43,44,45,46,42,47,48]
 (.reg [mv 49 0,
 mv 50 1,
 mv 51 12,
 mv 52 14,
 mv 53 15,
 o0 54 (.call 90 [(.s 49),(.s 50),(.s 51),(.s 52),(.s 53)])] [49,50,51,52,53,54])))))
 (.reg [bI 55 .add 31 1,
 mv 31 55] [55]))))))))⟩
theorem Su:aq Tryz.prog 67=some RT:=by kernel_rfl
abbrev QJ:FuncId:=67
def Kb:aF :=
⟨52,1,[.tmp 2],
 (sr [o0 1 (.box 57 13 (.s 0)),
 mI 2 0] []
 (.seq (sr [fa 5 0 1,
 lo 6 5,
 c1 7 113 6,
 mv 3 7] [5,6,7]
 (sr [mv 8 3,
 bI 9 .neq 8 0] [8]
 (.cond (.s 9)
 (sr [mv 10 3,
 mv 2 10] [10]
 .ret)
 .skip)))
 (.seq (sr [fa 11 1 1,
 lo 12 11,
 c1 13 113 12,
 mv 4 13] [11,12,13]
 (sr [mv 14 4,
 bI 15 .neq 14 0] [14]
 (.cond (.s 15)
 (sr [mv 16 4,
 mv 2 16] [16]
 .ret)
 .skip)))
 (.seq (.seq (sr [fa 17 2 1] []
 (sr [lo 18 17] []
 (sr [bI 19 .lss 18 0] []
 (sr [mv 20 19] []
 (sr [oF 21 20 (fd 2 1)] []
 (sr [oF 22 20 (ld 21)] []
 (sr [oF 23 20 (.bin .gtr (.s 22) (iC 3))] []
 (sr [pT 24 20 23] []
 (sr [mv 25 24] []
 (.seq (.draw [⟨oF 26 25 (.load (some 13) (.s 1)),[]⟩,
 ⟨oF 27 25 (.call 114 [(.s 26)]),[0]⟩,
 ⟨oF 28 25 (.load (some 13) (.s 1)),[]⟩] [(27,1)] [])
 (sr [oF 29 25 (.sbin .neq [.s,.s,.i,.i,.i,.i,.i,.b,.i,.i,.b,.i,.b] (.s 27) (.s 28))] []
 (.reg [pT 30 25 29] [17,18,19,20,21,22,23,24,25,26,27,28,29]))))))))))))
 (.cond (.s 30)
 (sr [mI 2 1] []
 .ret)
 .skip))
 (.seq (sr [fa 31 2 1,
 lo 32 31] [31]
 (.block 0 (sr [bI 34 .eql 32 1,
 mv 33 34] [34]
 (.cond (.s 33)
 (sr [fa 35 4 1,
 lS 36 4 35,
 c1 37 78 36,
 mv 2 37] [35,36,37]
 .ret)
 (sr [bI 39 .eql 32 2,
 mv 38 39] [39]
 (.cond (.s 38)
 (sr [fa 40 8 1,
 lS 41 3 40,
 c1 42 81 41,
 mv 2 42] [40,41,42]
 .ret)
 (sr [bI 44 .eql 32 3,
 mv 43 44] [44]
 (.cond (.s 43)
 (sr [fa 45 11 1,
 lS 46 2 45,
 c1 47 84 46,
 mv 2 47] [45,46,47]
 .ret)
 .skip))))))))
 (.seq (sr [fa 48 3 1,
 lo 49 48,
 c1 50 89 49,
 uN 51 50] [48,49,50]
 (.cond (.s 51)
 (sr [mI 2 11] []
 .ret)
 .skip))
 (sr [mI 2 0] []
 .ret)))))))⟩
theorem S5:aq Tryz.prog 72=some Kb:=by kernel_rfl
abbrev Uy:FuncId:=72
def RO:aF :=
⟨56,6,[],
 (.seq (sr [mv 16 2,
 ln 17 16,
 mv 18 4,
 bS 19 .add 17 18,
 mv 20 3,
 bS 21 .gtr 19 20] [16,17,18,19,20]
 (.cond (.s 21)
 (.reg [mv 22 0,
 mv 23 1,
 mv 24 3,
 mv 25 4,
 bS 26 .sub 24 25,
 o0 27 (.mnx true (iC 0) (.s 26)),
 o0 28 (.call 90 [(.s 22),(.s 23),(.s 27),(iC 0),(iC 6)])] [22,23,24,25,26,27,28])
 .skip))
 (sr [mv 29 2,
 ln 30 29,
 mI 31 0] []
 (.block 0 (.loop (sr [bS 32 .lss 31 30] []
 (.seq (.cond (.s 32)
 .skip
 (.exit 0))
 (.seq (.block 1 (sr [mv 33 31,
 ia 34 3 29 31,
 lS 35 3 34,
 o0 13 (.new 51 [(.int .i64 0),(.int .i64 0),(.bool false)]),
 mv 12 33,
 sT 3 13 35] [33,34,35]
 (.seq (sr [mv 36 0,
 nk 37 36,
 fa 38 0 37,
 fa 39 3 38,
 lo 40 39,
 bI 41 .neq 40 0] [36,37,38,39,40]
 (cR 41))
 (sr [mv 43 5,
 mv 44 12,
 lS 45 3 13,
 o0 46 (.callv (.s 43) [(.s 44),(.s 45)]),
 mv 42 46,
 xt 47 42 0,
 xt 48 42 1,
 mv 14 47,
 mv 15 48] [43,44,45,46,42,47,48]
 (.reg [mv 49 0,
 mv 50 1,
 mv 51 12,
 mv 52 14,
 mv 53 15,
 o0 54 (.call 90 [(.s 49),(.s 50),(.s 51),(.s 52),(.s 53)])] [49,50,51,52,53,54])))))
 (.reg [bI 55 .add 31 1,
 mv 31 55] [55]))))))))⟩
theorem Sg:aq Tryz.prog 79=some RO:=by kernel_rfl
abbrev Qz:FuncId:=79
def zg:aF :=
⟨7,1,[.tmp 2],
 (sr [o0 1 (.box 55 2 (.s 0)),
 mI 2 0] []
 (.seq (sr [fa 3 0 1,
 lo 4 3,
 c1 5 117 4,
 uN 6 5] [3,4,5]
 (.cond (.s 6)
 (sr [mI 2 12] []
 .ret)
 .skip))
 (sr [mI 2 0] []
 .ret)))⟩
theorem Ox:aq Tryz.prog 84=some zg:=by kernel_rfl
abbrev P6:FuncId:=84
def RM:aF :=
⟨56,6,[],
 (.seq (sr [mv 16 2,
 ln 17 16,
 mv 18 4,
 bS 19 .add 17 18,
 mv 20 3,
 bS 21 .gtr 19 20] [16,17,18,19,20]
 (.cond (.s 21)
 (.reg [mv 22 0,
 mv 23 1,
 mv 24 3,
 mv 25 4,
 bS 26 .sub 24 25,
 o0 27 (.mnx true (iC 0) (.s 26)),
 o0 28 (.call 90 [(.s 22),(.s 23),(.s 27),(iC 0),(iC 6)])] [22,23,24,25,26,27,28])
 .skip))
 (sr [mv 29 2,
 ln 30 29,
 mI 31 0] []
 (.block 0 (.loop (sr [bS 32 .lss 31 30] []
 (.seq (.cond (.s 32)
 .skip
 (.exit 0))
 (.seq (.block 1 (.seq (.reg [mv 33 31,
 ia 34 3 29 31,
 lS 35 3 34,
 o0 13 (.new 64 [(.str []),(.int .i64 0),(.int .i64 0)]),
 mv 12 33,
 sT 3 13 35] [33,34,35])
 (.seq (sr [mv 36 0,
 nk 37 36,
 fa 38 0 37,
 fa 39 3 38,
 lo 40 39,
 bI 41 .neq 40 0] [36,37,38,39,40]
 (cR 41))
 (sr [mv 43 5,
 mv 44 12,
 lS 45 3 13,
 o0 46 (.callv (.s 43) [(.s 44),(.s 45)]),
 mv 42 46,
 xt 47 42 0,
 xt 48 42 1,
 mv 14 47,
 mv 15 48] [43,44,45,46,42,47,48]
 (.reg [mv 49 0,
 mv 50 1,
 mv 51 12,
 mv 52 14,
 mv 53 15,
 o0 54 (.call 90 [(.s 49),(.s 50),(.s 51),(.s 52),(.s 53)])] [49,50,51,52,53,54])))))
 (.reg [bI 55 .add 31 1,
 mv 31 55] [55]))))))))⟩
theorem Se:aq Tryz.prog 86=some RM:=by kernel_rfl
abbrev Qx:FuncId:=86
def zI:aF :=
⟨28,5,[],
 (sr [mv 10 0,
 nk 11 10,
 fa 12 0 11,
 fa 13 3 12,
 lo 14 13,
 bI 15 .eql 14 0,
 mv 16 15,
 mt 17 4 16,
 ot 18 16 (.bin .neq (.s 17) (iC 0)),
 pF 19 16 18] [10,11,12,13,14,15,16,17,18]
 (.cond (.s 19)
 (.reg [mv 20 0,
 mv 21 1,
 mv 22 2,
 mv 23 3,
 mv 24 4,
 o0 25 (.build [(.int .i64 0),(.int .i64 0),(.int .i64 0),(.int .i64 0)] [(0,1,(.s 21)),(1,1,(.s 22)),(2,1,(.s 23)),(3,1,(.s 24))]),
 nk 26 20,
 fa 27 0 26,
 sT 4 27 25] [20,21,22,23,24,25,26,27])
 .skip))⟩
theorem SE:aq Tryz.prog 90=some zI:=by kernel_rfl
abbrev Mu:FuncId:=90
def RR:aF :=
⟨56,6,[],
 (.seq (sr [mv 16 2,
 ln 17 16,
 mv 18 4,
 bS 19 .add 17 18,
 mv 20 3,
 bS 21 .gtr 19 20] [16,17,18,19,20]
 (.cond (.s 21)
 (.reg [mv 22 0,
 mv 23 1,
 mv 24 3,
 mv 25 4,
 bS 26 .sub 24 25,
 o0 27 (.mnx true (iC 0) (.s 26)),
 o0 28 (.call 90 [(.s 22),(.s 23),(.s 27),(iC 0),(iC 6)])] [22,23,24,25,26,27,28])
 .skip))
 (sr [mv 29 2,
 ln 30 29,
 mI 31 0] []
 (.block 0 (.loop (sr [bS 32 .lss 31 30] []
 (.seq (.cond (.s 32)
 .skip
 (.exit 0))
 (.seq (.block 1 (sr [mv 33 31,
 ia 34 4 29 31,
 lS 35 4 34,
 o0 13 (.new 69 [(.int .i64 0),(.int .i64 0),.nl,.nl]),
 mv 12 33,
 sT 4 13 35] [33,34,35]
 (.seq (sr [mv 36 0,
 nk 37 36,
 fa 38 0 37,
 fa 39 3 38,
 lo 40 39,
 bI 41 .neq 40 0] [36,37,38,39,40]
 (cR 41))
 (sr [mv 43 5,
 mv 44 12,
 lS 45 4 13,
 o0 46 (.callv (.s 43) [(.s 44),(.s 45)]),
 mv 42 46,
 xt 47 42 0,
 xt 48 42 1,
 mv 14 47,
 mv 15 48] [43,44,45,46,42,47,48]
 (.reg [mv 49 0,
 mv 50 1,
 mv 51 12,
 mv 52 14,
 mv 53 15,
 o0 54 (.call 90 [(.s 49),(.s 50),(.s 51),(.s 52),(.s 53)])] [49,50,51,52,53,54])))))
 (.reg [bI 55 .add 31 1,
 mv 31 55] [55]))))))))⟩
theorem Sr:aq Tryz.prog 94=some RR:=by kernel_rfl
abbrev QH:FuncId:=94
def RL:aF :=
⟨56,6,[],
 (.seq (sr [mv 16 2,
 ln 17 16,
 mv 18 4,
 bS 19 .add 17 18,
 mv 20 3,
 bS 21 .gtr 19 20] [16,17,18,19,20]
 (.cond (.s 21)
 (.reg [mv 22 0,
 mv 23 1,
 mv 24 3,
 mv 25 4,
 bS 26 .sub 24 25,
 o0 27 (.mnx true (iC 0) (.s 26)),
 o0 28 (.call 90 [(.s 22),(.s 23),(.s 27),(iC 0),(iC 6)])] [22,23,24,25,26,27,28])
 .skip))
 (sr [mv 29 2,
 ln 30 29,
 mI 31 0] []
 (.block 0 (.loop (sr [bS 32 .lss 31 30] []
 (.seq (.cond (.s 32)
 .skip
 (.exit 0))
 (.seq (.block 1 (.seq (.reg [mv 33 31,
 ia 34 3 29 31,
 lS 35 3 34,
 o0 13 (.new 71 [(.int .i64 0),(.str []),.nl]),
 mv 12 33,
 sT 3 13 35] [33,34,35])
 (.seq (sr [mv 36 0,
 nk 37 36,
 fa 38 0 37,
 fa 39 3 38,
 lo 40 39,
 bI 41 .neq 40 0] [36,37,38,39,40]
 (cR 41))
 (sr [mv 43 5,
 mv 44 12,
 lS 45 3 13,
 o0 46 (.callv (.s 43) [(.s 44),(.s 45)]),
 mv 42 46,
 xt 47 42 0,
 xt 48 42 1,
 mv 14 47,
 mv 15 48] [43,44,45,46,42,47,48]
 (.reg [mv 49 0,
 mv 50 1,
 mv 51 12,
 mv 52 14,
 mv 53 15,
 o0 54 (.call 90 [(.s 49),(.s 50),(.s 51),(.s 52),(.s 53)])] [49,50,51,52,53,54])))))
 (.reg [bI 55 .add 31 1,
 mv 31 55] [55]))))))))⟩
theorem Sd:aq Tryz.prog 97=some RL:=by kernel_rfl
abbrev Qw:FuncId:=97
def zn:aF :=
⟨30,2,[],
 (.seq (sr [mI 4 0] []
 (.block 0 (.loop (.seq (sr [mv 6 4,
 mv 7 0,
 ln 8 7,
 bS 9 .lss 6 8] [6,7,8]
 (.cond (.s 9)
 .skip
 (.exit 0)))
 (.seq (.block 1 (.reg [mv 12 0,
 mv 13 4,
 ia 14 1 12 13,
 lo 15 14,
 bI 16 .add 15 1,
 ia 17 1 12 13,
 sT 1 17 16] [12,13,14,15,16,17]))
 (.reg [mv 10 4,
 bI 11 .add 10 1,
 mv 4 11] [10,11]))))))
 (sr [mI 5 0] []
 (.block 2 (.loop (.seq (sr [mv 18 5,
 mv 19 1,
 ln 20 19,
 bS 21 .lss 18 20] [18,19,20]
 (.cond (.s 21)
 .skip
 (.exit 2)))
 (.seq (.block 3 (.reg [mv 24 1,
 mv 25 5,
 ia 26 1 24 25,
 lo 27 26,
 o0 28 (.bin .xor (.s 27) (.c (.int .u8 1))),
 ia 29 1 24 25,
 sT 1 29 28] [24,25,26,27,28,29]))
 (.reg [mv 22 5,
 bI 23 .add 22 1,
 mv 5 23] [22,23])))))))⟩
theorem OG:aq Tryz.prog 101=some zn:=by kernel_rfl
abbrev Jo:FuncId:=101
def r6:aF :=
⟨12,1,[.cell 2 (some 9)],
 (sr [o0 1 (.box 79 9 (.s 0)),
 o0 2 (.new 79 [(.int .i64 0),(.int .i64 0),(.int .i64 0),(.int .u64 0),(.int .i64 0),(.int .i64 0),(.int .i64 0),.nl,.nl])] []
 (.seq (.seq (.draw [⟨fa 3 7 1,[]⟩,
 ⟨lo 4 3,[0]⟩,
 ⟨c1 5 17 4,[1,0]⟩,
 ⟨fa 6 8 1,[]⟩,
 ⟨lo 7 6,[3]⟩] [(5,2)] [])
 (.seq (.draw [⟨c1 8 105 7,[]⟩,
 ⟨fa 9 7 1,[]⟩] [(8,0)] [])
 (sr [sT 1 9 5] []
 (sr [fa 10 8 1] []
 (.reg [sT 1 10 8] [3,4,5,6,7,8,9,10])))))
 (sr [lS 11 9 1,
 sT 9 2 11] [11]
 .ret)))⟩
theorem Jb:aq Tryz.prog 104=some r6:=by kernel_rfl
abbrev qz:FuncId:=104
def zC:aF :=
⟨8,1,[.tmp 2],
 (sr [o0 2 (.mov (.c .nl))] []
 (.seq (sr [mv 3 0,
 o0 4 (.snl false (.s 3))] [3]
 (.cond (.s 4)
 (sr [o0 2 (.mov (.c .nl))] []
 .ret)
 .skip))
 (sr [o0 5 (.bsl 3 1 [] []),
 mv 6 0,
 o0 7 (.app 3 1 (.s 5) (.s 6)),
 mv 2 7] [5,6,7]
 .ret)))⟩
theorem O6:aq Tryz.prog 105=some zC:=by kernel_rfl
abbrev QA:FuncId:=105
def Fe:aF :=
⟨26,2,[.tmp 4],
 (sr [mB 4 false] []
 (.seq (sr [mv 6 0,
 ln 7 6,
 mv 8 1,
 ln 9 8,
 bS 10 .neq 7 9] [6,7,8,9]
 (.cond (.s 10)
 (sr [mB 4 false] []
 .ret)
 .skip))
 (.seq (sr [mI 5 0] []
 (.block 0 (.loop (.seq (sr [mv 11 5,
 mv 12 0,
 ln 13 12,
 bS 14 .lss 11 13] [11,12,13]
 (.cond (.s 14)
 .skip
 (.exit 0)))
 (.seq (.block 1 (.seq (.seq (.draw [⟨mv 17 0,[]⟩,
 ⟨mv 18 5,[]⟩,
 ⟨ia 19 1 17 18,[0,1]⟩,
 ⟨lo 20 19,[2,0,1]⟩,
 ⟨mv 21 1,[]⟩,
 ⟨mv 22 5,[]⟩,
 ⟨ia 23 1 21 22,[4,5]⟩,
 ⟨lo 24 23,[6,4,5]⟩] [] [])
 (.reg [bS 25 .neq 20 24] [17,18,19,20,21,22,23,24]))
 (.cond (.s 25)
 (sr [mB 4 false] []
 .ret)
 .skip)))
 (.reg [mv 15 5,
 bI 16 .add 15 1,
 mv 5 16] [15,16]))))))
 (sr [mB 4 true] []
 .ret))))⟩
theorem SQ:aq Tryz.prog 107=some Fe:=by kernel_rfl
abbrev Us:FuncId:=107
def EZ:aF :=
⟨30,3,[.tmp 6],
 (sr [mB 6 false] []
 (.seq (sr [mv 8 0,
 ln 9 8,
 mv 10 1,
 ln 11 10,
 bS 12 .neq 9 11] [8,9,10,11]
 (.cond (.s 12)
 (sr [mB 6 false] []
 .ret)
 .skip))
 (.seq (sr [mv 13 0,
 ln 14 13,
 mI 15 0] [13]
 (.block 0 (.loop (sr [bS 16 .lss 15 14] []
 (.seq (.cond (.s 16)
 .skip
 (.exit 0))
 (.seq (.block 1 (sr [mv 17 15,
 mv 7 17] [17]
 (.seq (.seq (.draw [⟨mv 18 2,[]⟩,
 ⟨mv 19 0,[]⟩,
 ⟨mv 20 7,[]⟩,
 ⟨ia 21 9 19 20,[1,2]⟩,
 ⟨lS 22 9 21,[3,1,2]⟩,
 ⟨mv 23 1,[]⟩,
 ⟨mv 24 7,[]⟩,
 ⟨ia 25 9 23 24,[5,6]⟩,
 ⟨lS 26 9 25,[7,5,6]⟩] [] [])
 (sr [o0 27 (.callv (.s 18) [(.s 22),(.s 26)])] []
 (.reg [uN 28 27] [18,19,20,21,22,23,24,25,26,27])))
 (.cond (.s 28)
 (sr [mB 6 false] []
 .ret)
 .skip))))
 (.reg [bI 29 .add 15 1,
 mv 15 29] [29])))))))
 (sr [mB 6 true] []
 .ret))))⟩
theorem So:aq Tryz.prog 110=some EZ:=by kernel_rfl
abbrev T7:FuncId:=110
def nT:aF :=
⟨34,1,[.cell 2 (some 13)],
 (.seq (.reg [o0 1 (.box 57 13 (.s 0)),
 o0 2 (.new 57 [(.str []),(.str []),(.int .i64 0),(.int .i64 0),(.int .i64 0),(.int .i64 0),(.int .i64 0),(.bool false),(.int .i64 0),(.int .i64 0),(.bool false),(.int .i64 0),(.bool false)])] [])
 (.seq (.reg [fa 4 0 1,
 lo 5 4,
 fa 6 1 1,
 lo 7 6,
 fa 8 2 1,
 lo 9 8,
 o0 10 (.build [(.str []),(.str []),(.int .i64 0),(.int .i64 0),(.int .i64 0),(.int .i64 0),(.int .i64 0),(.bool false),(.int .i64 0),(.int .i64 0),(.bool false),(.int .i64 0),(.bool false)] [(0,1,(.s 5)),(1,1,(.s 7)),(2,1,(.s 9))]),
 o0 3 (.new 57 [(.str []),(.str []),(.int .i64 0),(.int .i64 0),(.int .i64 0),(.int .i64 0),(.int .i64 0),(.bool false),(.int .i64 0),(.int .i64 0),(.bool false),(.int .i64 0),(.bool false)]),
 sT 13 3 10] [4,5,6,7,8,9,10])
 (.seq (sr [fa 11 2 1,
 lo 12 11] [11]
 (.block 0 (sr [bI 14 .eql 12 0,
 mv 13 14] [14]
 (.cond (.s 13)
 (.reg [fa 15 3 1,
 lo 16 15,
 fa 17 3 3,
 sT 1 17 16] [15,16,17])
 (sr [bI 19 .eql 12 1,
 mv 18 19] [19]
 (.cond (.s 18)
 (.reg [fa 20 4 1,
 lS 21 4 20,
 fa 22 4 3,
 sT 4 22 21] [20,21,22])
 (sr [bI 24 .eql 12 2,
 mv 23 24] [24]
 (.cond (.s 23)
 (.reg [fa 25 8 1,
 lS 26 3 25,
 fa 27 8 3,
 sT 3 27 26] [25,26,27])
 (sr [bI 29 .eql 12 3,
 mv 28 29] [29]
 (.cond (.s 28)
 (.reg [fa 30 11 1,
 lS 31 2 30,
 fa 32 11 3,
 sT 2 32 31] [30,31,32])
 .skip))))))))))
 (sr [lS 33 13 3,
 sT 13 2 33] [33]
 .ret))))⟩
theorem OR:aq Tryz.prog 114=some nT:=by kernel_rfl
abbrev Qg:FuncId:=114
def Ru:aF :=
⟨26,2,[.tmp 4],
 (sr [mB 4 false] []
 (.seq (sr [mv 6 0,
 ln 7 6,
 mv 8 1,
 ln 9 8,
 bS 10 .neq 7 9] [6,7,8,9]
 (.cond (.s 10)
 (sr [mB 4 false] []
 .ret)
 .skip))
 (.seq (sr [mv 11 0,
 ln 12 11,
 mI 13 0] [11]
 (.block 0 (.loop (sr [bS 14 .lss 13 12] []
 (.seq (.cond (.s 14)
 .skip
 (.exit 0))
 (.seq (.block 1 (sr [mv 15 13,
 mv 5 15] [15]
 (.seq (.seq (.draw [⟨mv 16 0,[]⟩,
 ⟨mv 17 5,[]⟩,
 ⟨ia 18 1 16 17,[0,1]⟩,
 ⟨lo 19 18,[2,0,1]⟩,
 ⟨mv 20 1,[]⟩,
 ⟨mv 21 5,[]⟩,
 ⟨ia 22 1 20 21,[4,5]⟩,
 ⟨lo 23 22,[6,4,5]⟩] [] [])
 (.reg [bS 24 .neq 19 23] [16,17,18,19,20,21,22,23]))
 (.cond (.s 24)
 (sr [mB 4 false] []
 .ret)
 .skip))))
 (.reg [bI 25 .add 13 1,
 mv 13 25] [25])))))))
 (sr [mB 4 true] []
 .ret))))⟩
theorem VI:aq Tryz.prog 120=some Ru:=by kernel_rfl
abbrev VW:FuncId:=120
def EY:aF :=
⟨26,2,[.tmp 4],
 (sr [mB 4 false] []
 (.seq (sr [mv 6 0,
 ln 7 6,
 mv 8 1,
 ln 9 8,
 bS 10 .neq 7 9] [6,7,8,9]
 (.cond (.s 10)
 (sr [mB 4 false] []
 .ret)
 .skip))
 (.seq (sr [mv 11 0,
 ln 12 11,
 mI 13 0] [11]
 (.block 0 (.loop (sr [bS 14 .lss 13 12] []
 (.seq (.cond (.s 14)
 .skip
 (.exit 0))
 (.seq (.block 1 (sr [mv 15 13,
 mv 5 15] [15]
 (.seq (.seq (.draw [⟨mv 16 0,[]⟩,
 ⟨mv 17 5,[]⟩,
 ⟨ia 18 1 16 17,[0,1]⟩,
 ⟨lo 19 18,[2,0,1]⟩,
 ⟨mv 20 1,[]⟩,
 ⟨mv 21 5,[]⟩,
 ⟨ia 22 1 20 21,[4,5]⟩,
 ⟨lo 23 22,[6,4,5]⟩] [] [])
 (.reg [bS 24 .neq 19 23] [16,17,18,19,20,21,22,23]))
 (.cond (.s 24)
 (sr [mB 4 false] []
 .ret)
 .skip))))
 (.reg [bI 25 .add 13 1,
 mv 13 25] [25])))))))
 (sr [mB 4 true] []
 .ret))))⟩
theorem Sm:aq Tryz.prog 121=some EY:=by kernel_rfl
abbrev T6:FuncId:=121
def Rt:aF :=
⟨9,2,[.tmp 4],
 (sr [mB 4 false] []
 (sr [mv 5 0,
 mv 6 1,
 c2 7 132 5 6,
 bI 8 .geq 7 0,
 mv 4 8] [5,6,7,8]
 .ret))⟩
theorem VG:aq Tryz.prog 122=some Rt:=by kernel_rfl
abbrev VV:FuncId:=122
def zi:aF :=
⟨6,1,[.tmp 2],
 (sr [mB 2 false] []
 (sr [mv 3 0,
 c1 4 117 3,
 uN 5 4,
 mv 2 5] [3,4,5]
 .ret))⟩
theorem Oz:aq Tryz.prog 123=some zi:=by kernel_rfl
abbrev s6:FuncId:=123
def JX:aF :=
⟨169,1,[.tmp 2],
 (sr [mB 2 false] []
 (.seq (.block 0 (.loop (.seq (sr [mv 7 0,
 o0 8 (.slen (.s 7)),
 bI 9 .gtr 8 0] [7,8]
 (.cond (.s 9)
 .skip
 (.exit 0)))
 (.block 1 (sr [mv 10 0,
 o0 11 (.sidx (.s 10) (iC 0)),
 mv 3 11] [10,11]
 (.seq (sr [mv 12 3,
 o0 13 (.bin .lss (.s 12) (.c (.int .u8 128)))] [12]
 (.cond (.s 13)
 (sr [mv 14 0,
 o0 15 (.sslc (.s 14) (some (iC 1)) none),
 mv 0 15] [14,15]
 (.seq (sr [mv 16 0,
 o0 17 (.slen (.s 16)),
 bI 18 .gtr 17 8,
 mv 19 18,
 mt 20 0 19,
 ot 21 19 (.call 133 [(.s 20)]),
 ot 22 19 (.bin .and (.s 21) (.c (.int .u64 9259542123273814144))),
 ot 23 19 (.bin .eql (.s 22) (.c (.int .u64 0))),
 pF 24 19 23] [16,17,18,19,20,21,22,23]
 (.cond (.s 24)
 (sr [mv 25 0,
 o0 26 (.sslc (.s 25) (some (iC 8)) none),
 mv 0 26] [25,26]
 (.seq (sr [mv 27 0] []
 (sr [o0 28 (.slen (.s 27))] []
 (sr [bI 29 .gtr 28 16] []
 (sr [mv 30 29] []
 (.seq (.draw [⟨mt 31 0 30,[]⟩,
 ⟨ot 32 30 (.call 133 [(.s 31)]),[0]⟩,
 ⟨mt 33 0 30,[]⟩,
 ⟨ot 34 30 (.sslc (.s 33) (some (iC 8)) none),[2]⟩] [(32,1)] [])
 (sr [ot 35 30 (.call 133 [(.s 34)])] []
 (sr [ot 36 30 (.bin .or (.s 32) (.s 35))] []
 (sr [ot 37 30 (.bin .and (.s 36) (.c (.int .u64 9259542123273814144)))] []
 (sr [ot 38 30 (.bin .eql (.s 37) (.c (.int .u64 0)))] []
 (.reg [pF 39 30 38] [27,28,29,30,31,32,33,34,35,36,37,38]))))))))))
 (.cond (.s 39)
 (sr [mv 40 0,
 o0 41 (.sslc (.s 40) (some (iC 16)) none),
 mv 0 41] [40,41]
 (.block 2 (.loop (.seq (.seq (sr [mv 42 0] []
 (sr [o0 43 (.slen (.s 42))] []
 (sr [bI 44 .gtr 43 32] []
 (sr [mv 45 44] []
 (.seq (.draw [⟨mt 46 0 45,[]⟩,
 ⟨ot 47 45 (.call 133 [(.s 46)]),[0]⟩,
 ⟨mt 48 0 45,[]⟩,
 ⟨ot 49 45 (.sslc (.s 48) (some (iC 8)) none),[2]⟩,
 ⟨ot 50 45 (.call 133 [(.s 49)]),[3,2,1,0]⟩,
 ⟨ot 51 45 (.bin .or (.s 47) (.s 50)),[1,0,4,3,2]⟩,
 ⟨mt 52 0 45,[]⟩,
 ⟨ot 53 45 (.sslc (.s 52) (some (iC 16)) none),[6]⟩,
 ⟨ot 54 45 (.call 133 [(.s 53)]),[7,6,4,3,2,1,0]⟩,
 ⟨mt 55 0 45,[]⟩,
 ⟨ot 56 45 (.sslc (.s 55) (some (iC 24)) none),[9]⟩,
 ⟨ot 57 45 (.call 133 [(.s 56)]),[10,9,8,7,6,4,3,2,1,0]⟩,
 ⟨ot 58 45 (.bin .or (.s 54) (.s 57)),[8,7,6,4,3,2,1,0,11,10,9]⟩] [(47,1),(50,4),(54,8),(57,11)] [])
 (sr [ot 59 45 (.bin .or (.s 51) (.s 58))] []
 (sr [ot 60 45 (.bin .and (.s 59) (.c (.int .u64 9259542123273814144)))] []
 (sr [ot 61 45 (.bin .eql (.s 60) (.c (.int .u64 0)))] []
 (.reg [pF 62 45 61] [42,43,44,45,46,47,48,49,50,51,52,53,54,55,56,57,58,59,60,61])))))))))
 (.cond (.s 62)
 .skip
 (.exit 2)))
 (.block 3 (.reg [mv 63 0,
 o0 64 (.sslc (.s 63) (some (iC 32)) none),
 mv 0 64] [63,64]))))))
 .skip)))
 .skip))
 (.exit 1)))
 .skip))
 (sr [mv 65 3,
 o0 66 (.aadr 1 256 (.s 1000000) (.s 65)),
 lo 67 66,
 mv 4 67] [65,66,67]
 (sr [mv 68 4,
 o0 69 (.bin .and (.s 68) (.c (.int .u8 7))),
 o0 70 (.cvi .i64 (.s 69)),
 mv 5 70] [68,69,70]
 (sr [mv 71 4,
 o0 72 (.bin .shr (.s 71) (.c (.int .u64 4))),
 o0 73 (.aadr 2 16 (.s 1000001) (.s 72)),
 lS 74 2 73,
 o0 6 (.new 195 [(.int .u8 0),(.int .u8 0)]),
 sT 2 6 74] [71,72,73,74]
 (sr [mv 75 5] []
 (.block 4 (sr [bI 77 .eql 75 2,
 mv 76 77] [77]
 (.cond (.s 76)
 (.seq (.seq (sr [mv 78 0] []
 (sr [o0 79 (.slen (.s 78))] []
 (sr [bI 80 .lss 79 2] []
 (sr [mv 81 80] []
 (.seq (.draw [⟨mf 82 0 81,[]⟩,
 ⟨oF 83 81 (.sidx (.s 82) (iC 1)),[0]⟩,
 ⟨oF 84 81 (fd 0 6),[]⟩,
 ⟨oF 85 81 (ld 84),[2]⟩] [] [])
 (sr [oF 86 81 (.bin .lss (.s 83) (.s 85))] []
 (sr [pT 87 81 86] []
 (sr [mv 88 87] []
 (.seq (.draw [⟨oF 89 88 (fd 1 6),[]⟩,
 ⟨oF 90 88 (ld 89),[0]⟩,
 ⟨mf 91 0 88,[]⟩,
 ⟨oF 92 88 (.sidx (.s 91) (iC 1)),[2]⟩] [] [])
 (sr [oF 93 88 (.bin .lss (.s 90) (.s 92))] []
 (.reg [pT 94 88 93] [78,79,80,81,82,83,84,85,86,87,88,89,90,91,92,93])))))))))))
 (.cond (.s 94)
 (sr [mB 2 false] []
 .ret)
 .skip))
 (.reg [mv 95 0,
 o0 96 (.sslc (.s 95) (some (iC 2)) none),
 mv 0 96] [95,96]))
 (sr [bI 98 .eql 75 3,
 mv 97 98] [98]
 (.cond (.s 97)
 (.seq (.seq (sr [mv 99 0] []
 (sr [o0 100 (.slen (.s 99))] []
 (sr [bI 101 .lss 100 3] []
 (sr [mv 102 101] []
 (.seq (.draw [⟨mf 103 0 102,[]⟩,
 ⟨oF 104 102 (.sidx (.s 103) (iC 1)),[0]⟩,
 ⟨oF 105 102 (fd 0 6),[]⟩,
 ⟨oF 106 102 (ld 105),[2]⟩] [] [])
 (sr [oF 107 102 (.bin .lss (.s 104) (.s 106))] []
 (sr [pT 108 102 107] []
 (sr [mv 109 108] []
 (.seq (.draw [⟨oF 110 109 (fd 1 6),[]⟩,
 ⟨oF 111 109 (ld 110),[0]⟩,
 ⟨mf 112 0 109,[]⟩,
 ⟨oF 113 109 (.sidx (.s 112) (iC 1)),[2]⟩] [] [])
 (sr [oF 114 109 (.bin .lss (.s 111) (.s 113))] []
 (sr [pT 115 109 114] []
 (sr [mv 116 115] []
 (sr [mf 117 0 116] []
 (sr [oF 118 116 (.sidx (.s 117) (iC 2))] []
 (sr [oF 119 116 (.bin .lss (.s 118) (.c (.int .u8 128)))] []
 (sr [pT 120 116 119] []
 (sr [mv 121 120] []
 (sr [mf 122 0 121] []
 (sr [oF 123 121 (.sidx (.s 122) (iC 2))] []
 (sr [oF 124 121 (.bin .lss (.c (.int .u8 191)) (.s 123))] []
 (.reg [pT 125 121 124] [99,100,101,102,103,104,105,106,107,108,109,110,111,112,113,114,115,116,117,118,119,120,121,122,123,124])))))))))))))))))))))
 (.cond (.s 125)
 (sr [mB 2 false] []
 .ret)
 .skip))
 (.reg [mv 126 0,
 o0 127 (.sslc (.s 126) (some (iC 3)) none),
 mv 0 127] [126,127]))
 (sr [bI 129 .eql 75 4,
 mv 128 129] [129]
 (.cond (.s 128)
 (.seq (.seq (sr [mv 130 0] []
 (sr [o0 131 (.slen (.s 130))] []
 (sr [bI 132 .lss 131 4] []
 (sr [mv 133 132] []
 (.seq (.draw [⟨mf 134 0 133,[]⟩,
 ⟨oF 135 133 (.sidx (.s 134) (iC 1)),[0]⟩,
 ⟨oF 136 133 (fd 0 6),[]⟩,
 ⟨oF 137 133 (ld 136),[2]⟩] [] [])
 (sr [oF 138 133 (.bin .lss (.s 135) (.s 137))] []
 (sr [pT 139 133 138] []
 (sr [mv 140 139] []
 (.seq (.draw [⟨oF 141 140 (fd 1 6),[]⟩,
 ⟨oF 142 140 (ld 141),[0]⟩,
 ⟨mf 143 0 140,[]⟩,
 ⟨oF 144 140 (.sidx (.s 143) (iC 1)),[2]⟩] [] [])
 (sr [oF 145 140 (.bin .lss (.s 142) (.s 144))] []
 (sr [pT 146 140 145] []
 (sr [mv 147 146] []
 (sr [mf 148 0 147] []
 (sr [oF 149 147 (.sidx (.s 148) (iC 2))] []
 (sr [oF 150 147 (.bin .lss (.s 149) (.c (.int .u8 128)))] []
 (sr [pT 151 147 150] []
 (sr [mv 152 151] []
 (sr [mf 153 0 152] []
 (sr [oF 154 152 (.sidx (.s 153) (iC 2))] []
 (sr [oF 155 152 (.bin .lss (.c (.int .u8 191)) (.s 154))] []
 (sr [pT 156 152 155] []
 (sr [mv 157 156] []
 (sr [mf 158 0 157] []
 (sr [oF 159 157 (.sidx (.s 158) (iC 3))] []
 (sr [oF 160 157 (.bin .lss (.s 159) (.c (.int .u8 128)))] []
 (sr [pT 161 157 160] []
 (sr [mv 162 161] []
 (sr [mf 163 0 162] []
 (sr [oF 164 162 (.sidx (.s 163) (iC 3))] []
 (sr [oF 165 162 (.bin .lss (.c (.int .u8 191)) (.s 164))] []
 (.reg [pT 166 162 165] [130,131,132,133,134,135,136,137,138,139,140,141,142,143,144,145,146,147,148,149,150,151,152,153,154,155,156,157,158,159,160,161,162,163,164,165])))))))))))))))))))))))))))))))
 (.cond (.s 166)
 (sr [mB 2 false] []
 .ret)
 .skip))
 (.reg [mv 167 0,
 o0 168 (.sslc (.s 167) (some (iC 4)) none),
 mv 0 168] [167,168]))
 (sr [mB 2 false] []
 .ret))))))))))))))))))
 (sr [mB 2 true] []
 .ret)))⟩
theorem SG:aq Tryz.prog 124=some JX:=by kernel_rfl
abbrev Ui:FuncId:=124
abbrev ki:FuncId:=138
def Kg:aF :=
⟨1,0,[.tmp 0],
 (sr [o0 0 (.mov (.c .nf))] []
 (sr [o0 0 (.mov (.c (.fn 141 [])))] []
 .ret))⟩
theorem Ta:aq Tryz.prog 139=some Kg:=by kernel_rfl
abbrev UC:FuncId:=139
def lz:aF :=
⟨263,1,[.tmp 2],
 (sr [o0 1 (.box 33 12 (.s 0)),
 mB 2 false] []
 (.seq (sr [fa 13 0 1,
 lo 14 13,
 ln 15 14,
 bI 16 .gtr 15 100,
 mv 17 16,
 oF 18 17 (fd 1 1),
 oF 19 17 (ld 18),
 oF 20 17 (.len (.s 19)),
 oF 21 17 (.bin .gtr (.s 20) (iC 100)),
 pT 22 17 21,
 mv 23 22,
 oF 24 23 (fd 2 1),
 oF 25 23 (ld 24),
 oF 26 23 (.len (.s 25)),
 oF 27 23 (.bin .gtr (.s 26) (iC 100)),
 pT 28 23 27,
 mv 29 28,
 oF 30 29 (fd 3 1),
 oF 31 29 (ld 30),
 oF 32 29 (.len (.s 31)),
 oF 33 29 (.bin .gtr (.s 32) (iC 100)),
 pT 34 29 33,
 mv 35 34,
 oF 36 35 (fd 4 1),
 oF 37 35 (ld 36),
 oF 38 35 (.len (.s 37)),
 oF 39 35 (.bin .gtr (.s 38) (iC 100)),
 pT 40 35 39,
 mv 41 40,
 oF 42 41 (fd 5 1),
 oF 43 41 (ld 42),
 oF 44 41 (.len (.s 43)),
 oF 45 41 (.bin .gtr (.s 44) (iC 100)),
 pT 46 41 45,
 mv 47 46,
 oF 48 47 (fd 6 1),
 oF 49 47 (ld 48),
 oF 50 47 (.len (.s 49)),
 oF 51 47 (.bin .gtr (.s 50) (iC 100)),
 pT 52 47 51,
 mv 53 52,
 oF 54 53 (fd 9 1),
 oF 55 53 (ld 54),
 oF 56 53 (.len (.s 55)),
 oF 57 53 (.bin .gtr (.s 56) (iC 100)),
 pT 58 53 57,
 mv 59 58,
 oF 60 59 (fd 10 1),
 oF 61 59 (ld 60),
 oF 62 59 (.len (.s 61)),
 oF 63 59 (.bin .gtr (.s 62) (iC 100)),
 pT 64 59 63,
 mv 65 64,
 oF 66 65 (fd 11 1),
 oF 67 65 (ld 66),
 oF 68 65 (.len (.s 67)),
 oF 69 65 (.bin .gtr (.s 68) (iC 100)),
 pT 70 65 69] [13,14,15,16,17,18,19,20,21,22,23,24,25,26,27,28,29,30,31,32,33,34,35,36,37,38,39,40,41,42,43,44,45,46,47,48,49,50,51,52,53,54,55,56,57,58,59,60,61,62,63,64,65,66,67,68,69]
 (.cond (.s 70)
 (sr [mB 2 false] []
 .ret)
 .skip))
 (sr [o0 3 (.mov (.c .nl))] []
 (sr [mI 4 0] []
 (.seq (sr [mI 5 0] []
 (.block 0 (.loop (.seq (sr [mv 71 5,
 fa 72 0 1,
 lo 73 72,
 ln 74 73,
 bS 75 .lss 71 74] [71,72,73,74]
 (.cond (.s 75)
 .skip
 (.exit 0)))
 (.seq (.block 1 (.seq (.draw [⟨mv 78 4,[]⟩,
 ⟨fa 79 0 1,[]⟩,
 ⟨lo 80 79,[1]⟩,
 ⟨mv 81 5,[]⟩,
 ⟨ia 82 2 80 81,[2,1,3]⟩,
 ⟨fa 83 0 82,[4,2,1,3]⟩,
 ⟨lo 84 83,[5,4,2,1,3]⟩,
 ⟨ln 85 84,[6,5,4,2,1,3]⟩,
 ⟨fa 86 0 1,[]⟩,
 ⟨lo 87 86,[8]⟩,
 ⟨mv 88 5,[]⟩,
 ⟨ia 89 2 87 88,[9,8,10]⟩,
 ⟨fa 90 1 89,[11,9,8,10]⟩,
 ⟨lo 91 90,[12,11,9,8,10]⟩,
 ⟨ln 92 91,[13,12,11,9,8,10]⟩,
 ⟨bS 93 .add 85 92,[7,6,5,4,2,1,3,14,13,12,11,9,8,10]⟩] [] [])
 (sr [bS 94 .add 78 93] []
 (.reg [mv 4 94] [78,79,80,81,82,83,84,85,86,87,88,89,90,91,92,93,94]))))
 (.reg [mv 76 5,
 bI 77 .add 76 1,
 mv 5 77] [76,77]))))))
 (.seq (sr [mI 6 0] []
 (.block 2 (.loop (.seq (sr [mv 95 6,
 fa 96 1 1,
 lo 97 96,
 ln 98 97,
 bS 99 .lss 95 98] [95,96,97,98]
 (.cond (.s 99)
 .skip
 (.exit 2)))
 (.seq (.block 3 (.seq (.draw [⟨mv 102 4,[]⟩,
 ⟨fa 103 1 1,[]⟩,
 ⟨lo 104 103,[1]⟩,
 ⟨mv 105 6,[]⟩,
 ⟨ia 106 13 104 105,[2,1,3]⟩,
 ⟨fa 107 0 106,[4,2,1,3]⟩,
 ⟨lo 108 107,[5,4,2,1,3]⟩,
 ⟨o0 109 (.slen (.s 108)),[6,5,4,2,1,3]⟩,
 ⟨fa 110 1 1,[]⟩,
 ⟨lo 111 110,[8]⟩,
 ⟨mv 112 6,[]⟩,
 ⟨ia 113 13 111 112,[9,8,10]⟩,
 ⟨fa 114 1 113,[11,9,8,10]⟩,
 ⟨lo 115 114,[12,11,9,8,10]⟩,
 ⟨o0 116 (.slen (.s 115)),[13,12,11,9,8,10]⟩,
 ⟨bS 117 .add 109 116,[7,6,5,4,2,1,3,14,13,12,11,9,8,10]⟩] [] [])
 (sr [bS 118 .add 102 117] []
 (.reg [mv 4 118] [102,103,104,105,106,107,108,109,110,111,112,113,114,115,116,117,118]))))
 (.reg [mv 100 6,
 bI 101 .add 100 1,
 mv 6 101] [100,101]))))))
 (.seq (sr [mI 7 0] []
 (.block 4 (.loop (.seq (sr [mv 119 7,
 fa 120 2 1,
 lo 121 120,
 ln 122 121,
 bS 123 .lss 119 122] [119,120,121,122]
 (.cond (.s 123)
 .skip
 (.exit 4)))
 (.seq (.block 5 (sr [mv 126 4,
 fa 127 2 1,
 lo 128 127,
 mv 129 7,
 ia 130 3 128 129,
 fa 131 1 130,
 lo 132 131,
 ln 133 132,
 bS 134 .add 126 133,
 mv 4 134] [126,127,128,129,130,131,132,133,134]
 (.reg [mv 135 3,
 fa 136 2 1,
 lo 137 136,
 mv 138 7,
 ia 139 3 137 138,
 fa 140 2 139,
 lo 141 140,
 o0 142 (.bsl 58 1 [[.nl]] [(0,(.s 141))]),
 o0 143 (.app 58 1 (.s 135) (.s 142)),
 mv 3 143] [135,136,137,138,139,140,141,142,143])))
 (.reg [mv 124 7,
 bI 125 .add 124 1,
 mv 7 125] [124,125]))))))
 (.seq (sr [mI 8 0] []
 (.block 6 (.loop (.seq (sr [mv 144 8,
 fa 145 5 1,
 lo 146 145,
 ln 147 146,
 bS 148 .lss 144 147] [144,145,146,147]
 (.cond (.s 148)
 .skip
 (.exit 6)))
 (.seq (.block 7 (.reg [mv 151 3,
 fa 152 5 1,
 lo 153 152,
 mv 154 8,
 ia 155 3 153 154,
 fa 156 2 155,
 lo 157 156,
 o0 158 (.bsl 58 1 [[.nl]] [(0,(.s 157))]),
 o0 159 (.app 58 1 (.s 151) (.s 158)),
 mv 3 159] [151,152,153,154,155,156,157,158,159]))
 (.reg [mv 149 8,
 bI 150 .add 149 1,
 mv 8 150] [149,150]))))))
 (.seq (sr [mI 9 0] []
 (.block 8 (.loop (.seq (sr [mv 160 9,
 fa 161 6 1,
 lo 162 161,
 ln 163 162,
 bS 164 .lss 160 163] [160,161,162,163]
 (.cond (.s 164)
 .skip
 (.exit 8)))
 (.seq (.block 9 (.reg [mv 167 4,
 fa 168 6 1,
 lo 169 168,
 mv 170 9,
 ia 171 3 169 170,
 fa 172 0 171,
 lo 173 172,
 o0 174 (.slen (.s 173)),
 bS 175 .add 167 174,
 mv 4 175] [167,168,169,170,171,172,173,174,175]))
 (.reg [mv 165 9,
 bI 166 .add 165 1,
 mv 9 166] [165,166]))))))
 (.seq (sr [mI 10 0] []
 (.block 10 (.loop (.seq (sr [mv 176 10,
 fa 177 9 1,
 lo 178 177,
 ln 179 178,
 bS 180 .lss 176 179] [176,177,178,179]
 (.cond (.s 180)
 .skip
 (.exit 10)))
 (.seq (.block 11 (.seq (sr [fa 183 9 1,
 lo 184 183,
 mv 185 10,
 ia 186 5 184 185,
 fa 187 4 186,
 lo 188 187,
 ln 189 188,
 bI 190 .gtr 189 300] [183,184,185,186,187,188,189]
 (.cond (.s 190)
 (sr [mB 2 false] []
 .ret)
 .skip))
 (.seq (.reg [mv 191 3,
 fa 192 9 1,
 lo 193 192,
 mv 194 10,
 ia 195 5 193 194,
 fa 196 2 195,
 lo 197 196,
 o0 198 (.bsl 58 1 [[.nl]] [(0,(.s 197))]),
 o0 199 (.app 58 1 (.s 191) (.s 198)),
 mv 3 199] [191,192,193,194,195,196,197,198,199])
 (.reg [mv 200 3,
 fa 201 9 1,
 lo 202 201,
 mv 203 10,
 ia 204 5 202 203,
 fa 205 4 204,
 lo 206 205,
 o0 207 (.app 58 1 (.s 200) (.s 206)),
 mv 3 207] [200,201,202,203,204,205,206,207]))))
 (.reg [mv 181 10,
 bI 182 .add 181 1,
 mv 10 182] [181,182]))))))
 (.seq (sr [mI 11 0] []
 (.block 12 (.loop (.seq (sr [mv 208 11,
 fa 209 10 1,
 lo 210 209,
 ln 211 210,
 bS 212 .lss 208 211] [208,209,210,211]
 (.cond (.s 212)
 .skip
 (.exit 12)))
 (.seq (.block 13 (sr [mv 215 4,
 fa 216 10 1,
 lo 217 216,
 mv 218 11,
 ia 219 4 217 218,
 fa 220 3 219,
 lo 221 220,
 ln 222 221,
 bS 223 .add 215 222,
 mv 4 223] [215,216,217,218,219,220,221,222,223]
 (.reg [mv 224 3,
 fa 225 10 1,
 lo 226 225,
 mv 227 11,
 ia 228 4 226 227,
 fa 229 2 228,
 lo 230 229,
 o0 231 (.bsl 58 1 [[.nl]] [(0,(.s 230))]),
 o0 232 (.app 58 1 (.s 224) (.s 231)),
 mv 3 232] [224,225,226,227,228,229,230,231,232])))
 (.reg [mv 213 11,
 bI 214 .add 213 1,
 mv 11 214] [213,214]))))))
 (.seq (sr [mI 12 0] []
 (.block 14 (.loop (.seq (sr [mv 233 12,
 fa 234 11 1,
 lo 235 234,
 ln 236 235,
 bS 237 .lss 233 236] [233,234,235,236]
 (.cond (.s 237)
 .skip
 (.exit 14)))
 (.seq (.block 15 (.seq (.draw [⟨mv 240 4,[]⟩,
 ⟨fa 241 11 1,[]⟩,
 ⟨lo 242 241,[1]⟩,
 ⟨mv 243 12,[]⟩,
 ⟨ia 244 3 242 243,[2,1,3]⟩,
 ⟨fa 245 2 244,[4,2,1,3]⟩,
 ⟨lo 246 245,[5,4,2,1,3]⟩,
 ⟨ln 247 246,[6,5,4,2,1,3]⟩,
 ⟨fa 248 11 1,[]⟩,
 ⟨lo 249 248,[8]⟩,
 ⟨mv 250 12,[]⟩,
 ⟨ia 251 3 249 250,[9,8,10]⟩,
 ⟨fa 252 1 251,[11,9,8,10]⟩,
 ⟨lo 253 252,[12,11,9,8,10]⟩,
 ⟨o0 254 (.slen (.s 253)),[13,12,11,9,8,10]⟩,
 ⟨bS 255 .add 247 254,[7,6,5,4,2,1,3,14,13,12,11,9,8,10]⟩] [] [])
 (sr [bS 256 .add 240 255] []
 (.reg [mv 4 256] [240,241,242,243,244,245,246,247,248,249,250,251,252,253,254,255,256]))))
 (.reg [mv 238 12,
 bI 239 .add 238 1,
 mv 12 239] [238,239]))))))
 (sr [mv 257 4,
 bI 258 .leq 257 9000,
 mv 259 258,
 mt 260 3 259,
 ot 261 259 (.call 13 [(.s 260),(iC 3000)]),
 pF 262 259 261,
 mv 2 262] [257,258,259,260,261,262]
 .ret)))))))))))))⟩
theorem Td:aq Tryz.prog 4=some lz:=by kernel_rfl
abbrev UE:FuncId:=4
def Kj:aF :=
⟨107,1,[.cell 2 (some 4)],
 (sr [o0 1 (.box 33 12 (.s 0)),
 o0 2 (.new 40 [(.int .i64 0),(.int .i64 0),(.int .i64 0),(.int .i64 0)])] []
 (sr [o0 7 (.build [(.int .i64 0),(.int .i64 0),(.int .i64 0),(.int .i64 0)] []),
 o0 8 (.box 133 4 (.s 7)),
 mv 3 8] [7,8]
 (sr [o0 9 (.build [(.int .i64 0),(.int .i64 0),(.int .i64 0),(.int .i64 0)] []),
 o0 4 (.new 134 [(.int .i64 0),(.int .i64 0),(.int .i64 0),(.int .i64 0)]),
 sT 4 4 9] [9]
 (.seq (sr [fa 10 1 1,
 lo 11 10,
 ln 12 11,
 mI 13 0] [10]
 (.block 0 (.loop (sr [bS 14 .lss 13 12] []
 (.seq (.cond (.s 14)
 .skip
 (.exit 0))
 (.seq (.block 1 (.seq (.reg [ia 15 13 11 13,
 lS 16 13 15,
 o0 6 (.new 57 [(.str []),(.str []),(.int .i64 0),(.int .i64 0),(.int .i64 0),(.int .i64 0),(.int .i64 0),(.bool false),(.int .i64 0),(.int .i64 0),(.bool false),(.int .i64 0),(.bool false)]),
 sT 13 6 16] [15,16])
 (sr [fa 17 2 6,
 lo 18 17,
 bI 19 .geq 18 0,
 mv 20 19,
 ot 21 20 (fd 2 6),
 ot 22 20 (ld 21),
 ot 23 20 (.bin .leq (.s 22) (iC 3)),
 pF 24 20 23] [17,18,19,20,21,22,23]
 (.cond (.s 24)
 (.reg [fa 25 2 6,
 lo 26 25,
 o0 27 (.aadr 1 4 (.s 4) (.s 26)),
 lo 28 27,
 bI 29 .add 28 1,
 o0 30 (.aadr 1 4 (.s 4) (.s 26)),
 sT 1 30 29] [25,26,27,28,29,30])
 .skip))))
 (.reg [bI 31 .add 13 1,
 mv 13 31] [31])))))))
 (.seq (.reg [mv 32 3,
 fa 33 0 1,
 lo 34 33,
 o0 35 (.call 67 [(.s 32),(iC 1),(.s 34),(iC 64),(iC 0),(.c (.fn 68 []))])] [32,33,34,35])
 (.seq (.reg [mv 36 3,
 fa 37 1 1,
 lo 38 37,
 o0 39 (.call 70 [(.s 36),(iC 2),(.s 38),(iC 32),(iC 0),(.c (.fn 71 []))])] [36,37,38,39])
 (.seq (.reg [mv 40 3,
 fa 41 2 1,
 lo 42 41,
 o0 43 (.aadr 1 4 (.s 4) (iC 0)),
 lo 44 43,
 o0 45 (.call 73 [(.s 40),(iC 3),(.s 42),(iC 64),(.s 44),(.c (.fn 74 []))])] [40,41,42,43,44,45])
 (.seq (.reg [mv 46 3,
 fa 47 3 1,
 lo 48 47,
 o0 49 (.aadr 1 4 (.s 4) (iC 1)),
 lo 50 49,
 o0 51 (.call 76 [(.s 46),(iC 4),(.s 48),(iC 4),(.s 50),(.c (.fn 77 []))])] [46,47,48,49,50,51])
 (.seq (.reg [mv 52 3,
 fa 53 4 1,
 lo 54 53,
 o0 55 (.aadr 1 4 (.s 4) (iC 2)),
 lo 56 55,
 o0 57 (.call 79 [(.s 52),(iC 5),(.s 54),(iC 2),(.s 56),(.c (.fn 80 []))])] [52,53,54,55,56,57])
 (.seq (.reg [mv 58 3,
 fa 59 5 1,
 lo 60 59,
 o0 61 (.aadr 1 4 (.s 4) (iC 3)),
 lo 62 61,
 o0 63 (.call 82 [(.s 58),(iC 6),(.s 60),(iC 32),(.s 62),(.c (.fn 83 []))])] [58,59,60,61,62,63])
 (.seq (.reg [mv 64 3,
 fa 65 6 1,
 lo 66 65,
 o0 67 (.call 86 [(.s 64),(iC 7),(.s 66),(iC 64),(iC 0),(.c (.fn 87 []))])] [64,65,66,67])
 (.seq (sr [fa 68 7 1,
 lo 69 68,
 mv 70 69,
 ot 71 70 (fd 8 1),
 ot 72 70 (ld 71),
 ot 73 70 (.call 89 [(.s 72)]),
 ot 74 70 (.un .not (.s 73)),
 pF 75 70 74] [68,69,70,71,72,73,74]
 (.cond (.s 75)
 (.reg [mv 76 3,
 o0 77 (.call 90 [(.s 76),(iC 8),(iC 0),(iC 0),(iC 11)])] [76,77])
 .skip))
 (.seq (.reg [mv 78 3,
 fa 79 9 1,
 lo 80 79,
 o0 81 (.call 91 [(.s 78),(iC 9),(.s 80),(iC 16),(iC 0),(.c (.fn 92 []))])] [78,79,80,81])
 (.seq (.reg [mv 82 3,
 fa 83 10 1,
 lo 84 83,
 o0 85 (.call 94 [(.s 82),(iC 10),(.s 84),(iC 16),(iC 0),(.c (.fn 95 []))])] [82,83,84,85])
 (.seq (.reg [mv 86 3,
 fa 87 11 1,
 lo 88 87,
 o0 89 (.call 97 [(.s 86),(iC 11),(.s 88),(iC 8),(iC 0),(.c (.fn 98 []))])] [86,87,88,89])
 (.seq (sr [mv 90 3,
 nk 91 90,
 fa 92 0 91,
 fa 93 3 92,
 lo 94 93,
 bI 95 .eql 94 0] [90,91,92,93,94]
 (.cond (.s 95)
 (.reg [mv 96 3,
 fa 97 2 1,
 lo 98 97,
 fa 99 2 1,
 lo 100 99,
 ln 101 100,
 o0 102 (.call 73 [(.s 96),(iC 12),(.s 98),(.s 101),(iC 0),(.c (.fn 100 []))])] [96,97,98,99,100,101,102])
 .skip))
 (sr [mv 103 3,
 nk 104 103,
 fa 105 0 104,
 lS 106 4 105,
 sT 4 2 106] [103,104,105,106]
 .ret)))))))))))))))))⟩
theorem Tg:aq Tryz.prog 10=some Kj:=by kernel_rfl
abbrev Mv:FuncId:=10
def zl:aF :=
⟨55,2,[.tmp 4],
 (sr [mB 4 false] []
 (sr [mI 5 0] []
 (.seq (sr [mI 6 0] []
 (.block 0 (.loop (.seq (sr [mv 8 6,
 mv 9 0,
 ln 10 9,
 bS 11 .lss 8 10] [8,9,10]
 (.cond (.s 11)
 .skip
 (.exit 0)))
 (.seq (.block 1 (sr [mv 14 5,
 mv 15 0,
 mv 16 6,
 ia 17 1 15 16,
 lo 18 17,
 ln 19 18,
 bS 20 .add 14 19,
 mv 5 20] [14,15,16,17,18,19,20]
 (.seq (sr [mv 21 5,
 mv 22 1,
 bS 23 .gtr 21 22] [21,22]
 (.cond (.s 23)
 (sr [mB 4 false] []
 .ret)
 .skip))
 (sr [mI 7 0] []
 (.block 2 (.loop (.seq (sr [mv 24 7,
 mv 25 0,
 mv 26 6,
 ia 27 1 25 26,
 lo 28 27,
 ln 29 28,
 bS 30 .lss 24 29] [24,25,26,27,28,29]
 (.cond (.s 30)
 .skip
 (.exit 2)))
 (.seq (.block 3 (sr [mv 33 0,
 mv 34 6,
 ia 35 1 33 34,
 lo 36 35,
 mv 37 7,
 ia 38 9 36 37,
 fa 39 8 38,
 lo 40 39,
 ln 41 40,
 bI 42 .gtr 41 100,
 mv 43 42,
 mf 44 0 43,
 mf 45 6 43,
 oF 46 43 (.iadr 1 (.s 44) (.s 45)),
 oF 47 43 (ld 46),
 mf 48 7 43,
 oF 49 43 (.iadr 9 (.s 47) (.s 48)),
 oF 50 43 (fd 7 49),
 oF 51 43 (ld 50),
 oF 52 43 (.len (.s 51)),
 oF 53 43 (.bin .gtr (.s 52) (iC 100)),
 pT 54 43 53] [33,34,35,36,37,38,39,40,41,42,43,44,45,46,47,48,49,50,51,52,53]
 (.cond (.s 54)
 (sr [mB 4 false] []
 .ret)
 .skip)))
 (.reg [mv 31 7,
 bI 32 .add 31 1,
 mv 7 32] [31,32])))))))))
 (.reg [mv 12 6,
 bI 13 .add 12 1,
 mv 6 13] [12,13]))))))
 (sr [mB 4 true] []
 .ret))))⟩
theorem OE:aq Tryz.prog 13=some zl:=by kernel_rfl
abbrev P_:FuncId:=13
def zM:aF :=
⟨10,1,[.cell 2 (some 2)],
 (sr [o0 1 (.box 47 2 (.s 0)),
 o0 2 (.new 47 [.nl,.nl])] []
 (.seq (.seq (.draw [⟨fa 3 0 1,[]⟩,
 ⟨lo 4 3,[0]⟩,
 ⟨c1 5 17 4,[1,0]⟩,
 ⟨fa 6 1 1,[]⟩,
 ⟨lo 7 6,[3]⟩] [(5,2)] [])
 (sr [c1 8 17 7] []
 (sr [o0 9 (.build [.nl,.nl] [(0,1,(.s 5)),(1,1,(.s 8))])] []
 (.reg [sT 2 2 9] [3,4,5,6,7,8,9]))))
 .ret))⟩
theorem Pb:aq Tryz.prog 16=some zM:=by kernel_rfl
abbrev yq:FuncId:=16
def N6:aF :=
⟨8,1,[.tmp 2],
 (sr [o0 2 (.mov (.c .nl))] []
 (.seq (sr [mv 3 0,
 o0 4 (.snl false (.s 3))] [3]
 (.cond (.s 4)
 (sr [o0 2 (.mov (.c .nl))] []
 .ret)
 .skip))
 (sr [o0 5 (.bsl 49 1 [] []),
 mv 6 0,
 o0 7 (.app 49 1 (.s 5) (.s 6)),
 mv 2 7] [5,6,7]
 .ret)))⟩
theorem Vl:aq Tryz.prog 17=some N6:=by kernel_rfl
abbrev Ur:FuncId:=17
def N5:aF :=
⟨8,1,[.tmp 2],
 (sr [o0 2 (.mov (.c .nl))] []
 (.seq (sr [mv 3 0,
 o0 4 (.snl false (.s 3))] [3]
 (.cond (.s 4)
 (sr [o0 2 (.mov (.c .nl))] []
 .ret)
 .skip))
 (sr [o0 5 (.bsl 53 4 [] []),
 mv 6 0,
 o0 7 (.app 53 4 (.s 5) (.s 6)),
 mv 2 7] [5,6,7]
 .ret)))⟩
theorem Vk:aq Tryz.prog 19=some N5:=by kernel_rfl
abbrev Vw:FuncId:=19
def N2:aF :=
⟨8,1,[.tmp 2],
 (sr [o0 2 (.mov (.c .nl))] []
 (.seq (sr [mv 3 0,
 o0 4 (.snl false (.s 3))] [3]
 (.cond (.s 4)
 (sr [o0 2 (.mov (.c .nl))] []
 .ret)
 .skip))
 (sr [o0 5 (.bsl 64 3 [] []),
 mv 6 0,
 o0 7 (.app 64 3 (.s 5) (.s 6)),
 mv 2 7] [5,6,7]
 .ret)))⟩
theorem Vh:aq Tryz.prog 21=some N2:=by kernel_rfl
abbrev Vt:FuncId:=21
def zN:aF :=
⟨12,1,[.cell 2 (some 3)],
 (sr [o0 1 (.box 60 3 (.s 0)),
 o0 2 (.new 60 [(.int .i64 0),.nl,.nl])] []
 (.seq (.seq (.draw [⟨fa 3 0 1,[]⟩,
 ⟨lo 4 3,[0]⟩,
 ⟨fa 5 1 1,[]⟩,
 ⟨lo 6 5,[2]⟩,
 ⟨c1 7 17 6,[3,2]⟩,
 ⟨fa 8 2 1,[]⟩,
 ⟨lo 9 8,[5]⟩,
 ⟨c1 10 24 9,[6,5,4,3,2]⟩] [(7,4),(10,7)] [])
 (sr [o0 11 (.build [(.int .i64 0),.nl,.nl] [(0,1,(.s 4)),(1,1,(.s 7)),(2,1,(.s 10))])] []
 (.reg [sT 3 2 11] [3,4,5,6,7,8,9,10,11])))
 .ret))⟩
theorem Pc:aq Tryz.prog 23=some zN:=by kernel_rfl
abbrev yr:FuncId:=23
def sa:aF :=
⟨5,1,[.tmp 2],
 (sr [o0 2 (.mov (.c .nl))] []
 (.seq (.reg [mv 3 0,
 o0 4 (.call 103 [(.s 3),(.c (.fn 104 []))]),
 mv 2 4] [3,4])
 .ret))⟩
theorem Jd:aq Tryz.prog 24=some sa:=by kernel_rfl
abbrev qA:FuncId:=24
def zO:aF :=
⟨9,1,[.cell 2 (some 3)],
 (sr [o0 1 (.box 62 3 (.s 0)),
 o0 2 (.new 62 [(.int .i64 0),(.bool false),.nl])] []
 (.seq (.seq (.draw [⟨fa 3 0 1,[]⟩,
 ⟨lS 4 2 3,[0]⟩,
 ⟨fa 5 2 1,[]⟩,
 ⟨lo 6 5,[2]⟩,
 ⟨c1 7 24 6,[3,2]⟩] [(7,4)] [])
 (sr [o0 8 (.build [(.int .i64 0),(.bool false),.nl] [(0,2,(.s 4)),(2,1,(.s 7))])] []
 (.reg [sT 3 2 8] [3,4,5,6,7,8])))
 .ret))⟩
theorem Pd:aq Tryz.prog 26=some zO:=by kernel_rfl
abbrev yt:FuncId:=26
def zG:aF :=
⟨22,2,[.tmp 4],
 (sr [o0 4 (.mov (.c .nl))] []
 (sr [o0 5 (.mov (.c .nl))] []
 (.seq (sr [mv 8 0,
 ln 9 8,
 mI 10 0] []
 (.block 0 (.loop (sr [bS 11 .lss 10 9] []
 (.seq (.cond (.s 11)
 .skip
 (.exit 0))
 (.seq (.block 1 (sr [ia 12 5 8 10,
 lS 13 5 12,
 o0 7 (.new 66 [(.int .i64 0),(.int .i64 0),.nl,(.int .i64 0),.nl]),
 sT 5 7 13] [12,13]
 (.reg [mv 14 5,
 mv 15 1,
 lS 16 5 7,
 o0 17 (.callv (.s 15) [(.s 16)]),
 o0 18 (.bsl 66 5 [[(.int .i64 0),(.int .i64 0),.nl,(.int .i64 0),.nl]] [(0,(.s 17))]),
 o0 19 (.app 66 5 (.s 14) (.s 18)),
 mv 5 19] [14,15,16,17,18,19])))
 (.reg [bI 20 .add 10 1,
 mv 10 20] [20])))))))
 (sr [mv 21 5,
 mv 4 21] [21]
 .ret))))⟩
theorem O_:aq Tryz.prog 27=some zG:=by kernel_rfl
abbrev QF:FuncId:=27
def zF:aF :=
⟨22,2,[.tmp 4],
 (sr [o0 4 (.mov (.c .nl))] []
 (sr [o0 5 (.mov (.c .nl))] []
 (.seq (sr [mv 8 0,
 ln 9 8,
 mI 10 0] []
 (.block 0 (.loop (sr [bS 11 .lss 10 9] []
 (.seq (.cond (.s 11)
 .skip
 (.exit 0))
 (.seq (.block 1 (sr [ia 12 4 8 10,
 lS 13 4 12,
 o0 7 (.new 69 [(.int .i64 0),(.int .i64 0),.nl,.nl]),
 sT 4 7 13] [12,13]
 (.reg [mv 14 5,
 mv 15 1,
 lS 16 4 7,
 o0 17 (.callv (.s 15) [(.s 16)]),
 o0 18 (.bsl 69 4 [[(.int .i64 0),(.int .i64 0),.nl,.nl]] [(0,(.s 17))]),
 o0 19 (.app 69 4 (.s 14) (.s 18)),
 mv 5 19] [14,15,16,17,18,19])))
 (.reg [bI 20 .add 10 1,
 mv 10 20] [20])))))))
 (sr [mv 21 5,
 mv 4 21] [21]
 .ret))))⟩
theorem O9:aq Tryz.prog 30=some zF:=by kernel_rfl
abbrev QE:FuncId:=30
def zm:aF :=
⟨8,1,[.tmp 2],
 (sr [o0 2 (.mov (.c .nl))] []
 (.seq (sr [mv 3 0,
 o0 4 (.snl false (.s 3))] [3]
 (.cond (.s 4)
 (sr [o0 2 (.mov (.c .nl))] []
 .ret)
 .skip))
 (sr [o0 5 (.bsl 5 1 [] []),
 mv 6 0,
 o0 7 (.app 5 1 (.s 5) (.s 6)),
 mv 2 7] [5,6,7]
 .ret)))⟩
theorem OF:aq Tryz.prog 32=some zm:=by kernel_rfl
abbrev Mr:FuncId:=32
def zB:aF :=
⟨22,2,[.tmp 4],
 (sr [o0 4 (.mov (.c .nl))] []
 (sr [o0 5 (.mov (.c .nl))] []
 (.seq (sr [mv 8 0,
 ln 9 8,
 mI 10 0] []
 (.block 0 (.loop (sr [bS 11 .lss 10 9] []
 (.seq (.cond (.s 11)
 .skip
 (.exit 0))
 (.seq (.block 1 (.seq (.reg [ia 12 3 8 10,
 lS 13 3 12,
 o0 7 (.new 71 [(.int .i64 0),(.str []),.nl]),
 sT 3 7 13] [12,13])
 (.reg [mv 14 5,
 mv 15 1,
 lS 16 3 7,
 o0 17 (.callv (.s 15) [(.s 16)]),
 o0 18 (.bsl 71 3 [[(.int .i64 0),(.str []),.nl]] [(0,(.s 17))]),
 o0 19 (.app 71 3 (.s 14) (.s 18)),
 mv 5 19] [14,15,16,17,18,19])))
 (.reg [bI 20 .add 10 1,
 mv 10 20] [20])))))))
 (sr [mv 21 5,
 mv 4 21] [21]
 .ret))))⟩
theorem O5:aq Tryz.prog 33=some zB:=by kernel_rfl
abbrev Qu:FuncId:=33
def E9:aF :=
⟨26,2,[.tmp 4],
 (sr [mB 4 false] []
 (.seq (sr [mv 6 0,
 ln 7 6,
 mv 8 1,
 ln 9 8,
 bS 10 .neq 7 9] [6,7,8,9]
 (.cond (.s 10)
 (sr [mB 4 false] []
 .ret)
 .skip))
 (.seq (sr [mI 5 0] []
 (.block 0 (.loop (.seq (sr [mv 11 5,
 mv 12 0,
 ln 13 12,
 bS 14 .lss 11 13] [11,12,13]
 (.cond (.s 14)
 .skip
 (.exit 0)))
 (.seq (.block 1 (.seq (.seq (.draw [⟨mv 17 0,[]⟩,
 ⟨mv 18 5,[]⟩,
 ⟨ia 19 13 17 18,[0,1]⟩,
 ⟨lS 20 13 19,[2,0,1]⟩,
 ⟨mv 21 1,[]⟩,
 ⟨mv 22 5,[]⟩,
 ⟨ia 23 13 21 22,[4,5]⟩,
 ⟨lS 24 13 23,[6,4,5]⟩] [] [])
 (.reg [o0 25 (.sbin .neq [.s,.s,.i,.i,.i,.i,.i,.b,.i,.i,.b,.i,.b] (.s 20) (.s 24))] [17,18,19,20,21,22,23,24]))
 (.cond (.s 25)
 (sr [mB 4 false] []
 .ret)
 .skip)))
 (.reg [mv 15 5,
 bI 16 .add 15 1,
 mv 5 16] [15,16]))))))
 (sr [mB 4 true] []
 .ret))))⟩
theorem SD:aq Tryz.prog 36=some E9:=by kernel_rfl
abbrev Ug:FuncId:=36
def E8:aF :=
⟨42,2,[.tmp 4],
 (sr [mB 4 false] []
 (.seq (sr [mv 6 0,
 ln 7 6,
 mv 8 1,
 ln 9 8,
 bS 10 .neq 7 9] [6,7,8,9]
 (.cond (.s 10)
 (sr [mB 4 false] []
 .ret)
 .skip))
 (.seq (sr [mI 5 0] []
 (.block 0 (.loop (.seq (sr [mv 11 5,
 mv 12 0,
 ln 13 12,
 bS 14 .lss 11 13] [11,12,13]
 (.cond (.s 14)
 .skip
 (.exit 0)))
 (.seq (.block 1 (.seq (.seq (.draw [⟨mv 17 0,[]⟩,
 ⟨mv 18 5,[]⟩,
 ⟨ia 19 3 17 18,[0,1]⟩,
 ⟨fa 20 0 19,[2,0,1]⟩,
 ⟨lS 21 2 20,[3,2,0,1]⟩,
 ⟨mv 22 1,[]⟩,
 ⟨mv 23 5,[]⟩,
 ⟨ia 24 3 22 23,[5,6]⟩,
 ⟨fa 25 0 24,[7,5,6]⟩,
 ⟨lS 26 2 25,[8,7,5,6]⟩] [] [])
 (sr [o0 27 (.sbin .neq [.i,.b] (.s 21) (.s 26))] []
 (sr [mv 28 27] []
 (.seq (.draw [⟨mf 29 0 28,[]⟩,
 ⟨mf 30 5 28,[]⟩,
 ⟨oF 31 28 (.iadr 3 (.s 29) (.s 30)),[0,1]⟩,
 ⟨oF 32 28 (fd 2 31),[2,0,1]⟩,
 ⟨oF 33 28 (ld 32),[3,2,0,1]⟩,
 ⟨mf 34 1 28,[]⟩,
 ⟨mf 35 5 28,[]⟩,
 ⟨oF 36 28 (.iadr 3 (.s 34) (.s 35)),[5,6]⟩,
 ⟨oF 37 28 (fd 2 36),[7,5,6]⟩,
 ⟨oF 38 28 (ld 37),[8,7,5,6]⟩] [] [])
 (sr [oF 39 28 (.call 108 [(.s 33),(.s 38)])] []
 (sr [oF 40 28 (.un .not (.s 39))] []
 (.reg [pT 41 28 40] [17,18,19,20,21,22,23,24,25,26,27,28,29,30,31,32,33,34,35,36,37,38,39,40])))))))
 (.cond (.s 41)
 (sr [mB 4 false] []
 .ret)
 .skip)))
 (.reg [mv 15 5,
 bI 16 .add 15 1,
 mv 5 16] [15,16]))))))
 (sr [mB 4 true] []
 .ret))))⟩
theorem SC:aq Tryz.prog 39=some E8:=by kernel_rfl
abbrev Uf:FuncId:=39
def Fb:aF :=
⟨83,2,[.tmp 4],
 (sr [mB 4 false] []
 (.seq (sr [mv 9 0,
 ln 10 9,
 mv 11 1,
 ln 12 11,
 bS 13 .neq 10 12] [9,10,11,12]
 (.cond (.s 13)
 (sr [mB 4 false] []
 .ret)
 .skip))
 (.seq (sr [mI 5 0] []
 (.block 0 (.loop (.seq (sr [mv 14 5,
 mv 15 0,
 ln 16 15,
 bS 17 .lss 14 16] [14,15,16]
 (.cond (.s 17)
 .skip
 (.exit 0)))
 (.seq (.block 1 (.seq (.seq (.draw [⟨mv 20 0,[]⟩,
 ⟨mv 21 5,[]⟩,
 ⟨ia 22 5 20 21,[0,1]⟩,
 ⟨lS 23 5 22,[2,0,1]⟩,
 ⟨mv 24 1,[]⟩,
 ⟨mv 25 5,[]⟩,
 ⟨ia 26 5 24 25,[4,5]⟩,
 ⟨lS 27 5 26,[6,4,5]⟩,
 ⟨o0 6 (.new 66 [(.int .i64 0),(.int .i64 0),.nl,(.int .i64 0),.nl]),[]⟩,
 ⟨o0 7 (.new 66 [(.int .i64 0),(.int .i64 0),.nl,(.int .i64 0),.nl]),[]⟩,
 ⟨sT 5 6 23,[8,3,2,0,1,9]⟩] [(6,8),(7,9)] [])
 (.reg [sT 5 7 27] [20,21,22,23,24,25,26,27]))
 (.seq (sr [fa 28 0 6,
 lo 29 28,
 fa 30 0 7,
 lo 31 30,
 bS 32 .neq 29 31,
 mv 33 32,
 oF 34 33 (fd 1 6),
 oF 35 33 (ld 34),
 oF 36 33 (fd 1 7),
 oF 37 33 (ld 36),
 oF 38 33 (.bin .neq (.s 35) (.s 37)),
 pT 39 33 38,
 mv 40 39,
 oF 41 40 (fd 3 6),
 oF 42 40 (ld 41),
 oF 43 40 (fd 3 7),
 oF 44 40 (ld 43),
 oF 45 40 (.bin .neq (.s 42) (.s 44)),
 pT 46 40 45,
 mv 47 46,
 oF 48 47 (fd 2 6),
 oF 49 47 (ld 48),
 oF 50 47 (fd 2 7),
 oF 51 47 (ld 50),
 oF 52 47 (.call 108 [(.s 49),(.s 51)]),
 oF 53 47 (.un .not (.s 52)),
 pT 54 47 53,
 mv 55 54,
 oF 56 55 (fd 4 6),
 oF 57 55 (ld 56),
 oF 58 55 (.len (.s 57)),
 oF 59 55 (fd 4 7),
 oF 60 55 (ld 59),
 oF 61 55 (.len (.s 60)),
 oF 62 55 (.bin .neq (.s 58) (.s 61)),
 pT 63 55 62] [28,29,30,31,32,33,34,35,36,37,38,39,40,41,42,43,44,45,46,47,48,49,50,51,52,53,54,55,56,57,58,59,60,61,62]
 (.cond (.s 63)
 (sr [mB 4 false] []
 .ret)
 .skip))
 (sr [mI 8 0] []
 (.block 2 (.loop (.seq (sr [mv 64 8,
 fa 65 4 6,
 lo 66 65,
 ln 67 66,
 bS 68 .lss 64 67] [64,65,66,67]
 (.cond (.s 68)
 .skip
 (.exit 2)))
 (.seq (.block 3 (.seq (.seq (.draw [⟨fa 71 4 6,[]⟩,
 ⟨lo 72 71,[0]⟩,
 ⟨mv 73 8,[]⟩,
 ⟨ia 74 1 72 73,[1,0,2]⟩,
 ⟨lo 75 74,[3,1,0,2]⟩,
 ⟨fa 76 4 7,[]⟩,
 ⟨lo 77 76,[5]⟩,
 ⟨mv 78 8,[]⟩,
 ⟨ia 79 1 77 78,[6,5,7]⟩,
 ⟨lo 80 79,[8,6,5,7]⟩] [] [])
 (sr [c2 81 108 75 80] []
 (.reg [uN 82 81] [71,72,73,74,75,76,77,78,79,80,81])))
 (.cond (.s 82)
 (sr [mB 4 false] []
 .ret)
 .skip)))
 (.reg [mv 69 8,
 bI 70 .add 69 1,
 mv 8 70] [69,70])))))))))
 (.reg [mv 18 5,
 bI 19 .add 18 1,
 mv 5 19] [18,19]))))))
 (sr [mB 4 true] []
 .ret))))⟩
theorem SJ:aq Tryz.prog 41=some Fb:=by kernel_rfl
abbrev Ul:FuncId:=41
def zu:aF :=
⟨8,2,[.tmp 4],
 (sr [mB 4 false] []
 (.seq (.reg [mv 5 0,
 mv 6 1,
 o0 7 (.call 110 [(.s 5),(.s 6),(.c (.fn 111 []))]),
 mv 4 7] [5,6,7])
 .ret))⟩
theorem OW:aq Tryz.prog 46=some zu:=by kernel_rfl
abbrev Jt:FuncId:=46
def ET:aF :=
⟨30,3,[.tmp 6],
 (sr [mB 6 false] []
 (.seq (sr [mv 8 0,
 ln 9 8,
 mv 10 1,
 ln 11 10,
 bS 12 .neq 9 11] [8,9,10,11]
 (.cond (.s 12)
 (sr [mB 6 false] []
 .ret)
 .skip))
 (.seq (sr [mv 13 0,
 ln 14 13,
 mI 15 0] [13]
 (.block 0 (.loop (sr [bS 16 .lss 15 14] []
 (.seq (.cond (.s 16)
 .skip
 (.exit 0))
 (.seq (.block 1 (sr [mv 17 15,
 mv 7 17] [17]
 (.seq (.seq (.draw [⟨mv 18 2,[]⟩,
 ⟨mv 19 0,[]⟩,
 ⟨mv 20 7,[]⟩,
 ⟨ia 21 1 19 20,[1,2]⟩,
 ⟨lo 22 21,[3,1,2]⟩,
 ⟨mv 23 1,[]⟩,
 ⟨mv 24 7,[]⟩,
 ⟨ia 25 1 23 24,[5,6]⟩,
 ⟨lo 26 25,[7,5,6]⟩] [] [])
 (sr [o0 27 (.callv (.s 18) [(.s 22),(.s 26)])] []
 (.reg [uN 28 27] [18,19,20,21,22,23,24,25,26,27])))
 (.cond (.s 28)
 (sr [mB 6 false] []
 .ret)
 .skip))))
 (.reg [bI 29 .add 15 1,
 mv 15 29] [29])))))))
 (sr [mB 6 true] []
 .ret))))⟩
theorem Sh:aq Tryz.prog 49=some ET:=by kernel_rfl
abbrev TZ:FuncId:=49
def wI:aF :=
⟨26,2,[.tmp 4],
 (sr [o0 2 (.box 71 3 (.s 0)),
 o0 3 (.box 71 3 (.s 1)),
 mB 4 false] []
 (sr [fa 5 0 2,
 lo 6 5,
 fa 7 0 3,
 lo 8 7,
 bS 9 .eql 6 8,
 mv 10 9,
 ot 11 10 (fd 1 2),
 ot 12 10 (ld 11),
 ot 13 10 (fd 1 3),
 ot 14 10 (ld 13),
 ot 15 10 (.bin .eql (.s 12) (.s 14)),
 pF 16 10 15,
 mv 17 16,
 ot 18 17 (fd 2 2),
 ot 19 17 (ld 18),
 ot 20 17 (.cvs (.s 19)),
 ot 21 17 (fd 2 3),
 ot 22 17 (ld 21),
 ot 23 17 (.cvs (.s 22)),
 ot 24 17 (.bin .eql (.s 20) (.s 23)),
 pF 25 17 24,
 mv 4 25] [5,6,7,8,9,10,11,12,13,14,15,16,17,18,19,20,21,22,23,24,25]
 .ret))⟩
theorem Tl:aq Tryz.prog 51=some wI:=by kernel_rfl
abbrev Q1:FuncId:=51
def EW:aF :=
⟨30,3,[.tmp 6],
 (sr [mB 6 false] []
 (.seq (sr [mv 8 0,
 ln 9 8,
 mv 10 1,
 ln 11 10,
 bS 12 .neq 9 11] [8,9,10,11]
 (.cond (.s 12)
 (sr [mB 6 false] []
 .ret)
 .skip))
 (.seq (sr [mv 13 0,
 ln 14 13,
 mI 15 0] [13]
 (.block 0 (.loop (sr [bS 16 .lss 15 14] []
 (.seq (.cond (.s 16)
 .skip
 (.exit 0))
 (.seq (.block 1 (sr [mv 17 15,
 mv 7 17] [17]
 (.seq (.seq (.draw [⟨mv 18 2,[]⟩,
 ⟨mv 19 0,[]⟩,
 ⟨mv 20 7,[]⟩,
 ⟨ia 21 13 19 20,[1,2]⟩,
 ⟨lS 22 13 21,[3,1,2]⟩,
 ⟨mv 23 1,[]⟩,
 ⟨mv 24 7,[]⟩,
 ⟨ia 25 13 23 24,[5,6]⟩,
 ⟨lS 26 13 25,[7,5,6]⟩] [] [])
 (sr [o0 27 (.callv (.s 18) [(.s 22),(.s 26)])] []
 (.reg [uN 28 27] [18,19,20,21,22,23,24,25,26,27])))
 (.cond (.s 28)
 (sr [mB 6 false] []
 .ret)
 .skip))))
 (.reg [bI 29 .add 15 1,
 mv 15 29] [29])))))))
 (sr [mB 6 true] []
 .ret))))⟩
theorem Sk:aq Tryz.prog 54=some EW:=by kernel_rfl
abbrev T4:FuncId:=54
def JV:aF :=
⟨8,2,[.tmp 4],
 (sr [o0 2 (.box 53 4 (.s 0)),
 o0 3 (.box 53 4 (.s 1)),
 mB 4 false] []
 (sr [lS 5 4 2,
 lS 6 4 3,
 o0 7 (.sbin .eql [.i,.i,.i,.b] (.s 5) (.s 6)),
 mv 4 7] [5,6,7]
 .ret))⟩
theorem Sc:aq Tryz.prog 58=some JV:=by kernel_rfl
abbrev Qv:FuncId:=58
def EX:aF :=
⟨30,3,[.tmp 6],
 (sr [mB 6 false] []
 (.seq (sr [mv 8 0,
 ln 9 8,
 mv 10 1,
 ln 11 10,
 bS 12 .neq 9 11] [8,9,10,11]
 (.cond (.s 12)
 (sr [mB 6 false] []
 .ret)
 .skip))
 (.seq (sr [mv 13 0,
 ln 14 13,
 mI 15 0] [13]
 (.block 0 (.loop (sr [bS 16 .lss 15 14] []
 (.seq (.cond (.s 16)
 .skip
 (.exit 0))
 (.seq (.block 1 (sr [mv 17 15,
 mv 7 17] [17]
 (.seq (.seq (.draw [⟨mv 18 2,[]⟩,
 ⟨mv 19 0,[]⟩,
 ⟨mv 20 7,[]⟩,
 ⟨ia 21 3 19 20,[1,2]⟩,
 ⟨lS 22 3 21,[3,1,2]⟩,
 ⟨mv 23 1,[]⟩,
 ⟨mv 24 7,[]⟩,
 ⟨ia 25 3 23 24,[5,6]⟩,
 ⟨lS 26 3 25,[7,5,6]⟩] [] [])
 (sr [o0 27 (.callv (.s 18) [(.s 22),(.s 26)])] []
 (.reg [uN 28 27] [18,19,20,21,22,23,24,25,26,27])))
 (.cond (.s 28)
 (sr [mB 6 false] []
 .ret)
 .skip))))
 (.reg [bI 29 .add 15 1,
 mv 15 29] [29])))))))
 (sr [mB 6 true] []
 .ret))))⟩
theorem Sl:aq Tryz.prog 59=some EX:=by kernel_rfl
abbrev T5:FuncId:=59
def JS:aF :=
⟨8,2,[.tmp 4],
 (sr [o0 2 (.box 64 3 (.s 0)),
 o0 3 (.box 64 3 (.s 1)),
 mB 4 false] []
 (sr [lS 5 3 2,
 lS 6 3 3,
 o0 7 (.sbin .eql [.s,.i,.i] (.s 5) (.s 6)),
 mv 4 7] [5,6,7]
 .ret))⟩
theorem R9:aq Tryz.prog 63=some JS:=by kernel_rfl
abbrev Qf:FuncId:=63
def E2:aF :=
⟨30,3,[.tmp 6],
 (sr [mB 6 false] []
 (.seq (sr [mv 8 0,
 ln 9 8,
 mv 10 1,
 ln 11 10,
 bS 12 .neq 9 11] [8,9,10,11]
 (.cond (.s 12)
 (sr [mB 6 false] []
 .ret)
 .skip))
 (.seq (sr [mv 13 0,
 ln 14 13,
 mI 15 0] [13]
 (.block 0 (.loop (sr [bS 16 .lss 15 14] []
 (.seq (.cond (.s 16)
 .skip
 (.exit 0))
 (.seq (.block 1 (sr [mv 17 15,
 mv 7 17] [17]
 (.seq (.seq (.draw [⟨mv 18 2,[]⟩,
 ⟨mv 19 0,[]⟩,
 ⟨mv 20 7,[]⟩,
 ⟨ia 21 4 19 20,[1,2]⟩,
 ⟨lS 22 4 21,[3,1,2]⟩,
 ⟨mv 23 1,[]⟩,
 ⟨mv 24 7,[]⟩,
 ⟨ia 25 4 23 24,[5,6]⟩,
 ⟨lS 26 4 25,[7,5,6]⟩] [] [])
 (sr [o0 27 (.callv (.s 18) [(.s 22),(.s 26)])] []
 (.reg [uN 28 27] [18,19,20,21,22,23,24,25,26,27])))
 (.cond (.s 28)
 (sr [mB 6 false] []
 .ret)
 .skip))))
 (.reg [bI 29 .add 15 1,
 mv 15 29] [29])))))))
 (sr [mB 6 true] []
 .ret))))⟩
theorem Sw:aq Tryz.prog 65=some E2:=by kernel_rfl
abbrev T_:FuncId:=65
def J3:aF :=
⟨8,2,[.tmp 4,.tmp 5],
 (sr [o0 3 (.box 47 2 (.s 1)),
 mI 4 0,
 mI 5 0] []
 (sr [lS 6 2 3,
 c1 7 69 6,
 mI 4 0,
 mv 5 7] [6,7]
 .ret))⟩
theorem SS:aq Tryz.prog 68=some J3:=by kernel_rfl
abbrev QM:FuncId:=68
def RN:aF :=
⟨56,6,[],
 (.seq (sr [mv 16 2,
 ln 17 16,
 mv 18 4,
 bS 19 .add 17 18,
 mv 20 3,
 bS 21 .gtr 19 20] [16,17,18,19,20]
 (.cond (.s 21)
 (.reg [mv 22 0,
 mv 23 1,
 mv 24 3,
 mv 25 4,
 bS 26 .sub 24 25,
 o0 27 (.mnx true (iC 0) (.s 26)),
 o0 28 (.call 90 [(.s 22),(.s 23),(.s 27),(iC 0),(iC 6)])] [22,23,24,25,26,27,28])
 .skip))
 (sr [mv 29 2,
 ln 30 29,
 mI 31 0] []
 (.block 0 (.loop (sr [bS 32 .lss 31 30] []
 (.seq (.cond (.s 32)
 .skip
 (.exit 0))
 (.seq (.block 1 (.seq (.reg [mv 33 31,
 ia 34 13 29 31,
 lS 35 13 34,
 o0 13 (.new 57 [(.str []),(.str []),(.int .i64 0),(.int .i64 0),(.int .i64 0),(.int .i64 0),(.int .i64 0),(.bool false),(.int .i64 0),(.int .i64 0),(.bool false),(.int .i64 0),(.bool false)]),
 mv 12 33,
 sT 13 13 35] [33,34,35])
 (.seq (sr [mv 36 0,
 nk 37 36,
 fa 38 0 37,
 fa 39 3 38,
 lo 40 39,
 bI 41 .neq 40 0] [36,37,38,39,40]
 (cR 41))
 (sr [mv 43 5,
 mv 44 12,
 lS 45 13 13,
 o0 46 (.callv (.s 43) [(.s 44),(.s 45)]),
 mv 42 46,
 xt 47 42 0,
 xt 48 42 1,
 mv 14 47,
 mv 15 48] [43,44,45,46,42,47,48]
 (.reg [mv 49 0,
 mv 50 1,
 mv 51 12,
 mv 52 14,
 mv 53 15,
 o0 54 (.call 90 [(.s 49),(.s 50),(.s 51),(.s 52),(.s 53)])] [49,50,51,52,53,54])))))
 (.reg [bI 55 .add 31 1,
 mv 31 55] [55]))))))))⟩
theorem Sf:aq Tryz.prog 70=some RN:=by kernel_rfl
abbrev Qy:FuncId:=70
def J5:aF :=
⟨8,2,[.tmp 4,.tmp 5],
 (sr [o0 3 (.box 60 3 (.s 1)),
 mI 4 0,
 mI 5 0] []
 (sr [lS 6 3 3,
 c1 7 75 6,
 mI 4 0,
 mv 5 7] [6,7]
 .ret))⟩
theorem SU:aq Tryz.prog 74=some J5:=by kernel_rfl
abbrev QO:FuncId:=74
def zt:aF :=
⟨18,1,[.tmp 2],
 (sr [o0 1 (.box 60 3 (.s 0)),
 mI 2 0] []
 (.seq (.block 0 (sr [fa 4 0 1,
 lo 5 4,
 c1 6 89 5,
 uN 7 6,
 mv 3 7] [4,5,6,7]
 (.cond (.s 3)
 (sr [mI 2 11] []
 .ret)
 (sr [fa 9 1 1,
 lo 10 9,
 ln 11 10,
 bI 12 .gtr 11 64,
 mv 8 12] [9,10,11,12]
 (.cond (.s 8)
 (sr [mI 2 6] []
 .ret)
 (sr [fa 14 1 1,
 lo 15 14,
 c1 16 112 15,
 uN 17 16,
 mv 13 17] [14,15,16,17]
 (.cond (.s 13)
 (sr [mI 2 12] []
 .ret)
 .skip)))))))
 (sr [mI 2 0] []
 .ret)))⟩
theorem OS:aq Tryz.prog 75=some zt:=by kernel_rfl
abbrev Qh:FuncId:=75
def J6:aF :=
⟨8,2,[.tmp 4,.tmp 5],
 (sr [o0 3 (.box 53 4 (.s 1)),
 mI 4 0,
 mI 5 0] []
 (sr [lS 6 4 3,
 c1 7 78 6,
 mI 4 0,
 mv 5 7] [6,7]
 .ret))⟩
theorem SV:aq Tryz.prog 77=some J6:=by kernel_rfl
abbrev QP:FuncId:=77
def zp:aF :=
⟨13,1,[.tmp 2],
 (sr [o0 1 (.box 53 4 (.s 0)),
 mI 2 0] []
 (.seq (.block 0 (sr [fa 4 0 1,
 lo 5 4,
 c1 6 115 5,
 uN 7 6,
 mv 3 7] [4,5,6,7]
 (.cond (.s 3)
 (sr [mI 2 12] []
 .ret)
 (sr [fa 9 1 1,
 lS 10 3 9,
 o0 11 (.call 116 [(.s 10),(iC 1024)]),
 uN 12 11,
 mv 8 12] [9,10,11,12]
 (.cond (.s 8)
 (sr [mI 2 20] []
 .ret)
 .skip)))))
 (sr [mI 2 0] []
 .ret)))⟩
theorem OJ:aq Tryz.prog 78=some zp:=by kernel_rfl
abbrev Qb:FuncId:=78
def J7:aF :=
⟨8,2,[.tmp 4,.tmp 5],
 (sr [o0 3 (.box 51 3 (.s 1)),
 mI 4 0,
 mI 5 0] []
 (sr [lS 6 3 3,
 c1 7 81 6,
 mI 4 0,
 mv 5 7] [6,7]
 .ret))⟩
theorem SW:aq Tryz.prog 80=some J7:=by kernel_rfl
abbrev QQ:FuncId:=80
def zh:aF :=
⟨6,1,[.tmp 2],
 (sr [o0 1 (.box 51 3 (.s 0)),
 mI 2 0] []
 (.seq (sr [lS 3 3 1,
 o0 4 (.call 116 [(.s 3),(iC 256)]),
 uN 5 4] [3,4]
 (.cond (.s 5)
 (sr [mI 2 20] []
 .ret)
 .skip))
 (sr [mI 2 0] []
 .ret)))⟩
theorem Oy:aq Tryz.prog 81=some zh:=by kernel_rfl
abbrev P7:FuncId:=81
def J8:aF :=
⟨18,2,[.tmp 4,.tmp 5],
 (sr [o0 3 (.box 62 3 (.s 1)),
 mI 4 0,
 mI 5 0] []
 (.seq (sr [fa 7 0 3,
 lS 8 2 7,
 c1 9 84 8,
 mv 6 9] [7,8,9]
 (sr [mv 10 6,
 bI 11 .neq 10 0] [10]
 (.cond (.s 11)
 (sr [mv 12 6,
 mI 4 0,
 mv 5 12] [12]
 .ret)
 .skip)))
 (sr [fa 13 2 3,
 lo 14 13,
 c1 15 85 14,
 xt 16 15 0,
 xt 17 15 1,
 mv 4 16,
 mv 5 17] [13,14,15,16,17]
 .ret)))⟩
theorem SX:aq Tryz.prog 83=some J8:=by kernel_rfl
abbrev QR:FuncId:=83
def vF:aF :=
⟨28,1,[.tmp 2,.tmp 3],
 (sr [mI 2 0,
 mI 3 0] []
 (.seq (sr [mv 6 0,
 ln 7 6,
 bI 8 .gtr 7 2048] [6,7]
 (.cond (.s 8)
 (sr [mI 2 2048,
 mI 3 6] []
 .ret)
 .skip))
 (.seq (sr [mv 9 0,
 ln 10 9,
 mI 11 0] []
 (.block 0 (.loop (sr [bS 12 .lss 11 10] []
 (.seq (.cond (.s 12)
 .skip
 (.exit 0))
 (.seq (.block 1 (sr [mv 13 11,
 ia 14 9 9 11,
 lS 15 9 14,
 o0 5 (.new 79 [(.int .i64 0),(.int .i64 0),(.int .i64 0),(.int .u64 0),(.int .i64 0),(.int .i64 0),(.int .i64 0),.nl,.nl]),
 mv 4 13,
 sT 9 5 15] [13,14,15]
 (.block 2 (sr [lS 17 9 5,
 c1 18 118 17,
 uN 19 18,
 mv 16 19] [17,18,19]
 (.cond (.s 16)
 (sr [mv 20 4,
 mv 2 20,
 mI 3 10] [20]
 .ret)
 (sr [fa 22 8 5,
 lo 23 22,
 ln 24 23,
 bI 25 .gtr 24 64,
 mv 21 25] [22,23,24,25]
 (.cond (.s 21)
 (sr [mv 26 4,
 mv 2 26,
 mI 3 6] [26]
 .ret)
 .skip)))))))
 (.reg [bI 27 .add 11 1,
 mv 11 27] [27])))))))
 (sr [mI 2 0,
 mI 3 0] []
 .ret))))⟩
theorem O3:aq Tryz.prog 85=some vF:=by kernel_rfl
abbrev Ju:FuncId:=85
def vA:aF :=
⟨9,1,[.tmp 2],
 (sr [mB 2 false] []
 (sr [mv 3 0,
 bI 4 .geq 3 0,
 mv 5 4,
 mt 6 0 5,
 ot 7 5 (.bin .lss (.s 6) (iC 4294967296)),
 pF 8 5 7,
 mv 2 8] [3,4,5,6,7,8]
 .ret))⟩
theorem OI:aq Tryz.prog 89=some vA:=by kernel_rfl
abbrev Qa:FuncId:=89
def RS:aF :=
⟨56,6,[],
 (.seq (sr [mv 16 2,
 ln 17 16,
 mv 18 4,
 bS 19 .add 17 18,
 mv 20 3,
 bS 21 .gtr 19 20] [16,17,18,19,20]
 (.cond (.s 21)
 (.reg [mv 22 0,
 mv 23 1,
 mv 24 3,
 mv 25 4,
 bS 26 .sub 24 25,
 o0 27 (.mnx true (iC 0) (.s 26)),
 o0 28 (.call 90 [(.s 22),(.s 23),(.s 27),(iC 0),(iC 6)])] [22,23,24,25,26,27,28])
 .skip))
 (sr [mv 29 2,
 ln 30 29,
 mI 31 0] []
 (.block 0 (.loop (sr [bS 32 .lss 31 30] []
 (.seq (.cond (.s 32)
 .skip
 (.exit 0))
 (.seq (.block 1 (sr [mv 33 31,
 ia 34 5 29 31,
 lS 35 5 34,
 o0 13 (.new 66 [(.int .i64 0),(.int .i64 0),.nl,(.int .i64 0),.nl]),
 mv 12 33,
 sT 5 13 35] [33,34,35]
 (.seq (sr [mv 36 0,
 nk 37 36,
 fa 38 0 37,
 fa 39 3 38,
 lo 40 39,
 bI 41 .neq 40 0] [36,37,38,39,40]
 (cR 41))
 (sr [mv 43 5,
 mv 44 12,
 lS 45 5 13,
 o0 46 (.callv (.s 43) [(.s 44),(.s 45)]),
 mv 42 46,
 xt 47 42 0,
 xt 48 42 1,
 mv 14 47,
 mv 15 48] [43,44,45,46,42,47,48]
 (.reg [mv 49 0,
 mv 50 1,
 mv 51 12,
 mv 52 14,
 mv 53 15,
 o0 54 (.call 90 [(.s 49),(.s 50),(.s 51),(.s 52),(.s 53)])] [49,50,51,52,53,54])))))
 (.reg [bI 55 .add 31 1,
 mv 31 55] [55]))))))))⟩
theorem Ss:aq Tryz.prog 91=some RS:=by kernel_rfl
abbrev QI:FuncId:=91
def Ka:aF :=
⟨10,2,[.tmp 4,.tmp 5],
 (sr [o0 3 (.box 69 4 (.s 1)),
 mI 4 0,
 mI 5 0] []
 (sr [lS 6 4 3,
 c1 7 96 6,
 xt 8 7 0,
 xt 9 7 1,
 mv 4 8,
 mv 5 9] [6,7,8,9]
 .ret))⟩
theorem S0:aq Tryz.prog 95=some Ka:=by kernel_rfl
abbrev QU:FuncId:=95
def nU:aF :=
⟨39,1,[.tmp 2,.tmp 3],
 (sr [o0 1 (.box 69 4 (.s 0)),
 mI 2 0,
 mI 3 0] []
 (.seq (.block 0 (sr [fa 5 0 1,
 lo 6 5,
 bI 7 .neq 6 0,
 mv 8 7,
 ot 9 8 (fd 0 1),
 ot 10 8 (ld 9),
 ot 11 8 (.bin .neq (.s 10) (iC 1)),
 mt 12 11 8,
 oF 13 12 (fd 1 1),
 oF 14 12 (ld 13),
 oF 15 12 (.bin .neq (.s 14) (iC 0)),
 ot 16 8 (.pick (.s 12) (bC true) (.s 15)),
 mt 17 16 8,
 oF 18 17 (fd 2 1),
 oF 19 17 (ld 18),
 oF 20 17 (.len (.s 19)),
 oF 21 17 (.bin .gtr (.s 20) (iC 0)),
 ot 22 8 (.pick (.s 17) (bC true) (.s 21)),
 pF 23 8 22,
 mv 4 23] [5,6,7,8,9,10,11,12,13,14,15,16,17,18,19,20,21,22,23]
 (.cond (.s 4)
 (sr [mI 2 0,
 mI 3 1] []
 .ret)
 (sr [fa 25 1 1,
 lo 26 25,
 c1 27 89 26,
 uN 28 27,
 mv 24 28] [25,26,27,28]
 (.cond (.s 24)
 (sr [mI 2 0,
 mI 3 11] []
 .ret)
 (sr [fa 30 3 1,
 lo 31 30,
 ln 32 31,
 bI 33 .gtr 32 4096,
 mv 29 33] [30,31,32,33]
 (.cond (.s 29)
 (sr [mI 2 0,
 mI 3 6] []
 .ret)
 .skip)))))))
 (sr [fa 34 2 1,
 lo 35 34,
 c1 36 85 35,
 xt 37 36 0,
 xt 38 36 1,
 mv 2 37,
 mv 3 38] [34,35,36,37,38]
 .ret)))⟩
theorem OT:aq Tryz.prog 96=some nU:=by kernel_rfl
abbrev Qi:FuncId:=96
def ze:aF :=
⟨25,1,[.tmp 2],
 (sr [o0 1 (.box 71 3 (.s 0)),
 mI 2 0] []
 (sr [fa 4 1 1,
 lo 5 4,
 c1 6 113 5,
 mv 3 6] [4,5,6]
 (.seq (.block 0 (sr [mv 8 3,
 bI 9 .neq 8 0,
 mv 7 9] [8,9]
 (.cond (.s 7)
 (sr [mv 10 3,
 mv 2 10] [10]
 .ret)
 (sr [fa 12 2 1,
 lo 13 12,
 ln 14 13,
 bI 15 .gtr 14 4096,
 mv 11 15] [12,13,14,15]
 (.cond (.s 11)
 (sr [mI 2 6] []
 .ret)
 (sr [fa 17 0 1,
 lo 18 17,
 bI 19 .lss 18 0,
 mv 20 19,
 oF 21 20 (fd 0 1),
 oF 22 20 (ld 21),
 oF 23 20 (.bin .gtr (.s 22) (iC 12)),
 pT 24 20 23,
 mv 16 24] [17,18,19,20,21,22,23,24]
 (.cond (.s 16)
 (sr [mI 2 1] []
 .ret)
 .skip)))))))
 (sr [mI 2 0] []
 .ret))))⟩
theorem Ov:aq Tryz.prog 99=some ze:=by kernel_rfl
abbrev P4:FuncId:=99
def zD:aF :=
⟨22,2,[.tmp 4],
 (sr [o0 4 (.mov (.c .nl))] []
 (sr [o0 5 (.mov (.c .nl))] []
 (.seq (sr [mv 8 0,
 ln 9 8,
 mI 10 0] []
 (.block 0 (.loop (sr [bS 11 .lss 10 9] []
 (.seq (.cond (.s 11)
 .skip
 (.exit 0))
 (.seq (.block 1 (sr [ia 12 9 8 10,
 lS 13 9 12,
 o0 7 (.new 79 [(.int .i64 0),(.int .i64 0),(.int .i64 0),(.int .u64 0),(.int .i64 0),(.int .i64 0),(.int .i64 0),.nl,.nl]),
 sT 9 7 13] [12,13]
 (.reg [mv 14 5,
 mv 15 1,
 lS 16 9 7,
 o0 17 (.callv (.s 15) [(.s 16)]),
 o0 18 (.bsl 79 9 [[(.int .i64 0),(.int .i64 0),(.int .i64 0),(.int .u64 0),(.int .i64 0),(.int .i64 0),(.int .i64 0),.nl,.nl]] [(0,(.s 17))]),
 o0 19 (.app 79 9 (.s 14) (.s 18)),
 mv 5 19] [14,15,16,17,18,19])))
 (.reg [bI 20 .add 10 1,
 mv 10 20] [20])))))))
 (sr [mv 21 5,
 mv 4 21] [21]
 .ret))))⟩
theorem O7:aq Tryz.prog 103=some zD:=by kernel_rfl
abbrev QB:FuncId:=103
def r7:aF :=
⟨17,2,[.tmp 4],
 (sr [o0 2 (.box 47 2 (.s 0)),
 o0 3 (.box 47 2 (.s 1)),
 mB 4 false] []
 (sr [fa 5 0 2,
 lo 6 5,
 fa 7 0 3,
 lo 8 7,
 c2 9 107 6 8,
 mv 10 9,
 ot 11 10 (fd 1 2),
 ot 12 10 (ld 11),
 ot 13 10 (fd 1 3),
 ot 14 10 (ld 13),
 ot 15 10 (.call 107 [(.s 12),(.s 14)]),
 pF 16 10 15,
 mv 4 16] [5,6,7,8,9,10,11,12,13,14,15,16]
 .ret))⟩
theorem OM:aq Tryz.prog 106=some r7:=by kernel_rfl
abbrev Qd:FuncId:=106
def Ff:aF :=
⟨27,2,[.tmp 4],
 (sr [mB 4 false] []
 (.seq (sr [mv 6 0,
 ln 7 6,
 mv 8 1,
 ln 9 8,
 bS 10 .neq 7 9] [6,7,8,9]
 (.cond (.s 10)
 (sr [mB 4 false] []
 .ret)
 .skip))
 (.seq (sr [mI 5 0] []
 (.block 0 (.loop (.seq (sr [mv 11 5,
 mv 12 0,
 ln 13 12,
 bS 14 .lss 11 13] [11,12,13]
 (.cond (.s 14)
 .skip
 (.exit 0)))
 (.seq (.block 1 (.seq (.seq (.draw [⟨mv 17 0,[]⟩,
 ⟨mv 18 5,[]⟩,
 ⟨ia 19 9 17 18,[0,1]⟩,
 ⟨lS 20 9 19,[2,0,1]⟩,
 ⟨mv 21 1,[]⟩,
 ⟨mv 22 5,[]⟩,
 ⟨ia 23 9 21 22,[4,5]⟩,
 ⟨lS 24 9 23,[6,4,5]⟩] [] [])
 (sr [c2 25 119 20 24] []
 (.reg [uN 26 25] [17,18,19,20,21,22,23,24,25])))
 (.cond (.s 26)
 (sr [mB 4 false] []
 .ret)
 .skip)))
 (.reg [mv 15 5,
 bI 16 .add 15 1,
 mv 5 16] [15,16]))))))
 (sr [mB 4 true] []
 .ret))))⟩
theorem S4:aq Tryz.prog 108=some Ff:=by kernel_rfl
abbrev Ux:FuncId:=108
def zw:aF :=
⟨6,1,[.tmp 2],
 (sr [mB 2 false] []
 (.seq (.reg [mv 3 0,
 o0 4 (.call 122 [(.s 3),(.c (.fn 123 []))]),
 uN 5 4,
 mv 2 5] [3,4,5])
 .ret))⟩
theorem OX:aq Tryz.prog 112=some zw:=by kernel_rfl
abbrev Ql:FuncId:=112
def vC:aF :=
⟨11,1,[.tmp 2],
 (sr [mI 2 0] []
 (.seq (.block 0 (sr [mv 4 0,
 o0 5 (.slen (.s 4)),
 bI 6 .gtr 5 64,
 mv 3 6] [4,5,6]
 (.cond (.s 3)
 (sr [mI 2 6] []
 .ret)
 (sr [mv 8 0,
 c1 9 124 8,
 uN 10 9,
 mv 7 10] [8,9,10]
 (.cond (.s 7)
 (sr [mI 2 9] []
 .ret)
 .skip)))))
 (sr [mI 2 0] []
 .ret)))⟩
theorem OV:aq Tryz.prog 113=some vC:=by kernel_rfl
abbrev Qk:FuncId:=113
def vE:aF :=
⟨9,1,[.tmp 2],
 (sr [mB 2 false] []
 (sr [mv 3 0,
 bI 4 .eql 3 3,
 mv 5 4,
 mf 6 0 5,
 oF 7 5 (.bin .eql (.s 6) (iC 4)),
 pT 8 5 7,
 mv 2 8] [3,4,5,6,7,8]
 .ret))⟩
theorem O1:aq Tryz.prog 115=some vE:=by kernel_rfl
abbrev Qq:FuncId:=115
def tX:aF :=
⟨31,2,[.tmp 4],
 (sr [o0 2 (.box 51 3 (.s 0)),
 mB 4 false] []
 (.seq (sr [fa 5 0 2,
 lo 6 5,
 bI 7 .lss 6 0,
 mv 8 7,
 oF 9 8 (fd 0 2),
 oF 10 8 (ld 9),
 mf 11 1 8,
 oF 12 8 (.bin .gtr (.s 10) (.s 11)),
 pT 13 8 12] [5,6,7,8,9,10,11,12]
 (.cond (.s 13)
 (sr [mB 4 false] []
 .ret)
 .skip))
 (.seq (sr [fa 14 2 2,
 lo 15 14,
 uN 16 15] [14,15]
 (.cond (.s 16)
 (sr [fa 17 1 2,
 lo 18 17,
 bI 19 .eql 18 0,
 mv 4 19] [17,18,19]
 .ret)
 .skip))
 (sr [fa 20 0 2,
 lo 21 20,
 fa 22 1 2,
 lo 23 22,
 bS 24 .leq 21 23,
 mv 25 24,
 ot 26 25 (fd 1 2),
 ot 27 25 (ld 26),
 mt 28 1 25,
 ot 29 25 (.bin .leq (.s 27) (.s 28)),
 pF 30 25 29,
 mv 4 30] [20,21,22,23,24,25,26,27,28,29,30]
 .ret))))⟩
theorem Tc:aq Tryz.prog 116=some tX:=by kernel_rfl
abbrev UD:FuncId:=116
def zq:aF :=
⟨94,2,[.tmp 4],
 (sr [o0 2 (.box 79 9 (.s 0)),
 o0 3 (.box 79 9 (.s 1)),
 mB 4 false] []
 (.seq (sr [fa 7 0 2,
 lo 8 7,
 fa 9 0 3,
 lo 10 9,
 bS 11 .neq 8 10,
 mv 12 11,
 oF 13 12 (fd 1 2),
 oF 14 12 (ld 13),
 oF 15 12 (fd 1 3),
 oF 16 12 (ld 15),
 oF 17 12 (.bin .neq (.s 14) (.s 16)),
 pT 18 12 17,
 mv 19 18,
 oF 20 19 (fd 2 2),
 oF 21 19 (ld 20),
 oF 22 19 (fd 2 3),
 oF 23 19 (ld 22),
 oF 24 19 (.bin .neq (.s 21) (.s 23)),
 pT 25 19 24,
 mv 26 25,
 oF 27 26 (fd 3 2),
 oF 28 26 (ld 27),
 oF 29 26 (fd 3 3),
 oF 30 26 (ld 29),
 oF 31 26 (.bin .neq (.s 28) (.s 30)),
 pT 32 26 31,
 mv 33 32,
 oF 34 33 (fd 4 2),
 oF 35 33 (.load (some 3) (.s 34)),
 oF 36 33 (fd 4 3),
 oF 37 33 (.load (some 3) (.s 36)),
 oF 38 33 (.sbin .neq [.i,.i,.i] (.s 35) (.s 37)),
 pT 39 33 38,
 mv 40 39,
 oF 41 40 (fd 7 2),
 oF 42 40 (ld 41),
 oF 43 40 (.len (.s 42)),
 oF 44 40 (fd 7 3),
 oF 45 40 (ld 44),
 oF 46 40 (.len (.s 45)),
 oF 47 40 (.bin .neq (.s 43) (.s 46)),
 pT 48 40 47,
 mv 49 48,
 oF 50 49 (fd 8 2),
 oF 51 49 (ld 50),
 oF 52 49 (.len (.s 51)),
 oF 53 49 (fd 8 3),
 oF 54 49 (ld 53),
 oF 55 49 (.len (.s 54)),
 oF 56 49 (.bin .neq (.s 52) (.s 55)),
 pT 57 49 56] [7,8,9,10,11,12,13,14,15,16,17,18,19,20,21,22,23,24,25,26,27,28,29,30,31,32,33,34,35,36,37,38,39,40,41,42,43,44,45,46,47,48,49,50,51,52,53,54,55,56]
 (.cond (.s 57)
 (sr [mB 4 false] []
 .ret)
 .skip))
 (.seq (sr [mI 5 0] []
 (.block 0 (.loop (.seq (sr [mv 58 5,
 fa 59 7 2,
 lo 60 59,
 ln 61 60,
 bS 62 .lss 58 61] [58,59,60,61]
 (.cond (.s 62)
 .skip
 (.exit 0)))
 (.seq (.block 1 (.seq (.seq (.draw [⟨fa 65 7 2,[]⟩,
 ⟨lo 66 65,[0]⟩,
 ⟨mv 67 5,[]⟩,
 ⟨ia 68 1 66 67,[1,0,2]⟩,
 ⟨lo 69 68,[3,1,0,2]⟩,
 ⟨fa 70 7 3,[]⟩,
 ⟨lo 71 70,[5]⟩,
 ⟨mv 72 5,[]⟩,
 ⟨ia 73 1 71 72,[6,5,7]⟩,
 ⟨lo 74 73,[8,6,5,7]⟩] [] [])
 (.reg [bS 75 .neq 69 74] [65,66,67,68,69,70,71,72,73,74]))
 (.cond (.s 75)
 (sr [mB 4 false] []
 .ret)
 .skip)))
 (.reg [mv 63 5,
 bI 64 .add 63 1,
 mv 5 64] [63,64]))))))
 (.seq (sr [mI 6 0] []
 (.block 2 (.loop (.seq (sr [mv 76 6,
 fa 77 8 2,
 lo 78 77,
 ln 79 78,
 bS 80 .lss 76 79] [76,77,78,79]
 (.cond (.s 80)
 .skip
 (.exit 2)))
 (.seq (.block 3 (.seq (.seq (.draw [⟨fa 83 8 2,[]⟩,
 ⟨lo 84 83,[0]⟩,
 ⟨mv 85 6,[]⟩,
 ⟨ia 86 1 84 85,[1,0,2]⟩,
 ⟨lo 87 86,[3,1,0,2]⟩,
 ⟨fa 88 8 3,[]⟩,
 ⟨lo 89 88,[5]⟩,
 ⟨mv 90 6,[]⟩,
 ⟨ia 91 1 89 90,[6,5,7]⟩,
 ⟨lo 92 91,[8,6,5,7]⟩] [] [])
 (.reg [bS 93 .neq 87 92] [83,84,85,86,87,88,89,90,91,92]))
 (.cond (.s 93)
 (sr [mB 4 false] []
 .ret)
 .skip)))
 (.reg [mv 81 6,
 bI 82 .add 81 1,
 mv 6 82] [81,82]))))))
 (sr [mB 4 true] []
 .ret)))))⟩
theorem OL:aq Tryz.prog 119=some zq:=by kernel_rfl
abbrev Jq:FuncId:=119
def vD:aF :=
⟨9,1,[.tmp 2],
 (sr [mB 2 false] []
 (sr [mv 3 0,
 bI 4 .eql 3 1,
 mv 5 4,
 mf 6 0 5,
 oF 7 5 (.bin .eql (.s 6) (iC 2)),
 pT 8 5 7,
 mv 2 8] [3,4,5,6,7,8]
 .ret))⟩
theorem O0:aq Tryz.prog 125=some vD:=by kernel_rfl
abbrev Qp:FuncId:=125
def eD:aF :=
⟨38,1,[.tmp 2],
 (sr [mI 2 0] []
 (.seq (sr [mv 3 0] []
 (.block 0 (.seq (sr [bI 5 .eql 3 2,
 mv 4 5] [5]
 (.cond (.s 4)
 .skip
 (sr [bI 6 .eql 3 3,
 mv 4 6] [6]
 (.cond (.s 4)
 .skip
 (.reg [bI 7 .eql 3 4,
 mv 4 7] [7])))))
 (.cond (.s 4)
 (sr [mI 2 1] []
 .ret)
 (.seq (sr [bI 9 .eql 3 12,
 mv 8 9] [9]
 (.cond (.s 8)
 .skip
 (.reg [bI 10 .eql 3 13,
 mv 8 10] [10])))
 (.cond (.s 8)
 (sr [mI 2 2] []
 .ret)
 (sr [bI 12 .eql 3 14,
 mv 11 12] [12]
 (.cond (.s 11)
 (sr [mI 2 3] []
 .ret)
 (.seq (sr [bI 14 .eql 3 16,
 mv 13 14] [14]
 (.cond (.s 13)
 .skip
 (.reg [bI 15 .eql 3 210,
 mv 13 15] [15])))
 (.cond (.s 13)
 (sr [mI 2 4] []
 .ret)
 (sr [bI 17 .eql 3 17,
 mv 16 17] [17]
 (.cond (.s 16)
 (sr [mI 2 5] []
 .ret)
 (sr [bI 19 .eql 3 28,
 mv 18 19] [19]
 (.cond (.s 18)
 (sr [mI 2 6] []
 .ret)
 (.seq (sr [bI 21 .eql 3 32,
 mv 20 21] [21]
 (.cond (.s 20)
 .skip
 (sr [bI 22 .eql 3 33,
 mv 20 22] [22]
 (.cond (.s 20)
 .skip
 (.reg [bI 23 .eql 3 34,
 mv 20 23] [23])))))
 (.cond (.s 20)
 (sr [mI 2 7] []
 .ret)
 (.seq (sr [bI 25 .eql 3 35,
 mv 24 25] [25]
 (.cond (.s 24)
 .skip
 (.reg [bI 26 .eql 3 36,
 mv 24 26] [26])))
 (.cond (.s 24)
 (sr [mI 2 8] []
 .ret)
 (sr [bI 28 .eql 3 65,
 mv 27 28] [28]
 (.cond (.s 27)
 (sr [mI 2 18] []
 .ret)
 (sr [bI 30 .eql 3 66,
 mv 29 30] [30]
 (.cond (.s 29)
 (sr [mI 2 19] []
 .ret)
 (sr [bI 32 .eql 3 208,
 mv 31 32] [32]
 (.cond (.s 31)
 (sr [mI 2 20] []
 .ret)
 .skip))))))))))))))))))))))))
 (.seq (sr [mv 33 0,
 c1 34 134 33,
 bI 35 .gtr 34 0] [33,34]
 (.cond (.s 35)
 (sr [mI 2 17] []
 .ret)
 .skip))
 (sr [mv 36 0,
 c1 37 135 36,
 mv 2 37] [36,37]
 .ret))))⟩
theorem OY:aq Tryz.prog 126=some eD:=by kernel_rfl
abbrev Qn:FuncId:=126
def Kc:aF :=
⟨6,1,[.tmp 2],
 (sr [mB 2 false] []
 (sr [mv 3 0,
 c1 4 136 3,
 o0 5 (.bin .neq (.s 4) (.c (.str []))),
 mv 2 5] [3,4,5]
 .ret))⟩
theorem S6:aq Tryz.prog 128=some Kc:=by kernel_rfl
abbrev Uz:FuncId:=128
def Fg:aF :=
⟨9,1,[.tmp 2],
 (sr [mB 2 false] []
 (sr [mv 3 0,
 bI 4 .geq 3 0,
 mv 5 4,
 mt 6 0 5,
 ot 7 5 (.bin .lss (.s 6) (iC 4294967296)),
 pF 8 5 7,
 mv 2 8] [3,4,5,6,7,8]
 .ret))⟩
theorem S_:aq Tryz.prog 129=some Fg:=by kernel_rfl
abbrev QV:FuncId:=129
def wG:aF :=
⟨30,1,[.tmp 2],
 (sr [o0 1 (.box 76 3 (.s 0)),
 mB 2 false] []
 (.seq (sr [fa 3 0 1,
 lo 4 3] [3]
 (.block 0 (sr [bI 6 .eql 4 0,
 mv 5 6] [6]
 (.cond (.s 5)
 (sr [lS 7 3 1,
 o0 8 (.build [(.int .i64 0),(.int .i64 0),(.int .i64 0)] []),
 o0 9 (.sbin .eql [.i,.i,.i] (.s 7) (.s 8)),
 mv 2 9] [7,8,9]
 .ret)
 (sr [bI 11 .eql 4 1,
 mv 10 11] [11]
 (.cond (.s 10)
 (sr [fa 12 1 1,
 lo 13 12,
 c1 14 131 13,
 mv 15 14,
 ot 16 15 (fd 2 1),
 ot 17 15 (ld 16),
 ot 18 15 (.bin .eql (.s 17) (iC 0)),
 pF 19 15 18,
 mv 2 19] [12,13,14,15,16,17,18,19]
 .ret)
 (sr [bI 21 .eql 4 2,
 mv 20 21] [21]
 (.cond (.s 20)
 (sr [fa 22 1 1,
 lo 23 22,
 bI 24 .eql 23 0,
 mv 25 24,
 ot 26 25 (fd 2 1),
 ot 27 25 (ld 26),
 ot 28 25 (.call 129 [(.s 27)]),
 pF 29 25 28,
 mv 2 29] [22,23,24,25,26,27,28,29]
 .ret)
 .skip))))))))
 (sr [mB 2 false] []
 .ret)))⟩
theorem S9:aq Tryz.prog 130=some wG:=by kernel_rfl
abbrev UB:FuncId:=130
def JY:aF :=
⟨59,1,[.tmp 2],
 (sr [o0 2 (.mov (.c (.int .u64 0)))] []
 (.seq (.cond (bC false)
 (.seq (.seq (.draw [⟨mv 3 0,[]⟩,
 ⟨o0 4 (.sidx (.s 3) (iC 0)),[0]⟩,
 ⟨o0 5 (.cvi .u64 (.s 4)),[1,0]⟩,
 ⟨mv 6 0,[]⟩,
 ⟨o0 7 (.sidx (.s 6) (iC 1)),[3]⟩,
 ⟨o0 8 (.cvi .u64 (.s 7)),[4,3]⟩,
 ⟨o0 9 (.bin .shl (.s 8) (.c (.int .u64 8))),[5,4,3]⟩,
 ⟨bS 10 .or 5 9,[2,1,0,6,5,4,3]⟩,
 ⟨mv 11 0,[]⟩,
 ⟨o0 12 (.sidx (.s 11) (iC 2)),[8]⟩,
 ⟨o0 13 (.cvi .u64 (.s 12)),[9,8]⟩,
 ⟨o0 14 (.bin .shl (.s 13) (.c (.int .u64 16))),[10,9,8]⟩,
 ⟨bS 15 .or 10 14,[7,2,1,0,6,5,4,3,11,10,9,8]⟩,
 ⟨mv 16 0,[]⟩,
 ⟨o0 17 (.sidx (.s 16) (iC 3)),[13]⟩,
 ⟨o0 18 (.cvi .u64 (.s 17)),[14,13]⟩,
 ⟨o0 19 (.bin .shl (.s 18) (.c (.int .u64 24))),[15,14,13]⟩] [] [])
 (sr [bS 20 .or 15 19] []
 (.reg [mv 2 20] [3,4,5,6,7,8,9,10,11,12,13,14,15,16,17,18,19,20])))
 .ret)
 .skip)
 (.seq (.seq (.draw [⟨mv 21 0,[]⟩,
 ⟨o0 22 (.sidx (.s 21) (iC 0)),[0]⟩,
 ⟨o0 23 (.cvi .u64 (.s 22)),[1,0]⟩,
 ⟨mv 24 0,[]⟩,
 ⟨o0 25 (.sidx (.s 24) (iC 1)),[3]⟩,
 ⟨o0 26 (.cvi .u64 (.s 25)),[4,3]⟩,
 ⟨o0 27 (.bin .shl (.s 26) (.c (.int .u64 8))),[5,4,3]⟩,
 ⟨bS 28 .or 23 27,[2,1,0,6,5,4,3]⟩,
 ⟨mv 29 0,[]⟩,
 ⟨o0 30 (.sidx (.s 29) (iC 2)),[8]⟩,
 ⟨o0 31 (.cvi .u64 (.s 30)),[9,8]⟩,
 ⟨o0 32 (.bin .shl (.s 31) (.c (.int .u64 16))),[10,9,8]⟩,
 ⟨bS 33 .or 28 32,[7,2,1,0,6,5,4,3,11,10,9,8]⟩,
 ⟨mv 34 0,[]⟩,
 ⟨o0 35 (.sidx (.s 34) (iC 3)),[13]⟩,
 ⟨o0 36 (.cvi .u64 (.s 35)),[14,13]⟩,
 ⟨o0 37 (.bin .shl (.s 36) (.c (.int .u64 24))),[15,14,13]⟩,
 ⟨bS 38 .or 33 37,[12,7,2,1,0,6,5,4,3,11,10,9,8,16,15,14,13]⟩,
 ⟨mv 39 0,[]⟩,
 ⟨o0 40 (.sidx (.s 39) (iC 4)),[18]⟩,
 ⟨o0 41 (.cvi .u64 (.s 40)),[19,18]⟩,
 ⟨o0 42 (.bin .shl (.s 41) (.c (.int .u64 32))),[20,19,18]⟩,
 ⟨bS 43 .or 38 42,[17,12,7,2,1,0,6,5,4,3,11,10,9,8,16,15,14,13,21,20,19,18]⟩,
 ⟨mv 44 0,[]⟩,
 ⟨o0 45 (.sidx (.s 44) (iC 5)),[23]⟩,
 ⟨o0 46 (.cvi .u64 (.s 45)),[24,23]⟩,
 ⟨o0 47 (.bin .shl (.s 46) (.c (.int .u64 40))),[25,24,23]⟩,
 ⟨bS 48 .or 43 47,[22,17,12,7,2,1,0,6,5,4,3,11,10,9,8,16,15,14,13,21,20,19,18,26,25,24,23]⟩,
 ⟨mv 49 0,[]⟩,
 ⟨o0 50 (.sidx (.s 49) (iC 6)),[28]⟩,
 ⟨o0 51 (.cvi .u64 (.s 50)),[29,28]⟩,
 ⟨o0 52 (.bin .shl (.s 51) (.c (.int .u64 48))),[30,29,28]⟩,
 ⟨bS 53 .or 48 52,[27,22,17,12,7,2,1,0,6,5,4,3,11,10,9,8,16,15,14,13,21,20,19,18,26,25,24,23,31,30,29,28]⟩,
 ⟨mv 54 0,[]⟩,
 ⟨o0 55 (.sidx (.s 54) (iC 7)),[33]⟩,
 ⟨o0 56 (.cvi .u64 (.s 55)),[34,33]⟩,
 ⟨o0 57 (.bin .shl (.s 56) (.c (.int .u64 56))),[35,34,33]⟩] [] [])
 (sr [bS 58 .or 53 57] []
 (.reg [mv 2 58] [21,22,23,24,25,26,27,28,29,30,31,32,33,34,35,36,37,38,39,40,41,42,43,44,45,46,47,48,49,50,51,52,53,54,55,56,57,58])))
 .ret)))⟩
theorem SH:aq Tryz.prog 133=some JY:=by kernel_rfl
abbrev Uj:FuncId:=133
def zL:aF :=
⟨13,1,[.tmp 2],
 (sr [mB 2 false] []
 (sr [mv 3 0,
 bI 4 .geq 3 40,
 mv 5 4,
 mt 6 0 5,
 ot 7 5 (.bin .leq (.s 6) (iC 62)),
 pF 8 5 7,
 mv 9 8,
 mt 10 0 9,
 ot 11 9 (.call 128 [(.s 10)]),
 pF 12 9 11,
 mv 2 12] [3,4,5,6,7,8,9,10,11,12]
 .ret))⟩
theorem S2:aq Tryz.prog 137=some zL:=by kernel_rfl
abbrev Uv:FuncId:=137
def zk:aF :=
⟨26,0,[.tmp 0],
 (sr [o0 0 (.mov (.c .nl))] []
 (.seq (.reg [o0 1 (.build [(.int .i64 0),(.str []),(.str [])] [(0,1,(iC 0)),(1,1,(.c (.str []))),(2,1,(.c (.str [117,110,114,101,97,99,104,97,98,108,101,32,110,111,112,32,98,108,111,99,107,32,108,111,111,112,32,105,102,32,101,108,115,101])))]),
 o0 2 (.build [(.int .i64 0),(.str []),(.str [])] [(0,1,(iC 11)),(1,1,(.c (.str []))),(2,1,(.c (.str [101,110,100,32,98,114,32,98,114,95,105,102,32,98,114,95,116,97,98,108,101,32,114,101,116,117,114,110,32,99,97,108,108,32,99,97,108,108,95,105,110,100,105,114,101,99,116])))]),
 o0 3 (.build [(.int .i64 0),(.str []),(.str [])] [(0,1,(iC 26)),(1,1,(.c (.str []))),(2,1,(.c (.str [100,114,111,112,32,115,101,108,101,99,116,32,115,101,108,101,99,116])))]),
 o0 4 (.build [(.int .i64 0),(.str []),(.str [])] [(0,1,(iC 32)),(1,1,(.c (.str [108,111,99,97,108,46]))),(2,1,(.c (.str [103,101,116,32,115,101,116,32,116,101,101])))]),
 o0 5 (.build [(.int .i64 0),(.str []),(.str [])] [(0,1,(iC 35)),(1,1,(.c (.str [103,108,111,98,97,108,46]))),(2,1,(.c (.str [103,101,116,32,115,101,116])))]),
 o0 6 (.build [(.int .i64 0),(.str []),(.str [])] [(0,1,(iC 37)),(1,1,(.c (.str [116,97,98,108,101,46]))),(2,1,(.c (.str [103,101,116,32,115,101,116])))]),
 o0 7 (.build [(.int .i64 0),(.str []),(.str [])] [(0,1,(iC 40)),(1,1,(.c (.str []))),(2,1,(.c (.str [105,51,50,46,108,111,97,100,32,105,54,52,46,108,111,97,100])))]),
 o0 8 (.build [(.int .i64 0),(.str []),(.str [])] [(0,1,(iC 44)),(1,1,(.c (.str [105,51,50,46]))),(2,1,(.c (.str [108,111,97,100,56,95,115,32,108,111,97,100,56,95,117,32,108,111,97,100,49,54,95,115,32,108,111,97,100,49,54,95,117])))]),
 o0 9 (.build [(.int .i64 0),(.str []),(.str [])] [(0,1,(iC 48)),(1,1,(.c (.str [105,54,52,46]))),(2,1,(.c (.str [108,111,97,100,56,95,115,32,108,111,97,100,56,95,117,32,108,111,97,100,49,54,95,115,32,108,111,97,100,49,54,95,117,32,108,111,97,100,51,50,95,115,32,108,111,97,100,51,50,95,117])))]),
 o0 10 (.build [(.int .i64 0),(.str []),(.str [])] [(0,1,(iC 54)),(1,1,(.c (.str []))),(2,1,(.c (.str [105,51,50,46,115,116,111,114,101,32,105,54,52,46,115,116,111,114,101])))]),
 o0 11 (.build [(.int .i64 0),(.str []),(.str [])] [(0,1,(iC 58)),(1,1,(.c (.str [105,51,50,46]))),(2,1,(.c (.str [115,116,111,114,101,56,32,115,116,111,114,101,49,54])))]),
 o0 12 (.build [(.int .i64 0),(.str []),(.str [])] [(0,1,(iC 60)),(1,1,(.c (.str [105,54,52,46]))),(2,1,(.c (.str [115,116,111,114,101,56,32,115,116,111,114,101,49,54,32,115,116,111,114,101,51,50])))]),
 o0 13 (.build [(.int .i64 0),(.str []),(.str [])] [(0,1,(iC 63)),(1,1,(.c (.str [109,101,109,111,114,121,46]))),(2,1,(.c (.str [115,105,122,101,32,103,114,111,119])))]),
 o0 14 (.build [(.int .i64 0),(.str []),(.str [])] [(0,1,(iC 65)),(1,1,(.c (.str []))),(2,1,(.c (.str [105,51,50,46,99,111,110,115,116,32,105,54,52,46,99,111,110,115,116])))]),
 o0 15 (.build [(.int .i64 0),(.str []),(.str [])] [(0,1,(iC 69)),(1,1,(.c (.str [105,51,50,46]))),(2,1,(.c (.str [101,113,122,32,101,113,32,110,101,32,108,116,95,115,32,108,116,95,117,32,103,116,95,115,32,103,116,95,117,32,108,101,95,115,32,108,101,95,117,32,103,101,95,115,32,103,101,95,117])))]),
 o0 16 (.build [(.int .i64 0),(.str []),(.str [])] [(0,1,(iC 80)),(1,1,(.c (.str [105,54,52,46]))),(2,1,(.c (.str [101,113,122,32,101,113,32,110,101,32,108,116,95,115,32,108,116,95,117,32,103,116,95,115,32,103,116,95,117,32,108,101,95,115,32,108,101,95,117,32,103,101,95,115,32,103,101,95,117])))]),
 o0 17 (.build [(.int .i64 0),(.str []),(.str [])] [(0,1,(iC 103)),(1,1,(.c (.str [105,51,50,46]))),(2,1,(.c (.str [99,108,122,32,99,116,122,32,112,111,112,99,110,116,32,97,100,100,32,115,117,98,32,109,117,108,32,100,105,118,95,115,32,100,105,118,95,117,32,114,101,109,95,115,32,114,101,109,95,117,32,97,110,100,32,111,114,32,120,111,114,32,115,104,108,32,115,104,114,95,115,32,115,104,114,95,117,32,114,111,116,108,32,114,111,116,114])))]),
 o0 18 (.build [(.int .i64 0),(.str []),(.str [])] [(0,1,(iC 121)),(1,1,(.c (.str [105,54,52,46]))),(2,1,(.c (.str [99,108,122,32,99,116,122,32,112,111,112,99,110,116,32,97,100,100,32,115,117,98,32,109,117,108,32,100,105,118,95,115,32,100,105,118,95,117,32,114,101,109,95,115,32,114,101,109,95,117,32,97,110,100,32,111,114,32,120,111,114,32,115,104,108,32,115,104,114,95,115,32,115,104,114,95,117,32,114,111,116,108,32,114,111,116,114])))]),
 o0 19 (.build [(.int .i64 0),(.str []),(.str [])] [(0,1,(iC 167)),(1,1,(.c (.str []))),(2,1,(.c (.str [105,51,50,46,119,114,97,112,95,105,54,52])))]),
 o0 20 (.build [(.int .i64 0),(.str []),(.str [])] [(0,1,(iC 172)),(1,1,(.c (.str [105,54,52,46]))),(2,1,(.c (.str [101,120,116,101,110,100,95,105,51,50,95,115,32,101,120,116,101,110,100,95,105,51,50,95,117])))]),
 o0 21 (.build [(.int .i64 0),(.str []),(.str [])] [(0,1,(iC 192)),(1,1,(.c (.str [105,51,50,46]))),(2,1,(.c (.str [101,120,116,101,110,100,56,95,115,32,101,120,116,101,110,100,49,54,95,115])))]),
 o0 22 (.build [(.int .i64 0),(.str []),(.str [])] [(0,1,(iC 194)),(1,1,(.c (.str [105,54,52,46]))),(2,1,(.c (.str [101,120,116,101,110,100,56,95,115,32,101,120,116,101,110,100,49,54,95,115,32,101,120,116,101,110,100,51,50,95,115])))]),
 o0 23 (.build [(.int .i64 0),(.str []),(.str [])] [(0,1,(iC 208)),(1,1,(.c (.str [114,101,102,46]))),(2,1,(.c (.str [110,117,108,108,32,105,115,95,110,117,108,108,32,102,117,110,99])))]),
 o0 24 (.build [(.int .i64 0),(.str []),(.str [])] [(0,1,(iC 64520)),(1,1,(.c (.str []))),(2,1,(.c (.str [109,101,109,111,114,121,46,105,110,105,116,32,100,97,116,97,46,100,114,111,112,32,109,101,109,111,114,121,46,99,111,112,121,32,109,101,109,111,114,121,46,102,105,108,108,32,116,97,98,108,101,46,105,110,105,116,32,101,108,101,109,46,100,114,111,112,32,116,97,98,108,101,46,99,111,112,121,32,116,97,98,108,101,46,103,114,111,119,32,116,97,98,108,101,46,115,105,122,101,32,116,97,98,108,101,46,102,105,108,108])))]),
 o0 25 (.bsl 210 3 [[(.int .i64 0),(.str []),(.str [])],[(.int .i64 0),(.str []),(.str [])],[(.int .i64 0),(.str []),(.str [])],[(.int .i64 0),(.str []),(.str [])],[(.int .i64 0),(.str []),(.str [])],[(.int .i64 0),(.str []),(.str [])],[(.int .i64 0),(.str []),(.str [])],[(.int .i64 0),(.str []),(.str [])],[(.int .i64 0),(.str []),(.str [])],[(.int .i64 0),(.str []),(.str [])],[(.int .i64 0),(.str []),(.str [])],[(.int .i64 0),(.str []),(.str [])],[(.int .i64 0),(.str []),(.str [])],[(.int .i64 0),(.str []),(.str [])],[(.int .i64 0),(.str []),(.str [])],[(.int .i64 0),(.str []),(.str [])],[(.int .i64 0),(.str []),(.str [])],[(.int .i64 0),(.str []),(.str [])],[(.int .i64 0),(.str []),(.str [])],[(.int .i64 0),(.str []),(.str [])],[(.int .i64 0),(.str []),(.str [])],[(.int .i64 0),(.str []),(.str [])],[(.int .i64 0),(.str []),(.str [])],[(.int .i64 0),(.str []),(.str [])]] [(0,(.s 1)),(1,(.s 2)),(2,(.s 3)),(3,(.s 4)),(4,(.s 5)),(5,(.s 6)),(6,(.s 7)),(7,(.s 8)),(8,(.s 9)),(9,(.s 10)),(10,(.s 11)),(11,(.s 12)),(12,(.s 13)),(13,(.s 14)),(14,(.s 15)),(15,(.s 16)),(16,(.s 17)),(17,(.s 18)),(18,(.s 19)),(19,(.s 20)),(20,(.s 21)),(21,(.s 22)),(22,(.s 23)),(23,(.s 24))]),
 mv 0 25] [1,2,3,4,5,6,7,8,9,10,11,12,13,14,15,16,17,18,19,20,21,22,23,24,25])
 .ret))⟩
theorem OB:aq Tryz.prog 142=some zk:=by kernel_rfl
abbrev P8:FuncId:=142
def Kh:aF :=
⟨60,0,[.tmp 0],
 (sr [mB 0 false] []
 (sr [o0 5 (.build [(.int .i64 0),(.int .i64 0),(.int .i64 0),(.int .u64 0),(.int .i64 0),(.int .i64 0),(.int .i64 0),.nl,.nl] [(0,1,(iC 11))]),
 o0 1 (.new 79 [(.int .i64 0),(.int .i64 0),(.int .i64 0),(.int .u64 0),(.int .i64 0),(.int .i64 0),(.int .i64 0),.nl,.nl]),
 sT 9 1 5] [5]
 (.seq (.reg [o0 6 (.build [.nl,.nl] []),
 o0 7 (.bsl 47 2 [[.nl,.nl]] [(0,(.s 6))]),
 o0 8 (.build [(.int .i64 0),(.int .i64 0),(.int .i64 0),(.int .u64 0),(.int .i64 0),(.int .i64 0),(.int .i64 0),.nl,.nl] [(0,1,(iC 6))]),
 lS 9 9 1,
 o0 10 (.bsl 79 9 [[(.int .i64 0),(.int .i64 0),(.int .i64 0),(.int .u64 0),(.int .i64 0),(.int .i64 0),(.int .i64 0),.nl,.nl],[(.int .i64 0),(.int .i64 0),(.int .i64 0),(.int .u64 0),(.int .i64 0),(.int .i64 0),(.int .i64 0),.nl,.nl]] [(0,(.s 8)),(1,(.s 9))]),
 o0 11 (.build [(.int .i64 0),.nl,.nl] [(2,1,(.s 10))]),
 o0 12 (.bsl 60 3 [[(.int .i64 0),.nl,.nl]] [(0,(.s 11))]),
 o0 13 (.build [.nl,.nl,.nl,.nl,.nl,.nl,.nl,(.bool false),(.int .i64 0),.nl,.nl,.nl] [(0,1,(.s 7)),(2,1,(.s 12))]),
 o0 2 (.new 33 [.nl,.nl,.nl,.nl,.nl,.nl,.nl,(.bool false),(.int .i64 0),.nl,.nl,.nl]),
 sT 12 2 13] [6,7,8,9,10,11,12,13])
 (sr [o0 14 (.build [.nl,.nl,.nl,.nl,.nl,.nl,.nl,(.bool false),(.int .i64 0),.nl,.nl,.nl] []),
 o0 3 (.new 33 [.nl,.nl,.nl,.nl,.nl,.nl,.nl,(.bool false),(.int .i64 0),.nl,.nl,.nl]),
 sT 12 3 14] [14]
 (.seq (sr [mI 4 0] []
 (.block 0 (.loop (.seq (sr [mv 15 4,
 bI 16 .lss 15 5] [15]
 (.cond (.s 16)
 .skip
 (.exit 0)))
 (.seq (.block 1 (.reg [fa 19 1 3,
 lo 20 19,
 o0 21 (.build [(.int .i64 0),(.int .i64 0),(.int .i64 0),(.bool false)] [(0,1,(iC 3))]),
 o0 22 (.build [(.str []),(.str []),(.int .i64 0),(.int .i64 0),(.int .i64 0),(.int .i64 0),(.int .i64 0),(.bool false),(.int .i64 0),(.int .i64 0),(.bool false),(.int .i64 0),(.bool false)] [(2,1,(iC 1)),(4,4,(.s 21))]),
 o0 23 (.bsl 57 13 [[(.str []),(.str []),(.int .i64 0),(.int .i64 0),(.int .i64 0),(.int .i64 0),(.int .i64 0),(.bool false),(.int .i64 0),(.int .i64 0),(.bool false),(.int .i64 0),(.bool false)]] [(0,(.s 22))]),
 o0 24 (.app 57 13 (.s 20) (.s 23)),
 fa 25 1 3,
 sT 1 25 24] [19,20,21,22,23,24,25]))
 (.reg [mv 17 4,
 bI 18 .add 17 1,
 mv 4 18] [17,18]))))))
 (sr [lS 26 12 2,
 c1 27 10 26,
 o0 28 (.build [(.int .i64 0),(.int .i64 0),(.int .i64 0),(.int .i64 0)] [(0,1,(iC 12)),(3,1,(iC 10))]),
 o0 29 (.sbin .eql [.i,.i,.i,.i] (.s 27) (.s 28)),
 mv 30 29,
 ot 31 30 (.mks 47 2 [.nl,.nl] (iC 65) (iC 65)),
 ot 32 30 (.build [.nl,.nl,.nl,.nl,.nl,.nl,.nl,(.bool false),(.int .i64 0),.nl,.nl,.nl] [(0,1,(.s 31))]),
 ot 33 30 (.call 10 [(.s 32)]),
 ot 34 30 (.build [(.int .i64 0),(.int .i64 0),(.int .i64 0),(.int .i64 0)] [(0,1,(iC 1)),(1,1,(iC 64)),(3,1,(iC 6))]),
 ot 35 30 (.sbin .eql [.i,.i,.i,.i] (.s 33) (.s 34)),
 pF 36 30 35,
 mv 37 36,
 ot 38 37 (.load (some 12) (.s 2)),
 ot 39 37 (.load (some 12) (.s 2)),
 ot 40 37 (.call 9 [(.s 38),(.s 39)]),
 pF 41 37 40,
 mv 42 41,
 ot 43 42 (.load (some 12) (.s 2)),
 ot 44 42 (.load (some 12) (.s 3)),
 ot 45 42 (.call 9 [(.s 43),(.s 44)]),
 ot 46 42 (.un .not (.s 45)),
 pF 47 42 46,
 mv 48 47,
 ot 49 48 (.load (some 12) (.s 2)),
 ot 50 48 (.call 11 [(.s 49)]),
 ot 51 48 (.bin .eql (.s 50) (iC 2)),
 pF 52 48 51,
 mv 53 52,
 ot 54 53 (.load (some 12) (.s 3)),
 ot 55 53 (.call 7 [(.s 54)]),
 ot 56 53 (.fld 1 none (.s 55)),
 ot 57 53 (.len (.s 56)),
 ot 58 53 (.bin .eql (.s 57) (iC 5)),
 pF 59 53 58,
 mv 0 59] [26,27,28,29,30,31,32,33,34,35,36,37,38,39,40,41,42,43,44,45,46,47,48,49,50,51,52,53,54,55,56,57,58,59]
 .ret))))))⟩
theorem Te:aq Tryz.prog 5=some Kh:=by kernel_rfl
abbrev UF:FuncId:=5
def r_:aF :=
⟨44,1,[.cell 2 (some 12)],
 (sr [o0 1 (.box 33 12 (.s 0)),
 o0 2 (.new 33 [.nl,.nl,.nl,.nl,.nl,.nl,.nl,(.bool false),(.int .i64 0),.nl,.nl,.nl])] []
 (.seq (.reg [fa 3 0 1,
 lo 4 3,
 o0 5 (.call 15 [(.s 4),(.c (.fn 16 []))]),
 fa 6 0 1,
 sT 1 6 5] [3,4,5,6])
 (.seq (.seq (.draw [⟨fa 7 1 1,[]⟩,
 ⟨lo 8 7,[0]⟩,
 ⟨c1 9 18 8,[1,0]⟩,
 ⟨fa 10 3 1,[]⟩,
 ⟨lo 11 10,[3]⟩,
 ⟨c1 12 19 11,[4,3,2,1,0]⟩,
 ⟨fa 13 4 1,[]⟩,
 ⟨lo 14 13,[6]⟩,
 ⟨c1 15 20 14,[7,6,5,4,3,2,1,0]⟩,
 ⟨fa 16 6 1,[]⟩,
 ⟨lo 17 16,[9]⟩,
 ⟨c1 18 21 17,[10,9,8,7,6,5,4,3,2,1,0]⟩,
 ⟨fa 19 1 1,[0,1,2,3,4,6,7,9,10]⟩] [(9,2),(12,5),(15,8),(18,11)] [])
 (sr [sT 1 19 9] []
 (sr [fa 20 3 1] []
 (sr [sT 1 20 12] []
 (sr [fa 21 4 1] []
 (sr [sT 1 21 15] []
 (sr [fa 22 6 1] []
 (.reg [sT 1 22 18] [7,8,9,10,11,12,13,14,15,16,17,18,19,20,21,22]))))))))
 (.seq (.reg [fa 23 2 1,
 lo 24 23,
 o0 25 (.call 22 [(.s 24),(.c (.fn 23 []))]),
 fa 26 2 1,
 sT 1 26 25] [23,24,25,26])
 (.seq (.reg [fa 27 5 1,
 lo 28 27,
 o0 29 (.call 25 [(.s 28),(.c (.fn 26 []))]),
 fa 30 5 1,
 sT 1 30 29] [27,28,29,30])
 (.seq (.reg [fa 31 9 1,
 lo 32 31,
 o0 33 (.call 27 [(.s 32),(.c (.fn 28 []))]),
 fa 34 9 1,
 sT 1 34 33] [31,32,33,34])
 (.seq (.reg [fa 35 10 1,
 lo 36 35,
 o0 37 (.call 30 [(.s 36),(.c (.fn 31 []))]),
 fa 38 10 1,
 sT 1 38 37] [35,36,37,38])
 (.seq (.reg [fa 39 11 1,
 lo 40 39,
 o0 41 (.call 33 [(.s 40),(.c (.fn 34 []))]),
 fa 42 11 1,
 sT 1 42 41] [39,40,41,42])
 (sr [lS 43 12 1,
 sT 12 2 43] [43]
 .ret)))))))))⟩
theorem Jc:aq Tryz.prog 7=some r_:=by kernel_rfl
abbrev Dy:FuncId:=7
def dA:aF :=
⟨80,2,[.tmp 4],
 (sr [o0 2 (.box 33 12 (.s 0)),
 o0 3 (.box 33 12 (.s 1)),
 mB 4 false] []
 (.seq (sr [fa 5 7 2,
 lo 6 5,
 fa 7 7 3,
 lo 8 7,
 o0 9 (.bbin .neq (.s 6) (.s 8)),
 mv 10 9,
 oF 11 10 (fd 7 2),
 oF 12 10 (ld 11),
 mf 13 12 10,
 ot 14 13 (fd 8 2),
 ot 15 13 (ld 14),
 ot 16 13 (fd 8 3),
 ot 17 13 (ld 16),
 ot 18 13 (.bin .neq (.s 15) (.s 17)),
 oF 19 10 (.pick (.s 13) (.s 18) (bC false)),
 pT 20 10 19] [5,6,7,8,9,10,11,12,13,14,15,16,17,18,19]
 (.cond (.s 20)
 (sr [mB 4 false] []
 .ret)
 .skip))
 (sr [fa 21 0 2,
 lo 22 21,
 fa 23 0 3,
 lo 24 23,
 c2 25 35 22 24,
 mv 26 25,
 ot 27 26 (fd 1 2),
 ot 28 26 (ld 27),
 ot 29 26 (fd 1 3),
 ot 30 26 (ld 29),
 ot 31 26 (.call 36 [(.s 28),(.s 30)]),
 pF 32 26 31,
 mv 33 32,
 ot 34 33 (fd 2 2),
 ot 35 33 (ld 34),
 ot 36 33 (fd 2 3),
 ot 37 33 (ld 36),
 ot 38 33 (.call 37 [(.s 35),(.s 37)]),
 pF 39 33 38,
 mv 40 39,
 ot 41 40 (.load (some 12) (.s 2)),
 ot 42 40 (.load (some 12) (.s 3)),
 ot 43 40 (.call 38 [(.s 41),(.s 42)]),
 pF 44 40 43,
 mv 45 44,
 ot 46 45 (fd 5 2),
 ot 47 45 (ld 46),
 ot 48 45 (fd 5 3),
 ot 49 45 (ld 48),
 ot 50 45 (.call 39 [(.s 47),(.s 49)]),
 pF 51 45 50,
 mv 52 51,
 ot 53 52 (fd 6 2),
 ot 54 52 (ld 53),
 ot 55 52 (fd 6 3),
 ot 56 52 (ld 55),
 ot 57 52 (.call 40 [(.s 54),(.s 56)]),
 pF 58 52 57,
 mv 59 58,
 ot 60 59 (fd 9 2),
 ot 61 59 (ld 60),
 ot 62 59 (fd 9 3),
 ot 63 59 (ld 62),
 ot 64 59 (.call 41 [(.s 61),(.s 63)]),
 pF 65 59 64,
 mv 66 65,
 ot 67 66 (fd 10 2),
 ot 68 66 (ld 67),
 ot 69 66 (fd 10 3),
 ot 70 66 (ld 69),
 ot 71 66 (.call 42 [(.s 68),(.s 70)]),
 pF 72 66 71,
 mv 73 72,
 ot 74 73 (fd 11 2),
 ot 75 73 (ld 74),
 ot 76 73 (fd 11 3),
 ot 77 73 (ld 76),
 ot 78 73 (.call 43 [(.s 75),(.s 77)]),
 pF 79 73 78,
 mv 4 79] [21,22,23,24,25,26,27,28,29,30,31,32,33,34,35,36,37,38,39,40,41,42,43,44,45,46,47,48,49,50,51,52,53,54,55,56,57,58,59,60,61,62,63,64,65,66,67,68,69,70,71,72,73,74,75,76,77,78,79]
 .ret)))⟩
theorem OO:aq Tryz.prog 8=some dA:=by kernel_rfl
abbrev Qe:FuncId:=8
def de:aF :=
⟨99,2,[.tmp 4],
 (sr [o0 2 (.box 33 12 (.s 0)),
 o0 3 (.box 33 12 (.s 1)),
 mB 4 false] []
 (.seq (sr [fa 10 7 2,
 lo 11 10,
 fa 12 7 3,
 lo 13 12,
 o0 14 (.bbin .neq (.s 11) (.s 13)),
 mv 15 14,
 oF 16 15 (fd 7 2),
 oF 17 15 (ld 16),
 mf 18 17 15,
 ot 19 18 (fd 8 2),
 ot 20 18 (ld 19),
 ot 21 18 (fd 8 3),
 ot 22 18 (ld 21),
 ot 23 18 (.bin .neq (.s 20) (.s 22)),
 oF 24 15 (.pick (.s 18) (.s 23) (bC false)),
 pT 25 15 24] [10,11,12,13,14,15,16,17,18,19,20,21,22,23,24]
 (.cond (.s 25)
 (sr [mB 4 false] []
 .ret)
 .skip))
 (sr [o0 5 (.mov (.c (.fn 44 [])))] []
 (sr [o0 6 (.mov (.c (.fn 47 [])))] []
 (sr [o0 7 (.mov (.c (.fn 48 [])))] []
 (sr [o0 8 (.mov (.c (.fn 50 [])))] []
 (sr [o0 9 (.mov (.c (.fn 51 [])))] []
 (.seq (.reg [fa 26 0 2,
 lo 27 26,
 fa 28 0 3,
 lo 29 28,
 o0 30 (.call 52 [(.s 27),(.s 29),(.c (.fn 53 []))]),
 mv 31 30,
 ot 32 31 (fd 1 2),
 ot 33 31 (ld 32),
 ot 34 31 (fd 1 3),
 ot 35 31 (ld 34),
 ot 36 31 (.call 54 [(.s 33),(.s 35),(.c (.fn 55 []))]),
 pF 37 31 36,
 mv 38 37,
 ot 39 38 (fd 2 2),
 ot 40 38 (ld 39),
 ot 41 38 (fd 2 3),
 ot 42 38 (ld 41),
 mt 43 5 38,
 ot 44 38 (.call 56 [(.s 40),(.s 42),(.s 43)]),
 pF 45 38 44,
 mv 46 45,
 ot 47 46 (fd 3 2),
 ot 48 46 (ld 47),
 ot 49 46 (fd 3 3),
 ot 50 46 (ld 49),
 ot 51 46 (.call 57 [(.s 48),(.s 50),(.c (.fn 58 []))]),
 pF 52 46 51,
 mv 53 52,
 ot 54 53 (fd 4 2),
 ot 55 53 (ld 54),
 ot 56 53 (fd 4 3),
 ot 57 53 (ld 56),
 ot 58 53 (.call 59 [(.s 55),(.s 57),(.c (.fn 60 []))]),
 pF 59 53 58,
 mv 60 59,
 ot 61 60 (fd 5 2),
 ot 62 60 (ld 61),
 ot 63 60 (fd 5 3),
 ot 64 60 (ld 63),
 mt 65 6 60,
 ot 66 60 (.call 61 [(.s 62),(.s 64),(.s 65)]),
 pF 67 60 66,
 mv 68 67,
 ot 69 68 (fd 6 2),
 ot 70 68 (ld 69),
 ot 71 68 (fd 6 3),
 ot 72 68 (ld 71),
 ot 73 68 (.call 62 [(.s 70),(.s 72),(.c (.fn 63 []))]),
 pF 74 68 73,
 mv 75 74,
 ot 76 75 (fd 9 2),
 ot 77 75 (ld 76),
 ot 78 75 (fd 9 3),
 ot 79 75 (ld 78),
 mt 80 7 75,
 ot 81 75 (.call 64 [(.s 77),(.s 79),(.s 80)]),
 pF 82 75 81,
 mv 83 82,
 ot 84 83 (fd 10 2),
 ot 85 83 (ld 84),
 ot 86 83 (fd 10 3),
 ot 87 83 (ld 86),
 mt 88 8 83,
 ot 89 83 (.call 65 [(.s 85),(.s 87),(.s 88)]),
 pF 90 83 89,
 mv 91 90,
 ot 92 91 (fd 11 2),
 ot 93 91 (ld 92),
 ot 94 91 (fd 11 3),
 ot 95 91 (ld 94),
 mt 96 9 91,
 ot 97 91 (.call 66 [(.s 93),(.s 95),(.s 96)]),
 pF 98 91 97,
 mv 4 98] [26,27,28,29,30,31,32,33,34,35,36,37,38,39,40,41,42,43,44,45,46,47,48,49,50,51,52,53,54,55,56,57,58,59,60,61,62,63,64,65,66,67,68,69,70,71,72,73,74,75,76,77,78,79,80,81,82,83,84,85,86,87,88,89,90,91,92,93,94,95,96,97,98])
 .ret))))))))⟩
theorem OQ:aq Tryz.prog 9=some de:=by kernel_rfl
abbrev Dz:FuncId:=9
def Ki:aF :=
⟨79,1,[.tmp 2],
 (sr [o0 1 (.box 33 12 (.s 0)),
 mI 2 0] []
 (sr [mI 3 0] []
 (.seq (sr [fa 14 2 1,
 lo 15 14,
 ln 16 15,
 mI 17 0] [14]
 (.block 0 (.loop (sr [bS 18 .lss 17 16] []
 (.seq (.cond (.s 18)
 .skip
 (.exit 0))
 (.seq (.block 1 (sr [ia 19 3 15 17,
 lS 20 3 19,
 o0 5 (.new 60 [(.int .i64 0),.nl,.nl]),
 sT 3 5 20] [19,20]
 (.reg [mv 21 3,
 fa 22 2 5,
 lo 23 22,
 ln 24 23,
 bS 25 .add 21 24,
 mv 3 25] [21,22,23,24,25])))
 (.reg [bI 26 .add 17 1,
 mv 17 26] [26])))))))
 (.seq (sr [fa 27 5 1,
 lo 28 27,
 ln 29 28,
 mI 30 0] [27]
 (.block 2 (.loop (sr [bS 31 .lss 30 29] []
 (.seq (.cond (.s 31)
 .skip
 (.exit 2))
 (.seq (.block 3 (sr [ia 32 3 28 30,
 lS 33 3 32,
 o0 7 (.new 62 [(.int .i64 0),(.bool false),.nl]),
 sT 3 7 33] [32,33]
 (.reg [mv 34 3,
 fa 35 2 7,
 lo 36 35,
 ln 37 36,
 bS 38 .add 34 37,
 mv 3 38] [34,35,36,37,38])))
 (.reg [bI 39 .add 30 1,
 mv 30 39] [39])))))))
 (.seq (sr [fa 40 9 1,
 lo 41 40,
 ln 42 41,
 mI 43 0] [40]
 (.block 4 (.loop (sr [bS 44 .lss 43 42] []
 (.seq (.cond (.s 44)
 .skip
 (.exit 4))
 (.seq (.block 5 (sr [ia 45 5 41 43,
 lS 46 5 45,
 o0 9 (.new 66 [(.int .i64 0),(.int .i64 0),.nl,(.int .i64 0),.nl]),
 sT 5 9 46] [45,46]
 (sr [mv 47 3,
 fa 48 2 9,
 lo 49 48,
 ln 50 49,
 bS 51 .add 47 50,
 mv 3 51] [47,48,49,50,51]
 (sr [fa 52 4 9,
 lo 53 52,
 ln 54 53,
 mI 55 0] [52]
 (.block 6 (.loop (sr [bS 56 .lss 55 54] []
 (.seq (.cond (.s 56)
 .skip
 (.exit 6))
 (.seq (.block 7 (sr [ia 57 1 53 55,
 lo 58 57,
 mv 11 58] [57,58]
 (.reg [mv 59 3,
 mv 60 11,
 ln 61 60,
 bS 62 .add 59 61,
 mv 3 62] [59,60,61,62])))
 (.reg [bI 63 .add 55 1,
 mv 55 63] [63]))))))))))
 (.reg [bI 64 .add 43 1,
 mv 43 64] [64])))))))
 (.seq (sr [fa 65 10 1,
 lo 66 65,
 ln 67 66,
 mI 68 0] [65]
 (.block 8 (.loop (sr [bS 69 .lss 68 67] []
 (.seq (.cond (.s 69)
 .skip
 (.exit 8))
 (.seq (.block 9 (sr [ia 70 4 66 68,
 lS 71 4 70,
 o0 13 (.new 69 [(.int .i64 0),(.int .i64 0),.nl,.nl]),
 sT 4 13 71] [70,71]
 (.reg [mv 72 3,
 fa 73 2 13,
 lo 74 73,
 ln 75 74,
 bS 76 .add 72 75,
 mv 3 76] [72,73,74,75,76])))
 (.reg [bI 77 .add 68 1,
 mv 68 77] [77])))))))
 (sr [mv 78 3,
 mv 2 78] [78]
 .ret)))))))⟩
theorem Tf:aq Tryz.prog 11=some Ki:=by kernel_rfl
abbrev QW:FuncId:=11
def sc:aF :=
⟨37,1,[.tmp 2],
 (sr [o0 2 (.mov (.c .nl))] []
 (sr [o0 3 (.mov (.c .nl))] []
 (.seq (sr [mI 4 0] []
 (.block 0 (.loop (.seq (sr [mv 6 4,
 mv 7 0,
 ln 8 7,
 bS 9 .lss 6 8] [6,7,8]
 (.cond (.s 9)
 .skip
 (.exit 0)))
 (.seq (.block 1 (sr [mv 12 0,
 mv 13 4,
 ia 14 9 12 13,
 lS 15 9 14,
 o0 5 (.new 79 [(.int .i64 0),(.int .i64 0),(.int .i64 0),(.int .u64 0),(.int .i64 0),(.int .i64 0),(.int .i64 0),.nl,.nl]),
 sT 9 5 15] [12,13,14,15]
 (sr [o0 16 (.bsl 49 1 [] []),
 mv 17 0,
 mv 18 4,
 ia 19 9 17 18,
 fa 20 7 19,
 lo 21 20,
 o0 22 (.app 49 1 (.s 16) (.s 21)),
 fa 23 7 5,
 sT 1 23 22] [16,17,18,19,20,21,22,23]
 (sr [o0 24 (.bsl 3 1 [] []),
 mv 25 0,
 mv 26 4,
 ia 27 9 25 26,
 fa 28 8 27,
 lo 29 28,
 o0 30 (.app 3 1 (.s 24) (.s 29)),
 fa 31 8 5,
 sT 1 31 30] [24,25,26,27,28,29,30,31]
 (.reg [mv 32 3,
 lS 33 9 5,
 o0 34 (.bsl 79 9 [[(.int .i64 0),(.int .i64 0),(.int .i64 0),(.int .u64 0),(.int .i64 0),(.int .i64 0),(.int .i64 0),.nl,.nl]] [(0,(.s 33))]),
 o0 35 (.app 79 9 (.s 32) (.s 34)),
 mv 3 35] [32,33,34,35])))))
 (.reg [mv 10 4,
 bI 11 .add 10 1,
 mv 4 11] [10,11]))))))
 (sr [mv 36 3,
 mv 2 36] [36]
 .ret))))⟩
theorem OZ:aq Tryz.prog 14=some sc:=by kernel_rfl
abbrev Qo:FuncId:=14
def zH:aF :=
⟨22,2,[.tmp 4],
 (sr [o0 4 (.mov (.c .nl))] []
 (sr [o0 5 (.mov (.c .nl))] []
 (.seq (sr [mv 8 0,
 ln 9 8,
 mI 10 0] []
 (.block 0 (.loop (sr [bS 11 .lss 10 9] []
 (.seq (.cond (.s 11)
 .skip
 (.exit 0))
 (.seq (.block 1 (sr [ia 12 2 8 10,
 lS 13 2 12,
 o0 7 (.new 47 [.nl,.nl]),
 sT 2 7 13] [12,13]
 (.reg [mv 14 5,
 mv 15 1,
 lS 16 2 7,
 o0 17 (.callv (.s 15) [(.s 16)]),
 o0 18 (.bsl 47 2 [[.nl,.nl]] [(0,(.s 17))]),
 o0 19 (.app 47 2 (.s 14) (.s 18)),
 mv 5 19] [14,15,16,17,18,19])))
 (.reg [bI 20 .add 10 1,
 mv 10 20] [20])))))))
 (sr [mv 21 5,
 mv 4 21] [21]
 .ret))))⟩
theorem Pa:aq Tryz.prog 15=some zH:=by kernel_rfl
abbrev QG:FuncId:=15
def N3:aF :=
⟨8,1,[.tmp 2],
 (sr [o0 2 (.mov (.c .nl))] []
 (.seq (sr [mv 3 0,
 o0 4 (.snl false (.s 3))] [3]
 (.cond (.s 4)
 (sr [o0 2 (.mov (.c .nl))] []
 .ret)
 .skip))
 (sr [o0 5 (.bsl 57 13 [] []),
 mv 6 0,
 o0 7 (.app 57 13 (.s 5) (.s 6)),
 mv 2 7] [5,6,7]
 .ret)))⟩
theorem Vi:aq Tryz.prog 18=some N3:=by kernel_rfl
abbrev Vu:FuncId:=18
def N4:aF :=
⟨8,1,[.tmp 2],
 (sr [o0 2 (.mov (.c .nl))] []
 (.seq (sr [mv 3 0,
 o0 4 (.snl false (.s 3))] [3]
 (.cond (.s 4)
 (sr [o0 2 (.mov (.c .nl))] []
 .ret)
 .skip))
 (sr [o0 5 (.bsl 51 3 [] []),
 mv 6 0,
 o0 7 (.app 51 3 (.s 5) (.s 6)),
 mv 2 7] [5,6,7]
 .ret)))⟩
theorem Vj:aq Tryz.prog 20=some N4:=by kernel_rfl
abbrev Vv:FuncId:=20
def zE:aF :=
⟨22,2,[.tmp 4],
 (sr [o0 4 (.mov (.c .nl))] []
 (sr [o0 5 (.mov (.c .nl))] []
 (.seq (sr [mv 8 0,
 ln 9 8,
 mI 10 0] []
 (.block 0 (.loop (sr [bS 11 .lss 10 9] []
 (.seq (.cond (.s 11)
 .skip
 (.exit 0))
 (.seq (.block 1 (sr [ia 12 3 8 10,
 lS 13 3 12,
 o0 7 (.new 60 [(.int .i64 0),.nl,.nl]),
 sT 3 7 13] [12,13]
 (.reg [mv 14 5,
 mv 15 1,
 lS 16 3 7,
 o0 17 (.callv (.s 15) [(.s 16)]),
 o0 18 (.bsl 60 3 [[(.int .i64 0),.nl,.nl]] [(0,(.s 17))]),
 o0 19 (.app 60 3 (.s 14) (.s 18)),
 mv 5 19] [14,15,16,17,18,19])))
 (.reg [bI 20 .add 10 1,
 mv 10 20] [20])))))))
 (sr [mv 21 5,
 mv 4 21] [21]
 .ret))))⟩
theorem O8:aq Tryz.prog 22=some zE:=by kernel_rfl
abbrev QD:FuncId:=22
def N7:aF :=
⟨22,2,[.tmp 4],
 (sr [o0 4 (.mov (.c .nl))] []
 (sr [o0 5 (.mov (.c .nl))] []
 (.seq (sr [mv 8 0,
 ln 9 8,
 mI 10 0] []
 (.block 0 (.loop (sr [bS 11 .lss 10 9] []
 (.seq (.cond (.s 11)
 .skip
 (.exit 0))
 (.seq (.block 1 (sr [ia 12 3 8 10,
 lS 13 3 12,
 o0 7 (.new 62 [(.int .i64 0),(.bool false),.nl]),
 sT 3 7 13] [12,13]
 (.reg [mv 14 5,
 mv 15 1,
 lS 16 3 7,
 o0 17 (.callv (.s 15) [(.s 16)]),
 o0 18 (.bsl 62 3 [[(.int .i64 0),(.bool false),.nl]] [(0,(.s 17))]),
 o0 19 (.app 62 3 (.s 14) (.s 18)),
 mv 5 19] [14,15,16,17,18,19])))
 (.reg [bI 20 .add 10 1,
 mv 10 20] [20])))))))
 (sr [mv 21 5,
 mv 4 21] [21]
 .ret))))⟩
theorem Vm:aq Tryz.prog 25=some N7:=by kernel_rfl
abbrev Vy:FuncId:=25
def zP:aF :=
⟨12,1,[.cell 2 (some 5)],
 (sr [o0 1 (.box 66 5 (.s 0)),
 o0 2 (.new 66 [(.int .i64 0),(.int .i64 0),.nl,(.int .i64 0),.nl])] []
 (.seq (.seq (.draw [⟨fa 3 2 1,[]⟩,
 ⟨lo 4 3,[0]⟩,
 ⟨c1 5 24 4,[1,0]⟩,
 ⟨fa 6 4 1,[]⟩,
 ⟨lo 7 6,[3]⟩] [(5,2)] [])
 (.seq (.draw [⟨o0 8 (.call 29 [(.s 7),(.c (.fn 24 []))]),[]⟩,
 ⟨fa 9 2 1,[]⟩] [(8,0)] [])
 (sr [sT 1 9 5] []
 (sr [fa 10 4 1] []
 (.reg [sT 1 10 8] [3,4,5,6,7,8,9,10])))))
 (sr [lS 11 5 1,
 sT 5 2 11] [11]
 .ret)))⟩
theorem Pe:aq Tryz.prog 28=some zP:=by kernel_rfl
abbrev yu:FuncId:=28
def zA:aF :=
⟨22,2,[.tmp 4],
 (sr [o0 4 (.mov (.c .nl))] []
 (sr [o0 5 (.mov (.c .nl))] []
 (.seq (sr [mv 8 0,
 ln 9 8,
 mI 10 0] []
 (.block 0 (.loop (sr [bS 11 .lss 10 9] []
 (.seq (.cond (.s 11)
 .skip
 (.exit 0))
 (.seq (.block 1 (sr [ia 12 1 8 10,
 lo 13 12,
 mv 7 13] [12,13]
 (.reg [mv 14 5,
 mv 15 1,
 mv 16 7,
 o0 17 (.callv (.s 15) [(.s 16)]),
 o0 18 (.bsl 58 1 [[.nl]] [(0,(.s 17))]),
 o0 19 (.app 58 1 (.s 14) (.s 18)),
 mv 5 19] [14,15,16,17,18,19])))
 (.reg [bI 20 .add 10 1,
 mv 10 20] [20])))))))
 (sr [mv 21 5,
 mv 4 21] [21]
 .ret))))⟩
theorem O4:aq Tryz.prog 29=some zA:=by kernel_rfl
abbrev Qt:FuncId:=29
def zQ:aF :=
⟨12,1,[.cell 2 (some 4)],
 (sr [o0 1 (.box 69 4 (.s 0)),
 o0 2 (.new 69 [(.int .i64 0),(.int .i64 0),.nl,.nl])] []
 (.seq (.seq (.draw [⟨fa 3 2 1,[]⟩,
 ⟨lo 4 3,[0]⟩,
 ⟨c1 5 24 4,[1,0]⟩,
 ⟨fa 6 3 1,[]⟩,
 ⟨lo 7 6,[3]⟩] [(5,2)] [])
 (.seq (.draw [⟨c1 8 32 7,[]⟩,
 ⟨fa 9 2 1,[]⟩] [(8,0)] [])
 (sr [sT 1 9 5] []
 (sr [fa 10 3 1] []
 (.reg [sT 1 10 8] [3,4,5,6,7,8,9,10])))))
 (sr [lS 11 4 1,
 sT 4 2 11] [11]
 .ret)))⟩
theorem Pf:aq Tryz.prog 31=some zQ:=by kernel_rfl
abbrev yw:FuncId:=31
def zR:aF :=
⟨8,1,[.cell 2 (some 3)],
 (.seq (.reg [o0 1 (.box 71 3 (.s 0)),
 o0 2 (.new 71 [(.int .i64 0),(.str []),.nl])] [])
 (sr [fa 3 2 1,
 lo 4 3,
 c1 5 32 4,
 fa 6 2 1,
 sT 1 6 5] [3,4,5,6]
 (sr [lS 7 3 1,
 sT 3 2 7] [7]
 .ret)))⟩
theorem Pg:aq Tryz.prog 34=some zR:=by kernel_rfl
abbrev yx:FuncId:=34
def Fd:aF :=
⟨27,2,[.tmp 4],
 (sr [mB 4 false] []
 (.seq (sr [mv 6 0,
 ln 7 6,
 mv 8 1,
 ln 9 8,
 bS 10 .neq 7 9] [6,7,8,9]
 (.cond (.s 10)
 (sr [mB 4 false] []
 .ret)
 .skip))
 (.seq (sr [mI 5 0] []
 (.block 0 (.loop (.seq (sr [mv 11 5,
 mv 12 0,
 ln 13 12,
 bS 14 .lss 11 13] [11,12,13]
 (.cond (.s 14)
 .skip
 (.exit 0)))
 (.seq (.block 1 (.seq (.seq (.draw [⟨mv 17 0,[]⟩,
 ⟨mv 18 5,[]⟩,
 ⟨ia 19 2 17 18,[0,1]⟩,
 ⟨lS 20 2 19,[2,0,1]⟩,
 ⟨mv 21 1,[]⟩,
 ⟨mv 22 5,[]⟩,
 ⟨ia 23 2 21 22,[4,5]⟩,
 ⟨lS 24 2 23,[6,4,5]⟩] [] [])
 (sr [c2 25 106 20 24] []
 (.reg [uN 26 25] [17,18,19,20,21,22,23,24,25])))
 (.cond (.s 26)
 (sr [mB 4 false] []
 .ret)
 .skip)))
 (.reg [mv 15 5,
 bI 16 .add 15 1,
 mv 5 16] [15,16]))))))
 (sr [mB 4 true] []
 .ret))))⟩
theorem SM:aq Tryz.prog 35=some Fd:=by kernel_rfl
abbrev Up:FuncId:=35
def zJ:aF :=
⟨59,2,[.tmp 4],
 (sr [o0 2 (.box 33 12 (.s 0)),
 o0 3 (.box 33 12 (.s 1)),
 mB 4 false] []
 (.seq (sr [fa 7 3 2,
 lo 8 7,
 ln 9 8,
 fa 10 3 3,
 lo 11 10,
 ln 12 11,
 bS 13 .neq 9 12,
 mv 14 13,
 oF 15 14 (fd 4 2),
 oF 16 14 (ld 15),
 oF 17 14 (.len (.s 16)),
 oF 18 14 (fd 4 3),
 oF 19 14 (ld 18),
 oF 20 14 (.len (.s 19)),
 oF 21 14 (.bin .neq (.s 17) (.s 20)),
 pT 22 14 21] [7,8,9,10,11,12,13,14,15,16,17,18,19,20,21]
 (.cond (.s 22)
 (sr [mB 4 false] []
 .ret)
 .skip))
 (.seq (sr [mI 5 0] []
 (.block 0 (.loop (.seq (sr [mv 23 5,
 fa 24 3 2,
 lo 25 24,
 ln 26 25,
 bS 27 .lss 23 26] [23,24,25,26]
 (.cond (.s 27)
 .skip
 (.exit 0)))
 (.seq (.block 1 (.seq (.seq (.draw [⟨fa 30 3 2,[]⟩,
 ⟨lo 31 30,[0]⟩,
 ⟨mv 32 5,[]⟩,
 ⟨ia 33 4 31 32,[1,0,2]⟩,
 ⟨lS 34 4 33,[3,1,0,2]⟩,
 ⟨fa 35 3 3,[]⟩,
 ⟨lo 36 35,[5]⟩,
 ⟨mv 37 5,[]⟩,
 ⟨ia 38 4 36 37,[6,5,7]⟩,
 ⟨lS 39 4 38,[8,6,5,7]⟩] [] [])
 (.reg [o0 40 (.sbin .neq [.i,.i,.i,.b] (.s 34) (.s 39))] [30,31,32,33,34,35,36,37,38,39]))
 (.cond (.s 40)
 (sr [mB 4 false] []
 .ret)
 .skip)))
 (.reg [mv 28 5,
 bI 29 .add 28 1,
 mv 5 29] [28,29]))))))
 (.seq (sr [mI 6 0] []
 (.block 2 (.loop (.seq (sr [mv 41 6,
 fa 42 4 2,
 lo 43 42,
 ln 44 43,
 bS 45 .lss 41 44] [41,42,43,44]
 (.cond (.s 45)
 .skip
 (.exit 2)))
 (.seq (.block 3 (.seq (.seq (.draw [⟨fa 48 4 2,[]⟩,
 ⟨lo 49 48,[0]⟩,
 ⟨mv 50 6,[]⟩,
 ⟨ia 51 3 49 50,[1,0,2]⟩,
 ⟨lS 52 3 51,[3,1,0,2]⟩,
 ⟨fa 53 4 3,[]⟩,
 ⟨lo 54 53,[5]⟩,
 ⟨mv 55 6,[]⟩,
 ⟨ia 56 3 54 55,[6,5,7]⟩,
 ⟨lS 57 3 56,[8,6,5,7]⟩] [] [])
 (.reg [o0 58 (.sbin .neq [.i,.i,.b] (.s 52) (.s 57))] [48,49,50,51,52,53,54,55,56,57]))
 (.cond (.s 58)
 (sr [mB 4 false] []
 .ret)
 .skip)))
 (.reg [mv 46 6,
 bI 47 .add 46 1,
 mv 6 47] [46,47]))))))
 (sr [mB 4 true] []
 .ret)))))⟩
theorem SL:aq Tryz.prog 38=some zJ:=by kernel_rfl
abbrev Uo:FuncId:=38
def E_:aF :=
⟨56,2,[.tmp 4],
 (sr [mB 4 false] []
 (.seq (sr [mv 8 0,
 ln 9 8,
 mv 10 1,
 ln 11 10,
 bS 12 .neq 9 11] [8,9,10,11]
 (.cond (.s 12)
 (sr [mB 4 false] []
 .ret)
 .skip))
 (.seq (sr [mI 5 0] []
 (.block 0 (.loop (.seq (sr [mv 13 5,
 mv 14 0,
 ln 15 14,
 bS 16 .lss 13 15] [13,14,15]
 (.cond (.s 16)
 .skip
 (.exit 0)))
 (.seq (.block 1 (.seq (.seq (.draw [⟨mv 19 0,[]⟩,
 ⟨mv 20 5,[]⟩,
 ⟨ia 21 4 19 20,[0,1]⟩,
 ⟨lS 22 4 21,[2,0,1]⟩,
 ⟨mv 23 1,[]⟩,
 ⟨mv 24 5,[]⟩,
 ⟨ia 25 4 23 24,[4,5]⟩,
 ⟨lS 26 4 25,[6,4,5]⟩,
 ⟨o0 6 (.new 69 [(.int .i64 0),(.int .i64 0),.nl,.nl]),[]⟩,
 ⟨o0 7 (.new 69 [(.int .i64 0),(.int .i64 0),.nl,.nl]),[]⟩,
 ⟨sT 4 6 22,[8,3,2,0,1,9]⟩] [(6,8),(7,9)] [])
 (.reg [sT 4 7 26] [19,20,21,22,23,24,25,26]))
 (sr [fa 27 0 6,
 lo 28 27,
 fa 29 0 7,
 lo 30 29,
 bS 31 .neq 28 30,
 mv 32 31,
 oF 33 32 (fd 1 6),
 oF 34 32 (ld 33),
 oF 35 32 (fd 1 7),
 oF 36 32 (ld 35),
 oF 37 32 (.bin .neq (.s 34) (.s 36)),
 pT 38 32 37,
 mv 39 38,
 oF 40 39 (fd 2 6),
 oF 41 39 (ld 40),
 oF 42 39 (fd 2 7),
 oF 43 39 (ld 42),
 oF 44 39 (.call 108 [(.s 41),(.s 43)]),
 oF 45 39 (.un .not (.s 44)),
 pT 46 39 45,
 mv 47 46,
 oF 48 47 (fd 3 6),
 oF 49 47 (ld 48),
 oF 50 47 (.cvs (.s 49)),
 oF 51 47 (fd 3 7),
 oF 52 47 (ld 51),
 oF 53 47 (.cvs (.s 52)),
 oF 54 47 (.bin .neq (.s 50) (.s 53)),
 pT 55 47 54] [27,28,29,30,31,32,33,34,35,36,37,38,39,40,41,42,43,44,45,46,47,48,49,50,51,52,53,54]
 (.cond (.s 55)
 (sr [mB 4 false] []
 .ret)
 .skip))))
 (.reg [mv 17 5,
 bI 18 .add 17 1,
 mv 5 18] [17,18]))))))
 (sr [mB 4 true] []
 .ret))))⟩
theorem SI:aq Tryz.prog 42=some E_:=by kernel_rfl
abbrev Uk:FuncId:=42
def wH:aF :=
⟨24,2,[.tmp 4],
 (sr [o0 2 (.box 60 3 (.s 0)),
 o0 3 (.box 60 3 (.s 1)),
 mB 4 false] []
 (sr [fa 5 0 2,
 lo 6 5,
 fa 7 0 3,
 lo 8 7,
 bS 9 .eql 6 8,
 mv 10 9,
 ot 11 10 (fd 1 2),
 ot 12 10 (ld 11),
 ot 13 10 (fd 1 3),
 ot 14 10 (ld 13),
 ot 15 10 (.call 45 [(.s 12),(.s 14)]),
 pF 16 10 15,
 mv 17 16,
 ot 18 17 (fd 2 2),
 ot 19 17 (ld 18),
 ot 20 17 (fd 2 3),
 ot 21 17 (ld 20),
 ot 22 17 (.call 46 [(.s 19),(.s 21)]),
 pF 23 17 22,
 mv 4 23] [5,6,7,8,9,10,11,12,13,14,15,16,17,18,19,20,21,22,23]
 .ret))⟩
theorem Th:aq Tryz.prog 44=some wH:=by kernel_rfl
abbrev QX:FuncId:=44
def J2:aF :=
⟨8,2,[.tmp 4],
 (sr [mB 4 false] []
 (sr [mv 5 0,
 mv 6 1,
 c2 7 109 5 6,
 mv 4 7] [5,6,7]
 .ret))⟩
theorem SR:aq Tryz.prog 45=some J2:=by kernel_rfl
abbrev Ut:FuncId:=45
def sd:aF :=
⟨38,2,[.tmp 4],
 (sr [o0 2 (.box 66 5 (.s 0)),
 o0 3 (.box 66 5 (.s 1)),
 mB 4 false] []
 (.seq (.reg [fa 5 0 2,
 lo 6 5,
 fa 7 0 3,
 lo 8 7,
 bS 9 .eql 6 8,
 mv 10 9,
 ot 11 10 (fd 1 2),
 ot 12 10 (ld 11),
 ot 13 10 (fd 1 3),
 ot 14 10 (ld 13),
 ot 15 10 (.bin .eql (.s 12) (.s 14)),
 pF 16 10 15,
 mv 17 16,
 ot 18 17 (fd 3 2),
 ot 19 17 (ld 18),
 ot 20 17 (fd 3 3),
 ot 21 17 (ld 20),
 ot 22 17 (.bin .eql (.s 19) (.s 21)),
 pF 23 17 22,
 mv 24 23,
 ot 25 24 (fd 2 2),
 ot 26 24 (ld 25),
 ot 27 24 (fd 2 3),
 ot 28 24 (ld 27),
 ot 29 24 (.call 46 [(.s 26),(.s 28)]),
 pF 30 24 29,
 mv 31 30,
 ot 32 31 (fd 4 2),
 ot 33 31 (ld 32),
 ot 34 31 (fd 4 3),
 ot 35 31 (ld 34),
 ot 36 31 (.call 49 [(.s 33),(.s 35),(.c (.fn 46 []))]),
 pF 37 31 36,
 mv 4 37] [5,6,7,8,9,10,11,12,13,14,15,16,17,18,19,20,21,22,23,24,25,26,27,28,29,30,31,32,33,34,35,36,37])
 .ret))⟩
theorem Tj:aq Tryz.prog 48=some sd:=by kernel_rfl
abbrev QZ:FuncId:=48
def E4:aF :=
⟨30,3,[.tmp 6],
 (sr [mB 6 false] []
 (.seq (sr [mv 8 0,
 ln 9 8,
 mv 10 1,
 ln 11 10,
 bS 12 .neq 9 11] [8,9,10,11]
 (.cond (.s 12)
 (sr [mB 6 false] []
 .ret)
 .skip))
 (.seq (sr [mv 13 0,
 ln 14 13,
 mI 15 0] [13]
 (.block 0 (.loop (sr [bS 16 .lss 15 14] []
 (.seq (.cond (.s 16)
 .skip
 (.exit 0))
 (.seq (.block 1 (sr [mv 17 15,
 mv 7 17] [17]
 (.seq (.seq (.draw [⟨mv 18 2,[]⟩,
 ⟨mv 19 0,[]⟩,
 ⟨mv 20 7,[]⟩,
 ⟨ia 21 2 19 20,[1,2]⟩,
 ⟨lS 22 2 21,[3,1,2]⟩,
 ⟨mv 23 1,[]⟩,
 ⟨mv 24 7,[]⟩,
 ⟨ia 25 2 23 24,[5,6]⟩,
 ⟨lS 26 2 25,[7,5,6]⟩] [] [])
 (sr [o0 27 (.callv (.s 18) [(.s 22),(.s 26)])] []
 (.reg [uN 28 27] [18,19,20,21,22,23,24,25,26,27])))
 (.cond (.s 28)
 (sr [mB 6 false] []
 .ret)
 .skip))))
 (.reg [bI 29 .add 15 1,
 mv 15 29] [29])))))))
 (sr [mB 6 true] []
 .ret))))⟩
theorem Sy:aq Tryz.prog 52=some E4:=by kernel_rfl
abbrev Ub:FuncId:=52
def E1:aF :=
⟨30,3,[.tmp 6],
 (sr [mB 6 false] []
 (.seq (sr [mv 8 0,
 ln 9 8,
 mv 10 1,
 ln 11 10,
 bS 12 .neq 9 11] [8,9,10,11]
 (.cond (.s 12)
 (sr [mB 6 false] []
 .ret)
 .skip))
 (.seq (sr [mv 13 0,
 ln 14 13,
 mI 15 0] [13]
 (.block 0 (.loop (sr [bS 16 .lss 15 14] []
 (.seq (.cond (.s 16)
 .skip
 (.exit 0))
 (.seq (.block 1 (sr [mv 17 15,
 mv 7 17] [17]
 (.seq (.seq (.draw [⟨mv 18 2,[]⟩,
 ⟨mv 19 0,[]⟩,
 ⟨mv 20 7,[]⟩,
 ⟨ia 21 3 19 20,[1,2]⟩,
 ⟨lS 22 3 21,[3,1,2]⟩,
 ⟨mv 23 1,[]⟩,
 ⟨mv 24 7,[]⟩,
 ⟨ia 25 3 23 24,[5,6]⟩,
 ⟨lS 26 3 25,[7,5,6]⟩] [] [])
 (sr [o0 27 (.callv (.s 18) [(.s 22),(.s 26)])] []
 (.reg [uN 28 27] [18,19,20,21,22,23,24,25,26,27])))
 (.cond (.s 28)
 (sr [mB 6 false] []
 .ret)
 .skip))))
 (.reg [bI 29 .add 15 1,
 mv 15 29] [29])))))))
 (sr [mB 6 true] []
 .ret))))⟩
theorem Sv:aq Tryz.prog 56=some E1:=by kernel_rfl
abbrev T9:FuncId:=56
def JU:aF :=
⟨8,2,[.tmp 4],
 (sr [o0 2 (.box 51 3 (.s 0)),
 o0 3 (.box 51 3 (.s 1)),
 mB 4 false] []
 (sr [lS 5 3 2,
 lS 6 3 3,
 o0 7 (.sbin .eql [.i,.i,.b] (.s 5) (.s 6)),
 mv 4 7] [5,6,7]
 .ret))⟩
theorem Sa:aq Tryz.prog 60=some JU:=by kernel_rfl
abbrev Qs:FuncId:=60
def EV:aF :=
⟨30,3,[.tmp 6],
 (sr [mB 6 false] []
 (.seq (sr [mv 8 0,
 ln 9 8,
 mv 10 1,
 ln 11 10,
 bS 12 .neq 9 11] [8,9,10,11]
 (.cond (.s 12)
 (sr [mB 6 false] []
 .ret)
 .skip))
 (.seq (sr [mv 13 0,
 ln 14 13,
 mI 15 0] [13]
 (.block 0 (.loop (sr [bS 16 .lss 15 14] []
 (.seq (.cond (.s 16)
 .skip
 (.exit 0))
 (.seq (.block 1 (sr [mv 17 15,
 mv 7 17] [17]
 (.seq (.seq (.draw [⟨mv 18 2,[]⟩,
 ⟨mv 19 0,[]⟩,
 ⟨mv 20 7,[]⟩,
 ⟨ia 21 3 19 20,[1,2]⟩,
 ⟨lS 22 3 21,[3,1,2]⟩,
 ⟨mv 23 1,[]⟩,
 ⟨mv 24 7,[]⟩,
 ⟨ia 25 3 23 24,[5,6]⟩,
 ⟨lS 26 3 25,[7,5,6]⟩] [] [])
 (sr [o0 27 (.callv (.s 18) [(.s 22),(.s 26)])] []
 (.reg [uN 28 27] [18,19,20,21,22,23,24,25,26,27])))
 (.cond (.s 28)
 (sr [mB 6 false] []
 .ret)
 .skip))))
 (.reg [bI 29 .add 15 1,
 mv 15 29] [29])))))))
 (sr [mB 6 true] []
 .ret))))⟩
theorem Sj:aq Tryz.prog 62=some EV:=by kernel_rfl
abbrev T3:FuncId:=62
def EU:aF :=
⟨30,3,[.tmp 6],
 (sr [mB 6 false] []
 (.seq (sr [mv 8 0,
 ln 9 8,
 mv 10 1,
 ln 11 10,
 bS 12 .neq 9 11] [8,9,10,11]
 (.cond (.s 12)
 (sr [mB 6 false] []
 .ret)
 .skip))
 (.seq (sr [mv 13 0,
 ln 14 13,
 mI 15 0] [13]
 (.block 0 (.loop (sr [bS 16 .lss 15 14] []
 (.seq (.cond (.s 16)
 .skip
 (.exit 0))
 (.seq (.block 1 (sr [mv 17 15,
 mv 7 17] [17]
 (.seq (.seq (.draw [⟨mv 18 2,[]⟩,
 ⟨mv 19 0,[]⟩,
 ⟨mv 20 7,[]⟩,
 ⟨ia 21 3 19 20,[1,2]⟩,
 ⟨lS 22 3 21,[3,1,2]⟩,
 ⟨mv 23 1,[]⟩,
 ⟨mv 24 7,[]⟩,
 ⟨ia 25 3 23 24,[5,6]⟩,
 ⟨lS 26 3 25,[7,5,6]⟩] [] [])
 (sr [o0 27 (.callv (.s 18) [(.s 22),(.s 26)])] []
 (.reg [uN 28 27] [18,19,20,21,22,23,24,25,26,27])))
 (.cond (.s 28)
 (sr [mB 6 false] []
 .ret)
 .skip))))
 (.reg [bI 29 .add 15 1,
 mv 15 29] [29])))))))
 (sr [mB 6 true] []
 .ret))))⟩
theorem Si:aq Tryz.prog 66=some EU:=by kernel_rfl
abbrev T0:FuncId:=66
def zK:aF :=
⟨25,1,[.tmp 2],
 (sr [o0 1 (.box 47 2 (.s 0)),
 mI 2 0] []
 (.seq (.block 0 (sr [fa 4 0 1,
 lo 5 4,
 ln 6 5,
 bI 7 .gtr 6 8,
 mv 8 7,
 oF 9 8 (fd 1 1),
 oF 10 8 (ld 9),
 oF 11 8 (.len (.s 10)),
 oF 12 8 (.bin .gtr (.s 11) (iC 8)),
 pT 13 8 12,
 mv 3 13] [4,5,6,7,8,9,10,11,12,13]
 (.cond (.s 3)
 (sr [mI 2 6] []
 .ret)
 (sr [fa 15 0 1,
 lo 16 15,
 c1 17 112 16,
 uN 18 17,
 mv 19 18,
 oF 20 19 (fd 1 1),
 oF 21 19 (ld 20),
 oF 22 19 (.call 112 [(.s 21)]),
 oF 23 19 (.un .not (.s 22)),
 pT 24 19 23,
 mv 14 24] [15,16,17,18,19,20,21,22,23,24]
 (.cond (.s 14)
 (sr [mI 2 12] []
 .ret)
 .skip)))))
 (sr [mI 2 0] []
 .ret)))⟩
theorem S1:aq Tryz.prog 69=some zK:=by kernel_rfl
abbrev Uu:FuncId:=69
def J4:aF :=
⟨8,2,[.tmp 4,.tmp 5],
 (sr [o0 3 (.box 57 13 (.s 1)),
 mI 4 0,
 mI 5 0] []
 (sr [lS 6 13 3,
 c1 7 72 6,
 mI 4 0,
 mv 5 7] [6,7]
 .ret))⟩
theorem ST:aq Tryz.prog 71=some J4:=by kernel_rfl
abbrev QN:FuncId:=71
def RQ:aF :=
⟨56,6,[],
 (.seq (sr [mv 16 2,
 ln 17 16,
 mv 18 4,
 bS 19 .add 17 18,
 mv 20 3,
 bS 21 .gtr 19 20] [16,17,18,19,20]
 (.cond (.s 21)
 (.reg [mv 22 0,
 mv 23 1,
 mv 24 3,
 mv 25 4,
 bS 26 .sub 24 25,
 o0 27 (.mnx true (iC 0) (.s 26)),
 o0 28 (.call 90 [(.s 22),(.s 23),(.s 27),(iC 0),(iC 6)])] [22,23,24,25,26,27,28])
 .skip))
 (sr [mv 29 2,
 ln 30 29,
 mI 31 0] []
 (.block 0 (.loop (sr [bS 32 .lss 31 30] []
 (.seq (.cond (.s 32)
 .skip
 (.exit 0))
 (.seq (.block 1 (sr [mv 33 31,
 ia 34 3 29 31,
 lS 35 3 34,
 o0 13 (.new 60 [(.int .i64 0),.nl,.nl]),
 mv 12 33,
 sT 3 13 35] [33,34,35]
 (.seq (sr [mv 36 0,
 nk 37 36,
 fa 38 0 37,
 fa 39 3 38,
 lo 40 39,
 bI 41 .neq 40 0] [36,37,38,39,40]
 (cR 41))
 (sr [mv 43 5,
 mv 44 12,
 lS 45 3 13,
 o0 46 (.callv (.s 43) [(.s 44),(.s 45)]),
 mv 42 46,
 xt 47 42 0,
 xt 48 42 1,
 mv 14 47,
 mv 15 48] [43,44,45,46,42,47,48]
 (.reg [mv 49 0,
 mv 50 1,
 mv 51 12,
 mv 52 14,
 mv 53 15,
 o0 54 (.call 90 [(.s 49),(.s 50),(.s 51),(.s 52),(.s 53)])] [49,50,51,52,53,54])))))
 (.reg [bI 55 .add 31 1,
 mv 31 55] [55]))))))))⟩
theorem Sq:aq Tryz.prog 73=some RQ:=by kernel_rfl
abbrev Ms:FuncId:=73
def RP:aF :=
⟨56,6,[],
 (.seq (sr [mv 16 2,
 ln 17 16,
 mv 18 4,
 bS 19 .add 17 18,
 mv 20 3,
 bS 21 .gtr 19 20] [16,17,18,19,20]
 (.cond (.s 21)
 (.reg [mv 22 0,
 mv 23 1,
 mv 24 3,
 mv 25 4,
 bS 26 .sub 24 25,
 o0 27 (.mnx true (iC 0) (.s 26)),
 o0 28 (.call 90 [(.s 22),(.s 23),(.s 27),(iC 0),(iC 6)])] [22,23,24,25,26,27,28])
 .skip))
 (sr [mv 29 2,
 ln 30 29,
 mI 31 0] []
 (.block 0 (.loop (sr [bS 32 .lss 31 30] []
 (.seq (.cond (.s 32)
 .skip
 (.exit 0))
 (.seq (.block 1 (sr [mv 33 31,
 ia 34 4 29 31,
 lS 35 4 34,
 o0 13 (.new 53 [(.int .i64 0),(.int .i64 0),(.int .i64 0),(.bool false)]),
 mv 12 33,
 sT 4 13 35] [33,34,35]
 (.seq (sr [mv 36 0,
 nk 37 36,
 fa 38 0 37,
 fa 39 3 38,
 lo 40 39,
 bI 41 .neq 40 0] [36,37,38,39,40]
 (cR 41))
 (sr [mv 43 5,
 mv 44 12,
 lS 45 4 13,
 o0 46 (.callv (.s 43) [(.s 44),(.s 45)]),
 mv 42 46,
 xt 47 42 0,
 xt 48 42 1,
 mv 14 47,
 mv 15 48] [43,44,45,46,42,47,48]
 (.reg [mv 49 0,
 mv 50 1,
 mv 51 12,
 mv 52 14,
 mv 53 15,
 o0 54 (.call 90 [(.s 49),(.s 50),(.s 51),(.s 52),(.s 53)])] [49,50,51,52,53,54])))))
 (.reg [bI 55 .add 31 1,
 mv 31 55] [55]))))))))⟩
theorem Sn:aq Tryz.prog 76=some RP:=by kernel_rfl
abbrev QC:FuncId:=76
def VC:aF :=
⟨56,6,[],
 (.seq (sr [mv 16 2,
 ln 17 16,
 mv 18 4,
 bS 19 .add 17 18,
 mv 20 3,
 bS 21 .gtr 19 20] [16,17,18,19,20]
 (.cond (.s 21)
 (.reg [mv 22 0,
 mv 23 1,
 mv 24 3,
 mv 25 4,
 bS 26 .sub 24 25,
 o0 27 (.mnx true (iC 0) (.s 26)),
 o0 28 (.call 90 [(.s 22),(.s 23),(.s 27),(iC 0),(iC 6)])] [22,23,24,25,26,27,28])
 .skip))
 (sr [mv 29 2,
 ln 30 29,
 mI 31 0] []
 (.block 0 (.loop (sr [bS 32 .lss 31 30] []
 (.seq (.cond (.s 32)
 .skip
 (.exit 0))
 (.seq (.block 1 (sr [mv 33 31,
 ia 34 3 29 31,
 lS 35 3 34,
 o0 13 (.new 62 [(.int .i64 0),(.bool false),.nl]),
 mv 12 33,
 sT 3 13 35] [33,34,35]
 (.seq (sr [mv 36 0,
 nk 37 36,
 fa 38 0 37,
 fa 39 3 38,
 lo 40 39,
 bI 41 .neq 40 0] [36,37,38,39,40]
 (cR 41))
 (sr [mv 43 5,
 mv 44 12,
 lS 45 3 13,
 o0 46 (.callv (.s 43) [(.s 44),(.s 45)]),
 mv 42 46,
 xt 47 42 0,
 xt 48 42 1,
 mv 14 47,
 mv 15 48] [43,44,45,46,42,47,48]
 (.reg [mv 49 0,
 mv 50 1,
 mv 51 12,
 mv 52 14,
 mv 53 15,
 o0 54 (.call 90 [(.s 49),(.s 50),(.s 51),(.s 52),(.s 53)])] [49,50,51,52,53,54])))))
 (.reg [bI 55 .add 31 1,
 mv 31 55] [55]))))))))⟩
theorem VJ:aq Tryz.prog 82=some VC:=by kernel_rfl
abbrev Vz:FuncId:=82
def J9:aF :=
⟨8,2,[.tmp 4,.tmp 5],
 (sr [o0 3 (.box 64 3 (.s 1)),
 mI 4 0,
 mI 5 0] []
 (sr [lS 6 3 3,
 c1 7 88 6,
 mI 4 0,
 mv 5 7] [6,7]
 .ret))⟩
theorem SY:aq Tryz.prog 87=some J9:=by kernel_rfl
abbrev QS:FuncId:=87
def zf:aF :=
⟨24,1,[.tmp 2],
 (sr [o0 1 (.box 64 3 (.s 0)),
 mI 2 0] []
 (.seq (sr [fa 4 0 1,
 lo 5 4,
 c1 6 113 5,
 mv 3 6] [4,5,6]
 (sr [mv 7 3,
 bI 8 .neq 7 0] [7]
 (.cond (.s 8)
 (sr [mv 9 3,
 mv 2 9] [9]
 .ret)
 .skip)))
 (.seq (.block 0 (sr [fa 11 1 1,
 lo 12 11,
 bI 13 .lss 12 0,
 mv 14 13,
 oF 15 14 (fd 1 1),
 oF 16 14 (ld 15),
 oF 17 14 (.bin .gtr (.s 16) (iC 3)),
 pT 18 14 17,
 mv 10 18] [11,12,13,14,15,16,17,18]
 (.cond (.s 10)
 (sr [mI 2 1] []
 .ret)
 (sr [fa 20 2 1,
 lo 21 20,
 c1 22 89 21,
 uN 23 22,
 mv 19 23] [20,21,22,23]
 (.cond (.s 19)
 (sr [mI 2 11] []
 .ret)
 .skip)))))
 (sr [mI 2 0] []
 .ret))))⟩
theorem Ow:aq Tryz.prog 88=some zf:=by kernel_rfl
abbrev P5:FuncId:=88
def J_:aF :=
⟨10,2,[.tmp 4,.tmp 5],
 (sr [o0 3 (.box 66 5 (.s 1)),
 mI 4 0,
 mI 5 0] []
 (sr [lS 6 5 3,
 c1 7 93 6,
 xt 8 7 0,
 xt 9 7 1,
 mv 4 8,
 mv 5 9] [6,7,8,9]
 .ret))⟩
theorem SZ:aq Tryz.prog 92=some J_:=by kernel_rfl
abbrev QT:FuncId:=92
def mN:aF :=
⟨69,1,[.tmp 2,.tmp 3],
 (sr [o0 1 (.box 66 5 (.s 0)),
 mI 2 0,
 mI 3 0] []
 (.seq (.block 0 (sr [fa 9 0 1,
 lo 10 9,
 bI 11 .lss 10 0,
 mv 12 11,
 oF 13 12 (fd 0 1),
 oF 14 12 (ld 13),
 oF 15 12 (.bin .gtr (.s 14) (iC 2)),
 pT 16 12 15,
 mv 17 16,
 oF 18 17 (fd 0 1),
 oF 19 17 (ld 18),
 oF 20 17 (.bin .neq (.s 19) (iC 0)),
 mf 21 20 17,
 ot 22 21 (fd 1 1),
 ot 23 21 (ld 22),
 ot 24 21 (.bin .neq (.s 23) (iC 0)),
 mt 25 24 21,
 oF 26 25 (fd 2 1),
 oF 27 25 (ld 26),
 oF 28 25 (.len (.s 27)),
 oF 29 25 (.bin .gtr (.s 28) (iC 0)),
 ot 30 21 (.pick (.s 25) (bC true) (.s 29)),
 oF 31 17 (.pick (.s 21) (.s 30) (bC false)),
 pT 32 17 31,
 mv 8 32] [9,10,11,12,13,14,15,16,17,18,19,20,21,22,23,24,25,26,27,28,29,30,31,32]
 (.cond (.s 8)
 (sr [mI 2 0,
 mI 3 1] []
 .ret)
 (sr [fa 34 1 1,
 lo 35 34,
 c1 36 89 35,
 uN 37 36,
 mv 33 37] [34,35,36,37]
 (.cond (.s 33)
 (sr [mI 2 0,
 mI 3 11] []
 .ret)
 (sr [fa 39 3 1,
 lo 40 39,
 c1 41 115 40,
 uN 42 41,
 mv 38 42] [39,40,41,42]
 (.cond (.s 38)
 (sr [mI 2 0,
 mI 3 12] []
 .ret)
 (sr [fa 44 4 1,
 lo 45 44,
 ln 46 45,
 bI 47 .gtr 46 256,
 mv 43 47] [44,45,46,47]
 (.cond (.s 43)
 (sr [mI 2 0,
 mI 3 6] []
 .ret)
 .skip)))))))))
 (.seq (.seq (.reg [fa 48 2 1,
 lo 49 48,
 o0 50 (.bsl 58 1 [[.nl]] [(0,(.s 49))]),
 fa 51 4 1,
 lo 52 51,
 o0 53 (.app 58 1 (.s 50) (.s 52)),
 ln 54 53,
 mI 55 0] [48,49,50,51,52])
 (.block 1 (.loop (sr [bS 56 .lss 55 54] []
 (.seq (.cond (.s 56)
 .skip
 (.exit 1))
 (.seq (.block 2 (sr [ia 57 1 53 55,
 lo 58 57,
 mv 5 58] [57,58]
 (sr [mv 60 5,
 c1 61 85 60,
 mv 59 61,
 xt 62 59 0,
 xt 63 59 1,
 mv 6 62,
 mv 7 63] [60,61,59,62,63]
 (sr [mv 64 7,
 bI 65 .neq 64 0] [64]
 (.cond (.s 65)
 (sr [mv 66 6,
 mv 67 7,
 mv 2 66,
 mv 3 67] [66,67]
 .ret)
 .skip)))))
 (.reg [bI 68 .add 55 1,
 mv 55 68] [68])))))))
 (sr [mI 2 0,
 mI 3 0] []
 .ret))))⟩
theorem OU:aq Tryz.prog 93=some mN:=by kernel_rfl
abbrev Qj:FuncId:=93
def J0:aF :=
⟨8,2,[.tmp 4,.tmp 5],
 (sr [o0 3 (.box 71 3 (.s 1)),
 mI 4 0,
 mI 5 0] []
 (sr [lS 6 3 3,
 c1 7 99 6,
 mI 4 0,
 mv 5 7] [6,7]
 .ret))⟩
theorem SO:aq Tryz.prog 98=some J0:=by kernel_rfl
abbrev QK:FuncId:=98
def J1:aF :=
⟨11,2,[.tmp 4,.tmp 5],
 (sr [o0 3 (.box 60 3 (.s 1)),
 mI 4 0,
 mI 5 0] []
 (sr [fa 6 2 3,
 lo 7 6,
 c1 8 85 7,
 xt 9 8 0,
 xt 10 8 1,
 mv 4 9,
 mv 5 10] [6,7,8,9,10]
 .ret))⟩
theorem SP:aq Tryz.prog 100=some J1:=by kernel_rfl
abbrev QL:FuncId:=100
def zo:aF :=
⟨55,1,[],
 (sr [mI 2 0] []
 (.block 0 (.loop (.seq (sr [mv 5 2,
 mv 6 0,
 ln 7 6,
 bS 8 .lss 5 7] [5,6,7]
 (.cond (.s 8)
 .skip
 (.exit 0)))
 (.seq (.block 1 (.seq (sr [mI 3 0] []
 (.block 2 (.loop (.seq (sr [mv 11 3,
 mv 12 0,
 mv 13 2,
 ia 14 9 12 13,
 fa 15 7 14,
 lo 16 15,
 ln 17 16,
 bS 18 .lss 11 17] [11,12,13,14,15,16,17]
 (.cond (.s 18)
 .skip
 (.exit 2)))
 (.seq (.block 3 (.reg [mv 21 0,
 mv 22 2,
 ia 23 9 21 22,
 fa 24 7 23,
 lo 25 24,
 mv 26 3,
 ia 27 1 25 26,
 lo 28 27,
 bI 29 .add 28 1,
 ia 30 1 25 26,
 sT 1 30 29] [21,22,23,24,25,26,27,28,29,30]))
 (.reg [mv 19 3,
 bI 20 .add 19 1,
 mv 3 20] [19,20]))))))
 (.seq (sr [mI 4 0] []
 (.block 4 (.loop (.seq (sr [mv 31 4,
 mv 32 0,
 mv 33 2,
 ia 34 9 32 33,
 fa 35 8 34,
 lo 36 35,
 ln 37 36,
 bS 38 .lss 31 37] [31,32,33,34,35,36,37]
 (.cond (.s 38)
 .skip
 (.exit 4)))
 (.seq (.block 5 (.reg [mv 41 0,
 mv 42 2,
 ia 43 9 41 42,
 fa 44 8 43,
 lo 45 44,
 mv 46 4,
 ia 47 1 45 46,
 lo 48 47,
 bI 49 .add 48 1,
 ia 50 1 45 46,
 sT 1 50 49] [41,42,43,44,45,46,47,48,49,50]))
 (.reg [mv 39 4,
 bI 40 .add 39 1,
 mv 4 40] [39,40]))))))
 (.reg [mv 51 0,
 mv 52 2,
 o0 53 (.build [(.int .i64 0),(.int .i64 0),(.int .i64 0),(.int .u64 0),(.int .i64 0),(.int .i64 0),(.int .i64 0),.nl,.nl] [(0,1,(iC (-1)))]),
 ia 54 9 51 52,
 sT 9 54 53] [51,52,53,54]))))
 (.reg [mv 9 2,
 bI 10 .add 9 1,
 mv 2 10] [9,10]))))))⟩
theorem OH:aq Tryz.prog 102=some zo:=by kernel_rfl
abbrev Jp:FuncId:=102
def E5:aF :=
⟨26,2,[.tmp 4],
 (sr [mB 4 false] []
 (.seq (sr [mv 7 0,
 ln 8 7,
 mv 9 1,
 ln 10 9,
 bS 11 .neq 8 10] [7,8,9,10]
 (.cond (.s 11)
 (sr [mB 4 false] []
 .ret)
 .skip))
 (.seq (sr [mv 12 0,
 ln 13 12,
 mI 14 0] []
 (.block 0 (.loop (sr [bS 15 .lss 14 13] []
 (.seq (.cond (.s 15)
 .skip
 (.exit 0))
 (.seq (.block 1 (sr [mv 16 14,
 ia 17 1 12 14,
 lo 18 17,
 mv 5 16,
 mv 6 18] [16,17,18]
 (sr [mv 19 6,
 mv 20 1,
 mv 21 5,
 ia 22 1 20 21,
 lo 23 22,
 bS 24 .neq 19 23] [19,20,21,22,23]
 (.cond (.s 24)
 (sr [mB 4 false] []
 .ret)
 .skip))))
 (.reg [bI 25 .add 14 1,
 mv 14 25] [25])))))))
 (sr [mB 4 true] []
 .ret))))⟩
theorem Sz:aq Tryz.prog 109=some E5:=by kernel_rfl
abbrev Uc:FuncId:=109
def zj:aF :=
⟨52,2,[.tmp 4],
 (sr [o0 2 (.box 79 9 (.s 0)),
 o0 3 (.box 79 9 (.s 1)),
 mB 4 false] []
 (sr [fa 5 0 2,
 lo 6 5,
 fa 7 0 3,
 lo 8 7,
 bS 9 .eql 6 8,
 mv 10 9,
 ot 11 10 (fd 1 2),
 ot 12 10 (ld 11),
 ot 13 10 (fd 1 3),
 ot 14 10 (ld 13),
 ot 15 10 (.bin .eql (.s 12) (.s 14)),
 pF 16 10 15,
 mv 17 16,
 ot 18 17 (fd 2 2),
 ot 19 17 (ld 18),
 ot 20 17 (fd 2 3),
 ot 21 17 (ld 20),
 ot 22 17 (.bin .eql (.s 19) (.s 21)),
 pF 23 17 22,
 mv 24 23,
 ot 25 24 (fd 3 2),
 ot 26 24 (ld 25),
 ot 27 24 (fd 3 3),
 ot 28 24 (ld 27),
 ot 29 24 (.bin .eql (.s 26) (.s 28)),
 pF 30 24 29,
 mv 31 30,
 ot 32 31 (fd 4 2),
 ot 33 31 (.load (some 3) (.s 32)),
 ot 34 31 (fd 4 3),
 ot 35 31 (.load (some 3) (.s 34)),
 ot 36 31 (.sbin .eql [.i,.i,.i] (.s 33) (.s 35)),
 pF 37 31 36,
 mv 38 37,
 ot 39 38 (fd 7 2),
 ot 40 38 (ld 39),
 ot 41 38 (fd 7 3),
 ot 42 38 (ld 41),
 ot 43 38 (.call 120 [(.s 40),(.s 42)]),
 pF 44 38 43,
 mv 45 44,
 ot 46 45 (fd 8 2),
 ot 47 45 (ld 46),
 ot 48 45 (fd 8 3),
 ot 49 45 (ld 48),
 ot 50 45 (.call 121 [(.s 47),(.s 49)]),
 pF 51 45 50,
 mv 4 51] [5,6,7,8,9,10,11,12,13,14,15,16,17,18,19,20,21,22,23,24,25,26,27,28,29,30,31,32,33,34,35,36,37,38,39,40,41,42,43,44,45,46,47,48,49,50,51]
 .ret))⟩
theorem OA:aq Tryz.prog 111=some zj:=by kernel_rfl
abbrev Dx:FuncId:=111
def zx:aF :=
⟨9,1,[.tmp 2],
 (sr [mB 2 false] []
 (sr [mv 3 0,
 c1 4 125 3,
 mv 5 4,
 mf 6 0 5,
 oF 7 5 (.call 115 [(.s 6)]),
 pT 8 5 7,
 mv 2 8] [3,4,5,6,7,8]
 .ret))⟩
theorem O2:aq Tryz.prog 117=some zx:=by kernel_rfl
abbrev Qr:FuncId:=117
def Ke:aF :=
⟨143,1,[.tmp 2],
 (sr [o0 1 (.box 79 9 (.s 0)),
 mB 2 false] []
 (sr [fa 9 0 1,
 lo 10 9,
 c1 11 126 10,
 mv 3 11] [9,10,11]
 (sr [mv 13 3,
 c1 14 127 13,
 mv 12 14,
 xt 15 12 0,
 xt 16 12 1,
 xt 17 12 2,
 mv 4 15,
 mv 5 16,
 mv 6 17] [13,14,12,15,16,17]
 (.seq (sr [fa 18 0 1,
 lo 19 18,
 c1 20 128 19,
 uN 21 20,
 mv 22 21,
 mf 23 4 22,
 oF 24 22 (.un .not (.s 23)),
 mf 25 24 22,
 ot 26 25 (fd 1 1),
 ot 27 25 (ld 26),
 ot 28 25 (.bin .neq (.s 27) (iC 0)),
 oF 29 22 (.pick (.s 25) (.s 28) (bC false)),
 pT 30 22 29,
 mv 31 30,
 mf 32 5 31,
 oF 33 31 (.un .not (.s 32)),
 mf 34 33 31,
 ot 35 34 (fd 2 1),
 ot 36 34 (ld 35),
 ot 37 34 (.bin .neq (.s 36) (iC 0)),
 oF 38 31 (.pick (.s 34) (.s 37) (bC false)),
 pT 39 31 38,
 mv 40 39,
 mf 41 6 40,
 oF 42 40 (.un .not (.s 41)),
 mf 43 42 40,
 ot 44 43 (fd 3 1),
 ot 45 43 (ld 44),
 ot 46 43 (.bin .neq (.s 45) (.c (.int .u64 0))),
 oF 47 40 (.pick (.s 43) (.s 46) (bC false)),
 pT 48 40 47,
 mv 49 48,
 oF 50 49 (fd 1 1),
 oF 51 49 (ld 50),
 oF 52 49 (.call 129 [(.s 51)]),
 oF 53 49 (.un .not (.s 52)),
 pT 54 49 53,
 mv 55 54,
 oF 56 55 (fd 2 1),
 oF 57 55 (ld 56),
 oF 58 55 (.call 129 [(.s 57)]),
 oF 59 55 (.un .not (.s 58)),
 pT 60 55 59] [18,19,20,21,22,23,24,25,26,27,28,29,30,31,32,33,34,35,36,37,38,39,40,41,42,43,44,45,46,47,48,49,50,51,52,53,54,55,56,57,58,59]
 (.cond (.s 60)
 (sr [mB 2 false] []
 .ret)
 .skip))
 (.seq (sr [mv 61 3,
 bI 62 .neq 61 19,
 mv 63 62,
 ot 64 63 (fd 3 1),
 ot 65 63 (ld 64),
 ot 66 63 (.bin .geq (.s 65) (.c (.int .u64 4294967296))),
 pF 67 63 66,
 mv 68 67,
 mf 69 3 68,
 oF 70 68 (.bin .neq (.s 69) (iC 1)),
 mf 71 70 68,
 ot 72 71 (fd 4 1),
 ot 73 71 (.load (some 3) (.s 72)),
 ot 74 71 (.build [(.int .i64 0),(.int .i64 0),(.int .i64 0)] []),
 ot 75 71 (.sbin .neq [.i,.i,.i] (.s 73) (.s 74)),
 oF 76 68 (.pick (.s 71) (.s 75) (bC false)),
 pT 77 68 76,
 mv 78 77,
 mf 79 3 78,
 oF 80 78 (.bin .neq (.s 79) (iC 6)),
 mf 81 80 78,
 ot 82 81 (fd 7 1),
 ot 83 81 (ld 82),
 ot 84 81 (.len (.s 83)),
 ot 85 81 (.bin .gtr (.s 84) (iC 0)),
 oF 86 78 (.pick (.s 81) (.s 85) (bC false)),
 pT 87 78 86,
 mv 88 87,
 mf 89 3 88,
 oF 90 88 (.bin .neq (.s 89) (iC 3)),
 mf 91 90 88,
 ot 92 91 (fd 8 1),
 ot 93 91 (ld 92),
 ot 94 91 (.len (.s 93)),
 ot 95 91 (.bin .gtr (.s 94) (iC 0)),
 oF 96 88 (.pick (.s 91) (.s 95) (bC false)),
 pT 97 88 96] [61,62,63,64,65,66,67,68,69,70,71,72,73,74,75,76,77,78,79,80,81,82,83,84,85,86,87,88,89,90,91,92,93,94,95,96]
 (.cond (.s 97)
 (sr [mB 2 false] []
 .ret)
 .skip))
 (.seq (sr [mv 98 3] []
 (.block 0 (sr [bI 100 .eql 98 1,
 mv 99 100] [100]
 (.cond (.s 99)
 (sr [fa 101 4 1,
 lS 102 3 101,
 c1 103 130 102,
 mv 2 103] [101,102,103]
 .ret)
 (sr [bI 105 .eql 98 6,
 mv 104 105] [105]
 (.cond (.s 104)
 (sr [fa 106 7 1,
 lo 107 106,
 ln 108 107,
 bI 109 .eql 108 1,
 mv 110 109,
 ot 111 110 (fd 7 1),
 ot 112 110 (ld 111),
 ot 113 110 (.iadr 1 (.s 112) (iC 0)),
 ot 114 110 (ld 113),
 ot 115 110 (.call 131 [(.s 114)]),
 pF 116 110 115,
 mv 2 116] [106,107,108,109,110,111,112,113,114,115,116]
 .ret)
 (sr [bI 118 .eql 98 17,
 mv 117 118] [118]
 (.cond (.s 117)
 (sr [fa 119 1 1,
 lo 120 119,
 bI 121 .leq 120 63,
 mv 2 121] [119,120,121]
 .ret)
 (sr [bI 123 .eql 98 20,
 mv 122 123] [123]
 (.cond (.s 122)
 (sr [fa 124 1 1,
 lo 125 124,
 bI 126 .eql 125 3,
 mv 127 126,
 oF 128 127 (fd 1 1),
 oF 129 127 (ld 128),
 oF 130 127 (.bin .eql (.s 129) (iC 4)),
 pT 131 127 130,
 mv 2 131] [124,125,126,127,128,129,130,131]
 .ret)
 .skip))))))))))
 (.seq (sr [fa 132 8 1,
 lo 133 132,
 ln 134 133,
 mI 135 0] [132]
 (.block 1 (.loop (sr [bS 136 .lss 135 134] []
 (.seq (.cond (.s 136)
 .skip
 (.exit 1))
 (.seq (.block 2 (sr [ia 137 1 133 135,
 lo 138 137,
 mv 8 138] [137,138]
 (sr [mv 139 8,
 c1 140 129 139,
 uN 141 140] [139,140]
 (.cond (.s 141)
 (sr [mB 2 false] []
 .ret)
 .skip))))
 (.reg [bI 142 .add 135 1,
 mv 135 142] [142])))))))
 (sr [mB 2 true] []
 .ret))))))))⟩
theorem S7:aq Tryz.prog 118=some Ke:=by kernel_rfl
abbrev pP:FuncId:=118
def eC:aF :=
⟨29,1,[.tmp 2,.tmp 3,.tmp 4],
 (sr [mB 2 false,
 mB 3 false,
 mB 4 false] []
 (.seq (sr [mv 5 0] []
 (.block 0 (.seq (sr [bI 7 .eql 5 2,
 mv 6 7] [7]
 (.cond (.s 6)
 .skip
 (sr [bI 8 .eql 5 3,
 mv 6 8] [8]
 (.cond (.s 6)
 .skip
 (sr [bI 9 .eql 5 4,
 mv 6 9] [9]
 (.cond (.s 6)
 .skip
 (sr [bI 10 .eql 5 7,
 mv 6 10] [10]
 (.cond (.s 6)
 .skip
 (sr [bI 11 .eql 5 8,
 mv 6 11] [11]
 (.cond (.s 6)
 .skip
 (sr [bI 12 .eql 5 9,
 mv 6 12] [12]
 (.cond (.s 6)
 .skip
 (sr [bI 13 .eql 5 12,
 mv 6 13] [13]
 (.cond (.s 6)
 .skip
 (sr [bI 14 .eql 5 16,
 mv 6 14] [14]
 (.cond (.s 6)
 .skip
 (.reg [bI 15 .eql 5 20,
 mv 6 15] [15])))))))))))))))))
 (.cond (.s 6)
 (sr [mB 2 true,
 mB 3 false,
 mB 4 false] []
 .ret)
 (.seq (sr [bI 17 .eql 5 5,
 mv 16 17] [17]
 (.cond (.s 16)
 .skip
 (sr [bI 18 .eql 5 10,
 mv 16 18] [18]
 (.cond (.s 16)
 .skip
 (sr [bI 19 .eql 5 11,
 mv 16 19] [19]
 (.cond (.s 16)
 .skip
 (sr [bI 20 .eql 5 14,
 mv 16 20] [20]
 (.cond (.s 16)
 .skip
 (.reg [bI 21 .eql 5 15,
 mv 16 21] [21])))))))))
 (.cond (.s 16)
 (sr [mB 2 true,
 mB 3 true,
 mB 4 false] []
 .ret)
 (sr [bI 23 .eql 5 13,
 mv 22 23] [23]
 (.cond (.s 22)
 (sr [mB 2 false,
 mB 3 true,
 mB 4 false] []
 .ret)
 (sr [bI 25 .eql 5 17,
 mv 24 25] [25]
 (.cond (.s 24)
 (sr [mB 2 true,
 mB 3 true,
 mB 4 true] []
 .ret)
 (.seq (sr [bI 27 .eql 5 18,
 mv 26 27] [27]
 (.cond (.s 26)
 .skip
 (.reg [bI 28 .eql 5 19,
 mv 26 28] [28])))
 (.cond (.s 26)
 (sr [mB 2 false,
 mB 3 false,
 mB 4 true] []
 .ret)
 .skip))))))))))))
 (sr [mB 2 false,
 mB 3 false,
 mB 4 false] []
 .ret)))⟩
theorem OD:aq Tryz.prog 127=some eC:=by kernel_rfl
abbrev P9:FuncId:=127
def vB:aF :=
⟨9,1,[.tmp 2],
 (sr [mB 2 false] []
 (sr [mv 3 0,
 bI 4 .geq 3 1,
 mv 5 4,
 mt 6 0 5,
 ot 7 5 (.bin .leq (.s 6) (iC 4)),
 pF 8 5 7,
 mv 2 8] [3,4,5,6,7,8]
 .ret))⟩
theorem OK:aq Tryz.prog 131=some vB:=by kernel_rfl
abbrev Qc:FuncId:=131
def RU:aF :=
⟨19,2,[.tmp 4],
 (sr [mI 4 0] []
 (.seq (sr [mv 6 0,
 ln 7 6,
 mI 8 0] [6]
 (.block 0 (.loop (sr [bS 9 .lss 8 7] []
 (.seq (.cond (.s 9)
 .skip
 (.exit 0))
 (.seq (.block 1 (sr [mv 10 8,
 mv 5 10] [10]
 (sr [mv 11 1,
 mv 12 0,
 mv 13 5,
 ia 14 1 12 13,
 lo 15 14,
 o0 16 (.callv (.s 11) [(.s 15)])] [11,12,13,14,15]
 (.cond (.s 16)
 (sr [mv 17 5,
 mv 4 17] [17]
 .ret)
 .skip))))
 (.reg [bI 18 .add 8 1,
 mv 8 18] [18])))))))
 (sr [mI 4 (-1)] []
 .ret)))⟩
theorem VH:aq Tryz.prog 132=some RU:=by kernel_rfl
abbrev Vx:FuncId:=132
def Kf:aF :=
⟨31,1,[.tmp 2],
 (sr [mI 2 0] []
 (.seq (sr [mv 6 0,
 c1 7 137 6,
 uN 8 7] [6,7]
 (.cond (.s 8)
 (sr [mI 2 0] []
 .ret)
 .skip))
 (sr [mv 9 0,
 c1 10 136 9,
 mv 3 10] [9,10]
 (.seq (.seq (.reg [o0 11 (.bsl 3 1 [[(.int .i64 0)],[(.int .i64 0)],[(.int .i64 0)]] [(0,(iC 8)),(1,(iC 16)),(2,(iC 32))]),
 ln 12 11,
 mI 13 0] [])
 (.block 0 (.loop (sr [bS 14 .lss 13 12] []
 (.seq (.cond (.s 14)
 .skip
 (.exit 0))
 (.seq (.block 1 (sr [ia 15 1 11 13,
 lo 16 15,
 mv 5 16] [15,16]
 (.seq (.seq (.draw [⟨mv 17 3,[]⟩,
 ⟨o0 18 (.sslc (.s 17) (some (iC 4)) none),[0]⟩,
 ⟨o0 19 (.bsl 9 1 [[(.str [])],[(.str [])],[(.str [])]] [(0,(.c (.str [56]))),(1,(.c (.str [49,54]))),(2,(.c (.str [51,50])))]),[]⟩,
 ⟨mv 20 5,[]⟩,
 ⟨bI 21 .quo 20 16,[3]⟩,
 ⟨ia 22 1 19 21,[2,4,3]⟩,
 ⟨lo 23 22,[5,2,4,3]⟩] [(19,2)] [])
 (.reg [c2 24 138 18 23] [17,18,19,20,21,22,23]))
 (.cond (.s 24)
 (sr [mv 25 5,
 bI 26 .quo 25 8,
 mv 2 26] [25,26]
 .ret)
 .skip))))
 (.reg [bI 27 .add 13 1,
 mv 13 27] [27])))))))
 (.seq (sr [mv 28 3,
 o0 29 (.sslc (.s 28) none (some (iC 3))),
 o0 30 (.bin .eql (.s 29) (.c (.str [105,51,50])))] [28,29]
 (.cond (.s 30)
 (sr [mI 2 4] []
 .ret)
 .skip))
 (sr [mI 2 8] []
 .ret))))))⟩
theorem S8:aq Tryz.prog 134=some Kf:=by kernel_rfl
abbrev UA:FuncId:=134
def i4:aF :=
⟨26,1,[.tmp 2],
 (sr [mI 2 0] []
 (.seq (sr [mv 3 0] []
 (.block 0 (.seq (sr [bI 5 .eql 3 37,
 mv 4 5] [5]
 (.cond (.s 4)
 .skip
 (sr [bI 6 .eql 3 38,
 mv 4 6] [6]
 (.cond (.s 4)
 .skip
 (sr [bI 7 .eql 3 64528,
 mv 4 7] [7]
 (.cond (.s 4)
 .skip
 (sr [bI 8 .eql 3 64527,
 mv 4 8] [8]
 (.cond (.s 4)
 .skip
 (.reg [bI 9 .eql 3 64529,
 mv 4 9] [9])))))))))
 (.cond (.s 4)
 (sr [mI 2 9] []
 .ret)
 (sr [bI 11 .eql 3 64526,
 mv 10 11] [11]
 (.cond (.s 10)
 (sr [mI 2 10] []
 .ret)
 (sr [bI 13 .eql 3 64524,
 mv 12 13] [13]
 (.cond (.s 12)
 (sr [mI 2 11] []
 .ret)
 (sr [bI 15 .eql 3 64525,
 mv 14 15] [15]
 (.cond (.s 14)
 (sr [mI 2 12] []
 .ret)
 (.seq (sr [bI 17 .eql 3 63,
 mv 16 17] [17]
 (.cond (.s 16)
 .skip
 (sr [bI 18 .eql 3 64,
 mv 16 18] [18]
 (.cond (.s 16)
 .skip
 (.reg [bI 19 .eql 3 64523,
 mv 16 19] [19])))))
 (.cond (.s 16)
 (sr [mI 2 13] []
 .ret)
 (sr [bI 21 .eql 3 64522,
 mv 20 21] [21]
 (.cond (.s 20)
 (sr [mI 2 14] []
 .ret)
 (sr [bI 23 .eql 3 64520,
 mv 22 23] [23]
 (.cond (.s 22)
 (sr [mI 2 15] []
 .ret)
 (sr [bI 25 .eql 3 64521,
 mv 24 25] [25]
 (.cond (.s 24)
 (sr [mI 2 16] []
 .ret)
 .skip))))))))))))))))))
 (sr [mI 2 0] []
 .ret)))⟩
theorem S3:aq Tryz.prog 135=some i4:=by kernel_rfl
abbrev Uw:FuncId:=135
abbrev lO:FuncId:=143
theorem ap:Tryz.prog.follows .mixedOrders=true:=by kernel_rfl
end Go.Proofs.YtdefmgmmjfgbpaaGreatDoor