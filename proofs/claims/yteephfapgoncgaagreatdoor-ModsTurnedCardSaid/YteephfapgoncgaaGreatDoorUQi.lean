import Derived.Test.YteephfapgoncgaaGreatDoorUQb
import Derived.Test.YteephfapgoncgaaGreatDoorProg
import Derived.KernelRfl
set_option linter.all false
namespace Go.Proofs.YteephfapgoncgaaGreatDoor
open Go.Mw
def gH:aN :=
⟨221,1,[.cell 2 (some 12)],
 (sr [o0 1 (.box 33 12 (.s 0)),
 o0 2 (.new 33 [.nl,.nl,.nl,.nl,.nl,.nl,.nl,(.bool false),(.int .i64 0),.nl,.nl,.nl])] []
 (sr [fa 17 7 1,
 lo 18 17,
 fa 19 8 1,
 lo 20 19,
 o0 21 (.build [.nl,.nl,.nl,.nl,.nl,.nl,.nl,(.bool false),(.int .i64 0),.nl,.nl,.nl] [(7,1,(.s 18)),(8,1,(.s 20))]),
 o0 3 (.new 33 [.nl,.nl,.nl,.nl,.nl,.nl,.nl,(.bool false),(.int .i64 0),.nl,.nl,.nl]),
 sT 12 3 21] [17,18,19,20,21]
 (.seq (sr [mI 4 0] []
 (.block 0 (.loop (.seq (sr [mv 22 4,
 fa 23 0 1,
 lo 24 23,
 ln 25 24,
 bS 26 .lss 22 25] [22,23,24,25]
 (.cond (.s 26)
 .skip
 (.exit 0)))
 (.seq (.block 1 (sr [fa 29 0 1,
 lo 30 29,
 mv 31 4,
 ia 32 2 30 31,
 lS 33 2 32,
 o0 5 (.new 51 [.nl,.nl]),
 sT 2 5 33] [29,30,31,32,33]
 (.seq (.draw [⟨fa 34 0 3,[]⟩,
 ⟨lo 35 34,[0]⟩,
 ⟨o0 36 (.bsl 53 1 [] []),[]⟩,
 ⟨fa 37 0 5,[]⟩,
 ⟨lo 38 37,[3]⟩,
 ⟨o0 39 (.app 53 1 (.s 36) (.s 38)),[2,4,3]⟩,
 ⟨o0 40 (.bsl 53 1 [] []),[]⟩,
 ⟨fa 41 1 5,[]⟩,
 ⟨lo 42 41,[7]⟩,
 ⟨o0 43 (.app 53 1 (.s 40) (.s 42)),[6,8,7,5,2,4,3]⟩,
 ⟨o0 44 (.build [.nl,.nl] [(0,1,(.s 39)),(1,1,(.s 43))]),[5,2,4,3,9,6,8,7]⟩,
 ⟨o0 45 (.bsl 51 2 [[.nl,.nl]] [(0,(.s 44))]),[10,5,2,4,3,9,6,8,7]⟩] [(36,2),(39,5),(40,6),(43,9),(45,11)] [])
 (sr [o0 46 (.app 51 2 (.s 35) (.s 45))] []
 (sr [fa 47 0 3] []
 (.reg [sT 1 47 46] [34,35,36,37,38,39,40,41,42,43,44,45,46,47]))))))
 (.reg [mv 27 4,
 bI 28 .add 27 1,
 mv 4 28] [27,28]))))))
 (sr [o0 48 (.bsl 61 13 [] []),
 fa 49 1 1,
 lo 50 49,
 o0 51 (.app 61 13 (.s 48) (.s 50)),
 fa 52 1 3,
 sT 1 52 51] [48,49,50,51,52]
 (.seq (sr [mI 6 0] []
 (.block 2 (.loop (.seq (sr [mv 53 6,
 fa 54 2 1,
 lo 55 54,
 ln 56 55,
 bS 57 .lss 53 56] [53,54,55,56]
 (.cond (.s 57)
 .skip
 (.exit 2)))
 (.seq (.block 3 (sr [fa 60 2 1,
 lo 61 60,
 mv 62 6,
 ia 63 3 61 62,
 lS 64 3 63,
 o0 7 (.new 64 [(.int .i64 0),.nl,.nl]),
 sT 3 7 64] [60,61,62,63,64]
 (.seq (.draw [⟨fa 65 2 3,[]⟩,
 ⟨lo 66 65,[0]⟩,
 ⟨fa 67 0 7,[]⟩,
 ⟨lo 68 67,[2]⟩,
 ⟨o0 69 (.bsl 53 1 [] []),[]⟩,
 ⟨fa 70 1 7,[]⟩,
 ⟨lo 71 70,[5]⟩,
 ⟨o0 72 (.app 53 1 (.s 69) (.s 71)),[4,6,5]⟩,
 ⟨fa 73 2 7,[]⟩,
 ⟨lo 74 73,[8]⟩,
 ⟨c1 75 16 74,[9,8,7,4,6,5]⟩,
 ⟨o0 76 (.build [(.int .i64 0),.nl,.nl] [(0,1,(.s 68)),(1,1,(.s 72)),(2,1,(.s 75))]),[3,2,7,4,6,5,10,9,8]⟩,
 ⟨o0 77 (.bsl 64 3 [[(.int .i64 0),.nl,.nl]] [(0,(.s 76))]),[11,3,2,7,4,6,5,10,9,8]⟩] [(69,4),(72,7),(75,10),(77,12)] [])
 (sr [o0 78 (.app 64 3 (.s 66) (.s 77))] []
 (sr [fa 79 2 3] []
 (.reg [sT 1 79 78] [65,66,67,68,69,70,71,72,73,74,75,76,77,78,79]))))))
 (.reg [mv 58 6,
 bI 59 .add 58 1,
 mv 6 59] [58,59]))))))
 (sr [o0 80 (.bsl 57 4 [] []),
 fa 81 3 1,
 lo 82 81,
 o0 83 (.app 57 4 (.s 80) (.s 82)),
 fa 84 3 3,
 sT 1 84 83] [80,81,82,83,84]
 (sr [o0 85 (.bsl 55 3 [] []),
 fa 86 4 1,
 lo 87 86,
 o0 88 (.app 55 3 (.s 85) (.s 87)),
 fa 89 4 3,
 sT 1 89 88] [85,86,87,88,89]
 (.seq (sr [mI 8 0] []
 (.block 4 (.loop (.seq (sr [mv 90 8,
 fa 91 5 1,
 lo 92 91,
 ln 93 92,
 bS 94 .lss 90 93] [90,91,92,93]
 (.cond (.s 94)
 .skip
 (.exit 4)))
 (.seq (.block 5 (.seq (.draw [⟨fa 97 5 3,[]⟩,
 ⟨lo 98 97,[0]⟩,
 ⟨fa 99 5 1,[]⟩,
 ⟨lo 100 99,[2]⟩,
 ⟨mv 101 8,[]⟩,
 ⟨ia 102 3 100 101,[3,2,4]⟩,
 ⟨fa 103 0 102,[5,3,2,4]⟩,
 ⟨lS 104 2 103,[6,5,3,2,4]⟩,
 ⟨fa 105 5 1,[]⟩,
 ⟨lo 106 105,[8]⟩,
 ⟨mv 107 8,[]⟩,
 ⟨ia 108 3 106 107,[9,8,10]⟩,
 ⟨fa 109 2 108,[11,9,8,10]⟩,
 ⟨lo 110 109,[12,11,9,8,10]⟩,
 ⟨c1 111 16 110,[13,12,11,9,8,10]⟩,
 ⟨o0 112 (.build [(.int .i64 0),(.bool false),.nl] [(0,2,(.s 104)),(2,1,(.s 111))]),[7,6,5,3,2,4,14,13,12,11,9,8,10]⟩,
 ⟨o0 113 (.bsl 66 3 [[(.int .i64 0),(.bool false),.nl]] [(0,(.s 112))]),[15,7,6,5,3,2,4,14,13,12,11,9,8,10]⟩] [(111,14),(113,16)] [])
 (sr [o0 114 (.app 66 3 (.s 98) (.s 113))] []
 (sr [fa 115 5 3] []
 (.reg [sT 1 115 114] [97,98,99,100,101,102,103,104,105,106,107,108,109,110,111,112,113,114,115])))))
 (.reg [mv 95 8,
 bI 96 .add 95 1,
 mv 8 96] [95,96]))))))
 (sr [o0 116 (.bsl 68 3 [] []),
 fa 117 6 1,
 lo 118 117,
 o0 119 (.app 68 3 (.s 116) (.s 118)),
 fa 120 6 3,
 sT 1 120 119] [116,117,118,119,120]
 (.seq (sr [mI 9 0] []
 (.block 6 (.loop (.seq (sr [mv 121 9,
 fa 122 9 1,
 lo 123 122,
 ln 124 123,
 bS 125 .lss 121 124] [121,122,123,124]
 (.cond (.s 125)
 .skip
 (.exit 6)))
 (.seq (.block 7 (sr [fa 128 9 1,
 lo 129 128,
 mv 130 9,
 ia 131 5 129 130,
 lS 132 5 131,
 o0 10 (.new 70 [(.int .i64 0),(.int .i64 0),.nl,(.int .i64 0),.nl]),
 sT 5 10 132] [128,129,130,131,132]
 (sr [o0 11 (.mov (.c .nl))] []
 (.seq (sr [mI 12 0] []
 (.block 8 (.loop (.seq (sr [mv 133 12,
 fa 134 4 10,
 lo 135 134,
 ln 136 135,
 bS 137 .lss 133 136] [133,134,135,136]
 (.cond (.s 137)
 .skip
 (.exit 8)))
 (.seq (.block 9 (.reg [mv 140 11,
 fa 141 4 10,
 lo 142 141,
 mv 143 12,
 ia 144 1 142 143,
 lo 145 144,
 c1 146 16 145,
 o0 147 (.bsl 62 1 [[.nl]] [(0,(.s 146))]),
 o0 148 (.app 62 1 (.s 140) (.s 147)),
 mv 11 148] [140,141,142,143,144,145,146,147,148]))
 (.reg [mv 138 12,
 bI 139 .add 138 1,
 mv 12 139] [138,139]))))))
 (.seq (.draw [⟨fa 149 9 3,[]⟩,
 ⟨lo 150 149,[0]⟩,
 ⟨fa 151 0 10,[]⟩,
 ⟨lo 152 151,[2]⟩,
 ⟨fa 153 1 10,[]⟩,
 ⟨lo 154 153,[4]⟩,
 ⟨fa 155 2 10,[]⟩,
 ⟨lo 156 155,[6]⟩,
 ⟨c1 157 16 156,[7,6]⟩,
 ⟨fa 158 3 10,[]⟩,
 ⟨lo 159 158,[9]⟩,
 ⟨mv 160 11,[]⟩,
 ⟨o0 161 (.build [(.int .i64 0),(.int .i64 0),.nl,(.int .i64 0),.nl] [(0,1,(.s 152)),(1,1,(.s 154)),(2,1,(.s 157)),(3,1,(.s 159)),(4,1,(.s 160))]),[3,2,5,4,8,7,6,10,9,11]⟩,
 ⟨o0 162 (.bsl 70 5 [[(.int .i64 0),(.int .i64 0),.nl,(.int .i64 0),.nl]] [(0,(.s 161))]),[12,3,2,5,4,8,7,6,10,9,11]⟩] [(157,8),(162,13)] [])
 (sr [o0 163 (.app 70 5 (.s 150) (.s 162))] []
 (sr [fa 164 9 3] []
 (.reg [sT 1 164 163] [149,150,151,152,153,154,155,156,157,158,159,160,161,162,163,164]))))))))
 (.reg [mv 126 9,
 bI 127 .add 126 1,
 mv 9 127] [126,127]))))))
 (.seq (sr [mI 13 0] []
 (.block 10 (.loop (.seq (sr [mv 165 13,
 fa 166 10 1,
 lo 167 166,
 ln 168 167,
 bS 169 .lss 165 168] [165,166,167,168]
 (.cond (.s 169)
 .skip
 (.exit 10)))
 (.seq (.block 11 (sr [fa 172 10 1,
 lo 173 172,
 mv 174 13,
 ia 175 4 173 174,
 lS 176 4 175,
 o0 14 (.new 73 [(.int .i64 0),(.int .i64 0),.nl,.nl]),
 sT 4 14 176] [172,173,174,175,176]
 (.seq (.draw [⟨fa 177 10 3,[]⟩,
 ⟨lo 178 177,[0]⟩,
 ⟨fa 179 0 14,[]⟩,
 ⟨lo 180 179,[2]⟩,
 ⟨fa 181 1 14,[]⟩,
 ⟨lo 182 181,[4]⟩,
 ⟨fa 183 2 14,[]⟩,
 ⟨lo 184 183,[6]⟩,
 ⟨c1 185 16 184,[7,6]⟩,
 ⟨o0 186 (.bsl 5 1 [] []),[]⟩,
 ⟨fa 187 3 14,[]⟩,
 ⟨lo 188 187,[10]⟩,
 ⟨o0 189 (.app 5 1 (.s 186) (.s 188)),[9,11,10,8,7,6]⟩,
 ⟨o0 190 (.build [(.int .i64 0),(.int .i64 0),.nl,.nl] [(0,1,(.s 180)),(1,1,(.s 182)),(2,1,(.s 185)),(3,1,(.s 189))]),[3,2,5,4,8,7,6,12,9,11,10]⟩,
 ⟨o0 191 (.bsl 73 4 [[(.int .i64 0),(.int .i64 0),.nl,.nl]] [(0,(.s 190))]),[13,3,2,5,4,8,7,6,12,9,11,10]⟩] [(185,8),(186,9),(189,12),(191,14)] [])
 (sr [o0 192 (.app 73 4 (.s 178) (.s 191))] []
 (sr [fa 193 10 3] []
 (.reg [sT 1 193 192] [177,178,179,180,181,182,183,184,185,186,187,188,189,190,191,192,193]))))))
 (.reg [mv 170 13,
 bI 171 .add 170 1,
 mv 13 171] [170,171]))))))
 (.seq (sr [mI 15 0] []
 (.block 12 (.loop (.seq (sr [mv 194 15,
 fa 195 11 1,
 lo 196 195,
 ln 197 196,
 bS 198 .lss 194 197] [194,195,196,197]
 (.cond (.s 198)
 .skip
 (.exit 12)))
 (.seq (.block 13 (.seq (.reg [fa 201 11 1,
 lo 202 201,
 mv 203 15,
 ia 204 3 202 203,
 lS 205 3 204,
 o0 16 (.new 75 [(.int .i64 0),(.str []),.nl]),
 sT 3 16 205] [201,202,203,204,205])
 (.seq (.draw [⟨fa 206 11 3,[]⟩,
 ⟨lo 207 206,[0]⟩,
 ⟨fa 208 0 16,[]⟩,
 ⟨lo 209 208,[2]⟩,
 ⟨fa 210 1 16,[]⟩,
 ⟨lo 211 210,[4]⟩,
 ⟨o0 212 (.bsl 5 1 [] []),[]⟩,
 ⟨fa 213 2 16,[]⟩,
 ⟨lo 214 213,[7]⟩,
 ⟨o0 215 (.app 5 1 (.s 212) (.s 214)),[6,8,7]⟩,
 ⟨o0 216 (.build [(.int .i64 0),(.str []),.nl] [(0,1,(.s 209)),(1,1,(.s 211)),(2,1,(.s 215))]),[3,2,5,4,9,6,8,7]⟩,
 ⟨o0 217 (.bsl 75 3 [[(.int .i64 0),(.str []),.nl]] [(0,(.s 216))]),[10,3,2,5,4,9,6,8,7]⟩] [(212,6),(215,9),(217,11)] [])
 (sr [o0 218 (.app 75 3 (.s 207) (.s 217))] []
 (sr [fa 219 11 3] []
 (.reg [sT 1 219 218] [206,207,208,209,210,211,212,213,214,215,216,217,218,219]))))))
 (.reg [mv 199 15,
 bI 200 .add 199 1,
 mv 15 200] [199,200]))))))
 (sr [lS 220 12 3,
 sT 12 2 220] [220]
 .ret)))))))))))))⟩
theorem oR:ax Tryz.prog 7=some gH:=by kernel_rfl
abbrev ph:FuncId:=7
def Hd:aN :=
⟨79,1,[.tmp 2],
 (sr [o0 1 (.box 33 12 (.s 0)),
 mI 2 0] []
 (sr [mI 3 0] []
 (.seq (sr [fa 14 2 1,
 lo 15 14,
 ln 16 15,
 mI 17 0] [14]
 (.block 0 (.loop (sr [bS 18 .lss 17 16] []
 (.seq (.cond (.s 18)
 .skip
 (.exit 0))
 (.seq (.block 1 (sr [ia 19 3 15 17,
 lS 20 3 19,
 o0 5 (.new 64 [(.int .i64 0),.nl,.nl]),
 sT 3 5 20] [19,20]
 (.reg [mv 21 3,
 fa 22 2 5,
 lo 23 22,
 ln 24 23,
 bS 25 .add 21 24,
 mv 3 25] [21,22,23,24,25])))
 (.reg [bI 26 .add 17 1,
 mv 17 26] [26])))))))
 (.seq (sr [fa 27 5 1,
 lo 28 27,
 ln 29 28,
 mI 30 0] [27]
 (.block 2 (.loop (sr [bS 31 .lss 30 29] []
 (.seq (.cond (.s 31)
 .skip
 (.exit 2))
 (.seq (.block 3 (sr [ia 32 3 28 30,
 lS 33 3 32,
 o0 7 (.new 66 [(.int .i64 0),(.bool false),.nl]),
 sT 3 7 33] [32,33]
 (.reg [mv 34 3,
 fa 35 2 7,
 lo 36 35,
 ln 37 36,
 bS 38 .add 34 37,
 mv 3 38] [34,35,36,37,38])))
 (.reg [bI 39 .add 30 1,
 mv 30 39] [39])))))))
 (.seq (sr [fa 40 9 1,
 lo 41 40,
 ln 42 41,
 mI 43 0] [40]
 (.block 4 (.loop (sr [bS 44 .lss 43 42] []
 (.seq (.cond (.s 44)
 .skip
 (.exit 4))
 (.seq (.block 5 (sr [ia 45 5 41 43,
 lS 46 5 45,
 o0 9 (.new 70 [(.int .i64 0),(.int .i64 0),.nl,(.int .i64 0),.nl]),
 sT 5 9 46] [45,46]
 (sr [mv 47 3,
 fa 48 2 9,
 lo 49 48,
 ln 50 49,
 bS 51 .add 47 50,
 mv 3 51] [47,48,49,50,51]
 (sr [fa 52 4 9,
 lo 53 52,
 ln 54 53,
 mI 55 0] [52]
 (.block 6 (.loop (sr [bS 56 .lss 55 54] []
 (.seq (.cond (.s 56)
 .skip
 (.exit 6))
 (.seq (.block 7 (sr [ia 57 1 53 55,
 lo 58 57,
 mv 11 58] [57,58]
 (.reg [mv 59 3,
 mv 60 11,
 ln 61 60,
 bS 62 .add 59 61,
 mv 3 62] [59,60,61,62])))
 (.reg [bI 63 .add 55 1,
 mv 55 63] [63]))))))))))
 (.reg [bI 64 .add 43 1,
 mv 43 64] [64])))))))
 (.seq (sr [fa 65 10 1,
 lo 66 65,
 ln 67 66,
 mI 68 0] [65]
 (.block 8 (.loop (sr [bS 69 .lss 68 67] []
 (.seq (.cond (.s 69)
 .skip
 (.exit 8))
 (.seq (.block 9 (sr [ia 70 4 66 68,
 lS 71 4 70,
 o0 13 (.new 73 [(.int .i64 0),(.int .i64 0),.nl,.nl]),
 sT 4 13 71] [70,71]
 (.reg [mv 72 3,
 fa 73 2 13,
 lo 74 73,
 ln 75 74,
 bS 76 .add 72 75,
 mv 3 76] [72,73,74,75,76])))
 (.reg [bI 77 .add 68 1,
 mv 68 77] [77])))))))
 (sr [mv 78 3,
 mv 2 78] [78]
 .ret)))))))⟩
theorem Pt:ax Tryz.prog 12=some Hd:=by kernel_rfl
abbrev MS:FuncId:=12
def Hn:aN :=
⟨55,2,[.tmp 4],
 (sr [mB 4 false] []
 (sr [mI 5 0] []
 (.seq (sr [mI 6 0] []
 (.block 0 (.loop (.seq (sr [mv 8 6,
 mv 9 0,
 ln 10 9,
 bS 11 .lss 8 10] [8,9,10]
 (.cond (.s 11)
 .skip
 (.exit 0)))
 (.seq (.block 1 (sr [mv 14 5,
 mv 15 0,
 mv 16 6,
 ia 17 1 15 16,
 lo 18 17,
 ln 19 18,
 bS 20 .add 14 19,
 mv 5 20] [14,15,16,17,18,19,20]
 (.seq (sr [mv 21 5,
 mv 22 1,
 bS 23 .gtr 21 22] [21,22]
 (.cond (.s 23)
 (sr [mB 4 false] []
 .ret)
 .skip))
 (sr [mI 7 0] []
 (.block 2 (.loop (.seq (sr [mv 24 7,
 mv 25 0,
 mv 26 6,
 ia 27 1 25 26,
 lo 28 27,
 ln 29 28,
 bS 30 .lss 24 29] [24,25,26,27,28,29]
 (.cond (.s 30)
 .skip
 (.exit 2)))
 (.seq (.block 3 (sr [mv 33 0,
 mv 34 6,
 ia 35 1 33 34,
 lo 36 35,
 mv 37 7,
 ia 38 9 36 37,
 fa 39 8 38,
 lo 40 39,
 ln 41 40,
 bI 42 .gtr 41 100,
 mv 43 42,
 mf 44 0 43,
 mf 45 6 43,
 oF 46 43 (.iadr 1 (.s 44) (.s 45)),
 oF 47 43 (ld 46),
 mf 48 7 43,
 oF 49 43 (.iadr 9 (.s 47) (.s 48)),
 oF 50 43 (fd 7 49),
 oF 51 43 (ld 50),
 oF 52 43 (.len (.s 51)),
 oF 53 43 (.bin .gtr (.s 52) (iC 100)),
 pT 54 43 53] [33,34,35,36,37,38,39,40,41,42,43,44,45,46,47,48,49,50,51,52,53]
 (.cond (.s 54)
 (sr [mB 4 false] []
 .ret)
 .skip)))
 (.reg [mv 31 7,
 bI 32 .add 31 1,
 mv 7 32] [31,32])))))))))
 (.reg [mv 12 6,
 bI 13 .add 12 1,
 mv 6 13] [12,13]))))))
 (sr [mB 4 true] []
 .ret))))⟩
theorem PJ:ax Tryz.prog 15=some Hn:=by kernel_rfl
abbrev Q3:FuncId:=15
def oI:aN :=
⟨37,1,[.tmp 2],
 (sr [o0 2 (.mov (.c .nl))] []
 (sr [o0 3 (.mov (.c .nl))] []
 (.seq (sr [mI 4 0] []
 (.block 0 (.loop (.seq (sr [mv 6 4,
 mv 7 0,
 ln 8 7,
 bS 9 .lss 6 8] [6,7,8]
 (.cond (.s 9)
 .skip
 (.exit 0)))
 (.seq (.block 1 (sr [mv 12 0,
 mv 13 4,
 ia 14 9 12 13,
 lS 15 9 14,
 o0 5 (.new 83 [(.int .i64 0),(.int .i64 0),(.int .i64 0),(.int .u64 0),(.int .i64 0),(.int .i64 0),(.int .i64 0),.nl,.nl]),
 sT 9 5 15] [12,13,14,15]
 (sr [o0 16 (.bsl 53 1 [] []),
 mv 17 0,
 mv 18 4,
 ia 19 9 17 18,
 fa 20 7 19,
 lo 21 20,
 o0 22 (.app 53 1 (.s 16) (.s 21)),
 fa 23 7 5,
 sT 1 23 22] [16,17,18,19,20,21,22,23]
 (sr [o0 24 (.bsl 3 1 [] []),
 mv 25 0,
 mv 26 4,
 ia 27 9 25 26,
 fa 28 8 27,
 lo 29 28,
 o0 30 (.app 3 1 (.s 24) (.s 29)),
 fa 31 8 5,
 sT 1 31 30] [24,25,26,27,28,29,30,31]
 (.reg [mv 32 3,
 lS 33 9 5,
 o0 34 (.bsl 83 9 [[(.int .i64 0),(.int .i64 0),(.int .i64 0),(.int .u64 0),(.int .i64 0),(.int .i64 0),(.int .i64 0),.nl,.nl]] [(0,(.s 33))]),
 o0 35 (.app 83 9 (.s 32) (.s 34)),
 mv 3 35] [32,33,34,35])))))
 (.reg [mv 10 4,
 bI 11 .add 10 1,
 mv 4 11] [10,11]))))))
 (sr [mv 36 3,
 mv 2 36] [36]
 .ret))))⟩
theorem FX:ax Tryz.prog 16=some oI:=by kernel_rfl
abbrev Ga:FuncId:=16
def GM:aN :=
⟨22,2,[.tmp 4],
 (sr [o0 4 (.mov (.c .nl))] []
 (sr [o0 5 (.mov (.c .nl))] []
 (.seq (sr [mv 8 0,
 ln 9 8,
 mI 10 0] []
 (.block 0 (.loop (sr [bS 11 .lss 10 9] []
 (.seq (.cond (.s 11)
 .skip
 (.exit 0))
 (.seq (.block 1 (sr [ia 12 2 8 10,
 lS 13 2 12,
 o0 7 (.new 51 [.nl,.nl]),
 sT 2 7 13] [12,13]
 (.reg [mv 14 5,
 mv 15 1,
 lS 16 2 7,
 o0 17 (.callv (.s 15) [(.s 16)]),
 o0 18 (.bsl 51 2 [[.nl,.nl]] [(0,(.s 17))]),
 o0 19 (.app 51 2 (.s 14) (.s 18)),
 mv 5 19] [14,15,16,17,18,19])))
 (.reg [bI 20 .add 10 1,
 mv 10 20] [20])))))))
 (sr [mv 21 5,
 mv 4 21] [21]
 .ret))))⟩
theorem OL:ax Tryz.prog 17=some GM:=by kernel_rfl
abbrev QC:FuncId:=17
def G8:aN :=
⟨10,1,[.cell 2 (some 2)],
 (sr [o0 1 (.box 51 2 (.s 0)),
 o0 2 (.new 51 [.nl,.nl])] []
 (.seq (.seq (.draw [⟨fa 3 0 1,[]⟩,
 ⟨lo 4 3,[0]⟩,
 ⟨c1 5 19 4,[1,0]⟩,
 ⟨fa 6 1 1,[]⟩,
 ⟨lo 7 6,[3]⟩] [(5,2)] [])
 (sr [c1 8 19 7] []
 (sr [o0 9 (.build [.nl,.nl] [(0,1,(.s 5)),(1,1,(.s 8))])] []
 (.reg [sT 2 2 9] [3,4,5,6,7,8,9]))))
 .ret))⟩
theorem Pn:ax Tryz.prog 18=some G8:=by kernel_rfl
abbrev Jg:FuncId:=18
def N3:aN :=
⟨8,1,[.tmp 2],
 (sr [o0 2 (.mov (.c .nl))] []
 (.seq (sr [mv 3 0,
 o0 4 (.snl false (.s 3))] [3]
 (.cond (.s 4)
 (sr [o0 2 (.mov (.c .nl))] []
 .ret)
 .skip))
 (sr [o0 5 (.bsl 53 1 [] []),
 mv 6 0,
 o0 7 (.app 53 1 (.s 5) (.s 6)),
 mv 2 7] [5,6,7]
 .ret)))⟩
theorem R3:ax Tryz.prog 19=some N3:=by kernel_rfl
abbrev Sn:FuncId:=19
def NS:aN :=
⟨8,1,[.tmp 2],
 (sr [o0 2 (.mov (.c .nl))] []
 (.seq (sr [mv 3 0,
 o0 4 (.snl false (.s 3))] [3]
 (.cond (.s 4)
 (sr [o0 2 (.mov (.c .nl))] []
 .ret)
 .skip))
 (sr [o0 5 (.bsl 61 13 [] []),
 mv 6 0,
 o0 7 (.app 61 13 (.s 5) (.s 6)),
 mv 2 7] [5,6,7]
 .ret)))⟩
theorem RZ:ax Tryz.prog 20=some NS:=by kernel_rfl
abbrev Sk:FuncId:=20
def N0:aN :=
⟨8,1,[.tmp 2],
 (sr [o0 2 (.mov (.c .nl))] []
 (.seq (sr [mv 3 0,
 o0 4 (.snl false (.s 3))] [3]
 (.cond (.s 4)
 (sr [o0 2 (.mov (.c .nl))] []
 .ret)
 .skip))
 (sr [o0 5 (.bsl 57 4 [] []),
 mv 6 0,
 o0 7 (.app 57 4 (.s 5) (.s 6)),
 mv 2 7] [5,6,7]
 .ret)))⟩
theorem R1:ax Tryz.prog 21=some N0:=by kernel_rfl
abbrev Sm:FuncId:=21
def NV:aN :=
⟨8,1,[.tmp 2],
 (sr [o0 2 (.mov (.c .nl))] []
 (.seq (sr [mv 3 0,
 o0 4 (.snl false (.s 3))] [3]
 (.cond (.s 4)
 (sr [o0 2 (.mov (.c .nl))] []
 .ret)
 .skip))
 (sr [o0 5 (.bsl 55 3 [] []),
 mv 6 0,
 o0 7 (.app 55 3 (.s 5) (.s 6)),
 mv 2 7] [5,6,7]
 .ret)))⟩
theorem R0:ax Tryz.prog 22=some NV:=by kernel_rfl
abbrev Sl:FuncId:=22
def NP:aN :=
⟨8,1,[.tmp 2],
 (sr [o0 2 (.mov (.c .nl))] []
 (.seq (sr [mv 3 0,
 o0 4 (.snl false (.s 3))] [3]
 (.cond (.s 4)
 (sr [o0 2 (.mov (.c .nl))] []
 .ret)
 .skip))
 (sr [o0 5 (.bsl 68 3 [] []),
 mv 6 0,
 o0 7 (.app 68 3 (.s 5) (.s 6)),
 mv 2 7] [5,6,7]
 .ret)))⟩
theorem RY:ax Tryz.prog 23=some NP:=by kernel_rfl
abbrev Sj:FuncId:=23
def GJ:aN :=
⟨22,2,[.tmp 4],
 (sr [o0 4 (.mov (.c .nl))] []
 (sr [o0 5 (.mov (.c .nl))] []
 (.seq (sr [mv 8 0,
 ln 9 8,
 mI 10 0] []
 (.block 0 (.loop (sr [bS 11 .lss 10 9] []
 (.seq (.cond (.s 11)
 .skip
 (.exit 0))
 (.seq (.block 1 (sr [ia 12 3 8 10,
 lS 13 3 12,
 o0 7 (.new 64 [(.int .i64 0),.nl,.nl]),
 sT 3 7 13] [12,13]
 (.reg [mv 14 5,
 mv 15 1,
 lS 16 3 7,
 o0 17 (.callv (.s 15) [(.s 16)]),
 o0 18 (.bsl 64 3 [[(.int .i64 0),.nl,.nl]] [(0,(.s 17))]),
 o0 19 (.app 64 3 (.s 14) (.s 18)),
 mv 5 19] [14,15,16,17,18,19])))
 (.reg [bI 20 .add 10 1,
 mv 10 20] [20])))))))
 (sr [mv 21 5,
 mv 4 21] [21]
 .ret))))⟩
theorem OI:ax Tryz.prog 24=some GJ:=by kernel_rfl
abbrev Qz:FuncId:=24
def G9:aN :=
⟨12,1,[.cell 2 (some 3)],
 (sr [o0 1 (.box 64 3 (.s 0)),
 o0 2 (.new 64 [(.int .i64 0),.nl,.nl])] []
 (.seq (.seq (.draw [⟨fa 3 0 1,[]⟩,
 ⟨lo 4 3,[0]⟩,
 ⟨fa 5 1 1,[]⟩,
 ⟨lo 6 5,[2]⟩,
 ⟨c1 7 19 6,[3,2]⟩,
 ⟨fa 8 2 1,[]⟩,
 ⟨lo 9 8,[5]⟩,
 ⟨c1 10 26 9,[6,5,4,3,2]⟩] [(7,4),(10,7)] [])
 (sr [o0 11 (.build [(.int .i64 0),.nl,.nl] [(0,1,(.s 4)),(1,1,(.s 7)),(2,1,(.s 10))])] []
 (.reg [sT 3 2 11] [3,4,5,6,7,8,9,10,11])))
 .ret))⟩
theorem Po:ax Tryz.prog 25=some G9:=by kernel_rfl
abbrev Jh:FuncId:=25
def xl:aN :=
⟨5,1,[.tmp 2],
 (sr [o0 2 (.mov (.c .nl))] []
 (.seq (.reg [mv 3 0,
 o0 4 (.call 105 [(.s 3),(.c (.fn 106 []))]),
 mv 2 4] [3,4])
 .ret))⟩
theorem K6:ax Tryz.prog 26=some xl:=by kernel_rfl
abbrev A7:FuncId:=26
def N4:aN :=
⟨22,2,[.tmp 4],
 (sr [o0 4 (.mov (.c .nl))] []
 (sr [o0 5 (.mov (.c .nl))] []
 (.seq (sr [mv 8 0,
 ln 9 8,
 mI 10 0] []
 (.block 0 (.loop (sr [bS 11 .lss 10 9] []
 (.seq (.cond (.s 11)
 .skip
 (.exit 0))
 (.seq (.block 1 (sr [ia 12 3 8 10,
 lS 13 3 12,
 o0 7 (.new 66 [(.int .i64 0),(.bool false),.nl]),
 sT 3 7 13] [12,13]
 (.reg [mv 14 5,
 mv 15 1,
 lS 16 3 7,
 o0 17 (.callv (.s 15) [(.s 16)]),
 o0 18 (.bsl 66 3 [[(.int .i64 0),(.bool false),.nl]] [(0,(.s 17))]),
 o0 19 (.app 66 3 (.s 14) (.s 18)),
 mv 5 19] [14,15,16,17,18,19])))
 (.reg [bI 20 .add 10 1,
 mv 10 20] [20])))))))
 (sr [mv 21 5,
 mv 4 21] [21]
 .ret))))⟩
theorem R5:ax Tryz.prog 27=some N4:=by kernel_rfl
abbrev Sp:FuncId:=27
def GL:aN :=
⟨22,2,[.tmp 4],
 (sr [o0 4 (.mov (.c .nl))] []
 (sr [o0 5 (.mov (.c .nl))] []
 (.seq (sr [mv 8 0,
 ln 9 8,
 mI 10 0] []
 (.block 0 (.loop (sr [bS 11 .lss 10 9] []
 (.seq (.cond (.s 11)
 .skip
 (.exit 0))
 (.seq (.block 1 (sr [ia 12 5 8 10,
 lS 13 5 12,
 o0 7 (.new 70 [(.int .i64 0),(.int .i64 0),.nl,(.int .i64 0),.nl]),
 sT 5 7 13] [12,13]
 (.reg [mv 14 5,
 mv 15 1,
 lS 16 5 7,
 o0 17 (.callv (.s 15) [(.s 16)]),
 o0 18 (.bsl 70 5 [[(.int .i64 0),(.int .i64 0),.nl,(.int .i64 0),.nl]] [(0,(.s 17))]),
 o0 19 (.app 70 5 (.s 14) (.s 18)),
 mv 5 19] [14,15,16,17,18,19])))
 (.reg [bI 20 .add 10 1,
 mv 10 20] [20])))))))
 (sr [mv 21 5,
 mv 4 21] [21]
 .ret))))⟩
theorem OK:ax Tryz.prog 29=some GL:=by kernel_rfl
abbrev QB:FuncId:=29
def GK:aN :=
⟨22,2,[.tmp 4],
 (sr [o0 4 (.mov (.c .nl))] []
 (sr [o0 5 (.mov (.c .nl))] []
 (.seq (sr [mv 8 0,
 ln 9 8,
 mI 10 0] []
 (.block 0 (.loop (sr [bS 11 .lss 10 9] []
 (.seq (.cond (.s 11)
 .skip
 (.exit 0))
 (.seq (.block 1 (sr [ia 12 4 8 10,
 lS 13 4 12,
 o0 7 (.new 73 [(.int .i64 0),(.int .i64 0),.nl,.nl]),
 sT 4 7 13] [12,13]
 (.reg [mv 14 5,
 mv 15 1,
 lS 16 4 7,
 o0 17 (.callv (.s 15) [(.s 16)]),
 o0 18 (.bsl 73 4 [[(.int .i64 0),(.int .i64 0),.nl,.nl]] [(0,(.s 17))]),
 o0 19 (.app 73 4 (.s 14) (.s 18)),
 mv 5 19] [14,15,16,17,18,19])))
 (.reg [bI 20 .add 10 1,
 mv 10 20] [20])))))))
 (sr [mv 21 5,
 mv 4 21] [21]
 .ret))))⟩
theorem OJ:ax Tryz.prog 32=some GK:=by kernel_rfl
abbrev QA:FuncId:=32
def GA:aN :=
⟨8,1,[.tmp 2],
 (sr [o0 2 (.mov (.c .nl))] []
 (.seq (sr [mv 3 0,
 o0 4 (.snl false (.s 3))] [3]
 (.cond (.s 4)
 (sr [o0 2 (.mov (.c .nl))] []
 .ret)
 .skip))
 (sr [o0 5 (.bsl 5 1 [] []),
 mv 6 0,
 o0 7 (.app 5 1 (.s 5) (.s 6)),
 mv 2 7] [5,6,7]
 .ret)))⟩
theorem Oj:ax Tryz.prog 34=some GA:=by kernel_rfl
abbrev Qm:FuncId:=34
def GF:aN :=
⟨22,2,[.tmp 4],
 (sr [o0 4 (.mov (.c .nl))] []
 (sr [o0 5 (.mov (.c .nl))] []
 (.seq (sr [mv 8 0,
 ln 9 8,
 mI 10 0] []
 (.block 0 (.loop (sr [bS 11 .lss 10 9] []
 (.seq (.cond (.s 11)
 .skip
 (.exit 0))
 (.seq (.block 1 (.seq (.reg [ia 12 3 8 10,
 lS 13 3 12,
 o0 7 (.new 75 [(.int .i64 0),(.str []),.nl]),
 sT 3 7 13] [12,13])
 (.reg [mv 14 5,
 mv 15 1,
 lS 16 3 7,
 o0 17 (.callv (.s 15) [(.s 16)]),
 o0 18 (.bsl 75 3 [[(.int .i64 0),(.str []),.nl]] [(0,(.s 17))]),
 o0 19 (.app 75 3 (.s 14) (.s 18)),
 mv 5 19] [14,15,16,17,18,19])))
 (.reg [bI 20 .add 10 1,
 mv 10 20] [20])))))))
 (sr [mv 21 5,
 mv 4 21] [21]
 .ret))))⟩
theorem Oo:ax Tryz.prog 35=some GF:=by kernel_rfl
abbrev Qo:FuncId:=35
def uW:aN :=
⟨24,2,[.tmp 4],
 (sr [o0 2 (.box 64 3 (.s 0)),
 o0 3 (.box 64 3 (.s 1)),
 mB 4 false] []
 (sr [fa 5 0 2,
 lo 6 5,
 fa 7 0 3,
 lo 8 7,
 bS 9 .eql 6 8,
 mv 10 9,
 ot 11 10 (fd 1 2),
 ot 12 10 (ld 11),
 ot 13 10 (fd 1 3),
 ot 14 10 (ld 13),
 ot 15 10 (.call 47 [(.s 12),(.s 14)]),
 pF 16 10 15,
 mv 17 16,
 ot 18 17 (fd 2 2),
 ot 19 17 (ld 18),
 ot 20 17 (fd 2 3),
 ot 21 17 (ld 20),
 ot 22 17 (.call 48 [(.s 19),(.s 21)]),
 pF 23 17 22,
 mv 4 23] [5,6,7,8,9,10,11,12,13,14,15,16,17,18,19,20,21,22,23]
 .ret))⟩
theorem Pv:ax Tryz.prog 46=some uW:=by kernel_rfl
abbrev MT:FuncId:=46
def GS:aN :=
⟨8,2,[.tmp 4],
 (sr [mB 4 false] []
 (sr [mv 5 0,
 mv 6 1,
 c2 7 111 5 6,
 mv 4 7] [5,6,7]
 .ret))⟩
theorem O1:ax Tryz.prog 47=some GS:=by kernel_rfl
abbrev QL:FuncId:=47
def qx:aN :=
⟨38,2,[.tmp 4],
 (sr [o0 2 (.box 70 5 (.s 0)),
 o0 3 (.box 70 5 (.s 1)),
 mB 4 false] []
 (.seq (.reg [fa 5 0 2,
 lo 6 5,
 fa 7 0 3,
 lo 8 7,
 bS 9 .eql 6 8,
 mv 10 9,
 ot 11 10 (fd 1 2),
 ot 12 10 (ld 11),
 ot 13 10 (fd 1 3),
 ot 14 10 (ld 13),
 ot 15 10 (.bin .eql (.s 12) (.s 14)),
 pF 16 10 15,
 mv 17 16,
 ot 18 17 (fd 3 2),
 ot 19 17 (ld 18),
 ot 20 17 (fd 3 3),
 ot 21 17 (ld 20),
 ot 22 17 (.bin .eql (.s 19) (.s 21)),
 pF 23 17 22,
 mv 24 23,
 ot 25 24 (fd 2 2),
 ot 26 24 (ld 25),
 ot 27 24 (fd 2 3),
 ot 28 24 (ld 27),
 ot 29 24 (.call 48 [(.s 26),(.s 28)]),
 pF 30 24 29,
 mv 31 30,
 ot 32 31 (fd 4 2),
 ot 33 31 (ld 32),
 ot 34 31 (fd 4 3),
 ot 35 31 (ld 34),
 ot 36 31 (.call 51 [(.s 33),(.s 35),(.c (.fn 48 []))]),
 pF 37 31 36,
 mv 4 37] [5,6,7,8,9,10,11,12,13,14,15,16,17,18,19,20,21,22,23,24,25,26,27,28,29,30,31,32,33,34,35,36,37])
 .ret))⟩
theorem Px:ax Tryz.prog 50=some qx:=by kernel_rfl
abbrev MV:FuncId:=50
def Cq:aN :=
⟨30,3,[.tmp 6],
 (sr [mB 6 false] []
 (.seq (sr [mv 8 0,
 ln 9 8,
 mv 10 1,
 ln 11 10,
 bS 12 .neq 9 11] [8,9,10,11]
 (.cond (.s 12)
 (sr [mB 6 false] []
 .ret)
 .skip))
 (.seq (sr [mv 13 0,
 ln 14 13,
 mI 15 0] [13]
 (.block 0 (.loop (sr [bS 16 .lss 15 14] []
 (.seq (.cond (.s 16)
 .skip
 (.exit 0))
 (.seq (.block 1 (sr [mv 17 15,
 mv 7 17] [17]
 (.seq (.seq (.draw [⟨mv 18 2,[]⟩,
 ⟨mv 19 0,[]⟩,
 ⟨mv 20 7,[]⟩,
 ⟨ia 21 2 19 20,[1,2]⟩,
 ⟨lS 22 2 21,[3,1,2]⟩,
 ⟨mv 23 1,[]⟩,
 ⟨mv 24 7,[]⟩,
 ⟨ia 25 2 23 24,[5,6]⟩,
 ⟨lS 26 2 25,[7,5,6]⟩] [] [])
 (sr [o0 27 (.callv (.s 18) [(.s 22),(.s 26)])] []
 (.reg [uN 28 27] [18,19,20,21,22,23,24,25,26,27])))
 (.cond (.s 28)
 (sr [mB 6 false] []
 .ret)
 .skip))))
 (.reg [bI 29 .add 15 1,
 mv 15 29] [29])))))))
 (sr [mB 6 true] []
 .ret))))⟩
theorem OT:ax Tryz.prog 54=some Cq:=by kernel_rfl
abbrev QG:FuncId:=54
def Cn:aN :=
⟨30,3,[.tmp 6],
 (sr [mB 6 false] []
 (.seq (sr [mv 8 0,
 ln 9 8,
 mv 10 1,
 ln 11 10,
 bS 12 .neq 9 11] [8,9,10,11]
 (.cond (.s 12)
 (sr [mB 6 false] []
 .ret)
 .skip))
 (.seq (sr [mv 13 0,
 ln 14 13,
 mI 15 0] [13]
 (.block 0 (.loop (sr [bS 16 .lss 15 14] []
 (.seq (.cond (.s 16)
 .skip
 (.exit 0))
 (.seq (.block 1 (sr [mv 17 15,
 mv 7 17] [17]
 (.seq (.seq (.draw [⟨mv 18 2,[]⟩,
 ⟨mv 19 0,[]⟩,
 ⟨mv 20 7,[]⟩,
 ⟨ia 21 3 19 20,[1,2]⟩,
 ⟨lS 22 3 21,[3,1,2]⟩,
 ⟨mv 23 1,[]⟩,
 ⟨mv 24 7,[]⟩,
 ⟨ia 25 3 23 24,[5,6]⟩,
 ⟨lS 26 3 25,[7,5,6]⟩] [] [])
 (sr [o0 27 (.callv (.s 18) [(.s 22),(.s 26)])] []
 (.reg [uN 28 27] [18,19,20,21,22,23,24,25,26,27])))
 (.cond (.s 28)
 (sr [mB 6 false] []
 .ret)
 .skip))))
 (.reg [bI 29 .add 15 1,
 mv 15 29] [29])))))))
 (sr [mB 6 true] []
 .ret))))⟩
theorem OQ:ax Tryz.prog 58=some Cn:=by kernel_rfl
abbrev QD:FuncId:=58
def GD:aN :=
⟨8,2,[.tmp 4],
 (sr [o0 2 (.box 55 3 (.s 0)),
 o0 3 (.box 55 3 (.s 1)),
 mB 4 false] []
 (sr [lS 5 3 2,
 lS 6 3 3,
 o0 7 (.sbin .eql [.i,.i,.b] (.s 5) (.s 6)),
 mv 4 7] [5,6,7]
 .ret))⟩
theorem Om:ax Tryz.prog 62=some GD:=by kernel_rfl
abbrev Ms:FuncId:=62
def Cg:aN :=
⟨30,3,[.tmp 6],
 (sr [mB 6 false] []
 (.seq (sr [mv 8 0,
 ln 9 8,
 mv 10 1,
 ln 11 10,
 bS 12 .neq 9 11] [8,9,10,11]
 (.cond (.s 12)
 (sr [mB 6 false] []
 .ret)
 .skip))
 (.seq (sr [mv 13 0,
 ln 14 13,
 mI 15 0] [13]
 (.block 0 (.loop (sr [bS 16 .lss 15 14] []
 (.seq (.cond (.s 16)
 .skip
 (.exit 0))
 (.seq (.block 1 (sr [mv 17 15,
 mv 7 17] [17]
 (.seq (.seq (.draw [⟨mv 18 2,[]⟩,
 ⟨mv 19 0,[]⟩,
 ⟨mv 20 7,[]⟩,
 ⟨ia 21 3 19 20,[1,2]⟩,
 ⟨lS 22 3 21,[3,1,2]⟩,
 ⟨mv 23 1,[]⟩,
 ⟨mv 24 7,[]⟩,
 ⟨ia 25 3 23 24,[5,6]⟩,
 ⟨lS 26 3 25,[7,5,6]⟩] [] [])
 (sr [o0 27 (.callv (.s 18) [(.s 22),(.s 26)])] []
 (.reg [uN 28 27] [18,19,20,21,22,23,24,25,26,27])))
 (.cond (.s 28)
 (sr [mB 6 false] []
 .ret)
 .skip))))
 (.reg [bI 29 .add 15 1,
 mv 15 29] [29])))))))
 (sr [mB 6 true] []
 .ret))))⟩
theorem Oy:ax Tryz.prog 64=some Cg:=by kernel_rfl
abbrev Qr:FuncId:=64
def Cf:aN :=
⟨30,3,[.tmp 6],
 (sr [mB 6 false] []
 (.seq (sr [mv 8 0,
 ln 9 8,
 mv 10 1,
 ln 11 10,
 bS 12 .neq 9 11] [8,9,10,11]
 (.cond (.s 12)
 (sr [mB 6 false] []
 .ret)
 .skip))
 (.seq (sr [mv 13 0,
 ln 14 13,
 mI 15 0] [13]
 (.block 0 (.loop (sr [bS 16 .lss 15 14] []
 (.seq (.cond (.s 16)
 .skip
 (.exit 0))
 (.seq (.block 1 (sr [mv 17 15,
 mv 7 17] [17]
 (.seq (.seq (.draw [⟨mv 18 2,[]⟩,
 ⟨mv 19 0,[]⟩,
 ⟨mv 20 7,[]⟩,
 ⟨ia 21 3 19 20,[1,2]⟩,
 ⟨lS 22 3 21,[3,1,2]⟩,
 ⟨mv 23 1,[]⟩,
 ⟨mv 24 7,[]⟩,
 ⟨ia 25 3 23 24,[5,6]⟩,
 ⟨lS 26 3 25,[7,5,6]⟩] [] [])
 (sr [o0 27 (.callv (.s 18) [(.s 22),(.s 26)])] []
 (.reg [uN 28 27] [18,19,20,21,22,23,24,25,26,27])))
 (.cond (.s 28)
 (sr [mB 6 false] []
 .ret)
 .skip))))
 (.reg [bI 29 .add 15 1,
 mv 15 29] [29])))))))
 (sr [mB 6 true] []
 .ret))))⟩
theorem Ox:ax Tryz.prog 68=some Cf:=by kernel_rfl
abbrev Qq:FuncId:=68
def xu:aN :=
⟨25,1,[.tmp 2],
 (sr [o0 1 (.box 51 2 (.s 0)),
 mI 2 0] []
 (.seq (.block 0 (sr [fa 4 0 1,
 lo 5 4,
 ln 6 5,
 bI 7 .gtr 6 8,
 mv 8 7,
 oF 9 8 (fd 1 1),
 oF 10 8 (ld 9),
 oF 11 8 (.len (.s 10)),
 oF 12 8 (.bin .gtr (.s 11) (iC 8)),
 pT 13 8 12,
 mv 3 13] [4,5,6,7,8,9,10,11,12,13]
 (.cond (.s 3)
 (sr [mI 2 6] []
 .ret)
 (sr [fa 15 0 1,
 lo 16 15,
 c1 17 114 16,
 uN 18 17,
 mv 19 18,
 oF 20 19 (fd 1 1),
 oF 21 19 (ld 20),
 oF 22 19 (.call 114 [(.s 21)]),
 oF 23 19 (.un .not (.s 22)),
 pT 24 19 23,
 mv 14 24] [15,16,17,18,19,20,21,22,23,24]
 (.cond (.s 14)
 (sr [mI 2 12] []
 .ret)
 .skip)))))
 (sr [mI 2 0] []
 .ret)))⟩
theorem Pa:ax Tryz.prog 71=some xu:=by kernel_rfl
abbrev QM:FuncId:=71
def GU:aN :=
⟨8,2,[.tmp 4,.tmp 5],
 (sr [o0 3 (.box 61 13 (.s 1)),
 mI 4 0,
 mI 5 0] []
 (sr [lS 6 13 3,
 c1 7 74 6,
 mI 4 0,
 mv 5 7] [6,7]
 .ret))⟩
theorem O3:ax Tryz.prog 73=some GU:=by kernel_rfl
abbrev MI:FuncId:=73
def NX:aN :=
⟨56,6,[],
 (.seq (sr [mv 16 2,
 ln 17 16,
 mv 18 4,
 bS 19 .add 17 18,
 mv 20 3,
 bS 21 .gtr 19 20] [16,17,18,19,20]
 (.cond (.s 21)
 (.reg [mv 22 0,
 mv 23 1,
 mv 24 3,
 mv 25 4,
 bS 26 .sub 24 25,
 o0 27 (.mnx true (iC 0) (.s 26)),
 o0 28 (.call 92 [(.s 22),(.s 23),(.s 27),(iC 0),(iC 6)])] [22,23,24,25,26,27,28])
 .skip))
 (sr [mv 29 2,
 ln 30 29,
 mI 31 0] []
 (.block 0 (.loop (sr [bS 32 .lss 31 30] []
 (.seq (.cond (.s 32)
 .skip
 (.exit 0))
 (.seq (.block 1 (sr [mv 33 31,
 ia 34 3 29 31,
 lS 35 3 34,
 o0 13 (.new 64 [(.int .i64 0),.nl,.nl]),
 mv 12 33,
 sT 3 13 35] [33,34,35]
 (.seq (sr [mv 36 0,
 nk 37 36,
 fa 38 0 37,
 fa 39 3 38,
 lo 40 39,
 bI 41 .neq 40 0] [36,37,38,39,40]
 (cR 41))
 (sr [mv 43 5,
 mv 44 12,
 lS 45 3 13,
 o0 46 (.callv (.s 43) [(.s 44),(.s 45)]),
 mv 42 46,
 xt 47 42 0,
 xt 48 42 1,
 mv 14 47,
 mv 15 48] [43,44,45,46,42,47,48]
 (.reg [mv 49 0,
 mv 50 1,
 mv 51 12,
 mv 52 14,
 mv 53 15,
 o0 54 (.call 92 [(.s 49),(.s 50),(.s 51),(.s 52),(.s 53)])] [49,50,51,52,53,54])))))
 (.reg [bI 55 .add 31 1,
 mv 31 55] [55]))))))))⟩
theorem OM:ax Tryz.prog 75=some NX:=by kernel_rfl
abbrev Jd:FuncId:=75
def NW:aN :=
⟨56,6,[],
 (.seq (sr [mv 16 2,
 ln 17 16,
 mv 18 4,
 bS 19 .add 17 18,
 mv 20 3,
 bS 21 .gtr 19 20] [16,17,18,19,20]
 (.cond (.s 21)
 (.reg [mv 22 0,
 mv 23 1,
 mv 24 3,
 mv 25 4,
 bS 26 .sub 24 25,
 o0 27 (.mnx true (iC 0) (.s 26)),
 o0 28 (.call 92 [(.s 22),(.s 23),(.s 27),(iC 0),(iC 6)])] [22,23,24,25,26,27,28])
 .skip))
 (sr [mv 29 2,
 ln 30 29,
 mI 31 0] []
 (.block 0 (.loop (sr [bS 32 .lss 31 30] []
 (.seq (.cond (.s 32)
 .skip
 (.exit 0))
 (.seq (.block 1 (sr [mv 33 31,
 ia 34 4 29 31,
 lS 35 4 34,
 o0 13 (.new 57 [(.int .i64 0),(.int .i64 0),(.int .i64 0),(.bool false)]),
 mv 12 33,
 sT 4 13 35] [33,34,35]
 (.seq (sr [mv 36 0,
 nk 37 36,
 fa 38 0 37,
 fa 39 3 38,
 lo 40 39,
 bI 41 .neq 40 0] [36,37,38,39,40]
 (cR 41))
 (sr [mv 43 5,
 mv 44 12,
 lS 45 4 13,
 o0 46 (.callv (.s 43) [(.s 44),(.s 45)]),
 mv 42 46,
 xt 47 42 0,
 xt 48 42 1,
 mv 14 47,
 mv 15 48] [43,44,45,46,42,47,48]
 (.reg [mv 49 0,
 mv 50 1,
 mv 51 12,
 mv 52 14,
 mv 53 15,
 o0 54 (.call 92 [(.s 49),(.s 50),(.s 51),(.s 52),(.s 53)])] [49,50,51,52,53,54])))))
 (.reg [bI 55 .add 31 1,
 mv 31 55] [55]))))))))⟩
theorem OF:ax Tryz.prog 78=some NW:=by kernel_rfl
abbrev MA:FuncId:=78
def RT:aN :=
⟨56,6,[],
 (.seq (sr [mv 16 2,
 ln 17 16,
 mv 18 4,
 bS 19 .add 17 18,
 mv 20 3,
 bS 21 .gtr 19 20] [16,17,18,19,20]
 (.cond (.s 21)
 (.reg [mv 22 0,
 mv 23 1,
 mv 24 3,
 mv 25 4,
 bS 26 .sub 24 25,
 o0 27 (.mnx true (iC 0) (.s 26)),
 o0 28 (.call 92 [(.s 22),(.s 23),(.s 27),(iC 0),(iC 6)])] [22,23,24,25,26,27,28])
 .skip))
 (sr [mv 29 2,
 ln 30 29,
 mI 31 0] []
 (.block 0 (.loop (sr [bS 32 .lss 31 30] []
 (.seq (.cond (.s 32)
 .skip
 (.exit 0))
 (.seq (.block 1 (sr [mv 33 31,
 ia 34 3 29 31,
 lS 35 3 34,
 o0 13 (.new 66 [(.int .i64 0),(.bool false),.nl]),
 mv 12 33,
 sT 3 13 35] [33,34,35]
 (.seq (sr [mv 36 0,
 nk 37 36,
 fa 38 0 37,
 fa 39 3 38,
 lo 40 39,
 bI 41 .neq 40 0] [36,37,38,39,40]
 (cR 41))
 (sr [mv 43 5,
 mv 44 12,
 lS 45 3 13,
 o0 46 (.callv (.s 43) [(.s 44),(.s 45)]),
 mv 42 46,
 xt 47 42 0,
 xt 48 42 1,
 mv 14 47,
 mv 15 48] [43,44,45,46,42,47,48]
 (.reg [mv 49 0,
 mv 50 1,
 mv 51 12,
 mv 52 14,
 mv 53 15,
 o0 54 (.call 92 [(.s 49),(.s 50),(.s 51),(.s 52),(.s 53)])] [49,50,51,52,53,54])))))
 (.reg [bI 55 .add 31 1,
 mv 31 55] [55]))))))))⟩
theorem R6:ax Tryz.prog 84=some RT:=by kernel_rfl
abbrev RQ:FuncId:=84
def GZ:aN :=
⟨8,2,[.tmp 4,.tmp 5],
 (sr [o0 3 (.box 68 3 (.s 1)),
 mI 4 0,
 mI 5 0] []
 (sr [lS 6 3 3,
 c1 7 90 6,
 mI 4 0,
 mv 5 7] [6,7]
 .ret))⟩
theorem O8:ax Tryz.prog 89=some GZ:=by kernel_rfl
abbrev MO:FuncId:=89
def Hh:aN :=
⟨24,1,[.tmp 2],
 (sr [o0 1 (.box 68 3 (.s 0)),
 mI 2 0] []
 (.seq (sr [fa 4 0 1,
 lo 5 4,
 c1 6 115 5,
 mv 3 6] [4,5,6]
 (sr [mv 7 3,
 bI 8 .neq 7 0] [7]
 (.cond (.s 8)
 (sr [mv 9 3,
 mv 2 9] [9]
 .ret)
 .skip)))
 (.seq (.block 0 (sr [fa 11 1 1,
 lo 12 11,
 bI 13 .lss 12 0,
 mv 14 13,
 oF 15 14 (fd 1 1),
 oF 16 14 (ld 15),
 oF 17 14 (.bin .gtr (.s 16) (iC 3)),
 pT 18 14 17,
 mv 10 18] [11,12,13,14,15,16,17,18]
 (.cond (.s 10)
 (sr [mI 2 1] []
 .ret)
 (sr [fa 20 2 1,
 lo 21 20,
 c1 22 91 21,
 uN 23 22,
 mv 19 23] [20,21,22,23]
 (.cond (.s 19)
 (sr [mI 2 11] []
 .ret)
 .skip)))))
 (sr [mI 2 0] []
 .ret))))⟩
theorem PC:ax Tryz.prog 90=some Hh:=by kernel_rfl
abbrev QY:FuncId:=90
def G0:aN :=
⟨10,2,[.tmp 4,.tmp 5],
 (sr [o0 3 (.box 70 5 (.s 1)),
 mI 4 0,
 mI 5 0] []
 (sr [lS 6 5 3,
 c1 7 95 6,
 xt 8 7 0,
 xt 9 7 1,
 mv 4 8,
 mv 5 9] [6,7,8,9]
 .ret))⟩
theorem O9:ax Tryz.prog 94=some G0:=by kernel_rfl
abbrev MP:FuncId:=94
def lL:aN :=
⟨69,1,[.tmp 2,.tmp 3],
 (sr [o0 1 (.box 70 5 (.s 0)),
 mI 2 0,
 mI 3 0] []
 (.seq (.block 0 (sr [fa 9 0 1,
 lo 10 9,
 bI 11 .lss 10 0,
 mv 12 11,
 oF 13 12 (fd 0 1),
 oF 14 12 (ld 13),
 oF 15 12 (.bin .gtr (.s 14) (iC 2)),
 pT 16 12 15,
 mv 17 16,
 oF 18 17 (fd 0 1),
 oF 19 17 (ld 18),
 oF 20 17 (.bin .neq (.s 19) (iC 0)),
 mf 21 20 17,
 ot 22 21 (fd 1 1),
 ot 23 21 (ld 22),
 ot 24 21 (.bin .neq (.s 23) (iC 0)),
 mt 25 24 21,
 oF 26 25 (fd 2 1),
 oF 27 25 (ld 26),
 oF 28 25 (.len (.s 27)),
 oF 29 25 (.bin .gtr (.s 28) (iC 0)),
 ot 30 21 (.pick (.s 25) (bC true) (.s 29)),
 oF 31 17 (.pick (.s 21) (.s 30) (bC false)),
 pT 32 17 31,
 mv 8 32] [9,10,11,12,13,14,15,16,17,18,19,20,21,22,23,24,25,26,27,28,29,30,31,32]
 (.cond (.s 8)
 (sr [mI 2 0,
 mI 3 1] []
 .ret)
 (sr [fa 34 1 1,
 lo 35 34,
 c1 36 91 35,
 uN 37 36,
 mv 33 37] [34,35,36,37]
 (.cond (.s 33)
 (sr [mI 2 0,
 mI 3 11] []
 .ret)
 (sr [fa 39 3 1,
 lo 40 39,
 c1 41 117 40,
 uN 42 41,
 mv 38 42] [39,40,41,42]
 (.cond (.s 38)
 (sr [mI 2 0,
 mI 3 12] []
 .ret)
 (sr [fa 44 4 1,
 lo 45 44,
 ln 46 45,
 bI 47 .gtr 46 256,
 mv 43 47] [44,45,46,47]
 (.cond (.s 43)
 (sr [mI 2 0,
 mI 3 6] []
 .ret)
 .skip)))))))))
 (.seq (.seq (.reg [fa 48 2 1,
 lo 49 48,
 o0 50 (.bsl 62 1 [[.nl]] [(0,(.s 49))]),
 fa 51 4 1,
 lo 52 51,
 o0 53 (.app 62 1 (.s 50) (.s 52)),
 ln 54 53,
 mI 55 0] [48,49,50,51,52])
 (.block 1 (.loop (sr [bS 56 .lss 55 54] []
 (.seq (.cond (.s 56)
 .skip
 (.exit 1))
 (.seq (.block 2 (sr [ia 57 1 53 55,
 lo 58 57,
 mv 5 58] [57,58]
 (sr [mv 60 5,
 c1 61 87 60,
 mv 59 61,
 xt 62 59 0,
 xt 63 59 1,
 mv 6 62,
 mv 7 63] [60,61,59,62,63]
 (sr [mv 64 7,
 bI 65 .neq 64 0] [64]
 (.cond (.s 65)
 (sr [mv 66 6,
 mv 67 7,
 mv 2 66,
 mv 3 67] [66,67]
 .ret)
 .skip)))))
 (.reg [bI 68 .add 55 1,
 mv 55 68] [68])))))))
 (sr [mI 2 0,
 mI 3 0] []
 .ret))))⟩
theorem K9:ax Tryz.prog 95=some lL:=by kernel_rfl
abbrev Mj:FuncId:=95
def GQ:aN :=
⟨8,2,[.tmp 4,.tmp 5],
 (sr [o0 3 (.box 75 3 (.s 1)),
 mI 4 0,
 mI 5 0] []
 (sr [lS 6 3 3,
 c1 7 101 6,
 mI 4 0,
 mv 5 7] [6,7]
 .ret))⟩
theorem OZ:ax Tryz.prog 100=some GQ:=by kernel_rfl
abbrev ME:FuncId:=100
def GR:aN :=
⟨11,2,[.tmp 4,.tmp 5],
 (sr [o0 3 (.box 64 3 (.s 1)),
 mI 4 0,
 mI 5 0] []
 (sr [fa 6 2 3,
 lo 7 6,
 c1 8 87 7,
 xt 9 8 0,
 xt 10 8 1,
 mv 4 9,
 mv 5 10] [6,7,8,9,10]
 .ret))⟩
theorem O0:ax Tryz.prog 102=some GR:=by kernel_rfl
abbrev MG:FuncId:=102
def Cr:aN :=
⟨26,2,[.tmp 4],
 (sr [mB 4 false] []
 (.seq (sr [mv 7 0,
 ln 8 7,
 mv 9 1,
 ln 10 9,
 bS 11 .neq 8 10] [7,8,9,10]
 (.cond (.s 11)
 (sr [mB 4 false] []
 .ret)
 .skip))
 (.seq (sr [mv 12 0,
 ln 13 12,
 mI 14 0] []
 (.block 0 (.loop (sr [bS 15 .lss 14 13] []
 (.seq (.cond (.s 15)
 .skip
 (.exit 0))
 (.seq (.block 1 (sr [mv 16 14,
 ia 17 1 12 14,
 lo 18 17,
 mv 5 16,
 mv 6 18] [16,17,18]
 (sr [mv 19 6,
 mv 20 1,
 mv 21 5,
 ia 22 1 20 21,
 lo 23 22,
 bS 24 .neq 19 23] [19,20,21,22,23]
 (.cond (.s 24)
 (sr [mB 4 false] []
 .ret)
 .skip))))
 (.reg [bI 25 .add 14 1,
 mv 14 25] [25])))))))
 (sr [mB 4 true] []
 .ret))))⟩
theorem OU:ax Tryz.prog 111=some Cr:=by kernel_rfl
abbrev QH:FuncId:=111
def xp:aN :=
⟨6,1,[.tmp 2],
 (sr [mB 2 false] []
 (.seq (.reg [mv 3 0,
 o0 4 (.call 124 [(.s 3),(.c (.fn 125 []))]),
 uN 5 4,
 mv 2 5] [3,4,5])
 .ret))⟩
theorem Lb:ax Tryz.prog 114=some xp:=by kernel_rfl
abbrev Ml:FuncId:=114
def tL:aN :=
⟨11,1,[.tmp 2],
 (sr [mI 2 0] []
 (.seq (.block 0 (sr [mv 4 0,
 o0 5 (.slen (.s 4)),
 bI 6 .gtr 5 64,
 mv 3 6] [4,5,6]
 (.cond (.s 3)
 (sr [mI 2 6] []
 .ret)
 (sr [mv 8 0,
 c1 9 126 8,
 uN 10 9,
 mv 7 10] [8,9,10]
 (.cond (.s 7)
 (sr [mI 2 9] []
 .ret)
 .skip)))))
 (sr [mI 2 0] []
 .ret)))⟩
theorem K_:ax Tryz.prog 115=some tL:=by kernel_rfl
abbrev Mk:FuncId:=115
def mS:aN :=
⟨34,1,[.cell 2 (some 13)],
 (.seq (.reg [o0 1 (.box 61 13 (.s 0)),
 o0 2 (.new 61 [(.str []),(.str []),(.int .i64 0),(.int .i64 0),(.int .i64 0),(.int .i64 0),(.int .i64 0),(.bool false),(.int .i64 0),(.int .i64 0),(.bool false),(.int .i64 0),(.bool false)])] [])
 (.seq (.reg [fa 4 0 1,
 lo 5 4,
 fa 6 1 1,
 lo 7 6,
 fa 8 2 1,
 lo 9 8,
 o0 10 (.build [(.str []),(.str []),(.int .i64 0),(.int .i64 0),(.int .i64 0),(.int .i64 0),(.int .i64 0),(.bool false),(.int .i64 0),(.int .i64 0),(.bool false),(.int .i64 0),(.bool false)] [(0,1,(.s 5)),(1,1,(.s 7)),(2,1,(.s 9))]),
 o0 3 (.new 61 [(.str []),(.str []),(.int .i64 0),(.int .i64 0),(.int .i64 0),(.int .i64 0),(.int .i64 0),(.bool false),(.int .i64 0),(.int .i64 0),(.bool false),(.int .i64 0),(.bool false)]),
 sT 13 3 10] [4,5,6,7,8,9,10])
 (.seq (sr [fa 11 2 1,
 lo 12 11] [11]
 (.block 0 (sr [bI 14 .eql 12 0,
 mv 13 14] [14]
 (.cond (.s 13)
 (.reg [fa 15 3 1,
 lo 16 15,
 fa 17 3 3,
 sT 1 17 16] [15,16,17])
 (sr [bI 19 .eql 12 1,
 mv 18 19] [19]
 (.cond (.s 18)
 (.reg [fa 20 4 1,
 lS 21 4 20,
 fa 22 4 3,
 sT 4 22 21] [20,21,22])
 (sr [bI 24 .eql 12 2,
 mv 23 24] [24]
 (.cond (.s 23)
 (.reg [fa 25 8 1,
 lS 26 3 25,
 fa 27 8 3,
 sT 3 27 26] [25,26,27])
 (sr [bI 29 .eql 12 3,
 mv 28 29] [29]
 (.cond (.s 28)
 (.reg [fa 30 11 1,
 lS 31 2 30,
 fa 32 11 3,
 sT 2 32 31] [30,31,32])
 .skip))))))))))
 (sr [lS 33 13 3,
 sT 13 2 33] [33]
 .ret))))⟩
theorem K5:ax Tryz.prog 116=some mS:=by kernel_rfl
abbrev Mg:FuncId:=116
def Nz:aN :=
⟨26,2,[.tmp 4],
 (sr [mB 4 false] []
 (.seq (sr [mv 6 0,
 ln 7 6,
 mv 8 1,
 ln 9 8,
 bS 10 .neq 7 9] [6,7,8,9]
 (.cond (.s 10)
 (sr [mB 4 false] []
 .ret)
 .skip))
 (.seq (sr [mv 11 0,
 ln 12 11,
 mI 13 0] [11]
 (.block 0 (.loop (sr [bS 14 .lss 13 12] []
 (.seq (.cond (.s 14)
 .skip
 (.exit 0))
 (.seq (.block 1 (sr [mv 15 13,
 mv 5 15] [15]
 (.seq (.seq (.draw [⟨mv 16 0,[]⟩,
 ⟨mv 17 5,[]⟩,
 ⟨ia 18 1 16 17,[0,1]⟩,
 ⟨lo 19 18,[2,0,1]⟩,
 ⟨mv 20 1,[]⟩,
 ⟨mv 21 5,[]⟩,
 ⟨ia 22 1 20 21,[4,5]⟩,
 ⟨lo 23 22,[6,4,5]⟩] [] [])
 (.reg [bS 24 .neq 19 23] [16,17,18,19,20,21,22,23]))
 (.cond (.s 24)
 (sr [mB 4 false] []
 .ret)
 .skip))))
 (.reg [bI 25 .add 13 1,
 mv 13 25] [25])))))))
 (sr [mB 4 true] []
 .ret))))⟩
theorem R4:ax Tryz.prog 122=some Nz:=by kernel_rfl
abbrev So:FuncId:=122
def Cj:aN :=
⟨26,2,[.tmp 4],
 (sr [mB 4 false] []
 (.seq (sr [mv 6 0,
 ln 7 6,
 mv 8 1,
 ln 9 8,
 bS 10 .neq 7 9] [6,7,8,9]
 (.cond (.s 10)
 (sr [mB 4 false] []
 .ret)
 .skip))
 (.seq (sr [mv 11 0,
 ln 12 11,
 mI 13 0] [11]
 (.block 0 (.loop (sr [bS 14 .lss 13 12] []
 (.seq (.cond (.s 14)
 .skip
 (.exit 0))
 (.seq (.block 1 (sr [mv 15 13,
 mv 5 15] [15]
 (.seq (.seq (.draw [⟨mv 16 0,[]⟩,
 ⟨mv 17 5,[]⟩,
 ⟨ia 18 1 16 17,[0,1]⟩,
 ⟨lo 19 18,[2,0,1]⟩,
 ⟨mv 20 1,[]⟩,
 ⟨mv 21 5,[]⟩,
 ⟨ia 22 1 20 21,[4,5]⟩,
 ⟨lo 23 22,[6,4,5]⟩] [] [])
 (.reg [bS 24 .neq 19 23] [16,17,18,19,20,21,22,23]))
 (.cond (.s 24)
 (sr [mB 4 false] []
 .ret)
 .skip))))
 (.reg [bI 25 .add 13 1,
 mv 13 25] [25])))))))
 (sr [mB 4 true] []
 .ret))))⟩
theorem OD:ax Tryz.prog 123=some Cj:=by kernel_rfl
abbrev Qv:FuncId:=123
def Ny:aN :=
⟨9,2,[.tmp 4],
 (sr [mB 4 false] []
 (sr [mv 5 0,
 mv 6 1,
 c2 7 134 5 6,
 bI 8 .geq 7 0,
 mv 4 8] [5,6,7,8]
 .ret))⟩
theorem RX:ax Tryz.prog 124=some Ny:=by kernel_rfl
abbrev Si:FuncId:=124
def Hk:aN :=
⟨6,1,[.tmp 2],
 (sr [mB 2 false] []
 (sr [mv 3 0,
 c1 4 119 3,
 uN 5 4,
 mv 2 5] [3,4,5]
 .ret))⟩
theorem PF:ax Tryz.prog 125=some Hk:=by kernel_rfl
abbrev A8:FuncId:=125
def GO:aN :=
⟨169,1,[.tmp 2],
 (sr [mB 2 false] []
 (.seq (.block 0 (.loop (.seq (sr [mv 7 0,
 o0 8 (.slen (.s 7)),
 bI 9 .gtr 8 0] [7,8]
 (.cond (.s 9)
 .skip
 (.exit 0)))
 (.block 1 (sr [mv 10 0,
 o0 11 (.sidx (.s 10) (iC 0)),
 mv 3 11] [10,11]
 (.seq (sr [mv 12 3,
 o0 13 (.bin .lss (.s 12) (.c (.int .u8 128)))] [12]
 (.cond (.s 13)
 (sr [mv 14 0,
 o0 15 (.sslc (.s 14) (some (iC 1)) none),
 mv 0 15] [14,15]
 (.seq (sr [mv 16 0,
 o0 17 (.slen (.s 16)),
 bI 18 .gtr 17 8,
 mv 19 18,
 mt 20 0 19,
 ot 21 19 (.call 135 [(.s 20)]),
 ot 22 19 (.bin .and (.s 21) (.c (.int .u64 9259542123273814144))),
 ot 23 19 (.bin .eql (.s 22) (.c (.int .u64 0))),
 pF 24 19 23] [16,17,18,19,20,21,22,23]
 (.cond (.s 24)
 (sr [mv 25 0,
 o0 26 (.sslc (.s 25) (some (iC 8)) none),
 mv 0 26] [25,26]
 (.seq (sr [mv 27 0] []
 (sr [o0 28 (.slen (.s 27))] []
 (sr [bI 29 .gtr 28 16] []
 (sr [mv 30 29] []
 (.seq (.draw [⟨mt 31 0 30,[]⟩,
 ⟨ot 32 30 (.call 135 [(.s 31)]),[0]⟩,
 ⟨mt 33 0 30,[]⟩,
 ⟨ot 34 30 (.sslc (.s 33) (some (iC 8)) none),[2]⟩] [(32,1)] [])
 (sr [ot 35 30 (.call 135 [(.s 34)])] []
 (sr [ot 36 30 (.bin .or (.s 32) (.s 35))] []
 (sr [ot 37 30 (.bin .and (.s 36) (.c (.int .u64 9259542123273814144)))] []
 (sr [ot 38 30 (.bin .eql (.s 37) (.c (.int .u64 0)))] []
 (.reg [pF 39 30 38] [27,28,29,30,31,32,33,34,35,36,37,38]))))))))))
 (.cond (.s 39)
 (sr [mv 40 0,
 o0 41 (.sslc (.s 40) (some (iC 16)) none),
 mv 0 41] [40,41]
 (.block 2 (.loop (.seq (.seq (sr [mv 42 0] []
 (sr [o0 43 (.slen (.s 42))] []
 (sr [bI 44 .gtr 43 32] []
 (sr [mv 45 44] []
 (.seq (.draw [⟨mt 46 0 45,[]⟩,
 ⟨ot 47 45 (.call 135 [(.s 46)]),[0]⟩,
 ⟨mt 48 0 45,[]⟩,
 ⟨ot 49 45 (.sslc (.s 48) (some (iC 8)) none),[2]⟩,
 ⟨ot 50 45 (.call 135 [(.s 49)]),[3,2,1,0]⟩,
 ⟨ot 51 45 (.bin .or (.s 47) (.s 50)),[1,0,4,3,2]⟩,
 ⟨mt 52 0 45,[]⟩,
 ⟨ot 53 45 (.sslc (.s 52) (some (iC 16)) none),[6]⟩,
 ⟨ot 54 45 (.call 135 [(.s 53)]),[7,6,4,3,2,1,0]⟩,
 ⟨mt 55 0 45,[]⟩,
 ⟨ot 56 45 (.sslc (.s 55) (some (iC 24)) none),[9]⟩,
 ⟨ot 57 45 (.call 135 [(.s 56)]),[10,9,8,7,6,4,3,2,1,0]⟩,
 ⟨ot 58 45 (.bin .or (.s 54) (.s 57)),[8,7,6,4,3,2,1,0,11,10,9]⟩] [(47,1),(50,4),(54,8),(57,11)] [])
 (sr [ot 59 45 (.bin .or (.s 51) (.s 58))] []
 (sr [ot 60 45 (.bin .and (.s 59) (.c (.int .u64 9259542123273814144)))] []
 (sr [ot 61 45 (.bin .eql (.s 60) (.c (.int .u64 0)))] []
 (.reg [pF 62 45 61] [42,43,44,45,46,47,48,49,50,51,52,53,54,55,56,57,58,59,60,61])))))))))
 (.cond (.s 62)
 .skip
 (.exit 2)))
 (.block 3 (.reg [mv 63 0,
 o0 64 (.sslc (.s 63) (some (iC 32)) none),
 mv 0 64] [63,64]))))))
 .skip)))
 .skip))
 (.exit 1)))
 .skip))
 (sr [mv 65 3,
 o0 66 (.aadr 1 256 (.s 1000000) (.s 65)),
 lo 67 66,
 mv 4 67] [65,66,67]
 (sr [mv 68 4,
 o0 69 (.bin .and (.s 68) (.c (.int .u8 7))),
 o0 70 (.cvi .i64 (.s 69)),
 mv 5 70] [68,69,70]
 (sr [mv 71 4,
 o0 72 (.bin .shr (.s 71) (.c (.int .u64 4))),
 o0 73 (.aadr 2 16 (.s 1000001) (.s 72)),
 lS 74 2 73,
 o0 6 (.new 199 [(.int .u8 0),(.int .u8 0)]),
 sT 2 6 74] [71,72,73,74]
 (sr [mv 75 5] []
 (.block 4 (sr [bI 77 .eql 75 2,
 mv 76 77] [77]
 (.cond (.s 76)
 (.seq (.seq (sr [mv 78 0] []
 (sr [o0 79 (.slen (.s 78))] []
 (sr [bI 80 .lss 79 2] []
 (sr [mv 81 80] []
 (.seq (.draw [⟨mf 82 0 81,[]⟩,
 ⟨oF 83 81 (.sidx (.s 82) (iC 1)),[0]⟩,
 ⟨oF 84 81 (fd 0 6),[]⟩,
 ⟨oF 85 81 (ld 84),[2]⟩] [] [])
 (sr [oF 86 81 (.bin .lss (.s 83) (.s 85))] []
 (sr [pT 87 81 86] []
 (sr [mv 88 87] []
 (.seq (.draw [⟨oF 89 88 (fd 1 6),[]⟩,
 ⟨oF 90 88 (ld 89),[0]⟩,
 ⟨mf 91 0 88,[]⟩,
 ⟨oF 92 88 (.sidx (.s 91) (iC 1)),[2]⟩] [] [])
 (sr [oF 93 88 (.bin .lss (.s 90) (.s 92))] []
 (.reg [pT 94 88 93] [78,79,80,81,82,83,84,85,86,87,88,89,90,91,92,93])))))))))))
 (.cond (.s 94)
 (sr [mB 2 false] []
 .ret)
 .skip))
 (.reg [mv 95 0,
 o0 96 (.sslc (.s 95) (some (iC 2)) none),
 mv 0 96] [95,96]))
 (sr [bI 98 .eql 75 3,
 mv 97 98] [98]
 (.cond (.s 97)
 (.seq (.seq (sr [mv 99 0] []
 (sr [o0 100 (.slen (.s 99))] []
 (sr [bI 101 .lss 100 3] []
 (sr [mv 102 101] []
 (.seq (.draw [⟨mf 103 0 102,[]⟩,
 ⟨oF 104 102 (.sidx (.s 103) (iC 1)),[0]⟩,
 ⟨oF 105 102 (fd 0 6),[]⟩,
 ⟨oF 106 102 (ld 105),[2]⟩] [] [])
 (sr [oF 107 102 (.bin .lss (.s 104) (.s 106))] []
 (sr [pT 108 102 107] []
 (sr [mv 109 108] []
 (.seq (.draw [⟨oF 110 109 (fd 1 6),[]⟩,
 ⟨oF 111 109 (ld 110),[0]⟩,
 ⟨mf 112 0 109,[]⟩,
 ⟨oF 113 109 (.sidx (.s 112) (iC 1)),[2]⟩] [] [])
 (sr [oF 114 109 (.bin .lss (.s 111) (.s 113))] []
 (sr [pT 115 109 114] []
 (sr [mv 116 115] []
 (sr [mf 117 0 116] []
 (sr [oF 118 116 (.sidx (.s 117) (iC 2))] []
 (sr [oF 119 116 (.bin .lss (.s 118) (.c (.int .u8 128)))] []
 (sr [pT 120 116 119] []
 (sr [mv 121 120] []
 (sr [mf 122 0 121] []
 (sr [oF 123 121 (.sidx (.s 122) (iC 2))] []
 (sr [oF 124 121 (.bin .lss (.c (.int .u8 191)) (.s 123))] []
 (.reg [pT 125 121 124] [99,100,101,102,103,104,105,106,107,108,109,110,111,112,113,114,115,116,117,118,119,120,121,122,123,124])))))))))))))))))))))
 (.cond (.s 125)
 (sr [mB 2 false] []
 .ret)
 .skip))
 (.reg [mv 126 0,
 o0 127 (.sslc (.s 126) (some (iC 3)) none),
 mv 0 127] [126,127]))
 (sr [bI 129 .eql 75 4,
 mv 128 129] [129]
 (.cond (.s 128)
 (.seq (.seq (sr [mv 130 0] []
 (sr [o0 131 (.slen (.s 130))] []
 (sr [bI 132 .lss 131 4] []
 (sr [mv 133 132] []
 (.seq (.draw [⟨mf 134 0 133,[]⟩,
 ⟨oF 135 133 (.sidx (.s 134) (iC 1)),[0]⟩,
 ⟨oF 136 133 (fd 0 6),[]⟩,
 ⟨oF 137 133 (ld 136),[2]⟩] [] [])
 (sr [oF 138 133 (.bin .lss (.s 135) (.s 137))] []
 (sr [pT 139 133 138] []
 (sr [mv 140 139] []
 (.seq (.draw [⟨oF 141 140 (fd 1 6),[]⟩,
 ⟨oF 142 140 (ld 141),[0]⟩,
 ⟨mf 143 0 140,[]⟩,
 ⟨oF 144 140 (.sidx (.s 143) (iC 1)),[2]⟩] [] [])
 (sr [oF 145 140 (.bin .lss (.s 142) (.s 144))] []
 (sr [pT 146 140 145] []
 (sr [mv 147 146] []
 (sr [mf 148 0 147] []
 (sr [oF 149 147 (.sidx (.s 148) (iC 2))] []
 (sr [oF 150 147 (.bin .lss (.s 149) (.c (.int .u8 128)))] []
 (sr [pT 151 147 150] []
 (sr [mv 152 151] []
 (sr [mf 153 0 152] []
 (sr [oF 154 152 (.sidx (.s 153) (iC 2))] []
 (sr [oF 155 152 (.bin .lss (.c (.int .u8 191)) (.s 154))] []
 (sr [pT 156 152 155] []
 (sr [mv 157 156] []
 (sr [mf 158 0 157] []
 (sr [oF 159 157 (.sidx (.s 158) (iC 3))] []
 (sr [oF 160 157 (.bin .lss (.s 159) (.c (.int .u8 128)))] []
 (sr [pT 161 157 160] []
 (sr [mv 162 161] []
 (sr [mf 163 0 162] []
 (sr [oF 164 162 (.sidx (.s 163) (iC 3))] []
 (sr [oF 165 162 (.bin .lss (.c (.int .u8 191)) (.s 164))] []
 (.reg [pT 166 162 165] [130,131,132,133,134,135,136,137,138,139,140,141,142,143,144,145,146,147,148,149,150,151,152,153,154,155,156,157,158,159,160,161,162,163,164,165])))))))))))))))))))))))))))))))
 (.cond (.s 166)
 (sr [mB 2 false] []
 .ret)
 .skip))
 (.reg [mv 167 0,
 o0 168 (.sslc (.s 167) (some (iC 4)) none),
 mv 0 168] [167,168]))
 (sr [mB 2 false] []
 .ret))))))))))))))))))
 (sr [mB 2 true] []
 .ret)))⟩
theorem OX:ax Tryz.prog 126=some GO:=by kernel_rfl
abbrev QJ:FuncId:=126
abbrev jX:FuncId:=140
def G6:aN :=
⟨1,0,[.tmp 0],
 (sr [o0 0 (.mov (.c .nf))] []
 (sr [o0 0 (.mov (.c (.fn 143 [])))] []
 .ret))⟩
theorem Pj:ax Tryz.prog 141=some G6:=by kernel_rfl
abbrev QT:FuncId:=141
def GN:aN :=
⟨40,3,[.tmp 6],
 (sr [o0 3 (.box 33 12 (.s 0)),
 mB 6 false] []
 (.seq (sr [lS 9 12 3,
 c1 10 5 9,
 uN 11 10] [9,10]
 (.cond (.s 11)
 (sr [c0 12 6,
 mv 6 12] [12]
 .ret)
 .skip))
 (sr [lS 14 12 3,
 mv 15 1,
 o0 16 (.bin .rem (.s 15) (.c (.int .u8 12))),
 o0 17 (.cvi .i64 (.s 16)),
 mv 18 2,
 o0 19 (.cvi .i64 (.s 18)),
 c3 20 14 14 17 19,
 mv 13 20,
 xt 21 13 0,
 xt 22 13 1,
 o0 7 (.new 33 [.nl,.nl,.nl,.nl,.nl,.nl,.nl,(.bool false),(.int .i64 0),.nl,.nl,.nl]),
 sT 12 7 21,
 mv 8 22] [14,15,16,17,18,19,20,13,21,22]
 (sr [lS 23 12 3,
 lS 24 12 7,
 c2 25 10 23 24,
 mv 26 8,
 uN 27 26,
 o0 28 (.bbin .eql (.s 25) (.s 27)),
 mv 29 28,
 ot 30 29 (.load (some 12) (.s 7)),
 ot 31 29 (.load (some 12) (.s 3)),
 ot 32 29 (.call 10 [(.s 30),(.s 31)]),
 mt 33 8 29,
 ot 34 29 (.un .not (.s 33)),
 ot 35 29 (.bbin .eql (.s 32) (.s 34)),
 pF 36 29 35,
 mv 37 36,
 ot 38 37 (.call 6 []),
 pF 39 37 38,
 mv 6 39] [23,24,25,26,27,28,29,30,31,32,33,34,35,36,37,38,39]
 .ret))))⟩
theorem OW:ax Tryz.prog 4=some GN:=by kernel_rfl
abbrev QI:FuncId:=4
def G7:aN :=
⟨60,0,[.tmp 0],
 (sr [mB 0 false] []
 (sr [o0 5 (.build [(.int .i64 0),(.int .i64 0),(.int .i64 0),(.int .u64 0),(.int .i64 0),(.int .i64 0),(.int .i64 0),.nl,.nl] [(0,1,(iC 11))]),
 o0 1 (.new 83 [(.int .i64 0),(.int .i64 0),(.int .i64 0),(.int .u64 0),(.int .i64 0),(.int .i64 0),(.int .i64 0),.nl,.nl]),
 sT 9 1 5] [5]
 (.seq (.reg [o0 6 (.build [.nl,.nl] []),
 o0 7 (.bsl 51 2 [[.nl,.nl]] [(0,(.s 6))]),
 o0 8 (.build [(.int .i64 0),(.int .i64 0),(.int .i64 0),(.int .u64 0),(.int .i64 0),(.int .i64 0),(.int .i64 0),.nl,.nl] [(0,1,(iC 6))]),
 lS 9 9 1,
 o0 10 (.bsl 83 9 [[(.int .i64 0),(.int .i64 0),(.int .i64 0),(.int .u64 0),(.int .i64 0),(.int .i64 0),(.int .i64 0),.nl,.nl],[(.int .i64 0),(.int .i64 0),(.int .i64 0),(.int .u64 0),(.int .i64 0),(.int .i64 0),(.int .i64 0),.nl,.nl]] [(0,(.s 8)),(1,(.s 9))]),
 o0 11 (.build [(.int .i64 0),.nl,.nl] [(2,1,(.s 10))]),
 o0 12 (.bsl 64 3 [[(.int .i64 0),.nl,.nl]] [(0,(.s 11))]),
 o0 13 (.build [.nl,.nl,.nl,.nl,.nl,.nl,.nl,(.bool false),(.int .i64 0),.nl,.nl,.nl] [(0,1,(.s 7)),(2,1,(.s 12))]),
 o0 2 (.new 33 [.nl,.nl,.nl,.nl,.nl,.nl,.nl,(.bool false),(.int .i64 0),.nl,.nl,.nl]),
 sT 12 2 13] [6,7,8,9,10,11,12,13])
 (sr [o0 14 (.build [.nl,.nl,.nl,.nl,.nl,.nl,.nl,(.bool false),(.int .i64 0),.nl,.nl,.nl] []),
 o0 3 (.new 33 [.nl,.nl,.nl,.nl,.nl,.nl,.nl,(.bool false),(.int .i64 0),.nl,.nl,.nl]),
 sT 12 3 14] [14]
 (.seq (sr [mI 4 0] []
 (.block 0 (.loop (.seq (sr [mv 15 4,
 bI 16 .lss 15 5] [15]
 (.cond (.s 16)
 .skip
 (.exit 0)))
 (.seq (.block 1 (.reg [fa 19 1 3,
 lo 20 19,
 o0 21 (.build [(.int .i64 0),(.int .i64 0),(.int .i64 0),(.bool false)] [(0,1,(iC 3))]),
 o0 22 (.build [(.str []),(.str []),(.int .i64 0),(.int .i64 0),(.int .i64 0),(.int .i64 0),(.int .i64 0),(.bool false),(.int .i64 0),(.int .i64 0),(.bool false),(.int .i64 0),(.bool false)] [(2,1,(iC 1)),(4,4,(.s 21))]),
 o0 23 (.bsl 61 13 [[(.str []),(.str []),(.int .i64 0),(.int .i64 0),(.int .i64 0),(.int .i64 0),(.int .i64 0),(.bool false),(.int .i64 0),(.int .i64 0),(.bool false),(.int .i64 0),(.bool false)]] [(0,(.s 22))]),
 o0 24 (.app 61 13 (.s 20) (.s 23)),
 fa 25 1 3,
 sT 1 25 24] [19,20,21,22,23,24,25]))
 (.reg [mv 17 4,
 bI 18 .add 17 1,
 mv 4 18] [17,18]))))))
 (sr [lS 26 12 2,
 c1 27 11 26,
 o0 28 (.build [(.int .i64 0),(.int .i64 0),(.int .i64 0),(.int .i64 0)] [(0,1,(iC 12)),(3,1,(iC 10))]),
 o0 29 (.sbin .eql [.i,.i,.i,.i] (.s 27) (.s 28)),
 mv 30 29,
 ot 31 30 (.mks 51 2 [.nl,.nl] (iC 65) (iC 65)),
 ot 32 30 (.build [.nl,.nl,.nl,.nl,.nl,.nl,.nl,(.bool false),(.int .i64 0),.nl,.nl,.nl] [(0,1,(.s 31))]),
 ot 33 30 (.call 11 [(.s 32)]),
 ot 34 30 (.build [(.int .i64 0),(.int .i64 0),(.int .i64 0),(.int .i64 0)] [(0,1,(iC 1)),(1,1,(iC 64)),(3,1,(iC 6))]),
 ot 35 30 (.sbin .eql [.i,.i,.i,.i] (.s 33) (.s 34)),
 pF 36 30 35,
 mv 37 36,
 ot 38 37 (.load (some 12) (.s 2)),
 ot 39 37 (.load (some 12) (.s 2)),
 ot 40 37 (.call 10 [(.s 38),(.s 39)]),
 pF 41 37 40,
 mv 42 41,
 ot 43 42 (.load (some 12) (.s 2)),
 ot 44 42 (.load (some 12) (.s 3)),
 ot 45 42 (.call 10 [(.s 43),(.s 44)]),
 ot 46 42 (.un .not (.s 45)),
 pF 47 42 46,
 mv 48 47,
 ot 49 48 (.load (some 12) (.s 2)),
 ot 50 48 (.call 12 [(.s 49)]),
 ot 51 48 (.bin .eql (.s 50) (iC 2)),
 pF 52 48 51,
 mv 53 52,
 ot 54 53 (.load (some 12) (.s 3)),
 ot 55 53 (.call 8 [(.s 54)]),
 ot 56 53 (.fld 1 none (.s 55)),
 ot 57 53 (.len (.s 56)),
 ot 58 53 (.bin .eql (.s 57) (iC 5)),
 pF 59 53 58,
 mv 0 59] [26,27,28,29,30,31,32,33,34,35,36,37,38,39,40,41,42,43,44,45,46,47,48,49,50,51,52,53,54,55,56,57,58,59]
 .ret))))))⟩
theorem Pm:ax Tryz.prog 6=some G7:=by kernel_rfl
abbrev QW:FuncId:=6
def xk:aN :=
⟨44,1,[.cell 2 (some 12)],
 (sr [o0 1 (.box 33 12 (.s 0)),
 o0 2 (.new 33 [.nl,.nl,.nl,.nl,.nl,.nl,.nl,(.bool false),(.int .i64 0),.nl,.nl,.nl])] []
 (.seq (.reg [fa 3 0 1,
 lo 4 3,
 o0 5 (.call 17 [(.s 4),(.c (.fn 18 []))]),
 fa 6 0 1,
 sT 1 6 5] [3,4,5,6])
 (.seq (.seq (.draw [⟨fa 7 1 1,[]⟩,
 ⟨lo 8 7,[0]⟩,
 ⟨c1 9 20 8,[1,0]⟩,
 ⟨fa 10 3 1,[]⟩,
 ⟨lo 11 10,[3]⟩,
 ⟨c1 12 21 11,[4,3,2,1,0]⟩,
 ⟨fa 13 4 1,[]⟩,
 ⟨lo 14 13,[6]⟩,
 ⟨c1 15 22 14,[7,6,5,4,3,2,1,0]⟩,
 ⟨fa 16 6 1,[]⟩,
 ⟨lo 17 16,[9]⟩,
 ⟨c1 18 23 17,[10,9,8,7,6,5,4,3,2,1,0]⟩,
 ⟨fa 19 1 1,[0,1,2,3,4,6,7,9,10]⟩] [(9,2),(12,5),(15,8),(18,11)] [])
 (sr [sT 1 19 9] []
 (sr [fa 20 3 1] []
 (sr [sT 1 20 12] []
 (sr [fa 21 4 1] []
 (sr [sT 1 21 15] []
 (sr [fa 22 6 1] []
 (.reg [sT 1 22 18] [7,8,9,10,11,12,13,14,15,16,17,18,19,20,21,22]))))))))
 (.seq (.reg [fa 23 2 1,
 lo 24 23,
 o0 25 (.call 24 [(.s 24),(.c (.fn 25 []))]),
 fa 26 2 1,
 sT 1 26 25] [23,24,25,26])
 (.seq (.reg [fa 27 5 1,
 lo 28 27,
 o0 29 (.call 27 [(.s 28),(.c (.fn 28 []))]),
 fa 30 5 1,
 sT 1 30 29] [27,28,29,30])
 (.seq (.reg [fa 31 9 1,
 lo 32 31,
 o0 33 (.call 29 [(.s 32),(.c (.fn 30 []))]),
 fa 34 9 1,
 sT 1 34 33] [31,32,33,34])
 (.seq (.reg [fa 35 10 1,
 lo 36 35,
 o0 37 (.call 32 [(.s 36),(.c (.fn 33 []))]),
 fa 38 10 1,
 sT 1 38 37] [35,36,37,38])
 (.seq (.reg [fa 39 11 1,
 lo 40 39,
 o0 41 (.call 35 [(.s 40),(.c (.fn 36 []))]),
 fa 42 11 1,
 sT 1 42 41] [39,40,41,42])
 (sr [lS 43 12 1,
 sT 12 2 43] [43]
 .ret)))))))))⟩
theorem K3:ax Tryz.prog 8=some xk:=by kernel_rfl
abbrev F9:FuncId:=8
def cY:aN :=
⟨99,2,[.tmp 4],
 (sr [o0 2 (.box 33 12 (.s 0)),
 o0 3 (.box 33 12 (.s 1)),
 mB 4 false] []
 (.seq (sr [fa 10 7 2,
 lo 11 10,
 fa 12 7 3,
 lo 13 12,
 o0 14 (.bbin .neq (.s 11) (.s 13)),
 mv 15 14,
 oF 16 15 (fd 7 2),
 oF 17 15 (ld 16),
 mf 18 17 15,
 ot 19 18 (fd 8 2),
 ot 20 18 (ld 19),
 ot 21 18 (fd 8 3),
 ot 22 18 (ld 21),
 ot 23 18 (.bin .neq (.s 20) (.s 22)),
 oF 24 15 (.pick (.s 18) (.s 23) (bC false)),
 pT 25 15 24] [10,11,12,13,14,15,16,17,18,19,20,21,22,23,24]
 (.cond (.s 25)
 (sr [mB 4 false] []
 .ret)
 .skip))
 (sr [o0 5 (.mov (.c (.fn 46 [])))] []
 (sr [o0 6 (.mov (.c (.fn 49 [])))] []
 (sr [o0 7 (.mov (.c (.fn 50 [])))] []
 (sr [o0 8 (.mov (.c (.fn 52 [])))] []
 (sr [o0 9 (.mov (.c (.fn 53 [])))] []
 (.seq (.reg [fa 26 0 2,
 lo 27 26,
 fa 28 0 3,
 lo 29 28,
 o0 30 (.call 54 [(.s 27),(.s 29),(.c (.fn 55 []))]),
 mv 31 30,
 ot 32 31 (fd 1 2),
 ot 33 31 (ld 32),
 ot 34 31 (fd 1 3),
 ot 35 31 (ld 34),
 ot 36 31 (.call 56 [(.s 33),(.s 35),(.c (.fn 57 []))]),
 pF 37 31 36,
 mv 38 37,
 ot 39 38 (fd 2 2),
 ot 40 38 (ld 39),
 ot 41 38 (fd 2 3),
 ot 42 38 (ld 41),
 mt 43 5 38,
 ot 44 38 (.call 58 [(.s 40),(.s 42),(.s 43)]),
 pF 45 38 44,
 mv 46 45,
 ot 47 46 (fd 3 2),
 ot 48 46 (ld 47),
 ot 49 46 (fd 3 3),
 ot 50 46 (ld 49),
 ot 51 46 (.call 59 [(.s 48),(.s 50),(.c (.fn 60 []))]),
 pF 52 46 51,
 mv 53 52,
 ot 54 53 (fd 4 2),
 ot 55 53 (ld 54),
 ot 56 53 (fd 4 3),
 ot 57 53 (ld 56),
 ot 58 53 (.call 61 [(.s 55),(.s 57),(.c (.fn 62 []))]),
 pF 59 53 58,
 mv 60 59,
 ot 61 60 (fd 5 2),
 ot 62 60 (ld 61),
 ot 63 60 (fd 5 3),
 ot 64 60 (ld 63),
 mt 65 6 60,
 ot 66 60 (.call 63 [(.s 62),(.s 64),(.s 65)]),
 pF 67 60 66,
 mv 68 67,
 ot 69 68 (fd 6 2),
 ot 70 68 (ld 69),
 ot 71 68 (fd 6 3),
 ot 72 68 (ld 71),
 ot 73 68 (.call 64 [(.s 70),(.s 72),(.c (.fn 65 []))]),
 pF 74 68 73,
 mv 75 74,
 ot 76 75 (fd 9 2),
 ot 77 75 (ld 76),
 ot 78 75 (fd 9 3),
 ot 79 75 (ld 78),
 mt 80 7 75,
 ot 81 75 (.call 66 [(.s 77),(.s 79),(.s 80)]),
 pF 82 75 81,
 mv 83 82,
 ot 84 83 (fd 10 2),
 ot 85 83 (ld 84),
 ot 86 83 (fd 10 3),
 ot 87 83 (ld 86),
 mt 88 8 83,
 ot 89 83 (.call 67 [(.s 85),(.s 87),(.s 88)]),
 pF 90 83 89,
 mv 91 90,
 ot 92 91 (fd 11 2),
 ot 93 91 (ld 92),
 ot 94 91 (fd 11 3),
 ot 95 91 (ld 94),
 mt 96 9 91,
 ot 97 91 (.call 68 [(.s 93),(.s 95),(.s 96)]),
 pF 98 91 97,
 mv 4 98] [26,27,28,29,30,31,32,33,34,35,36,37,38,39,40,41,42,43,44,45,46,47,48,49,50,51,52,53,54,55,56,57,58,59,60,61,62,63,64,65,66,67,68,69,70,71,72,73,74,75,76,77,78,79,80,81,82,83,84,85,86,87,88,89,90,91,92,93,94,95,96,97,98])
 .ret))))))))⟩
theorem K4:ax Tryz.prog 10=some cY:=by kernel_rfl
abbrev A6:FuncId:=10
def G_:aN :=
⟨9,1,[.cell 2 (some 3)],
 (sr [o0 1 (.box 66 3 (.s 0)),
 o0 2 (.new 66 [(.int .i64 0),(.bool false),.nl])] []
 (.seq (.seq (.draw [⟨fa 3 0 1,[]⟩,
 ⟨lS 4 2 3,[0]⟩,
 ⟨fa 5 2 1,[]⟩,
 ⟨lo 6 5,[2]⟩,
 ⟨c1 7 26 6,[3,2]⟩] [(7,4)] [])
 (sr [o0 8 (.build [(.int .i64 0),(.bool false),.nl] [(0,2,(.s 4)),(2,1,(.s 7))])] []
 (.reg [sT 3 2 8] [3,4,5,6,7,8])))
 .ret))⟩
theorem Pp:ax Tryz.prog 28=some G_:=by kernel_rfl
abbrev Ji:FuncId:=28
def Ha:aN :=
⟨12,1,[.cell 2 (some 5)],
 (sr [o0 1 (.box 70 5 (.s 0)),
 o0 2 (.new 70 [(.int .i64 0),(.int .i64 0),.nl,(.int .i64 0),.nl])] []
 (.seq (.seq (.draw [⟨fa 3 2 1,[]⟩,
 ⟨lo 4 3,[0]⟩,
 ⟨c1 5 26 4,[1,0]⟩,
 ⟨fa 6 4 1,[]⟩,
 ⟨lo 7 6,[3]⟩] [(5,2)] [])
 (.seq (.draw [⟨o0 8 (.call 31 [(.s 7),(.c (.fn 26 []))]),[]⟩,
 ⟨fa 9 2 1,[]⟩] [(8,0)] [])
 (sr [sT 1 9 5] []
 (sr [fa 10 4 1] []
 (.reg [sT 1 10 8] [3,4,5,6,7,8,9,10])))))
 (sr [lS 11 5 1,
 sT 5 2 11] [11]
 .ret)))⟩
theorem Pq:ax Tryz.prog 30=some Ha:=by kernel_rfl
abbrev Jj:FuncId:=30
def GE:aN :=
⟨22,2,[.tmp 4],
 (sr [o0 4 (.mov (.c .nl))] []
 (sr [o0 5 (.mov (.c .nl))] []
 (.seq (sr [mv 8 0,
 ln 9 8,
 mI 10 0] []
 (.block 0 (.loop (sr [bS 11 .lss 10 9] []
 (.seq (.cond (.s 11)
 .skip
 (.exit 0))
 (.seq (.block 1 (sr [ia 12 1 8 10,
 lo 13 12,
 mv 7 13] [12,13]
 (.reg [mv 14 5,
 mv 15 1,
 mv 16 7,
 o0 17 (.callv (.s 15) [(.s 16)]),
 o0 18 (.bsl 62 1 [[.nl]] [(0,(.s 17))]),
 o0 19 (.app 62 1 (.s 14) (.s 18)),
 mv 5 19] [14,15,16,17,18,19])))
 (.reg [bI 20 .add 10 1,
 mv 10 20] [20])))))))
 (sr [mv 21 5,
 mv 4 21] [21]
 .ret))))⟩
theorem On:ax Tryz.prog 31=some GE:=by kernel_rfl
abbrev Qn:FuncId:=31
def Hb:aN :=
⟨12,1,[.cell 2 (some 4)],
 (sr [o0 1 (.box 73 4 (.s 0)),
 o0 2 (.new 73 [(.int .i64 0),(.int .i64 0),.nl,.nl])] []
 (.seq (.seq (.draw [⟨fa 3 2 1,[]⟩,
 ⟨lo 4 3,[0]⟩,
 ⟨c1 5 26 4,[1,0]⟩,
 ⟨fa 6 3 1,[]⟩,
 ⟨lo 7 6,[3]⟩] [(5,2)] [])
 (.seq (.draw [⟨c1 8 34 7,[]⟩,
 ⟨fa 9 2 1,[]⟩] [(8,0)] [])
 (sr [sT 1 9 5] []
 (sr [fa 10 3 1] []
 (.reg [sT 1 10 8] [3,4,5,6,7,8,9,10])))))
 (sr [lS 11 4 1,
 sT 4 2 11] [11]
 .ret)))⟩
theorem Pr:ax Tryz.prog 33=some Hb:=by kernel_rfl
abbrev Jk:FuncId:=33
def Hc:aN :=
⟨8,1,[.cell 2 (some 3)],
 (.seq (.reg [o0 1 (.box 75 3 (.s 0)),
 o0 2 (.new 75 [(.int .i64 0),(.str []),.nl])] [])
 (sr [fa 3 2 1,
 lo 4 3,
 c1 5 34 4,
 fa 6 2 1,
 sT 1 6 5] [3,4,5,6]
 (sr [lS 7 3 1,
 sT 3 2 7] [7]
 .ret)))⟩
theorem Ps:ax Tryz.prog 36=some Hc:=by kernel_rfl
abbrev Jl:FuncId:=36
def xn:aN :=
⟨8,2,[.tmp 4],
 (sr [mB 4 false] []
 (.seq (.reg [mv 5 0,
 mv 6 1,
 o0 7 (.call 112 [(.s 5),(.s 6),(.c (.fn 113 []))]),
 mv 4 7] [5,6,7])
 .ret))⟩
theorem La:ax Tryz.prog 48=some xn:=by kernel_rfl
abbrev F_:FuncId:=48
def Ce:aN :=
⟨30,3,[.tmp 6],
 (sr [mB 6 false] []
 (.seq (sr [mv 8 0,
 ln 9 8,
 mv 10 1,
 ln 11 10,
 bS 12 .neq 9 11] [8,9,10,11]
 (.cond (.s 12)
 (sr [mB 6 false] []
 .ret)
 .skip))
 (.seq (sr [mv 13 0,
 ln 14 13,
 mI 15 0] [13]
 (.block 0 (.loop (sr [bS 16 .lss 15 14] []
 (.seq (.cond (.s 16)
 .skip
 (.exit 0))
 (.seq (.block 1 (sr [mv 17 15,
 mv 7 17] [17]
 (.seq (.seq (.draw [⟨mv 18 2,[]⟩,
 ⟨mv 19 0,[]⟩,
 ⟨mv 20 7,[]⟩,
 ⟨ia 21 1 19 20,[1,2]⟩,
 ⟨lo 22 21,[3,1,2]⟩,
 ⟨mv 23 1,[]⟩,
 ⟨mv 24 7,[]⟩,
 ⟨ia 25 1 23 24,[5,6]⟩,
 ⟨lo 26 25,[7,5,6]⟩] [] [])
 (sr [o0 27 (.callv (.s 18) [(.s 22),(.s 26)])] []
 (.reg [uN 28 27] [18,19,20,21,22,23,24,25,26,27])))
 (.cond (.s 28)
 (sr [mB 6 false] []
 .ret)
 .skip))))
 (.reg [bI 29 .add 15 1,
 mv 15 29] [29])))))))
 (sr [mB 6 true] []
 .ret))))⟩
theorem Ow:ax Tryz.prog 51=some Ce:=by kernel_rfl
abbrev Qp:FuncId:=51
def uX:aN :=
⟨26,2,[.tmp 4],
 (sr [o0 2 (.box 75 3 (.s 0)),
 o0 3 (.box 75 3 (.s 1)),
 mB 4 false] []
 (sr [fa 5 0 2,
 lo 6 5,
 fa 7 0 3,
 lo 8 7,
 bS 9 .eql 6 8,
 mv 10 9,
 ot 11 10 (fd 1 2),
 ot 12 10 (ld 11),
 ot 13 10 (fd 1 3),
 ot 14 10 (ld 13),
 ot 15 10 (.bin .eql (.s 12) (.s 14)),
 pF 16 10 15,
 mv 17 16,
 ot 18 17 (fd 2 2),
 ot 19 17 (ld 18),
 ot 20 17 (.cvs (.s 19)),
 ot 21 17 (fd 2 3),
 ot 22 17 (ld 21),
 ot 23 17 (.cvs (.s 22)),
 ot 24 17 (.bin .eql (.s 20) (.s 23)),
 pF 25 17 24,
 mv 4 25] [5,6,7,8,9,10,11,12,13,14,15,16,17,18,19,20,21,22,23,24,25]
 .ret))⟩
theorem Pz:ax Tryz.prog 53=some uX:=by kernel_rfl
abbrev MX:FuncId:=53
def Ch:aN :=
⟨30,3,[.tmp 6],
 (sr [mB 6 false] []
 (.seq (sr [mv 8 0,
 ln 9 8,
 mv 10 1,
 ln 11 10,
 bS 12 .neq 9 11] [8,9,10,11]
 (.cond (.s 12)
 (sr [mB 6 false] []
 .ret)
 .skip))
 (.seq (sr [mv 13 0,
 ln 14 13,
 mI 15 0] [13]
 (.block 0 (.loop (sr [bS 16 .lss 15 14] []
 (.seq (.cond (.s 16)
 .skip
 (.exit 0))
 (.seq (.block 1 (sr [mv 17 15,
 mv 7 17] [17]
 (.seq (.seq (.draw [⟨mv 18 2,[]⟩,
 ⟨mv 19 0,[]⟩,
 ⟨mv 20 7,[]⟩,
 ⟨ia 21 13 19 20,[1,2]⟩,
 ⟨lS 22 13 21,[3,1,2]⟩,
 ⟨mv 23 1,[]⟩,
 ⟨mv 24 7,[]⟩,
 ⟨ia 25 13 23 24,[5,6]⟩,
 ⟨lS 26 13 25,[7,5,6]⟩] [] [])
 (sr [o0 27 (.callv (.s 18) [(.s 22),(.s 26)])] []
 (.reg [uN 28 27] [18,19,20,21,22,23,24,25,26,27])))
 (.cond (.s 28)
 (sr [mB 6 false] []
 .ret)
 .skip))))
 (.reg [bI 29 .add 15 1,
 mv 15 29] [29])))))))
 (sr [mB 6 true] []
 .ret))))⟩
theorem Oz:ax Tryz.prog 56=some Ch:=by kernel_rfl
abbrev Qs:FuncId:=56
def GG:aN :=
⟨8,2,[.tmp 4],
 (sr [o0 2 (.box 57 4 (.s 0)),
 o0 3 (.box 57 4 (.s 1)),
 mB 4 false] []
 (sr [lS 5 4 2,
 lS 6 4 3,
 o0 7 (.sbin .eql [.i,.i,.i,.b] (.s 5) (.s 6)),
 mv 4 7] [5,6,7]
 .ret))⟩
theorem Oq:ax Tryz.prog 60=some GG:=by kernel_rfl
abbrev Mu:FuncId:=60
def Ci:aN :=
⟨30,3,[.tmp 6],
 (sr [mB 6 false] []
 (.seq (sr [mv 8 0,
 ln 9 8,
 mv 10 1,
 ln 11 10,
 bS 12 .neq 9 11] [8,9,10,11]
 (.cond (.s 12)
 (sr [mB 6 false] []
 .ret)
 .skip))
 (.seq (sr [mv 13 0,
 ln 14 13,
 mI 15 0] [13]
 (.block 0 (.loop (sr [bS 16 .lss 15 14] []
 (.seq (.cond (.s 16)
 .skip
 (.exit 0))
 (.seq (.block 1 (sr [mv 17 15,
 mv 7 17] [17]
 (.seq (.seq (.draw [⟨mv 18 2,[]⟩,
 ⟨mv 19 0,[]⟩,
 ⟨mv 20 7,[]⟩,
 ⟨ia 21 3 19 20,[1,2]⟩,
 ⟨lS 22 3 21,[3,1,2]⟩,
 ⟨mv 23 1,[]⟩,
 ⟨mv 24 7,[]⟩,
 ⟨ia 25 3 23 24,[5,6]⟩,
 ⟨lS 26 3 25,[7,5,6]⟩] [] [])
 (sr [o0 27 (.callv (.s 18) [(.s 22),(.s 26)])] []
 (.reg [uN 28 27] [18,19,20,21,22,23,24,25,26,27])))
 (.cond (.s 28)
 (sr [mB 6 false] []
 .ret)
 .skip))))
 (.reg [bI 29 .add 15 1,
 mv 15 29] [29])))))))
 (sr [mB 6 true] []
 .ret))))⟩
theorem OA:ax Tryz.prog 61=some Ci:=by kernel_rfl
abbrev Qt:FuncId:=61
def GB:aN :=
⟨8,2,[.tmp 4],
 (sr [o0 2 (.box 68 3 (.s 0)),
 o0 3 (.box 68 3 (.s 1)),
 mB 4 false] []
 (sr [lS 5 3 2,
 lS 6 3 3,
 o0 7 (.sbin .eql [.s,.i,.i] (.s 5) (.s 6)),
 mv 4 7] [5,6,7]
 .ret))⟩
theorem Ok:ax Tryz.prog 65=some GB:=by kernel_rfl
abbrev Mq:FuncId:=65
def Co:aN :=
⟨30,3,[.tmp 6],
 (sr [mB 6 false] []
 (.seq (sr [mv 8 0,
 ln 9 8,
 mv 10 1,
 ln 11 10,
 bS 12 .neq 9 11] [8,9,10,11]
 (.cond (.s 12)
 (sr [mB 6 false] []
 .ret)
 .skip))
 (.seq (sr [mv 13 0,
 ln 14 13,
 mI 15 0] [13]
 (.block 0 (.loop (sr [bS 16 .lss 15 14] []
 (.seq (.cond (.s 16)
 .skip
 (.exit 0))
 (.seq (.block 1 (sr [mv 17 15,
 mv 7 17] [17]
 (.seq (.seq (.draw [⟨mv 18 2,[]⟩,
 ⟨mv 19 0,[]⟩,
 ⟨mv 20 7,[]⟩,
 ⟨ia 21 4 19 20,[1,2]⟩,
 ⟨lS 22 4 21,[3,1,2]⟩,
 ⟨mv 23 1,[]⟩,
 ⟨mv 24 7,[]⟩,
 ⟨ia 25 4 23 24,[5,6]⟩,
 ⟨lS 26 4 25,[7,5,6]⟩] [] [])
 (sr [o0 27 (.callv (.s 18) [(.s 22),(.s 26)])] []
 (.reg [uN 28 27] [18,19,20,21,22,23,24,25,26,27])))
 (.cond (.s 28)
 (sr [mB 6 false] []
 .ret)
 .skip))))
 (.reg [bI 29 .add 15 1,
 mv 15 29] [29])))))))
 (sr [mB 6 true] []
 .ret))))⟩
theorem OR:ax Tryz.prog 67=some Co:=by kernel_rfl
abbrev QE:FuncId:=67
def GT:aN :=
⟨8,2,[.tmp 4,.tmp 5],
 (sr [o0 3 (.box 51 2 (.s 1)),
 mI 4 0,
 mI 5 0] []
 (sr [lS 6 2 3,
 c1 7 71 6,
 mI 4 0,
 mv 5 7] [6,7]
 .ret))⟩
theorem O2:ax Tryz.prog 70=some GT:=by kernel_rfl
abbrev MH:FuncId:=70
def NT:aN :=
⟨56,6,[],
 (.seq (sr [mv 16 2,
 ln 17 16,
 mv 18 4,
 bS 19 .add 17 18,
 mv 20 3,
 bS 21 .gtr 19 20] [16,17,18,19,20]
 (.cond (.s 21)
 (.reg [mv 22 0,
 mv 23 1,
 mv 24 3,
 mv 25 4,
 bS 26 .sub 24 25,
 o0 27 (.mnx true (iC 0) (.s 26)),
 o0 28 (.call 92 [(.s 22),(.s 23),(.s 27),(iC 0),(iC 6)])] [22,23,24,25,26,27,28])
 .skip))
 (sr [mv 29 2,
 ln 30 29,
 mI 31 0] []
 (.block 0 (.loop (sr [bS 32 .lss 31 30] []
 (.seq (.cond (.s 32)
 .skip
 (.exit 0))
 (.seq (.block 1 (.seq (.reg [mv 33 31,
 ia 34 13 29 31,
 lS 35 13 34,
 o0 13 (.new 61 [(.str []),(.str []),(.int .i64 0),(.int .i64 0),(.int .i64 0),(.int .i64 0),(.int .i64 0),(.bool false),(.int .i64 0),(.int .i64 0),(.bool false),(.int .i64 0),(.bool false)]),
 mv 12 33,
 sT 13 13 35] [33,34,35])
 (.seq (sr [mv 36 0,
 nk 37 36,
 fa 38 0 37,
 fa 39 3 38,
 lo 40 39,
 bI 41 .neq 40 0] [36,37,38,39,40]
 (cR 41))
 (sr [mv 43 5,
 mv 44 12,
 lS 45 13 13,
 o0 46 (.callv (.s 43) [(.s 44),(.s 45)]),
 mv 42 46,
 xt 47 42 0,
 xt 48 42 1,
 mv 14 47,
 mv 15 48] [43,44,45,46,42,47,48]
 (.reg [mv 49 0,
 mv 50 1,
 mv 51 12,
 mv 52 14,
 mv 53 15,
 o0 54 (.call 92 [(.s 49),(.s 50),(.s 51),(.s 52),(.s 53)])] [49,50,51,52,53,54])))))
 (.reg [bI 55 .add 31 1,
 mv 31 55] [55]))))))))⟩
theorem Ou:ax Tryz.prog 72=some NT:=by kernel_rfl
abbrev My:FuncId:=72
def GV:aN :=
⟨8,2,[.tmp 4,.tmp 5],
 (sr [o0 3 (.box 64 3 (.s 1)),
 mI 4 0,
 mI 5 0] []
 (sr [lS 6 3 3,
 c1 7 77 6,
 mI 4 0,
 mv 5 7] [6,7]
 .ret))⟩
theorem O4:ax Tryz.prog 76=some GV:=by kernel_rfl
abbrev MJ:FuncId:=76
def xm:aN :=
⟨18,1,[.tmp 2],
 (sr [o0 1 (.box 64 3 (.s 0)),
 mI 2 0] []
 (.seq (.block 0 (sr [fa 4 0 1,
 lo 5 4,
 c1 6 91 5,
 uN 7 6,
 mv 3 7] [4,5,6,7]
 (.cond (.s 3)
 (sr [mI 2 11] []
 .ret)
 (sr [fa 9 1 1,
 lo 10 9,
 ln 11 10,
 bI 12 .gtr 11 64,
 mv 8 12] [9,10,11,12]
 (.cond (.s 8)
 (sr [mI 2 6] []
 .ret)
 (sr [fa 14 1 1,
 lo 15 14,
 c1 16 114 15,
 uN 17 16,
 mv 13 17] [14,15,16,17]
 (.cond (.s 13)
 (sr [mI 2 12] []
 .ret)
 .skip)))))))
 (sr [mI 2 0] []
 .ret)))⟩
theorem K7:ax Tryz.prog 77=some xm:=by kernel_rfl
abbrev Mh:FuncId:=77
def GW:aN :=
⟨8,2,[.tmp 4,.tmp 5],
 (sr [o0 3 (.box 57 4 (.s 1)),
 mI 4 0,
 mI 5 0] []
 (sr [lS 6 4 3,
 c1 7 80 6,
 mI 4 0,
 mv 5 7] [6,7]
 .ret))⟩
theorem O5:ax Tryz.prog 79=some GW:=by kernel_rfl
abbrev ML:FuncId:=79
def xj:aN :=
⟨13,1,[.tmp 2],
 (sr [o0 1 (.box 57 4 (.s 0)),
 mI 2 0] []
 (.seq (.block 0 (sr [fa 4 0 1,
 lo 5 4,
 c1 6 117 5,
 uN 7 6,
 mv 3 7] [4,5,6,7]
 (.cond (.s 3)
 (sr [mI 2 12] []
 .ret)
 (sr [fa 9 1 1,
 lS 10 3 9,
 o0 11 (.call 118 [(.s 10),(iC 1024)]),
 uN 12 11,
 mv 8 12] [9,10,11,12]
 (.cond (.s 8)
 (sr [mI 2 20] []
 .ret)
 .skip)))))
 (sr [mI 2 0] []
 .ret)))⟩
theorem K0:ax Tryz.prog 80=some xj:=by kernel_rfl
abbrev Me:FuncId:=80
def GX:aN :=
⟨8,2,[.tmp 4,.tmp 5],
 (sr [o0 3 (.box 55 3 (.s 1)),
 mI 4 0,
 mI 5 0] []
 (sr [lS 6 3 3,
 c1 7 83 6,
 mI 4 0,
 mv 5 7] [6,7]
 .ret))⟩
theorem O6:ax Tryz.prog 82=some GX:=by kernel_rfl
abbrev MM:FuncId:=82
def Hj:aN :=
⟨6,1,[.tmp 2],
 (sr [o0 1 (.box 55 3 (.s 0)),
 mI 2 0] []
 (.seq (sr [lS 3 3 1,
 o0 4 (.call 118 [(.s 3),(iC 256)]),
 uN 5 4] [3,4]
 (.cond (.s 5)
 (sr [mI 2 20] []
 .ret)
 .skip))
 (sr [mI 2 0] []
 .ret)))⟩
theorem PE:ax Tryz.prog 83=some Hj:=by kernel_rfl
abbrev Q0:FuncId:=83
def GY:aN :=
⟨18,2,[.tmp 4,.tmp 5],
 (sr [o0 3 (.box 66 3 (.s 1)),
 mI 4 0,
 mI 5 0] []
 (.seq (sr [fa 7 0 3,
 lS 8 2 7,
 c1 9 86 8,
 mv 6 9] [7,8,9]
 (sr [mv 10 6,
 bI 11 .neq 10 0] [10]
 (.cond (.s 11)
 (sr [mv 12 6,
 mI 4 0,
 mv 5 12] [12]
 .ret)
 .skip)))
 (sr [fa 13 2 3,
 lo 14 13,
 c1 15 87 14,
 xt 16 15 0,
 xt 17 15 1,
 mv 4 16,
 mv 5 17] [13,14,15,16,17]
 .ret)))⟩
theorem O7:ax Tryz.prog 85=some GY:=by kernel_rfl
abbrev MN:FuncId:=85
def tP:aN :=
⟨28,1,[.tmp 2,.tmp 3],
 (sr [mI 2 0,
 mI 3 0] []
 (.seq (sr [mv 6 0,
 ln 7 6,
 bI 8 .gtr 7 2048] [6,7]
 (.cond (.s 8)
 (sr [mI 2 2048,
 mI 3 6] []
 .ret)
 .skip))
 (.seq (sr [mv 9 0,
 ln 10 9,
 mI 11 0] []
 (.block 0 (.loop (sr [bS 12 .lss 11 10] []
 (.seq (.cond (.s 12)
 .skip
 (.exit 0))
 (.seq (.block 1 (sr [mv 13 11,
 ia 14 9 9 11,
 lS 15 9 14,
 o0 5 (.new 83 [(.int .i64 0),(.int .i64 0),(.int .i64 0),(.int .u64 0),(.int .i64 0),(.int .i64 0),(.int .i64 0),.nl,.nl]),
 mv 4 13,
 sT 9 5 15] [13,14,15]
 (.block 2 (sr [lS 17 9 5,
 c1 18 120 17,
 uN 19 18,
 mv 16 19] [17,18,19]
 (.cond (.s 16)
 (sr [mv 20 4,
 mv 2 20,
 mI 3 10] [20]
 .ret)
 (sr [fa 22 8 5,
 lo 23 22,
 ln 24 23,
 bI 25 .gtr 24 64,
 mv 21 25] [22,23,24,25]
 (.cond (.s 21)
 (sr [mv 26 4,
 mv 2 26,
 mI 3 6] [26]
 .ret)
 .skip)))))))
 (.reg [bI 27 .add 11 1,
 mv 11 27] [27])))))))
 (sr [mI 2 0,
 mI 3 0] []
 .ret))))⟩
theorem Li:ax Tryz.prog 87=some tP:=by kernel_rfl
abbrev Gb:FuncId:=87
def Ct:aN :=
⟨9,1,[.tmp 2],
 (sr [mB 2 false] []
 (sr [mv 3 0,
 bI 4 .geq 3 0,
 mv 5 4,
 mt 6 0 5,
 ot 7 5 (.bin .lss (.s 6) (iC 4294967296)),
 pF 8 5 7,
 mv 2 8] [3,4,5,6,7,8]
 .ret))⟩
theorem PK:ax Tryz.prog 91=some Ct:=by kernel_rfl
abbrev Q4:FuncId:=91
def NZ:aN :=
⟨56,6,[],
 (.seq (sr [mv 16 2,
 ln 17 16,
 mv 18 4,
 bS 19 .add 17 18,
 mv 20 3,
 bS 21 .gtr 19 20] [16,17,18,19,20]
 (.cond (.s 21)
 (.reg [mv 22 0,
 mv 23 1,
 mv 24 3,
 mv 25 4,
 bS 26 .sub 24 25,
 o0 27 (.mnx true (iC 0) (.s 26)),
 o0 28 (.call 92 [(.s 22),(.s 23),(.s 27),(iC 0),(iC 6)])] [22,23,24,25,26,27,28])
 .skip))
 (sr [mv 29 2,
 ln 30 29,
 mI 31 0] []
 (.block 0 (.loop (sr [bS 32 .lss 31 30] []
 (.seq (.cond (.s 32)
 .skip
 (.exit 0))
 (.seq (.block 1 (sr [mv 33 31,
 ia 34 5 29 31,
 lS 35 5 34,
 o0 13 (.new 70 [(.int .i64 0),(.int .i64 0),.nl,(.int .i64 0),.nl]),
 mv 12 33,
 sT 5 13 35] [33,34,35]
 (.seq (sr [mv 36 0,
 nk 37 36,
 fa 38 0 37,
 fa 39 3 38,
 lo 40 39,
 bI 41 .neq 40 0] [36,37,38,39,40]
 (cR 41))
 (sr [mv 43 5,
 mv 44 12,
 lS 45 5 13,
 o0 46 (.callv (.s 43) [(.s 44),(.s 45)]),
 mv 42 46,
 xt 47 42 0,
 xt 48 42 1,
 mv 14 47,
 mv 15 48] [43,44,45,46,42,47,48]
 (.reg [mv 49 0,
 mv 50 1,
 mv 51 12,
 mv 52 14,
 mv 53 15,
 o0 54 (.call 92 [(.s 49),(.s 50),(.s 51),(.s 52),(.s 53)])] [49,50,51,52,53,54])))))
 (.reg [bI 55 .add 31 1,
 mv 31 55] [55]))))))))⟩
theorem OO:ax Tryz.prog 93=some NZ:=by kernel_rfl
abbrev MC:FuncId:=93
def G1:aN :=
⟨10,2,[.tmp 4,.tmp 5],
 (sr [o0 3 (.box 73 4 (.s 1)),
 mI 4 0,
 mI 5 0] []
 (sr [lS 6 4 3,
 c1 7 98 6,
 xt 8 7 0,
 xt 9 7 1,
 mv 4 8,
 mv 5 9] [6,7,8,9]
 .ret))⟩
theorem O_:ax Tryz.prog 97=some G1:=by kernel_rfl
abbrev MQ:FuncId:=97
def mT:aN :=
⟨39,1,[.tmp 2,.tmp 3],
 (sr [o0 1 (.box 73 4 (.s 0)),
 mI 2 0,
 mI 3 0] []
 (.seq (.block 0 (sr [fa 5 0 1,
 lo 6 5,
 bI 7 .neq 6 0,
 mv 8 7,
 ot 9 8 (fd 0 1),
 ot 10 8 (ld 9),
 ot 11 8 (.bin .neq (.s 10) (iC 1)),
 mt 12 11 8,
 oF 13 12 (fd 1 1),
 oF 14 12 (ld 13),
 oF 15 12 (.bin .neq (.s 14) (iC 0)),
 ot 16 8 (.pick (.s 12) (bC true) (.s 15)),
 mt 17 16 8,
 oF 18 17 (fd 2 1),
 oF 19 17 (ld 18),
 oF 20 17 (.len (.s 19)),
 oF 21 17 (.bin .gtr (.s 20) (iC 0)),
 ot 22 8 (.pick (.s 17) (bC true) (.s 21)),
 pF 23 8 22,
 mv 4 23] [5,6,7,8,9,10,11,12,13,14,15,16,17,18,19,20,21,22,23]
 (.cond (.s 4)
 (sr [mI 2 0,
 mI 3 1] []
 .ret)
 (sr [fa 25 1 1,
 lo 26 25,
 c1 27 91 26,
 uN 28 27,
 mv 24 28] [25,26,27,28]
 (.cond (.s 24)
 (sr [mI 2 0,
 mI 3 11] []
 .ret)
 (sr [fa 30 3 1,
 lo 31 30,
 ln 32 31,
 bI 33 .gtr 32 4096,
 mv 29 33] [30,31,32,33]
 (.cond (.s 29)
 (sr [mI 2 0,
 mI 3 6] []
 .ret)
 .skip)))))))
 (sr [fa 34 2 1,
 lo 35 34,
 c1 36 87 35,
 xt 37 36 0,
 xt 38 36 1,
 mv 2 37,
 mv 3 38] [34,35,36,37,38]
 .ret)))⟩
theorem K8:ax Tryz.prog 98=some mT:=by kernel_rfl
abbrev Mi:FuncId:=98
def Hg:aN :=
⟨25,1,[.tmp 2],
 (sr [o0 1 (.box 75 3 (.s 0)),
 mI 2 0] []
 (sr [fa 4 1 1,
 lo 5 4,
 c1 6 115 5,
 mv 3 6] [4,5,6]
 (.seq (.block 0 (sr [mv 8 3,
 bI 9 .neq 8 0,
 mv 7 9] [8,9]
 (.cond (.s 7)
 (sr [mv 10 3,
 mv 2 10] [10]
 .ret)
 (sr [fa 12 2 1,
 lo 13 12,
 ln 14 13,
 bI 15 .gtr 14 4096,
 mv 11 15] [12,13,14,15]
 (.cond (.s 11)
 (sr [mI 2 6] []
 .ret)
 (sr [fa 17 0 1,
 lo 18 17,
 bI 19 .lss 18 0,
 mv 20 19,
 oF 21 20 (fd 0 1),
 oF 22 20 (ld 21),
 oF 23 20 (.bin .gtr (.s 22) (iC 12)),
 pT 24 20 23,
 mv 16 24] [17,18,19,20,21,22,23,24]
 (.cond (.s 16)
 (sr [mI 2 1] []
 .ret)
 .skip)))))))
 (sr [mI 2 0] []
 .ret))))⟩
theorem PB:ax Tryz.prog 101=some Hg:=by kernel_rfl
abbrev QX:FuncId:=101
def GI:aN :=
⟨22,2,[.tmp 4],
 (sr [o0 4 (.mov (.c .nl))] []
 (sr [o0 5 (.mov (.c .nl))] []
 (.seq (sr [mv 8 0,
 ln 9 8,
 mI 10 0] []
 (.block 0 (.loop (sr [bS 11 .lss 10 9] []
 (.seq (.cond (.s 11)
 .skip
 (.exit 0))
 (.seq (.block 1 (sr [ia 12 9 8 10,
 lS 13 9 12,
 o0 7 (.new 83 [(.int .i64 0),(.int .i64 0),(.int .i64 0),(.int .u64 0),(.int .i64 0),(.int .i64 0),(.int .i64 0),.nl,.nl]),
 sT 9 7 13] [12,13]
 (.reg [mv 14 5,
 mv 15 1,
 lS 16 9 7,
 o0 17 (.callv (.s 15) [(.s 16)]),
 o0 18 (.bsl 83 9 [[(.int .i64 0),(.int .i64 0),(.int .i64 0),(.int .u64 0),(.int .i64 0),(.int .i64 0),(.int .i64 0),.nl,.nl]] [(0,(.s 17))]),
 o0 19 (.app 83 9 (.s 14) (.s 18)),
 mv 5 19] [14,15,16,17,18,19])))
 (.reg [bI 20 .add 10 1,
 mv 10 20] [20])))))))
 (sr [mv 21 5,
 mv 4 21] [21]
 .ret))))⟩
theorem OE:ax Tryz.prog 105=some GI:=by kernel_rfl
abbrev Qw:FuncId:=105
def GH:aN :=
⟨8,1,[.tmp 2],
 (sr [o0 2 (.mov (.c .nl))] []
 (.seq (sr [mv 3 0,
 o0 4 (.snl false (.s 3))] [3]
 (.cond (.s 4)
 (sr [o0 2 (.mov (.c .nl))] []
 .ret)
 .skip))
 (sr [o0 5 (.bsl 3 1 [] []),
 mv 6 0,
 o0 7 (.app 3 1 (.s 5) (.s 6)),
 mv 2 7] [5,6,7]
 .ret)))⟩
theorem OB:ax Tryz.prog 107=some GH:=by kernel_rfl
abbrev Qu:FuncId:=107
def Ck:aN :=
⟨30,3,[.tmp 6],
 (sr [mB 6 false] []
 (.seq (sr [mv 8 0,
 ln 9 8,
 mv 10 1,
 ln 11 10,
 bS 12 .neq 9 11] [8,9,10,11]
 (.cond (.s 12)
 (sr [mB 6 false] []
 .ret)
 .skip))
 (.seq (sr [mv 13 0,
 ln 14 13,
 mI 15 0] [13]
 (.block 0 (.loop (sr [bS 16 .lss 15 14] []
 (.seq (.cond (.s 16)
 .skip
 (.exit 0))
 (.seq (.block 1 (sr [mv 17 15,
 mv 7 17] [17]
 (.seq (.seq (.draw [⟨mv 18 2,[]⟩,
 ⟨mv 19 0,[]⟩,
 ⟨mv 20 7,[]⟩,
 ⟨ia 21 9 19 20,[1,2]⟩,
 ⟨lS 22 9 21,[3,1,2]⟩,
 ⟨mv 23 1,[]⟩,
 ⟨mv 24 7,[]⟩,
 ⟨ia 25 9 23 24,[5,6]⟩,
 ⟨lS 26 9 25,[7,5,6]⟩] [] [])
 (sr [o0 27 (.callv (.s 18) [(.s 22),(.s 26)])] []
 (.reg [uN 28 27] [18,19,20,21,22,23,24,25,26,27])))
 (.cond (.s 28)
 (sr [mB 6 false] []
 .ret)
 .skip))))
 (.reg [bI 29 .add 15 1,
 mv 15 29] [29])))))))
 (sr [mB 6 true] []
 .ret))))⟩
theorem OG:ax Tryz.prog 112=some Ck:=by kernel_rfl
abbrev Qx:FuncId:=112
def tO:aN :=
⟨9,1,[.tmp 2],
 (sr [mB 2 false] []
 (sr [mv 3 0,
 bI 4 .eql 3 3,
 mv 5 4,
 mf 6 0 5,
 oF 7 5 (.bin .eql (.s 6) (iC 4)),
 pT 8 5 7,
 mv 2 8] [3,4,5,6,7,8]
 .ret))⟩
theorem Lg:ax Tryz.prog 117=some tO:=by kernel_rfl
abbrev Mo:FuncId:=117
def r_:aN :=
⟨31,2,[.tmp 4],
 (sr [o0 2 (.box 55 3 (.s 0)),
 mB 4 false] []
 (.seq (sr [fa 5 0 2,
 lo 6 5,
 bI 7 .lss 6 0,
 mv 8 7,
 oF 9 8 (fd 0 2),
 oF 10 8 (ld 9),
 mf 11 1 8,
 oF 12 8 (.bin .gtr (.s 10) (.s 11)),
 pT 13 8 12] [5,6,7,8,9,10,11,12]
 (.cond (.s 13)
 (sr [mB 4 false] []
 .ret)
 .skip))
 (.seq (sr [fa 14 2 2,
 lo 15 14,
 uN 16 15] [14,15]
 (.cond (.s 16)
 (sr [fa 17 1 2,
 lo 18 17,
 bI 19 .eql 18 0,
 mv 4 19] [17,18,19]
 .ret)
 .skip))
 (sr [fa 20 0 2,
 lo 21 20,
 fa 22 1 2,
 lo 23 22,
 bS 24 .leq 21 23,
 mv 25 24,
 ot 26 25 (fd 1 2),
 ot 27 25 (ld 26),
 mt 28 1 25,
 ot 29 25 (.bin .leq (.s 27) (.s 28)),
 pF 30 25 29,
 mv 4 30] [20,21,22,23,24,25,26,27,28,29,30]
 .ret))))⟩
theorem Pk:ax Tryz.prog 118=some r_:=by kernel_rfl
abbrev QU:FuncId:=118
def tN:aN :=
⟨9,1,[.tmp 2],
 (sr [mB 2 false] []
 (sr [mv 3 0,
 bI 4 .eql 3 1,
 mv 5 4,
 mf 6 0 5,
 oF 7 5 (.bin .eql (.s 6) (iC 2)),
 pT 8 5 7,
 mv 2 8] [3,4,5,6,7,8]
 .ret))⟩
theorem Lf:ax Tryz.prog 127=some tN:=by kernel_rfl
abbrev Mn:FuncId:=127
def dR:aN :=
⟨38,1,[.tmp 2],
 (sr [mI 2 0] []
 (.seq (sr [mv 3 0] []
 (.block 0 (.seq (sr [bI 5 .eql 3 2,
 mv 4 5] [5]
 (.cond (.s 4)
 .skip
 (sr [bI 6 .eql 3 3,
 mv 4 6] [6]
 (.cond (.s 4)
 .skip
 (.reg [bI 7 .eql 3 4,
 mv 4 7] [7])))))
 (.cond (.s 4)
 (sr [mI 2 1] []
 .ret)
 (.seq (sr [bI 9 .eql 3 12,
 mv 8 9] [9]
 (.cond (.s 8)
 .skip
 (.reg [bI 10 .eql 3 13,
 mv 8 10] [10])))
 (.cond (.s 8)
 (sr [mI 2 2] []
 .ret)
 (sr [bI 12 .eql 3 14,
 mv 11 12] [12]
 (.cond (.s 11)
 (sr [mI 2 3] []
 .ret)
 (.seq (sr [bI 14 .eql 3 16,
 mv 13 14] [14]
 (.cond (.s 13)
 .skip
 (.reg [bI 15 .eql 3 210,
 mv 13 15] [15])))
 (.cond (.s 13)
 (sr [mI 2 4] []
 .ret)
 (sr [bI 17 .eql 3 17,
 mv 16 17] [17]
 (.cond (.s 16)
 (sr [mI 2 5] []
 .ret)
 (sr [bI 19 .eql 3 28,
 mv 18 19] [19]
 (.cond (.s 18)
 (sr [mI 2 6] []
 .ret)
 (.seq (sr [bI 21 .eql 3 32,
 mv 20 21] [21]
 (.cond (.s 20)
 .skip
 (sr [bI 22 .eql 3 33,
 mv 20 22] [22]
 (.cond (.s 20)
 .skip
 (.reg [bI 23 .eql 3 34,
 mv 20 23] [23])))))
 (.cond (.s 20)
 (sr [mI 2 7] []
 .ret)
 (.seq (sr [bI 25 .eql 3 35,
 mv 24 25] [25]
 (.cond (.s 24)
 .skip
 (.reg [bI 26 .eql 3 36,
 mv 24 26] [26])))
 (.cond (.s 24)
 (sr [mI 2 8] []
 .ret)
 (sr [bI 28 .eql 3 65,
 mv 27 28] [28]
 (.cond (.s 27)
 (sr [mI 2 18] []
 .ret)
 (sr [bI 30 .eql 3 66,
 mv 29 30] [30]
 (.cond (.s 29)
 (sr [mI 2 19] []
 .ret)
 (sr [bI 32 .eql 3 208,
 mv 31 32] [32]
 (.cond (.s 31)
 (sr [mI 2 20] []
 .ret)
 .skip))))))))))))))))))))))))
 (.seq (sr [mv 33 0,
 c1 34 136 33,
 bI 35 .gtr 34 0] [33,34]
 (.cond (.s 35)
 (sr [mI 2 17] []
 .ret)
 .skip))
 (sr [mv 36 0,
 c1 37 137 36,
 mv 2 37] [36,37]
 .ret))))⟩
theorem Le:ax Tryz.prog 128=some dR:=by kernel_rfl
abbrev Mm:FuncId:=128
def G3:aN :=
⟨6,1,[.tmp 2],
 (sr [mB 2 false] []
 (sr [mv 3 0,
 c1 4 138 3,
 o0 5 (.bin .neq (.s 4) (.c (.str []))),
 mv 2 5] [3,4,5]
 .ret))⟩
theorem Pe:ax Tryz.prog 130=some G3:=by kernel_rfl
abbrev QQ:FuncId:=130
def Cs:aN :=
⟨9,1,[.tmp 2],
 (sr [mB 2 false] []
 (sr [mv 3 0,
 bI 4 .geq 3 0,
 mv 5 4,
 mt 6 0 5,
 ot 7 5 (.bin .lss (.s 6) (iC 4294967296)),
 pF 8 5 7,
 mv 2 8] [3,4,5,6,7,8]
 .ret))⟩
theorem Pi:ax Tryz.prog 131=some Cs:=by kernel_rfl
abbrev MR:FuncId:=131
def uV:aN :=
⟨30,1,[.tmp 2],
 (sr [o0 1 (.box 80 3 (.s 0)),
 mB 2 false] []
 (.seq (sr [fa 3 0 1,
 lo 4 3] [3]
 (.block 0 (sr [bI 6 .eql 4 0,
 mv 5 6] [6]
 (.cond (.s 5)
 (sr [lS 7 3 1,
 o0 8 (.build [(.int .i64 0),(.int .i64 0),(.int .i64 0)] []),
 o0 9 (.sbin .eql [.i,.i,.i] (.s 7) (.s 8)),
 mv 2 9] [7,8,9]
 .ret)
 (sr [bI 11 .eql 4 1,
 mv 10 11] [11]
 (.cond (.s 10)
 (sr [fa 12 1 1,
 lo 13 12,
 c1 14 133 13,
 mv 15 14,
 ot 16 15 (fd 2 1),
 ot 17 15 (ld 16),
 ot 18 15 (.bin .eql (.s 17) (iC 0)),
 pF 19 15 18,
 mv 2 19] [12,13,14,15,16,17,18,19]
 .ret)
 (sr [bI 21 .eql 4 2,
 mv 20 21] [21]
 (.cond (.s 20)
 (sr [fa 22 1 1,
 lo 23 22,
 bI 24 .eql 23 0,
 mv 25 24,
 ot 26 25 (fd 2 1),
 ot 27 25 (ld 26),
 ot 28 25 (.call 131 [(.s 27)]),
 pF 29 25 28,
 mv 2 29] [22,23,24,25,26,27,28,29]
 .ret)
 .skip))))))))
 (sr [mB 2 false] []
 .ret)))⟩
theorem Ph:ax Tryz.prog 132=some uV:=by kernel_rfl
abbrev QS:FuncId:=132
def GP:aN :=
⟨59,1,[.tmp 2],
 (sr [o0 2 (.mov (.c (.int .u64 0)))] []
 (.seq (.cond (bC false)
 (.seq (.seq (.draw [⟨mv 3 0,[]⟩,
 ⟨o0 4 (.sidx (.s 3) (iC 0)),[0]⟩,
 ⟨o0 5 (.cvi .u64 (.s 4)),[1,0]⟩,
 ⟨mv 6 0,[]⟩,
 ⟨o0 7 (.sidx (.s 6) (iC 1)),[3]⟩,
 ⟨o0 8 (.cvi .u64 (.s 7)),[4,3]⟩,
 ⟨o0 9 (.bin .shl (.s 8) (.c (.int .u64 8))),[5,4,3]⟩,
 ⟨bS 10 .or 5 9,[2,1,0,6,5,4,3]⟩,
 ⟨mv 11 0,[]⟩,
 ⟨o0 12 (.sidx (.s 11) (iC 2)),[8]⟩,
 ⟨o0 13 (.cvi .u64 (.s 12)),[9,8]⟩,
 ⟨o0 14 (.bin .shl (.s 13) (.c (.int .u64 16))),[10,9,8]⟩,
 ⟨bS 15 .or 10 14,[7,2,1,0,6,5,4,3,11,10,9,8]⟩,
 ⟨mv 16 0,[]⟩,
 ⟨o0 17 (.sidx (.s 16) (iC 3)),[13]⟩,
 ⟨o0 18 (.cvi .u64 (.s 17)),[14,13]⟩,
 ⟨o0 19 (.bin .shl (.s 18) (.c (.int .u64 24))),[15,14,13]⟩] [] [])
 (sr [bS 20 .or 15 19] []
 (.reg [mv 2 20] [3,4,5,6,7,8,9,10,11,12,13,14,15,16,17,18,19,20])))
 .ret)
 .skip)
 (.seq (.seq (.draw [⟨mv 21 0,[]⟩,
 ⟨o0 22 (.sidx (.s 21) (iC 0)),[0]⟩,
 ⟨o0 23 (.cvi .u64 (.s 22)),[1,0]⟩,
 ⟨mv 24 0,[]⟩,
 ⟨o0 25 (.sidx (.s 24) (iC 1)),[3]⟩,
 ⟨o0 26 (.cvi .u64 (.s 25)),[4,3]⟩,
 ⟨o0 27 (.bin .shl (.s 26) (.c (.int .u64 8))),[5,4,3]⟩,
 ⟨bS 28 .or 23 27,[2,1,0,6,5,4,3]⟩,
 ⟨mv 29 0,[]⟩,
 ⟨o0 30 (.sidx (.s 29) (iC 2)),[8]⟩,
 ⟨o0 31 (.cvi .u64 (.s 30)),[9,8]⟩,
 ⟨o0 32 (.bin .shl (.s 31) (.c (.int .u64 16))),[10,9,8]⟩,
 ⟨bS 33 .or 28 32,[7,2,1,0,6,5,4,3,11,10,9,8]⟩,
 ⟨mv 34 0,[]⟩,
 ⟨o0 35 (.sidx (.s 34) (iC 3)),[13]⟩,
 ⟨o0 36 (.cvi .u64 (.s 35)),[14,13]⟩,
 ⟨o0 37 (.bin .shl (.s 36) (.c (.int .u64 24))),[15,14,13]⟩,
 ⟨bS 38 .or 33 37,[12,7,2,1,0,6,5,4,3,11,10,9,8,16,15,14,13]⟩,
 ⟨mv 39 0,[]⟩,
 ⟨o0 40 (.sidx (.s 39) (iC 4)),[18]⟩,
 ⟨o0 41 (.cvi .u64 (.s 40)),[19,18]⟩,
 ⟨o0 42 (.bin .shl (.s 41) (.c (.int .u64 32))),[20,19,18]⟩,
 ⟨bS 43 .or 38 42,[17,12,7,2,1,0,6,5,4,3,11,10,9,8,16,15,14,13,21,20,19,18]⟩,
 ⟨mv 44 0,[]⟩,
 ⟨o0 45 (.sidx (.s 44) (iC 5)),[23]⟩,
 ⟨o0 46 (.cvi .u64 (.s 45)),[24,23]⟩,
 ⟨o0 47 (.bin .shl (.s 46) (.c (.int .u64 40))),[25,24,23]⟩,
 ⟨bS 48 .or 43 47,[22,17,12,7,2,1,0,6,5,4,3,11,10,9,8,16,15,14,13,21,20,19,18,26,25,24,23]⟩,
 ⟨mv 49 0,[]⟩,
 ⟨o0 50 (.sidx (.s 49) (iC 6)),[28]⟩,
 ⟨o0 51 (.cvi .u64 (.s 50)),[29,28]⟩,
 ⟨o0 52 (.bin .shl (.s 51) (.c (.int .u64 48))),[30,29,28]⟩,
 ⟨bS 53 .or 48 52,[27,22,17,12,7,2,1,0,6,5,4,3,11,10,9,8,16,15,14,13,21,20,19,18,26,25,24,23,31,30,29,28]⟩,
 ⟨mv 54 0,[]⟩,
 ⟨o0 55 (.sidx (.s 54) (iC 7)),[33]⟩,
 ⟨o0 56 (.cvi .u64 (.s 55)),[34,33]⟩,
 ⟨o0 57 (.bin .shl (.s 56) (.c (.int .u64 56))),[35,34,33]⟩] [] [])
 (sr [bS 58 .or 53 57] []
 (.reg [mv 2 58] [21,22,23,24,25,26,27,28,29,30,31,32,33,34,35,36,37,38,39,40,41,42,43,44,45,46,47,48,49,50,51,52,53,54,55,56,57,58])))
 .ret)))⟩
theorem OY:ax Tryz.prog 135=some GP:=by kernel_rfl
abbrev QK:FuncId:=135
def xw:aN :=
⟨13,1,[.tmp 2],
 (sr [mB 2 false] []
 (sr [mv 3 0,
 bI 4 .geq 3 40,
 mv 5 4,
 mt 6 0 5,
 ot 7 5 (.bin .leq (.s 6) (iC 62)),
 pF 8 5 7,
 mv 9 8,
 mt 10 0 9,
 ot 11 9 (.call 130 [(.s 10)]),
 pF 12 9 11,
 mv 2 12] [3,4,5,6,7,8,9,10,11,12]
 .ret))⟩
theorem Pb:ax Tryz.prog 139=some xw:=by kernel_rfl
abbrev QN:FuncId:=139
def Hm:aN :=
⟨26,0,[.tmp 0],
 (sr [o0 0 (.mov (.c .nl))] []
 (.seq (.reg [o0 1 (.build [(.int .i64 0),(.str []),(.str [])] [(0,1,(iC 0)),(1,1,(.c (.str []))),(2,1,(.c (.str [117,110,114,101,97,99,104,97,98,108,101,32,110,111,112,32,98,108,111,99,107,32,108,111,111,112,32,105,102,32,101,108,115,101])))]),
 o0 2 (.build [(.int .i64 0),(.str []),(.str [])] [(0,1,(iC 11)),(1,1,(.c (.str []))),(2,1,(.c (.str [101,110,100,32,98,114,32,98,114,95,105,102,32,98,114,95,116,97,98,108,101,32,114,101,116,117,114,110,32,99,97,108,108,32,99,97,108,108,95,105,110,100,105,114,101,99,116])))]),
 o0 3 (.build [(.int .i64 0),(.str []),(.str [])] [(0,1,(iC 26)),(1,1,(.c (.str []))),(2,1,(.c (.str [100,114,111,112,32,115,101,108,101,99,116,32,115,101,108,101,99,116])))]),
 o0 4 (.build [(.int .i64 0),(.str []),(.str [])] [(0,1,(iC 32)),(1,1,(.c (.str [108,111,99,97,108,46]))),(2,1,(.c (.str [103,101,116,32,115,101,116,32,116,101,101])))]),
 o0 5 (.build [(.int .i64 0),(.str []),(.str [])] [(0,1,(iC 35)),(1,1,(.c (.str [103,108,111,98,97,108,46]))),(2,1,(.c (.str [103,101,116,32,115,101,116])))]),
 o0 6 (.build [(.int .i64 0),(.str []),(.str [])] [(0,1,(iC 37)),(1,1,(.c (.str [116,97,98,108,101,46]))),(2,1,(.c (.str [103,101,116,32,115,101,116])))]),
 o0 7 (.build [(.int .i64 0),(.str []),(.str [])] [(0,1,(iC 40)),(1,1,(.c (.str []))),(2,1,(.c (.str [105,51,50,46,108,111,97,100,32,105,54,52,46,108,111,97,100])))]),
 o0 8 (.build [(.int .i64 0),(.str []),(.str [])] [(0,1,(iC 44)),(1,1,(.c (.str [105,51,50,46]))),(2,1,(.c (.str [108,111,97,100,56,95,115,32,108,111,97,100,56,95,117,32,108,111,97,100,49,54,95,115,32,108,111,97,100,49,54,95,117])))]),
 o0 9 (.build [(.int .i64 0),(.str []),(.str [])] [(0,1,(iC 48)),(1,1,(.c (.str [105,54,52,46]))),(2,1,(.c (.str [108,111,97,100,56,95,115,32,108,111,97,100,56,95,117,32,108,111,97,100,49,54,95,115,32,108,111,97,100,49,54,95,117,32,108,111,97,100,51,50,95,115,32,108,111,97,100,51,50,95,117])))]),
 o0 10 (.build [(.int .i64 0),(.str []),(.str [])] [(0,1,(iC 54)),(1,1,(.c (.str []))),(2,1,(.c (.str [105,51,50,46,115,116,111,114,101,32,105,54,52,46,115,116,111,114,101])))]),
 o0 11 (.build [(.int .i64 0),(.str []),(.str [])] [(0,1,(iC 58)),(1,1,(.c (.str [105,51,50,46]))),(2,1,(.c (.str [115,116,111,114,101,56,32,115,116,111,114,101,49,54])))]),
 o0 12 (.build [(.int .i64 0),(.str []),(.str [])] [(0,1,(iC 60)),(1,1,(.c (.str [105,54,52,46]))),(2,1,(.c (.str [115,116,111,114,101,56,32,115,116,111,114,101,49,54,32,115,116,111,114,101,51,50])))]),
 o0 13 (.build [(.int .i64 0),(.str []),(.str [])] [(0,1,(iC 63)),(1,1,(.c (.str [109,101,109,111,114,121,46]))),(2,1,(.c (.str [115,105,122,101,32,103,114,111,119])))]),
 o0 14 (.build [(.int .i64 0),(.str []),(.str [])] [(0,1,(iC 65)),(1,1,(.c (.str []))),(2,1,(.c (.str [105,51,50,46,99,111,110,115,116,32,105,54,52,46,99,111,110,115,116])))]),
 o0 15 (.build [(.int .i64 0),(.str []),(.str [])] [(0,1,(iC 69)),(1,1,(.c (.str [105,51,50,46]))),(2,1,(.c (.str [101,113,122,32,101,113,32,110,101,32,108,116,95,115,32,108,116,95,117,32,103,116,95,115,32,103,116,95,117,32,108,101,95,115,32,108,101,95,117,32,103,101,95,115,32,103,101,95,117])))]),
 o0 16 (.build [(.int .i64 0),(.str []),(.str [])] [(0,1,(iC 80)),(1,1,(.c (.str [105,54,52,46]))),(2,1,(.c (.str [101,113,122,32,101,113,32,110,101,32,108,116,95,115,32,108,116,95,117,32,103,116,95,115,32,103,116,95,117,32,108,101,95,115,32,108,101,95,117,32,103,101,95,115,32,103,101,95,117])))]),
 o0 17 (.build [(.int .i64 0),(.str []),(.str [])] [(0,1,(iC 103)),(1,1,(.c (.str [105,51,50,46]))),(2,1,(.c (.str [99,108,122,32,99,116,122,32,112,111,112,99,110,116,32,97,100,100,32,115,117,98,32,109,117,108,32,100,105,118,95,115,32,100,105,118,95,117,32,114,101,109,95,115,32,114,101,109,95,117,32,97,110,100,32,111,114,32,120,111,114,32,115,104,108,32,115,104,114,95,115,32,115,104,114,95,117,32,114,111,116,108,32,114,111,116,114])))]),
 o0 18 (.build [(.int .i64 0),(.str []),(.str [])] [(0,1,(iC 121)),(1,1,(.c (.str [105,54,52,46]))),(2,1,(.c (.str [99,108,122,32,99,116,122,32,112,111,112,99,110,116,32,97,100,100,32,115,117,98,32,109,117,108,32,100,105,118,95,115,32,100,105,118,95,117,32,114,101,109,95,115,32,114,101,109,95,117,32,97,110,100,32,111,114,32,120,111,114,32,115,104,108,32,115,104,114,95,115,32,115,104,114,95,117,32,114,111,116,108,32,114,111,116,114])))]),
 o0 19 (.build [(.int .i64 0),(.str []),(.str [])] [(0,1,(iC 167)),(1,1,(.c (.str []))),(2,1,(.c (.str [105,51,50,46,119,114,97,112,95,105,54,52])))]),
 o0 20 (.build [(.int .i64 0),(.str []),(.str [])] [(0,1,(iC 172)),(1,1,(.c (.str [105,54,52,46]))),(2,1,(.c (.str [101,120,116,101,110,100,95,105,51,50,95,115,32,101,120,116,101,110,100,95,105,51,50,95,117])))]),
 o0 21 (.build [(.int .i64 0),(.str []),(.str [])] [(0,1,(iC 192)),(1,1,(.c (.str [105,51,50,46]))),(2,1,(.c (.str [101,120,116,101,110,100,56,95,115,32,101,120,116,101,110,100,49,54,95,115])))]),
 o0 22 (.build [(.int .i64 0),(.str []),(.str [])] [(0,1,(iC 194)),(1,1,(.c (.str [105,54,52,46]))),(2,1,(.c (.str [101,120,116,101,110,100,56,95,115,32,101,120,116,101,110,100,49,54,95,115,32,101,120,116,101,110,100,51,50,95,115])))]),
 o0 23 (.build [(.int .i64 0),(.str []),(.str [])] [(0,1,(iC 208)),(1,1,(.c (.str [114,101,102,46]))),(2,1,(.c (.str [110,117,108,108,32,105,115,95,110,117,108,108,32,102,117,110,99])))]),
 o0 24 (.build [(.int .i64 0),(.str []),(.str [])] [(0,1,(iC 64520)),(1,1,(.c (.str []))),(2,1,(.c (.str [109,101,109,111,114,121,46,105,110,105,116,32,100,97,116,97,46,100,114,111,112,32,109,101,109,111,114,121,46,99,111,112,121,32,109,101,109,111,114,121,46,102,105,108,108,32,116,97,98,108,101,46,105,110,105,116,32,101,108,101,109,46,100,114,111,112,32,116,97,98,108,101,46,99,111,112,121,32,116,97,98,108,101,46,103,114,111,119,32,116,97,98,108,101,46,115,105,122,101,32,116,97,98,108,101,46,102,105,108,108])))]),
 o0 25 (.bsl 214 3 [[(.int .i64 0),(.str []),(.str [])],[(.int .i64 0),(.str []),(.str [])],[(.int .i64 0),(.str []),(.str [])],[(.int .i64 0),(.str []),(.str [])],[(.int .i64 0),(.str []),(.str [])],[(.int .i64 0),(.str []),(.str [])],[(.int .i64 0),(.str []),(.str [])],[(.int .i64 0),(.str []),(.str [])],[(.int .i64 0),(.str []),(.str [])],[(.int .i64 0),(.str []),(.str [])],[(.int .i64 0),(.str []),(.str [])],[(.int .i64 0),(.str []),(.str [])],[(.int .i64 0),(.str []),(.str [])],[(.int .i64 0),(.str []),(.str [])],[(.int .i64 0),(.str []),(.str [])],[(.int .i64 0),(.str []),(.str [])],[(.int .i64 0),(.str []),(.str [])],[(.int .i64 0),(.str []),(.str [])],[(.int .i64 0),(.str []),(.str [])],[(.int .i64 0),(.str []),(.str [])],[(.int .i64 0),(.str []),(.str [])],[(.int .i64 0),(.str []),(.str [])],[(.int .i64 0),(.str []),(.str [])],[(.int .i64 0),(.str []),(.str [])]] [(0,(.s 1)),(1,(.s 2)),(2,(.s 3)),(3,(.s 4)),(4,(.s 5)),(5,(.s 6)),(6,(.s 7)),(7,(.s 8)),(8,(.s 9)),(9,(.s 10)),(10,(.s 11)),(11,(.s 12)),(12,(.s 13)),(13,(.s 14)),(14,(.s 15)),(15,(.s 16)),(16,(.s 17)),(17,(.s 18)),(18,(.s 19)),(19,(.s 20)),(20,(.s 21)),(21,(.s 22)),(22,(.s 23)),(23,(.s 24))]),
 mv 0 25] [1,2,3,4,5,6,7,8,9,10,11,12,13,14,15,16,17,18,19,20,21,22,23,24,25])
 .ret))⟩
theorem PH:ax Tryz.prog 144=some Hm:=by kernel_rfl
abbrev Q1:FuncId:=144
def kH:aN :=
⟨263,1,[.tmp 2],
 (sr [o0 1 (.box 33 12 (.s 0)),
 mB 2 false] []
 (.seq (sr [fa 13 0 1,
 lo 14 13,
 ln 15 14,
 bI 16 .gtr 15 100,
 mv 17 16,
 oF 18 17 (fd 1 1),
 oF 19 17 (ld 18),
 oF 20 17 (.len (.s 19)),
 oF 21 17 (.bin .gtr (.s 20) (iC 100)),
 pT 22 17 21,
 mv 23 22,
 oF 24 23 (fd 2 1),
 oF 25 23 (ld 24),
 oF 26 23 (.len (.s 25)),
 oF 27 23 (.bin .gtr (.s 26) (iC 100)),
 pT 28 23 27,
 mv 29 28,
 oF 30 29 (fd 3 1),
 oF 31 29 (ld 30),
 oF 32 29 (.len (.s 31)),
 oF 33 29 (.bin .gtr (.s 32) (iC 100)),
 pT 34 29 33,
 mv 35 34,
 oF 36 35 (fd 4 1),
 oF 37 35 (ld 36),
 oF 38 35 (.len (.s 37)),
 oF 39 35 (.bin .gtr (.s 38) (iC 100)),
 pT 40 35 39,
 mv 41 40,
 oF 42 41 (fd 5 1),
 oF 43 41 (ld 42),
 oF 44 41 (.len (.s 43)),
 oF 45 41 (.bin .gtr (.s 44) (iC 100)),
 pT 46 41 45,
 mv 47 46,
 oF 48 47 (fd 6 1),
 oF 49 47 (ld 48),
 oF 50 47 (.len (.s 49)),
 oF 51 47 (.bin .gtr (.s 50) (iC 100)),
 pT 52 47 51,
 mv 53 52,
 oF 54 53 (fd 9 1),
 oF 55 53 (ld 54),
 oF 56 53 (.len (.s 55)),
 oF 57 53 (.bin .gtr (.s 56) (iC 100)),
 pT 58 53 57,
 mv 59 58,
 oF 60 59 (fd 10 1),
 oF 61 59 (ld 60),
 oF 62 59 (.len (.s 61)),
 oF 63 59 (.bin .gtr (.s 62) (iC 100)),
 pT 64 59 63,
 mv 65 64,
 oF 66 65 (fd 11 1),
 oF 67 65 (ld 66),
 oF 68 65 (.len (.s 67)),
 oF 69 65 (.bin .gtr (.s 68) (iC 100)),
 pT 70 65 69] [13,14,15,16,17,18,19,20,21,22,23,24,25,26,27,28,29,30,31,32,33,34,35,36,37,38,39,40,41,42,43,44,45,46,47,48,49,50,51,52,53,54,55,56,57,58,59,60,61,62,63,64,65,66,67,68,69]
 (.cond (.s 70)
 (sr [mB 2 false] []
 .ret)
 .skip))
 (sr [o0 3 (.mov (.c .nl))] []
 (sr [mI 4 0] []
 (.seq (sr [mI 5 0] []
 (.block 0 (.loop (.seq (sr [mv 71 5,
 fa 72 0 1,
 lo 73 72,
 ln 74 73,
 bS 75 .lss 71 74] [71,72,73,74]
 (.cond (.s 75)
 .skip
 (.exit 0)))
 (.seq (.block 1 (.seq (.draw [⟨mv 78 4,[]⟩,
 ⟨fa 79 0 1,[]⟩,
 ⟨lo 80 79,[1]⟩,
 ⟨mv 81 5,[]⟩,
 ⟨ia 82 2 80 81,[2,1,3]⟩,
 ⟨fa 83 0 82,[4,2,1,3]⟩,
 ⟨lo 84 83,[5,4,2,1,3]⟩,
 ⟨ln 85 84,[6,5,4,2,1,3]⟩,
 ⟨fa 86 0 1,[]⟩,
 ⟨lo 87 86,[8]⟩,
 ⟨mv 88 5,[]⟩,
 ⟨ia 89 2 87 88,[9,8,10]⟩,
 ⟨fa 90 1 89,[11,9,8,10]⟩,
 ⟨lo 91 90,[12,11,9,8,10]⟩,
 ⟨ln 92 91,[13,12,11,9,8,10]⟩,
 ⟨bS 93 .add 85 92,[7,6,5,4,2,1,3,14,13,12,11,9,8,10]⟩] [] [])
 (sr [bS 94 .add 78 93] []
 (.reg [mv 4 94] [78,79,80,81,82,83,84,85,86,87,88,89,90,91,92,93,94]))))
 (.reg [mv 76 5,
 bI 77 .add 76 1,
 mv 5 77] [76,77]))))))
 (.seq (sr [mI 6 0] []
 (.block 2 (.loop (.seq (sr [mv 95 6,
 fa 96 1 1,
 lo 97 96,
 ln 98 97,
 bS 99 .lss 95 98] [95,96,97,98]
 (.cond (.s 99)
 .skip
 (.exit 2)))
 (.seq (.block 3 (.seq (.draw [⟨mv 102 4,[]⟩,
 ⟨fa 103 1 1,[]⟩,
 ⟨lo 104 103,[1]⟩,
 ⟨mv 105 6,[]⟩,
 ⟨ia 106 13 104 105,[2,1,3]⟩,
 ⟨fa 107 0 106,[4,2,1,3]⟩,
 ⟨lo 108 107,[5,4,2,1,3]⟩,
 ⟨o0 109 (.slen (.s 108)),[6,5,4,2,1,3]⟩,
 ⟨fa 110 1 1,[]⟩,
 ⟨lo 111 110,[8]⟩,
 ⟨mv 112 6,[]⟩,
 ⟨ia 113 13 111 112,[9,8,10]⟩,
 ⟨fa 114 1 113,[11,9,8,10]⟩,
 ⟨lo 115 114,[12,11,9,8,10]⟩,
 ⟨o0 116 (.slen (.s 115)),[13,12,11,9,8,10]⟩,
 ⟨bS 117 .add 109 116,[7,6,5,4,2,1,3,14,13,12,11,9,8,10]⟩] [] [])
 (sr [bS 118 .add 102 117] []
 (.reg [mv 4 118] [102,103,104,105,106,107,108,109,110,111,112,113,114,115,116,117,118]))))
 (.reg [mv 100 6,
 bI 101 .add 100 1,
 mv 6 101] [100,101]))))))
 (.seq (sr [mI 7 0] []
 (.block 4 (.loop (.seq (sr [mv 119 7,
 fa 120 2 1,
 lo 121 120,
 ln 122 121,
 bS 123 .lss 119 122] [119,120,121,122]
 (.cond (.s 123)
 .skip
 (.exit 4)))
 (.seq (.block 5 (sr [mv 126 4,
 fa 127 2 1,
 lo 128 127,
 mv 129 7,
 ia 130 3 128 129,
 fa 131 1 130,
 lo 132 131,
 ln 133 132,
 bS 134 .add 126 133,
 mv 4 134] [126,127,128,129,130,131,132,133,134]
 (.reg [mv 135 3,
 fa 136 2 1,
 lo 137 136,
 mv 138 7,
 ia 139 3 137 138,
 fa 140 2 139,
 lo 141 140,
 o0 142 (.bsl 62 1 [[.nl]] [(0,(.s 141))]),
 o0 143 (.app 62 1 (.s 135) (.s 142)),
 mv 3 143] [135,136,137,138,139,140,141,142,143])))
 (.reg [mv 124 7,
 bI 125 .add 124 1,
 mv 7 125] [124,125]))))))
 (.seq (sr [mI 8 0] []
 (.block 6 (.loop (.seq (sr [mv 144 8,
 fa 145 5 1,
 lo 146 145,
 ln 147 146,
 bS 148 .lss 144 147] [144,145,146,147]
 (.cond (.s 148)
 .skip
 (.exit 6)))
 (.seq (.block 7 (.reg [mv 151 3,
 fa 152 5 1,
 lo 153 152,
 mv 154 8,
 ia 155 3 153 154,
 fa 156 2 155,
 lo 157 156,
 o0 158 (.bsl 62 1 [[.nl]] [(0,(.s 157))]),
 o0 159 (.app 62 1 (.s 151) (.s 158)),
 mv 3 159] [151,152,153,154,155,156,157,158,159]))
 (.reg [mv 149 8,
 bI 150 .add 149 1,
 mv 8 150] [149,150]))))))
 (.seq (sr [mI 9 0] []
 (.block 8 (.loop (.seq (sr [mv 160 9,
 fa 161 6 1,
 lo 162 161,
 ln 163 162,
 bS 164 .lss 160 163] [160,161,162,163]
 (.cond (.s 164)
 .skip
 (.exit 8)))
 (.seq (.block 9 (.reg [mv 167 4,
 fa 168 6 1,
 lo 169 168,
 mv 170 9,
 ia 171 3 169 170,
 fa 172 0 171,
 lo 173 172,
 o0 174 (.slen (.s 173)),
 bS 175 .add 167 174,
 mv 4 175] [167,168,169,170,171,172,173,174,175]))
 (.reg [mv 165 9,
 bI 166 .add 165 1,
 mv 9 166] [165,166]))))))
 (.seq (sr [mI 10 0] []
 (.block 10 (.loop (.seq (sr [mv 176 10,
 fa 177 9 1,
 lo 178 177,
 ln 179 178,
 bS 180 .lss 176 179] [176,177,178,179]
 (.cond (.s 180)
 .skip
 (.exit 10)))
 (.seq (.block 11 (.seq (sr [fa 183 9 1,
 lo 184 183,
 mv 185 10,
 ia 186 5 184 185,
 fa 187 4 186,
 lo 188 187,
 ln 189 188,
 bI 190 .gtr 189 300] [183,184,185,186,187,188,189]
 (.cond (.s 190)
 (sr [mB 2 false] []
 .ret)
 .skip))
 (.seq (.reg [mv 191 3,
 fa 192 9 1,
 lo 193 192,
 mv 194 10,
 ia 195 5 193 194,
 fa 196 2 195,
 lo 197 196,
 o0 198 (.bsl 62 1 [[.nl]] [(0,(.s 197))]),
 o0 199 (.app 62 1 (.s 191) (.s 198)),
 mv 3 199] [191,192,193,194,195,196,197,198,199])
 (.reg [mv 200 3,
 fa 201 9 1,
 lo 202 201,
 mv 203 10,
 ia 204 5 202 203,
 fa 205 4 204,
 lo 206 205,
 o0 207 (.app 62 1 (.s 200) (.s 206)),
 mv 3 207] [200,201,202,203,204,205,206,207]))))
 (.reg [mv 181 10,
 bI 182 .add 181 1,
 mv 10 182] [181,182]))))))
 (.seq (sr [mI 11 0] []
 (.block 12 (.loop (.seq (sr [mv 208 11,
 fa 209 10 1,
 lo 210 209,
 ln 211 210,
 bS 212 .lss 208 211] [208,209,210,211]
 (.cond (.s 212)
 .skip
 (.exit 12)))
 (.seq (.block 13 (sr [mv 215 4,
 fa 216 10 1,
 lo 217 216,
 mv 218 11,
 ia 219 4 217 218,
 fa 220 3 219,
 lo 221 220,
 ln 222 221,
 bS 223 .add 215 222,
 mv 4 223] [215,216,217,218,219,220,221,222,223]
 (.reg [mv 224 3,
 fa 225 10 1,
 lo 226 225,
 mv 227 11,
 ia 228 4 226 227,
 fa 229 2 228,
 lo 230 229,
 o0 231 (.bsl 62 1 [[.nl]] [(0,(.s 230))]),
 o0 232 (.app 62 1 (.s 224) (.s 231)),
 mv 3 232] [224,225,226,227,228,229,230,231,232])))
 (.reg [mv 213 11,
 bI 214 .add 213 1,
 mv 11 214] [213,214]))))))
 (.seq (sr [mI 12 0] []
 (.block 14 (.loop (.seq (sr [mv 233 12,
 fa 234 11 1,
 lo 235 234,
 ln 236 235,
 bS 237 .lss 233 236] [233,234,235,236]
 (.cond (.s 237)
 .skip
 (.exit 14)))
 (.seq (.block 15 (.seq (.draw [⟨mv 240 4,[]⟩,
 ⟨fa 241 11 1,[]⟩,
 ⟨lo 242 241,[1]⟩,
 ⟨mv 243 12,[]⟩,
 ⟨ia 244 3 242 243,[2,1,3]⟩,
 ⟨fa 245 2 244,[4,2,1,3]⟩,
 ⟨lo 246 245,[5,4,2,1,3]⟩,
 ⟨ln 247 246,[6,5,4,2,1,3]⟩,
 ⟨fa 248 11 1,[]⟩,
 ⟨lo 249 248,[8]⟩,
 ⟨mv 250 12,[]⟩,
 ⟨ia 251 3 249 250,[9,8,10]⟩,
 ⟨fa 252 1 251,[11,9,8,10]⟩,
 ⟨lo 253 252,[12,11,9,8,10]⟩,
 ⟨o0 254 (.slen (.s 253)),[13,12,11,9,8,10]⟩,
 ⟨bS 255 .add 247 254,[7,6,5,4,2,1,3,14,13,12,11,9,8,10]⟩] [] [])
 (sr [bS 256 .add 240 255] []
 (.reg [mv 4 256] [240,241,242,243,244,245,246,247,248,249,250,251,252,253,254,255,256]))))
 (.reg [mv 238 12,
 bI 239 .add 238 1,
 mv 12 239] [238,239]))))))
 (sr [mv 257 4,
 bI 258 .leq 257 9000,
 mv 259 258,
 mt 260 3 259,
 ot 261 259 (.call 15 [(.s 260),(iC 3000)]),
 pF 262 259 261,
 mv 2 262] [257,258,259,260,261,262]
 .ret)))))))))))))⟩
theorem Pl:ax Tryz.prog 5=some kH:=by kernel_rfl
abbrev QV:FuncId:=5
def He:aN :=
⟨107,1,[.cell 2 (some 4)],
 (sr [o0 1 (.box 33 12 (.s 0)),
 o0 2 (.new 40 [(.int .i64 0),(.int .i64 0),(.int .i64 0),(.int .i64 0)])] []
 (sr [o0 7 (.build [(.int .i64 0),(.int .i64 0),(.int .i64 0),(.int .i64 0)] []),
 o0 8 (.box 137 4 (.s 7)),
 mv 3 8] [7,8]
 (sr [o0 9 (.build [(.int .i64 0),(.int .i64 0),(.int .i64 0),(.int .i64 0)] []),
 o0 4 (.new 138 [(.int .i64 0),(.int .i64 0),(.int .i64 0),(.int .i64 0)]),
 sT 4 4 9] [9]
 (.seq (sr [fa 10 1 1,
 lo 11 10,
 ln 12 11,
 mI 13 0] [10]
 (.block 0 (.loop (sr [bS 14 .lss 13 12] []
 (.seq (.cond (.s 14)
 .skip
 (.exit 0))
 (.seq (.block 1 (.seq (.reg [ia 15 13 11 13,
 lS 16 13 15,
 o0 6 (.new 61 [(.str []),(.str []),(.int .i64 0),(.int .i64 0),(.int .i64 0),(.int .i64 0),(.int .i64 0),(.bool false),(.int .i64 0),(.int .i64 0),(.bool false),(.int .i64 0),(.bool false)]),
 sT 13 6 16] [15,16])
 (sr [fa 17 2 6,
 lo 18 17,
 bI 19 .geq 18 0,
 mv 20 19,
 ot 21 20 (fd 2 6),
 ot 22 20 (ld 21),
 ot 23 20 (.bin .leq (.s 22) (iC 3)),
 pF 24 20 23] [17,18,19,20,21,22,23]
 (.cond (.s 24)
 (.reg [fa 25 2 6,
 lo 26 25,
 o0 27 (.aadr 1 4 (.s 4) (.s 26)),
 lo 28 27,
 bI 29 .add 28 1,
 o0 30 (.aadr 1 4 (.s 4) (.s 26)),
 sT 1 30 29] [25,26,27,28,29,30])
 .skip))))
 (.reg [bI 31 .add 13 1,
 mv 13 31] [31])))))))
 (.seq (.reg [mv 32 3,
 fa 33 0 1,
 lo 34 33,
 o0 35 (.call 69 [(.s 32),(iC 1),(.s 34),(iC 64),(iC 0),(.c (.fn 70 []))])] [32,33,34,35])
 (.seq (.reg [mv 36 3,
 fa 37 1 1,
 lo 38 37,
 o0 39 (.call 72 [(.s 36),(iC 2),(.s 38),(iC 32),(iC 0),(.c (.fn 73 []))])] [36,37,38,39])
 (.seq (.reg [mv 40 3,
 fa 41 2 1,
 lo 42 41,
 o0 43 (.aadr 1 4 (.s 4) (iC 0)),
 lo 44 43,
 o0 45 (.call 75 [(.s 40),(iC 3),(.s 42),(iC 64),(.s 44),(.c (.fn 76 []))])] [40,41,42,43,44,45])
 (.seq (.reg [mv 46 3,
 fa 47 3 1,
 lo 48 47,
 o0 49 (.aadr 1 4 (.s 4) (iC 1)),
 lo 50 49,
 o0 51 (.call 78 [(.s 46),(iC 4),(.s 48),(iC 4),(.s 50),(.c (.fn 79 []))])] [46,47,48,49,50,51])
 (.seq (.reg [mv 52 3,
 fa 53 4 1,
 lo 54 53,
 o0 55 (.aadr 1 4 (.s 4) (iC 2)),
 lo 56 55,
 o0 57 (.call 81 [(.s 52),(iC 5),(.s 54),(iC 2),(.s 56),(.c (.fn 82 []))])] [52,53,54,55,56,57])
 (.seq (.reg [mv 58 3,
 fa 59 5 1,
 lo 60 59,
 o0 61 (.aadr 1 4 (.s 4) (iC 3)),
 lo 62 61,
 o0 63 (.call 84 [(.s 58),(iC 6),(.s 60),(iC 32),(.s 62),(.c (.fn 85 []))])] [58,59,60,61,62,63])
 (.seq (.reg [mv 64 3,
 fa 65 6 1,
 lo 66 65,
 o0 67 (.call 88 [(.s 64),(iC 7),(.s 66),(iC 64),(iC 0),(.c (.fn 89 []))])] [64,65,66,67])
 (.seq (sr [fa 68 7 1,
 lo 69 68,
 mv 70 69,
 ot 71 70 (fd 8 1),
 ot 72 70 (ld 71),
 ot 73 70 (.call 91 [(.s 72)]),
 ot 74 70 (.un .not (.s 73)),
 pF 75 70 74] [68,69,70,71,72,73,74]
 (.cond (.s 75)
 (.reg [mv 76 3,
 o0 77 (.call 92 [(.s 76),(iC 8),(iC 0),(iC 0),(iC 11)])] [76,77])
 .skip))
 (.seq (.reg [mv 78 3,
 fa 79 9 1,
 lo 80 79,
 o0 81 (.call 93 [(.s 78),(iC 9),(.s 80),(iC 16),(iC 0),(.c (.fn 94 []))])] [78,79,80,81])
 (.seq (.reg [mv 82 3,
 fa 83 10 1,
 lo 84 83,
 o0 85 (.call 96 [(.s 82),(iC 10),(.s 84),(iC 16),(iC 0),(.c (.fn 97 []))])] [82,83,84,85])
 (.seq (.reg [mv 86 3,
 fa 87 11 1,
 lo 88 87,
 o0 89 (.call 99 [(.s 86),(iC 11),(.s 88),(iC 8),(iC 0),(.c (.fn 100 []))])] [86,87,88,89])
 (.seq (sr [mv 90 3,
 nk 91 90,
 fa 92 0 91,
 fa 93 3 92,
 lo 94 93,
 bI 95 .eql 94 0] [90,91,92,93,94]
 (.cond (.s 95)
 (.reg [mv 96 3,
 fa 97 2 1,
 lo 98 97,
 fa 99 2 1,
 lo 100 99,
 ln 101 100,
 o0 102 (.call 75 [(.s 96),(iC 12),(.s 98),(.s 101),(iC 0),(.c (.fn 102 []))])] [96,97,98,99,100,101,102])
 .skip))
 (sr [mv 103 3,
 nk 104 103,
 fa 105 0 104,
 lS 106 4 105,
 sT 4 2 106] [103,104,105,106]
 .ret)))))))))))))))))⟩
theorem Pu:ax Tryz.prog 11=some He:=by kernel_rfl
abbrev Jm:FuncId:=11
def cD:aN :=
⟨335,3,[.cell 6 (some 12),.tmp 7],
 (sr [o0 3 (.box 33 12 (.s 0)),
 o0 6 (.new 33 [.nl,.nl,.nl,.nl,.nl,.nl,.nl,(.bool false),(.int .i64 0),.nl,.nl,.nl]),
 mB 7 false] []
 (sr [lS 10 12 3,
 c1 11 7 10,
 o0 8 (.new 33 [.nl,.nl,.nl,.nl,.nl,.nl,.nl,(.bool false),(.int .i64 0),.nl,.nl,.nl]),
 sT 12 8 11] [10,11]
 (.seq (.block 0 (sr [mv 14 1,
 bI 15 .eql 14 0,
 mv 16 15,
 ot 17 16 (fd 0 8),
 ot 18 16 (ld 17),
 ot 19 16 (.len (.s 18)),
 ot 20 16 (.bin .gtr (.s 19) (iC 0)),
 pF 21 16 20,
 mv 13 21] [14,15,16,17,18,19,20,21]
 (.cond (.s 13)
 (.seq (.draw [⟨fa 22 0 8,[]⟩,
 ⟨lo 23 22,[0]⟩,
 ⟨mv 24 2,[]⟩,
 ⟨fa 25 0 8,[]⟩,
 ⟨lo 26 25,[3]⟩,
 ⟨ln 27 26,[4,3]⟩,
 ⟨bS 28 .rem 24 27,[2,5,4,3]⟩,
 ⟨fa 29 0 8,[]⟩,
 ⟨lo 30 29,[7]⟩,
 ⟨mv 31 2,[]⟩,
 ⟨fa 32 0 8,[]⟩,
 ⟨lo 33 32,[10]⟩,
 ⟨ln 34 33,[11,10]⟩,
 ⟨bS 35 .rem 31 34,[9,12,11,10]⟩,
 ⟨ia 36 2 30 35,[8,7,13,9,12,11,10]⟩,
 ⟨fa 37 1 36,[14,8,7,13,9,12,11,10]⟩,
 ⟨lo 38 37,[15,14,8,7,13,9,12,11,10]⟩,
 ⟨o0 39 (.bsl 53 1 [[(.int .i64 0)]] [(0,(iC 2))]),[]⟩,
 ⟨o0 40 (.app 53 1 (.s 38) (.s 39)),[16,15,14,8,7,13,9,12,11,10,17]⟩] [(39,17),(40,18)] [])
 (sr [ia 41 2 23 28] []
 (sr [fa 42 1 41] []
 (.reg [sT 1 42 40] [22,23,24,25,26,27,28,29,30,31,32,33,34,35,36,37,38,39,40,41,42]))))
 (sr [mv 44 1,
 bI 45 .eql 44 1,
 mv 46 45,
 ot 47 46 (fd 1 8),
 ot 48 46 (ld 47),
 ot 49 46 (.len (.s 48)),
 ot 50 46 (.bin .gtr (.s 49) (iC 0)),
 pF 51 46 50,
 mv 43 51] [44,45,46,47,48,49,50,51]
 (.cond (.s 43)
 (.seq (.draw [⟨fa 52 1 8,[]⟩,
 ⟨lo 53 52,[0]⟩,
 ⟨mv 54 2,[]⟩,
 ⟨fa 55 1 8,[]⟩,
 ⟨lo 56 55,[3]⟩,
 ⟨ln 57 56,[4,3]⟩,
 ⟨bS 58 .rem 54 57,[2,5,4,3]⟩] [] [])
 (sr [ia 59 13 53 58] []
 (sr [fa 60 1 59] []
 (sr [lo 61 60] []
 (sr [o0 62 (.bin .add (.s 61) (.c (.str [120])))] []
 (sr [ia 63 13 53 58] []
 (sr [fa 64 1 63] []
 (.reg [sT 1 64 62] [52,53,54,55,56,57,58,59,60,61,62,63,64]))))))))
 (sr [mv 66 1,
 bI 67 .eql 66 2,
 mv 68 67,
 ot 69 68 (fd 2 8),
 ot 70 68 (ld 69),
 ot 71 68 (.len (.s 70)),
 ot 72 68 (.bin .gtr (.s 71) (iC 0)),
 pF 73 68 72,
 mv 65 73] [66,67,68,69,70,71,72,73]
 (.cond (.s 65)
 (.seq (.draw [⟨fa 74 2 8,[]⟩,
 ⟨lo 75 74,[0]⟩,
 ⟨mv 76 2,[]⟩,
 ⟨fa 77 2 8,[]⟩,
 ⟨lo 78 77,[3]⟩,
 ⟨ln 79 78,[4,3]⟩,
 ⟨bS 80 .rem 76 79,[2,5,4,3]⟩,
 ⟨fa 81 2 8,[]⟩,
 ⟨lo 82 81,[7]⟩,
 ⟨mv 83 2,[]⟩,
 ⟨fa 84 2 8,[]⟩,
 ⟨lo 85 84,[10]⟩,
 ⟨ln 86 85,[11,10]⟩,
 ⟨bS 87 .rem 83 86,[9,12,11,10]⟩,
 ⟨ia 88 3 82 87,[8,7,13,9,12,11,10]⟩,
 ⟨fa 89 1 88,[14,8,7,13,9,12,11,10]⟩,
 ⟨lo 90 89,[15,14,8,7,13,9,12,11,10]⟩,
 ⟨o0 91 (.bsl 53 1 [[(.int .i64 0)]] [(0,(iC 2))]),[]⟩,
 ⟨o0 92 (.app 53 1 (.s 90) (.s 91)),[16,15,14,8,7,13,9,12,11,10,17]⟩] [(91,17),(92,18)] [])
 (sr [ia 93 3 75 80] []
 (sr [fa 94 1 93] []
 (.reg [sT 1 94 92] [74,75,76,77,78,79,80,81,82,83,84,85,86,87,88,89,90,91,92,93,94]))))
 (sr [mv 96 1,
 bI 97 .eql 96 3,
 mv 98 97,
 ot 99 98 (fd 3 8),
 ot 100 98 (ld 99),
 ot 101 98 (.len (.s 100)),
 ot 102 98 (.bin .gtr (.s 101) (iC 0)),
 pF 103 98 102,
 mv 95 103] [96,97,98,99,100,101,102,103]
 (.cond (.s 95)
 (.seq (.draw [⟨fa 104 3 8,[]⟩,
 ⟨lo 105 104,[0]⟩,
 ⟨mv 106 2,[]⟩,
 ⟨fa 107 3 8,[]⟩,
 ⟨lo 108 107,[3]⟩,
 ⟨ln 109 108,[4,3]⟩,
 ⟨bS 110 .rem 106 109,[2,5,4,3]⟩,
 ⟨fa 111 3 8,[]⟩,
 ⟨lo 112 111,[7]⟩,
 ⟨mv 113 2,[]⟩,
 ⟨fa 114 3 8,[]⟩,
 ⟨lo 115 114,[10]⟩,
 ⟨ln 116 115,[11,10]⟩,
 ⟨bS 117 .rem 113 116,[9,12,11,10]⟩,
 ⟨ia 118 4 112 117,[8,7,13,9,12,11,10]⟩,
 ⟨fa 119 1 118,[14,8,7,13,9,12,11,10]⟩,
 ⟨fa 120 2 119,[15,14,8,7,13,9,12,11,10]⟩,
 ⟨lo 121 120,[16,15,14,8,7,13,9,12,11,10]⟩,
 ⟨uN 122 121,[17,16,15,14,8,7,13,9,12,11,10]⟩] [] [])
 (sr [ia 123 4 105 110] []
 (sr [fa 124 1 123] []
 (sr [fa 125 2 124] []
 (.reg [sT 1 125 122] [104,105,106,107,108,109,110,111,112,113,114,115,116,117,118,119,120,121,122,123,124,125])))))
 (sr [mv 127 1,
 bI 128 .eql 127 4,
 mv 129 128,
 ot 130 129 (fd 4 8),
 ot 131 129 (ld 130),
 ot 132 129 (.len (.s 131)),
 ot 133 129 (.bin .gtr (.s 132) (iC 0)),
 pF 134 129 133,
 mv 126 134] [127,128,129,130,131,132,133,134]
 (.cond (.s 126)
 (.seq (.draw [⟨fa 135 4 8,[]⟩,
 ⟨lo 136 135,[0]⟩,
 ⟨mv 137 2,[]⟩,
 ⟨fa 138 4 8,[]⟩,
 ⟨lo 139 138,[3]⟩,
 ⟨ln 140 139,[4,3]⟩,
 ⟨bS 141 .rem 137 140,[2,5,4,3]⟩] [] [])
 (sr [ia 142 3 136 141] []
 (sr [fa 143 0 142] []
 (sr [lo 144 143] []
 (sr [bI 145 .xor 144 1] []
 (sr [ia 146 3 136 141] []
 (sr [fa 147 0 146] []
 (.reg [sT 1 147 145] [135,136,137,138,139,140,141,142,143,144,145,146,147]))))))))
 (sr [mv 149 1,
 bI 150 .eql 149 5,
 mv 151 150,
 ot 152 151 (fd 5 8),
 ot 153 151 (ld 152),
 ot 154 151 (.len (.s 153)),
 ot 155 151 (.bin .gtr (.s 154) (iC 0)),
 pF 156 151 155,
 mv 148 156] [149,150,151,152,153,154,155,156]
 (.cond (.s 148)
 (.seq (.draw [⟨fa 157 5 8,[]⟩,
 ⟨lo 158 157,[0]⟩,
 ⟨mv 159 2,[]⟩,
 ⟨fa 160 5 8,[]⟩,
 ⟨lo 161 160,[3]⟩,
 ⟨ln 162 161,[4,3]⟩,
 ⟨bS 163 .rem 159 162,[2,5,4,3]⟩,
 ⟨fa 164 5 8,[]⟩,
 ⟨lo 165 164,[7]⟩,
 ⟨mv 166 2,[]⟩,
 ⟨fa 167 5 8,[]⟩,
 ⟨lo 168 167,[10]⟩,
 ⟨ln 169 168,[11,10]⟩,
 ⟨bS 170 .rem 166 169,[9,12,11,10]⟩,
 ⟨ia 171 3 165 170,[8,7,13,9,12,11,10]⟩,
 ⟨fa 172 0 171,[14,8,7,13,9,12,11,10]⟩,
 ⟨fa 173 1 172,[15,14,8,7,13,9,12,11,10]⟩,
 ⟨lo 174 173,[16,15,14,8,7,13,9,12,11,10]⟩,
 ⟨uN 175 174,[17,16,15,14,8,7,13,9,12,11,10]⟩] [] [])
 (sr [ia 176 3 158 163] []
 (sr [fa 177 0 176] []
 (sr [fa 178 1 177] []
 (.reg [sT 1 178 175] [157,158,159,160,161,162,163,164,165,166,167,168,169,170,171,172,173,174,175,176,177,178])))))
 (sr [mv 180 1,
 bI 181 .eql 180 6,
 mv 182 181,
 ot 183 182 (fd 6 8),
 ot 184 182 (ld 183),
 ot 185 182 (.len (.s 184)),
 ot 186 182 (.bin .gtr (.s 185) (iC 0)),
 pF 187 182 186,
 mv 179 187] [180,181,182,183,184,185,186,187]
 (.cond (.s 179)
 (.seq (.draw [⟨fa 188 6 8,[]⟩,
 ⟨lo 189 188,[0]⟩,
 ⟨mv 190 2,[]⟩,
 ⟨fa 191 6 8,[]⟩,
 ⟨lo 192 191,[3]⟩,
 ⟨ln 193 192,[4,3]⟩,
 ⟨bS 194 .rem 190 193,[2,5,4,3]⟩] [] [])
 (sr [ia 195 3 189 194] []
 (sr [fa 196 2 195] []
 (sr [lo 197 196] []
 (sr [bI 198 .xor 197 1] []
 (sr [ia 199 3 189 194] []
 (sr [fa 200 2 199] []
 (.reg [sT 1 200 198] [188,189,190,191,192,193,194,195,196,197,198,199,200]))))))))
 (sr [mv 202 1,
 bI 203 .eql 202 7,
 mv 201 203] [202,203]
 (.cond (.s 201)
 (.reg [fa 204 7 8,
 lo 205 204,
 uN 206 205,
 fa 207 7 8,
 sT 1 207 206] [204,205,206,207])
 (sr [mv 209 1,
 bI 210 .eql 209 8,
 mv 211 210,
 ot 212 211 (fd 9 8),
 ot 213 211 (ld 212),
 ot 214 211 (.len (.s 213)),
 ot 215 211 (.bin .gtr (.s 214) (iC 0)),
 pF 216 211 215,
 mv 208 216] [209,210,211,212,213,214,215,216]
 (.cond (.s 208)
 (.seq (.draw [⟨fa 217 9 8,[]⟩,
 ⟨lo 218 217,[0]⟩,
 ⟨mv 219 2,[]⟩,
 ⟨fa 220 9 8,[]⟩,
 ⟨lo 221 220,[3]⟩,
 ⟨ln 222 221,[4,3]⟩,
 ⟨bS 223 .rem 219 222,[2,5,4,3]⟩,
 ⟨fa 224 9 8,[]⟩,
 ⟨lo 225 224,[7]⟩,
 ⟨mv 226 2,[]⟩,
 ⟨fa 227 9 8,[]⟩,
 ⟨lo 228 227,[10]⟩,
 ⟨ln 229 228,[11,10]⟩,
 ⟨bS 230 .rem 226 229,[9,12,11,10]⟩,
 ⟨ia 231 5 225 230,[8,7,13,9,12,11,10]⟩,
 ⟨fa 232 4 231,[14,8,7,13,9,12,11,10]⟩,
 ⟨lo 233 232,[15,14,8,7,13,9,12,11,10]⟩,
 ⟨o0 234 (.bsl 62 1 [[.nl]] [(0,(.c .nl))]),[]⟩,
 ⟨o0 235 (.app 62 1 (.s 233) (.s 234)),[16,15,14,8,7,13,9,12,11,10,17]⟩] [(234,17),(235,18)] [])
 (sr [ia 236 5 218 223] []
 (sr [fa 237 4 236] []
 (.reg [sT 1 237 235] [217,218,219,220,221,222,223,224,225,226,227,228,229,230,231,232,233,234,235,236,237]))))
 (sr [mv 239 1,
 bI 240 .eql 239 9,
 mv 241 240,
 ot 242 241 (fd 10 8),
 ot 243 241 (ld 242),
 ot 244 241 (.len (.s 243)),
 ot 245 241 (.bin .gtr (.s 244) (iC 0)),
 pF 246 241 245,
 mv 238 246] [239,240,241,242,243,244,245,246]
 (.cond (.s 238)
 (.seq (.draw [⟨fa 247 10 8,[]⟩,
 ⟨lo 248 247,[0]⟩,
 ⟨mv 249 2,[]⟩,
 ⟨fa 250 10 8,[]⟩,
 ⟨lo 251 250,[3]⟩,
 ⟨ln 252 251,[4,3]⟩,
 ⟨bS 253 .rem 249 252,[2,5,4,3]⟩,
 ⟨fa 254 10 8,[]⟩,
 ⟨lo 255 254,[7]⟩,
 ⟨mv 256 2,[]⟩,
 ⟨fa 257 10 8,[]⟩,
 ⟨lo 258 257,[10]⟩,
 ⟨ln 259 258,[11,10]⟩,
 ⟨bS 260 .rem 256 259,[9,12,11,10]⟩,
 ⟨ia 261 4 255 260,[8,7,13,9,12,11,10]⟩,
 ⟨fa 262 3 261,[14,8,7,13,9,12,11,10]⟩,
 ⟨lo 263 262,[15,14,8,7,13,9,12,11,10]⟩,
 ⟨o0 264 (.bsl 5 1 [[(.int .u8 0)]] [(0,(.c (.int .u8 0)))]),[]⟩,
 ⟨o0 265 (.app 5 1 (.s 263) (.s 264)),[16,15,14,8,7,13,9,12,11,10,17]⟩] [(264,17),(265,18)] [])
 (sr [ia 266 4 248 253] []
 (sr [fa 267 3 266] []
 (.reg [sT 1 267 265] [247,248,249,250,251,252,253,254,255,256,257,258,259,260,261,262,263,264,265,266,267]))))
 (sr [mv 269 1,
 bI 270 .eql 269 10,
 mv 271 270,
 ot 272 271 (fd 11 8),
 ot 273 271 (ld 272),
 ot 274 271 (.len (.s 273)),
 ot 275 271 (.bin .gtr (.s 274) (iC 0)),
 pF 276 271 275,
 mv 268 276] [269,270,271,272,273,274,275,276]
 (.cond (.s 268)
 (.seq (.draw [⟨fa 277 11 8,[]⟩,
 ⟨lo 278 277,[0]⟩,
 ⟨mv 279 2,[]⟩,
 ⟨fa 280 11 8,[]⟩,
 ⟨lo 281 280,[3]⟩,
 ⟨ln 282 281,[4,3]⟩,
 ⟨bS 283 .rem 279 282,[2,5,4,3]⟩] [] [])
 (sr [ia 284 3 278 283] []
 (sr [fa 285 0 284] []
 (sr [lo 286 285] []
 (sr [bI 287 .xor 286 1] []
 (sr [ia 288 3 278 283] []
 (sr [fa 289 0 288] []
 (.reg [sT 1 289 287] [277,278,279,280,281,282,283,284,285,286,287,288,289]))))))))
 (.seq (sr [mv 291 1] []
 (sr [bI 292 .eql 291 11] []
 (sr [mv 293 292] []
 (sr [ot 294 293 (fd 2 8)] []
 (sr [ot 295 293 (ld 294)] []
 (sr [ot 296 293 (.len (.s 295))] []
 (sr [ot 297 293 (.bin .gtr (.s 296) (iC 0))] []
 (sr [pF 298 293 297] []
 (sr [mv 299 298] []
 (.seq (.draw [⟨ot 300 299 (fd 2 8),[]⟩,
 ⟨ot 301 299 (ld 300),[0]⟩,
 ⟨mt 302 2 299,[]⟩,
 ⟨ot 303 299 (fd 2 8),[]⟩,
 ⟨ot 304 299 (ld 303),[3]⟩,
 ⟨ot 305 299 (.len (.s 304)),[4,3]⟩,
 ⟨ot 306 299 (.bin .rem (.s 302) (.s 305)),[2,5,4,3]⟩] [] [])
 (sr [ot 307 299 (.iadr 3 (.s 301) (.s 306))] []
 (sr [ot 308 299 (fd 2 307)] []
 (sr [ot 309 299 (ld 308)] []
 (sr [ot 310 299 (.len (.s 309))] []
 (sr [ot 311 299 (.bin .gtr (.s 310) (iC 0))] []
 (sr [pF 312 299 311] []
 (.reg [mv 290 312] [291,292,293,294,295,296,297,298,299,300,301,302,303,304,305,306,307,308,309,310,311,312])))))))))))))))))
 (.cond (.s 290)
 (.seq (.seq (.draw [⟨fa 313 2 8,[]⟩,
 ⟨lo 314 313,[0]⟩,
 ⟨mv 315 2,[]⟩,
 ⟨fa 316 2 8,[]⟩,
 ⟨lo 317 316,[3]⟩,
 ⟨ln 318 317,[4,3]⟩,
 ⟨bS 319 .rem 315 318,[2,5,4,3]⟩] [] [])
 (sr [ia 320 3 314 319] []
 (sr [fa 321 2 320] []
 (sr [lo 322 321] []
 (.reg [mv 9 322] [313,314,315,316,317,318,319,320,321,322])))))
 (.reg [mv 323 9,
 mv 324 2,
 mv 325 9,
 ln 326 325,
 bS 327 .rem 324 326,
 ia 328 9 323 327,
 fa 329 3 328,
 lo 330 329,
 o0 331 (.bin .xor (.s 330) (.c (.int .u64 1))),
 ia 332 9 323 327,
 fa 333 3 332,
 sT 1 333 331] [323,324,325,326,327,328,329,330,331,332,333]))
 (sr [lS 12 12 8,
 sT 12 6 12,
 mB 7 false] [12]
 .ret))))))))))))))))))))))))))
 (sr [lS 334 12 8,
 sT 12 6 334,
 mB 7 true] [334]
 .ret))))⟩
theorem fL:ax Tryz.prog 14=some cD:=by kernel_rfl
abbrev Jf:FuncId:=14
def xx:aN :=
⟨17,2,[.tmp 4],
 (sr [o0 2 (.box 66 3 (.s 0)),
 o0 3 (.box 66 3 (.s 1)),
 mB 4 false] []
 (sr [fa 5 0 2,
 lS 6 2 5,
 fa 7 0 3,
 lS 8 2 7,
 o0 9 (.sbin .eql [.i,.b] (.s 6) (.s 8)),
 mv 10 9,
 ot 11 10 (fd 2 2),
 ot 12 10 (ld 11),
 ot 13 10 (fd 2 3),
 ot 14 10 (ld 13),
 ot 15 10 (.call 48 [(.s 12),(.s 14)]),
 pF 16 10 15,
 mv 4 16] [5,6,7,8,9,10,11,12,13,14,15,16]
 .ret))⟩
theorem Pw:ax Tryz.prog 49=some xx:=by kernel_rfl
abbrev MU:FuncId:=49
def sa:aN :=
⟨33,2,[.tmp 4],
 (sr [o0 2 (.box 73 4 (.s 0)),
 o0 3 (.box 73 4 (.s 1)),
 mB 4 false] []
 (sr [fa 5 0 2,
 lo 6 5,
 fa 7 0 3,
 lo 8 7,
 bS 9 .eql 6 8,
 mv 10 9,
 ot 11 10 (fd 1 2),
 ot 12 10 (ld 11),
 ot 13 10 (fd 1 3),
 ot 14 10 (ld 13),
 ot 15 10 (.bin .eql (.s 12) (.s 14)),
 pF 16 10 15,
 mv 17 16,
 ot 18 17 (fd 2 2),
 ot 19 17 (ld 18),
 ot 20 17 (fd 2 3),
 ot 21 17 (ld 20),
 ot 22 17 (.call 48 [(.s 19),(.s 21)]),
 pF 23 17 22,
 mv 24 23,
 ot 25 24 (fd 3 2),
 ot 26 24 (ld 25),
 ot 27 24 (.cvs (.s 26)),
 ot 28 24 (fd 3 3),
 ot 29 24 (ld 28),
 ot 30 24 (.cvs (.s 29)),
 ot 31 24 (.bin .eql (.s 27) (.s 30)),
 pF 32 24 31,
 mv 4 32] [5,6,7,8,9,10,11,12,13,14,15,16,17,18,19,20,21,22,23,24,25,26,27,28,29,30,31,32]
 .ret))⟩
theorem Py:ax Tryz.prog 52=some sa:=by kernel_rfl
abbrev MW:FuncId:=52
def qw:aN :=
⟨17,2,[.tmp 4],
 (sr [o0 2 (.box 51 2 (.s 0)),
 o0 3 (.box 51 2 (.s 1)),
 mB 4 false] []
 (sr [fa 5 0 2,
 lo 6 5,
 fa 7 0 3,
 lo 8 7,
 c2 9 111 6 8,
 mv 10 9,
 ot 11 10 (fd 1 2),
 ot 12 10 (ld 11),
 ot 13 10 (fd 1 3),
 ot 14 10 (ld 13),
 ot 15 10 (.call 111 [(.s 12),(.s 14)]),
 pF 16 10 15,
 mv 4 16] [5,6,7,8,9,10,11,12,13,14,15,16]
 .ret))⟩
theorem K2:ax Tryz.prog 55=some qw:=by kernel_rfl
abbrev F8:FuncId:=55
def GC:aN :=
⟨8,2,[.tmp 4],
 (sr [o0 2 (.box 61 13 (.s 0)),
 o0 3 (.box 61 13 (.s 1)),
 mB 4 false] []
 (sr [lS 5 13 2,
 lS 6 13 3,
 o0 7 (.sbin .eql [.s,.s,.i,.i,.i,.i,.i,.b,.i,.i,.b,.i,.b] (.s 5) (.s 6)),
 mv 4 7] [5,6,7]
 .ret))⟩
theorem Ol:ax Tryz.prog 57=some GC:=by kernel_rfl
abbrev Mr:FuncId:=57
def Cm:aN :=
⟨30,3,[.tmp 6],
 (sr [mB 6 false] []
 (.seq (sr [mv 8 0,
 ln 9 8,
 mv 10 1,
 ln 11 10,
 bS 12 .neq 9 11] [8,9,10,11]
 (.cond (.s 12)
 (sr [mB 6 false] []
 .ret)
 .skip))
 (.seq (sr [mv 13 0,
 ln 14 13,
 mI 15 0] [13]
 (.block 0 (.loop (sr [bS 16 .lss 15 14] []
 (.seq (.cond (.s 16)
 .skip
 (.exit 0))
 (.seq (.block 1 (sr [mv 17 15,
 mv 7 17] [17]
 (.seq (.seq (.draw [⟨mv 18 2,[]⟩,
 ⟨mv 19 0,[]⟩,
 ⟨mv 20 7,[]⟩,
 ⟨ia 21 4 19 20,[1,2]⟩,
 ⟨lS 22 4 21,[3,1,2]⟩,
 ⟨mv 23 1,[]⟩,
 ⟨mv 24 7,[]⟩,
 ⟨ia 25 4 23 24,[5,6]⟩,
 ⟨lS 26 4 25,[7,5,6]⟩] [] [])
 (sr [o0 27 (.callv (.s 18) [(.s 22),(.s 26)])] []
 (.reg [uN 28 27] [18,19,20,21,22,23,24,25,26,27])))
 (.cond (.s 28)
 (sr [mB 6 false] []
 .ret)
 .skip))))
 (.reg [bI 29 .add 15 1,
 mv 15 29] [29])))))))
 (sr [mB 6 true] []
 .ret))))⟩
theorem OH:ax Tryz.prog 59=some Cm:=by kernel_rfl
abbrev Qy:FuncId:=59
def Cc:aN :=
⟨30,3,[.tmp 6],
 (sr [mB 6 false] []
 (.seq (sr [mv 8 0,
 ln 9 8,
 mv 10 1,
 ln 11 10,
 bS 12 .neq 9 11] [8,9,10,11]
 (.cond (.s 12)
 (sr [mB 6 false] []
 .ret)
 .skip))
 (.seq (sr [mv 13 0,
 ln 14 13,
 mI 15 0] [13]
 (.block 0 (.loop (sr [bS 16 .lss 15 14] []
 (.seq (.cond (.s 16)
 .skip
 (.exit 0))
 (.seq (.block 1 (sr [mv 17 15,
 mv 7 17] [17]
 (.seq (.seq (.draw [⟨mv 18 2,[]⟩,
 ⟨mv 19 0,[]⟩,
 ⟨mv 20 7,[]⟩,
 ⟨ia 21 3 19 20,[1,2]⟩,
 ⟨lS 22 3 21,[3,1,2]⟩,
 ⟨mv 23 1,[]⟩,
 ⟨mv 24 7,[]⟩,
 ⟨ia 25 3 23 24,[5,6]⟩,
 ⟨lS 26 3 25,[7,5,6]⟩] [] [])
 (sr [o0 27 (.callv (.s 18) [(.s 22),(.s 26)])] []
 (.reg [uN 28 27] [18,19,20,21,22,23,24,25,26,27])))
 (.cond (.s 28)
 (sr [mB 6 false] []
 .ret)
 .skip))))
 (.reg [bI 29 .add 15 1,
 mv 15 29] [29])))))))
 (sr [mB 6 true] []
 .ret))))⟩
theorem Oi:ax Tryz.prog 63=some Cc:=by kernel_rfl
abbrev Ql:FuncId:=63
def Cp:aN :=
⟨30,3,[.tmp 6],
 (sr [mB 6 false] []
 (.seq (sr [mv 8 0,
 ln 9 8,
 mv 10 1,
 ln 11 10,
 bS 12 .neq 9 11] [8,9,10,11]
 (.cond (.s 12)
 (sr [mB 6 false] []
 .ret)
 .skip))
 (.seq (sr [mv 13 0,
 ln 14 13,
 mI 15 0] [13]
 (.block 0 (.loop (sr [bS 16 .lss 15 14] []
 (.seq (.cond (.s 16)
 .skip
 (.exit 0))
 (.seq (.block 1 (sr [mv 17 15,
 mv 7 17] [17]
 (.seq (.seq (.draw [⟨mv 18 2,[]⟩,
 ⟨mv 19 0,[]⟩,
 ⟨mv 20 7,[]⟩,
 ⟨ia 21 5 19 20,[1,2]⟩,
 ⟨lS 22 5 21,[3,1,2]⟩,
 ⟨mv 23 1,[]⟩,
 ⟨mv 24 7,[]⟩,
 ⟨ia 25 5 23 24,[5,6]⟩,
 ⟨lS 26 5 25,[7,5,6]⟩] [] [])
 (sr [o0 27 (.callv (.s 18) [(.s 22),(.s 26)])] []
 (.reg [uN 28 27] [18,19,20,21,22,23,24,25,26,27])))
 (.cond (.s 28)
 (sr [mB 6 false] []
 .ret)
 .skip))))
 (.reg [bI 29 .add 15 1,
 mv 15 29] [29])))))))
 (sr [mB 6 true] []
 .ret))))⟩
theorem OS:ax Tryz.prog 66=some Cp:=by kernel_rfl
abbrev QF:FuncId:=66
def N1:aN :=
⟨56,6,[],
 (.seq (sr [mv 16 2,
 ln 17 16,
 mv 18 4,
 bS 19 .add 17 18,
 mv 20 3,
 bS 21 .gtr 19 20] [16,17,18,19,20]
 (.cond (.s 21)
 (.reg [mv 22 0,
 mv 23 1,
 mv 24 3,
 mv 25 4,
 bS 26 .sub 24 25,
 o0 27 (.mnx true (iC 0) (.s 26)),
 o0 28 (.call 92 [(.s 22),(.s 23),(.s 27),(iC 0),(iC 6)])] [22,23,24,25,26,27,28])
 .skip))
 (sr [mv 29 2,
 ln 30 29,
 mI 31 0] []
 (.block 0 (.loop (sr [bS 32 .lss 31 30] []
 (.seq (.cond (.s 32)
 .skip
 (.exit 0))
 (.seq (.block 1 (sr [mv 33 31,
 ia 34 2 29 31,
 lS 35 2 34,
 o0 13 (.new 51 [.nl,.nl]),
 mv 12 33,
 sT 2 13 35] [33,34,35]
 (.seq (sr [mv 36 0,
 nk 37 36,
 fa 38 0 37,
 fa 39 3 38,
 lo 40 39,
 bI 41 .neq 40 0] [36,37,38,39,40]
 (cR 41))
 (sr [mv 43 5,
 mv 44 12,
 lS 45 2 13,
 o0 46 (.callv (.s 43) [(.s 44),(.s 45)]),
 mv 42 46,
 xt 47 42 0,
 xt 48 42 1,
 mv 14 47,
 mv 15 48] [43,44,45,46,42,47,48]
 (.reg [mv 49 0,
 mv 50 1,
 mv 51 12,
 mv 52 14,
 mv 53 15,
 o0 54 (.call 92 [(.s 49),(.s 50),(.s 51),(.s 52),(.s 53)])] [49,50,51,52,53,54])))))
 (.reg [bI 55 .add 31 1,
 mv 31 55] [55]))))))))⟩
theorem OP:ax Tryz.prog 69=some N1:=by kernel_rfl
abbrev MD:FuncId:=69
def G2:aN :=
⟨52,1,[.tmp 2],
 (sr [o0 1 (.box 61 13 (.s 0)),
 mI 2 0] []
 (.seq (sr [fa 5 0 1,
 lo 6 5,
 c1 7 115 6,
 mv 3 7] [5,6,7]
 (sr [mv 8 3,
 bI 9 .neq 8 0] [8]
 (.cond (.s 9)
 (sr [mv 10 3,
 mv 2 10] [10]
 .ret)
 .skip)))
 (.seq (sr [fa 11 1 1,
 lo 12 11,
 c1 13 115 12,
 mv 4 13] [11,12,13]
 (sr [mv 14 4,
 bI 15 .neq 14 0] [14]
 (.cond (.s 15)
 (sr [mv 16 4,
 mv 2 16] [16]
 .ret)
 .skip)))
 (.seq (.seq (sr [fa 17 2 1] []
 (sr [lo 18 17] []
 (sr [bI 19 .lss 18 0] []
 (sr [mv 20 19] []
 (sr [oF 21 20 (fd 2 1)] []
 (sr [oF 22 20 (ld 21)] []
 (sr [oF 23 20 (.bin .gtr (.s 22) (iC 3))] []
 (sr [pT 24 20 23] []
 (sr [mv 25 24] []
 (.seq (.draw [⟨oF 26 25 (.load (some 13) (.s 1)),[]⟩,
 ⟨oF 27 25 (.call 116 [(.s 26)]),[0]⟩,
 ⟨oF 28 25 (.load (some 13) (.s 1)),[]⟩] [(27,1)] [])
 (sr [oF 29 25 (.sbin .neq [.s,.s,.i,.i,.i,.i,.i,.b,.i,.i,.b,.i,.b] (.s 27) (.s 28))] []
 (.reg [pT 30 25 29] [17,18,19,20,21,22,23,24,25,26,27,28,29]))))))))))))
 (.cond (.s 30)
 (sr [mI 2 1] []
 .ret)
 .skip))
 (.seq (sr [fa 31 2 1,
 lo 32 31] [31]
 (.block 0 (sr [bI 34 .eql 32 1,
 mv 33 34] [34]
 (.cond (.s 33)
 (sr [fa 35 4 1,
 lS 36 4 35,
 c1 37 80 36,
 mv 2 37] [35,36,37]
 .ret)
 (sr [bI 39 .eql 32 2,
 mv 38 39] [39]
 (.cond (.s 38)
 (sr [fa 40 8 1,
 lS 41 3 40,
 c1 42 83 41,
 mv 2 42] [40,41,42]
 .ret)
 (sr [bI 44 .eql 32 3,
 mv 43 44] [44]
 (.cond (.s 43)
 (sr [fa 45 11 1,
 lS 46 2 45,
 c1 47 86 46,
 mv 2 47] [45,46,47]
 .ret)
 .skip))))))))
 (.seq (sr [fa 48 3 1,
 lo 49 48,
 c1 50 91 49,
 uN 51 50] [48,49,50]
 (.cond (.s 51)
 (sr [mI 2 11] []
 .ret)
 .skip))
 (sr [mI 2 0] []
 .ret)))))))⟩
theorem Pd:ax Tryz.prog 74=some G2:=by kernel_rfl
abbrev QP:FuncId:=74
def NU:aN :=
⟨56,6,[],
 (.seq (sr [mv 16 2,
 ln 17 16,
 mv 18 4,
 bS 19 .add 17 18,
 mv 20 3,
 bS 21 .gtr 19 20] [16,17,18,19,20]
 (.cond (.s 21)
 (.reg [mv 22 0,
 mv 23 1,
 mv 24 3,
 mv 25 4,
 bS 26 .sub 24 25,
 o0 27 (.mnx true (iC 0) (.s 26)),
 o0 28 (.call 92 [(.s 22),(.s 23),(.s 27),(iC 0),(iC 6)])] [22,23,24,25,26,27,28])
 .skip))
 (sr [mv 29 2,
 ln 30 29,
 mI 31 0] []
 (.block 0 (.loop (sr [bS 32 .lss 31 30] []
 (.seq (.cond (.s 32)
 .skip
 (.exit 0))
 (.seq (.block 1 (sr [mv 33 31,
 ia 34 3 29 31,
 lS 35 3 34,
 o0 13 (.new 55 [(.int .i64 0),(.int .i64 0),(.bool false)]),
 mv 12 33,
 sT 3 13 35] [33,34,35]
 (.seq (sr [mv 36 0,
 nk 37 36,
 fa 38 0 37,
 fa 39 3 38,
 lo 40 39,
 bI 41 .neq 40 0] [36,37,38,39,40]
 (cR 41))
 (sr [mv 43 5,
 mv 44 12,
 lS 45 3 13,
 o0 46 (.callv (.s 43) [(.s 44),(.s 45)]),
 mv 42 46,
 xt 47 42 0,
 xt 48 42 1,
 mv 14 47,
 mv 15 48] [43,44,45,46,42,47,48]
 (.reg [mv 49 0,
 mv 50 1,
 mv 51 12,
 mv 52 14,
 mv 53 15,
 o0 54 (.call 92 [(.s 49),(.s 50),(.s 51),(.s 52),(.s 53)])] [49,50,51,52,53,54])))))
 (.reg [bI 55 .add 31 1,
 mv 31 55] [55]))))))))⟩
theorem Ov:ax Tryz.prog 81=some NU:=by kernel_rfl
abbrev Mz:FuncId:=81
def Hi:aN :=
⟨7,1,[.tmp 2],
 (sr [o0 1 (.box 59 2 (.s 0)),
 mI 2 0] []
 (.seq (sr [fa 3 0 1,
 lo 4 3,
 c1 5 119 4,
 uN 6 5] [3,4,5]
 (.cond (.s 6)
 (sr [mI 2 12] []
 .ret)
 .skip))
 (sr [mI 2 0] []
 .ret)))⟩
theorem PD:ax Tryz.prog 86=some Hi:=by kernel_rfl
abbrev QZ:FuncId:=86
def NR:aN :=
⟨56,6,[],
 (.seq (sr [mv 16 2,
 ln 17 16,
 mv 18 4,
 bS 19 .add 17 18,
 mv 20 3,
 bS 21 .gtr 19 20] [16,17,18,19,20]
 (.cond (.s 21)
 (.reg [mv 22 0,
 mv 23 1,
 mv 24 3,
 mv 25 4,
 bS 26 .sub 24 25,
 o0 27 (.mnx true (iC 0) (.s 26)),
 o0 28 (.call 92 [(.s 22),(.s 23),(.s 27),(iC 0),(iC 6)])] [22,23,24,25,26,27,28])
 .skip))
 (sr [mv 29 2,
 ln 30 29,
 mI 31 0] []
 (.block 0 (.loop (sr [bS 32 .lss 31 30] []
 (.seq (.cond (.s 32)
 .skip
 (.exit 0))
 (.seq (.block 1 (.seq (.reg [mv 33 31,
 ia 34 3 29 31,
 lS 35 3 34,
 o0 13 (.new 68 [(.str []),(.int .i64 0),(.int .i64 0)]),
 mv 12 33,
 sT 3 13 35] [33,34,35])
 (.seq (sr [mv 36 0,
 nk 37 36,
 fa 38 0 37,
 fa 39 3 38,
 lo 40 39,
 bI 41 .neq 40 0] [36,37,38,39,40]
 (cR 41))
 (sr [mv 43 5,
 mv 44 12,
 lS 45 3 13,
 o0 46 (.callv (.s 43) [(.s 44),(.s 45)]),
 mv 42 46,
 xt 47 42 0,
 xt 48 42 1,
 mv 14 47,
 mv 15 48] [43,44,45,46,42,47,48]
 (.reg [mv 49 0,
 mv 50 1,
 mv 51 12,
 mv 52 14,
 mv 53 15,
 o0 54 (.call 92 [(.s 49),(.s 50),(.s 51),(.s 52),(.s 53)])] [49,50,51,52,53,54])))))
 (.reg [bI 55 .add 31 1,
 mv 31 55] [55]))))))))⟩
theorem Ot:ax Tryz.prog 88=some NR:=by kernel_rfl
abbrev Mx:FuncId:=88
def xr:aN :=
⟨28,5,[],
 (sr [mv 10 0,
 nk 11 10,
 fa 12 0 11,
 fa 13 3 12,
 lo 14 13,
 bI 15 .eql 14 0,
 mv 16 15,
 mt 17 4 16,
 ot 18 16 (.bin .neq (.s 17) (iC 0)),
 pF 19 16 18] [10,11,12,13,14,15,16,17,18]
 (.cond (.s 19)
 (.reg [mv 20 0,
 mv 21 1,
 mv 22 2,
 mv 23 3,
 mv 24 4,
 o0 25 (.build [(.int .i64 0),(.int .i64 0),(.int .i64 0),(.int .i64 0)] [(0,1,(.s 21)),(1,1,(.s 22)),(2,1,(.s 23)),(3,1,(.s 24))]),
 nk 26 20,
 fa 27 0 26,
 sT 4 27 25] [20,21,22,23,24,25,26,27])
 .skip))⟩
theorem OV:ax Tryz.prog 92=some xr:=by kernel_rfl
abbrev Je:FuncId:=92
def NY:aN :=
⟨56,6,[],
 (.seq (sr [mv 16 2,
 ln 17 16,
 mv 18 4,
 bS 19 .add 17 18,
 mv 20 3,
 bS 21 .gtr 19 20] [16,17,18,19,20]
 (.cond (.s 21)
 (.reg [mv 22 0,
 mv 23 1,
 mv 24 3,
 mv 25 4,
 bS 26 .sub 24 25,
 o0 27 (.mnx true (iC 0) (.s 26)),
 o0 28 (.call 92 [(.s 22),(.s 23),(.s 27),(iC 0),(iC 6)])] [22,23,24,25,26,27,28])
 .skip))
 (sr [mv 29 2,
 ln 30 29,
 mI 31 0] []
 (.block 0 (.loop (sr [bS 32 .lss 31 30] []
 (.seq (.cond (.s 32)
 .skip
 (.exit 0))
 (.seq (.block 1 (sr [mv 33 31,
 ia 34 4 29 31,
 lS 35 4 34,
 o0 13 (.new 73 [(.int .i64 0),(.int .i64 0),.nl,.nl]),
 mv 12 33,
 sT 4 13 35] [33,34,35]
 (.seq (sr [mv 36 0,
 nk 37 36,
 fa 38 0 37,
 fa 39 3 38,
 lo 40 39,
 bI 41 .neq 40 0] [36,37,38,39,40]
 (cR 41))
 (sr [mv 43 5,
 mv 44 12,
 lS 45 4 13,
 o0 46 (.callv (.s 43) [(.s 44),(.s 45)]),
 mv 42 46,
 xt 47 42 0,
 xt 48 42 1,
 mv 14 47,
 mv 15 48] [43,44,45,46,42,47,48]
 (.reg [mv 49 0,
 mv 50 1,
 mv 51 12,
 mv 52 14,
 mv 53 15,
 o0 54 (.call 92 [(.s 49),(.s 50),(.s 51),(.s 52),(.s 53)])] [49,50,51,52,53,54])))))
 (.reg [bI 55 .add 31 1,
 mv 31 55] [55]))))))))⟩
theorem ON:ax Tryz.prog 96=some NY:=by kernel_rfl
abbrev MB:FuncId:=96
def NQ:aN :=
⟨56,6,[],
 (.seq (sr [mv 16 2,
 ln 17 16,
 mv 18 4,
 bS 19 .add 17 18,
 mv 20 3,
 bS 21 .gtr 19 20] [16,17,18,19,20]
 (.cond (.s 21)
 (.reg [mv 22 0,
 mv 23 1,
 mv 24 3,
 mv 25 4,
 bS 26 .sub 24 25,
 o0 27 (.mnx true (iC 0) (.s 26)),
 o0 28 (.call 92 [(.s 22),(.s 23),(.s 27),(iC 0),(iC 6)])] [22,23,24,25,26,27,28])
 .skip))
 (sr [mv 29 2,
 ln 30 29,
 mI 31 0] []
 (.block 0 (.loop (sr [bS 32 .lss 31 30] []
 (.seq (.cond (.s 32)
 .skip
 (.exit 0))
 (.seq (.block 1 (.seq (.reg [mv 33 31,
 ia 34 3 29 31,
 lS 35 3 34,
 o0 13 (.new 75 [(.int .i64 0),(.str []),.nl]),
 mv 12 33,
 sT 3 13 35] [33,34,35])
 (.seq (sr [mv 36 0,
 nk 37 36,
 fa 38 0 37,
 fa 39 3 38,
 lo 40 39,
 bI 41 .neq 40 0] [36,37,38,39,40]
 (cR 41))
 (sr [mv 43 5,
 mv 44 12,
 lS 45 3 13,
 o0 46 (.callv (.s 43) [(.s 44),(.s 45)]),
 mv 42 46,
 xt 47 42 0,
 xt 48 42 1,
 mv 14 47,
 mv 15 48] [43,44,45,46,42,47,48]
 (.reg [mv 49 0,
 mv 50 1,
 mv 51 12,
 mv 52 14,
 mv 53 15,
 o0 54 (.call 92 [(.s 49),(.s 50),(.s 51),(.s 52),(.s 53)])] [49,50,51,52,53,54])))))
 (.reg [bI 55 .add 31 1,
 mv 31 55] [55]))))))))⟩
theorem Or:ax Tryz.prog 99=some NQ:=by kernel_rfl
abbrev Mv:FuncId:=99
def Hf:aN :=
⟨12,1,[.cell 2 (some 9)],
 (sr [o0 1 (.box 83 9 (.s 0)),
 o0 2 (.new 83 [(.int .i64 0),(.int .i64 0),(.int .i64 0),(.int .u64 0),(.int .i64 0),(.int .i64 0),(.int .i64 0),.nl,.nl])] []
 (.seq (.seq (.draw [⟨fa 3 7 1,[]⟩,
 ⟨lo 4 3,[0]⟩,
 ⟨c1 5 19 4,[1,0]⟩,
 ⟨fa 6 8 1,[]⟩,
 ⟨lo 7 6,[3]⟩] [(5,2)] [])
 (.seq (.draw [⟨c1 8 107 7,[]⟩,
 ⟨fa 9 7 1,[]⟩] [(8,0)] [])
 (sr [sT 1 9 5] []
 (sr [fa 10 8 1] []
 (.reg [sT 1 10 8] [3,4,5,6,7,8,9,10])))))
 (sr [lS 11 9 1,
 sT 9 2 11] [11]
 .ret)))⟩
theorem PA:ax Tryz.prog 106=some Hf:=by kernel_rfl
abbrev Jn:FuncId:=106
def Hl:aN :=
⟨52,2,[.tmp 4],
 (sr [o0 2 (.box 83 9 (.s 0)),
 o0 3 (.box 83 9 (.s 1)),
 mB 4 false] []
 (sr [fa 5 0 2,
 lo 6 5,
 fa 7 0 3,
 lo 8 7,
 bS 9 .eql 6 8,
 mv 10 9,
 ot 11 10 (fd 1 2),
 ot 12 10 (ld 11),
 ot 13 10 (fd 1 3),
 ot 14 10 (ld 13),
 ot 15 10 (.bin .eql (.s 12) (.s 14)),
 pF 16 10 15,
 mv 17 16,
 ot 18 17 (fd 2 2),
 ot 19 17 (ld 18),
 ot 20 17 (fd 2 3),
 ot 21 17 (ld 20),
 ot 22 17 (.bin .eql (.s 19) (.s 21)),
 pF 23 17 22,
 mv 24 23,
 ot 25 24 (fd 3 2),
 ot 26 24 (ld 25),
 ot 27 24 (fd 3 3),
 ot 28 24 (ld 27),
 ot 29 24 (.bin .eql (.s 26) (.s 28)),
 pF 30 24 29,
 mv 31 30,
 ot 32 31 (fd 4 2),
 ot 33 31 (.load (some 3) (.s 32)),
 ot 34 31 (fd 4 3),
 ot 35 31 (.load (some 3) (.s 34)),
 ot 36 31 (.sbin .eql [.i,.i,.i] (.s 33) (.s 35)),
 pF 37 31 36,
 mv 38 37,
 ot 39 38 (fd 7 2),
 ot 40 38 (ld 39),
 ot 41 38 (fd 7 3),
 ot 42 38 (ld 41),
 ot 43 38 (.call 122 [(.s 40),(.s 42)]),
 pF 44 38 43,
 mv 45 44,
 ot 46 45 (fd 8 2),
 ot 47 45 (ld 46),
 ot 48 45 (fd 8 3),
 ot 49 45 (ld 48),
 ot 50 45 (.call 123 [(.s 47),(.s 49)]),
 pF 51 45 50,
 mv 4 51] [5,6,7,8,9,10,11,12,13,14,15,16,17,18,19,20,21,22,23,24,25,26,27,28,29,30,31,32,33,34,35,36,37,38,39,40,41,42,43,44,45,46,47,48,49,50,51]
 .ret))⟩
theorem PG:ax Tryz.prog 113=some Hl:=by kernel_rfl
abbrev Jo:FuncId:=113
def xq:aN :=
⟨9,1,[.tmp 2],
 (sr [mB 2 false] []
 (sr [mv 3 0,
 c1 4 127 3,
 mv 5 4,
 mf 6 0 5,
 oF 7 5 (.call 117 [(.s 6)]),
 pT 8 5 7,
 mv 2 8] [3,4,5,6,7,8]
 .ret))⟩
theorem Lh:ax Tryz.prog 119=some xq:=by kernel_rfl
abbrev Mp:FuncId:=119
def G4:aN :=
⟨143,1,[.tmp 2],
 (sr [o0 1 (.box 83 9 (.s 0)),
 mB 2 false] []
 (sr [fa 9 0 1,
 lo 10 9,
 c1 11 128 10,
 mv 3 11] [9,10,11]
 (sr [mv 13 3,
 c1 14 129 13,
 mv 12 14,
 xt 15 12 0,
 xt 16 12 1,
 xt 17 12 2,
 mv 4 15,
 mv 5 16,
 mv 6 17] [13,14,12,15,16,17]
 (.seq (sr [fa 18 0 1,
 lo 19 18,
 c1 20 130 19,
 uN 21 20,
 mv 22 21,
 mf 23 4 22,
 oF 24 22 (.un .not (.s 23)),
 mf 25 24 22,
 ot 26 25 (fd 1 1),
 ot 27 25 (ld 26),
 ot 28 25 (.bin .neq (.s 27) (iC 0)),
 oF 29 22 (.pick (.s 25) (.s 28) (bC false)),
 pT 30 22 29,
 mv 31 30,
 mf 32 5 31,
 oF 33 31 (.un .not (.s 32)),
 mf 34 33 31,
 ot 35 34 (fd 2 1),
 ot 36 34 (ld 35),
 ot 37 34 (.bin .neq (.s 36) (iC 0)),
 oF 38 31 (.pick (.s 34) (.s 37) (bC false)),
 pT 39 31 38,
 mv 40 39,
 mf 41 6 40,
 oF 42 40 (.un .not (.s 41)),
 mf 43 42 40,
 ot 44 43 (fd 3 1),
 ot 45 43 (ld 44),
 ot 46 43 (.bin .neq (.s 45) (.c (.int .u64 0))),
 oF 47 40 (.pick (.s 43) (.s 46) (bC false)),
 pT 48 40 47,
 mv 49 48,
 oF 50 49 (fd 1 1),
 oF 51 49 (ld 50),
 oF 52 49 (.call 131 [(.s 51)]),
 oF 53 49 (.un .not (.s 52)),
 pT 54 49 53,
 mv 55 54,
 oF 56 55 (fd 2 1),
 oF 57 55 (ld 56),
 oF 58 55 (.call 131 [(.s 57)]),
 oF 59 55 (.un .not (.s 58)),
 pT 60 55 59] [18,19,20,21,22,23,24,25,26,27,28,29,30,31,32,33,34,35,36,37,38,39,40,41,42,43,44,45,46,47,48,49,50,51,52,53,54,55,56,57,58,59]
 (.cond (.s 60)
 (sr [mB 2 false] []
 .ret)
 .skip))
 (.seq (sr [mv 61 3,
 bI 62 .neq 61 19,
 mv 63 62,
 ot 64 63 (fd 3 1),
 ot 65 63 (ld 64),
 ot 66 63 (.bin .geq (.s 65) (.c (.int .u64 4294967296))),
 pF 67 63 66,
 mv 68 67,
 mf 69 3 68,
 oF 70 68 (.bin .neq (.s 69) (iC 1)),
 mf 71 70 68,
 ot 72 71 (fd 4 1),
 ot 73 71 (.load (some 3) (.s 72)),
 ot 74 71 (.build [(.int .i64 0),(.int .i64 0),(.int .i64 0)] []),
 ot 75 71 (.sbin .neq [.i,.i,.i] (.s 73) (.s 74)),
 oF 76 68 (.pick (.s 71) (.s 75) (bC false)),
 pT 77 68 76,
 mv 78 77,
 mf 79 3 78,
 oF 80 78 (.bin .neq (.s 79) (iC 6)),
 mf 81 80 78,
 ot 82 81 (fd 7 1),
 ot 83 81 (ld 82),
 ot 84 81 (.len (.s 83)),
 ot 85 81 (.bin .gtr (.s 84) (iC 0)),
 oF 86 78 (.pick (.s 81) (.s 85) (bC false)),
 pT 87 78 86,
 mv 88 87,
 mf 89 3 88,
 oF 90 88 (.bin .neq (.s 89) (iC 3)),
 mf 91 90 88,
 ot 92 91 (fd 8 1),
 ot 93 91 (ld 92),
 ot 94 91 (.len (.s 93)),
 ot 95 91 (.bin .gtr (.s 94) (iC 0)),
 oF 96 88 (.pick (.s 91) (.s 95) (bC false)),
 pT 97 88 96] [61,62,63,64,65,66,67,68,69,70,71,72,73,74,75,76,77,78,79,80,81,82,83,84,85,86,87,88,89,90,91,92,93,94,95,96]
 (.cond (.s 97)
 (sr [mB 2 false] []
 .ret)
 .skip))
 (.seq (sr [mv 98 3] []
 (.block 0 (sr [bI 100 .eql 98 1,
 mv 99 100] [100]
 (.cond (.s 99)
 (sr [fa 101 4 1,
 lS 102 3 101,
 c1 103 132 102,
 mv 2 103] [101,102,103]
 .ret)
 (sr [bI 105 .eql 98 6,
 mv 104 105] [105]
 (.cond (.s 104)
 (sr [fa 106 7 1,
 lo 107 106,
 ln 108 107,
 bI 109 .eql 108 1,
 mv 110 109,
 ot 111 110 (fd 7 1),
 ot 112 110 (ld 111),
 ot 113 110 (.iadr 1 (.s 112) (iC 0)),
 ot 114 110 (ld 113),
 ot 115 110 (.call 133 [(.s 114)]),
 pF 116 110 115,
 mv 2 116] [106,107,108,109,110,111,112,113,114,115,116]
 .ret)
 (sr [bI 118 .eql 98 17,
 mv 117 118] [118]
 (.cond (.s 117)
 (sr [fa 119 1 1,
 lo 120 119,
 bI 121 .leq 120 63,
 mv 2 121] [119,120,121]
 .ret)
 (sr [bI 123 .eql 98 20,
 mv 122 123] [123]
 (.cond (.s 122)
 (sr [fa 124 1 1,
 lo 125 124,
 bI 126 .eql 125 3,
 mv 127 126,
 oF 128 127 (fd 1 1),
 oF 129 127 (ld 128),
 oF 130 127 (.bin .eql (.s 129) (iC 4)),
 pT 131 127 130,
 mv 2 131] [124,125,126,127,128,129,130,131]
 .ret)
 .skip))))))))))
 (.seq (sr [fa 132 8 1,
 lo 133 132,
 ln 134 133,
 mI 135 0] [132]
 (.block 1 (.loop (sr [bS 136 .lss 135 134] []
 (.seq (.cond (.s 136)
 .skip
 (.exit 1))
 (.seq (.block 2 (sr [ia 137 1 133 135,
 lo 138 137,
 mv 8 138] [137,138]
 (sr [mv 139 8,
 c1 140 131 139,
 uN 141 140] [139,140]
 (.cond (.s 141)
 (sr [mB 2 false] []
 .ret)
 .skip))))
 (.reg [bI 142 .add 135 1,
 mv 135 142] [142])))))))
 (sr [mB 2 true] []
 .ret))))))))⟩
theorem Pf:ax Tryz.prog 120=some G4:=by kernel_rfl
abbrev oB:FuncId:=120
def gu:aN :=
⟨29,1,[.tmp 2,.tmp 3,.tmp 4],
 (sr [mB 2 false,
 mB 3 false,
 mB 4 false] []
 (.seq (sr [mv 5 0] []
 (.block 0 (.seq (sr [bI 7 .eql 5 2,
 mv 6 7] [7]
 (.cond (.s 6)
 .skip
 (sr [bI 8 .eql 5 3,
 mv 6 8] [8]
 (.cond (.s 6)
 .skip
 (sr [bI 9 .eql 5 4,
 mv 6 9] [9]
 (.cond (.s 6)
 .skip
 (sr [bI 10 .eql 5 7,
 mv 6 10] [10]
 (.cond (.s 6)
 .skip
 (sr [bI 11 .eql 5 8,
 mv 6 11] [11]
 (.cond (.s 6)
 .skip
 (sr [bI 12 .eql 5 9,
 mv 6 12] [12]
 (.cond (.s 6)
 .skip
 (sr [bI 13 .eql 5 12,
 mv 6 13] [13]
 (.cond (.s 6)
 .skip
 (sr [bI 14 .eql 5 16,
 mv 6 14] [14]
 (.cond (.s 6)
 .skip
 (.reg [bI 15 .eql 5 20,
 mv 6 15] [15])))))))))))))))))
 (.cond (.s 6)
 (sr [mB 2 true,
 mB 3 false,
 mB 4 false] []
 .ret)
 (.seq (sr [bI 17 .eql 5 5,
 mv 16 17] [17]
 (.cond (.s 16)
 .skip
 (sr [bI 18 .eql 5 10,
 mv 16 18] [18]
 (.cond (.s 16)
 .skip
 (sr [bI 19 .eql 5 11,
 mv 16 19] [19]
 (.cond (.s 16)
 .skip
 (sr [bI 20 .eql 5 14,
 mv 16 20] [20]
 (.cond (.s 16)
 .skip
 (.reg [bI 21 .eql 5 15,
 mv 16 21] [21])))))))))
 (.cond (.s 16)
 (sr [mB 2 true,
 mB 3 true,
 mB 4 false] []
 .ret)
 (sr [bI 23 .eql 5 13,
 mv 22 23] [23]
 (.cond (.s 22)
 (sr [mB 2 false,
 mB 3 true,
 mB 4 false] []
 .ret)
 (sr [bI 25 .eql 5 17,
 mv 24 25] [25]
 (.cond (.s 24)
 (sr [mB 2 true,
 mB 3 true,
 mB 4 true] []
 .ret)
 (.seq (sr [bI 27 .eql 5 18,
 mv 26 27] [27]
 (.cond (.s 26)
 .skip
 (.reg [bI 28 .eql 5 19,
 mv 26 28] [28])))
 (.cond (.s 26)
 (sr [mB 2 false,
 mB 3 false,
 mB 4 true] []
 .ret)
 .skip))))))))))))
 (sr [mB 2 false,
 mB 3 false,
 mB 4 false] []
 .ret)))⟩
theorem PI:ax Tryz.prog 129=some gu:=by kernel_rfl
abbrev Q2:FuncId:=129
def tK:aN :=
⟨9,1,[.tmp 2],
 (sr [mB 2 false] []
 (sr [mv 3 0,
 bI 4 .geq 3 1,
 mv 5 4,
 mt 6 0 5,
 ot 7 5 (.bin .leq (.s 6) (iC 4)),
 pF 8 5 7,
 mv 2 8] [3,4,5,6,7,8]
 .ret))⟩
theorem K1:ax Tryz.prog 133=some tK:=by kernel_rfl
abbrev Mf:FuncId:=133
def N2:aN :=
⟨19,2,[.tmp 4],
 (sr [mI 4 0] []
 (.seq (sr [mv 6 0,
 ln 7 6,
 mI 8 0] [6]
 (.block 0 (.loop (sr [bS 9 .lss 8 7] []
 (.seq (.cond (.s 9)
 .skip
 (.exit 0))
 (.seq (.block 1 (sr [mv 10 8,
 mv 5 10] [10]
 (sr [mv 11 1,
 mv 12 0,
 mv 13 5,
 ia 14 1 12 13,
 lo 15 14,
 o0 16 (.callv (.s 11) [(.s 15)])] [11,12,13,14,15]
 (.cond (.s 16)
 (sr [mv 17 5,
 mv 4 17] [17]
 .ret)
 .skip))))
 (.reg [bI 18 .add 8 1,
 mv 8 18] [18])))))))
 (sr [mI 4 (-1)] []
 .ret)))⟩
theorem R2:ax Tryz.prog 134=some N2:=by kernel_rfl
abbrev RP:FuncId:=134
def G5:aN :=
⟨31,1,[.tmp 2],
 (sr [mI 2 0] []
 (.seq (sr [mv 6 0,
 c1 7 139 6,
 uN 8 7] [6,7]
 (.cond (.s 8)
 (sr [mI 2 0] []
 .ret)
 .skip))
 (sr [mv 9 0,
 c1 10 138 9,
 mv 3 10] [9,10]
 (.seq (.seq (.reg [o0 11 (.bsl 3 1 [[(.int .i64 0)],[(.int .i64 0)],[(.int .i64 0)]] [(0,(iC 8)),(1,(iC 16)),(2,(iC 32))]),
 ln 12 11,
 mI 13 0] [])
 (.block 0 (.loop (sr [bS 14 .lss 13 12] []
 (.seq (.cond (.s 14)
 .skip
 (.exit 0))
 (.seq (.block 1 (sr [ia 15 1 11 13,
 lo 16 15,
 mv 5 16] [15,16]
 (.seq (.seq (.draw [⟨mv 17 3,[]⟩,
 ⟨o0 18 (.sslc (.s 17) (some (iC 4)) none),[0]⟩,
 ⟨o0 19 (.bsl 9 1 [[(.str [])],[(.str [])],[(.str [])]] [(0,(.c (.str [56]))),(1,(.c (.str [49,54]))),(2,(.c (.str [51,50])))]),[]⟩,
 ⟨mv 20 5,[]⟩,
 ⟨bI 21 .quo 20 16,[3]⟩,
 ⟨ia 22 1 19 21,[2,4,3]⟩,
 ⟨lo 23 22,[5,2,4,3]⟩] [(19,2)] [])
 (.reg [c2 24 140 18 23] [17,18,19,20,21,22,23]))
 (.cond (.s 24)
 (sr [mv 25 5,
 bI 26 .quo 25 8,
 mv 2 26] [25,26]
 .ret)
 .skip))))
 (.reg [bI 27 .add 13 1,
 mv 13 27] [27])))))))
 (.seq (sr [mv 28 3,
 o0 29 (.sslc (.s 28) none (some (iC 3))),
 o0 30 (.bin .eql (.s 29) (.c (.str [105,51,50])))] [28,29]
 (.cond (.s 30)
 (sr [mI 2 4] []
 .ret)
 .skip))
 (sr [mI 2 8] []
 .ret))))))⟩
theorem Pg:ax Tryz.prog 136=some G5:=by kernel_rfl
abbrev QR:FuncId:=136
def iR:aN :=
⟨26,1,[.tmp 2],
 (sr [mI 2 0] []
 (.seq (sr [mv 3 0] []
 (.block 0 (.seq (sr [bI 5 .eql 3 37,
 mv 4 5] [5]
 (.cond (.s 4)
 .skip
 (sr [bI 6 .eql 3 38,
 mv 4 6] [6]
 (.cond (.s 4)
 .skip
 (sr [bI 7 .eql 3 64528,
 mv 4 7] [7]
 (.cond (.s 4)
 .skip
 (sr [bI 8 .eql 3 64527,
 mv 4 8] [8]
 (.cond (.s 4)
 .skip
 (.reg [bI 9 .eql 3 64529,
 mv 4 9] [9])))))))))
 (.cond (.s 4)
 (sr [mI 2 9] []
 .ret)
 (sr [bI 11 .eql 3 64526,
 mv 10 11] [11]
 (.cond (.s 10)
 (sr [mI 2 10] []
 .ret)
 (sr [bI 13 .eql 3 64524,
 mv 12 13] [13]
 (.cond (.s 12)
 (sr [mI 2 11] []
 .ret)
 (sr [bI 15 .eql 3 64525,
 mv 14 15] [15]
 (.cond (.s 14)
 (sr [mI 2 12] []
 .ret)
 (.seq (sr [bI 17 .eql 3 63,
 mv 16 17] [17]
 (.cond (.s 16)
 .skip
 (sr [bI 18 .eql 3 64,
 mv 16 18] [18]
 (.cond (.s 16)
 .skip
 (.reg [bI 19 .eql 3 64523,
 mv 16 19] [19])))))
 (.cond (.s 16)
 (sr [mI 2 13] []
 .ret)
 (sr [bI 21 .eql 3 64522,
 mv 20 21] [21]
 (.cond (.s 20)
 (sr [mI 2 14] []
 .ret)
 (sr [bI 23 .eql 3 64520,
 mv 22 23] [23]
 (.cond (.s 22)
 (sr [mI 2 15] []
 .ret)
 (sr [bI 25 .eql 3 64521,
 mv 24 25] [25]
 (.cond (.s 24)
 (sr [mI 2 16] []
 .ret)
 .skip))))))))))))))))))
 (sr [mI 2 0] []
 .ret)))⟩
theorem Pc:ax Tryz.prog 137=some iR:=by kernel_rfl
abbrev QO:FuncId:=137
abbrev kV:FuncId:=145
theorem aq:Tryz.prog.follows .mixedOrders=true:=by kernel_rfl
end Go.Proofs.YteephfapgoncgaaGreatDoor