import Derived.Test.YtdfofedlbljnhaaGreatDoorQi
set_option linter.all false
set_option maxRecDepth 100000
set_option maxHeartbeats 4000000
namespace Go.Proofs.YtdfofedlbljnhaaGreatDoor
open Go Go.Mw
def FX1:az :=
⟨169,1,[.tmp 2],
 (.seq (.reg [o0 2 (.mov (.c (.bool false)))] [])
 (.seq (.block 0 (.loop (.seq (.seq (.reg [mv 7 0,
 o0 8 (.slen (.s 7)),
 o0 9 (.bin .gtr (.s 8) (.c (.int .i64 0)))] [7,8])
 (.cond (.s 9)
 .skip
 (.exit 0)))
 (.block 1 (.seq (.reg [mv 10 0,
 o0 11 (.sidx (.s 10) (.c (.int .i64 0))),
 mv 3 11] [10,11])
 (.seq (.seq (.reg [mv 12 3,
 o0 13 (.bin .lss (.s 12) (.c (.int .u8 128)))] [12])
 (.cond (.s 13)
 (.seq (.reg [mv 14 0,
 o0 15 (.sslc (.s 14) (some (.c (.int .i64 1))) none),
 mv 0 15] [14,15])
 (.seq (.seq (.reg [mv 16 0,
 o0 17 (.slen (.s 16)),
 o0 18 (.bin .gtr (.s 17) (.c (.int .i64 8))),
 mv 19 18,
 mt 20 0 19,
 ot 21 19 (.call 273 [(.s 20)]),
 ot 22 19 (.bin .and (.s 21) (.c (.int .u64 9259542123273814144))),
 ot 23 19 (.bin .eql (.s 22) (.c (.int .u64 0))),
 o0 24 (.pick (.s 19) (.s 23) (.c (.bool false)))] [16,17,18,19,20,21,22,23])
 (.cond (.s 24)
 (.seq (.reg [mv 25 0,
 o0 26 (.sslc (.s 25) (some (.c (.int .i64 8))) none),
 mv 0 26] [25,26])
 (.seq (.seq (.reg [mv 27 0] [])
 (.seq (.reg [o0 28 (.slen (.s 27))] [])
 (.seq (.reg [o0 29 (.bin .gtr (.s 28) (.c (.int .i64 16)))] [])
 (.seq (.reg [mv 30 29] [])
 (.seq (.draw [⟨mt 31 0 30,[]⟩,
 ⟨ot 32 30 (.call 273 [(.s 31)]),[0]⟩,
 ⟨mt 33 0 30,[]⟩,
 ⟨ot 34 30 (.sslc (.s 33) (some (.c (.int .i64 8))) none),[2]⟩] [] [])
 (.seq (.reg [ot 35 30 (.call 273 [(.s 34)])] [])
 (.seq (.reg [ot 36 30 (.bin .or (.s 32) (.s 35))] [])
 (.seq (.reg [ot 37 30 (.bin .and (.s 36) (.c (.int .u64 9259542123273814144)))] [])
 (.seq (.reg [ot 38 30 (.bin .eql (.s 37) (.c (.int .u64 0)))] [])
 (.reg [o0 39 (.pick (.s 30) (.s 38) (.c (.bool false)))] [27,28,29,30,31,32,33,34,35,36,37,38]))))))))))
 (.cond (.s 39)
 (.seq (.reg [mv 40 0,
 o0 41 (.sslc (.s 40) (some (.c (.int .i64 16))) none),
 mv 0 41] [40,41])
 (.block 2 (.loop (.seq (.seq (.seq (.reg [mv 42 0] [])
 (.seq (.reg [o0 43 (.slen (.s 42))] [])
 (.seq (.reg [o0 44 (.bin .gtr (.s 43) (.c (.int .i64 32)))] [])
 (.seq (.reg [mv 45 44] [])
 (.seq (.draw [⟨mt 46 0 45,[]⟩,
 ⟨ot 47 45 (.call 273 [(.s 46)]),[0]⟩,
 ⟨mt 48 0 45,[]⟩,
 ⟨ot 49 45 (.sslc (.s 48) (some (.c (.int .i64 8))) none),[2]⟩,
 ⟨ot 50 45 (.call 273 [(.s 49)]),[3,2,1,0]⟩,
 ⟨ot 51 45 (.bin .or (.s 47) (.s 50)),[1,0,4,3,2]⟩,
 ⟨mt 52 0 45,[]⟩,
 ⟨ot 53 45 (.sslc (.s 52) (some (.c (.int .i64 16))) none),[6]⟩,
 ⟨ot 54 45 (.call 273 [(.s 53)]),[7,6,4,3,2,1,0]⟩,
 ⟨mt 55 0 45,[]⟩,
 ⟨ot 56 45 (.sslc (.s 55) (some (.c (.int .i64 24))) none),[9]⟩,
 ⟨ot 57 45 (.call 273 [(.s 56)]),[10,9,8,7,6,4,3,2,1,0]⟩,
 ⟨ot 58 45 (.bin .or (.s 54) (.s 57)),[8,7,6,4,3,2,1,0,11,10,9]⟩] [] [])
 (.seq (.reg [ot 59 45 (.bin .or (.s 51) (.s 58))] [])
 (.seq (.reg [ot 60 45 (.bin .and (.s 59) (.c (.int .u64 9259542123273814144)))] [])
 (.seq (.reg [ot 61 45 (.bin .eql (.s 60) (.c (.int .u64 0)))] [])
 (.reg [o0 62 (.pick (.s 45) (.s 61) (.c (.bool false)))] [42,43,44,45,46,47,48,49,50,51,52,53,54,55,56,57,58,59,60,61])))))))))
 (.cond (.s 62)
 .skip
 (.exit 2)))
 (.block 3 (.reg [mv 63 0,
 o0 64 (.sslc (.s 63) (some (.c (.int .i64 32))) none),
 mv 0 64] [63,64]))))))
 .skip)))
 .skip))
 (.exit 1)))
 .skip))
 (.seq (.reg [mv 65 3,
 o0 66 (.aadr 1 256 (.s 1000000) (.s 65)),
 o0 67 (.load none (.s 66)),
 mv 4 67] [65,66,67])
 (.seq (.reg [mv 68 4,
 o0 69 (.bin .and (.s 68) (.c (.int .u8 7))),
 o0 70 (.cvi .i64 (.s 69)),
 mv 5 70] [68,69,70])
 (.seq (.reg [mv 71 4,
 o0 72 (.bin .shr (.s 71) (.c (.int .u64 4))),
 o0 73 (.aadr 2 16 (.s 1000001) (.s 72)),
 o0 74 (.load (some 2) (.s 73)),
 o0 6 (.new 327 [(.int .u8 0),(.int .u8 0)]),
 ⟨none,.store 2 (.s 6) (.s 74),none⟩] [71,72,73,74])
 (.seq (.reg [mv 75 5] [])
 (.block 4 (.seq (.reg [o0 77 (.bin .eql (.s 75) (.c (.int .i64 2))),
 mv 76 77] [77])
 (.cond (.s 76)
 (.seq (.seq (.seq (.reg [mv 78 0] [])
 (.seq (.reg [o0 79 (.slen (.s 78))] [])
 (.seq (.reg [o0 80 (.bin .lss (.s 79) (.c (.int .i64 2)))] [])
 (.seq (.reg [mv 81 80] [])
 (.seq (.draw [⟨mf 82 0 81,[]⟩,
 ⟨oF 83 81 (.sidx (.s 82) (.c (.int .i64 1))),[0]⟩,
 ⟨oF 84 81 (.fadr 0 (.s 6)),[]⟩,
 ⟨oF 85 81 (.load none (.s 84)),[2]⟩] [] [])
 (.seq (.reg [oF 86 81 (.bin .lss (.s 83) (.s 85))] [])
 (.seq (.reg [o0 87 (.pick (.s 81) (.c (.bool true)) (.s 86))] [])
 (.seq (.reg [mv 88 87] [])
 (.seq (.draw [⟨oF 89 88 (.fadr 1 (.s 6)),[]⟩,
 ⟨oF 90 88 (.load none (.s 89)),[0]⟩,
 ⟨mf 91 0 88,[]⟩,
 ⟨oF 92 88 (.sidx (.s 91) (.c (.int .i64 1))),[2]⟩] [] [])
 (.seq (.reg [oF 93 88 (.bin .lss (.s 90) (.s 92))] [])
 (.reg [o0 94 (.pick (.s 88) (.c (.bool true)) (.s 93))] [78,79,80,81,82,83,84,85,86,87,88,89,90,91,92,93])))))))))))
 (.cond (.s 94)
 (.seq (.reg [o0 2 (.mov (.c (.bool false)))] [])
 .ret)
 .skip))
 (.reg [mv 95 0,
 o0 96 (.sslc (.s 95) (some (.c (.int .i64 2))) none),
 mv 0 96] [95,96]))
 (.seq (.reg [o0 98 (.bin .eql (.s 75) (.c (.int .i64 3))),
 mv 97 98] [98])
 (.cond (.s 97)
 (.seq (.seq (.seq (.reg [mv 99 0] [])
 (.seq (.reg [o0 100 (.slen (.s 99))] [])
 (.seq (.reg [o0 101 (.bin .lss (.s 100) (.c (.int .i64 3)))] [])
 (.seq (.reg [mv 102 101] [])
 (.seq (.draw [⟨mf 103 0 102,[]⟩,
 ⟨oF 104 102 (.sidx (.s 103) (.c (.int .i64 1))),[0]⟩,
 ⟨oF 105 102 (.fadr 0 (.s 6)),[]⟩,
 ⟨oF 106 102 (.load none (.s 105)),[2]⟩] [] [])
 (.seq (.reg [oF 107 102 (.bin .lss (.s 104) (.s 106))] [])
 (.seq (.reg [o0 108 (.pick (.s 102) (.c (.bool true)) (.s 107))] [])
 (.seq (.reg [mv 109 108] [])
 (.seq (.draw [⟨oF 110 109 (.fadr 1 (.s 6)),[]⟩,
 ⟨oF 111 109 (.load none (.s 110)),[0]⟩,
 ⟨mf 112 0 109,[]⟩,
 ⟨oF 113 109 (.sidx (.s 112) (.c (.int .i64 1))),[2]⟩] [] [])
 (.seq (.reg [oF 114 109 (.bin .lss (.s 111) (.s 113))] [])
 (.seq (.reg [o0 115 (.pick (.s 109) (.c (.bool true)) (.s 114))] [])
 (.seq (.reg [mv 116 115] [])
 (.seq (.reg [mf 117 0 116] [])
 (.seq (.reg [oF 118 116 (.sidx (.s 117) (.c (.int .i64 2)))] [])
 (.seq (.reg [oF 119 116 (.bin .lss (.s 118) (.c (.int .u8 128)))] [])
 (.seq (.reg [o0 120 (.pick (.s 116) (.c (.bool true)) (.s 119))] [])
 (.seq (.reg [mv 121 120] [])
 (.seq (.reg [mf 122 0 121] [])
 (.seq (.reg [oF 123 121 (.sidx (.s 122) (.c (.int .i64 2)))] [])
 (.seq (.reg [oF 124 121 (.bin .lss (.c (.int .u8 191)) (.s 123))] [])
 (.reg [o0 125 (.pick (.s 121) (.c (.bool true)) (.s 124))] [99,100,101,102,103,104,105,106,107,108,109,110,111,112,113,114,115,116,117,118,119,120,121,122,123,124])))))))))))))))))))))
 (.cond (.s 125)
 (.seq (.reg [o0 2 (.mov (.c (.bool false)))] [])
 .ret)
 .skip))
 (.reg [mv 126 0,
 o0 127 (.sslc (.s 126) (some (.c (.int .i64 3))) none),
 mv 0 127] [126,127]))
 (.seq (.reg [o0 129 (.bin .eql (.s 75) (.c (.int .i64 4))),
 mv 128 129] [129])
 (.cond (.s 128)
 (.seq (.seq (.seq (.reg [mv 130 0] [])
 (.seq (.reg [o0 131 (.slen (.s 130))] [])
 (.seq (.reg [o0 132 (.bin .lss (.s 131) (.c (.int .i64 4)))] [])
 (.seq (.reg [mv 133 132] [])
 (.seq (.draw [⟨mf 134 0 133,[]⟩,
 ⟨oF 135 133 (.sidx (.s 134) (.c (.int .i64 1))),[0]⟩,
 ⟨oF 136 133 (.fadr 0 (.s 6)),[]⟩,
 ⟨oF 137 133 (.load none (.s 136)),[2]⟩] [] [])
 (.seq (.reg [oF 138 133 (.bin .lss (.s 135) (.s 137))] [])
 (.seq (.reg [o0 139 (.pick (.s 133) (.c (.bool true)) (.s 138))] [])
 (.seq (.reg [mv 140 139] [])
 (.seq (.draw [⟨oF 141 140 (.fadr 1 (.s 6)),[]⟩,
 ⟨oF 142 140 (.load none (.s 141)),[0]⟩,
 ⟨mf 143 0 140,[]⟩,
 ⟨oF 144 140 (.sidx (.s 143) (.c (.int .i64 1))),[2]⟩] [] [])
 (.seq (.reg [oF 145 140 (.bin .lss (.s 142) (.s 144))] [])
 (.seq (.reg [o0 146 (.pick (.s 140) (.c (.bool true)) (.s 145))] [])
 (.seq (.reg [mv 147 146] [])
 (.seq (.reg [mf 148 0 147] [])
 (.seq (.reg [oF 149 147 (.sidx (.s 148) (.c (.int .i64 2)))] [])
 (.seq (.reg [oF 150 147 (.bin .lss (.s 149) (.c (.int .u8 128)))] [])
 (.seq (.reg [o0 151 (.pick (.s 147) (.c (.bool true)) (.s 150))] [])
 (.seq (.reg [mv 152 151] [])
 (.seq (.reg [mf 153 0 152] [])
 (.seq (.reg [oF 154 152 (.sidx (.s 153) (.c (.int .i64 2)))] [])
 (.seq (.reg [oF 155 152 (.bin .lss (.c (.int .u8 191)) (.s 154))] [])
 (.seq (.reg [o0 156 (.pick (.s 152) (.c (.bool true)) (.s 155))] [])
 (.seq (.reg [mv 157 156] [])
 (.seq (.reg [mf 158 0 157] [])
 (.seq (.reg [oF 159 157 (.sidx (.s 158) (.c (.int .i64 3)))] [])
 (.seq (.reg [oF 160 157 (.bin .lss (.s 159) (.c (.int .u8 128)))] [])
 (.seq (.reg [o0 161 (.pick (.s 157) (.c (.bool true)) (.s 160))] [])
 (.seq (.reg [mv 162 161] [])
 (.seq (.reg [mf 163 0 162] [])
 (.seq (.reg [oF 164 162 (.sidx (.s 163) (.c (.int .i64 3)))] [])
 (.seq (.reg [oF 165 162 (.bin .lss (.c (.int .u8 191)) (.s 164))] [])
 (.reg [o0 166 (.pick (.s 162) (.c (.bool true)) (.s 165))] [130,131,132,133,134,135,136,137,138,139,140,141,142,143,144,145,146,147,148,149,150,151,152,153,154,155,156,157,158,159,160,161,162,163,164,165])))))))))))))))))))))))))))))))
 (.cond (.s 166)
 (.seq (.reg [o0 2 (.mov (.c (.bool false)))] [])
 .ret)
 .skip))
 (.reg [mv 167 0,
 o0 168 (.sslc (.s 167) (some (.c (.int .i64 4))) none),
 mv 0 168] [167,168]))
 (.seq (.reg [o0 2 (.mov (.c (.bool false)))] [])
 .ret))))))))))))))))))
 (.seq (.reg [o0 2 (.mov (.c (.bool true)))] [])
 .ret)))⟩
noncomputable def sf:az:=bz Tryz.f23 23
noncomputable def gG:az:=bz Tryz.f79 79
noncomputable def bI:az:=bz Tryz.f261 261
noncomputable def iQ:az:=bz Tryz.f49 49
noncomputable def eL:az:=bz Tryz.f163 163
noncomputable def qw:az:=bz Tryz.f24 24
noncomputable def ow:az:=bz Tryz.f109 109
noncomputable def rE:az:=bz Tryz.f56 56
noncomputable def po:az:=bz Tryz.f68 68
noncomputable def i7:az:=bz Tryz.f230 230
noncomputable def lz:az:=bz Tryz.f231 231
noncomputable def qy:az:=bz Tryz.f330 330
noncomputable def nL:az:=bz Tryz.f328 328
noncomputable def rA:az:=bz Tryz.f18 18
noncomputable def eJ:az:=bz Tryz.f236 236
noncomputable def nq:az:=bz Tryz.f167 167
noncomputable def kE:az:=bz Tryz.f164 164
noncomputable def lH:az:=bz Tryz.f91 91
noncomputable def tJ:az:=bz Tryz.f291 291
noncomputable def mH:az:=bz Tryz.f96 96
noncomputable def iN:az:=bz Tryz.f102 102
noncomputable def nK:az:=bz Tryz.f89 89
noncomputable def nr:az:=bz Tryz.f165 165
noncomputable def jh:az:=bz Tryz.f153 153
noncomputable def tw:az:=bz Tryz.f182 182
noncomputable def xT:az:=bz Tryz.f88 88
noncomputable def kL:az:=bz Tryz.f113 113
noncomputable def sv:az:=bz Tryz.f81 81
noncomputable def lL:az:=bz Tryz.f184 184
noncomputable def ss:az:=bz Tryz.f73 73
noncomputable def iL:az:=bz Tryz.f50 50
noncomputable def ng:az:=bz Tryz.f150 150
noncomputable def jz:az:=bz Tryz.f94 94
end Go.Proofs.YtdfofedlbljnhaaGreatDoor