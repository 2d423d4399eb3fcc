import Derived.Test.YtdfofedlbljnhaaGreatDoorXQi
noncomputable section
set_option linter.all false
set_option maxRecDepth 100000
set_option maxHeartbeats 4000000
namespace Go.Proofs.YtdfofedlbljnhaaGreatDoor
open Go Go.Mw
def wlo(d j:Nat):bC:=o0 d (.load none (.s j))
def wlS(d n j:Nat):bC:=o0 d (.load (some n) (.s j))
def wln(d j:Nat):bC:=o0 d (.len (.s j))
def wmI(d:Nat)(n:Int):bC:=o0 d (.mov (.c (.int .i64 n)))
def wmB(d:Nat)(b:Bool):bC:=o0 d (.mov (.c (.bool b)))
def wbS(d:Nat)(o:BinOp)(j k:Nat):bC:=o0 d (.bin o (.s j) (.s k))
def wbI(d:Nat)(o:BinOp)(j:Nat)(n:Int):bC:=o0 d (.bin o (.s j) (.c (.int .i64 n)))
def wpF(d j k:Nat):bC:=o0 d (.pick (.s j) (.s k) (.c (.bool false)))
def wpT(d j k:Nat):bC:=o0 d (.pick (.s j) (.c (.bool true)) (.s k))
def wsT(n j k:Nat):bC:=⟨none,.store n (.s j) (.s k),none⟩
def wiC(n:Int):IV:=.c (.int .i64 n)
def wbC(b:Bool):IV:=.c (.bool b)
def wld(j:Nat):oC:=.load none (.s j)
def wfd(n j:Nat):oC:=.fadr n (.s j)
def wsr(o:List bC)(k:List Nat)(y:bI):bI:=.seq (.reg o k) y
attribute[go_sem] wlo wlS wln wmI wmB wbS wbI wpF wpT wsT wiC wbC wld wfd wsr
def FX2:ax :=
⟨188,1,[.tmp 2],
 (wsr [wmB 2 false] []
 (wsr [mv 7 0,
 mv 8 0,
 wln 9 8,
 mv 10 0,
 wln 11 10,
 o0 12 (.slc 1 (.s 7) none (some (.s 9)) (some (.s 11))),
 mv 0 12] [7,8,9,10,11,12]
 (.seq (.block 0 (.loop (.seq (wsr [mv 13 0,
 wln 14 13,
 wbI 15 .gtr 14 0] [13,14]
 (.cond (.s 15)
 .skip
 (.exit 0)))
 (.block 1 (wsr [mv 16 0,
 o0 17 (.iadr 1 (.s 16) (wiC 0)),
 wlo 18 17,
 mv 3 18] [16,17,18]
 (.seq (wsr [mv 19 3,
 o0 20 (.bin .lss (.s 19) (.c (.int .u8 128)))] [19]
 (.cond (.s 20)
 (wsr [mv 21 0,
 o0 22 (.slc 1 (.s 21) (some (wiC 1)) none none),
 mv 0 22] [21,22]
 (.seq (wsr [mv 23 0,
 wln 24 23,
 wbI 25 .gtr 24 8,
 mv 26 25,
 mt 27 0 26,
 ot 28 26 (.call 334 [(.s 27)]),
 ot 29 26 (.bin .and (.s 28) (.c (.int .u64 9259542123273814144))),
 ot 30 26 (.bin .eql (.s 29) (.c (.int .u64 0))),
 wpF 31 26 30] [23,24,25,26,27,28,29,30]
 (.cond (.s 31)
 (wsr [mv 32 0,
 o0 33 (.slc 1 (.s 32) (some (wiC 8)) none none),
 mv 0 33] [32,33]
 (.seq (wsr [mv 34 0] []
 (wsr [wln 35 34] []
 (wsr [wbI 36 .gtr 35 16] []
 (wsr [mv 37 36] []
 (.seq (.draw [⟨mt 38 0 37,[]⟩,
 ⟨ot 39 37 (.call 334 [(.s 38)]),[0]⟩,
 ⟨mt 40 0 37,[]⟩,
 ⟨ot 41 37 (.slc 1 (.s 40) (some (wiC 8)) none none),[2]⟩] [] [])
 (wsr [ot 42 37 (.call 334 [(.s 41)])] []
 (wsr [ot 43 37 (.bin .or (.s 39) (.s 42))] []
 (wsr [ot 44 37 (.bin .and (.s 43) (.c (.int .u64 9259542123273814144)))] []
 (wsr [ot 45 37 (.bin .eql (.s 44) (.c (.int .u64 0)))] []
 (.reg [wpF 46 37 45] [34,35,36,37,38,39,40,41,42,43,44,45]))))))))))
 (.cond (.s 46)
 (wsr [mv 47 0,
 o0 48 (.slc 1 (.s 47) (some (wiC 16)) none none),
 mv 0 48] [47,48]
 (.block 2 (.loop (.seq (.seq (wsr [mv 49 0] []
 (wsr [wln 50 49] []
 (wsr [wbI 51 .gtr 50 32] []
 (wsr [mv 52 51] []
 (.seq (.draw [⟨mt 53 0 52,[]⟩,
 ⟨ot 54 52 (.call 334 [(.s 53)]),[0]⟩,
 ⟨mt 55 0 52,[]⟩,
 ⟨ot 56 52 (.slc 1 (.s 55) (some (wiC 8)) none none),[2]⟩,
 ⟨ot 57 52 (.call 334 [(.s 56)]),[3,2,1,0]⟩,
 ⟨ot 58 52 (.bin .or (.s 54) (.s 57)),[1,0,4,3,2]⟩,
 ⟨mt 59 0 52,[]⟩,
 ⟨ot 60 52 (.slc 1 (.s 59) (some (wiC 16)) none none),[6]⟩,
 ⟨ot 61 52 (.call 334 [(.s 60)]),[7,6,4,3,2,1,0]⟩,
 ⟨mt 62 0 52,[]⟩,
 ⟨ot 63 52 (.slc 1 (.s 62) (some (wiC 24)) none none),[9]⟩,
 ⟨ot 64 52 (.call 334 [(.s 63)]),[10,9,8,7,6,4,3,2,1,0]⟩,
 ⟨ot 65 52 (.bin .or (.s 61) (.s 64)),[8,7,6,4,3,2,1,0,11,10,9]⟩] [] [])
 (wsr [ot 66 52 (.bin .or (.s 58) (.s 65))] []
 (wsr [ot 67 52 (.bin .and (.s 66) (.c (.int .u64 9259542123273814144)))] []
 (wsr [ot 68 52 (.bin .eql (.s 67) (.c (.int .u64 0)))] []
 (.reg [wpF 69 52 68] [49,50,51,52,53,54,55,56,57,58,59,60,61,62,63,64,65,66,67,68])))))))))
 (.cond (.s 69)
 .skip
 (.exit 2)))
 (.block 3 (.reg [mv 70 0,
 o0 71 (.slc 1 (.s 70) (some (wiC 32)) none none),
 mv 0 71] [70,71]))))))
 .skip)))
 .skip))
 (.exit 1)))
 .skip))
 (wsr [mv 72 3,
 o0 73 (.aadr 1 256 (.s 1000000) (.s 72)),
 wlo 74 73,
 mv 4 74] [72,73,74]
 (wsr [mv 75 4,
 o0 76 (.bin .and (.s 75) (.c (.int .u8 7))),
 o0 77 (.cvi .i64 (.s 76)),
 mv 5 77] [75,76,77]
 (wsr [mv 78 4,
 o0 79 (.bin .shr (.s 78) (.c (.int .u64 4))),
 o0 80 (.aadr 2 16 (.s 1000001) (.s 79)),
 wlS 81 2 80,
 o0 6 (.new 327 [(.int .u8 0),(.int .u8 0)]),
 wsT 2 6 81] [78,79,80,81]
 (wsr [mv 82 5] []
 (.block 4 (wsr [wbI 84 .eql 82 2,
 mv 83 84] [84]
 (.cond (.s 83)
 (.seq (.seq (wsr [mv 85 0] []
 (wsr [wln 86 85] []
 (wsr [wbI 87 .lss 86 2] []
 (wsr [mv 88 87] []
 (.seq (.draw [⟨mf 89 0 88,[]⟩,
 ⟨oF 90 88 (.iadr 1 (.s 89) (wiC 1)),[0]⟩,
 ⟨oF 91 88 (wld 90),[1,0]⟩,
 ⟨oF 92 88 (wfd 0 6),[]⟩,
 ⟨oF 93 88 (wld 92),[3]⟩] [] [])
 (wsr [oF 94 88 (.bin .lss (.s 91) (.s 93))] []
 (wsr [wpT 95 88 94] []
 (wsr [mv 96 95] []
 (.seq (.draw [⟨oF 97 96 (wfd 1 6),[]⟩,
 ⟨oF 98 96 (wld 97),[0]⟩,
 ⟨mf 99 0 96,[]⟩,
 ⟨oF 100 96 (.iadr 1 (.s 99) (wiC 1)),[2]⟩,
 ⟨oF 101 96 (wld 100),[3,2]⟩] [] [])
 (wsr [oF 102 96 (.bin .lss (.s 98) (.s 101))] []
 (.reg [wpT 103 96 102] [85,86,87,88,89,90,91,92,93,94,95,96,97,98,99,100,101,102])))))))))))
 (.cond (.s 103)
 (wsr [wmB 2 false] []
 .ret)
 .skip))
 (.reg [mv 104 0,
 o0 105 (.slc 1 (.s 104) (some (wiC 2)) none none),
 mv 0 105] [104,105]))
 (wsr [wbI 107 .eql 82 3,
 mv 106 107] [107]
 (.cond (.s 106)
 (.seq (.seq (wsr [mv 108 0] []
 (wsr [wln 109 108] []
 (wsr [wbI 110 .lss 109 3] []
 (wsr [mv 111 110] []
 (.seq (.draw [⟨mf 112 0 111,[]⟩,
 ⟨oF 113 111 (.iadr 1 (.s 112) (wiC 1)),[0]⟩,
 ⟨oF 114 111 (wld 113),[1,0]⟩,
 ⟨oF 115 111 (wfd 0 6),[]⟩,
 ⟨oF 116 111 (wld 115),[3]⟩] [] [])
 (wsr [oF 117 111 (.bin .lss (.s 114) (.s 116))] []
 (wsr [wpT 118 111 117] []
 (wsr [mv 119 118] []
 (.seq (.draw [⟨oF 120 119 (wfd 1 6),[]⟩,
 ⟨oF 121 119 (wld 120),[0]⟩,
 ⟨mf 122 0 119,[]⟩,
 ⟨oF 123 119 (.iadr 1 (.s 122) (wiC 1)),[2]⟩,
 ⟨oF 124 119 (wld 123),[3,2]⟩] [] [])
 (wsr [oF 125 119 (.bin .lss (.s 121) (.s 124))] []
 (wsr [wpT 126 119 125] []
 (wsr [mv 127 126] []
 (wsr [mf 128 0 127] []
 (wsr [oF 129 127 (.iadr 1 (.s 128) (wiC 2))] []
 (wsr [oF 130 127 (wld 129)] []
 (wsr [oF 131 127 (.bin .lss (.s 130) (.c (.int .u8 128)))] []
 (wsr [wpT 132 127 131] []
 (wsr [mv 133 132] []
 (wsr [mf 134 0 133] []
 (wsr [oF 135 133 (.iadr 1 (.s 134) (wiC 2))] []
 (wsr [oF 136 133 (wld 135)] []
 (wsr [oF 137 133 (.bin .lss (.c (.int .u8 191)) (.s 136))] []
 (.reg [wpT 138 133 137] [108,109,110,111,112,113,114,115,116,117,118,119,120,121,122,123,124,125,126,127,128,129,130,131,132,133,134,135,136,137])))))))))))))))))))))))
 (.cond (.s 138)
 (wsr [wmB 2 false] []
 .ret)
 .skip))
 (.reg [mv 139 0,
 o0 140 (.slc 1 (.s 139) (some (wiC 3)) none none),
 mv 0 140] [139,140]))
 (wsr [wbI 142 .eql 82 4,
 mv 141 142] [142]
 (.cond (.s 141)
 (.seq (.seq (wsr [mv 143 0] []
 (wsr [wln 144 143] []
 (wsr [wbI 145 .lss 144 4] []
 (wsr [mv 146 145] []
 (.seq (.draw [⟨mf 147 0 146,[]⟩,
 ⟨oF 148 146 (.iadr 1 (.s 147) (wiC 1)),[0]⟩,
 ⟨oF 149 146 (wld 148),[1,0]⟩,
 ⟨oF 150 146 (wfd 0 6),[]⟩,
 ⟨oF 151 146 (wld 150),[3]⟩] [] [])
 (wsr [oF 152 146 (.bin .lss (.s 149) (.s 151))] []
 (wsr [wpT 153 146 152] []
 (wsr [mv 154 153] []
 (.seq (.draw [⟨oF 155 154 (wfd 1 6),[]⟩,
 ⟨oF 156 154 (wld 155),[0]⟩,
 ⟨mf 157 0 154,[]⟩,
 ⟨oF 158 154 (.iadr 1 (.s 157) (wiC 1)),[2]⟩,
 ⟨oF 159 154 (wld 158),[3,2]⟩] [] [])
 (wsr [oF 160 154 (.bin .lss (.s 156) (.s 159))] []
 (wsr [wpT 161 154 160] []
 (wsr [mv 162 161] []
 (wsr [mf 163 0 162] []
 (wsr [oF 164 162 (.iadr 1 (.s 163) (wiC 2))] []
 (wsr [oF 165 162 (wld 164)] []
 (wsr [oF 166 162 (.bin .lss (.s 165) (.c (.int .u8 128)))] []
 (wsr [wpT 167 162 166] []
 (wsr [mv 168 167] []
 (wsr [mf 169 0 168] []
 (wsr [oF 170 168 (.iadr 1 (.s 169) (wiC 2))] []
 (wsr [oF 171 168 (wld 170)] []
 (wsr [oF 172 168 (.bin .lss (.c (.int .u8 191)) (.s 171))] []
 (wsr [wpT 173 168 172] []
 (wsr [mv 174 173] []
 (wsr [mf 175 0 174] []
 (wsr [oF 176 174 (.iadr 1 (.s 175) (wiC 3))] []
 (wsr [oF 177 174 (wld 176)] []
 (wsr [oF 178 174 (.bin .lss (.s 177) (.c (.int .u8 128)))] []
 (wsr [wpT 179 174 178] []
 (wsr [mv 180 179] []
 (wsr [mf 181 0 180] []
 (wsr [oF 182 180 (.iadr 1 (.s 181) (wiC 3))] []
 (wsr [oF 183 180 (wld 182)] []
 (wsr [oF 184 180 (.bin .lss (.c (.int .u8 191)) (.s 183))] []
 (.reg [wpT 185 180 184] [143,144,145,146,147,148,149,150,151,152,153,154,155,156,157,158,159,160,161,162,163,164,165,166,167,168,169,170,171,172,173,174,175,176,177,178,179,180,181,182,183,184])))))))))))))))))))))))))))))))))))
 (.cond (.s 185)
 (wsr [wmB 2 false] []
 .ret)
 .skip))
 (.reg [mv 186 0,
 o0 187 (.slc 1 (.s 186) (some (wiC 4)) none none),
 mv 0 187] [186,187]))
 (wsr [wmB 2 false] []
 .ret))))))))))))))))))
 (wsr [wmB 2 true] []
 .ret))))⟩
def sP:ax:=aX Tryz.f355 355
def FX1:ax :=
⟨71,1,[.tmp 2],
 (wsr [o0 2 (.mov (.c (.int .u64 0)))] []
 (.seq (.cond (wbC false)
 (.seq (.seq (.draw [⟨mv 3 0,[]⟩,
 ⟨o0 4 (.iadr 1 (.s 3) (wiC 0)),[0]⟩,
 ⟨wlo 5 4,[1,0]⟩,
 ⟨o0 6 (.cvi .u64 (.s 5)),[2,1,0]⟩,
 ⟨mv 7 0,[]⟩,
 ⟨o0 8 (.iadr 1 (.s 7) (wiC 1)),[4]⟩,
 ⟨wlo 9 8,[5,4]⟩,
 ⟨o0 10 (.cvi .u64 (.s 9)),[6,5,4]⟩,
 ⟨o0 11 (.bin .shl (.s 10) (.c (.int .u64 8))),[7,6,5,4]⟩,
 ⟨wbS 12 .or 6 11,[3,2,1,0,8,7,6,5,4]⟩,
 ⟨mv 13 0,[]⟩,
 ⟨o0 14 (.iadr 1 (.s 13) (wiC 2)),[10]⟩,
 ⟨wlo 15 14,[11,10]⟩,
 ⟨o0 16 (.cvi .u64 (.s 15)),[12,11,10]⟩,
 ⟨o0 17 (.bin .shl (.s 16) (.c (.int .u64 16))),[13,12,11,10]⟩,
 ⟨wbS 18 .or 12 17,[9,3,2,1,0,8,7,6,5,4,14,13,12,11,10]⟩,
 ⟨mv 19 0,[]⟩,
 ⟨o0 20 (.iadr 1 (.s 19) (wiC 3)),[16]⟩,
 ⟨wlo 21 20,[17,16]⟩,
 ⟨o0 22 (.cvi .u64 (.s 21)),[18,17,16]⟩,
 ⟨o0 23 (.bin .shl (.s 22) (.c (.int .u64 24))),[19,18,17,16]⟩] [] [])
 (wsr [wbS 24 .or 18 23] []
 (.reg [mv 2 24] [3,4,5,6,7,8,9,10,11,12,13,14,15,16,17,18,19,20,21,22,23,24])))
 .ret)
 .skip)
 (.seq (.seq (.draw [⟨mv 25 0,[]⟩,
 ⟨o0 26 (.iadr 1 (.s 25) (wiC 0)),[0]⟩,
 ⟨wlo 27 26,[1,0]⟩,
 ⟨o0 28 (.cvi .u64 (.s 27)),[2,1,0]⟩,
 ⟨mv 29 0,[]⟩,
 ⟨o0 30 (.iadr 1 (.s 29) (wiC 1)),[4]⟩,
 ⟨wlo 31 30,[5,4]⟩,
 ⟨o0 32 (.cvi .u64 (.s 31)),[6,5,4]⟩,
 ⟨o0 33 (.bin .shl (.s 32) (.c (.int .u64 8))),[7,6,5,4]⟩,
 ⟨wbS 34 .or 28 33,[3,2,1,0,8,7,6,5,4]⟩,
 ⟨mv 35 0,[]⟩,
 ⟨o0 36 (.iadr 1 (.s 35) (wiC 2)),[10]⟩,
 ⟨wlo 37 36,[11,10]⟩,
 ⟨o0 38 (.cvi .u64 (.s 37)),[12,11,10]⟩,
 ⟨o0 39 (.bin .shl (.s 38) (.c (.int .u64 16))),[13,12,11,10]⟩,
 ⟨wbS 40 .or 34 39,[9,3,2,1,0,8,7,6,5,4,14,13,12,11,10]⟩,
 ⟨mv 41 0,[]⟩,
 ⟨o0 42 (.iadr 1 (.s 41) (wiC 3)),[16]⟩,
 ⟨wlo 43 42,[17,16]⟩,
 ⟨o0 44 (.cvi .u64 (.s 43)),[18,17,16]⟩,
 ⟨o0 45 (.bin .shl (.s 44) (.c (.int .u64 24))),[19,18,17,16]⟩,
 ⟨wbS 46 .or 40 45,[15,9,3,2,1,0,8,7,6,5,4,14,13,12,11,10,20,19,18,17,16]⟩,
 ⟨mv 47 0,[]⟩,
 ⟨o0 48 (.iadr 1 (.s 47) (wiC 4)),[22]⟩,
 ⟨wlo 49 48,[23,22]⟩,
 ⟨o0 50 (.cvi .u64 (.s 49)),[24,23,22]⟩,
 ⟨o0 51 (.bin .shl (.s 50) (.c (.int .u64 32))),[25,24,23,22]⟩,
 ⟨wbS 52 .or 46 51,[21,15,9,3,2,1,0,8,7,6,5,4,14,13,12,11,10,20,19,18,17,16,26,25,24,23,22]⟩,
 ⟨mv 53 0,[]⟩,
 ⟨o0 54 (.iadr 1 (.s 53) (wiC 5)),[28]⟩,
 ⟨wlo 55 54,[29,28]⟩,
 ⟨o0 56 (.cvi .u64 (.s 55)),[30,29,28]⟩,
 ⟨o0 57 (.bin .shl (.s 56) (.c (.int .u64 40))),[31,30,29,28]⟩,
 ⟨wbS 58 .or 52 57,[27,21,15,9,3,2,1,0,8,7,6,5,4,14,13,12,11,10,20,19,18,17,16,26,25,24,23,22,32,31,30,29,28]⟩,
 ⟨mv 59 0,[]⟩,
 ⟨o0 60 (.iadr 1 (.s 59) (wiC 6)),[34]⟩,
 ⟨wlo 61 60,[35,34]⟩,
 ⟨o0 62 (.cvi .u64 (.s 61)),[36,35,34]⟩,
 ⟨o0 63 (.bin .shl (.s 62) (.c (.int .u64 48))),[37,36,35,34]⟩,
 ⟨wbS 64 .or 58 63,[33,27,21,15,9,3,2,1,0,8,7,6,5,4,14,13,12,11,10,20,19,18,17,16,26,25,24,23,22,32,31,30,29,28,38,37,36,35,34]⟩,
 ⟨mv 65 0,[]⟩,
 ⟨o0 66 (.iadr 1 (.s 65) (wiC 7)),[40]⟩,
 ⟨wlo 67 66,[41,40]⟩,
 ⟨o0 68 (.cvi .u64 (.s 67)),[42,41,40]⟩,
 ⟨o0 69 (.bin .shl (.s 68) (.c (.int .u64 56))),[43,42,41,40]⟩] [] [])
 (wsr [wbS 70 .or 64 69] []
 (.reg [mv 2 70] [25,26,27,28,29,30,31,32,33,34,35,36,37,38,39,40,41,42,43,44,45,46,47,48,49,50,51,52,53,54,55,56,57,58,59,60,61,62,63,64,65,66,67,68,69,70])))
 .ret)))⟩
def jT:ax:=aX Tryz.f47 47
def sD:ax:=aX Tryz.f12 12
def aY:ax:=aX Tryz.f27 27
def jg:ax:=aX Tryz.f303 303
def um:ax:=aX Tryz.f250 250
def ws:ax:=aX Tryz.f247 247
def i7:ax:=aX Tryz.f51 51
def Cv:ax:=aX Tryz.f325 325
def qI:ax:=aX Tryz.f24 24
def iS:ax:=aX Tryz.f45 45
def jy:ax:=aX Tryz.f82 82
def x8:ax:=aX Tryz.f348 348
def tZ:ax:=aX Tryz.f80 80
def jO:ax:=aX Tryz.f345 345
def lu:ax:=aX Tryz.f231 231
def qK:ax:=aX Tryz.f330 330
def et:ax:=aX Tryz.f115 115
def iR:ax:=aX Tryz.f46 46
def v7:ax:=aX Tryz.f74 74
def wd:ax:=aX Tryz.f296 296
def nw:ax:=aX Tryz.f167 167
def oK:ax:=aX Tryz.f171 171
def tT:ax:=aX Tryz.f189 189
def uq:ax:=aX Tryz.f291 291
def mF:ax:=aX Tryz.f96 96
def lG:ax:=aX Tryz.f198 198
def nN:ax:=aX Tryz.f89 89
def AM:ax:=aX Tryz.f267 267
def AS:ax:=aX Tryz.f244 244
def iK:ax:=aX Tryz.f151 151
def eM:ax:=aX Tryz.f95 95
def gY:ax:=aX Tryz.f197 197
def nr:ax:=aX Tryz.f116 116
def kB:ax:=aX Tryz.f113 113
def oR:ax:=aX Tryz.f264 264
def AU:ax:=aX Tryz.f275 275
def sG:ax:=aX Tryz.f57 57
def sH:ax:=aX Tryz.f60 60
def lq:ax:=aX Tryz.f228 228
def wb:ax:=aX Tryz.f259 259
def FX0:ax :=
⟨8,2,[.tmp 4],
 (wsr [wmI 4 0] []
 (wsr [mv 5 0,
 mv 6 1,
 o0 7 (.sib (.s 5) (.s 6)),
 mv 4 7] [5,6,7]
 .ret))⟩
