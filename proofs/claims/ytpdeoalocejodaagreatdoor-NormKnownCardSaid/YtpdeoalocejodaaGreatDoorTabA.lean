/- The translations of the functions, by a program of mine. -/
import Derived.Test.YtpdeoalocejodaaGreatDoorAmD
namespace Go.Proofs.YtpdeoalocejodaaGreatDoor
open Go Go.Am
set_option maxRecDepth 100000
abbrev zm (d s : Nat) (t : AT) : AT := .rd (some d) none (.mov (.t s)) t
abbrev zr (d : Nat) (o : AOp) (t : AT) : AT := .rd (some d) none o t
abbrev zt (d g : Nat) (o : AOp) (t : AT) : AT := .rd (some d) (some (g, true)) o t
abbrev zf (d g : Nat) (o : AOp) (t : AT) : AT := .rd (some d) (some (g, false)) o t
abbrev zk (d f : Nat) (l : List Arg) (t : AT) : AT := .cl false (some d) none (.c (.fn (.func f) [] [])) l t
abbrev zi (n : Int) : Arg := .c (.int .i64 n)
abbrev zu (n : Int) : Arg := .c (.int .u8 n)
/- proofmark/proofmarklaw04.NormSame -/
def QFC : AT := (zr 12 (.mov (.c (.bool false)))
 .done)
def QFB : AT := (zm 28 0
 (zr 29 (.len 0 (.t 28))
 (zr 30 (.bin .gtr (.t 29) (zi 30))
 .done)))
def QFA : AT := (zk 31 9 []
 (zm 12 31
 .done))
def QFz : AT := (zm 33 0
 (zm 34 2
 (zm 35 3
 (zk 36 10 [.t 33, .t 34, .t 35, (zi 0)]
 (zm 32 36
 (zr 37 (.extr (.t 32) 0)
 (zr 38 (.extr (.t 32) 1)
 (zr 39 (.extr (.t 32) 2)
 (zr 40 (.extr (.t 32) 3)
 (zr 41 (.extr (.t 32) 4)
 (zm 13 37
 (zm 14 38
 (zm 15 39
 (zm 16 40
 (zm 17 41
 .done)))))))))))))))
def QFy : AT := (zm 42 17
 (zr 43 (.un .not (.t 42))
 (zm 44 43
 (zf 45 44 (.mov (.t 1))
 (.cl false (some 46) (some (44, false)) (.c (.fn (.func 11) [] [])) [(.t 45)]
 (zf 47 44 (.un .not (.t 46))
 (zr 48 (.pick (.t 44) (.c (.bool true)) (.t 47))
 .done)))))))
def QFx : AT := (zk 49 9 []
 (zm 12 49
 .done))
def QFw : AT := (zm 50 13
 (zm 51 4
 (zk 52 12 [.t 50, .t 51]
 (zm 53 13
 (zm 54 5
 (zk 55 12 [.t 53, .t 54]
 (zm 18 52
 (zm 19 55
 .done))))))))
def Qvu : AT := (zm 56 13
 (zm 57 1
 (zm 58 18
 (zm 59 19
 (zk 60 13 [.t 56, .t 57, .t 58, .t 59]
 (zm 61 13
 (zm 62 1
 (zm 63 4
 (zm 64 5
 (zk 65 14 [.t 62, .t 63, .t 64]
 (zk 66 12 [.t 61, .t 65]
 (zr 67 (.bin .neq (.t 60) (.t 66))
 (zm 68 67
 (zf 69 68 (.mov (.t 1))
 (.cl false (some 70) (some (68, false)) (.c (.fn (.func 15) [] [])) [(.t 69)]
 (zf 71 68 (.mov (.t 70))
 (zt 72 71 (.mov (.t 13))
 (zt 73 71 (.mov (.t 1))
 (zt 74 71 (.mov (.t 14))
 (zt 75 71 (.mov (.t 15))
 (.cl false (some 76) (some (71, true)) (.c (.fn (.func 13) [] [])) [(.t 72), (.t 73), (.t 74), (.t 75)]
 (zt 77 71 (.mov (.t 13))
 (zt 78 71 (.mov (.t 1))
 (zt 79 71 (.mov (.t 15))
 (zt 80 71 (.mov (.t 14))
 (.cl false (some 81) (some (71, true)) (.c (.fn (.func 13) [] [])) [(.t 77), (.t 78), (.t 79), (.t 80)]
 (zt 82 71 (.bin .neq (.t 76) (.t 81))
 (zf 83 68 (.pick (.t 71) (.t 82) (.c (.bool false)))
 (zr 84 (.pick (.t 68) (.c (.bool true)) (.t 83))
 .done)))))))))))))))))))))))))))))
def Qvt : AT := (zr 12 (.mov (.c (.bool false)))
 .done)
def Qvs : AT := (zm 85 1
 (zk 86 16 [.t 85]
 (zm 87 86
 (zt 88 87 (.mov (.t 13))
 (zt 89 87 (.mov (.t 1))
 (zt 90 87 (.mov (.t 13))
 (zt 91 87 (.mov (.t 1))
 (zt 92 87 (.mov (.t 14))
 (zt 93 87 (.mov (.t 18))
 (.cl false (some 94) (some (87, true)) (.c (.fn (.func 13) [] [])) [(.t 90), (.t 91), (.t 92), (.t 93)]
 (zt 95 87 (.mov (.t 19))
 (.cl false (some 96) (some (87, true)) (.c (.fn (.func 13) [] [])) [(.t 88), (.t 89), (.t 94), (.t 95)]
 (zt 97 87 (.mov (.t 13))
 (zt 98 87 (.mov (.t 1))
 (zt 99 87 (.mov (.t 14))
 (zt 100 87 (.mov (.t 13))
 (zt 101 87 (.mov (.t 1))
 (zt 102 87 (.mov (.t 4))
 (zt 103 87 (.mov (.t 5))
 (.cl false (some 104) (some (87, true)) (.c (.fn (.func 14) [] [])) [(.t 101), (.t 102), (.t 103)]
 (.cl false (some 105) (some (87, true)) (.c (.fn (.func 12) [] [])) [(.t 100), (.t 104)]
 (.cl false (some 106) (some (87, true)) (.c (.fn (.func 13) [] [])) [(.t 97), (.t 98), (.t 99), (.t 105)]
 (zt 107 87 (.bin .neq (.t 96) (.t 106))
 (zr 108 (.pick (.t 87) (.t 107) (.c (.bool false)))
 .done))))))))))))))))))))))))
def QnY : AT := (zr 12 (.mov (.c (.bool false)))
 .done)
def Qvy : AT := (zm 110 1
 (zk 111 17 [.t 110]
 (zm 109 111
 (zr 112 (.extr (.t 109) 0)
 (zr 113 (.extr (.t 109) 1)
 (zm 20 112
 (zm 21 113
 .done)))))))
def Qln : AT := (zm 114 21
 (zm 115 114
 (zt 116 115 (.mov (.t 13))
 (zt 117 115 (.mov (.t 1))
 (zt 118 115 (.mov (.t 14))
 (zt 119 115 (.mov (.t 13))
 (zt 120 115 (.mov (.t 20))
 (.cl false (some 121) (some (115, true)) (.c (.fn (.func 12) [] [])) [(.t 119), (.t 120)]
 (.cl false (some 122) (some (115, true)) (.c (.fn (.func 13) [] [])) [(.t 116), (.t 117), (.t 118), (.t 121)]
 (zt 123 115 (.mov (.t 14))
 (zt 124 115 (.bin .neq (.t 122) (.t 123))
 (zr 125 (.pick (.t 115) (.t 124) (.c (.bool false)))
 .done))))))))))))
def Qlm : AT := (zr 12 (.mov (.c (.bool false)))
 .done)
def Qvx : AT := (zm 127 1
 (zk 128 18 [.t 127]
 (zm 126 128
 (zr 129 (.extr (.t 126) 0)
 (zr 130 (.extr (.t 126) 1)
 (zm 22 129
 (zm 23 130
 .done)))))))
def QiO : AT := (zm 131 23
 (zm 132 131
 (zt 133 132 (.mov (.t 13))
 (zt 134 132 (.mov (.t 1))
 (zt 135 132 (.mov (.t 14))
 (zt 136 132 (.mov (.t 14))
 (.cl false (some 137) (some (132, true)) (.c (.fn (.func 13) [] [])) [(.t 133), (.t 134), (.t 135), (.t 136)]
 (zt 138 132 (.mov (.t 13))
 (zt 139 132 (.mov (.t 22))
 (.cl false (some 140) (some (132, true)) (.c (.fn (.func 12) [] [])) [(.t 138), (.t 139)]
 (zt 141 132 (.bin .neq (.t 137) (.t 140))
 (zr 142 (.pick (.t 132) (.t 141) (.c (.bool false)))
 (zm 143 142
 (zf 144 143 (.mov (.t 1))
 (zf 145 143 (.bin .eql (.t 144) (zu 8))
 (zf 146 143 (.mov (.t 145))
 (zf 147 146 (.mov (.t 1))
 (zf 148 146 (.bin .eql (.t 147) (zu 9))
 (zf 149 143 (.pick (.t 146) (.c (.bool true)) (.t 148))
 (zf 150 143 (.mov (.t 149))
 (zt 151 150 (.mov (.t 13))
 (zt 152 150 (.mov (.t 1))
 (zt 153 150 (.mov (.t 14))
 (zt 154 150 (.mov (.t 14))
 (.cl false (some 155) (some (150, true)) (.c (.fn (.func 13) [] [])) [(.t 151), (.t 152), (.t 153), (.t 154)]
 (zt 156 150 (.mov (.t 14))
 (zt 157 150 (.bin .neq (.t 155) (.t 156))
 (zf 158 143 (.pick (.t 150) (.t 157) (.c (.bool false)))
 (zr 159 (.pick (.t 143) (.c (.bool true)) (.t 158))
 .done)))))))))))))))))))))))))))))
def QiN : AT := (zr 12 (.mov (.c (.bool false)))
 .done)
def Qvw : AT := (zm 160 4
 (.wr false (some 161) none (.bsl false false 2 1 [(.int .i64 0)] 4 [(0, 1, (zi 0)), (1, 1, (zi 1)), (2, 1, (.c (.int .i64 (-1)))), (3, 1, (.t 160))])
 (zr 162 (.len 0 (.t 161))
 (zr 163 (.mov (zi 0))
 .done))))
def QnX : AT := (zr 164 (.bin .lss (.t 163) (.t 162))
 .done)
def QnW : AT := (zr 165 (.iaddr none 1 (.t 161) (.t 163))
 (zr 166 (.load false 1 (.t 165))
 (zm 25 166
 .done)))
def QnV : AT := (zm 168 1
 (zm 169 25
 (zk 170 19 [.t 168, .t 169]
 (zm 167 170
 (zr 171 (.extr (.t 167) 0)
 (zr 172 (.extr (.t 167) 1)
 (zm 26 171
 (zm 27 172
 .done))))))))
def QnU : AT := (zm 173 27
 (zm 174 173
 (zt 175 174 (.mov (.t 13))
 (zt 176 174 (.mov (.t 1))
 (zt 177 174 (.mov (.t 14))
 (zt 178 174 (.mov (.t 13))
 (zt 179 174 (.mov (.t 25))
 (.cl false (some 180) (some (174, true)) (.c (.fn (.func 12) [] [])) [(.t 178), (.t 179)]
 (.cl false (some 181) (some (174, true)) (.c (.fn (.func 13) [] [])) [(.t 175), (.t 176), (.t 177), (.t 180)]
 (zt 182 174 (.mov (.t 13))
 (zt 183 174 (.mov (.t 26))
 (.cl false (some 184) (some (174, true)) (.c (.fn (.func 12) [] [])) [(.t 182), (.t 183)]
 (zt 185 174 (.bin .neq (.t 181) (.t 184))
 (zr 186 (.pick (.t 174) (.t 185) (.c (.bool false)))
 .done))))))))))))))
def QnT : AT := (zr 12 (.mov (.c (.bool false)))
 .done)
def QnS : AT := (zr 187 (.bin .add (.t 163) (zi 1))
 (zm 163 187
 .done))
def Qvv : AT := (zk 188 9 []
 (zm 12 188
 .done))
def Xa : AF := ⟨189, [.tmp 12],
 (.seq (.reg QFC [])
 (.seq (.seq (.reg QFB [28, 29])
 (.cond (.t 30)
 (.seq (.reg QFA [31])
 .ret)
 .skip))
 (.seq (.reg QFz [33, 34, 35, 36, 32, 37, 38, 39, 40, 41, 16])
 (.seq (.seq (.reg QFy [42, 43, 44, 45, 46, 47])
 (.cond (.t 48)
 (.seq (.reg QFx [49])
 .ret)
 .skip))
 (.seq (.reg QFw [50, 51, 52, 53, 54, 55])
 (.seq (.seq (.reg Qvu [56, 57, 58, 59, 60, 61, 62, 63, 64, 65, 66, 67, 68, 69, 70, 71, 72, 73, 74, 75, 76, 77, 78, 79, 80, 81, 82, 83])
 (.cond (.t 84)
 (.seq (.reg Qvt [])
 .ret)
 .skip))
 (.seq (.seq (.reg Qvs [85, 86, 87, 88, 89, 90, 91, 92, 93, 94, 95, 96, 97, 98, 99, 100, 101, 102, 103, 104, 105, 106, 107])
 (.cond (.t 108)
 (.seq (.reg QnY [])
 .ret)
 .skip))
 (.seq (.reg Qvy [110, 111, 109, 112, 113])
 (.seq (.seq (.reg Qln [114, 115, 116, 117, 118, 119, 120, 121, 122, 123, 124])
 (.cond (.t 125)
 (.seq (.reg Qlm [])
 .ret)
 .skip))
 (.seq (.reg Qvx [127, 128, 126, 129, 130])
 (.seq (.seq (.reg QiO [131, 132, 133, 134, 135, 136, 137, 138, 139, 140, 141, 142, 143, 144, 145, 146, 147, 148, 149, 150, 151, 152, 153, 154, 155, 156, 157, 158])
 (.cond (.t 159)
 (.seq (.reg QiN [])
 .ret)
 .skip))
 (.seq (.seq (.reg Qvw [160])
 (.block 0 (.loop (.seq (.reg QnX [])
 (.seq (.cond (.t 164)
 .skip
 (.exit 0))
 (.seq (.block 1 (.seq (.reg QnW [165, 166])
 (.seq (.reg QnV [168, 169, 170, 167, 171, 172])
 (.seq (.reg QnU [173, 174, 175, 176, 177, 178, 179, 180, 181, 182, 183, 184, 185])
 (.cond (.t 186)
 (.seq (.reg QnT [])
 .ret)
 .skip)))))
 (.reg QnS [187])))))))
 (.seq (.reg Qvv [188])
 .ret)))))))))))))⟩
abbrev Yv : Nat := 3
/- proofmark/proofmarklaw04.NormMoved -/
def QFv : AT := (zr 10 (.mov (.c (.bool false)))
 .done)
def QFu : AT := (zm 20 0
 (zr 21 (.len 0 (.t 20))
 (zr 22 (.bin .gtr (.t 21) (zi 30))
 .done)))
def QFt : AT := (zk 23 9 []
 (zm 10 23
 .done))
def QFs : AT := (zm 25 0
 (zm 26 1
 (zm 27 2
 (zk 28 10 [.t 25, .t 26, .t 27, (zi 0)]
 (zm 24 28
 (zr 29 (.extr (.t 24) 0)
 (zr 30 (.extr (.t 24) 1)
 (zr 31 (.extr (.t 24) 2)
 (zr 32 (.extr (.t 24) 3)
 (zr 33 (.extr (.t 24) 4)
 (zm 11 29
 (zm 12 30
 (zm 13 31
 (zm 14 32
 (zm 15 33
 .done)))))))))))))))
def QFr : AT := (zm 34 15
 (zr 35 (.un .not (.t 34))
 .done))
def QFq : AT := (zk 36 9 []
 (zm 10 36
 .done))
def QFp : AT := (zm 37 3
 (zr 38 (.bin .and (.t 37) (zi 63))
 (zm 16 38
 .done)))
def QFo : AT := (zm 39 16
 (zr 40 (.bin .shl (zi 1) (.t 39))
 (zm 17 40
 .done)))
def QFn : AT := (zm 41 11
 (zm 42 12
 (zm 43 11
 (zm 44 3
 (zk 45 20 [.t 43, .t 44]
 (zk 46 13 [.t 41, (zu 2), .t 42, .t 45]
 (zm 47 11
 (zm 48 12
 (zm 49 11
 (zm 50 3
 (zr 51 (.un .neg (.t 50))
 (zk 52 20 [.t 49, .t 51]
 (zk 53 13 [.t 47, (zu 1), .t 48, .t 52]
 (zr 54 (.build [(.int .i64 0), (.int .i64 0)] [(0, 1, (.t 46)), (1, 1, (.t 53))])
 (zm 55 11
 (zm 56 12
 (zm 57 11
 (zm 58 3
 (zk 59 20 [.t 57, .t 58]
 (zk 60 13 [.t 55, (zu 11), .t 56, .t 59]
 (zm 61 11
 (zm 62 12
 (zm 63 11
 (zm 64 17
 (zk 65 20 [.t 63, .t 64]
 (zk 66 13 [.t 61, (zu 3), .t 62, .t 65]
 (zr 67 (.build [(.int .i64 0), (.int .i64 0)] [(0, 1, (.t 60)), (1, 1, (.t 66))])
 (zm 68 11
 (zm 69 12
 (zm 70 11
 (zm 71 3
 (zk 72 20 [.t 70, .t 71]
 (zk 73 13 [.t 68, (zu 12), .t 69, .t 72]
 (zm 74 11
 (zm 75 12
 (zm 76 11
 (zm 77 16
 (zk 78 20 [.t 76, .t 77]
 (zk 79 13 [.t 74, (zu 12), .t 75, .t 78]
 (zr 80 (.build [(.int .i64 0), (.int .i64 0)] [(0, 1, (.t 73)), (1, 1, (.t 79))])
 (zm 81 11
 (zm 82 12
 (zm 83 11
 (zm 84 3
 (zk 85 20 [.t 83, .t 84]
 (zk 86 13 [.t 81, (zu 13), .t 82, .t 85]
 (zm 87 11
 (zm 88 12
 (zm 89 11
 (zm 90 16
 (zk 91 20 [.t 89, .t 90]
 (zk 92 13 [.t 87, (zu 13), .t 88, .t 91]
 (zr 93 (.build [(.int .i64 0), (.int .i64 0)] [(0, 1, (.t 86)), (1, 1, (.t 92))])
 (zm 94 11
 (zm 95 12
 (zm 96 11
 (zm 97 17
 (zk 98 20 [.t 96, .t 97]
 (zk 99 13 [.t 94, (zu 6), .t 95, .t 98]
 (zm 100 11
 (zm 101 12
 (zm 102 11
 (zm 103 16
 (zk 104 20 [.t 102, .t 103]
 (zk 105 13 [.t 100, (zu 12), .t 101, .t 104]
 (zr 106 (.build [(.int .i64 0), (.int .i64 0)] [(0, 1, (.t 99)), (1, 1, (.t 105))])
 (zm 107 11
 (zm 108 12
 (zm 109 11
 (zm 110 17
 (zk 111 20 [.t 109, .t 110]
 (zk 112 13 [.t 107, (zu 7), .t 108, .t 111]
 (zm 113 11
 (zm 114 12
 (zm 115 11
 (zm 116 17
 (zr 117 (.bin .sub (.t 116) (zi 1))
 (zk 118 20 [.t 115, .t 117]
 (zk 119 13 [.t 113, (zu 8), .t 114, .t 118]
 (zr 120 (.build [(.int .i64 0), (.int .i64 0)] [(0, 1, (.t 112)), (1, 1, (.t 119))])
 (zm 121 11
 (zm 122 11
 (zm 123 12
 (zm 124 13
 (zk 125 13 [.t 122, (zu 10), .t 123, .t 124]
 (zm 126 11
 (zk 127 20 [.t 126, (zi 0)]
 (zk 128 13 [.t 121, (zu 16), .t 125, .t 127]
 (zm 129 11
 (zm 130 12
 (zm 131 13
 (zk 132 13 [.t 129, (zu 16), .t 130, .t 131]
 (zr 133 (.build [(.int .i64 0), (.int .i64 0)] [(0, 1, (.t 128)), (1, 1, (.t 132))])
 (zm 134 11
 (zm 135 11
 (zm 136 12
 (zm 137 13
 (zk 138 13 [.t 135, (zu 2), .t 136, .t 137]
 (zm 139 11
 (zk 140 20 [.t 139, (zi 0)]
 (zk 141 13 [.t 134, (zu 16), .t 138, .t 140]
 (zm 142 11
 (zm 143 12
 (zm 144 13
 (zk 145 13 [.t 142, (zu 16), .t 143, .t 144]
 (zr 146 (.build [(.int .i64 0), (.int .i64 0)] [(0, 1, (.t 141)), (1, 1, (.t 145))])
 (zm 147 11
 (zm 148 11
 (zm 149 12
 (zm 150 11
 (zm 151 3
 (zk 152 20 [.t 150, .t 151]
 (zk 153 13 [.t 148, (zu 1), .t 149, .t 152]
 (zm 154 11
 (zm 155 4
 (zk 156 20 [.t 154, .t 155]
 (zk 157 13 [.t 147, (zu 16), .t 153, .t 156]
 (zm 158 11
 (zm 159 12
 (zm 160 11
 (zm 161 4
 (zm 162 3
 (zr 163 (.bin .sub (.t 161) (.t 162))
 (zk 164 20 [.t 160, .t 163]
 (zk 165 13 [.t 158, (zu 16), .t 159, .t 164]
 (zr 166 (.build [(.int .i64 0), (.int .i64 0)] [(0, 1, (.t 157)), (1, 1, (.t 165))])
 (zm 167 11
 (zm 168 12
 (zm 169 11
 (zk 170 20 [.t 169, (zi 1)]
 (zk 171 13 [.t 167, (zu 15), .t 168, .t 170]
 (zm 172 11
 (zm 173 12
 (zm 174 11
 (zk 175 20 [.t 174, (zi 0)]
 (zk 176 13 [.t 172, (zu 16), .t 173, .t 175]
 (zr 177 (.build [(.int .i64 0), (.int .i64 0)] [(0, 1, (.t 171)), (1, 1, (.t 176))])
 (zm 178 11
 (zm 179 11
 (zk 180 20 [.t 179, (zi 0)]
 (zm 181 12
 (zk 182 13 [.t 178, (zu 15), .t 180, .t 181]
 (zm 183 11
 (zm 184 11
 (zm 185 12
 (zk 186 21 [.t 184, .t 185]
 (zk 187 21 [.t 183, .t 186]
 (zr 188 (.build [(.int .i64 0), (.int .i64 0)] [(0, 1, (.t 182)), (1, 1, (.t 187))])
 (zm 189 11
 (zm 190 11
 (zm 191 12
 (zm 192 13
 (zk 193 13 [.t 190, (zu 10), .t 191, .t 192]
 (zm 194 11
 (zk 195 20 [.t 194, (zi 1)]
 (zk 196 13 [.t 189, (zu 15), .t 193, .t 195]
 (zm 197 11
 (zm 198 12
 (zm 199 13
 (zk 200 13 [.t 197, (zu 16), .t 198, .t 199]
 (zr 201 (.build [(.int .i64 0), (.int .i64 0)] [(0, 1, (.t 196)), (1, 1, (.t 200))])
 (.wr false (some 202) none (.bsl false true 38 2 [(.int .i64 0), (.int .i64 0)] 12 [(0, 2, (.t 54)), (2, 2, (.t 67)), (4, 2, (.t 80)), (6, 2, (.t 93)), (8, 2, (.t 106)), (10, 2, (.t 120)), (12, 2, (.t 133)), (14, 2, (.t 146)), (16, 2, (.t 166)), (18, 2, (.t 177)), (20, 2, (.t 188)), (22, 2, (.t 201))])
 (zm 18 202
 .done)))))))))))))))))))))))))))))))))))))))))))))))))))))))))))))))))))))))))))))))))))))))))))))))))))))))))))))))))))))))))))))))))))))))))))))))))))))))))))))))))))
def QFm : AT := (zr 19 (.mov (zi 0))
 .done)
def Qll : AT := (zm 203 19
 (zm 204 18
 (zr 205 (.len 0 (.t 204))
 (zr 206 (.bin .lss (.t 203) (.t 205))
 .done))))
def Qlk : AT := (zm 209 18
 (zm 210 19
 (zr 211 (.iaddr none 2 (.t 209) (.t 210))
 (zr 212 (.iaddr (some 2) 1 (.t 211) (zi 0))
 (zr 213 (.load false 1 (.t 212))
 (zm 214 18
 (zm 215 19
 (zr 216 (.iaddr none 2 (.t 214) (.t 215))
 (zr 217 (.iaddr (some 2) 1 (.t 216) (zi 1))
 (zr 218 (.load false 1 (.t 217))
 (zr 219 (.bin .neq (.t 213) (.t 218))
 (zm 220 219
 (zf 221 220 (.mov (.t 18))
 (zf 222 220 (.mov (.t 19))
 (zf 223 220 (.iaddr none 2 (.t 221) (.t 222))
 (zf 224 220 (.iaddr (some 2) 1 (.t 223) (zi 0))
 (zf 225 220 (.load false 1 (.t 224))
 (zf 226 220 (.bin .eql (.t 225) (.c (.int .i64 (-1))))
 (zr 227 (.pick (.t 220) (.c (.bool true)) (.t 226))
 .done)))))))))))))))))))
def Qlj : AT := (zr 10 (.mov (.c (.bool false)))
 .done)
def Qli : AT := (zm 207 19
 (zr 208 (.bin .add (.t 207) (zi 1))
 (zm 19 208
 .done)))
def QnR : AT := (zk 228 9 []
 (zm 10 228
 .done))
def Q5 : AF := ⟨229, [.tmp 10],
 (.seq (.reg QFv [])
 (.seq (.seq (.reg QFu [20, 21])
 (.cond (.t 22)
 (.seq (.reg QFt [23])
 .ret)
 .skip))
 (.seq (.reg QFs [25, 26, 27, 28, 24, 29, 30, 31, 32, 33, 14])
 (.seq (.seq (.reg QFr [34])
 (.cond (.t 35)
 (.seq (.reg QFq [36])
 .ret)
 .skip))
 (.seq (.reg QFp [37, 38])
 (.seq (.reg QFo [39, 40])
 (.seq (.reg QFn [41, 42, 43, 44, 45, 46, 47, 48, 49, 50, 51, 52, 53, 54, 55, 56, 57, 58, 59, 60, 61, 62, 63, 64, 65, 66, 67, 68, 69, 70, 71, 72, 73, 74, 75, 76, 77, 78, 79, 80, 81, 82, 83, 84, 85, 86, 87, 88, 89, 90, 91, 92, 93, 94, 95, 96, 97, 98, 99, 100, 101, 102, 103, 104, 105, 106, 107, 108, 109, 110, 111, 112, 113, 114, 115, 116, 117, 118, 119, 120, 121, 122, 123, 124, 125, 126, 127, 128, 129, 130, 131, 132, 133, 134, 135, 136, 137, 138, 139, 140, 141, 142, 143, 144, 145, 146, 147, 148, 149, 150, 151, 152, 153, 154, 155, 156, 157, 158, 159, 160, 161, 162, 163, 164, 165, 166, 167, 168, 169, 170, 171, 172, 173, 174, 175, 176, 177, 178, 179, 180, 181, 182, 183, 184, 185, 186, 187, 188, 189, 190, 191, 192, 193, 194, 195, 196, 197, 198, 199, 200, 201, 202])
 (.seq (.seq (.reg QFm [])
 (.block 0 (.loop (.seq (.seq (.reg Qll [203, 204, 205])
 (.cond (.t 206)
 .skip
 (.exit 0)))
 (.seq (.block 1 (.seq (.reg Qlk [209, 210, 211, 212, 213, 214, 215, 216, 217, 218, 219, 220, 221, 222, 223, 224, 225, 226])
 (.cond (.t 227)
 (.seq (.reg Qlj [])
 .ret)
 .skip)))
 (.reg Qli [207, 208]))))))
 (.seq (.reg QnR [228])
 .ret)))))))))⟩
abbrev Yi : Nat := 4
abbrev Qks : Nat := 5
/- proofmark/proofmarklaw04.NormBin -/
def QFl : AT := (.wr false (some 6) none (.box 48 (.t 1))
 (zr 10 (.mov (.c (.bool false)))
 .done))
def QFk : AT := (zm 29 0
 (zr 30 (.len 0 (.t 29))
 (zr 31 (.bin .gtr (.t 30) (zi 40))
 (zm 32 31
 (zf 33 32 (.load true 2 (.t 6))
 (.cl false (some 34) (some (32, false)) (.c (.fn (.func 24) [] [])) [(.t 33)]
 (zf 35 32 (.un .not (.t 34))
 (zr 36 (.pick (.t 32) (.c (.bool true)) (.t 35))
 .done))))))))
def QFj : AT := (zk 37 9 []
 (zm 10 37
 .done))
def QFi : AT := (zm 39 0
 (zk 40 25 [.t 39]
 (zm 38 40
 (zr 41 (.extr (.t 38) 0)
 (zr 42 (.extr (.t 38) 1)
 (zm 11 41
 (zm 12 42
 .done)))))))
def QFh : AT := (zm 43 11
 (zk 44 26 [.t 43]
 (zr 45 (.bin .eql (.t 44) (zi 0))
 .done)))
def QFg : AT := (zm 46 11
 (zm 47 2
 (zk 48 13 [.t 46, .t 47, (zi 0), (zi 0)]
 (zr 49 (.bin .eql (.t 48) (.c (.int .i64 (-1))))
 (zm 50 49
 (zt 51 50 (.mov (.t 11))
 (.cl false (some 52) (some (50, true)) (.c (.fn (.func 21) [] [])) [(.t 51), (zi 0)]
 (zt 53 50 (.bin .eql (.t 52) (.c (.int .i64 (-1))))
 (zr 54 (.pick (.t 50) (.t 53) (.c (.bool false)))
 (zm 55 54
 (.cl false (some 56) (some (55, true)) (.c (.fn (.func 9) [] [])) []
 (zr 57 (.pick (.t 55) (.t 56) (.c (.bool false)))
 (zm 10 57
 .done)))))))))))))
def QFf : AT := (zm 58 11
 (zm 59 3
 (zk 60 27 [.t 58, .t 59]
 (zm 61 11
 (zm 62 4
 (zk 63 27 [.t 61, .t 62]
 (zm 13 60
 (zm 14 63
 .done))))))))
def QFe : AT := (zm 65 11
 (zr 66 (.load true 2 (.t 6))
 (zm 67 13
 (zk 68 28 [.t 65, .t 66, .t 67]
 (zm 64 68
 (zr 69 (.extr (.t 64) 0)
 (zr 70 (.extr (.t 64) 1)
 (zm 15 69
 (zm 16 70
 .done)))))))))
def QFd : AT := (zm 72 11
 (zr 73 (.load true 2 (.t 6))
 (zm 74 14
 (zk 75 28 [.t 72, .t 73, .t 74]
 (zm 71 75
 (zr 76 (.extr (.t 71) 0)
 (zr 77 (.extr (.t 71) 1)
 (zm 17 76
 (zm 18 77
 .done)))))))))
def QFc : AT := (zm 79 11
 (zm 80 13
 (zk 81 29 [.t 79, .t 80]
 (zm 78 81
 (zr 82 (.extr (.t 78) 0)
 (zr 83 (.extr (.t 78) 1)
 (.wr false (some 19) none (.new 57 [(.int .u8 0), (.int .i64 0), (.int .i64 0), (.int .u8 0), (.int .i64 0), (.int .i64 0)])
 (.wr false none none (.store 6 (.t 19) (.t 82))
 (zm 20 83
 .done)))))))))
def Quj : AT := (zm 85 11
 (zm 86 13
 (zk 87 30 [.t 85, .t 86]
 (zm 84 87
 (zr 88 (.extr (.t 84) 0)
 (zr 89 (.extr (.t 84) 1)
 (zm 21 88
 (zm 22 89
 .done))))))))
def Qui : AT := (zm 90 20
 (zr 91 (.un .not (.t 90))
 (zm 92 91
 (zf 93 92 (.mov (.t 22))
 (zf 94 92 (.faddr 0 (.t 19))
 (zf 95 92 (.load false 1 (.t 94))
 (zf 96 92 (.bin .eql (.t 95) (zu 1))
 (zf 97 92 (.eqb true (.t 93) (.t 96))
 (zr 98 (.pick (.t 92) (.c (.bool true)) (.t 97))
 (zm 99 98
 (zf 100 99 (.mov (.t 22))
 (zf 101 99 (.mov (.t 100))
 (zt 102 101 (.mov (.t 21))
 (zt 103 101 (.faddr 1 (.t 19))
 (zt 104 101 (.load false 1 (.t 103))
 (zt 105 101 (.bin .neq (.t 102) (.t 104))
 (zf 106 99 (.pick (.t 101) (.t 105) (.c (.bool false)))
 (zr 107 (.pick (.t 99) (.c (.bool true)) (.t 106))
 (zm 108 107
 (zf 109 108 (.mov (.t 11))
 (zf 110 108 (.mov (.t 13))
 (zf 112 108 (.load true 6 (.t 19))
 (.cl true (some 111) (some (108, false)) (.c (.fn (.func 31) [] [])) [(.t 109), (.t 110)]
 (.cl false (some 113) (some (108, false)) (.c (.fn (.func 33) [] [])) [(.t 112)]
 (.cl false (some 114) (some (108, false)) (.c (.fn (.func 32) [] [])) [(.t 113)]
 (zf 115 108 (.eqb true (.t 111) (.t 114))
 (zr 116 (.pick (.t 108) (.c (.bool true)) (.t 115))
 .done)))))))))))))))))))))))))))
def Quh : AT := (zr 10 (.mov (.c (.bool false)))
 .done)
def Qug : AT := (zm 117 11
 (zm 118 2
 (zm 119 13
 (zm 120 14
 (zk 121 13 [.t 117, .t 118, .t 119, .t 120]
 (zm 122 11
 (zm 123 13
 (zk 124 21 [.t 122, .t 123]
 (zm 23 121
 (zm 24 124
 .done))))))))))
def Quf : AT := (zm 126 11
 (zr 127 (.load true 2 (.t 6))
 (zm 128 23
 (zk 129 28 [.t 126, .t 127, .t 128]
 (zm 125 129
 (zr 130 (.extr (.t 125) 0)
 (zr 131 (.extr (.t 125) 1)
 (zm 25 130
 (zm 26 131
 .done)))))))))
def Que : AT := (zm 133 11
 (zr 134 (.load true 2 (.t 6))
 (zm 135 24
 (zk 136 28 [.t 133, .t 134, .t 135]
 (zm 132 136
 (zr 137 (.extr (.t 132) 0)
 (zr 138 (.extr (.t 132) 1)
 (zm 27 137
 (zm 28 138
 .done)))))))))
def Qud : AT := (zm 139 28
 (zr 140 (.un .not (.t 139))
 (zm 141 140
 (zf 142 141 (.mov (.t 27))
 (zf 143 141 (.mov (.t 15))
 (.cl false (some 144) (some (141, false)) (.c (.fn (.func 34) [] [])) [(zu 16), (.t 143), (zi 0)]
 (zf 145 141 (.bin .neq (.t 142) (.t 144))
 (zr 146 (.pick (.t 141) (.c (.bool true)) (.t 145))
 (zm 147 146
 (zf 148 147 (.mov (.t 11))
 (zf 149 147 (.mov (.t 2))
 (zf 150 147 (.mov (.t 14))
 (.cl false (some 151) (some (147, false)) (.c (.fn (.func 13) [] [])) [(.t 148), (.t 149), (.c (.int .i64 (-1))), (.t 150)]
 (zf 152 147 (.bin .neq (.t 151) (.c (.int .i64 (-1))))
 (zr 153 (.pick (.t 147) (.c (.bool true)) (.t 152))
 (zm 154 153
 (zf 155 154 (.mov (.t 11))
 (zf 156 154 (.mov (.t 2))
 (zf 157 154 (.mov (.t 13))
 (zf 158 154 (.mov (.t 11))
 (.cl false (some 159) (some (154, false)) (.c (.fn (.func 26) [] [])) [(.t 158)]
 (.cl false (some 160) (some (154, false)) (.c (.fn (.func 13) [] [])) [(.t 155), (.t 156), (.t 157), (.t 159)]
 (zf 161 154 (.bin .neq (.t 160) (.c (.int .i64 (-1))))
 (zr 162 (.pick (.t 154) (.c (.bool true)) (.t 161))
 .done))))))))))))))))))))))))
def Quc : AT := (zr 10 (.mov (.c (.bool false)))
 .done)
def Qub : AT := (zm 163 2
 (zk 164 11 [.t 163]
 (zr 165 (.un .not (.t 164))
 .done)))
def Qua : AT := (zm 166 23
 (zr 167 (.bin .eql (.t 166) (.c (.int .i64 (-1))))
 (zm 168 167
 (.cl false (some 169) (some (168, true)) (.c (.fn (.func 9) [] [])) []
 (zr 170 (.pick (.t 168) (.t 169) (.c (.bool false)))
 (zm 10 170
 .done))))))
def Qt9 : AT := (zm 171 26
 (zm 172 171
 (zt 173 172 (.mov (.t 25))
 (zt 174 172 (.mov (.t 2))
 (zt 175 172 (.mov (.t 15))
 (zt 176 172 (.mov (.t 17))
 (.cl false (some 177) (some (172, true)) (.c (.fn (.func 34) [] [])) [(.t 174), (.t 175), (.t 176)]
 (zt 178 172 (.bin .eql (.t 173) (.t 177))
 (zr 179 (.pick (.t 172) (.t 178) (.c (.bool false)))
 (zm 180 179
 (.cl false (some 181) (some (180, true)) (.c (.fn (.func 9) [] [])) []
 (zr 182 (.pick (.t 180) (.t 181) (.c (.bool false)))
 (zm 10 182
 .done)))))))))))))
def Xg : AF := ⟨183, [.tmp 10],
 (.seq (.reg QFl [])
 (.seq (.seq (.reg QFk [29, 30, 31, 32, 33, 34, 35])
 (.cond (.t 36)
 (.seq (.reg QFj [37])
 .ret)
 .skip))
 (.seq (.reg QFi [39, 40, 38, 41, 42, 12])
 (.seq (.seq (.reg QFh [43, 44])
 (.cond (.t 45)
 (.seq (.reg QFg [46, 47, 48, 49, 50, 51, 52, 53, 54, 55, 56, 57])
 .ret)
 .skip))
 (.seq (.reg QFf [58, 59, 60, 61, 62, 63])
 (.seq (.reg QFe [65, 66, 67, 68, 64, 69, 70, 16])
 (.seq (.reg QFd [72, 73, 74, 75, 71, 76, 77, 18])
 (.seq (.reg QFc [79, 80, 81, 78, 82, 83])
 (.seq (.reg Quj [85, 86, 87, 84, 88, 89])
 (.seq (.seq (.reg Qui [90, 91, 92, 93, 94, 95, 96, 97, 98, 99, 100, 101, 102, 103, 104, 105, 106, 107, 108, 109, 110, 111, 112, 113, 114, 115])
 (.cond (.t 116)
 (.seq (.reg Quh [])
 .ret)
 .skip))
 (.seq (.reg Qug [117, 118, 119, 120, 121, 122, 123, 124])
 (.seq (.reg Quf [126, 127, 128, 129, 125, 130, 131])
 (.seq (.reg Que [133, 134, 135, 136, 132, 137, 138])
 (.seq (.seq (.reg Qud [139, 140, 141, 142, 143, 144, 145, 146, 147, 148, 149, 150, 151, 152, 153, 154, 155, 156, 157, 158, 159, 160, 161])
 (.cond (.t 162)
 (.seq (.reg Quc [])
 .ret)
 .skip))
 (.seq (.seq (.reg Qub [163, 164])
 (.cond (.t 165)
 (.seq (.reg Qua [166, 167, 168, 169, 170])
 .ret)
 .skip))
 (.seq (.reg Qt9 [171, 172, 173, 174, 175, 176, 177, 178, 179, 180, 181, 182])
 .ret))))))))))))))))⟩
abbrev YG : Nat := 6
/- proofmark/proofmarklaw04.NormOf -/
def QFb : AT := (.wr false (some 3) none (.box 48 (.t 1))
 (zr 4 (.mov (.c (.bool false)))
 .done))
def QFa : AT := (zm 14 0
 (zr 15 (.len 0 (.t 14))
 (zr 16 (.bin .gtr (.t 15) (zi 40))
 (zm 17 16
 (zf 18 17 (.load true 2 (.t 3))
 (.cl false (some 19) (some (17, false)) (.c (.fn (.func 24) [] [])) [(.t 18)]
 (zf 20 17 (.un .not (.t 19))
 (zr 21 (.pick (.t 17) (.c (.bool true)) (.t 20))
 .done))))))))
def QE9 : AT := (zk 22 9 []
 (zm 4 22
 .done))
def QE8 : AT := (zm 24 0
 (zk 25 25 [.t 24]
 (zm 23 25
 (zr 26 (.extr (.t 23) 0)
 (zr 27 (.extr (.t 23) 1)
 (zm 5 26
 (zm 6 27
 .done)))))))
def QE7 : AT := (zm 28 5
 (zk 29 26 [.t 28]
 (zm 7 29
 .done)))
def QE6 : AT := (zr 8 (.mov (zi 0))
 .done)
def Qt7 : AT := (zm 30 8
 (zm 31 7
 (zr 32 (.bin .lss (.t 30) (.t 31))
 .done)))
def Qt6 : AT := (zm 35 5
 (zm 36 8
 (zk 37 35 [.t 35, .t 36]
 (zm 9 37
 .done))))
def Qt5 : AT := (zm 39 5
 (zr 40 (.load true 2 (.t 3))
 (zm 41 9
 (zk 42 28 [.t 39, .t 40, .t 41]
 (zm 38 42
 (zr 43 (.extr (.t 38) 0)
 (zr 44 (.extr (.t 38) 1)
 (zm 10 43
 (zm 11 44
 .done)))))))))
def Qt4 : AT := (zm 46 5
 (zr 47 (.load true 2 (.t 3))
 (zm 48 8
 (zk 49 28 [.t 46, .t 47, .t 48]
 (zm 45 49
 (zr 50 (.extr (.t 45) 0)
 (zr 51 (.extr (.t 45) 1)
 (zm 12 50
 (zm 13 51
 .done)))))))))
def Qnn : AT := (zm 52 11
 (zr 53 (.un .not (.t 52))
 (zm 54 53
 (zf 55 54 (.mov (.t 13))
 (zf 56 54 (.un .not (.t 55))
 (zr 57 (.pick (.t 54) (.c (.bool true)) (.t 56))
 (zm 58 57
 (zf 59 58 (.mov (.t 10))
 (zf 60 58 (.mov (.t 12))
 (zf 61 58 (.bin .neq (.t 59) (.t 60))
 (zr 62 (.pick (.t 58) (.c (.bool true)) (.t 61))
 (zm 63 62
 (zf 64 63 (.mov (.t 5))
 (zf 65 63 (.mov (.t 9))
 (.cl false (some 66) (some (63, false)) (.c (.fn (.func 35) [] [])) [(.t 64), (.t 65)]
 (zf 67 63 (.mov (.t 9))
 (zf 68 63 (.bin .neq (.t 66) (.t 67))
 (zr 69 (.pick (.t 63) (.c (.bool true)) (.t 68))
 .done))))))))))))))))))
def Qnm : AT := (zr 4 (.mov (.c (.bool false)))
 .done)
def Qnl : AT := (zm 33 8
 (zr 34 (.bin .add (.t 33) (zi 1))
 (zm 8 34
 .done)))
def Qt8 : AT := (zm 70 5
 (zk 71 35 [.t 70, (.c (.int .i64 (-1)))]
 (zr 72 (.bin .eql (.t 71) (.c (.int .i64 (-1))))
 (zm 73 72
 (zt 74 73 (.mov (.t 5))
 (zt 75 73 (.mov (.t 5))
 (.cl false (some 76) (some (73, true)) (.c (.fn (.func 26) [] [])) [(.t 75)]
 (.cl false (some 77) (some (73, true)) (.c (.fn (.func 35) [] [])) [(.t 74), (.t 76)]
 (zt 78 73 (.bin .eql (.t 77) (.c (.int .i64 (-1))))
 (zr 79 (.pick (.t 73) (.t 78) (.c (.bool false)))
 (zm 80 79
 (.cl false (some 81) (some (80, true)) (.c (.fn (.func 9) [] [])) []
 (zr 82 (.pick (.t 80) (.t 81) (.c (.bool false)))
 (zm 4 82
 .done))))))))))))))
def Xp : AF := ⟨83, [.tmp 4],
 (.seq (.reg QFb [])
 (.seq (.seq (.reg QFa [14, 15, 16, 17, 18, 19, 20])
 (.cond (.t 21)
 (.seq (.reg QE9 [22])
 .ret)
 .skip))
 (.seq (.reg QE8 [24, 25, 23, 26, 27, 6])
 (.seq (.reg QE7 [28, 29])
 (.seq (.seq (.reg QE6 [])
 (.block 0 (.loop (.seq (.seq (.reg Qt7 [30, 31])
 (.cond (.t 32)
 .skip
 (.exit 0)))
 (.seq (.block 1 (.seq (.reg Qt6 [35, 36, 37])
 (.seq (.reg Qt5 [39, 40, 41, 42, 38, 43, 44])
 (.seq (.reg Qt4 [46, 47, 48, 49, 45, 50, 51])
 (.seq (.reg Qnn [52, 53, 54, 55, 56, 57, 58, 59, 60, 61, 62, 63, 64, 65, 66, 67, 68])
 (.cond (.t 69)
 (.seq (.reg Qnm [])
 .ret)
 .skip))))))
 (.reg Qnl [33, 34]))))))
 (.seq (.reg Qt8 [70, 71, 72, 73, 74, 75, 76, 77, 78, 79, 80, 81, 82])
 .ret))))))⟩
abbrev X5 : Nat := 7
/- proofmark/proofmarklaw04.NormKnown -/
def zq5_0 : AT := (zr 0 (.mov (.c (.bool false)))
 .done)
def zq5_1 : AT := (zr 10 (.build [(.int .u8 0), (.int .i64 0), (.int .i64 0), (.int .u8 0), (.int .i64 0), (.int .i64 0)] [(0, 1, (zu 2))])
 (zr 11 (.build [(.int .u8 0), (.int .i64 0), (.int .i64 0), (.int .u8 0), (.int .i64 0), (.int .i64 0)] [(0, 1, (zu 2)), (1, 1, (zi 1))])
 (zr 12 (.build [(.int .u8 0), (.int .i64 0), (.int .i64 0), (.int .u8 0), (.int .i64 0), (.int .i64 0)] [(0, 1, (zu 1)), (1, 1, (zi 8))])
 (zr 13 (.build [(.int .u8 0), (.int .i64 0), (.int .i64 0), (.int .u8 0), (.int .i64 0), (.int .i64 0)] [(0, 1, (zu 4)), (3, 1, (zu 1)), (4, 1, (zi 0)), (5, 1, (zi 2))])
 (zr 14 (.build [(.int .u8 0), (.int .i64 0), (.int .i64 0), (.int .u8 0), (.int .i64 0), (.int .i64 0)] [(0, 1, (zu 4)), (3, 1, (zu 14)), (4, 1, (zi 0)), (5, 1, (zi 1))])
 (zr 15 (.build [(.int .u8 0), (.int .i64 0), (.int .i64 0), (.int .u8 0), (.int .i64 0), (.int .i64 0)] [(0, 1, (zu 1)), (1, 1, (zi 1))])
 (zr 16 (.build [(.int .u8 0), (.int .i64 0), (.int .i64 0), (.int .u8 0), (.int .i64 0), (.int .i64 0)] [(0, 1, (zu 4)), (3, 1, (zu 10)), (4, 1, (zi 0)), (5, 1, (zi 5))])
 (zr 17 (.build [(.int .u8 0), (.int .i64 0), (.int .i64 0), (.int .u8 0), (.int .i64 0), (.int .i64 0)] [(0, 1, (zu 4)), (3, 1, (zu 10)), (4, 1, (zi 4)), (5, 1, (zi 2))])
 (zr 18 (.build [(.int .u8 0), (.int .i64 0), (.int .i64 0), (.int .u8 0), (.int .i64 0), (.int .i64 0)] [(0, 1, (zu 4)), (3, 1, (zu 3)), (4, 1, (zi 2)), (5, 1, (zi 1))])
 (zr 19 (.build [(.int .u8 0), (.int .i64 0), (.int .i64 0), (.int .u8 0), (.int .i64 0), (.int .i64 0)] [(0, 1, (zu 3)), (2, 1, (zi 1)), (5, 1, (zi 3))])
 (zr 20 (.build [(.int .u8 0), (.int .i64 0), (.int .i64 0), (.int .u8 0), (.int .i64 0), (.int .i64 0)] [(0, 1, (zu 1)), (1, 1, (.c (.int .i64 (-9223372036854775808))))])
 (zr 21 (.build [(.int .u8 0), (.int .i64 0), (.int .i64 0), (.int .u8 0), (.int .i64 0), (.int .i64 0)] [(0, 1, (zu 4)), (3, 1, (zu 2)), (4, 1, (zi 1)), (5, 1, (zi 0))])
 (zr 22 (.build [(.int .u8 0), (.int .i64 0), (.int .i64 0), (.int .u8 0), (.int .i64 0), (.int .i64 0)] [(0, 1, (zu 1)), (1, 1, (.c (.int .i64 (-1))))])
 (zr 23 (.build [(.int .u8 0), (.int .i64 0), (.int .i64 0), (.int .u8 0), (.int .i64 0), (.int .i64 0)] [(0, 1, (zu 4)), (3, 1, (zu 16)), (4, 1, (zi 4)), (5, 1, (zi 5))])
 (.wr false (some 24) none (.bsl false true 57 6 [(.int .u8 0), (.int .i64 0), (.int .i64 0), (.int .u8 0), (.int .i64 0), (.int .i64 0)] 14 [(0, 6, (.t 10)), (6, 6, (.t 11)), (12, 6, (.t 12)), (18, 6, (.t 13)), (24, 6, (.t 14)), (30, 6, (.t 15)), (36, 6, (.t 16)), (42, 6, (.t 17)), (48, 6, (.t 18)), (54, 6, (.t 19)), (60, 6, (.t 20)), (66, 6, (.t 21)), (72, 6, (.t 22)), (78, 6, (.t 23))])
 (zm 1 24
 .done))))))))))))))))
def zq5_2 : AT := (.wr false (some 25) none (.bsl false false 2 1 [(.int .i64 0)] 2 [(0, 1, (zi 5)), (1, 1, (.c (.int .i64 (-3))))])
 (zr 26 (.build [(.int .i64 0), (.int .i64 0), (.int .i64 0), (.int .i64 0)] [(0, 1, (zi 1)), (2, 1, (zi 13)), (3, 1, (zi 4))])
 (.wr false (some 27) none (.bsl false true 69 4 [(.int .i64 0), (.int .i64 0), (.int .i64 0), (.int .i64 0)] 1 [(0, 4, (.t 26))])
 (zr 28 (.build [(.lst 0 [] true), (.lst 0 [] true)] [(0, 1, (.t 25)), (1, 1, (.t 27))])
 (.wr false (some 2) none (.new 48 [(.lst 0 [] true), (.lst 0 [] true)])
 (.wr false none none (.store 2 (.t 2) (.t 28))
 .done))))))
def zq5_3 : AT := (.wr false (some 29) none (.bsl false false 2 1 [(.int .i64 0)] 8 [(0, 1, (zi 0)), (1, 1, (zi 1)), (2, 1, (.c (.int .i64 (-1)))), (3, 1, (zi 2)), (4, 1, (zi 3)), (5, 1, (zi 64)), (6, 1, (zi 4611686018427387904)), (7, 1, (.c (.int .i64 (-9223372036854775808))))])
 (zm 3 29
 .done))
def zq5_4 : AT := (zr 4 (.mov (zu 0))
 .done)
def QxX : AT := (zm 30 4
 (zr 31 (.bin .lss (.t 30) (zu 18))
 .done))
def QxW : AT := (zr 5 (.mov (zi 0))
 .done)
def QsI : AT := (zm 34 5
 (zm 35 1
 (zr 36 (.len 0 (.t 35))
 (zr 37 (.bin .lss (.t 34) (.t 36))
 .done))))
def QsH : AT := (zr 6 (.mov (zi 0))
 .done)
def Qnk : AT := (zm 40 6
 (zm 41 1
 (zr 42 (.len 0 (.t 41))
 (zr 43 (.bin .lss (.t 40) (.t 42))
 .done))))
def QiM : AT := (zm 46 3
 (zm 47 5
 (zm 48 6
 (zr 49 (.bin .add (.t 47) (.t 48))
 (zr 50 (.bin .rem (.t 49) (zi 8))
 (zr 51 (.iaddr none 1 (.t 46) (.t 50))
 (zr 52 (.load false 1 (.t 51))
 (zm 53 3
 (zm 54 5
 (zr 55 (.bin .mul (.t 54) (zi 3))
 (zm 56 6
 (zr 57 (.bin .add (.t 55) (.t 56))
 (zr 58 (.bin .rem (.t 57) (zi 8))
 (zr 59 (.iaddr none 1 (.t 53) (.t 58))
 (zr 60 (.load false 1 (.t 59))
 (zm 7 52
 (zm 8 60
 .done)))))))))))))))))
def QiL : AT := (zm 61 1
 (zr 62 (.load true 2 (.t 2))
 (zm 63 4
 (zm 64 5
 (zm 65 6
 (zk 66 6 [.t 61, .t 62, .t 63, .t 64, .t 65]
 (zr 67 (.un .not (.t 66))
 (zm 68 67
 (zf 69 68 (.mov (.t 1))
 (zf 70 68 (.mov (.t 4))
 (zf 71 68 (.mov (.t 5))
 (zf 72 68 (.mov (.t 6))
 (zf 73 68 (.mov (.t 7))
 (zf 74 68 (.mov (.t 8))
 (.cl false (some 75) (some (68, false)) (.c (.fn (.func 3) [] [])) [(.t 69), (.t 70), (.t 71), (.t 72), (.t 73), (.t 74)]
 (zf 76 68 (.un .not (.t 75))
 (zr 77 (.pick (.t 68) (.c (.bool true)) (.t 76))
 (zm 78 77
 (zf 79 78 (.mov (.t 4))
 (zf 80 78 (.bin .lss (.t 79) (zu 3))
 (zf 81 78 (.mov (.t 80))
 (zt 82 81 (.mov (.t 1))
 (zt 83 81 (.mov (.t 5))
 (zt 84 81 (.mov (.t 6))
 (zt 85 81 (.mov (.t 7))
 (zt 86 81 (.mov (.t 8))
 (.cl false (some 87) (some (81, true)) (.c (.fn (.func 4) [] [])) [(.t 82), (.t 83), (.t 84), (.t 85), (.t 86)]
 (zt 88 81 (.un .not (.t 87))
 (zt 89 81 (.mov (.t 88))
 (zf 90 89 (.mov (.t 1))
 (zf 91 89 (.mov (.t 5))
 (zf 92 89 (.mov (.t 6))
 (zf 93 89 (.mov (.t 4))
 (zf 94 89 (.mov (.t 7))
 (.cl false (some 95) (some (89, false)) (.c (.fn (.func 36) [] [])) [(.t 90), (.t 91), (.t 92), (.t 93), (.t 94)]
 (zf 96 89 (.un .not (.t 95))
 (zt 97 81 (.pick (.t 89) (.c (.bool true)) (.t 96))
 (zf 98 78 (.pick (.t 81) (.t 97) (.c (.bool false)))
 (zr 99 (.pick (.t 78) (.c (.bool true)) (.t 98))
 .done)))))))))))))))))))))))))))))))))))))))
def QiK : AT := (zr 0 (.mov (.c (.bool false)))
 .done)
def QiJ : AT := (zm 44 6
 (zr 45 (.bin .add (.t 44) (zi 1))
 (zm 6 45
 .done)))
def Qlh : AT := (zm 38 5
 (zr 39 (.bin .add (.t 38) (zi 1))
 (zm 5 39
 .done)))
def Qrj : AT := (zm 32 4
 (zr 33 (.bin .add (.t 32) (zu 1))
 (zm 4 33
 .done)))
def Qzt : AT := (zr 9 (.mov (.c (.val (.pointer none))))
 .done)
def Qzs : AT := (zm 100 1
 (zr 101 (.load true 2 (.t 2))
 (zk 102 7 [.t 100, .t 101]
 (zm 103 102
 (zt 104 103 (.mov (.t 1))
 (zt 105 103 (.build [(.lst 0 [] true), (.lst 0 [] true)] [])
 (.cl false (some 106) (some (103, true)) (.c (.fn (.func 7) [] [])) [(.t 104), (.t 105)]
 (zr 107 (.pick (.t 103) (.t 106) (.c (.bool false)))
 (zm 108 107
 (zt 109 108 (.mov (.t 9))
 (.cl false (some 110) (some (108, true)) (.c (.fn (.func 12) [] [])) [(.t 109), (zi 1)]
 (zt 111 108 (.bin .eql (.t 110) (.c (.int .i64 (-1))))
 (zr 112 (.pick (.t 108) (.t 111) (.c (.bool false)))
 (zm 113 112
 (zt 114 113 (.mov (.t 9))
 (.cl false (some 115) (some (113, true)) (.c (.fn (.func 13) [] [])) [(.t 114), (zu 1), (zi 0), (zi 0)]
 (zt 116 113 (.bin .eql (.t 115) (.c (.int .i64 (-1))))
 (zr 117 (.pick (.t 113) (.t 116) (.c (.bool false)))
 (zm 118 117
 (zt 119 118 (.mov (.t 9))
 (.cl false (some 120) (some (118, true)) (.c (.fn (.func 35) [] [])) [(.t 119), (zi 0)]
 (zt 121 118 (.bin .eql (.t 120) (.c (.int .i64 (-1))))
 (zr 122 (.pick (.t 118) (.t 121) (.c (.bool false)))
 (zm 123 122
 (zt 124 123 (.mov (.t 9))
 (.cl false (some 125) (some (123, true)) (.c (.fn (.func 31) [] [])) [(.t 124), (zi 0)]
 (zt 126 123 (.un .not (.t 125))
 (zr 127 (.pick (.t 123) (.t 126) (.c (.bool false)))
 (zm 128 127
 (.cl false (some 129) (some (128, true)) (.c (.fn (.func 9) [] [])) []
 (zr 130 (.pick (.t 128) (.t 129) (.c (.bool false)))
 (zm 0 130
 .done))))))))))))))))))))))))))))))))
def Xq : AF := ⟨131, [.tmp 0],
 (.seq (.reg zq5_0 [])
 (.seq (.reg zq5_1 [10, 11, 12, 13, 14, 15, 16, 17, 18, 19, 20, 21, 22, 23, 24])
 (.seq (.reg zq5_2 [25, 26, 27, 28])
 (.seq (.reg zq5_3 [29])
 (.seq (.seq (.reg zq5_4 [])
 (.block 0 (.loop (.seq (.seq (.reg QxX [30])
 (.cond (.t 31)
 .skip
 (.exit 0)))
 (.seq (.block 1 (.seq (.reg QxW [])
 (.block 2 (.loop (.seq (.seq (.reg QsI [34, 35, 36])
 (.cond (.t 37)
 .skip
 (.exit 2)))
 (.seq (.block 3 (.seq (.reg QsH [])
 (.block 4 (.loop (.seq (.seq (.reg Qnk [40, 41, 42])
 (.cond (.t 43)
 .skip
 (.exit 4)))
 (.seq (.block 5 (.seq (.reg QiM [46, 47, 48, 49, 50, 51, 52, 53, 54, 55, 56, 57, 58, 59, 60])
 (.seq (.reg QiL [61, 62, 63, 64, 65, 66, 67, 68, 69, 70, 71, 72, 73, 74, 75, 76, 77, 78, 79, 80, 81, 82, 83, 84, 85, 86, 87, 88, 89, 90, 91, 92, 93, 94, 95, 96, 97, 98])
 (.cond (.t 99)
 (.seq (.reg QiK [])
 .ret)
 .skip))))
 (.reg QiJ [44, 45])))))))
 (.reg Qlh [38, 39])))))))
 (.reg Qrj [32, 33]))))))
 (.seq (.reg Qzt [])
 (.seq (.reg Qzs [100, 101, 102, 103, 104, 105, 106, 107, 108, 109, 110, 111, 112, 113, 114, 115, 116, 117, 118, 119, 120, 121, 122, 123, 124, 125, 126, 127, 128, 129, 130])
 .ret)))))))⟩
abbrev Zr : Nat := 8
/- proofmark/proofmarklaw04.works -/
def zq6_0 : AT := (zr 0 (.mov (.c (.bool false)))
 .done)
def zq6_1 : AT := (zk 9 37 []
 (zm 1 9
 .done))
def zq6_2 : AT := (zm 10 1
 (zk 11 38 [.t 10, (zi 0)]
 (zm 12 1
 (zk 13 38 [.t 12, (zi 1)]
 (zm 2 11
 (zm 3 13
 .done))))))
def zq6_3 : AT := (zm 14 1
 (zm 15 1
 (zm 16 2
 (zm 17 1
 (zk 18 20 [.t 17, (zi 5)]
 (zk 19 13 [.t 15, (zu 1), .t 16, .t 18]
 (zm 20 1
 (zk 21 20 [.t 20, (.c (.int .i64 (-5)))]
 (zk 22 13 [.t 14, (zu 1), .t 19, .t 21]
 (zm 4 22
 .done))))))))))
def zq6_4 : AT := (zm 23 1
 (zm 24 2
 (zm 25 1
 (zk 26 20 [.t 25, (zi 3)]
 (zk 27 13 [.t 23, (zu 11), .t 24, .t 26]
 (zm 28 1
 (zm 29 1
 (zk 30 20 [.t 29, (zi 8)]
 (zm 31 2
 (zk 32 13 [.t 28, (zu 3), .t 30, .t 31]
 (zm 5 27
 (zm 6 32
 .done))))))))))))
def zq6_5 : AT := (zm 33 1
 (zm 34 2
 (zm 35 3
 (zk 36 13 [.t 33, (zu 14), .t 34, .t 35]
 (zm 7 36
 .done)))))
def zq6_6 : AT := (zm 37 1
 (zm 38 1
 (zm 39 2
 (zm 40 3
 (zk 41 13 [.t 38, (zu 10), .t 39, .t 40]
 (zm 42 1
 (zk 43 20 [.t 42, (zi 1)]
 (zk 44 13 [.t 37, (zu 15), .t 41, .t 43]
 (zm 8 44
 .done)))))))))
def zq6_7 : AT := (zm 45 4
 (zm 46 2
 (zr 47 (.bin .eql (.t 45) (.t 46))
 (zm 48 47
 (zt 49 48 (.mov (.t 5))
 (zt 50 48 (.mov (.t 6))
 (zt 51 48 (.bin .eql (.t 49) (.t 50))
 (zr 52 (.pick (.t 48) (.t 51) (.c (.bool false)))
 (zm 53 52
 (zt 54 53 (.mov (.t 1))
 (zt 55 53 (.mov (.t 5))
 (.cl false (some 56) (some (53, true)) (.c (.fn (.func 39) [] [])) [(.t 54), (.t 55)]
 (zt 57 53 (.bin .eql (.t 56) (.c (.str [40, 115, 48, 32, 42, 32, 56, 41])))
 (zr 58 (.pick (.t 53) (.t 57) (.c (.bool false)))
 (zm 59 58
 (zt 60 59 (.mov (.t 1))
 (zt 61 59 (.mov (.t 7))
 (.cl false (some 62) (some (59, true)) (.c (.fn (.func 21) [] [])) [(.t 60), (.t 61)]
 (zt 63 59 (.mov (.t 1))
 (zt 64 59 (.mov (.t 7))
 (zt 65 59 (.mov (.t 1))
 (.cl false (some 66) (some (59, true)) (.c (.fn (.func 20) [] [])) [(.t 65), (zi 1)]
 (.cl false (some 67) (some (59, true)) (.c (.fn (.func 13) [] [])) [(.t 63), (zu 10), (.t 64), (.t 66)]
 (zt 68 59 (.bin .eql (.t 62) (.t 67))
 (zr 69 (.pick (.t 59) (.t 68) (.c (.bool false)))
 (zm 70 69
 (zt 71 70 (.mov (.t 8))
 (zt 72 70 (.mov (.t 1))
 (zt 73 70 (.mov (.t 2))
 (zt 74 70 (.mov (.t 3))
 (.cl false (some 75) (some (70, true)) (.c (.fn (.func 13) [] [])) [(.t 72), (zu 16), (.t 73), (.t 74)]
 (zt 76 70 (.bin .eql (.t 71) (.t 75))
 (zr 77 (.pick (.t 70) (.t 76) (.c (.bool false)))
 (zm 78 77
 (zt 79 78 (.mov (.t 1))
 (zt 80 78 (.mov (.t 2))
 (.cl false (some 81) (some (78, true)) (.c (.fn (.func 40) [] [])) [(.t 79), (zi 0), (zi 0), (.t 80)]
 (zt 82 78 (.bin .neq (.t 81) (.c (.int .i64 (-1))))
 (zr 83 (.pick (.t 78) (.t 82) (.c (.bool false)))
 (zm 0 83
 .done))))))))))))))))))))))))))))))))))))))))
def XZ : AF := ⟨84, [.tmp 0],
 (.seq (.reg zq6_0 [])
 (.seq (.reg zq6_1 [9])
 (.seq (.reg zq6_2 [10, 11, 12, 13])
 (.seq (.reg zq6_3 [14, 15, 16, 17, 18, 19, 20, 21, 22])
 (.seq (.reg zq6_4 [23, 24, 25, 26, 27, 28, 29, 30, 31, 32])
 (.seq (.reg zq6_5 [33, 34, 35, 36])
 (.seq (.reg zq6_6 [37, 38, 39, 40, 41, 42, 43, 44])
 (.seq (.reg zq6_7 [45, 46, 47, 48, 49, 50, 51, 52, 53, 54, 55, 56, 57, 58, 59, 60, 61, 62, 63, 64, 65, 66, 67, 68, 69, 70, 71, 72, 73, 74, 75, 76, 77, 78, 79, 80, 81, 82, 83])
 .ret))))))))⟩
abbrev Qz : Nat := 9
/- proofmark/proofmarklaw04.plains -/
def zq7_0 : AT := (zr 8 (.mov (.c (.val (.pointer none))))
 (zr 9 (.mov (zi 0))
 (zr 10 (.mov (zi 0))
 (zr 11 (.mov (zi 0))
 (zr 12 (.mov (.c (.bool false)))
 .done)))))
def zq7_1 : AT := (zm 19 0
 (zk 20 25 [.t 19]
 (zm 18 20
 (zr 21 (.extr (.t 18) 0)
 (zr 22 (.extr (.t 18) 1)
 (zm 13 21
 (zm 14 22
 .done)))))))
def zq7_2 : AT := (zm 23 13
 (zk 24 26 [.t 23]
 (zr 25 (.bin .eql (.t 24) (zi 0))
 .done)))
def zq7_3 : AT := (zm 26 13
 (zm 8 26
 (zr 9 (.mov (zi 0))
 (zr 10 (.mov (zi 0))
 (zr 11 (.mov (zi 0))
 (zr 12 (.mov (.c (.bool false)))
 .done))))))
def zq7_4 : AT := (zm 27 13
 (zm 28 1
 (zk 29 27 [.t 27, .t 28]
 (zm 30 13
 (zm 31 2
 (zk 32 27 [.t 30, .t 31]
 (zm 33 13
 (zm 34 3
 (zk 35 27 [.t 33, .t 34]
 (zm 15 29
 (zm 16 32
 (zm 17 35
 .done))))))))))))
def zq7_5 : AT := (zm 36 13
 (zm 37 13
 (zm 38 15
 (zk 39 35 [.t 37, .t 38]
 (zm 40 13
 (zm 41 16
 (zk 42 35 [.t 40, .t 41]
 (zm 43 13
 (zm 44 17
 (zk 45 35 [.t 43, .t 44]
 (zm 8 36
 (zm 9 39
 (zm 10 42
 (zm 11 45
 (zr 12 (.mov (.c (.bool true)))
 .done)))))))))))))))
def XQ : AF := ⟨46, [.tmp 8, .tmp 9, .tmp 10, .tmp 11, .tmp 12],
 (.seq (.reg zq7_0 [])
 (.seq (.reg zq7_1 [19, 20, 18, 21, 22, 14])
 (.seq (.seq (.reg zq7_2 [23, 24])
 (.cond (.t 25)
 (.seq (.reg zq7_3 [26])
 .ret)
 .skip))
 (.seq (.reg zq7_4 [27, 28, 29, 30, 31, 32, 33, 34, 35])
 (.seq (.reg zq7_5 [36, 37, 38, 39, 40, 41, 42, 43, 44, 45])
 .ret)))))⟩
abbrev Z9 : Nat := 10
/- proofmark/proofmarkref01.Known -/
def QxV : AT := (zr 2 (.mov (.c (.bool false)))
 .done)
def QxU : AT := (zm 3 0
 (zr 4 (.bin .geq (.t 3) (zu 1))
 (zm 5 4
 (zt 6 5 (.mov (.t 0))
 (zt 7 5 (.bin .leq (.t 6) (zu 16))
 (zr 8 (.pick (.t 5) (.t 7) (.c (.bool false)))
 (zm 2 8
 .done)))))))
def Xd : AF := ⟨9, [.tmp 2],
 (.seq (.reg QxV [])
 (.seq (.reg QxU [3, 4, 5, 6, 7, 8])
 .ret))⟩
abbrev QaN : Nat := 11
/- proofmark/norm.Const -/
def QE5 : AT := (zr 4 (.mov (zi 0))
 .done)
def QE4 : AT := (zm 5 0
 (zm 6 1
 (zr 7 (.build [(.int .u8 0), (.int .i64 0), (.int .i64 0), (.int .u8 0), (.int .i64 0), (.int .i64 0)] [(0, 1, (zu 1)), (1, 1, (.t 6))])
 (zk 8 41 [.t 5, .t 7]
 (zm 4 8
 .done)))))
def QaW : AF := ⟨9, [.tmp 4],
 (.seq (.reg QE5 [])
 (.seq (.reg QE4 [5, 6, 7, 8])
 .ret))⟩
abbrev Qcn : Nat := 12
/- proofmark/norm.Bin -/
def QE3 : AT := (zr 8 (.mov (zi 0))
 .done)
def QE2 : AT := (zm 14 0
 (zm 15 2
 (zk 16 29 [.t 14, .t 15]
 (zm 13 16
 (zr 17 (.extr (.t 13) 0)
 (zr 18 (.extr (.t 13) 1)
 (.wr false (some 9) none (.new 57 [(.int .u8 0), (.int .i64 0), (.int .i64 0), (.int .u8 0), (.int .i64 0), (.int .i64 0)])
 (.wr false none none (.store 6 (.t 9) (.t 17))
 (zm 10 18
 .done)))))))))
def QE1 : AT := (zm 20 0
 (zm 21 3
 (zk 22 29 [.t 20, .t 21]
 (zm 19 22
 (zr 23 (.extr (.t 19) 0)
 (zr 24 (.extr (.t 19) 1)
 (.wr false (some 11) none (.new 57 [(.int .u8 0), (.int .i64 0), (.int .i64 0), (.int .u8 0), (.int .i64 0), (.int .i64 0)])
 (.wr false none none (.store 6 (.t 11) (.t 23))
 (zm 12 24
 .done)))))))))
def QE0 : AT := (zm 25 10
 (zr 26 (.un .not (.t 25))
 (zm 27 26
 (zf 28 27 (.mov (.t 12))
 (zf 29 27 (.un .not (.t 28))
 (zr 30 (.pick (.t 27) (.c (.bool true)) (.t 29))
 (zm 31 30
 (zf 32 31 (.mov (.t 1))
 (.cl false (some 33) (some (31, false)) (.c (.fn (.func 42) [] [])) [(.t 32)]
 (zf 34 31 (.un .not (.t 33))
 (zr 35 (.pick (.t 31) (.c (.bool true)) (.t 34))
 .done)))))))))))
def QEZ : AT := (zr 8 (.mov (.c (.int .i64 (-1))))
 .done)
def QEY : AT := (zm 36 0
 (zr 37 (.build [(.val (.pointer none))] [(0, 1, (.t 36))])
 (zm 38 1
 (zm 39 2
 (zm 40 3
 (zk 41 43 [.t 37, .t 38, .t 39, .t 40]
 (zm 8 41
 .done)))))))
def Qdq : AF := ⟨42, [.tmp 8],
 (.seq (.reg QE3 [])
 (.seq (.reg QE2 [14, 15, 16, 13, 17, 18, 9])
 (.seq (.reg QE1 [20, 21, 22, 19, 23, 24, 11])
 (.seq (.seq (.reg QE0 [25, 26, 27, 28, 29, 30, 31, 32, 33, 34])
 (.cond (.t 35)
 (.seq (.reg QEZ [])
 .ret)
 .skip))
 (.seq (.reg QEY [36, 37, 38, 39, 40, 41])
 .ret)))))⟩
abbrev Qfz : Nat := 13
/- proofmark/word.Do -/
def QEX : AT := (zr 6 (.mov (zi 0))
 .done)
def QEW : AT := (zm 8 0
 (zk 9 44 [.t 8]
 (.wr false (some 7) none (.new 80 [(.val .nilFunc), (.bool false), (.bool false), (.int .i64 0), (.bool false)])
 (.wr false none none (.store 5 (.t 7) (.t 9))
 .done))))
def QEV : AT := (zr 10 (.faddr 0 (.t 7))
 (zr 11 (.load false 1 (.t 10))
 (zr 12 (.eqf false (.t 11))
 .done)))
def QEU : AT := (zr 6 (.mov (zi 0))
 .done)
def QET : AT := (zr 13 (.faddr 0 (.t 7))
 (zr 14 (.load false 1 (.t 13))
 (zm 15 1
 (zm 16 2
 (.cl false (some 17) none (.t 14) [(.t 15), (.t 16)]
 (zm 6 17
 .done))))))
def Qgj : AF := ⟨18, [.tmp 6],
 (.seq (.reg QEX [])
 (.seq (.reg QEW [8, 9])
 (.seq (.seq (.reg QEV [10, 11])
 (.cond (.t 12)
 (.seq (.reg QEU [])
 .ret)
 .skip))
 (.seq (.reg QET [13, 14, 15, 16, 17])
 .ret))))⟩
abbrev Qhu : Nat := 14
/- proofmark/word.Swaps -/
def zqc_0 : AT := (zr 2 (.mov (.c (.bool false)))
 .done)
def zqc_1 : AT := (zm 3 0
 (zk 4 44 [.t 3]
 (zr 5 (.field false 1 1 (.t 4))
 (zm 2 5
 .done))))
def QcN : AF := ⟨6, [.tmp 2],
 (.seq (.reg zqc_0 [])
 (.seq (.reg zqc_1 [3, 4, 5])
 .ret))⟩
abbrev Qi5 : Nat := 15
/- proofmark/word.Groups -/
def zqd_0 : AT := (zr 2 (.mov (.c (.bool false)))
 .done)
def zqd_1 : AT := (zm 3 0
 (zk 4 44 [.t 3]
 (zr 5 (.field false 2 1 (.t 4))
 (zm 2 5
 .done))))
def Qbz : AF := ⟨6, [.tmp 2],
 (.seq (.reg zqd_0 [])
 (.seq (.reg zqd_1 [3, 4, 5])
 .ret))⟩
abbrev Qht : Nat := 16
/- proofmark/word.Keeps -/
def zqe_0 : AT := (zr 2 (.mov (zi 0))
 (zr 3 (.mov (.c (.bool false)))
 .done))
def zqe_1 : AT := (zm 4 0
 (zk 5 44 [.t 4]
 (zr 6 (.field false 3 1 (.t 5))
 (zm 7 0
 (zk 8 44 [.t 7]
 (zr 9 (.field false 4 1 (.t 8))
 (zm 2 6
 (zm 3 9
 .done))))))))
def QcP : AF := ⟨10, [.tmp 2, .tmp 3],
 (.seq (.reg zqe_0 [])
 (.seq (.reg zqe_1 [4, 5, 6, 7, 8, 9])
 .ret))⟩
abbrev Qi7 : Nat := 17
/- proofmark/proofmarkref04.Zero -/
def Qp0 : AT := (zr 2 (.mov (zi 0))
 (zr 3 (.mov (.c (.bool false)))
 .done))
def QpZ : AT := (zm 4 0
 .done)
def QpY : AT := (zr 6 (.bin .eql (.t 4) (zu 2))
 (zm 5 6
 .done))
def QpX : AT := (zr 7 (.bin .eql (.t 4) (zu 10))
 (zm 5 7
 .done))
def QpW : AT := (zr 8 (.bin .eql (.t 4) (zu 14))
 (zm 5 8
 .done))
def QpV : AT := (zr 9 (.bin .eql (.t 4) (zu 15))
 (zm 5 9
 .done))
def QpU : AT := (zr 2 (.mov (zi 0))
 (zr 3 (.mov (.c (.bool true)))
 .done))
def QpT : AT := (zr 11 (.bin .eql (.t 4) (zu 16))
 (zm 10 11
 .done))
def QpS : AT := (zr 2 (.mov (zi 1))
 (zr 3 (.mov (.c (.bool true)))
 .done))
def QpR : AT := (zr 2 (.mov (zi 0))
 (zr 3 (.mov (.c (.bool false)))
 .done))
def QP : AF := ⟨12, [.tmp 2, .tmp 3],
 (.seq (.reg Qp0 [])
 (.seq (.seq (.reg QpZ [])
 (.block 0 (.seq (.seq (.reg QpY [6])
 (.cond (.t 5)
 .skip
 (.seq (.reg QpX [7])
 (.cond (.t 5)
 .skip
 (.seq (.reg QpW [8])
 (.cond (.t 5)
 .skip
 (.reg QpV [9])))))))
 (.cond (.t 5)
 (.seq (.reg QpU [])
 .ret)
 (.seq (.reg QpT [11])
 (.cond (.t 10)
 (.seq (.reg QpS [])
 .ret)
 .skip))))))
 (.seq (.reg QpR [])
 .ret)))⟩
abbrev Qa9 : Nat := 18
/- proofmark/proofmarkref04.Fixed -/
def Qnj : AT := (zr 4 (.mov (zi 0))
 (zr 5 (.mov (.c (.bool false)))
 .done))
def Qni : AT := (zm 7 0
 (zr 8 (.bin .eql (.t 7) (zu 3))
 (zm 9 8
 (zf 10 9 (.mov (.t 0))
 (zf 11 9 (.bin .eql (.t 10) (zu 8))
 (zr 12 (.pick (.t 9) (.c (.bool true)) (.t 11))
 (zm 13 12
 (zf 14 13 (.mov (.t 0))
 (zf 15 13 (.bin .eql (.t 14) (zu 15))
 (zr 16 (.pick (.t 13) (.c (.bool true)) (.t 15))
 (zm 17 16
 (zt 18 17 (.mov (.t 1))
 (zt 19 17 (.bin .eql (.t 18) (zi 0))
 (zr 20 (.pick (.t 17) (.t 19) (.c (.bool false)))
 (zm 6 20
 .done)))))))))))))))
def Qnh : AT := (zr 4 (.mov (zi 0))
 (zr 5 (.mov (.c (.bool true)))
 .done))
def Qng : AT := (zm 22 0
 (zr 23 (.bin .eql (.t 22) (zu 9))
 (zm 24 23
 (zt 25 24 (.mov (.t 1))
 (zt 26 24 (.bin .eql (.t 25) (.c (.int .i64 (-1))))
 (zr 27 (.pick (.t 24) (.t 26) (.c (.bool false)))
 (zm 21 27
 .done)))))))
def Qnf : AT := (zr 4 (.mov (.c (.int .i64 (-1))))
 (zr 5 (.mov (.c (.bool true)))
 .done))
def Qne : AT := (zm 29 0
 (zr 30 (.bin .eql (.t 29) (zu 5))
 (zm 31 30
 (zf 32 31 (.mov (.t 0))
 (zf 33 31 (.bin .eql (.t 32) (zu 7))
 (zr 34 (.pick (.t 31) (.c (.bool true)) (.t 33))
 (zm 35 34
 (zt 36 35 (.mov (.t 1))
 (zt 37 35 (.bin .eql (.t 36) (zi 1))
 (zr 38 (.pick (.t 35) (.t 37) (.c (.bool false)))
 (zm 28 38
 .done)))))))))))
def Qnd : AT := (zr 4 (.mov (zi 0))
 (zr 5 (.mov (.c (.bool true)))
 .done))
def Qnc : AT := (zr 4 (.mov (zi 0))
 (zr 5 (.mov (.c (.bool false)))
 .done))
def QJ : AF := ⟨39, [.tmp 4, .tmp 5],
 (.seq (.reg Qnj [])
 (.seq (.block 0 (.seq (.reg Qni [7, 8, 9, 10, 11, 12, 13, 14, 15, 16, 17, 18, 19, 20])
 (.cond (.t 6)
 (.seq (.reg Qnh [])
 .ret)
 (.seq (.reg Qng [22, 23, 24, 25, 26, 27])
 (.cond (.t 21)
 (.seq (.reg Qnf [])
 .ret)
 (.seq (.reg Qne [29, 30, 31, 32, 33, 34, 35, 36, 37, 38])
 (.cond (.t 28)
 (.seq (.reg Qnd [])
 .ret)
 .skip)))))))
 (.seq (.reg Qnc [])
 .ret)))⟩
abbrev QaL : Nat := 19
/- proofmark/proofmarklaw04.num -/
def zqh_0 : AT := (zr 4 (.mov (zi 0))
 .done)
def zqh_1 : AT := (zm 5 0
 (zm 6 1
 (zk 7 12 [.t 5, .t 6]
 (zm 4 7
 .done))))
def Ys : AF := ⟨8, [.tmp 4],
 (.seq (.reg zqh_0 [])
 (.seq (.reg zqh_1 [5, 6, 7])
 .ret))⟩
abbrev Zv : Nat := 20
/- proofmark/norm.Not -/
def zqi_0 : AT := (zr 4 (.mov (zi 0))
 .done)
def zqi_1 : AT := (zm 8 0
 (zm 9 1
 (zk 10 29 [.t 8, .t 9]
 (zm 7 10
 (zr 11 (.extr (.t 7) 0)
 (zr 12 (.extr (.t 7) 1)
 (.wr false (some 5) none (.new 57 [(.int .u8 0), (.int .i64 0), (.int .i64 0), (.int .u8 0), (.int .i64 0), (.int .i64 0)])
 (.wr false none none (.store 6 (.t 5) (.t 11))
 (zm 6 12
 .done)))))))))
def zqi_2 : AT := (zm 13 6
 (zr 14 (.un .not (.t 13))
 .done))
def zqi_3 : AT := (zr 4 (.mov (.c (.int .i64 (-1))))
 .done)
def zqi_4 : AT := (zm 15 0
 (zm 16 1
 (zm 17 0
 (zk 18 12 [.t 17, (zi 0)]
 (zk 19 13 [.t 15, (zu 16), .t 16, .t 18]
 (zm 4 19
 .done))))))
def Qhr : AF := ⟨20, [.tmp 4],
 (.seq (.reg zqi_0 [])
 (.seq (.seq (.reg zqi_1 [8, 9, 10, 7, 11, 12, 5])
 (.seq (.reg zqi_2 [13])
 (.cond (.t 14)
 (.seq (.reg zqi_3 [])
 .ret)
 .skip)))
 (.seq (.reg zqi_4 [15, 16, 17, 18, 19])
 .ret)))⟩
abbrev Qid : Nat := 21
/- proofmark/proofmarkkit.Pick -/
def QES : AT := (zr 4 (.mov (zi 0))
 .done)
def QER : AT := (zm 5 1
 (zr 6 (.bin .leq (.t 5) (zi 0))
 .done))
def QEQ : AT := (zr 4 (.mov (zi 0))
 .done)
def QEP : AT := (zm 7 0
 (zm 8 1
 (zr 9 (.bin .rem (.t 7) (.t 8))
 (zm 10 1
 (zr 11 (.bin .add (.t 9) (.t 10))
 (zm 12 1
 (zr 13 (.bin .rem (.t 11) (.t 12))
 (zm 4 13
 .done))))))))
def X9 : AF := ⟨14, [.tmp 4],
 (.seq (.reg QES [])
 (.seq (.seq (.reg QER [5])
 (.cond (.t 6)
 (.seq (.reg QEQ [])
 .ret)
 .skip))
 (.seq (.reg QEP [7, 8, 9, 10, 11, 12, 13])
 .ret)))⟩
abbrev QbP : Nat := 22
abbrev QHw : Nat := 23
/- proofmark/proofmarklaw04.few -/
def QxT : AT := (.wr false (some 1) none (.box 48 (.t 0))
 (zr 2 (.mov (.c (.bool false)))
 .done))
def QxS : AT := (zr 3 (.faddr 0 (.t 1))
 (zr 4 (.load false 1 (.t 3))
 (zr 5 (.len 0 (.t 4))
 (zr 6 (.bin .leq (.t 5) (zi 60))
 (zm 7 6
 (zt 8 7 (.faddr 1 (.t 1))
 (zt 9 7 (.load false 1 (.t 8))
 (zt 10 7 (.len 0 (.t 9))
 (zt 11 7 (.bin .leq (.t 10) (zi 60))
 (zr 12 (.pick (.t 7) (.t 11) (.c (.bool false)))
 (zm 2 12
 .done)))))))))))
def Xx : AF := ⟨13, [.tmp 2],
 (.seq (.reg QxT [])
 (.seq (.reg QxS [3, 4, 5, 6, 7, 8, 9, 10, 11, 12])
 .ret))⟩
abbrev Qbo : Nat := 24
/- proofmark/proofmarkkit.Made -/
def zqm_0 : AT := (zr 2 (.mov (.c (.val (.pointer none))))
 (zr 3 (.mov (.c (.lst 0 [] true)))
 .done))
def zqm_1 : AT := (zk 7 37 []
 (zm 4 7
 .done))
def zqm_2 : AT := (zr 5 (.mov (.c (.lst 0 [] true)))
 .done)
def zqm_3 : AT := (zr 6 (.mov (zi 0))
 .done)
def zqm_4 : AT := (zm 8 6
 (zm 9 0
 (zr 10 (.len 0 (.t 9))
 (zr 11 (.bin .lss (.t 8) (.t 10))
 .done))))
def zqm_5 : AT := (zm 14 5
 (zm 15 4
 (zm 16 0
 (zm 17 6
 (zr 18 (.iaddr none 6 (.t 16) (.t 17))
 (zr 19 (.load true 6 (.t 18))
 (zk 20 41 [.t 15, .t 19]
 (.wr false (some 21) none (.bsl false false 26 1 [(.int .i64 0)] 1 [(0, 1, (.t 20))])
 (.wr false (some 22) none (.app 26 1 8 false (.t 14) (.t 21))
 (zm 5 22
 .done))))))))))
def zqm_6 : AT := (zm 12 6
 (zr 13 (.bin .add (.t 12) (zi 1))
 (zm 6 13
 .done)))
def zqm_7 : AT := (zm 23 4
 (zm 24 5
 (zm 2 23
 (zm 3 24
 .done))))
def YE : AF := ⟨25, [.tmp 2, .tmp 3],
 (.seq (.reg zqm_0 [])
 (.seq (.reg zqm_1 [7])
 (.seq (.reg zqm_2 [])
 (.seq (.seq (.reg zqm_3 [])
 (.block 0 (.loop (.seq (.seq (.reg zqm_4 [8, 9, 10])
 (.cond (.t 11)
 .skip
 (.exit 0)))
 (.seq (.block 1 (.reg zqm_5 [14, 15, 16, 17, 18, 19, 20, 21, 22]))
 (.reg zqm_6 [12, 13]))))))
 (.seq (.reg zqm_7 [23, 24])
 .ret)))))⟩
abbrev QbQ : Nat := 25
/- (*proofmark/term.Graph).Size -/
def zqn_0 : AT := (zr 2 (.mov (zi 0))
 .done)
def zqn_1 : AT := (zm 3 0
 (zr 4 (.eqp false (.t 3) (.c (.val (.pointer none))))
 .done))
def zqn_2 : AT := (zr 2 (.mov (zi 0))
 .done)
def zqn_3 : AT := (zm 5 0
 (zr 6 (.nilc (.t 5))
 (zr 7 (.faddr 0 (.t 6))
 (zr 8 (.load false 1 (.t 7))
 (zr 9 (.len 0 (.t 8))
 (zm 2 9
 .done))))))
def Y7 : AF := ⟨10, [.tmp 2],
 (.seq (.reg zqn_0 [])
 (.seq (.seq (.reg zqn_1 [3])
 (.cond (.t 4)
 (.seq (.reg zqn_2 [])
 .ret)
 .skip))
 (.seq (.reg zqn_3 [5, 6, 7, 8, 9])
 .ret)))⟩
abbrev QaZ : Nat := 26
/- proofmark/proofmarklaw04.at -/
def zqo_0 : AT := (zr 4 (.mov (zi 0))
 .done)
def zqo_1 : AT := (zm 5 1
 (zm 6 0
 (zk 7 26 [.t 6]
 (zk 8 22 [.t 5, .t 7]
 (zm 4 8
 .done)))))
def YD : AF := ⟨9, [.tmp 4],
 (.seq (.reg zqo_0 [])
 (.seq (.reg zqo_1 [5, 6, 7, 8])
 .ret))⟩
abbrev QbO : Nat := 27
/- proofmark/value.Of -/
def zqp_0 : AT := (.wr false (some 4) none (.box 48 (.t 1))
 (zr 6 (.mov (zi 0))
 (zr 7 (.mov (.c (.bool false)))
 .done)))
def zqp_1 : AT := (zm 11 0
 (zr 12 (.load true 2 (.t 4))
 (zm 13 2
 (.wr false (some 14) none (.bsl false false 26 1 [(.int .i64 0)] 1 [(0, 1, (.t 13))])
 (zk 15 45 [.t 11, .t 12, .t 14]
 (zm 10 15
 (zr 16 (.extr (.t 10) 0)
 (zr 17 (.extr (.t 10) 1)
 (zm 8 16
 (zm 9 17
 .done))))))))))
def zqp_2 : AT := (zm 18 9
 (zr 19 (.un .not (.t 18))
 .done))
def zqp_3 : AT := (zr 6 (.mov (zi 0))
 (zr 7 (.mov (.c (.bool false)))
 .done))
def zqp_4 : AT := (zm 20 8
 (zr 21 (.iaddr none 1 (.t 20) (zi 0))
 (zr 22 (.load false 1 (.t 21))
 (zm 6 22
 (zr 7 (.mov (.c (.bool true)))
 .done)))))
def Qg8 : AF := ⟨23, [.tmp 6, .tmp 7],
 (.seq (.reg zqp_0 [])
 (.seq (.reg zqp_1 [11, 12, 13, 14, 15, 10, 16, 17])
 (.seq (.seq (.reg zqp_2 [18])
 (.cond (.t 19)
 (.seq (.reg zqp_3 [])
 .ret)
 .skip))
 (.seq (.reg zqp_4 [20, 21, 22])
 .ret))))⟩
abbrev Qia : Nat := 28
/- (*proofmark/term.Graph).Node -/
def QEO : AT := (.wr false (some 4) none (.new 57 [(.int .u8 0), (.int .i64 0), (.int .i64 0), (.int .u8 0), (.int .i64 0), (.int .i64 0)])
 (zr 5 (.mov (.c (.bool false)))
 .done))
def QEN : AT := (zm 6 0
 (zm 7 1
 (zk 8 46 [.t 6, .t 7]
 (zr 9 (.un .not (.t 8))
 .done))))
def QEM : AT := (zr 10 (.build [(.int .u8 0), (.int .i64 0), (.int .i64 0), (.int .u8 0), (.int .i64 0), (.int .i64 0)] [])
 (.wr false none none (.store 6 (.t 4) (.t 10))
 (zr 5 (.mov (.c (.bool false)))
 .done)))
def QEL : AT := (zm 11 0
 (zr 12 (.nilc (.t 11))
 (zr 13 (.faddr 0 (.t 12))
 (zr 14 (.load false 1 (.t 13))
 (zm 15 1
 (zr 16 (.iaddr none 6 (.t 14) (.t 15))
 (zr 17 (.load true 6 (.t 16))
 (.wr false none none (.store 6 (.t 4) (.t 17))
 (zr 5 (.mov (.c (.bool true)))
 .done)))))))))
def Yd : AF := ⟨18, [.cell 4 true 6, .tmp 5],
 (.seq (.reg QEO [])
 (.seq (.seq (.reg QEN [6, 7, 8])
 (.cond (.t 9)
 (.seq (.reg QEM [10])
 .ret)
 .skip))
 (.seq (.reg QEL [11, 12, 13, 14, 15, 16, 17])
 .ret)))⟩
abbrev Zj : Nat := 29
/- proofmark/norm.Number -/
def zqr_0 : AT := (zr 4 (.mov (zi 0))
 (zr 5 (.mov (.c (.bool false)))
 .done))
def zqr_1 : AT := (zm 9 0
 (zm 10 1
 (zk 11 29 [.t 9, .t 10]
 (zm 8 11
 (zr 12 (.extr (.t 8) 0)
 (zr 13 (.extr (.t 8) 1)
 (.wr false (some 6) none (.new 57 [(.int .u8 0), (.int .i64 0), (.int .i64 0), (.int .u8 0), (.int .i64 0), (.int .i64 0)])
 (.wr false none none (.store 6 (.t 6) (.t 12))
 (zm 7 13
 .done)))))))))
def zqr_2 : AT := (zm 14 7
 (zr 15 (.un .not (.t 14))
 (zm 16 15
 (zf 17 16 (.faddr 0 (.t 6))
 (zf 18 16 (.load false 1 (.t 17))
 (zf 19 16 (.bin .neq (.t 18) (zu 1))
 (zr 20 (.pick (.t 16) (.c (.bool true)) (.t 19))
 .done)))))))
def zqr_3 : AT := (zr 4 (.mov (zi 0))
 (zr 5 (.mov (.c (.bool false)))
 .done))
def zqr_4 : AT := (zr 21 (.faddr 1 (.t 6))
 (zr 22 (.load false 1 (.t 21))
 (zm 4 22
 (zr 5 (.mov (.c (.bool true)))
 .done))))
def QbH : AF := ⟨23, [.tmp 4, .tmp 5],
 (.seq (.reg zqr_0 [])
 (.seq (.reg zqr_1 [9, 10, 11, 8, 12, 13])
 (.seq (.seq (.reg zqr_2 [14, 15, 16, 17, 18, 19])
 (.cond (.t 20)
 (.seq (.reg zqr_3 [])
 .ret)
 .skip))
 (.seq (.reg zqr_4 [21, 22])
 .ret))))⟩
abbrev Qhw : Nat := 30
/- proofmark/norm.Bool -/
def QEK : AT := (zr 4 (.mov (.c (.bool false)))
 .done)
def QEJ : AT := (zm 8 0
 (zm 9 1
 (zk 10 29 [.t 8, .t 9]
 (zm 7 10
 (zr 11 (.extr (.t 7) 0)
 (zr 12 (.extr (.t 7) 1)
 (.wr false (some 5) none (.new 57 [(.int .u8 0), (.int .i64 0), (.int .i64 0), (.int .u8 0), (.int .i64 0), (.int .i64 0)])
 (.wr false none none (.store 6 (.t 5) (.t 11))
 (zm 6 12
 .done)))))))))
def QEI : AT := (zm 13 6
 (zr 14 (.un .not (.t 13))
 .done))
def QEH : AT := (zr 4 (.mov (.c (.bool false)))
 .done)
def QEG : AT := (zr 15 (.faddr 0 (.t 5))
 (zr 16 (.load false 1 (.t 15))
 (zr 17 (.bin .eql (.t 16) (zu 4))
 (zm 18 17
 (zt 19 18 (.faddr 3 (.t 5))
 (zt 20 18 (.load false 1 (.t 19))
 (zt 21 18 (.bin .eql (.t 20) (zu 14))
 (zt 22 18 (.mov (.t 21))
 (zf 23 22 (.faddr 3 (.t 5))
 (zf 24 22 (.load false 1 (.t 23))
 (zf 25 22 (.bin .eql (.t 24) (zu 15))
 (zt 26 18 (.pick (.t 22) (.c (.bool true)) (.t 25))
 (zt 27 18 (.mov (.t 26))
 (zf 28 27 (.faddr 3 (.t 5))
 (zf 29 27 (.load false 1 (.t 28))
 (zf 30 27 (.bin .eql (.t 29) (zu 16))
 (zt 31 18 (.pick (.t 27) (.c (.bool true)) (.t 30))
 (zr 32 (.pick (.t 18) (.t 31) (.c (.bool false)))
 (zm 33 32
 (zf 34 33 (.faddr 0 (.t 5))
 (zf 35 33 (.load false 1 (.t 34))
 (zf 36 33 (.bin .eql (.t 35) (zu 1))
 (zf 37 33 (.mov (.t 36))
 (zt 38 37 (.faddr 1 (.t 5))
 (zt 39 37 (.load false 1 (.t 38))
 (.wr false (some 40) (some (37, true)) (.bsl false false 2 1 [(.int .i64 0)] 2 [(0, 1, (zi 0)), (1, 1, (zi 1))])
 (.cl false (some 41) (some (37, true)) (.c (.fn (.func 47) [] [])) [(.t 39), (.t 40)]
 (zf 42 33 (.pick (.t 37) (.t 41) (.c (.bool false)))
 (zr 43 (.pick (.t 33) (.c (.bool true)) (.t 42))
 (zm 4 43
 .done))))))))))))))))))))))))))))))
def QbI : AF := ⟨44, [.tmp 4],
 (.seq (.reg QEK [])
 (.seq (.reg QEJ [8, 9, 10, 7, 11, 12])
 (.seq (.seq (.reg QEI [13])
 (.cond (.t 14)
 (.seq (.reg QEH [])
 .ret)
 .skip))
 (.seq (.reg QEG [15, 16, 17, 18, 19, 20, 21, 22, 23, 24, 25, 26, 27, 28, 29, 30, 31, 32, 33, 34, 35, 36, 37, 38, 39, 40, 41, 42, 43])
 .ret))))⟩
abbrev Qgw : Nat := 31
/- proofmark/proofmarkref04.Bool -/
def QlR : AT := (.wr false (some 1) none (.box 64 (.t 0))
 (zr 2 (.mov (.c (.bool false)))
 .done))
def QlQ : AT := (zr 3 (.faddr 0 (.t 1))
 (zr 4 (.load false 1 (.t 3))
 (zr 5 (.bin .eql (.t 4) (zu 4))
 (zm 6 5
 (zt 7 6 (.faddr 3 (.t 1))
 (zt 8 6 (.load false 1 (.t 7))
 (zt 9 6 (.bin .eql (.t 8) (zu 14))
 (zt 10 6 (.mov (.t 9))
 (zf 11 10 (.faddr 3 (.t 1))
 (zf 12 10 (.load false 1 (.t 11))
 (zf 13 10 (.bin .eql (.t 12) (zu 15))
 (zt 14 6 (.pick (.t 10) (.c (.bool true)) (.t 13))
 (zt 15 6 (.mov (.t 14))
 (zf 16 15 (.faddr 3 (.t 1))
 (zf 17 15 (.load false 1 (.t 16))
 (zf 18 15 (.bin .eql (.t 17) (zu 16))
 (zt 19 6 (.pick (.t 15) (.c (.bool true)) (.t 18))
 (zr 20 (.pick (.t 6) (.t 19) (.c (.bool false)))
 (zm 21 20
 (zf 22 21 (.faddr 0 (.t 1))
 (zf 23 21 (.load false 1 (.t 22))
 (zf 24 21 (.bin .eql (.t 23) (zu 1))
 (zf 25 21 (.mov (.t 24))
 (zt 26 25 (.faddr 1 (.t 1))
 (zt 27 25 (.load false 1 (.t 26))
 (zt 28 25 (.bin .eql (.t 27) (zi 0))
 (zt 29 25 (.mov (.t 28))
 (zf 30 29 (.faddr 1 (.t 1))
 (zf 31 29 (.load false 1 (.t 30))
 (zf 32 29 (.bin .eql (.t 31) (zi 1))
 (zt 33 25 (.pick (.t 29) (.c (.bool true)) (.t 32))
 (zf 34 21 (.pick (.t 25) (.t 33) (.c (.bool false)))
 (zr 35 (.pick (.t 21) (.c (.bool true)) (.t 34))
 (zm 2 35
 .done))))))))))))))))))))))))))))))))))
def QG : AF := ⟨36, [.tmp 2],
 (.seq (.reg QlR [])
 (.seq (.reg QlQ [3, 4, 5, 6, 7, 8, 9, 10, 11, 12, 13, 14, 15, 16, 17, 18, 19, 20, 21, 22, 23, 24, 25, 26, 27, 28, 29, 30, 31, 32, 33, 34, 35])
 .ret))⟩
abbrev Qba : Nat := 32
/- proofmark/proofmarkkit.PlainNode -/
def zqu_0 : AT := (.wr false (some 1) none (.box 57 (.t 0))
 (.wr false (some 2) none (.new 64 [(.int .u8 0), (.int .i64 0), (.int .i64 0), (.int .u8 0), (.int .i64 0), (.int .i64 0)])
 .done))
def zqu_1 : AT := (zr 3 (.faddr 0 (.t 1))
 (zr 4 (.load false 1 (.t 3))
 (zr 5 (.faddr 1 (.t 1))
 (zr 6 (.load false 1 (.t 5))
 (zr 7 (.faddr 2 (.t 1))
 (zr 8 (.load false 1 (.t 7))
 (zr 9 (.faddr 3 (.t 1))
 (zr 10 (.load false 1 (.t 9))
 (zr 11 (.faddr 4 (.t 1))
 (zr 12 (.load false 1 (.t 11))
 (zr 13 (.faddr 5 (.t 1))
 (zr 14 (.load false 1 (.t 13))
 (zr 15 (.build [(.int .u8 0), (.int .i64 0), (.int .i64 0), (.int .u8 0), (.int .i64 0), (.int .i64 0)] [(0, 1, (.t 4)), (1, 1, (.t 6)), (2, 1, (.t 8)), (3, 1, (.t 10)), (4, 1, (.t 12)), (5, 1, (.t 14))])
 (.wr false none none (.store 6 (.t 2) (.t 15))
 .done))))))))))))))
def XE : AF := ⟨16, [.cell 2 true 6],
 (.seq (.reg zqu_0 [])
 (.seq (.reg zqu_1 [3, 4, 5, 6, 7, 8, 9, 10, 11, 12, 13, 14, 15])
 .ret))⟩
abbrev ZP : Nat := 33
/- proofmark/proofmarkref01.Do -/
def Qee : AT := (zr 6 (.mov (zi 0))
 .done)
def Qed : AT := (zm 8 2
 (zr 9 (.conv .u64 (.t 8))
 (zr 10 (.bin .and (.t 9) (.c (.int .u64 63)))
 (zr 11 (.conv .i64 (.t 10))
 (zm 7 11
 .done)))))
def Qec : AT := (zm 12 0
 .done)
def Qeb : AT := (zr 14 (.bin .eql (.t 12) (zu 1))
 (zm 13 14
 .done))
def Qea : AT := (zm 15 1
 (zm 16 2
 (zk 17 48 [.t 15, .t 16]
 (zm 6 17
 .done))))
def Qd9 : AT := (zr 19 (.bin .eql (.t 12) (zu 2))
 (zm 18 19
 .done))
def Qd8 : AT := (zm 20 1
 (zm 21 2
 (zk 22 49 [.t 21]
 (zk 23 48 [.t 20, .t 22]
 (zm 6 23
 .done)))))
def Qd7 : AT := (zr 25 (.bin .eql (.t 12) (zu 3))
 (zm 24 25
 .done))
def Qd6 : AT := (zm 26 1
 (zm 27 2
 (zk 28 50 [.t 26, .t 27]
 (zm 6 28
 .done))))
def Qd5 : AT := (zr 30 (.bin .eql (.t 12) (zu 4))
 (zm 29 30
 .done))
def QaG : AT := (zr 31 (.bin .eql (.t 12) (zu 5))
 (zm 29 31
 .done))
def QaF : AT := (zr 32 (.bin .eql (.t 12) (zu 6))
 (zm 29 32
 .done))
def QaE : AT := (zr 33 (.bin .eql (.t 12) (zu 7))
 (zm 29 33
 .done))
def QaD : AT := (zm 34 0
 (zm 35 1
 (zm 36 2
 (zk 37 51 [.t 34, .t 35, .t 36]
 (zm 6 37
 .done)))))
def QaC : AT := (zr 39 (.bin .eql (.t 12) (zu 8))
 (zm 38 39
 .done))
def QaB : AT := (zm 40 1
 (zm 41 2
 (zr 42 (.bin .and (.t 40) (.t 41))
 (zm 6 42
 .done))))
def QaA : AT := (zr 44 (.bin .eql (.t 12) (zu 9))
 (zm 43 44
 .done))
def Qaz : AT := (zm 45 1
 (zm 46 2
 (zr 47 (.bin .or (.t 45) (.t 46))
 (zm 6 47
 .done))))
def Qay : AT := (zr 49 (.bin .eql (.t 12) (zu 10))
 (zm 48 49
 .done))
def Qax : AT := (zm 50 1
 (zm 51 2
 (zr 52 (.bin .xor (.t 50) (.t 51))
 (zm 6 52
 .done))))
def Qaw : AT := (zr 54 (.bin .eql (.t 12) (zu 11))
 (zm 53 54
 .done))
def Qav : AT := (zm 55 1
 (zm 56 7
 (zk 57 52 [.t 55, (.c (.bool true)), (.c (.int .u64 0)), .t 56]
 (zm 6 57
 .done))))
def Qau : AT := (zr 59 (.bin .eql (.t 12) (zu 12))
 (zm 58 59
 .done))
def Qat : AT := (zm 60 1
 (zm 61 7
 (zk 62 52 [.t 60, (.c (.bool false)), (.c (.int .u64 0)), .t 61]
 (zm 6 62
 .done))))
def Qas : AT := (zr 64 (.bin .eql (.t 12) (zu 13))
 (zm 63 64
 .done))
def Qar : AT := (zm 65 1
 (zm 66 1
 (zk 67 53 [.t 66, (zi 63)]
 (zm 68 7
 (zk 69 52 [.t 65, (.c (.bool false)), .t 67, .t 68]
 (zm 6 69
 .done))))))
def Qaq : AT := (zr 71 (.bin .eql (.t 12) (zu 14))
 (zm 70 71
 .done))
def Qap : AT := (zm 72 1
 (zr 73 (.bin .xor (.t 72) (.c (.int .i64 (-9223372036854775808))))
 (zm 74 2
 (zr 75 (.bin .xor (.t 74) (.c (.int .i64 (-9223372036854775808))))
 (zk 76 55 [.t 73, .t 75]
 (zk 77 54 [.t 76]
 (zm 6 77
 .done)))))))
def Qao : AT := (zr 79 (.bin .eql (.t 12) (zu 15))
 (zm 78 79
 .done))
def Qan : AT := (zm 80 1
 (zm 81 2
 (zk 82 55 [.t 80, .t 81]
 (zk 83 54 [.t 82]
 (zm 6 83
 .done)))))
def Qam : AT := (zr 85 (.bin .eql (.t 12) (zu 16))
 (zm 84 85
 .done))
def Qal : AT := (zm 86 1
 (zm 87 2
 (zr 88 (.bin .eql (.t 86) (.t 87))
 (zk 89 54 [.t 88]
 (zm 6 89
 .done)))))
def Qak : AT := (zr 6 (.mov (zi 0))
 .done)
def Qm : AF := ⟨90, [.tmp 6],
 (.seq (.reg Qee [])
 (.seq (.reg Qed [8, 9, 10, 11])
 (.seq (.seq (.reg Qec [])
 (.block 0 (.seq (.reg Qeb [14])
 (.cond (.t 13)
 (.seq (.reg Qea [15, 16, 17])
 .ret)
 (.seq (.reg Qd9 [19])
 (.cond (.t 18)
 (.seq (.reg Qd8 [20, 21, 22, 23])
 .ret)
 (.seq (.reg Qd7 [25])
 (.cond (.t 24)
 (.seq (.reg Qd6 [26, 27, 28])
 .ret)
 (.seq (.seq (.reg Qd5 [30])
 (.cond (.t 29)
 .skip
 (.seq (.reg QaG [31])
 (.cond (.t 29)
 .skip
 (.seq (.reg QaF [32])
 (.cond (.t 29)
 .skip
 (.reg QaE [33])))))))
 (.cond (.t 29)
 (.seq (.reg QaD [34, 35, 36, 37])
 .ret)
 (.seq (.reg QaC [39])
 (.cond (.t 38)
 (.seq (.reg QaB [40, 41, 42])
 .ret)
 (.seq (.reg QaA [44])
 (.cond (.t 43)
 (.seq (.reg Qaz [45, 46, 47])
 .ret)
 (.seq (.reg Qay [49])
 (.cond (.t 48)
 (.seq (.reg Qax [50, 51, 52])
 .ret)
 (.seq (.reg Qaw [54])
 (.cond (.t 53)
 (.seq (.reg Qav [55, 56, 57])
 .ret)
 (.seq (.reg Qau [59])
 (.cond (.t 58)
 (.seq (.reg Qat [60, 61, 62])
 .ret)
 (.seq (.reg Qas [64])
 (.cond (.t 63)
 (.seq (.reg Qar [65, 66, 67, 68, 69])
 .ret)
 (.seq (.reg Qaq [71])
 (.cond (.t 70)
 (.seq (.reg Qap [72, 73, 74, 75, 76, 77])
 .ret)
 (.seq (.reg Qao [79])
 (.cond (.t 78)
 (.seq (.reg Qan [80, 81, 82, 83])
 .ret)
 (.seq (.reg Qam [85])
 (.cond (.t 84)
 (.seq (.reg Qal [86, 87, 88, 89])
 .ret)
 .skip))))))))))))))))))))))))))))
 (.seq (.reg Qak [])
 .ret))))⟩
abbrev QbN : Nat := 34
/- proofmark/norm.Of -/
def QEF : AT := (zr 4 (.mov (zi 0))
 .done)
def QEE : AT := (zm 13 0
 (zm 14 1
 (zk 15 29 [.t 13, .t 14]
 (zm 12 15
 (zr 16 (.extr (.t 12) 0)
 (zr 17 (.extr (.t 12) 1)
 (.wr false (some 5) none (.new 57 [(.int .u8 0), (.int .i64 0), (.int .i64 0), (.int .u8 0), (.int .i64 0), (.int .i64 0)])
 (.wr false none none (.store 6 (.t 5) (.t 16))
 (zm 6 17
 .done)))))))))
def QED : AT := (zm 18 6
 (zr 19 (.un .not (.t 18))
 .done))
def QEC : AT := (zr 4 (.mov (.c (.int .i64 (-1))))
 .done)
def QEB : AT := (.wr false (some 20) none .mkmap
 (zm 7 20
 .done))
def QEA : AT := (zm 21 0
 (zm 22 1
 (.wr false (some 23) none (.bsl false false 26 1 [(.int .i64 0)] 1 [(0, 1, (.t 22))])
 (zk 24 56 [.t 21, .t 23]
 (zr 25 (.len 0 (.t 24))
 (zr 26 (.mov (zi 0))
 .done))))))
def Qt2 : AT := (zr 27 (.bin .lss (.t 26) (.t 25))
 .done)
def Qt1 : AT := (zr 28 (.iaddr none 1 (.t 24) (.t 26))
 (zr 29 (.load false 1 (.t 28))
 (zm 9 29
 .done)))
def Qt0 : AT := (zm 31 0
 (zm 32 9
 (zk 33 29 [.t 31, .t 32]
 (zm 30 33
 (zr 34 (.extr (.t 30) 0)
 (zr 35 (.extr (.t 30) 1)
 (.wr false (some 10) none (.new 57 [(.int .u8 0), (.int .i64 0), (.int .i64 0), (.int .u8 0), (.int .i64 0), (.int .i64 0)])
 (.wr false none none (.store 6 (.t 10) (.t 34))
 (zm 11 35
 .done)))))))))
def QtZ : AT := (zr 36 (.faddr 0 (.t 10))
 (zr 37 (.load false 1 (.t 36))
 .done))
def Qnb : AT := (zr 42 (.bin .eql (.t 37) (zu 3))
 (zm 41 42
 .done))
def Qna : AT := (zm 43 7
 (zm 44 9
 (zm 45 0
 (zr 46 (.faddr 2 (.t 10))
 (zr 47 (.load false 1 (.t 46))
 (zr 48 (.faddr 1 (.t 10))
 (zr 49 (.load false 1 (.t 48))
 (zm 50 7
 (zr 51 (.faddr 5 (.t 10))
 (zr 52 (.load false 1 (.t 51))
 (zr 53 (.look false false [.i] (.int .i64 0) (.t 50) (.t 52))
 (zk 54 40 [.t 45, .t 47, .t 49, .t 53]
 (.wr false none none (.mapup false [.i] (.t 43) (.t 44) (.t 54))
 .done)))))))))))))
def Qm9 : AT := (zr 56 (.bin .eql (.t 37) (zu 4))
 (zm 55 56
 .done))
def Qm8 : AT := (zm 57 7
 (zm 58 9
 (zm 59 0
 (zr 60 (.faddr 3 (.t 10))
 (zr 61 (.load false 1 (.t 60))
 (zm 62 7
 (zr 63 (.faddr 4 (.t 10))
 (zr 64 (.load false 1 (.t 63))
 (zr 65 (.look false false [.i] (.int .i64 0) (.t 62) (.t 64))
 (zm 66 7
 (zr 67 (.faddr 5 (.t 10))
 (zr 68 (.load false 1 (.t 67))
 (zr 69 (.look false false [.i] (.int .i64 0) (.t 66) (.t 68))
 (zk 70 13 [.t 59, .t 61, .t 65, .t 69]
 (.wr false none none (.mapup false [.i] (.t 57) (.t 58) (.t 70))
 .done)))))))))))))))
def Qm7 : AT := (zm 38 7
 (zm 39 9
 (zm 40 9
 (.wr false none none (.mapup false [.i] (.t 38) (.t 39) (.t 40))
 .done))))
def Qm6 : AT := (zr 71 (.bin .add (.t 26) (zi 1))
 (zm 26 71
 .done))
def Qt3 : AT := (zm 72 7
 (zm 73 1
 (zr 74 (.look false false [.i] (.int .i64 0) (.t 72) (.t 73))
 (zm 4 74
 .done))))
def Qgs : AF := ⟨75, [.tmp 4],
 (.seq (.reg QEF [])
 (.seq (.seq (.reg QEE [13, 14, 15, 12, 16, 17, 5])
 (.seq (.reg QED [18])
 (.cond (.t 19)
 (.seq (.reg QEC [])
 .ret)
 .skip)))
 (.seq (.reg QEB [20])
 (.seq (.seq (.reg QEA [21, 22, 23])
 (.block 0 (.loop (.seq (.reg Qt2 [])
 (.seq (.cond (.t 27)
 .skip
 (.exit 0))
 (.seq (.block 1 (.seq (.reg Qt1 [28, 29])
 (.seq (.reg Qt0 [31, 32, 33, 30, 34, 35, 11])
 (.seq (.reg QtZ [36])
 (.block 2 (.seq (.reg Qnb [42])
 (.cond (.t 41)
 (.reg Qna [43, 44, 45, 46, 47, 48, 49, 50, 51, 52, 53, 54])
 (.seq (.reg Qm9 [56])
 (.cond (.t 55)
 (.reg Qm8 [57, 58, 59, 60, 61, 62, 63, 64, 65, 66, 67, 68, 69, 70])
 (.reg Qm7 [38, 39, 40]))))))))))
 (.reg Qm6 [71])))))))
 (.seq (.reg Qt3 [72, 73, 74])
 .ret)))))⟩
abbrev Qkt : Nat := 35
/- proofmark/proofmarklaw04.NormTruth -/
def QEz : AT := (zr 10 (.mov (.c (.bool false)))
 .done)
def QEy : AT := (zm 21 0
 (zr 22 (.len 0 (.t 21))
 (zr 23 (.bin .gtr (.t 22) (zi 30))
 .done)))
def QEx : AT := (zk 24 9 []
 (zm 10 24
 .done))
def QEw : AT := (zm 26 0
 (zm 27 1
 (zm 28 2
 (zk 29 10 [.t 26, .t 27, .t 28, (zi 0)]
 (zm 25 29
 (zr 30 (.extr (.t 25) 0)
 (zr 31 (.extr (.t 25) 1)
 (zr 32 (.extr (.t 25) 2)
 (zr 33 (.extr (.t 25) 3)
 (zr 34 (.extr (.t 25) 4)
 (zm 11 30
 (zm 12 31
 (zm 13 32
 (zm 14 33
 (zm 15 34
 .done)))))))))))))))
def QEv : AT := (zm 35 15
 (zr 36 (.un .not (.t 35))
 .done))
def QEu : AT := (zk 37 9 []
 (zm 10 37
 .done))
def QEt : AT := (zm 38 11
 (.wr false (some 39) none (.bsl false false 23 1 [(.int .u8 0)] 3 [(0, 1, (zu 14)), (1, 1, (zu 15)), (2, 1, (zu 16))])
 (zm 40 3
 (zr 41 (.bin .rem (.t 40) (zu 3))
 (zr 42 (.iaddr none 1 (.t 39) (.t 41))
 (zr 43 (.load false 1 (.t 42))
 (zm 44 12
 (zm 45 13
 (zk 46 13 [.t 38, .t 43, .t 44, .t 45]
 (zm 16 46
 .done))))))))))
def QEs : AT := (zm 47 11
 (zk 48 12 [.t 47, (zi 1)]
 (zm 49 11
 (zk 50 12 [.t 49, (zi 0)]
 (zm 51 11
 (zm 52 4
 (zk 53 12 [.t 51, .t 52]
 (zm 17 48
 (zm 18 50
 (zm 19 53
 .done))))))))))
def QEr : AT := (zm 54 11
 (zm 55 16
 (zk 56 21 [.t 54, .t 55]
 (zm 20 56
 .done))))
def QEq : AT := (zm 57 11
 (zm 58 16
 (zk 59 31 [.t 57, .t 58]
 (zr 60 (.un .not (.t 59))
 (zm 61 60
 (zf 62 61 (.mov (.t 11))
 (zf 63 61 (.mov (.t 20))
 (.cl false (some 64) (some (61, false)) (.c (.fn (.func 31) [] [])) [(.t 62), (.t 63)]
 (zf 65 61 (.un .not (.t 64))
 (zr 66 (.pick (.t 61) (.c (.bool true)) (.t 65))
 (zm 67 66
 (zf 68 67 (.mov (.t 11))
 (zf 69 67 (.mov (.t 16))
 (zf 70 67 (.mov (.t 17))
 (.cl false (some 71) (some (67, false)) (.c (.fn (.func 13) [] [])) [(.t 68), (zu 16), (.t 69), (.t 70)]
 (zf 72 67 (.mov (.t 16))
 (zf 73 67 (.bin .neq (.t 71) (.t 72))
 (zr 74 (.pick (.t 67) (.c (.bool true)) (.t 73))
 (zm 75 74
 (zf 76 75 (.mov (.t 11))
 (zf 77 75 (.mov (.t 20))
 (.cl false (some 78) (some (75, false)) (.c (.fn (.func 21) [] [])) [(.t 76), (.t 77)]
 (zf 79 75 (.mov (.t 16))
 (zf 80 75 (.bin .neq (.t 78) (.t 79))
 (zr 81 (.pick (.t 75) (.c (.bool true)) (.t 80))
 (zm 82 81
 (zf 83 82 (.mov (.t 11))
 (zf 84 82 (.mov (.t 16))
 (zf 85 82 (.mov (.t 17))
 (.cl false (some 86) (some (82, false)) (.c (.fn (.func 13) [] [])) [(.t 83), (zu 10), (.t 84), (.t 85)]
 (zf 87 82 (.mov (.t 20))
 (zf 88 82 (.bin .neq (.t 86) (.t 87))
 (zr 89 (.pick (.t 82) (.c (.bool true)) (.t 88))
 (zm 90 89
 (zf 91 90 (.mov (.t 11))
 (zf 92 90 (.mov (.t 16))
 (zf 93 90 (.mov (.t 17))
 (.cl false (some 94) (some (90, false)) (.c (.fn (.func 13) [] [])) [(.t 91), (zu 8), (.t 92), (.t 93)]
 (zf 95 90 (.mov (.t 16))
 (zf 96 90 (.bin .neq (.t 94) (.t 95))
 (zr 97 (.pick (.t 90) (.c (.bool true)) (.t 96))
 (zm 98 97
 (zf 99 98 (.mov (.t 11))
 (zf 100 98 (.mov (.t 16))
 (zf 101 98 (.mov (.t 18))
 (.cl false (some 102) (some (98, false)) (.c (.fn (.func 13) [] [])) [(.t 99), (zu 16), (.t 100), (.t 101)]
 (zf 103 98 (.mov (.t 20))
 (zf 104 98 (.bin .neq (.t 102) (.t 103))
 (zr 105 (.pick (.t 98) (.c (.bool true)) (.t 104))
 .done)))))))))))))))))))))))))))))))))))))))))))))))))
def QtY : AT := (zr 10 (.mov (.c (.bool false)))
 .done)
def QtX : AT := (zm 106 4
 (zr 107 (.bin .eql (.t 106) (zi 0))
 (zm 108 107
 (zf 109 108 (.mov (.t 4))
 (zf 110 108 (.bin .eql (.t 109) (zi 1))
 (zr 111 (.pick (.t 108) (.c (.bool true)) (.t 110))
 (zm 112 111
 (zf 113 112 (.mov (.t 11))
 (zf 114 112 (.mov (.t 16))
 (zf 115 112 (.mov (.t 19))
 (.cl false (some 116) (some (112, false)) (.c (.fn (.func 13) [] [])) [(.t 113), (zu 16), (.t 114), (.t 115)]
 (zf 117 112 (.mov (.t 18))
 (zf 118 112 (.bin .eql (.t 116) (.t 117))
 (zr 119 (.pick (.t 112) (.c (.bool true)) (.t 118))
 (zm 120 119
 (.cl false (some 121) (some (120, true)) (.c (.fn (.func 9) [] [])) []
 (zr 122 (.pick (.t 120) (.t 121) (.c (.bool false)))
 (zm 10 122
 .done))))))))))))))))))
def Q4 : AF := ⟨123, [.tmp 10],
 (.seq (.reg QEz [])
 (.seq (.seq (.reg QEy [21, 22])
 (.cond (.t 23)
 (.seq (.reg QEx [24])
 .ret)
 .skip))
 (.seq (.reg QEw [26, 27, 28, 29, 25, 30, 31, 32, 33, 34, 14])
 (.seq (.seq (.reg QEv [35])
 (.cond (.t 36)
 (.seq (.reg QEu [37])
 .ret)
 .skip))
 (.seq (.reg QEt [38, 39, 40, 41, 42, 43, 44, 45, 46])
 (.seq (.reg QEs [47, 48, 49, 50, 51, 52, 53])
 (.seq (.reg QEr [54, 55, 56])
 (.seq (.seq (.reg QEq [57, 58, 59, 60, 61, 62, 63, 64, 65, 66, 67, 68, 69, 70, 71, 72, 73, 74, 75, 76, 77, 78, 79, 80, 81, 82, 83, 84, 85, 86, 87, 88, 89, 90, 91, 92, 93, 94, 95, 96, 97, 98, 99, 100, 101, 102, 103, 104])
 (.cond (.t 105)
 (.seq (.reg QtY [])
 .ret)
 .skip))
 (.seq (.reg QtX [106, 107, 108, 109, 110, 111, 112, 113, 114, 115, 116, 117, 118, 119, 120, 121, 122])
 .ret)))))))))⟩
abbrev Yh : Nat := 36
/- proofmark/term.New -/
def zqy_0 : AT := (zr 0 (.mov (.c (.val (.pointer none))))
 .done)
def zqy_1 : AT := (.wr false (some 1) none .mkmap
 (zr 2 (.build [(.lst 0 [] true), (.val (.map none)), (.lst 0 [] true), (.lst 0 [] true)] [(1, 1, (.t 1))])
 (.wr false (some 3) none (.box 85 (.t 2))
 (zm 0 3
 .done))))
def Qhc : AF := ⟨4, [.tmp 0],
 (.seq (.reg zqy_0 [])
 (.seq (.reg zqy_1 [1, 2, 3])
 .ret))⟩
abbrev Qib : Nat := 37
/- proofmark/norm.Sym -/
def zqz_0 : AT := (zr 4 (.mov (zi 0))
 .done)
def zqz_1 : AT := (zm 5 0
 (zm 6 1
 (zr 7 (.build [(.int .u8 0), (.int .i64 0), (.int .i64 0), (.int .u8 0), (.int .i64 0), (.int .i64 0)] [(0, 1, (zu 2)), (1, 1, (.t 6))])
 (zk 8 41 [.t 5, .t 7]
 (zm 4 8
 .done)))))
def Qhq : AF := ⟨9, [.tmp 4],
 (.seq (.reg zqz_0 [])
 (.seq (.reg zqz_1 [5, 6, 7, 8])
 .ret))⟩
abbrev QlB : Nat := 38
/- (*proofmark/term.Graph).Text -/
def QDK : AT := (zr 4 (.mov (.c (.str [])))
 .done)
def QDJ : AT := (zm 9 0
 (zm 10 1
 (zk 11 46 [.t 9, .t 10]
 (zr 12 (.un .not (.t 11))
 (zm 13 12
 (zf 14 13 (.mov (.t 0))
 (zf 15 13 (.nilc (.t 14))
 (zf 16 13 (.faddr 3 (.t 15))
 (zf 17 13 (.load false 1 (.t 16))
 (zf 18 13 (.mov (.t 1))
 (zf 19 13 (.iaddr none 1 (.t 17) (.t 18))
 (zf 20 13 (.load false 1 (.t 19))
 (zf 21 13 (.bin .gtr (.t 20) (zi 65536))
 (zr 22 (.pick (.t 13) (.c (.bool true)) (.t 21))
 .done))))))))))))))
def QDI : AT := (zr 4 (.mov (.c (.str [])))
 .done)
def QDH : AT := (.wr false (some 23) none .mkmap
 (zm 5 23
 .done))
def QDG : AT := (zm 24 0
 (zm 25 1
 (.wr false (some 26) none (.bsl false false 26 1 [(.int .i64 0)] 1 [(0, 1, (.t 25))])
 (zk 27 56 [.t 24, .t 26]
 (zr 28 (.len 0 (.t 27))
 (zr 29 (.mov (zi 0))
 .done))))))
def QDF : AT := (zr 30 (.bin .lss (.t 29) (.t 28))
 .done)
def QDE : AT := (zr 31 (.iaddr none 1 (.t 27) (.t 29))
 (zr 32 (.load false 1 (.t 31))
 (zm 7 32
 .done)))
def QDD : AT := (zm 33 0
 (zr 34 (.nilc (.t 33))
 (zr 35 (.faddr 0 (.t 34))
 (zr 36 (.load false 1 (.t 35))
 (zm 37 7
 (zr 38 (.iaddr none 6 (.t 36) (.t 37))
 (zr 39 (.load true 6 (.t 38))
 (.wr false (some 8) none (.new 57 [(.int .u8 0), (.int .i64 0), (.int .i64 0), (.int .u8 0), (.int .i64 0), (.int .i64 0)])
 (.wr false none none (.store 6 (.t 8) (.t 39))
 .done)))))))))
def QDC : AT := (zm 40 5
 (zm 41 7
 (zr 42 (.load true 6 (.t 8))
 (zm 43 5
 (zr 44 (.faddr 4 (.t 8))
 (zr 45 (.load false 1 (.t 44))
 (zr 46 (.look false false [.i] (.agg [(.str [])]) (.t 43) (.t 45))
 (zr 47 (.field false 0 1 (.t 46))
 (zm 48 5
 (zr 49 (.faddr 5 (.t 8))
 (zr 50 (.load false 1 (.t 49))
 (zr 51 (.look false false [.i] (.agg [(.str [])]) (.t 48) (.t 50))
 (zr 52 (.field false 0 1 (.t 51))
 (zk 53 57 [.t 42, .t 47, .t 52]
 (zr 54 (.build [(.str [])] [(0, 1, (.t 53))])
 (.wr false none none (.mapup false [.i] (.t 40) (.t 41) (.t 54))
 .done))))))))))))))))
def QDB : AT := (zr 55 (.bin .add (.t 29) (zi 1))
 (zm 29 55
 .done))
def Qvr : AT := (zm 56 5
 (zm 57 1
 (zr 58 (.look false false [.i] (.agg [(.str [])]) (.t 56) (.t 57))
 (zr 59 (.field false 0 1 (.t 58))
 (zm 4 59
 .done)))))
def Y6 : AF := ⟨60, [.tmp 4],
 (.seq (.reg QDK [])
 (.seq (.seq (.reg QDJ [9, 10, 11, 12, 13, 14, 15, 16, 17, 18, 19, 20, 21])
 (.cond (.t 22)
 (.seq (.reg QDI [])
 .ret)
 .skip))
 (.seq (.reg QDH [23])
 (.seq (.seq (.reg QDG [24, 25, 26])
 (.block 0 (.loop (.seq (.reg QDF [])
 (.seq (.cond (.t 30)
 .skip
 (.exit 0))
 (.seq (.block 1 (.seq (.reg QDE [31, 32])
 (.seq (.reg QDD [33, 34, 35, 36, 37, 38, 39])
 (.reg QDC [40, 41, 42, 43, 44, 45, 46, 47, 48, 49, 50, 51, 52, 53, 54]))))
 (.reg QDB [55])))))))
 (.seq (.reg Qvr [56, 57, 58, 59])
 .ret)))))⟩
abbrev QaY : Nat := 39
/- proofmark/norm.Cell -/
def QDA : AT := (zr 8 (.mov (zi 0))
 .done)
def QDz : AT := (zm 9 0
 (zm 10 1
 (zm 11 2
 (zm 12 3
 (zr 13 (.build [(.int .u8 0), (.int .i64 0), (.int .i64 0), (.int .u8 0), (.int .i64 0), (.int .i64 0)] [(0, 1, (zu 3)), (2, 1, (.t 10)), (1, 1, (.t 11)), (5, 1, (.t 12))])
 (zk 14 41 [.t 9, .t 13]
 (zm 8 14
 .done)))))))
def QeT : AF := ⟨15, [.tmp 8],
 (.seq (.reg QDA [])
 (.seq (.reg QDz [9, 10, 11, 12, 13, 14])
 .ret))⟩
abbrev Qku : Nat := 40
/- (*proofmark/term.Graph).Add -/
def Qvq : AT := (.wr false (some 3) none (.box 57 (.t 1))
 (zr 4 (.mov (zi 0))
 .done))
def Qvp : AT := (zm 12 0
 (zr 13 (.eqp false (.t 12) (.c (.val (.pointer none))))
 (zm 14 13
 (zf 15 14 (.mov (.t 0))
 (zf 16 14 (.load true 6 (.t 3))
 (.cl false (some 17) (some (14, false)) (.c (.fn (.func 58) [] [])) [(.t 15), (.t 16)]
 (zf 18 14 (.un .not (.t 17))
 (zr 19 (.pick (.t 14) (.c (.bool true)) (.t 18))
 .done))))))))
def Qvo : AT := (zr 4 (.mov (.c (.int .i64 (-1))))
 .done)
def Qvn : AT := (zm 21 0
 (zr 22 (.nilc (.t 21))
 (zr 23 (.faddr 1 (.t 22))
 (zr 24 (.load false 1 (.t 23))
 (zr 25 (.load true 6 (.t 3))
 (zr 26 (.look true true [.i, .i, .i, .i, .i, .i] (.int .i64 0) (.t 24) (.t 25))
 (zm 20 26
 (zr 27 (.extr (.t 20) 0)
 (zr 28 (.extr (.t 20) 1)
 (zm 5 27
 (zm 6 28
 .done)))))))))))
def Qvm : AT := (zm 29 6
 .done)
def Qvl : AT := (zm 30 5
 (zm 4 30
 .done))
def Qvk : AT := (zm 31 0
 (zr 32 (.nilc (.t 31))
 (zr 33 (.faddr 0 (.t 32))
 (zr 34 (.load false 1 (.t 33))
 (zr 35 (.len 0 (.t 34))
 (zm 7 35
 .done))))))
def Qvj : AT := (zr 36 (.load true 6 (.t 3))
 (zk 37 57 [.t 36, (.c (.str [])), (.c (.str []))]
 (zr 38 (.len 1 (.t 37))
 (zr 8 (.mov (zi 0))
 (zm 9 38
 .done)))))
def Qvi : AT := (zr 39 (.load true 6 (.t 3))
 (zk 40 59 [.t 39]
 (zr 41 (.len 0 (.t 40))
 (zr 42 (.mov (zi 0))
 .done))))
def Qvh : AT := (zr 43 (.bin .lss (.t 42) (.t 41))
 .done)
def Qp6 : AT := (zr 44 (.iaddr none 1 (.t 40) (.t 42))
 (zr 45 (.load false 1 (.t 44))
 (zm 11 45
 .done)))
def Qp5 : AT := (zm 46 8
 (zm 47 0
 (zr 48 (.nilc (.t 47))
 (zr 49 (.faddr 2 (.t 48))
 (zr 50 (.load false 1 (.t 49))
 (zm 51 11
 (zr 52 (.iaddr none 1 (.t 50) (.t 51))
 (zr 53 (.load false 1 (.t 52))
 (zr 54 (.maxi (.t 46) (.t 53))
 (zm 55 9
 (zm 56 0
 (zr 57 (.nilc (.t 56))
 (zr 58 (.faddr 3 (.t 57))
 (zr 59 (.load false 1 (.t 58))
 (zm 60 11
 (zr 61 (.iaddr none 1 (.t 59) (.t 60))
 (zr 62 (.load false 1 (.t 61))
 (zr 63 (.bin .add (.t 55) (.t 62))
 (zm 8 54
 (zm 9 63
 .done))))))))))))))))))))
def Qp4 : AT := (zr 64 (.bin .add (.t 42) (zi 1))
 (zm 42 64
 .done))
def Qp3 : AT := (zm 65 0
 (zm 66 0
 (zr 67 (.nilc (.t 66))
 (zr 68 (.faddr 1 (.t 67))
 (zr 69 (.load false 1 (.t 68))
 (zm 71 0
 (zr 72 (.nilc (.t 71))
 (zr 73 (.faddr 0 (.t 72))
 (zr 74 (.load false 1 (.t 73))
 (zr 75 (.load true 6 (.t 3))
 (zm 78 7
 (.alt (zr 70 (.load true 6 (.t 3))
 (.wr true (some 76) none (.bsl false true 57 6 [(.int .u8 0), (.int .i64 0), (.int .i64 0), (.int .u8 0), (.int .i64 0), (.int .i64 0)] 1 [(0, 6, (.t 75))])
 (.wr true (some 77) none (.app 57 6 48 false (.t 74) (.t 76))
 (zr 79 (.nilc (.t 65))
 (zr 80 (.faddr 0 (.t 79))
 (.wr false none none (.store 1 (.t 80) (.t 77))
 (.wr false (some 81) none (.ment true [.i, .i, .i, .i, .i, .i] (.int .i64 0) (.t 69) (.t 70))
 (zr 82 (.extr (.t 81) 1)
 (.wr false none none (.mst (.t 69) (.t 82) (.t 78))
 .done))))))))) (.wr true (some 76) none (.bsl false true 57 6 [(.int .u8 0), (.int .i64 0), (.int .i64 0), (.int .u8 0), (.int .i64 0), (.int .i64 0)] 1 [(0, 6, (.t 75))])
 (.alt (zr 70 (.load true 6 (.t 3))
 (.wr true (some 77) none (.app 57 6 48 false (.t 74) (.t 76))
 (zr 79 (.nilc (.t 65))
 (zr 80 (.faddr 0 (.t 79))
 (.wr false none none (.store 1 (.t 80) (.t 77))
 (.wr false (some 81) none (.ment true [.i, .i, .i, .i, .i, .i] (.int .i64 0) (.t 69) (.t 70))
 (zr 82 (.extr (.t 81) 1)
 (.wr false none none (.mst (.t 69) (.t 82) (.t 78))
 .done)))))))) (.wr true (some 77) none (.app 57 6 48 false (.t 74) (.t 76))
 (zr 79 (.nilc (.t 65))
 (zr 80 (.faddr 0 (.t 79))
 (.alt (zr 70 (.load true 6 (.t 3))
 (.wr false none none (.store 1 (.t 80) (.t 77))
 (.wr false (some 81) none (.ment true [.i, .i, .i, .i, .i, .i] (.int .i64 0) (.t 69) (.t 70))
 (zr 82 (.extr (.t 81) 1)
 (.wr false none none (.mst (.t 69) (.t 82) (.t 78))
 .done))))) (.wr false none none (.store 1 (.t 80) (.t 77))
 (zr 70 (.load true 6 (.t 3))
 (.wr false (some 81) none (.ment true [.i, .i, .i, .i, .i, .i] (.int .i64 0) (.t 69) (.t 70))
 (zr 82 (.extr (.t 81) 1)
 (.wr false none none (.mst (.t 69) (.t 82) (.t 78))
 .done)))))))))))))))))))))))
def Qp2 : AT := (zm 83 0
 (zm 84 0
 (zm 85 0
 (zr 86 (.nilc (.t 85))
 (zr 87 (.faddr 2 (.t 86))
 (zr 88 (.load false 1 (.t 87))
 (zm 89 8
 (zr 90 (.bin .add (.t 89) (zi 1))
 (zm 93 0
 (zr 94 (.nilc (.t 93))
 (zr 95 (.faddr 3 (.t 94))
 (zr 96 (.load false 1 (.t 95))
 (zm 97 9
 (zr 98 (.mini (.t 97) (zi 65537))
 (.alt (.wr true (some 91) none (.bsl false false 3 1 [(.int .i64 0)] 1 [(0, 1, (.t 90))])
 (.alt (.wr true (some 92) none (.app 3 1 8 false (.t 88) (.t 91))
 (.wr true (some 99) none (.bsl false false 3 1 [(.int .i64 0)] 1 [(0, 1, (.t 98))])
 (.wr false (some 100) none (.app 3 1 8 false (.t 96) (.t 99))
 (zr 101 (.nilc (.t 83))
 (zr 102 (.faddr 2 (.t 101))
 (.wr false none none (.store 1 (.t 102) (.t 92))
 (zr 103 (.nilc (.t 84))
 (zr 104 (.faddr 3 (.t 103))
 (.wr false none none (.store 1 (.t 104) (.t 100))
 .done))))))))) (.wr true (some 99) none (.bsl false false 3 1 [(.int .i64 0)] 1 [(0, 1, (.t 98))])
 (.wr true (some 92) none (.app 3 1 8 false (.t 88) (.t 91))
 (.wr false (some 100) none (.app 3 1 8 false (.t 96) (.t 99))
 (zr 101 (.nilc (.t 83))
 (zr 102 (.faddr 2 (.t 101))
 (.wr false none none (.store 1 (.t 102) (.t 92))
 (zr 103 (.nilc (.t 84))
 (zr 104 (.faddr 3 (.t 103))
 (.wr false none none (.store 1 (.t 104) (.t 100))
 .done))))))))))) (.wr true (some 99) none (.bsl false false 3 1 [(.int .i64 0)] 1 [(0, 1, (.t 98))])
 (.wr true (some 91) none (.bsl false false 3 1 [(.int .i64 0)] 1 [(0, 1, (.t 90))])
 (.wr true (some 92) none (.app 3 1 8 false (.t 88) (.t 91))
 (.wr false (some 100) none (.app 3 1 8 false (.t 96) (.t 99))
 (zr 101 (.nilc (.t 83))
 (zr 102 (.faddr 2 (.t 101))
 (.wr false none none (.store 1 (.t 102) (.t 92))
 (zr 103 (.nilc (.t 84))
 (zr 104 (.faddr 3 (.t 103))
 (.wr false none none (.store 1 (.t 104) (.t 100))
 .done)))))))))))))))))))))))))
def Qp1 : AT := (zm 105 7
 (zm 4 105
 .done))
def Yu : AF := ⟨106, [.tmp 4],
 (.seq (.reg Qvq [])
 (.seq (.seq (.reg Qvp [12, 13, 14, 15, 16, 17, 18])
 (.cond (.t 19)
 (.seq (.reg Qvo [])
 .ret)
 .skip))
 (.seq (.seq (.reg Qvn [21, 22, 23, 24, 25, 26, 20, 27, 28])
 (.seq (.reg Qvm [])
 (.cond (.t 29)
 (.seq (.reg Qvl [30])
 .ret)
 .skip)))
 (.seq (.reg Qvk [31, 32, 33, 34, 35])
 (.seq (.reg Qvj [36, 37, 38])
 (.seq (.seq (.reg Qvi [39])
 (.block 0 (.loop (.seq (.reg Qvh [])
 (.seq (.cond (.t 43)
 .skip
 (.exit 0))
 (.seq (.block 1 (.seq (.reg Qp6 [44, 45])
 (.reg Qp5 [46, 47, 48, 49, 50, 51, 52, 53, 54, 55, 56, 57, 58, 59, 60, 61, 62, 63])))
 (.reg Qp4 [64])))))))
 (.seq (.reg Qp3 [65, 66, 67, 68, 69, 70, 71, 72, 73, 74, 75, 76, 77, 78, 79, 80, 81, 82])
 (.seq (.reg Qp2 [83, 84, 85, 86, 87, 88, 89, 90, 91, 92, 93, 94, 95, 96, 97, 98, 99, 100, 101, 102, 103, 104])
 (.seq (.reg Qp1 [105])
 .ret)))))))))⟩
abbrev ZH : Nat := 41
/- proofmark/word.Known -/
def Qvg : AT := (zr 2 (.mov (.c (.bool false)))
 .done)
def Qvf : AT := (zm 3 0
 (zk 4 44 [.t 3]
 (zr 5 (.field false 0 1 (.t 4))
 (zr 6 (.eqf true (.t 5))
 (zm 2 6
 .done)))))
def QaP : AF := ⟨7, [.tmp 2],
 (.seq (.reg Qvg [])
 (.seq (.reg Qvf [3, 4, 5, 6])
 .ret))⟩
abbrev Qcl : Nat := 42
/- (proofmark/norm.maker).bin -/
def QDy : AT := (.wr false (some 4) none (.box 76 (.t 0))
 (zr 8 (.mov (zi 0))
 .done))
def QDx : AT := (zr 15 (.faddr 0 (.t 4))
 (zr 16 (.load false 1 (.t 15))
 (zm 17 2
 (zk 18 30 [.t 16, .t 17]
 (zm 14 18
 (zr 19 (.extr (.t 14) 0)
 (zr 20 (.extr (.t 14) 1)
 (zm 9 19
 (zm 10 20
 .done)))))))))
def QDw : AT := (zr 22 (.faddr 0 (.t 4))
 (zr 23 (.load false 1 (.t 22))
 (zm 24 3
 (zk 25 30 [.t 23, .t 24]
 (zm 21 25
 (zr 26 (.extr (.t 21) 0)
 (zr 27 (.extr (.t 21) 1)
 (zm 11 26
 (zm 12 27
 .done)))))))))
def QDv : AT := (zm 28 10
 (zm 29 28
 (zt 30 29 (.mov (.t 12))
 (zr 31 (.pick (.t 29) (.t 30) (.c (.bool false)))
 .done))))
def QDu : AT := (zr 32 (.load true 1 (.t 4))
 (zm 33 1
 (zm 34 9
 (zm 35 11
 (.cl true (some 36) none (.c (.fn (.func 14) [] [])) [(.t 33), (.t 34), (.t 35)]
 (zk 37 60 [.t 32, .t 36]
 (zm 8 37
 .done)))))))
def QDt : AT := (zm 38 1
 (zk 39 15 [.t 38]
 (zm 40 39
 (zt 41 40 (.mov (.t 10))
 (zt 42 40 (.mov (.t 41))
 (zf 43 42 (.mov (.t 12))
 (zf 44 42 (.un .not (.t 43))
 (zf 45 42 (.mov (.t 44))
 (zt 46 45 (.mov (.t 3))
 (zt 47 45 (.mov (.t 2))
 (zt 48 45 (.bin .lss (.t 46) (.t 47))
 (zf 49 42 (.pick (.t 45) (.t 48) (.c (.bool false)))
 (zt 50 40 (.pick (.t 42) (.c (.bool true)) (.t 49))
 (zr 51 (.pick (.t 40) (.t 50) (.c (.bool false)))
 .done))))))))))))))
def QDs : AT := (zm 52 3
 (zm 53 2
 (zm 54 11
 (zm 55 9
 (zm 56 12
 (zm 57 10
 (zm 2 52
 (zm 3 53
 (zm 9 54
 (zm 11 55
 (zm 10 56
 (zm 12 57
 .done))))))))))))
def QDr : AT := (zr 13 (.mov (.c (.int .i64 (-1))))
 .done)
def QDq : AT := (zm 59 2
 (zm 60 3
 (zr 61 (.bin .eql (.t 59) (.t 60))
 (zm 58 61
 .done))))
def QDp : AT := (zr 62 (.load true 1 (.t 4))
 (zm 63 1
 (zm 64 2
 (zk 65 61 [.t 62, .t 63, .t 64]
 (zm 13 65
 .done)))))
def Qve : AT := (zm 67 12
 (zm 66 67
 .done))
def Qvd : AT := (zr 68 (.load true 1 (.t 4))
 (zm 69 1
 (zm 70 2
 (zm 71 11
 (zk 72 62 [.t 68, .t 69, .t 70, .t 71]
 (zm 13 72
 .done))))))
def Qvc : AT := (zm 74 10
 (zm 75 74
 (zt 76 75 (.mov (.t 9))
 (zt 77 75 (.bin .eql (.t 76) (zi 0))
 (zr 78 (.pick (.t 75) (.t 77) (.c (.bool false)))
 (zm 79 78
 (zt 80 79 (.mov (.t 1))
 (zt 81 79 (.bin .eql (.t 80) (zu 15))
 (zr 82 (.pick (.t 79) (.t 81) (.c (.bool false)))
 (zm 73 82
 .done))))))))))
def Qvb : AT := (zr 84 (.load true 1 (.t 4))
 (zm 85 3
 (zm 86 2
 (zm 88 2
 (.alt (zr 83 (.load true 1 (.t 4))
 (zk 87 43 [.t 84, (zu 16), .t 85, .t 86]
 (zk 89 43 [.t 83, (zu 16), .t 87, .t 88]
 (zm 13 89
 .done)))) (zk 87 43 [.t 84, (zu 16), .t 85, .t 86]
 (zr 83 (.load true 1 (.t 4))
 (zk 89 43 [.t 83, (zu 16), .t 87, .t 88]
 (zm 13 89
 .done)))))))))
def Qva : AT := (zm 90 13
 (zr 91 (.bin .neq (.t 90) (.c (.int .i64 (-1))))
 .done))
def Qu9 : AT := (zm 92 13
 (zm 8 92
 .done))
def Qu8 : AT := (zr 93 (.faddr 0 (.t 4))
 (zr 94 (.load false 1 (.t 93))
 (zm 95 1
 (zm 96 2
 (zm 97 3
 (zr 98 (.build [(.int .u8 0), (.int .i64 0), (.int .i64 0), (.int .u8 0), (.int .i64 0), (.int .i64 0)] [(0, 1, (zu 4)), (3, 1, (.t 95)), (4, 1, (.t 96)), (5, 1, (.t 97))])
 (zk 99 41 [.t 94, .t 98]
 (zm 8 99
 .done))))))))
def ZE : AF := ⟨100, [.tmp 8],
 (.seq (.reg QDy [])
 (.seq (.reg QDx [15, 16, 17, 18, 14, 19, 20])
 (.seq (.reg QDw [22, 23, 24, 25, 21, 26, 27])
 (.seq (.seq (.reg QDv [28, 29, 30])
 (.cond (.t 31)
 (.seq (.reg QDu [32, 33, 34, 35, 36, 37])
 .ret)
 .skip))
 (.seq (.seq (.reg QDt [38, 39, 40, 41, 42, 43, 44, 45, 46, 47, 48, 49, 50])
 (.cond (.t 51)
 (.reg QDs [52, 53, 54, 55, 56, 57])
 .skip))
 (.seq (.reg QDr [])
 (.seq (.block 0 (.seq (.reg QDq [59, 60, 61])
 (.cond (.t 58)
 (.reg QDp [62, 63, 64, 65])
 (.seq (.reg Qve [67])
 (.cond (.t 66)
 (.reg Qvd [68, 69, 70, 71, 72])
 (.seq (.reg Qvc [74, 75, 76, 77, 78, 79, 80, 81, 82])
 (.cond (.t 73)
 (.reg Qvb [83, 84, 85, 86, 87, 88, 89])
 .skip)))))))
 (.seq (.seq (.reg Qva [90])
 (.cond (.t 91)
 (.seq (.reg Qu9 [92])
 .ret)
 .skip))
 (.seq (.reg Qu8 [93, 94, 95, 96, 97, 98, 99])
 .ret)))))))))⟩
abbrev Qd3 : Nat := 43
/- proofmark/word.of -/
def ZW : AT := (.wr false (some 2) none (.new 80 [(.val .nilFunc), (.bool false), (.bool false), (.int .i64 0), (.bool false)])
 .done)
def ZV : AT := (zr 4 (.build [(.val .nilFunc), (.bool false), (.bool false), (.int .i64 0), (.bool false)] [(0, 1, (.c (.fn (.func 63) [] []))), (1, 1, (.c (.bool true))), (2, 1, (.c (.bool true))), (3, 1, (zi 0)), (4, 1, (.c (.bool true)))])
 (zr 5 (.build [(.val .nilFunc), (.bool false), (.bool false), (.int .i64 0), (.bool false)] [(0, 1, (.c (.fn (.func 64) [] []))), (1, 1, (.c (.bool false))), (2, 1, (.c (.bool false))), (3, 1, (zi 0)), (4, 1, (.c (.bool true)))])
 (zr 6 (.build [(.val .nilFunc), (.bool false), (.bool false), (.int .i64 0), (.bool false)] [(0, 1, (.c (.fn (.func 65) [] []))), (1, 1, (.c (.bool true))), (2, 1, (.c (.bool true))), (3, 1, (zi 1)), (4, 1, (.c (.bool true)))])
 (zr 7 (.build [(.val .nilFunc), (.bool false), (.bool false), (.int .i64 0), (.bool false)] [(0, 1, (.c (.fn (.func 66) [] []))), (1, 1, (.c (.bool false))), (2, 1, (.c (.bool false))), (3, 1, (zi 1)), (4, 1, (.c (.bool true)))])
 (zr 8 (.build [(.val .nilFunc), (.bool false), (.bool false), (.int .i64 0), (.bool false)] [(0, 1, (.c (.fn (.func 67) [] []))), (1, 1, (.c (.bool false))), (2, 1, (.c (.bool false))), (3, 1, (zi 0)), (4, 1, (.c (.bool true)))])
 (zr 9 (.build [(.val .nilFunc), (.bool false), (.bool false), (.int .i64 0), (.bool false)] [(0, 1, (.c (.fn (.func 68) [] []))), (1, 1, (.c (.bool false))), (2, 1, (.c (.bool false))), (3, 1, (zi 1)), (4, 1, (.c (.bool true)))])
 (zr 10 (.build [(.val .nilFunc), (.bool false), (.bool false), (.int .i64 0), (.bool false)] [(0, 1, (.c (.fn (.func 69) [] []))), (1, 1, (.c (.bool false))), (2, 1, (.c (.bool false))), (3, 1, (zi 0)), (4, 1, (.c (.bool true)))])
 (zr 11 (.build [(.val .nilFunc), (.bool false), (.bool false), (.int .i64 0), (.bool false)] [(0, 1, (.c (.fn (.func 70) [] []))), (1, 1, (.c (.bool true))), (2, 1, (.c (.bool true))), (3, 1, (.c (.int .i64 (-1)))), (4, 1, (.c (.bool true)))])
 (zr 12 (.build [(.val .nilFunc), (.bool false), (.bool false), (.int .i64 0), (.bool false)] [(0, 1, (.c (.fn (.func 71) [] []))), (1, 1, (.c (.bool true))), (2, 1, (.c (.bool true))), (3, 1, (zi 0)), (4, 1, (.c (.bool true)))])
 (zr 13 (.build [(.val .nilFunc), (.bool false), (.bool false), (.int .i64 0), (.bool false)] [(0, 1, (.c (.fn (.func 72) [] []))), (1, 1, (.c (.bool true))), (2, 1, (.c (.bool true))), (3, 1, (zi 0)), (4, 1, (.c (.bool true)))])
 (zr 14 (.build [(.val .nilFunc), (.bool false), (.bool false), (.int .i64 0), (.bool false)] [(0, 1, (.c (.fn (.func 73) [] []))), (1, 1, (.c (.bool false))), (2, 1, (.c (.bool false))), (3, 1, (zi 0)), (4, 1, (.c (.bool true)))])
 (zr 15 (.build [(.val .nilFunc), (.bool false), (.bool false), (.int .i64 0), (.bool false)] [(0, 1, (.c (.fn (.func 74) [] []))), (1, 1, (.c (.bool false))), (2, 1, (.c (.bool false))), (3, 1, (zi 0)), (4, 1, (.c (.bool true)))])
 (zr 16 (.build [(.val .nilFunc), (.bool false), (.bool false), (.int .i64 0), (.bool false)] [(0, 1, (.c (.fn (.func 75) [] []))), (1, 1, (.c (.bool false))), (2, 1, (.c (.bool false))), (3, 1, (zi 0)), (4, 1, (.c (.bool true)))])
 (zr 17 (.build [(.val .nilFunc), (.bool false), (.bool false), (.int .i64 0), (.bool false)] [(0, 1, (.c (.fn (.func 76) [] []))), (1, 1, (.c (.bool false))), (2, 1, (.c (.bool false))), (3, 1, (zi 0)), (4, 1, (.c (.bool false)))])
 (zr 18 (.build [(.val .nilFunc), (.bool false), (.bool false), (.int .i64 0), (.bool false)] [(0, 1, (.c (.fn (.func 78) [] []))), (1, 1, (.c (.bool false))), (2, 1, (.c (.bool false))), (3, 1, (zi 0)), (4, 1, (.c (.bool false)))])
 (zr 19 (.build [(.val .nilFunc), (.bool false), (.bool false), (.int .i64 0), (.bool false)] [(0, 1, (.c (.fn (.func 79) [] []))), (1, 1, (.c (.bool true))), (2, 1, (.c (.bool false))), (3, 1, (zi 0)), (4, 1, (.c (.bool false)))])
 (zr 20 (.build (List.replicate 17 [(.val .nilFunc), (.bool false), (.bool false), (.int .i64 0), (.bool false)]).flatten [(5, 5, (.t 4)), (10, 5, (.t 5)), (15, 5, (.t 6)), (20, 5, (.t 7)), (25, 5, (.t 8)), (30, 5, (.t 9)), (35, 5, (.t 10)), (40, 5, (.t 11)), (45, 5, (.t 12)), (50, 5, (.t 13)), (55, 5, (.t 14)), (60, 5, (.t 15)), (65, 5, (.t 16)), (70, 5, (.t 17)), (75, 5, (.t 18)), (80, 5, (.t 19))])
 (.wr false (some 3) none (.new 108 (List.replicate 17 [(.val .nilFunc), (.bool false), (.bool false), (.int .i64 0), (.bool false)]).flatten)
 (.wr false none none (.store 85 (.t 3) (.t 20))
 .done)))))))))))))))))))
def ZU : AT := (zm 21 0
 (zr 22 (.conv .i64 (.t 21))
 (zr 23 (.bin .geq (.t 22) (zi 17))
 .done)))
def ZT : AT := (zr 24 (.build [(.val .nilFunc), (.bool false), (.bool false), (.int .i64 0), (.bool false)] [])
 (.wr false none none (.store 5 (.t 2) (.t 24))
 .done))
def ZS : AT := (zm 25 0
 (zr 26 (.iaddr (some 17) 5 (.t 3) (.t 25))
 (zr 27 (.load true 5 (.t 26))
 (.wr false none none (.store 5 (.t 2) (.t 27))
 .done))))
def QY : AF := ⟨28, [.cell 2 true 5],
 (.seq (.reg ZW [])
 (.seq (.reg ZV [4, 5, 6, 7, 8, 9, 10, 11, 12, 13, 14, 15, 16, 17, 18, 19, 20])
 (.seq (.seq (.reg ZU [21, 22])
 (.cond (.t 23)
 (.seq (.reg ZT [24])
 .ret)
 .skip))
 (.seq (.reg ZS [25, 26, 27])
 .ret))))⟩
abbrev Q3 : Nat := 44
end Go.Proofs.YtpdeoalocejodaaGreatDoor
