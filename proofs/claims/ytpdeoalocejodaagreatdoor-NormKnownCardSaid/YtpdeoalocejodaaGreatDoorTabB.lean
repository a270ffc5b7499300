/- The translations of the functions, by a program of mine. -/
import Derived.Test.YtpdeoalocejodaaGreatDoorTabA
namespace Go.Proofs.YtpdeoalocejodaaGreatDoor
open Go Go.Am
set_option maxRecDepth 100000
/- proofmark/value.All -/
def QDo : AT := (.wr false (some 4) none (.box 48 (.t 1))
 (zr 6 (.mov (.c (.lst 0 [] true)))
 (zr 7 (.mov (.c (.bool false)))
 .done)))
def QDn : AT := (.wr false (some 19) none .mkmap
 (.wr false (some 8) none (.new 109 [(.val (.map none))])
 (.wr false none none (.store 1 (.t 8) (.t 19))
 .done)))
def QDm : AT := (zr 20 (.mkfn (.func 80) [] [(.t 4), (.t 8)])
 (zm 9 20
 .done))
def QDl : AT := (zm 21 0
 (zm 22 2
 (zk 23 56 [.t 21, .t 22]
 (zr 24 (.len 0 (.t 23))
 (zr 25 (.mov (zi 0))
 .done)))))
def QrI : AT := (zr 26 (.bin .lss (.t 25) (.t 24))
 .done)
def QrH : AT := (zr 27 (.iaddr none 1 (.t 23) (.t 25))
 (zr 28 (.load false 1 (.t 27))
 (zm 11 28
 .done)))
def QrG : AT := (zm 30 0
 (zm 31 11
 (zk 32 29 [.t 30, .t 31]
 (zm 29 32
 (zr 33 (.extr (.t 29) 0)
 (zr 34 (.extr (.t 29) 1)
 (.wr false (some 12) none (.new 57 [(.int .u8 0), (.int .i64 0), (.int .i64 0), (.int .u8 0), (.int .i64 0), (.int .i64 0)])
 (.wr false none none (.store 6 (.t 12) (.t 33))
 (zm 13 34
 .done)))))))))
def QrF : AT := (zr 35 (.load false 1 (.t 8))
 (zm 36 11
 (zm 37 9
 (zr 38 (.load true 6 (.t 12))
 (.cl true (some 39) none (.t 37) [(.t 38)]
 (.wr false none none (.mapup false [.i] (.t 35) (.t 36) (.t 39))
 .done))))))
def QrE : AT := (zr 40 (.bin .add (.t 25) (zi 1))
 (zm 25 40
 .done))
def QDk : AT := (zm 41 2
 (zr 42 (.len 0 (.t 41))
 (.wr false (some 43) none (.mksl 2 1 8 [(.int .i64 0)] (.t 42) (.t 42))
 (zm 14 43
 .done))))
def Qu7 : AT := (zm 44 2
 (zr 45 (.len 0 (.t 44))
 (zr 46 (.mov (zi 0))
 .done)))
def Qj1 : AT := (zr 47 (.bin .lss (.t 46) (.t 45))
 .done)
def Qj0 : AT := (zm 48 46
 (zr 49 (.iaddr none 1 (.t 44) (.t 46))
 (zr 50 (.load false 1 (.t 49))
 (zm 15 48
 (zm 16 50
 .done)))))
def QjZ : AT := (zr 52 (.load false 1 (.t 8))
 (zm 53 16
 (zr 54 (.look true false [.i] (.int .i64 0) (.t 52) (.t 53))
 (zm 51 54
 (zr 55 (.extr (.t 51) 0)
 (zr 56 (.extr (.t 51) 1)
 (zm 17 55
 (zm 18 56
 .done))))))))
def QjY : AT := (zm 57 18
 (zr 58 (.un .not (.t 57))
 .done))
def QjX : AT := (zr 6 (.mov (.c (.lst 0 [] true)))
 (zr 7 (.mov (.c (.bool false)))
 .done))
def QjW : AT := (zm 59 14
 (zm 60 15
 (zm 61 17
 (zr 62 (.iaddr none 1 (.t 59) (.t 60))
 (.wr false none none (.store 1 (.t 62) (.t 61))
 .done)))))
def QjV : AT := (zr 63 (.bin .add (.t 46) (zi 1))
 (zm 46 63
 .done))
def Qu6 : AT := (zm 64 14
 (zm 6 64
 (zr 7 (.mov (.c (.bool true)))
 .done)))
def QeE : AF := ⟨65, [.tmp 6, .tmp 7],
 (.seq (.reg QDo [])
 (.seq (.reg QDn [19])
 (.seq (.reg QDm [20])
 (.seq (.seq (.reg QDl [21, 22])
 (.block 0 (.loop (.seq (.reg QrI [])
 (.seq (.cond (.t 26)
 .skip
 (.exit 0))
 (.seq (.block 1 (.seq (.reg QrH [27, 28])
 (.seq (.reg QrG [30, 31, 32, 29, 33, 34, 13])
 (.reg QrF [35, 36, 37, 38, 39]))))
 (.reg QrE [40])))))))
 (.seq (.reg QDk [41, 42, 43])
 (.seq (.seq (.reg Qu7 [])
 (.block 2 (.loop (.seq (.reg Qj1 [])
 (.seq (.cond (.t 47)
 .skip
 (.exit 2))
 (.seq (.block 3 (.seq (.reg Qj0 [48, 49, 50])
 (.seq (.reg QjZ [52, 53, 54, 51, 55, 56])
 (.seq (.seq (.reg QjY [57])
 (.cond (.t 58)
 (.seq (.reg QjX [])
 .ret)
 .skip))
 (.reg QjW [59, 60, 61, 62])))))
 (.reg QjV [63])))))))
 (.seq (.reg Qu6 [64])
 .ret)))))))⟩
abbrev Qdu : Nat := 45
/- (*proofmark/term.Graph).is -/
def Qu5 : AT := (zr 4 (.mov (.c (.bool false)))
 .done)
def Qu4 : AT := (zm 5 0
 (zr 6 (.eqp true (.t 5) (.c (.val (.pointer none))))
 (zm 7 6
 (zt 8 7 (.mov (.t 1))
 (zt 9 7 (.bin .geq (.t 8) (zi 0))
 (zr 10 (.pick (.t 7) (.t 9) (.c (.bool false)))
 (zm 11 10
 (zt 12 11 (.mov (.t 1))
 (zt 13 11 (.mov (.t 0))
 (zt 14 11 (.nilc (.t 13))
 (zt 15 11 (.faddr 0 (.t 14))
 (zt 16 11 (.load false 1 (.t 15))
 (zt 17 11 (.len 0 (.t 16))
 (zt 18 11 (.bin .lss (.t 12) (.t 17))
 (zr 19 (.pick (.t 11) (.t 18) (.c (.bool false)))
 (zm 4 19
 .done))))))))))))))))
def YJ : AF := ⟨20, [.tmp 4],
 (.seq (.reg Qu5 [])
 (.seq (.reg Qu4 [5, 6, 7, 8, 9, 10, 11, 12, 13, 14, 15, 16, 17, 18, 19])
 .ret))⟩
abbrev QbL : Nat := 46
/- proofmark/norm.is -/
def QDj : AT := (zr 4 (.mov (.c (.bool false)))
 .done)
def QDi : AT := (zm 7 1
 (zr 8 (.len 0 (.t 7))
 (zr 9 (.mov (zi 0))
 .done)))
def QDh : AT := (zr 10 (.bin .lss (.t 9) (.t 8))
 .done)
def QDg : AT := (zr 11 (.iaddr none 1 (.t 7) (.t 9))
 (zr 12 (.load false 1 (.t 11))
 (zm 6 12
 .done)))
def QDf : AT := (zm 13 0
 (zm 14 6
 (zr 15 (.bin .eql (.t 13) (.t 14))
 .done)))
def QDe : AT := (zr 4 (.mov (.c (.bool true)))
 .done)
def QDd : AT := (zr 16 (.bin .add (.t 9) (zi 1))
 (zm 9 16
 .done))
def QDc : AT := (zr 4 (.mov (.c (.bool false)))
 .done)
def Qkp : AF := ⟨17, [.tmp 4],
 (.seq (.reg QDj [])
 (.seq (.seq (.reg QDi [])
 (.block 0 (.loop (.seq (.reg QDh [])
 (.seq (.cond (.t 10)
 .skip
 (.exit 0))
 (.seq (.block 1 (.seq (.reg QDg [11, 12])
 (.seq (.reg QDf [13, 14])
 (.cond (.t 15)
 (.seq (.reg QDe [])
 .ret)
 .skip))))
 (.reg QDd [16])))))))
 (.seq (.reg QDc [])
 .ret)))⟩
abbrev Qol : Nat := 47
/- proofmark/proofmarkref01.add -/
def QDb : AT := (zr 4 (.mov (zi 0))
 .done)
def QDa : AT := (zr 5 (.mov (.c (.int .u64 0)))
 (zr 6 (.mov (.c (.int .u64 0)))
 .done))
def QC9 : AT := (zr 7 (.mov (zi 0))
 .done)
def QC8 : AT := (zm 9 7
 (zr 10 (.bin .lss (.t 9) (zi 64))
 .done))
def QC7 : AT := (zm 13 0
 (zm 14 7
 (zk 15 53 [.t 13, .t 14]
 (zm 16 1
 (zm 17 7
 (zk 18 53 [.t 16, .t 17]
 (zr 19 (.bin .add (.t 15) (.t 18))
 (zm 20 6
 (zr 21 (.bin .add (.t 19) (.t 20))
 (zm 8 21
 .done))))))))))
def QC6 : AT := (zm 22 5
 (zm 23 8
 (zr 24 (.bin .and (.t 23) (.c (.int .u64 1)))
 (zm 25 7
 (zr 26 (.bin .shl (.t 24) (.t 25))
 (zr 27 (.bin .or (.t 22) (.t 26))
 (zm 5 27
 .done)))))))
def QC5 : AT := (zm 28 8
 (zr 29 (.bin .shr (.t 28) (.c (.int .u64 1)))
 (zm 6 29
 .done)))
def QC4 : AT := (zm 11 7
 (zr 12 (.bin .add (.t 11) (zi 1))
 (zm 7 12
 .done)))
def QC3 : AT := (zm 30 5
 (zr 31 (.conv .i64 (.t 30))
 (zm 4 31
 .done)))
def Yr : AF := ⟨32, [.tmp 4],
 (.seq (.reg QDb [])
 (.seq (.reg QDa [])
 (.seq (.seq (.reg QC9 [])
 (.block 0 (.loop (.seq (.seq (.reg QC8 [9])
 (.cond (.t 10)
 .skip
 (.exit 0)))
 (.seq (.block 1 (.seq (.reg QC7 [13, 14, 15, 16, 17, 18, 19, 20, 21])
 (.seq (.reg QC6 [22, 23, 24, 25, 26, 27])
 (.reg QC5 [28, 29]))))
 (.reg QC4 [11, 12]))))))
 (.seq (.reg QC3 [30, 31])
 .ret))))⟩
abbrev Qbn : Nat := 48
/- proofmark/proofmarkref01.neg -/
def QC2 : AT := (zr 2 (.mov (zi 0))
 .done)
def QC1 : AT := (zm 3 0
 (zr 4 (.un .xor (.t 3))
 (zk 5 48 [.t 4, (zi 1)]
 (zm 2 5
 .done))))
def Yo : AF := ⟨6, [.tmp 2],
 (.seq (.reg QC2 [])
 (.seq (.reg QC1 [3, 4, 5])
 .ret))⟩
abbrev Qbk : Nat := 49
/- proofmark/proofmarkref01.mul -/
def QC0 : AT := (zr 4 (.mov (zi 0))
 .done)
def QCZ : AT := (zr 5 (.mov (zi 0))
 .done)
def QCY : AT := (zr 6 (.mov (zi 0))
 .done)
def QCX : AT := (zm 7 6
 (zr 8 (.bin .lss (.t 7) (zi 64))
 .done))
def QCW : AT := (zm 11 1
 (zm 12 6
 (zk 13 53 [.t 11, .t 12]
 (zr 14 (.bin .eql (.t 13) (.c (.int .u64 1)))
 .done))))
def QCV : AT := (zm 15 5
 (zm 16 0
 (zr 17 (.conv .u64 (.t 16))
 (zm 18 6
 (zr 19 (.bin .shl (.t 17) (.t 18))
 (zr 20 (.conv .i64 (.t 19))
 (zk 21 48 [.t 15, .t 20]
 (zm 5 21
 .done))))))))
def QCU : AT := (zm 9 6
 (zr 10 (.bin .add (.t 9) (zi 1))
 (zm 6 10
 .done)))
def QCT : AT := (zm 22 5
 (zm 4 22
 .done))
def Yp : AF := ⟨23, [.tmp 4],
 (.seq (.reg QC0 [])
 (.seq (.reg QCZ [])
 (.seq (.seq (.reg QCY [])
 (.block 0 (.loop (.seq (.seq (.reg QCX [7])
 (.cond (.t 8)
 .skip
 (.exit 0)))
 (.seq (.block 1 (.seq (.reg QCW [11, 12, 13])
 (.cond (.t 14)
 (.reg QCV [15, 16, 17, 18, 19, 20, 21])
 .skip)))
 (.reg QCU [9, 10]))))))
 (.seq (.reg QCT [22])
 .ret))))⟩
abbrev Qbl : Nat := 50
/- proofmark/proofmarkref01.quotients -/
def Qg7 : AT := (zr 6 (.mov (zi 0))
 .done)
def Qg6 : AT := (zm 9 2
 (zr 10 (.bin .eql (.t 9) (zi 0))
 .done))
def Qg5 : AT := (zm 11 0
 (zr 12 (.bin .eql (.t 11) (zu 4))
 (zm 13 12
 (zf 14 13 (.mov (.t 0))
 (zf 15 13 (.bin .eql (.t 14) (zu 6))
 (zr 16 (.pick (.t 13) (.c (.bool true)) (.t 15))
 .done))))))
def Qg4 : AT := (zr 6 (.mov (.c (.int .i64 (-1))))
 .done)
def Qg3 : AT := (zm 17 1
 (zm 6 17
 .done))
def Qg2 : AT := (zm 19 1
 (zm 20 2
 (zk 21 83 [.t 19, .t 20]
 (zm 18 21
 (zr 22 (.extr (.t 18) 0)
 (zr 23 (.extr (.t 18) 1)
 (zm 7 22
 (zm 8 23
 .done))))))))
def Qg1 : AT := (zm 24 0
 (zr 25 (.bin .eql (.t 24) (zu 4))
 (zm 26 25
 (zf 27 26 (.mov (.t 0))
 (zf 28 26 (.bin .eql (.t 27) (zu 5))
 (zr 29 (.pick (.t 26) (.c (.bool true)) (.t 28))
 .done))))))
def Qg0 : AT := (zm 31 1
 (zm 32 2
 (zk 33 84 [.t 31, .t 32]
 (zm 30 33
 (zr 34 (.extr (.t 30) 0)
 (zr 35 (.extr (.t 30) 1)
 (zm 7 34
 (zm 8 35
 .done))))))))
def QgZ : AT := (zm 36 0
 (zr 37 (.bin .eql (.t 36) (zu 4))
 (zm 38 37
 (zf 39 38 (.mov (.t 0))
 (zf 40 38 (.bin .eql (.t 39) (zu 6))
 (zr 41 (.pick (.t 38) (.c (.bool true)) (.t 40))
 .done))))))
def QgY : AT := (zm 42 7
 (zm 6 42
 .done))
def Qdh : AT := (zm 43 8
 (zm 6 43
 .done))
def Qp : AF := ⟨44, [.tmp 6],
 (.seq (.reg Qg7 [])
 (.seq (.seq (.reg Qg6 [9])
 (.cond (.t 10)
 (.seq (.seq (.reg Qg5 [11, 12, 13, 14, 15])
 (.cond (.t 16)
 (.seq (.reg Qg4 [])
 .ret)
 .skip))
 (.seq (.reg Qg3 [17])
 .ret))
 .skip))
 (.seq (.reg Qg2 [19, 20, 21, 18, 22, 23])
 (.seq (.seq (.reg Qg1 [24, 25, 26, 27, 28])
 (.cond (.t 29)
 (.reg Qg0 [31, 32, 33, 30, 34, 35])
 .skip))
 (.seq (.seq (.reg QgZ [36, 37, 38, 39, 40])
 (.cond (.t 41)
 (.seq (.reg QgY [42])
 .ret)
 .skip))
 (.seq (.reg Qdh [43])
 .ret))))))⟩
abbrev Zq : Nat := 51
/- proofmark/proofmarkref01.moved -/
def QCS : AT := (zr 8 (.mov (zi 0))
 .done)
def QCR : AT := (zr 9 (.mov (.c (.int .u64 0)))
 .done)
def QCQ : AT := (zr 10 (.mov (zi 0))
 .done)
def QCP : AT := (zm 13 10
 (zr 14 (.bin .lss (.t 13) (zi 64))
 .done))
def QCO : AT := (zm 17 10
 (zm 18 3
 (zr 19 (.bin .add (.t 17) (.t 18))
 (zm 11 19
 .done))))
def QCN : AT := (zm 20 1
 .done)
def QCM : AT := (zm 21 10
 (zm 22 3
 (zr 23 (.bin .sub (.t 21) (.t 22))
 (zm 11 23
 .done))))
def QCL : AT := (zm 24 2
 (zm 12 24
 .done))
def QCK : AT := (zm 25 11
 (zr 26 (.bin .geq (.t 25) (zi 0))
 (zm 27 26
 (zt 28 27 (.mov (.t 11))
 (zt 29 27 (.bin .lss (.t 28) (zi 64))
 (zr 30 (.pick (.t 27) (.t 29) (.c (.bool false)))
 .done))))))
def QCJ : AT := (zm 31 0
 (zm 32 11
 (zk 33 53 [.t 31, .t 32]
 (zm 12 33
 .done))))
def Qu3 : AT := (zm 34 1
 (zm 35 34
 (zt 36 35 (.mov (.t 11))
 (zt 37 35 (.bin .lss (.t 36) (zi 0))
 (zr 38 (.pick (.t 35) (.t 37) (.c (.bool false)))
 .done)))))
def Qu2 : AT := (zr 12 (.mov (.c (.int .u64 0)))
 .done)
def Qu1 : AT := (zm 39 9
 (zm 40 12
 (zm 41 10
 (zr 42 (.bin .shl (.t 40) (.t 41))
 (zr 43 (.bin .or (.t 39) (.t 42))
 (zm 9 43
 .done))))))
def Qu0 : AT := (zm 15 10
 (zr 16 (.bin .add (.t 15) (zi 1))
 (zm 10 16
 .done)))
def QuZ : AT := (zm 44 9
 (zr 45 (.conv .i64 (.t 44))
 (zm 8 45
 .done)))
def XX : AF := ⟨46, [.tmp 8],
 (.seq (.reg QCS [])
 (.seq (.reg QCR [])
 (.seq (.seq (.reg QCQ [])
 (.block 0 (.loop (.seq (.seq (.reg QCP [13])
 (.cond (.t 14)
 .skip
 (.exit 0)))
 (.seq (.block 1 (.seq (.reg QCO [17, 18, 19])
 (.seq (.seq (.reg QCN [])
 (.cond (.t 20)
 (.reg QCM [21, 22, 23])
 .skip))
 (.seq (.reg QCL [24])
 (.seq (.seq (.reg QCK [25, 26, 27, 28, 29])
 (.cond (.t 30)
 (.reg QCJ [31, 32, 33])
 .skip))
 (.seq (.seq (.reg Qu3 [34, 35, 36, 37])
 (.cond (.t 38)
 (.reg Qu2 [])
 .skip))
 (.reg Qu1 [39, 40, 41, 42, 43])))))))
 (.reg Qu0 [15, 16]))))))
 (.seq (.reg QuZ [44, 45])
 .ret))))⟩
abbrev XG : Nat := 52
/- proofmark/proofmarkref01.bit -/
def QCI : AT := (zr 4 (.mov (.c (.int .u64 0)))
 .done)
def QCH : AT := (zm 5 0
 (zr 6 (.conv .u64 (.t 5))
 (zm 7 1
 (zr 8 (.bin .shr (.t 6) (.t 7))
 (zr 9 (.bin .and (.t 8) (.c (.int .u64 1)))
 (zm 4 9
 .done))))))
def Yq : AF := ⟨10, [.tmp 4],
 (.seq (.reg QCI [])
 (.seq (.reg QCH [5, 6, 7, 8, 9])
 .ret))⟩
abbrev Qbm : Nat := 53
/- proofmark/proofmarkref01.one -/
def QCG : AT := (zr 2 (.mov (zi 0))
 .done)
def QCF : AT := (zm 3 0
 .done)
def QCE : AT := (zr 2 (.mov (zi 1))
 .done)
def QCD : AT := (zr 2 (.mov (zi 0))
 .done)
def Yn : AF := ⟨4, [.tmp 2],
 (.seq (.reg QCG [])
 (.seq (.seq (.reg QCF [])
 (.cond (.t 3)
 (.seq (.reg QCE [])
 .ret)
 .skip))
 (.seq (.reg QCD [])
 .ret)))⟩
abbrev Qbj : Nat := 54
/- proofmark/proofmarkref01.below -/
def QCC : AT := (zr 4 (.mov (.c (.bool false)))
 .done)
def QCB : AT := (zr 5 (.mov (zi 63))
 .done)
def QCA : AT := (zm 6 5
 (zr 7 (.bin .geq (.t 6) (zi 0))
 .done))
def QCz : AT := (zm 10 0
 (zm 11 5
 (zk 12 53 [.t 10, .t 11]
 (zm 13 1
 (zm 14 5
 (zk 15 53 [.t 13, .t 14]
 (zr 16 (.bin .neq (.t 12) (.t 15))
 .done)))))))
def QCy : AT := (zm 17 1
 (zm 18 5
 (zk 19 53 [.t 17, .t 18]
 (zr 20 (.bin .eql (.t 19) (.c (.int .u64 1)))
 (zm 4 20
 .done)))))
def QCx : AT := (zm 8 5
 (zr 9 (.bin .sub (.t 8) (zi 1))
 (zm 5 9
 .done)))
def QCw : AT := (zr 4 (.mov (.c (.bool false)))
 .done)
def XY : AF := ⟨21, [.tmp 4],
 (.seq (.reg QCC [])
 (.seq (.seq (.reg QCB [])
 (.block 0 (.loop (.seq (.seq (.reg QCA [6])
 (.cond (.t 7)
 .skip
 (.exit 0)))
 (.seq (.block 1 (.seq (.reg QCz [10, 11, 12, 13, 14, 15])
 (.cond (.t 16)
 (.seq (.reg QCy [17, 18, 19, 20])
 .ret)
 .skip)))
 (.reg QCx [8, 9]))))))
 (.seq (.reg QCw [])
 .ret)))⟩
abbrev QaM : Nat := 55
/- (*proofmark/term.Graph).Uses -/
def QCv : AT := (.wr false (some 2) none (.box 25 (.t 0))
 (zr 4 (.mov (.c (.lst 0 [] true)))
 .done))
def QCu : AT := (.wr false (some 10) none .mkmap
 (.wr false (some 5) none (.new 115 [(.val (.map none))])
 (.wr false none none (.store 1 (.t 5) (.t 10))
 .done)))
def QCt : AT := (.wr false (some 6) none (.new 50 [(.lst 0 [] true)])
 .done)
def QCs : AT := (.wr false (some 7) none (.new 116 [(.val .nilFunc)])
 .done)
def QCr : AT := (zr 11 (.mkfn (.func 85) [] [(.t 2), (.t 5), (.t 6), (.t 7)])
 (.wr false none none (.store 1 (.t 7) (.t 11))
 .done))
def QCq : AT := (zm 12 1
 (zr 13 (.len 0 (.t 12))
 (zr 14 (.mov (zi 0))
 .done)))
def QCp : AT := (zr 15 (.bin .lss (.t 14) (.t 13))
 .done)
def QCo : AT := (zr 16 (.iaddr none 1 (.t 12) (.t 14))
 (zr 17 (.load false 1 (.t 16))
 (zm 9 17
 .done)))
def QCn : AT := (zr 18 (.load false 1 (.t 7))
 (zm 19 9
 (.cl false (some 20) none (.t 18) [(.t 19)]
 .done)))
def QCm : AT := (zr 21 (.bin .add (.t 14) (zi 1))
 (zm 14 21
 .done))
def QuY : AT := (zr 22 (.load false 1 (.t 6))
 (zk 23 86 [.t 22]
 .done))
def QuX : AT := (zr 24 (.load false 1 (.t 6))
 (zm 4 24
 .done))
def Y5 : AF := ⟨25, [.tmp 4],
 (.seq (.reg QCv [])
 (.seq (.reg QCu [10])
 (.seq (.reg QCt [])
 (.seq (.reg QCs [])
 (.seq (.reg QCr [11])
 (.seq (.seq (.reg QCq [])
 (.block 0 (.loop (.seq (.reg QCp [])
 (.seq (.cond (.t 15)
 .skip
 (.exit 0))
 (.seq (.block 1 (.seq (.reg QCo [16, 17])
 (.reg QCn [18, 19, 20])))
 (.reg QCm [21])))))))
 (.seq (.reg QuY [22, 23])
 (.seq (.reg QuX [24])
 .ret))))))))⟩
abbrev QaX : Nat := 56
/- proofmark/term.words -/
def QCl : AT := (.wr false (some 3) none (.box 57 (.t 0))
 (zr 6 (.mov (.c (.str [])))
 .done))
def QCk : AT := (zr 8 (.faddr 1 (.t 3))
 (zr 9 (.load false 1 (.t 8))
 (zk 10 87 [.t 9, (zi 10)]
 (zm 7 10
 .done))))
def QCj : AT := (zr 11 (.faddr 0 (.t 3))
 (zr 12 (.load false 1 (.t 11))
 .done))
def QCi : AT := (zr 14 (.bin .eql (.t 12) (zu 1))
 (zm 13 14
 .done))
def QCh : AT := (zm 15 7
 (zm 6 15
 .done))
def QCg : AT := (zr 17 (.bin .eql (.t 12) (zu 2))
 (zm 16 17
 .done))
def QCf : AT := (zm 18 7
 (zr 19 (.bin .add (.c (.str [115])) (.t 18))
 (zm 6 19
 .done)))
def QCe : AT := (zr 21 (.bin .eql (.t 12) (zu 3))
 (zm 20 21
 .done))
def QCd : AT := (zr 22 (.faddr 2 (.t 3))
 (zr 23 (.load false 1 (.t 22))
 (zk 24 88 [.t 23]
 (zr 25 (.bin .add (.c (.str [97])) (.t 24))
 (zr 26 (.bin .add (.t 25) (.c (.str [118])))
 (zm 27 7
 (zr 28 (.bin .add (.t 26) (.t 27))
 (zr 29 (.bin .add (.t 28) (.c (.str [91])))
 (zm 30 2
 (zr 31 (.bin .add (.t 29) (.t 30))
 (zr 32 (.bin .add (.t 31) (.c (.str [93])))
 (zm 6 32
 .done))))))))))))
def QCc : AT := (zm 33 1
 (zr 34 (.bin .add (.c (.str [40])) (.t 33))
 (zr 35 (.bin .add (.t 34) (.c (.str [32])))
 (zr 36 (.faddr 3 (.t 3))
 (zr 37 (.load false 1 (.t 36))
 (zk 38 89 [.t 37]
 (zr 39 (.bin .add (.t 35) (.t 38))
 (zr 40 (.bin .add (.t 39) (.c (.str [32])))
 (zm 41 2
 (zr 42 (.bin .add (.t 40) (.t 41))
 (zr 43 (.bin .add (.t 42) (.c (.str [41])))
 (zm 6 43
 .done))))))))))))
def QcT : AF := ⟨44, [.tmp 6],
 (.seq (.reg QCl [])
 (.seq (.reg QCk [8, 9, 10])
 (.seq (.seq (.reg QCj [11])
 (.block 0 (.seq (.reg QCi [14])
 (.cond (.t 13)
 (.seq (.reg QCh [15])
 .ret)
 (.seq (.reg QCg [17])
 (.cond (.t 16)
 (.seq (.reg QCf [18, 19])
 .ret)
 (.seq (.reg QCe [21])
 (.cond (.t 20)
 (.seq (.reg QCd [22, 23, 24, 25, 26, 27, 28, 29, 30, 31, 32])
 .ret)
 .skip))))))))
 (.seq (.reg QCc [33, 34, 35, 36, 37, 38, 39, 40, 41, 42, 43])
 .ret))))⟩
abbrev Qi8 : Nat := 57
/- (*proofmark/term.Graph).may -/
def QCb : AT := (.wr false (some 3) none (.box 57 (.t 1))
 (zr 4 (.mov (.c (.bool false)))
 .done))
def QCa : AT := (zr 5 (.load true 6 (.t 3))
 (zk 6 90 [.t 5]
 (zr 7 (.build [(.int .u8 0), (.int .i64 0), (.int .i64 0), (.int .u8 0), (.int .i64 0), (.int .i64 0)] [])
 (zr 8 (.eqs true [.i, .i, .i, .i, .i, .i] (.t 6) (.t 7))
 .done))))
def QB9 : AT := (zr 4 (.mov (.c (.bool false)))
 .done)
def QB8 : AT := (zr 9 (.faddr 0 (.t 3))
 (zr 10 (.load false 1 (.t 9))
 .done))
def QB7 : AT := (zr 12 (.bin .eql (.t 10) (zu 1))
 (zm 11 12
 .done))
def QB6 : AT := (zr 4 (.mov (.c (.bool true)))
 .done)
def QB5 : AT := (zr 14 (.bin .eql (.t 10) (zu 2))
 (zm 13 14
 .done))
def QB4 : AT := (zr 15 (.faddr 1 (.t 3))
 (zr 16 (.load false 1 (.t 15))
 (zr 17 (.bin .geq (.t 16) (zi 0))
 (zm 4 17
 .done))))
def QB3 : AT := (zr 19 (.bin .eql (.t 10) (zu 3))
 (zm 18 19
 .done))
def QB2 : AT := (zr 20 (.faddr 1 (.t 3))
 (zr 21 (.load false 1 (.t 20))
 (zr 22 (.bin .geq (.t 21) (zi 0))
 (zm 23 22
 (zt 24 23 (.faddr 2 (.t 3))
 (zt 25 23 (.load false 1 (.t 24))
 (zt 26 23 (.bin .geq (.t 25) (zi 0))
 (zr 27 (.pick (.t 23) (.t 26) (.c (.bool false)))
 (zm 28 27
 (zt 29 28 (.mov (.t 0))
 (zt 30 28 (.faddr 5 (.t 3))
 (zt 31 28 (.load false 1 (.t 30))
 (.cl false (some 32) (some (28, true)) (.c (.fn (.func 46) [] [])) [(.t 29), (.t 31)]
 (zr 33 (.pick (.t 28) (.t 32) (.c (.bool false)))
 (zm 4 33
 .done)))))))))))))))
def QuW : AT := (zr 35 (.bin .eql (.t 10) (zu 4))
 (zm 34 35
 .done))
def QuV : AT := (zr 36 (.faddr 3 (.t 3))
 (zr 37 (.load false 1 (.t 36))
 (zr 38 (.bin .geq (.t 37) (zu 1))
 (zm 39 38
 (zt 40 39 (.faddr 3 (.t 3))
 (zt 41 39 (.load false 1 (.t 40))
 (zt 42 39 (.bin .leq (.t 41) (zu 16))
 (zr 43 (.pick (.t 39) (.t 42) (.c (.bool false)))
 (zm 44 43
 (zt 45 44 (.mov (.t 0))
 (zt 46 44 (.faddr 4 (.t 3))
 (zt 47 44 (.load false 1 (.t 46))
 (.cl false (some 48) (some (44, true)) (.c (.fn (.func 46) [] [])) [(.t 45), (.t 47)]
 (zr 49 (.pick (.t 44) (.t 48) (.c (.bool false)))
 (zm 50 49
 (zt 51 50 (.mov (.t 0))
 (zt 52 50 (.faddr 5 (.t 3))
 (zt 53 50 (.load false 1 (.t 52))
 (.cl false (some 54) (some (50, true)) (.c (.fn (.func 46) [] [])) [(.t 51), (.t 53)]
 (zr 55 (.pick (.t 50) (.t 54) (.c (.bool false)))
 (zm 4 55
 .done)))))))))))))))))))))
def QuU : AT := (zr 4 (.mov (.c (.bool false)))
 .done)
def ZA : AF := ⟨56, [.tmp 4],
 (.seq (.reg QCb [])
 (.seq (.seq (.reg QCa [5, 6, 7])
 (.cond (.t 8)
 (.seq (.reg QB9 [])
 .ret)
 .skip))
 (.seq (.seq (.reg QB8 [9])
 (.block 0 (.seq (.reg QB7 [12])
 (.cond (.t 11)
 (.seq (.reg QB6 [])
 .ret)
 (.seq (.reg QB5 [14])
 (.cond (.t 13)
 (.seq (.reg QB4 [15, 16, 17])
 .ret)
 (.seq (.reg QB3 [19])
 (.cond (.t 18)
 (.seq (.reg QB2 [20, 21, 22, 23, 24, 25, 26, 27, 28, 29, 30, 31, 32, 33])
 .ret)
 (.seq (.reg QuW [35])
 (.cond (.t 34)
 (.seq (.reg QuV [36, 37, 38, 39, 40, 41, 42, 43, 44, 45, 46, 47, 48, 49, 50, 51, 52, 53, 54, 55])
 .ret)
 .skip))))))))))
 (.seq (.reg QuU [])
 .ret))))⟩
abbrev Qd1 : Nat := 58
/- proofmark/term.parts -/
def QB1 : AT := (.wr false (some 1) none (.box 57 (.t 0))
 (zr 2 (.mov (.c (.lst 0 [] true)))
 .done))
def QB0 : AT := (zr 3 (.faddr 0 (.t 1))
 (zr 4 (.load false 1 (.t 3))
 .done))
def QBZ : AT := (zr 6 (.bin .eql (.t 4) (zu 3))
 (zm 5 6
 .done))
def QBY : AT := (zr 7 (.faddr 5 (.t 1))
 (zr 8 (.load false 1 (.t 7))
 (.wr false (some 9) none (.bsl false false 26 1 [(.int .i64 0)] 1 [(0, 1, (.t 8))])
 (zm 2 9
 .done))))
def QBX : AT := (zr 11 (.bin .eql (.t 4) (zu 4))
 (zm 10 11
 .done))
def QBW : AT := (zr 12 (.faddr 4 (.t 1))
 (zr 13 (.load false 1 (.t 12))
 (zr 14 (.faddr 5 (.t 1))
 (zr 15 (.load false 1 (.t 14))
 (.wr false (some 16) none (.bsl false false 26 1 [(.int .i64 0)] 2 [(0, 1, (.t 13)), (1, 1, (.t 15))])
 (zm 2 16
 .done))))))
def QBV : AT := (zr 2 (.mov (.c (.lst 0 [] true)))
 .done)
def QcU : AF := ⟨17, [.tmp 2],
 (.seq (.reg QB1 [])
 (.seq (.seq (.reg QB0 [3])
 (.block 0 (.seq (.reg QBZ [6])
 (.cond (.t 5)
 (.seq (.reg QBY [7, 8, 9])
 .ret)
 (.seq (.reg QBX [11])
 (.cond (.t 10)
 (.seq (.reg QBW [12, 13, 14, 15, 16])
 .ret)
 .skip))))))
 (.seq (.reg QBV [])
 .ret)))⟩
abbrev Qi9 : Nat := 59
/- (proofmark/norm.maker).num -/
def QBU : AT := (.wr false (some 2) none (.box 76 (.t 0))
 (zr 4 (.mov (zi 0))
 .done))
def QBT : AT := (zr 5 (.faddr 0 (.t 2))
 (zr 6 (.load false 1 (.t 5))
 (zm 7 1
 (zk 8 12 [.t 6, .t 7]
 (zm 4 8
 .done)))))
def ZD : AF := ⟨9, [.tmp 4],
 (.seq (.reg QBU [])
 (.seq (.reg QBT [5, 6, 7, 8])
 .ret))⟩
abbrev Qd2 : Nat := 60
/- (proofmark/norm.maker).same -/
def QnQ : AT := (.wr false (some 3) none (.box 76 (.t 0))
 (zr 6 (.mov (zi 0))
 .done))
def QnP : AT := (zm 7 1
 .done)
def QnO : AT := (zr 9 (.bin .eql (.t 7) (zu 2))
 (zm 8 9
 .done))
def QnN : AT := (zr 10 (.bin .eql (.t 7) (zu 10))
 (zm 8 10
 .done))
def QnM : AT := (zr 11 (.bin .eql (.t 7) (zu 14))
 (zm 8 11
 .done))
def QnL : AT := (zr 12 (.bin .eql (.t 7) (zu 15))
 (zm 8 12
 .done))
def QnK : AT := (zr 13 (.load true 1 (.t 3))
 (zk 14 60 [.t 13, (zi 0)]
 (zm 6 14
 .done)))
def QnJ : AT := (zr 16 (.bin .eql (.t 7) (zu 16))
 (zm 15 16
 .done))
def QnI : AT := (zr 17 (.load true 1 (.t 3))
 (zk 18 60 [.t 17, (zi 1)]
 (zm 6 18
 .done)))
def QnH : AT := (zr 20 (.bin .eql (.t 7) (zu 8))
 (zm 19 20
 .done))
def QjU : AT := (zr 21 (.bin .eql (.t 7) (zu 9))
 (zm 19 21
 .done))
def QjT : AT := (zm 22 2
 (zm 6 22
 .done))
def QjS : AT := (zr 6 (.mov (.c (.int .i64 (-1))))
 .done)
def XR : AF := ⟨23, [.tmp 6],
 (.seq (.reg QnQ [])
 (.seq (.seq (.reg QnP [])
 (.block 0 (.seq (.seq (.reg QnO [9])
 (.cond (.t 8)
 .skip
 (.seq (.reg QnN [10])
 (.cond (.t 8)
 .skip
 (.seq (.reg QnM [11])
 (.cond (.t 8)
 .skip
 (.reg QnL [12])))))))
 (.cond (.t 8)
 (.seq (.reg QnK [13, 14])
 .ret)
 (.seq (.reg QnJ [16])
 (.cond (.t 15)
 (.seq (.reg QnI [17, 18])
 .ret)
 (.seq (.seq (.reg QnH [20])
 (.cond (.t 19)
 .skip
 (.reg QjU [21])))
 (.cond (.t 19)
 (.seq (.reg QjT [22])
 .ret)
 .skip))))))))
 (.seq (.reg QjS [])
 .ret)))⟩
abbrev QcZ : Nat := 61
/- (proofmark/norm.maker).number -/
def QBS : AT := (.wr false (some 4) none (.box 76 (.t 0))
 (zr 8 (.mov (zi 0))
 .done))
def QBR : AT := (zr 14 (.mkfn (.func 91) [] [(.t 4)])
 (zm 9 14
 .done))
def QBQ : AT := (zr 15 (.mkfn (.func 93) [] [(.t 4)])
 (zm 10 15
 .done))
def QBP : AT := (zr 16 (.load true 1 (.t 4))
 (zr 17 (.mkfn (.func 95) [(.t 16)] [])
 (zr 18 (.load true 1 (.t 4))
 (zr 19 (.mkfn (.func 96) [(.t 18)] [])
 (zr 20 (.load true 1 (.t 4))
 (zr 21 (.mkfn (.func 97) [(.t 20)] [])
 (zm 22 9
 (zm 23 10
 (.wr false (some 24) none (.bsl true false 107 1 [(.val .nilFunc)] 5 [(0, 1, (.t 17)), (1, 1, (.t 19)), (2, 1, (.t 21)), (3, 1, (.t 22)), (4, 1, (.t 23))])
 (zr 25 (.len 0 (.t 24))
 (zr 26 (.mov (zi 0))
 .done)))))))))))
def QBO : AT := (zr 27 (.bin .lss (.t 26) (.t 25))
 .done)
def QBN : AT := (zr 28 (.iaddr none 1 (.t 24) (.t 26))
 (zr 29 (.load false 1 (.t 28))
 (zm 12 29
 .done)))
def QBM : AT := (zm 30 12
 (zm 31 1
 (zm 32 2
 (zm 33 3
 (.cl false (some 34) none (.t 30) [(.t 31), (.t 32), (.t 33)]
 (zm 13 34
 .done))))))
def QBL : AT := (zm 35 13
 (zr 36 (.bin .neq (.t 35) (.c (.int .i64 (-1))))
 .done))
def QBK : AT := (zm 37 13
 (zm 8 37
 .done))
def QBJ : AT := (zr 38 (.bin .add (.t 26) (zi 1))
 (zm 26 38
 .done))
def QuT : AT := (zr 8 (.mov (.c (.int .i64 (-1))))
 .done)
def YF : AF := ⟨39, [.tmp 8],
 (.seq (.reg QBS [])
 (.seq (.reg QBR [14])
 (.seq (.reg QBQ [15])
 (.seq (.seq (.reg QBP [16, 17, 18, 19, 20, 21, 22, 23])
 (.block 0 (.loop (.seq (.reg QBO [])
 (.seq (.cond (.t 27)
 .skip
 (.exit 0))
 (.seq (.block 1 (.seq (.reg QBN [28, 29])
 (.seq (.reg QBM [30, 31, 32, 33, 34])
 (.seq (.reg QBL [35])
 (.cond (.t 36)
 (.seq (.reg QBK [37])
 .ret)
 .skip)))))
 (.reg QBJ [38])))))))
 (.seq (.reg QuT [])
 .ret)))))⟩
abbrev QbR : Nat := 62
/- proofmark/word.of$1 -/
def QBI : AT := (zr 4 (.mov (zi 0))
 .done)
def QBH : AT := (zm 5 0
 (zm 6 1
 (zr 7 (.bin .add (.t 5) (.t 6))
 (zm 4 7
 .done))))
def QcL : AF := ⟨8, [.tmp 4],
 (.seq (.reg QBI [])
 (.seq (.reg QBH [5, 6, 7])
 .ret))⟩
abbrev Qe3 : Nat := 63
/- proofmark/word.of$2 -/
def QBG : AT := (zr 4 (.mov (zi 0))
 .done)
def QBF : AT := (zm 5 0
 (zm 6 1
 (zr 7 (.bin .sub (.t 5) (.t 6))
 (zm 4 7
 .done))))
def QcK : AF := ⟨8, [.tmp 4],
 (.seq (.reg QBG [])
 (.seq (.reg QBF [5, 6, 7])
 .ret))⟩
abbrev Qe2 : Nat := 64
/- proofmark/word.of$3 -/
def QBE : AT := (zr 4 (.mov (zi 0))
 .done)
def QBD : AT := (zm 5 0
 (zm 6 1
 (zr 7 (.bin .mul (.t 5) (.t 6))
 (zm 4 7
 .done))))
def QcJ : AF := ⟨8, [.tmp 4],
 (.seq (.reg QBE [])
 (.seq (.reg QBD [5, 6, 7])
 .ret))⟩
abbrev Qe1 : Nat := 65
/- proofmark/word.div -/
def QrD : AT := (zr 4 (.mov (zi 0))
 .done)
def QrC : AT := (zm 5 1
 .done)
def QrB : AT := (zr 7 (.bin .eql (.t 5) (zi 0))
 (zm 6 7
 .done))
def QrA : AT := (zr 4 (.mov (.c (.int .i64 (-1))))
 .done)
def Qrz : AT := (zr 9 (.bin .eql (.t 5) (.c (.int .i64 (-1))))
 (zm 8 9
 .done))
def Qry : AT := (zm 10 0
 (zr 11 (.un .neg (.t 10))
 (zm 4 11
 .done)))
def Qrx : AT := (zm 12 0
 (zm 13 1
 (zr 14 (.bin .quo (.t 12) (.t 13))
 (zm 4 14
 .done))))
def Qdk : AF := ⟨15, [.tmp 4],
 (.seq (.reg QrD [])
 (.seq (.seq (.reg QrC [])
 (.block 0 (.seq (.reg QrB [7])
 (.cond (.t 6)
 (.seq (.reg QrA [])
 .ret)
 (.seq (.reg Qrz [9])
 (.cond (.t 8)
 (.seq (.reg Qry [10, 11])
 .ret)
 .skip))))))
 (.seq (.reg Qrx [12, 13, 14])
 .ret)))⟩
abbrev Qh9 : Nat := 66
/- proofmark/word.rem -/
def Qrw : AT := (zr 4 (.mov (zi 0))
 .done)
def Qrv : AT := (zm 5 1
 .done)
def Qru : AT := (zr 7 (.bin .eql (.t 5) (zi 0))
 (zm 6 7
 .done))
def Qrt : AT := (zm 8 0
 (zm 4 8
 .done))
def Qrs : AT := (zr 10 (.bin .eql (.t 5) (.c (.int .i64 (-1))))
 (zm 9 10
 .done))
def Qrr : AT := (zr 4 (.mov (zi 0))
 .done)
def Qrq : AT := (zm 11 0
 (zm 12 1
 (zr 13 (.bin .rem (.t 11) (.t 12))
 (zm 4 13
 .done))))
def Qdj : AF := ⟨14, [.tmp 4],
 (.seq (.reg Qrw [])
 (.seq (.seq (.reg Qrv [])
 (.block 0 (.seq (.reg Qru [7])
 (.cond (.t 6)
 (.seq (.reg Qrt [8])
 .ret)
 (.seq (.reg Qrs [10])
 (.cond (.t 9)
 (.seq (.reg Qrr [])
 .ret)
 .skip))))))
 (.seq (.reg Qrq [11, 12, 13])
 .ret)))⟩
abbrev Qh8 : Nat := 67
/- proofmark/word.divU -/
def QuS : AT := (zr 4 (.mov (zi 0))
 .done)
def QuR : AT := (zm 5 1
 (zr 6 (.bin .eql (.t 5) (zi 0))
 .done))
def QuQ : AT := (zr 4 (.mov (.c (.int .i64 (-1))))
 .done)
def QuP : AT := (zm 7 0
 (zr 8 (.conv .u64 (.t 7))
 (zm 9 1
 (zr 10 (.conv .u64 (.t 9))
 (zr 11 (.bin .quo (.t 8) (.t 10))
 (zr 12 (.conv .i64 (.t 11))
 (zm 4 12
 .done)))))))
def QcM : AF := ⟨13, [.tmp 4],
 (.seq (.reg QuS [])
 (.seq (.seq (.reg QuR [5])
 (.cond (.t 6)
 (.seq (.reg QuQ [])
 .ret)
 .skip))
 (.seq (.reg QuP [7, 8, 9, 10, 11, 12])
 .ret)))⟩
abbrev Qgu : Nat := 68
/- proofmark/word.remU -/
def QuO : AT := (zr 4 (.mov (zi 0))
 .done)
def QuN : AT := (zm 5 1
 (zr 6 (.bin .eql (.t 5) (zi 0))
 .done))
def QuM : AT := (zm 7 0
 (zm 4 7
 .done))
def QuL : AT := (zm 8 0
 (zr 9 (.conv .u64 (.t 8))
 (zm 10 1
 (zr 11 (.conv .u64 (.t 10))
 (zr 12 (.bin .rem (.t 9) (.t 11))
 (zr 13 (.conv .i64 (.t 12))
 (zm 4 13
 .done)))))))
def QcC : AF := ⟨14, [.tmp 4],
 (.seq (.reg QuO [])
 (.seq (.seq (.reg QuN [5])
 (.cond (.t 6)
 (.seq (.reg QuM [7])
 .ret)
 .skip))
 (.seq (.reg QuL [8, 9, 10, 11, 12, 13])
 .ret)))⟩
abbrev Qgt : Nat := 69
/- proofmark/word.of$4 -/
def QBC : AT := (zr 4 (.mov (zi 0))
 .done)
def QBB : AT := (zm 5 0
 (zm 6 1
 (zr 7 (.bin .and (.t 5) (.t 6))
 (zm 4 7
 .done))))
def QcI : AF := ⟨8, [.tmp 4],
 (.seq (.reg QBC [])
 (.seq (.reg QBB [5, 6, 7])
 .ret))⟩
abbrev Qe0 : Nat := 70
/- proofmark/word.of$5 -/
def QBA : AT := (zr 4 (.mov (zi 0))
 .done)
def QBz : AT := (zm 5 0
 (zm 6 1
 (zr 7 (.bin .or (.t 5) (.t 6))
 (zm 4 7
 .done))))
def QcH : AF := ⟨8, [.tmp 4],
 (.seq (.reg QBA [])
 (.seq (.reg QBz [5, 6, 7])
 .ret))⟩
abbrev QeZ : Nat := 71
/- proofmark/word.of$6 -/
def QBy : AT := (zr 4 (.mov (zi 0))
 .done)
def QBx : AT := (zm 5 0
 (zm 6 1
 (zr 7 (.bin .xor (.t 5) (.t 6))
 (zm 4 7
 .done))))
def QcG : AF := ⟨8, [.tmp 4],
 (.seq (.reg QBy [])
 (.seq (.reg QBx [5, 6, 7])
 .ret))⟩
abbrev QeY : Nat := 72
/- proofmark/word.of$7 -/
def QBw : AT := (zr 4 (.mov (zi 0))
 .done)
def QBv : AT := (zm 5 0
 (zm 6 1
 (zr 7 (.bin .and (.t 6) (zi 63))
 (zr 8 (.bin .shl (.t 5) (.t 7))
 (zm 4 8
 .done)))))
def QcF : AF := ⟨9, [.tmp 4],
 (.seq (.reg QBw [])
 (.seq (.reg QBv [5, 6, 7, 8])
 .ret))⟩
abbrev QeX : Nat := 73
/- proofmark/word.of$8 -/
def QBu : AT := (zr 4 (.mov (zi 0))
 .done)
def QBt : AT := (zm 5 0
 (zr 6 (.conv .u64 (.t 5))
 (zm 7 1
 (zr 8 (.bin .and (.t 7) (zi 63))
 (zr 9 (.bin .shr (.t 6) (.t 8))
 (zr 10 (.conv .i64 (.t 9))
 (zm 4 10
 .done)))))))
def QcE : AF := ⟨11, [.tmp 4],
 (.seq (.reg QBu [])
 (.seq (.reg QBt [5, 6, 7, 8, 9, 10])
 .ret))⟩
abbrev QeW : Nat := 74
/- proofmark/word.of$9 -/
def QBs : AT := (zr 4 (.mov (zi 0))
 .done)
def QBr : AT := (zm 5 0
 (zm 6 1
 (zr 7 (.bin .and (.t 6) (zi 63))
 (zr 8 (.bin .shr (.t 5) (.t 7))
 (zm 4 8
 .done)))))
def QcD : AF := ⟨9, [.tmp 4],
 (.seq (.reg QBs [])
 (.seq (.reg QBr [5, 6, 7, 8])
 .ret))⟩
abbrev QeV : Nat := 75
/- proofmark/word.of$10 -/
def QBq : AT := (zr 4 (.mov (zi 0))
 .done)
def QBp : AT := (zm 5 0
 (zm 6 1
 (zr 7 (.bin .lss (.t 5) (.t 6))
 (zk 8 77 [.t 7]
 (zm 4 8
 .done)))))
def Qby : AF := ⟨9, [.tmp 4],
 (.seq (.reg QBq [])
 (.seq (.reg QBp [5, 6, 7, 8])
 .ret))⟩
abbrev Qdt : Nat := 76
/- proofmark/word.one -/
def QuK : AT := (zr 2 (.mov (zi 0))
 .done)
def QuJ : AT := (zm 3 0
 .done)
def QuI : AT := (zr 2 (.mov (zi 1))
 .done)
def QuH : AT := (zr 2 (.mov (zi 0))
 .done)
def Qfm : AF := ⟨4, [.tmp 2],
 (.seq (.reg QuK [])
 (.seq (.seq (.reg QuJ [])
 (.cond (.t 3)
 (.seq (.reg QuI [])
 .ret)
 .skip))
 (.seq (.reg QuH [])
 .ret)))⟩
abbrev QlA : Nat := 77
/- proofmark/word.of$11 -/
def QBo : AT := (zr 4 (.mov (zi 0))
 .done)
def QBn : AT := (zm 5 0
 (zr 6 (.conv .u64 (.t 5))
 (zm 7 1
 (zr 8 (.conv .u64 (.t 7))
 (zr 9 (.bin .lss (.t 6) (.t 8))
 (zk 10 77 [.t 9]
 (zm 4 10
 .done)))))))
def Qbx : AF := ⟨11, [.tmp 4],
 (.seq (.reg QBo [])
 (.seq (.reg QBn [5, 6, 7, 8, 9, 10])
 .ret))⟩
abbrev Qds : Nat := 78
/- proofmark/word.of$12 -/
def QBm : AT := (zr 4 (.mov (zi 0))
 .done)
def QBl : AT := (zm 5 0
 (zm 6 1
 (zr 7 (.bin .eql (.t 5) (.t 6))
 (zk 8 77 [.t 7]
 (zm 4 8
 .done)))))
def Qbw : AF := ⟨9, [.tmp 4],
 (.seq (.reg QBm [])
 (.seq (.reg QBl [5, 6, 7, 8])
 .ret))⟩
abbrev Qdr : Nat := 79
/- proofmark/value.All$1 -/
def QnG : AT := (.wr false (some 3) none (.box 57 (.t 0))
 (zr 4 (.mov (zi 0))
 .done))
def QnF : AT := (zr 5 (.faddr 0 (.t 3))
 (zr 6 (.load false 1 (.t 5))
 .done))
def QnE : AT := (zr 8 (.bin .eql (.t 6) (zu 1))
 (zm 7 8
 .done))
def QnD : AT := (zr 9 (.faddr 1 (.t 3))
 (zr 10 (.load false 1 (.t 9))
 (zm 4 10
 .done)))
def QnC : AT := (zr 12 (.bin .eql (.t 6) (zu 2))
 (zm 11 12
 .done))
def QnB : AT := (zr 13 (.load true 2 (.t 1))
 (zr 14 (.faddr 1 (.t 3))
 (zr 15 (.load false 1 (.t 14))
 (zk 16 81 [.t 13, .t 15]
 (zm 4 16
 .done)))))
def QnA : AT := (zr 18 (.bin .eql (.t 6) (zu 3))
 (zm 17 18
 .done))
def Qnz : AT := (zr 19 (.load true 2 (.t 1))
 (zr 20 (.faddr 2 (.t 3))
 (zr 21 (.load false 1 (.t 20))
 (zr 22 (.faddr 1 (.t 3))
 (zr 23 (.load false 1 (.t 22))
 (zr 24 (.load false 1 (.t 2))
 (zr 25 (.faddr 5 (.t 3))
 (zr 26 (.load false 1 (.t 25))
 (zr 27 (.look false false [.i] (.int .i64 0) (.t 24) (.t 26))
 (zk 28 82 [.t 19, .t 21, .t 23, .t 27]
 (zm 4 28
 .done)))))))))))
def Qny : AT := (zr 29 (.faddr 3 (.t 3))
 (zr 30 (.load false 1 (.t 29))
 (zr 31 (.load false 1 (.t 2))
 (zr 32 (.faddr 4 (.t 3))
 (zr 33 (.load false 1 (.t 32))
 (zr 34 (.look false false [.i] (.int .i64 0) (.t 31) (.t 33))
 (zr 35 (.load false 1 (.t 2))
 (zr 36 (.faddr 5 (.t 3))
 (zr 37 (.load false 1 (.t 36))
 (zr 38 (.look false false [.i] (.int .i64 0) (.t 35) (.t 37))
 (zk 39 14 [.t 30, .t 34, .t 38]
 (zm 4 39
 .done))))))))))))
def YH : AF := ⟨40, [.tmp 4],
 (.seq (.reg QnG [])
 (.seq (.seq (.reg QnF [5])
 (.block 0 (.seq (.reg QnE [8])
 (.cond (.t 7)
 (.seq (.reg QnD [9, 10])
 .ret)
 (.seq (.reg QnC [12])
 (.cond (.t 11)
 (.seq (.reg QnB [13, 14, 15, 16])
 .ret)
 (.seq (.reg QnA [18])
 (.cond (.t 17)
 (.seq (.reg Qnz [19, 20, 21, 22, 23, 24, 25, 26, 27, 28])
 .ret)
 .skip))))))))
 (.seq (.reg Qny [29, 30, 31, 32, 33, 34, 35, 36, 37, 38, 39])
 .ret)))⟩
abbrev Qa1 : Nat := 80
/- (proofmark/value.Env).Sym -/
def Qrp : AT := (.wr false (some 2) none (.box 48 (.t 0))
 (zr 4 (.mov (zi 0))
 .done))
def Qro : AT := (zm 5 1
 (zr 6 (.bin .lss (.t 5) (zi 0))
 (zm 7 6
 (zf 8 7 (.mov (.t 1))
 (zf 9 7 (.faddr 0 (.t 2))
 (zf 10 7 (.load false 1 (.t 9))
 (zf 11 7 (.len 0 (.t 10))
 (zf 12 7 (.bin .geq (.t 8) (.t 11))
 (zr 13 (.pick (.t 7) (.c (.bool true)) (.t 12))
 .done)))))))))
def Qrn : AT := (zr 4 (.mov (zi 0))
 .done)
def Qrm : AT := (zr 14 (.faddr 0 (.t 2))
 (zr 15 (.load false 1 (.t 14))
 (zm 16 1
 (zr 17 (.iaddr none 1 (.t 15) (.t 16))
 (zr 18 (.load false 1 (.t 17))
 (zm 4 18
 .done))))))
def YI : AF := ⟨19, [.tmp 4],
 (.seq (.reg Qrp [])
 (.seq (.seq (.reg Qro [5, 6, 7, 8, 9, 10, 11, 12])
 (.cond (.t 13)
 (.seq (.reg Qrn [])
 .ret)
 .skip))
 (.seq (.reg Qrm [14, 15, 16, 17, 18])
 .ret)))⟩
abbrev Qe4 : Nat := 81
/- (proofmark/value.Env).Cell -/
def QBk : AT := (.wr false (some 4) none (.box 48 (.t 0))
 (.wr false (some 5) none (.box 3 (.t 1))
 (.wr false (some 6) none (.box 2 (.t 2))
 (.wr false (some 7) none (.box 2 (.t 3))
 (zr 8 (.mov (zi 0))
 .done)))))
def QBj : AT := (zr 10 (.faddr 1 (.t 4))
 (zr 11 (.load false 1 (.t 10))
 (zr 12 (.mkfn (.func 99) [] [(.t 5), (.t 6), (.t 7)])
 (zk 13 98 [.t 11, .t 12]
 (zm 9 13
 .done)))))
def QBi : AT := (zm 14 9
 (zr 15 (.bin .lss (.t 14) (zi 0))
 .done))
def QBh : AT := (zr 8 (.mov (zi 0))
 .done)
def QBg : AT := (zr 16 (.faddr 1 (.t 4))
 (zr 17 (.load false 1 (.t 16))
 (zm 18 9
 (zr 19 (.iaddr none 4 (.t 17) (.t 18))
 (zr 20 (.faddr 3 (.t 19))
 (zr 21 (.load false 1 (.t 20))
 (zm 8 21
 .done)))))))
def Zz : AF := ⟨22, [.tmp 8],
 (.seq (.reg QBk [])
 (.seq (.reg QBj [10, 11, 12, 13])
 (.seq (.seq (.reg QBi [14])
 (.cond (.t 15)
 (.seq (.reg QBh [])
 .ret)
 .skip))
 (.seq (.reg QBg [16, 17, 18, 19, 20, 21])
 .ret))))⟩
abbrev Qd0 : Nat := 82
/- proofmark/proofmarkref01.divide -/
def QBf : AT := (zr 4 (.mov (zi 0))
 (zr 5 (.mov (zi 0))
 .done))
def QBe : AT := (zr 6 (.mov (.c (.int .u64 0)))
 .done)
def QBd : AT := (zr 7 (.mov (zi 0))
 .done)
def QBc : AT := (zr 8 (.mov (zi 63))
 .done)
def QBb : AT := (zm 10 8
 (zr 11 (.bin .geq (.t 10) (zi 0))
 .done))
def QBa : AT := (zm 14 7
 (zk 15 53 [.t 14, (zi 63)]
 (zm 9 15
 .done)))
def QA9 : AT := (zm 16 7
 (zr 17 (.conv .u64 (.t 16))
 (zr 18 (.bin .shl (.t 17) (.c (.int .u64 1)))
 (zm 19 0
 (zm 20 8
 (zk 21 53 [.t 19, .t 20]
 (zr 22 (.bin .or (.t 18) (.t 21))
 (zr 23 (.conv .i64 (.t 22))
 (zm 7 23
 .done)))))))))
def QA8 : AT := (zm 24 9
 (zr 25 (.bin .eql (.t 24) (.c (.int .u64 1)))
 (zm 26 25
 (zf 27 26 (.mov (.t 7))
 (zf 28 26 (.mov (.t 1))
 (.cl false (some 29) (some (26, false)) (.c (.fn (.func 55) [] [])) [(.t 27), (.t 28)]
 (zf 30 26 (.un .not (.t 29))
 (zr 31 (.pick (.t 26) (.c (.bool true)) (.t 30))
 .done))))))))
def QA7 : AT := (zm 32 7
 (zm 33 1
 (zk 34 49 [.t 33]
 (zk 35 48 [.t 32, .t 34]
 (zm 7 35
 .done)))))
def QA6 : AT := (zm 36 6
 (zm 37 8
 (zr 38 (.bin .shl (.c (.int .u64 1)) (.t 37))
 (zr 39 (.bin .or (.t 36) (.t 38))
 (zm 6 39
 .done)))))
def QuG : AT := (zm 12 8
 (zr 13 (.bin .sub (.t 12) (zi 1))
 (zm 8 13
 .done)))
def QuF : AT := (zm 40 6
 (zr 41 (.conv .i64 (.t 40))
 (zm 42 7
 (zm 4 41
 (zm 5 42
 .done)))))
def XP : AF := ⟨43, [.tmp 4, .tmp 5],
 (.seq (.reg QBf [])
 (.seq (.reg QBe [])
 (.seq (.reg QBd [])
 (.seq (.seq (.reg QBc [])
 (.block 0 (.loop (.seq (.seq (.reg QBb [10])
 (.cond (.t 11)
 .skip
 (.exit 0)))
 (.seq (.block 1 (.seq (.reg QBa [14, 15])
 (.seq (.reg QA9 [16, 17, 18, 19, 20, 21, 22, 23])
 (.seq (.reg QA8 [24, 25, 26, 27, 28, 29, 30])
 (.cond (.t 31)
 (.seq (.reg QA7 [32, 33, 34, 35])
 (.reg QA6 [36, 37, 38, 39]))
 .skip)))))
 (.reg QuG [12, 13]))))))
 (.seq (.reg QuF [40, 41, 42])
 .ret)))))⟩
abbrev Z8 : Nat := 83
/- proofmark/proofmarkref01.signed -/
def Qnx : AT := (zr 4 (.mov (zi 0))
 (zr 5 (.mov (zi 0))
 .done))
def Qnw : AT := (zm 10 0
 (zm 11 1
 (zm 6 10
 (zm 7 11
 .done))))
def Qnv : AT := (zm 12 0
 (zr 13 (.bin .lss (.t 12) (zi 0))
 .done))
def Qnu : AT := (zm 14 0
 (zk 15 49 [.t 14]
 (zm 6 15
 .done)))
def Qnt : AT := (zm 16 1
 (zr 17 (.bin .lss (.t 16) (zi 0))
 .done))
def Qns : AT := (zm 18 1
 (zk 19 49 [.t 18]
 (zm 7 19
 .done)))
def Qnr : AT := (zm 21 6
 (zm 22 7
 (zk 23 83 [.t 21, .t 22]
 (zm 20 23
 (zr 24 (.extr (.t 20) 0)
 (zr 25 (.extr (.t 20) 1)
 (zm 8 24
 (zm 9 25
 .done))))))))
def Qnq : AT := (zm 26 0
 (zr 27 (.bin .lss (.t 26) (zi 0))
 (zm 28 1
 (zr 29 (.bin .lss (.t 28) (zi 0))
 (zr 30 (.eqb true (.t 27) (.t 29))
 .done)))))
def Qnp : AT := (zm 31 8
 (zk 32 49 [.t 31]
 (zm 8 32
 .done)))
def Qno : AT := (zm 33 0
 (zr 34 (.bin .lss (.t 33) (zi 0))
 .done))
def QjR : AT := (zm 35 9
 (zk 36 49 [.t 35]
 (zm 9 36
 .done)))
def QjQ : AT := (zm 37 8
 (zm 38 9
 (zm 4 37
 (zm 5 38
 .done))))
def QX : AF := ⟨39, [.tmp 4, .tmp 5],
 (.seq (.reg Qnx [])
 (.seq (.reg Qnw [10, 11])
 (.seq (.seq (.reg Qnv [12])
 (.cond (.t 13)
 (.reg Qnu [14, 15])
 .skip))
 (.seq (.seq (.reg Qnt [16])
 (.cond (.t 17)
 (.reg Qns [18, 19])
 .skip))
 (.seq (.reg Qnr [21, 22, 23, 20, 24, 25])
 (.seq (.seq (.reg Qnq [26, 27, 28, 29])
 (.cond (.t 30)
 (.reg Qnp [31, 32])
 .skip))
 (.seq (.seq (.reg Qno [33])
 (.cond (.t 34)
 (.reg QjR [35, 36])
 .skip))
 (.seq (.reg QjQ [37, 38])
 .ret))))))))⟩
abbrev Z7 : Nat := 84
/- (*proofmark/term.Graph).Uses$1 -/
def QA5 : AT := (zr 8 (.load false 1 (.t 1))
 (zm 9 0
 (zk 10 46 [.t 8, .t 9]
 (zr 11 (.un .not (.t 10))
 (zm 12 11
 (zf 13 12 (.load false 1 (.t 2))
 (zf 14 12 (.mov (.t 0))
 (zf 15 12 (.look false false [.i] (.int .i64 0) (.t 13) (.t 14))
 (zf 16 12 (.bin .gtr (.t 15) (zi 0))
 (zr 17 (.pick (.t 12) (.c (.bool true)) (.t 16))
 .done))))))))))
def QA4 : AT := (zr 18 (.load false 1 (.t 2))
 (zm 19 0
 (.wr false none none (.mapup false [.i] (.t 18) (.t 19) (zi 1))
 .done)))
def QA3 : AT := (zr 20 (.load false 1 (.t 3))
 (zm 21 0
 (.wr false (some 22) none (.bsl false false 26 1 [(.int .i64 0)] 1 [(0, 1, (.t 21))])
 (.wr false (some 23) none (.app 26 1 8 false (.t 20) (.t 22))
 (.wr false none none (.store 1 (.t 3) (.t 23))
 .done)))))
def QA2 : AT := (zr 24 (.load false 1 (.t 1))
 (zr 25 (.nilc (.t 24))
 (zr 26 (.faddr 0 (.t 25))
 (zr 27 (.load false 1 (.t 26))
 (zm 28 0
 (zr 29 (.iaddr none 6 (.t 27) (.t 28))
 (zr 30 (.load true 6 (.t 29))
 (zk 31 59 [.t 30]
 (zr 32 (.len 0 (.t 31))
 (zr 33 (.mov (zi 0))
 .done))))))))))
def QA1 : AT := (zr 34 (.bin .lss (.t 33) (.t 32))
 .done)
def QA0 : AT := (zr 35 (.iaddr none 1 (.t 31) (.t 33))
 (zr 36 (.load false 1 (.t 35))
 (zm 7 36
 .done)))
def QAZ : AT := (zr 37 (.load false 1 (.t 4))
 (zm 38 7
 (.cl false (some 39) none (.t 37) [(.t 38)]
 .done)))
def QAY : AT := (zr 40 (.bin .add (.t 33) (zi 1))
 (zm 33 40
 .done))
def Yl : AF := ⟨41, [],
 (.seq (.seq (.reg QA5 [8, 9, 10, 11, 12, 13, 14, 15, 16])
 (.cond (.t 17)
 .ret
 .skip))
 (.seq (.reg QA4 [18, 19])
 (.seq (.reg QA3 [20, 21, 22, 23])
 (.seq (.reg QA2 [24, 25, 26, 27, 28, 29, 30])
 (.block 0 (.loop (.seq (.reg QA1 [])
 (.seq (.cond (.t 34)
 .skip
 (.exit 0))
 (.seq (.block 1 (.seq (.reg QA0 [35, 36])
 (.reg QAZ [37, 38, 39])))
 (.reg QAY [40]))))))))))⟩
abbrev Zu : Nat := 85
/- slices.Sort[[]proofmark/term.ID,proofmark/term.ID] -/
def zq2b_0 : AT := (zm 3 0
 (zr 4 (.len 0 (.t 3))
 (zm 2 4
 .done)))
def zq2b_1 : AT := (zm 5 0
 (zm 6 2
 (zm 7 2
 (zr 8 (.conv .u64 (.t 7))
 (zk 9 101 [.t 8]
 (zk 10 100 [.t 5, (zi 0), .t 6, .t 9]
 .done))))))
def Ye : AF := ⟨11, [],
 (.seq (.reg zq2b_0 [3, 4])
 (.reg zq2b_1 [5, 6, 7, 8, 9, 10]))⟩
abbrev Xl : Nat := 86
/- strconv.FormatInt -/
def zq2c_0 : AT := (zr 4 (.mov (.c (.str [])))
 .done)
def zq2c_1 : AT := (zm 5 0
 (zm 6 1
 (zk 7 102 [.t 5, .t 6]
 (zm 4 7
 .done))))
def QaU : AF := ⟨8, [.tmp 4],
 (.seq (.reg zq2c_0 [])
 (.seq (.reg zq2c_1 [5, 6, 7])
 .ret))⟩
abbrev QbM : Nat := 87
/- strconv.Itoa -/
def zq2d_0 : AT := (zr 2 (.mov (.c (.str [])))
 .done)
def zq2d_1 : AT := (zm 3 0
 (zk 4 103 [.t 3]
 (zm 2 4
 .done)))
def strconv_Itoa : AF := ⟨5, [.tmp 2],
 (.seq (.reg zq2d_0 [])
 (.seq (.reg zq2d_1 [3, 4])
 .ret))⟩
abbrev Qgb : Nat := 88
/- proofmark/term.sign -/
def QAX : AT := (zr 2 (.mov (.c (.str [])))
 .done)
def QAW : AT := (zr 3 (.build (List.replicate 17 [(.str [])]).flatten [(0, 1, (.c (.str []))), (1, 1, (.c (.str [43]))), (2, 1, (.c (.str [45]))), (3, 1, (.c (.str [42]))), (4, 1, (.c (.str [47]))), (5, 1, (.c (.str [37]))), (6, 1, (.c (.str [47, 117]))), (7, 1, (.c (.str [37, 117]))), (8, 1, (.c (.str [38]))), (9, 1, (.c (.str [124]))), (10, 1, (.c (.str [94]))), (11, 1, (.c (.str [60, 60]))), (12, 1, (.c (.str [62, 62, 117]))), (13, 1, (.c (.str [62, 62]))), (14, 1, (.c (.str [60]))), (15, 1, (.c (.str [60, 117]))), (16, 1, (.c (.str [61, 61])))])
 (zm 4 0
 (zr 5 (.aidx false 1 17 (.t 3) (.t 4))
 (zm 2 5
 .done))))
def QeH : AF := ⟨6, [.tmp 2],
 (.seq (.reg QAX [])
 (.seq (.reg QAW [3, 4, 5])
 .ret))⟩
abbrev Qkq : Nat := 89
/- proofmark/term.bare -/
def QAV : AT := (.wr false (some 1) none (.box 57 (.t 0))
 (.wr false (some 2) none (.new 57 [(.int .u8 0), (.int .i64 0), (.int .i64 0), (.int .u8 0), (.int .i64 0), (.int .i64 0)])
 .done))
def QAU : AT := (zr 3 (.faddr 0 (.t 1))
 (zr 4 (.load false 1 (.t 3))
 .done))
def QAT : AT := (zr 6 (.bin .eql (.t 4) (zu 1))
 (zm 5 6
 .done))
def QAS : AT := (zr 7 (.bin .eql (.t 4) (zu 2))
 (zm 5 7
 .done))
def QAR : AT := (zr 8 (.faddr 1 (.t 1))
 (.wr false none none (.store 1 (.t 8) (zi 0))
 .done))
def QAQ : AT := (zr 10 (.bin .eql (.t 4) (zu 3))
 (zm 9 10
 .done))
def QAP : AT := (zr 11 (.faddr 1 (.t 1))
 (.wr false none none (.store 1 (.t 11) (zi 0))
 (zr 12 (.faddr 2 (.t 1))
 (.wr false none none (.store 1 (.t 12) (zi 0))
 (zr 13 (.faddr 5 (.t 1))
 (.wr false none none (.store 1 (.t 13) (zi 0))
 .done))))))
def QAO : AT := (zr 15 (.bin .eql (.t 4) (zu 4))
 (zm 14 15
 .done))
def QAN : AT := (zr 16 (.faddr 3 (.t 1))
 (.wr false none none (.store 1 (.t 16) (zu 0))
 (zr 17 (.faddr 4 (.t 1))
 (.wr false none none (.store 1 (.t 17) (zi 0))
 (zr 18 (.faddr 5 (.t 1))
 (.wr false none none (.store 1 (.t 18) (zi 0))
 .done))))))
def QAM : AT := (zr 19 (.faddr 0 (.t 1))
 (.wr false none none (.store 1 (.t 19) (zu 0))
 .done))
def QuE : AT := (zr 20 (.load true 6 (.t 1))
 (.wr false none none (.store 6 (.t 2) (.t 20))
 .done))
def QeI : AF := ⟨21, [.cell 2 true 6],
 (.seq (.reg QAV [])
 (.seq (.seq (.reg QAU [3])
 (.block 0 (.seq (.seq (.reg QAT [6])
 (.cond (.t 5)
 .skip
 (.reg QAS [7])))
 (.cond (.t 5)
 (.reg QAR [8])
 (.seq (.reg QAQ [10])
 (.cond (.t 9)
 (.reg QAP [11, 12, 13])
 (.seq (.reg QAO [15])
 (.cond (.t 14)
 (.reg QAN [16, 17, 18])
 .skip))))))))
 (.seq (.reg QAM [19])
 (.seq (.reg QuE [20])
 .ret))))⟩
abbrev Qkr : Nat := 90
/- (proofmark/norm.maker).number$1 -/
def QAL : AT := (zr 7 (.mov (zi 0))
 .done)
def QAK : AT := (zr 12 (.load true 1 (.t 3))
 (zm 13 1
 (zm 14 0
 (zk 15 92 [.t 12, .t 13, .t 14]
 (zm 11 15
 (zr 16 (.extr (.t 11) 0)
 (zr 17 (.extr (.t 11) 1)
 (zr 18 (.extr (.t 11) 2)
 (zm 8 16
 (zm 9 17
 (zm 10 18
 .done)))))))))))
def QAJ : AT := (zm 19 10
 (zm 20 19
 (zt 21 20 (.mov (.t 0))
 (.cl false (some 22) (some (20, true)) (.c (.fn (.func 16) [] [])) [(.t 21)]
 (zr 23 (.pick (.t 20) (.t 22) (.c (.bool false)))
 .done)))))
def QAI : AT := (zm 25 0
 (zm 26 8
 (zr 27 (.load true 1 (.t 3))
 (zm 28 0
 (zm 29 9
 (zm 30 2
 (.alt (zr 24 (.load true 1 (.t 3))
 (.cl true (some 31) none (.c (.fn (.func 14) [] [])) [(.t 28), (.t 29), (.t 30)]
 (zk 32 60 [.t 27, .t 31]
 (zk 33 43 [.t 24, .t 25, .t 26, .t 32]
 (zm 7 33
 .done))))) (.cl true (some 31) none (.c (.fn (.func 14) [] [])) [(.t 28), (.t 29), (.t 30)]
 (.alt (zr 24 (.load true 1 (.t 3))
 (zk 32 60 [.t 27, .t 31]
 (zk 33 43 [.t 24, .t 25, .t 26, .t 32]
 (zm 7 33
 .done)))) (zk 32 60 [.t 27, .t 31]
 (zr 24 (.load true 1 (.t 3))
 (zk 33 43 [.t 24, .t 25, .t 26, .t 32]
 (zm 7 33
 .done)))))))))))))
def QAH : AT := (zr 7 (.mov (.c (.int .i64 (-1))))
 .done)
def X0 : AF := ⟨34, [.tmp 7],
 (.seq (.reg QAL [])
 (.seq (.seq (.reg QAK [12, 13, 14, 15, 11, 16, 17, 18])
 (.seq (.reg QAJ [19, 20, 21, 22])
 (.cond (.t 23)
 (.seq (.reg QAI [24, 25, 26, 27, 28, 29, 30, 31, 32, 33])
 .ret)
 .skip)))
 (.seq (.reg QAH [])
 .ret)))⟩
abbrev Xi : Nat := 91
/- (proofmark/norm.maker).tail -/
def QAG : AT := (.wr false (some 3) none (.box 76 (.t 0))
 (zr 6 (.mov (zi 0))
 (zr 7 (.mov (zi 0))
 (zr 8 (.mov (.c (.bool false)))
 .done))))
def QAF : AT := (zr 11 (.load true 1 (.t 3))
 (zm 12 1
 (zm 13 2
 (zk 14 104 [.t 11, .t 12, .t 13]
 (zm 10 14
 (zr 15 (.extr (.t 10) 0)
 (zr 16 (.extr (.t 10) 1)
 (zr 17 (.extr (.t 10) 2)
 (zm 6 15
 (zm 9 16
 (zm 8 17
 .done)))))))))))
def QAE : AT := (zm 18 8
 (zr 19 (.un .not (.t 18))
 .done))
def QAD : AT := (zr 6 (.mov (zi 0))
 (zr 7 (.mov (zi 0))
 (zr 8 (.mov (.c (.bool false)))
 .done)))
def QAC : AT := (zr 21 (.faddr 0 (.t 3))
 (zr 22 (.load false 1 (.t 21))
 (zm 23 9
 (zk 24 30 [.t 22, .t 23]
 (zm 20 24
 (zr 25 (.extr (.t 20) 0)
 (zr 26 (.extr (.t 20) 1)
 (zm 7 25
 (zm 8 26
 .done)))))))))
def QAB : AT := (zm 27 6
 (zm 28 7
 (zm 29 8
 (zm 6 27
 (zm 7 28
 (zm 8 29
 .done))))))
def Zb : AF := ⟨30, [.tmp 6, .tmp 7, .tmp 8],
 (.seq (.reg QAG [])
 (.seq (.reg QAF [11, 12, 13, 14, 10, 15, 16, 17])
 (.seq (.seq (.reg QAE [18])
 (.cond (.t 19)
 (.seq (.reg QAD [])
 .ret)
 .skip))
 (.seq (.reg QAC [21, 22, 23, 24, 20, 25, 26])
 (.seq (.reg QAB [27, 28, 29])
 .ret)))))⟩
abbrev QcY : Nat := 92
/- (proofmark/norm.maker).number$2 -/
def QuD : AT := (zr 7 (.mov (zi 0))
 .done)
def QuC : AT := (zm 8 0
 (zr 9 (.bin .neq (.t 8) (zu 16))
 .done))
def QuB : AT := (zr 7 (.mov (.c (.int .i64 (-1))))
 .done)
def QuA : AT := (zr 10 (.load true 1 (.t 3))
 (zm 11 1
 (zm 12 2
 (zk 13 94 [.t 10, .t 11, .t 12]
 (zm 7 13
 .done)))))
def Xy : AF := ⟨14, [.tmp 7],
 (.seq (.reg QuD [])
 (.seq (.seq (.reg QuC [8])
 (.cond (.t 9)
 (.seq (.reg QuB [])
 .ret)
 .skip))
 (.seq (.reg QuA [10, 11, 12, 13])
 .ret)))⟩
abbrev Xh : Nat := 93
/- (proofmark/norm.maker).equal -/
def QAA : AT := (.wr false (some 3) none (.box 76 (.t 0))
 (zr 6 (.mov (zi 0))
 .done))
def QAz : AT := (zr 19 (.load true 1 (.t 3))
 (zm 20 1
 (zk 21 92 [.t 19, .t 20, (zu 1)]
 (zm 18 21
 (zr 22 (.extr (.t 18) 0)
 (zr 23 (.extr (.t 18) 1)
 (zr 24 (.extr (.t 18) 2)
 (zm 7 22
 (zm 8 23
 (zm 9 24
 .done))))))))))
def QAy : AT := (zm 25 9
 .done)
def QAx : AT := (zm 27 7
 (zr 28 (.load true 1 (.t 3))
 (zm 29 2
 (zm 30 8
 (zr 31 (.bin .sub (.t 29) (.t 30))
 (.alt (zr 26 (.load true 1 (.t 3))
 (zk 32 60 [.t 28, .t 31]
 (zk 33 43 [.t 26, (zu 16), .t 27, .t 32]
 (zm 6 33
 .done)))) (zk 32 60 [.t 28, .t 31]
 (zr 26 (.load true 1 (.t 3))
 (zk 33 43 [.t 26, (zu 16), .t 27, .t 32]
 (zm 6 33
 .done))))))))))
def QAw : AT := (zr 35 (.load true 1 (.t 3))
 (zm 36 1
 (zk 37 92 [.t 35, .t 36, (zu 10)]
 (zm 34 37
 (zr 38 (.extr (.t 34) 0)
 (zr 39 (.extr (.t 34) 1)
 (zr 40 (.extr (.t 34) 2)
 (zm 10 38
 (zm 11 39
 (zm 12 40
 .done))))))))))
def QAv : AT := (zm 41 12
 .done)
def QAu : AT := (zm 43 10
 (zr 44 (.load true 1 (.t 3))
 (zm 45 2
 (zm 46 11
 (zr 47 (.bin .xor (.t 45) (.t 46))
 (.alt (zr 42 (.load true 1 (.t 3))
 (zk 48 60 [.t 44, .t 47]
 (zk 49 43 [.t 42, (zu 16), .t 43, .t 48]
 (zm 6 49
 .done)))) (zk 48 60 [.t 44, .t 47]
 (zr 42 (.load true 1 (.t 3))
 (zk 49 43 [.t 42, (zu 16), .t 43, .t 48]
 (zm 6 49
 .done))))))))))
def QAt : AT := (.wr false (some 50) none (.bsl false false 23 1 [(.int .u8 0)] 2 [(0, 1, (zu 10)), (1, 1, (zu 2))])
 (zr 51 (.len 0 (.t 50))
 (zr 52 (.mov (zi 0))
 .done)))
def QAs : AT := (zr 53 (.bin .lss (.t 52) (.t 51))
 .done)
def QAr : AT := (zr 54 (.iaddr none 1 (.t 50) (.t 52))
 (zr 55 (.load false 1 (.t 54))
 (zm 14 55
 .done)))
def Quz : AT := (zr 57 (.load true 1 (.t 3))
 (zm 58 1
 (zm 59 14
 (zk 60 104 [.t 57, .t 58, .t 59]
 (zm 56 60
 (zr 61 (.extr (.t 56) 0)
 (zr 62 (.extr (.t 56) 1)
 (zr 63 (.extr (.t 56) 2)
 (zm 15 61
 (zm 16 62
 (zm 17 63
 .done)))))))))))
def Quy : AT := (zm 64 17
 (zm 65 64
 (zt 66 65 (.mov (.t 2))
 (zt 67 65 (.bin .eql (.t 66) (zi 0))
 (zr 68 (.pick (.t 65) (.t 67) (.c (.bool false)))
 .done)))))
def Qux : AT := (zr 69 (.load true 1 (.t 3))
 (zm 70 15
 (zm 71 16
 (zk 72 43 [.t 69, (zu 16), .t 70, .t 71]
 (zm 6 72
 .done)))))
def Quw : AT := (zr 73 (.bin .add (.t 52) (zi 1))
 (zm 52 73
 .done))
def Quv : AT := (zr 6 (.mov (.c (.int .i64 (-1))))
 .done)
def YS : AF := ⟨74, [.tmp 6],
 (.seq (.reg QAA [])
 (.seq (.seq (.reg QAz [19, 20, 21, 18, 22, 23, 24])
 (.seq (.reg QAy [])
 (.cond (.t 25)
 (.seq (.reg QAx [26, 27, 28, 29, 30, 31, 32, 33])
 .ret)
 .skip)))
 (.seq (.seq (.reg QAw [35, 36, 37, 34, 38, 39, 40])
 (.seq (.reg QAv [])
 (.cond (.t 41)
 (.seq (.reg QAu [42, 43, 44, 45, 46, 47, 48, 49])
 .ret)
 .skip)))
 (.seq (.seq (.reg QAt [])
 (.block 0 (.loop (.seq (.reg QAs [])
 (.seq (.cond (.t 53)
 .skip
 (.exit 0))
 (.seq (.block 1 (.seq (.reg QAr [54, 55])
 (.seq (.reg Quz [57, 58, 59, 60, 56, 61, 62, 63])
 (.seq (.reg Quy [64, 65, 66, 67])
 (.cond (.t 68)
 (.seq (.reg Qux [69, 70, 71, 72])
 .ret)
 .skip)))))
 (.reg Quw [73])))))))
 (.seq (.reg Quv [])
 .ret)))))⟩
abbrev Qcm : Nat := 94
/- (proofmark/norm.maker).fixed -/
def QAq : AT := (.wr false (some 4) none (.box 76 (.t 0))
 (zr 8 (.mov (zi 0))
 .done))
def QAp : AT := (zm 12 1
 (zk 13 17 [.t 12]
 (zm 11 13
 (zr 14 (.extr (.t 11) 0)
 (zr 15 (.extr (.t 11) 1)
 (zm 9 14
 (zm 10 15
 .done)))))))
def QAo : AT := (zm 16 10
 (zm 17 16
 (zt 18 17 (.mov (.t 3))
 (zt 19 17 (.mov (.t 9))
 (zt 20 17 (.bin .eql (.t 18) (.t 19))
 (zr 21 (.pick (.t 17) (.t 20) (.c (.bool false)))
 .done))))))
def QAn : AT := (zm 22 2
 (zm 8 22
 .done))
def QAm : AT := (zm 24 1
 (zr 25 (.conv .i64 (.t 24))
 (.wr false (some 26) none (.bsl false false 2 1 [(.int .i64 0)] 3 [(0, 1, (zi 3)), (1, 1, (zi 8)), (2, 1, (zi 15))])
 (zk 27 47 [.t 25, .t 26]
 (zm 28 27
 (zt 29 28 (.mov (.t 3))
 (zt 30 28 (.bin .eql (.t 29) (zi 0))
 (zr 31 (.pick (.t 28) (.t 30) (.c (.bool false)))
 (zm 23 31
 .done)))))))))
def QAl : AT := (zr 32 (.load true 1 (.t 4))
 (zk 33 60 [.t 32, (zi 0)]
 (zm 8 33
 .done)))
def QAk : AT := (zm 35 1
 (zr 36 (.bin .eql (.t 35) (zu 9))
 (zm 37 36
 (zt 38 37 (.mov (.t 3))
 (zt 39 37 (.bin .eql (.t 38) (.c (.int .i64 (-1))))
 (zr 40 (.pick (.t 37) (.t 39) (.c (.bool false)))
 (zm 34 40
 .done)))))))
def QAj : AT := (zr 41 (.load true 1 (.t 4))
 (zk 42 60 [.t 41, (.c (.int .i64 (-1)))]
 (zm 8 42
 .done)))
def QAi : AT := (zm 44 1
 (zr 45 (.conv .i64 (.t 44))
 (.wr false (some 46) none (.bsl false false 2 1 [(.int .i64 0)] 2 [(0, 1, (zi 5)), (1, 1, (zi 7))])
 (zk 47 47 [.t 45, .t 46]
 (zm 48 47
 (zt 49 48 (.mov (.t 3))
 (zt 50 48 (.bin .eql (.t 49) (zi 1))
 (zr 51 (.pick (.t 48) (.t 50) (.c (.bool false)))
 (zm 43 51
 .done)))))))))
def QAh : AT := (zr 52 (.load true 1 (.t 4))
 (zk 53 60 [.t 52, (zi 0)]
 (zm 8 53
 .done)))
def Quu : AT := (zr 8 (.mov (.c (.int .i64 (-1))))
 .done)
def YR : AF := ⟨54, [.tmp 8],
 (.seq (.reg QAq [])
 (.seq (.seq (.reg QAp [12, 13, 11, 14, 15])
 (.seq (.reg QAo [16, 17, 18, 19, 20])
 (.cond (.t 21)
 (.seq (.reg QAn [22])
 .ret)
 .skip)))
 (.seq (.block 0 (.seq (.reg QAm [24, 25, 26, 27, 28, 29, 30, 31])
 (.cond (.t 23)
 (.seq (.reg QAl [32, 33])
 .ret)
 (.seq (.reg QAk [35, 36, 37, 38, 39, 40])
 (.cond (.t 34)
 (.seq (.reg QAj [41, 42])
 .ret)
 (.seq (.reg QAi [44, 45, 46, 47, 48, 49, 50, 51])
 (.cond (.t 43)
 (.seq (.reg QAh [52, 53])
 .ret)
 .skip)))))))
 (.seq (.reg Quu [])
 .ret))))⟩
abbrev XV : Nat := 95
/- (proofmark/norm.maker).moved -/
def QAg : AT := (.wr false (some 4) none (.box 76 (.t 0))
 (zr 8 (.mov (zi 0))
 .done))
def QAf : AT := (zm 12 3
 (zk 13 105 [.t 12]
 (zm 11 13
 (zr 14 (.extr (.t 11) 0)
 (zr 15 (.extr (.t 11) 1)
 (zm 9 14
 (zm 10 15
 .done)))))))
def QAe : AT := (zm 17 1
 (zr 18 (.bin .eql (.t 17) (zu 2))
 (zm 16 18
 .done)))
def QAd : AT := (zm 20 2
 (zr 21 (.load true 1 (.t 4))
 (zm 22 3
 (zr 23 (.un .neg (.t 22))
 (.alt (zr 19 (.load true 1 (.t 4))
 (zk 24 60 [.t 21, .t 23]
 (zk 25 43 [.t 19, (zu 1), .t 20, .t 24]
 (zm 8 25
 .done)))) (zk 24 60 [.t 21, .t 23]
 (zr 19 (.load true 1 (.t 4))
 (zk 25 43 [.t 19, (zu 1), .t 20, .t 24]
 (zm 8 25
 .done)))))))))
def QAc : AT := (zm 27 1
 (zr 28 (.bin .eql (.t 27) (zu 11))
 (zm 26 28
 .done)))
def QAb : AT := (zm 30 2
 (zr 31 (.load true 1 (.t 4))
 (zm 32 3
 (zr 33 (.bin .and (.t 32) (zi 63))
 (zr 34 (.bin .shl (zi 1) (.t 33))
 (.alt (zr 29 (.load true 1 (.t 4))
 (zk 35 60 [.t 31, .t 34]
 (zk 36 43 [.t 29, (zu 3), .t 30, .t 35]
 (zm 8 36
 .done)))) (zk 35 60 [.t 31, .t 34]
 (zr 29 (.load true 1 (.t 4))
 (zk 36 43 [.t 29, (zu 3), .t 30, .t 35]
 (zm 8 36
 .done))))))))))
def QAa : AT := (zm 38 1
 (zr 39 (.bin .eql (.t 38) (zu 12))
 (zm 40 39
 (zf 41 40 (.mov (.t 1))
 (zf 42 40 (.bin .eql (.t 41) (zu 13))
 (zr 43 (.pick (.t 40) (.c (.bool true)) (.t 42))
 (zm 44 43
 (zt 45 44 (.mov (.t 3))
 (zt 46 44 (.mov (.t 3))
 (zt 47 44 (.bin .and (.t 46) (zi 63))
 (zt 48 44 (.bin .neq (.t 45) (.t 47))
 (zr 49 (.pick (.t 44) (.t 48) (.c (.bool false)))
 (zm 37 49
 .done)))))))))))))
def Qz9 : AT := (zm 51 1
 (zm 52 2
 (zr 53 (.load true 1 (.t 4))
 (zm 54 3
 (zr 55 (.bin .and (.t 54) (zi 63))
 (.alt (zr 50 (.load true 1 (.t 4))
 (zk 56 60 [.t 53, .t 55]
 (zk 57 43 [.t 50, .t 51, .t 52, .t 56]
 (zm 8 57
 .done)))) (zk 56 60 [.t 53, .t 55]
 (zr 50 (.load true 1 (.t 4))
 (zk 57 43 [.t 50, .t 51, .t 52, .t 56]
 (zm 8 57
 .done))))))))))
def Qz8 : AT := (zm 59 1
 (zr 60 (.bin .eql (.t 59) (zu 6))
 (zm 61 60
 (zt 62 61 (.mov (.t 10))
 (zr 63 (.pick (.t 61) (.t 62) (.c (.bool false)))
 (zm 58 63
 .done))))))
def Qz7 : AT := (zm 65 2
 (zr 66 (.load true 1 (.t 4))
 (zm 67 9
 (.alt (zr 64 (.load true 1 (.t 4))
 (zk 68 60 [.t 66, .t 67]
 (zk 69 43 [.t 64, (zu 12), .t 65, .t 68]
 (zm 8 69
 .done)))) (zk 68 60 [.t 66, .t 67]
 (zr 64 (.load true 1 (.t 4))
 (zk 69 43 [.t 64, (zu 12), .t 65, .t 68]
 (zm 8 69
 .done))))))))
def Qut : AT := (zm 71 1
 (zr 72 (.bin .eql (.t 71) (zu 7))
 (zm 73 72
 (zt 74 73 (.mov (.t 10))
 (zr 75 (.pick (.t 73) (.t 74) (.c (.bool false)))
 (zm 70 75
 .done))))))
def Qus : AT := (zm 77 2
 (zr 78 (.load true 1 (.t 4))
 (zm 79 3
 (zr 80 (.bin .sub (.t 79) (zi 1))
 (.alt (zr 76 (.load true 1 (.t 4))
 (zk 81 60 [.t 78, .t 80]
 (zk 82 43 [.t 76, (zu 8), .t 77, .t 81]
 (zm 8 82
 .done)))) (zk 81 60 [.t 78, .t 80]
 (zr 76 (.load true 1 (.t 4))
 (zk 82 43 [.t 76, (zu 8), .t 77, .t 81]
 (zm 8 82
 .done)))))))))
def Qur : AT := (zm 84 1
 (zr 85 (.bin .eql (.t 84) (zu 15))
 (zm 86 85
 (zt 87 86 (.mov (.t 3))
 (zt 88 86 (.bin .eql (.t 87) (zi 1))
 (zr 89 (.pick (.t 86) (.t 88) (.c (.bool false)))
 (zm 83 89
 .done)))))))
def Quq : AT := (zm 91 2
 (zr 92 (.load true 1 (.t 4))
 (.alt (zr 90 (.load true 1 (.t 4))
 (zk 93 60 [.t 92, (zi 0)]
 (zk 94 43 [.t 90, (zu 16), .t 91, .t 93]
 (zm 8 94
 .done)))) (zk 93 60 [.t 92, (zi 0)]
 (zr 90 (.load true 1 (.t 4))
 (zk 94 43 [.t 90, (zu 16), .t 91, .t 93]
 (zm 8 94
 .done)))))))
def Qup : AT := (zr 8 (.mov (.c (.int .i64 (-1))))
 .done)
def YQ : AF := ⟨95, [.tmp 8],
 (.seq (.reg QAg [])
 (.seq (.reg QAf [12, 13, 11, 14, 15])
 (.seq (.block 0 (.seq (.reg QAe [17, 18])
 (.cond (.t 16)
 (.seq (.reg QAd [19, 20, 21, 22, 23, 24, 25])
 .ret)
 (.seq (.reg QAc [27, 28])
 (.cond (.t 26)
 (.seq (.reg QAb [29, 30, 31, 32, 33, 34, 35, 36])
 .ret)
 (.seq (.reg QAa [38, 39, 40, 41, 42, 43, 44, 45, 46, 47, 48, 49])
 (.cond (.t 37)
 (.seq (.reg Qz9 [50, 51, 52, 53, 54, 55, 56, 57])
 .ret)
 (.seq (.reg Qz8 [59, 60, 61, 62, 63])
 (.cond (.t 58)
 (.seq (.reg Qz7 [64, 65, 66, 67, 68, 69])
 .ret)
 (.seq (.reg Qut [71, 72, 73, 74, 75])
 (.cond (.t 70)
 (.seq (.reg Qus [76, 77, 78, 79, 80, 81, 82])
 .ret)
 (.seq (.reg Qur [84, 85, 86, 87, 88, 89])
 (.cond (.t 83)
 (.seq (.reg Quq [90, 91, 92, 93, 94])
 .ret)
 .skip)))))))))))))
 (.seq (.reg Qup [])
 .ret))))⟩
abbrev XU : Nat := 96
/- (proofmark/norm.maker).truth -/
def Qz6 : AT := (.wr false (some 4) none (.box 76 (.t 0))
 (zr 8 (.mov (zi 0))
 .done))
def Qz5 : AT := (zr 13 (.faddr 0 (.t 4))
 (zr 14 (.load false 1 (.t 13))
 (zm 15 2
 (zk 16 31 [.t 14, .t 15]
 (zr 17 (.un .not (.t 16))
 (zm 12 17
 .done))))))
def Qz4 : AT := (zr 8 (.mov (.c (.int .i64 (-1))))
 .done)
def Qz3 : AT := (zm 19 1
 (zr 20 (.bin .eql (.t 19) (zu 8))
 (zm 21 20
 (zt 22 21 (.mov (.t 3))
 (zt 23 21 (.bin .and (.t 22) (zi 1))
 (zt 24 21 (.bin .eql (.t 23) (zi 1))
 (zr 25 (.pick (.t 21) (.t 24) (.c (.bool false)))
 (zm 18 25
 .done))))))))
def Qz2 : AT := (zm 26 1
 (zr 27 (.bin .eql (.t 26) (zu 16))
 (zm 28 27
 (zt 29 28 (.mov (.t 3))
 (zt 30 28 (.bin .eql (.t 29) (zi 1))
 (zr 31 (.pick (.t 28) (.t 30) (.c (.bool false)))
 (zm 18 31
 .done)))))))
def Qz1 : AT := (zm 32 2
 (zm 8 32
 .done))
def Qz0 : AT := (zm 34 1
 (zr 35 (.bin .eql (.t 34) (zu 8))
 (zm 33 35
 .done)))
def QzZ : AT := (zm 36 1
 (zr 37 (.bin .eql (.t 36) (zu 16))
 (zm 38 37
 (zt 39 38 (.mov (.t 3))
 (zt 40 38 (.bin .neq (.t 39) (zi 0))
 (zr 41 (.pick (.t 38) (.t 40) (.c (.bool false)))
 (zm 33 41
 .done)))))))
def QzY : AT := (zr 42 (.load true 1 (.t 4))
 (zk 43 60 [.t 42, (zi 0)]
 (zm 8 43
 .done)))
def QzX : AT := (zm 45 1
 (zr 46 (.bin .eql (.t 45) (zu 10))
 (zm 47 46
 (zt 48 47 (.mov (.t 3))
 (zt 49 47 (.bin .and (.t 48) (zi 1))
 (zt 50 47 (.bin .eql (.t 49) (zi 1))
 (zr 51 (.pick (.t 47) (.t 50) (.c (.bool false)))
 (zm 44 51
 .done))))))))
def Quo : AT := (zm 54 2
 (zr 55 (.load true 1 (.t 4))
 (zm 59 3
 (zr 60 (.bin .xor (.t 59) (zi 1))
 (.alt (zr 52 (.load true 1 (.t 4))
 (.alt (zr 53 (.load true 1 (.t 4))
 (.alt (zk 56 60 [.t 55, (zi 0)]
 (.alt (zk 57 43 [.t 53, (zu 16), .t 54, .t 56]
 (zr 58 (.load true 1 (.t 4))
 (zk 61 60 [.t 58, .t 60]
 (zk 62 43 [.t 52, (zu 10), .t 57, .t 61]
 (zm 8 62
 .done))))) (zr 58 (.load true 1 (.t 4))
 (zk 57 43 [.t 53, (zu 16), .t 54, .t 56]
 (zk 61 60 [.t 58, .t 60]
 (zk 62 43 [.t 52, (zu 10), .t 57, .t 61]
 (zm 8 62
 .done))))))) (zr 58 (.load true 1 (.t 4))
 (zk 56 60 [.t 55, (zi 0)]
 (zk 57 43 [.t 53, (zu 16), .t 54, .t 56]
 (zk 61 60 [.t 58, .t 60]
 (zk 62 43 [.t 52, (zu 10), .t 57, .t 61]
 (zm 8 62
 .done)))))))) (.alt (zk 56 60 [.t 55, (zi 0)]
 (.alt (zr 53 (.load true 1 (.t 4))
 (.alt (zk 57 43 [.t 53, (zu 16), .t 54, .t 56]
 (zr 58 (.load true 1 (.t 4))
 (zk 61 60 [.t 58, .t 60]
 (zk 62 43 [.t 52, (zu 10), .t 57, .t 61]
 (zm 8 62
 .done))))) (zr 58 (.load true 1 (.t 4))
 (zk 57 43 [.t 53, (zu 16), .t 54, .t 56]
 (zk 61 60 [.t 58, .t 60]
 (zk 62 43 [.t 52, (zu 10), .t 57, .t 61]
 (zm 8 62
 .done))))))) (zr 58 (.load true 1 (.t 4))
 (zr 53 (.load true 1 (.t 4))
 (zk 57 43 [.t 53, (zu 16), .t 54, .t 56]
 (zk 61 60 [.t 58, .t 60]
 (zk 62 43 [.t 52, (zu 10), .t 57, .t 61]
 (zm 8 62
 .done)))))))) (zr 58 (.load true 1 (.t 4))
 (.alt (zr 53 (.load true 1 (.t 4))
 (zk 56 60 [.t 55, (zi 0)]
 (zk 57 43 [.t 53, (zu 16), .t 54, .t 56]
 (zk 61 60 [.t 58, .t 60]
 (zk 62 43 [.t 52, (zu 10), .t 57, .t 61]
 (zm 8 62
 .done)))))) (zk 56 60 [.t 55, (zi 0)]
 (zr 53 (.load true 1 (.t 4))
 (zk 57 43 [.t 53, (zu 16), .t 54, .t 56]
 (zk 61 60 [.t 58, .t 60]
 (zk 62 43 [.t 52, (zu 10), .t 57, .t 61]
 (zm 8 62
 .done))))))))))) (.alt (zr 53 (.load true 1 (.t 4))
 (.alt (zr 52 (.load true 1 (.t 4))
 (.alt (zk 56 60 [.t 55, (zi 0)]
 (.alt (zk 57 43 [.t 53, (zu 16), .t 54, .t 56]
 (zr 58 (.load true 1 (.t 4))
 (zk 61 60 [.t 58, .t 60]
 (zk 62 43 [.t 52, (zu 10), .t 57, .t 61]
 (zm 8 62
 .done))))) (zr 58 (.load true 1 (.t 4))
 (zk 57 43 [.t 53, (zu 16), .t 54, .t 56]
 (zk 61 60 [.t 58, .t 60]
 (zk 62 43 [.t 52, (zu 10), .t 57, .t 61]
 (zm 8 62
 .done))))))) (zr 58 (.load true 1 (.t 4))
 (zk 56 60 [.t 55, (zi 0)]
 (zk 57 43 [.t 53, (zu 16), .t 54, .t 56]
 (zk 61 60 [.t 58, .t 60]
 (zk 62 43 [.t 52, (zu 10), .t 57, .t 61]
 (zm 8 62
 .done)))))))) (.alt (zk 56 60 [.t 55, (zi 0)]
 (.alt (zr 52 (.load true 1 (.t 4))
 (.alt (zk 57 43 [.t 53, (zu 16), .t 54, .t 56]
 (zr 58 (.load true 1 (.t 4))
 (zk 61 60 [.t 58, .t 60]
 (zk 62 43 [.t 52, (zu 10), .t 57, .t 61]
 (zm 8 62
 .done))))) (zr 58 (.load true 1 (.t 4))
 (zk 57 43 [.t 53, (zu 16), .t 54, .t 56]
 (zk 61 60 [.t 58, .t 60]
 (zk 62 43 [.t 52, (zu 10), .t 57, .t 61]
 (zm 8 62
 .done))))))) (.alt (zk 57 43 [.t 53, (zu 16), .t 54, .t 56]
 (.alt (zr 52 (.load true 1 (.t 4))
 (zr 58 (.load true 1 (.t 4))
 (zk 61 60 [.t 58, .t 60]
 (zk 62 43 [.t 52, (zu 10), .t 57, .t 61]
 (zm 8 62
 .done))))) (zr 58 (.load true 1 (.t 4))
 (.alt (zr 52 (.load true 1 (.t 4))
 (zk 61 60 [.t 58, .t 60]
 (zk 62 43 [.t 52, (zu 10), .t 57, .t 61]
 (zm 8 62
 .done)))) (zk 61 60 [.t 58, .t 60]
 (zr 52 (.load true 1 (.t 4))
 (zk 62 43 [.t 52, (zu 10), .t 57, .t 61]
 (zm 8 62
 .done)))))))) (zr 58 (.load true 1 (.t 4))
 (.alt (zr 52 (.load true 1 (.t 4))
 (zk 57 43 [.t 53, (zu 16), .t 54, .t 56]
 (zk 61 60 [.t 58, .t 60]
 (zk 62 43 [.t 52, (zu 10), .t 57, .t 61]
 (zm 8 62
 .done))))) (zk 57 43 [.t 53, (zu 16), .t 54, .t 56]
 (.alt (zr 52 (.load true 1 (.t 4))
 (zk 61 60 [.t 58, .t 60]
 (zk 62 43 [.t 52, (zu 10), .t 57, .t 61]
 (zm 8 62
 .done)))) (zk 61 60 [.t 58, .t 60]
 (zr 52 (.load true 1 (.t 4))
 (zk 62 43 [.t 52, (zu 10), .t 57, .t 61]
 (zm 8 62
 .done))))))))))) (zr 58 (.load true 1 (.t 4))
 (.alt (zr 52 (.load true 1 (.t 4))
 (zk 56 60 [.t 55, (zi 0)]
 (zk 57 43 [.t 53, (zu 16), .t 54, .t 56]
 (zk 61 60 [.t 58, .t 60]
 (zk 62 43 [.t 52, (zu 10), .t 57, .t 61]
 (zm 8 62
 .done)))))) (zk 56 60 [.t 55, (zi 0)]
 (.alt (zr 52 (.load true 1 (.t 4))
 (zk 57 43 [.t 53, (zu 16), .t 54, .t 56]
 (zk 61 60 [.t 58, .t 60]
 (zk 62 43 [.t 52, (zu 10), .t 57, .t 61]
 (zm 8 62
 .done))))) (zk 57 43 [.t 53, (zu 16), .t 54, .t 56]
 (.alt (zr 52 (.load true 1 (.t 4))
 (zk 61 60 [.t 58, .t 60]
 (zk 62 43 [.t 52, (zu 10), .t 57, .t 61]
 (zm 8 62
 .done)))) (zk 61 60 [.t 58, .t 60]
 (zr 52 (.load true 1 (.t 4))
 (zk 62 43 [.t 52, (zu 10), .t 57, .t 61]
 (zm 8 62
 .done))))))))))))) (.alt (zk 56 60 [.t 55, (zi 0)]
 (.alt (zr 52 (.load true 1 (.t 4))
 (.alt (zr 53 (.load true 1 (.t 4))
 (.alt (zk 57 43 [.t 53, (zu 16), .t 54, .t 56]
 (zr 58 (.load true 1 (.t 4))
 (zk 61 60 [.t 58, .t 60]
 (zk 62 43 [.t 52, (zu 10), .t 57, .t 61]
 (zm 8 62
 .done))))) (zr 58 (.load true 1 (.t 4))
 (zk 57 43 [.t 53, (zu 16), .t 54, .t 56]
 (zk 61 60 [.t 58, .t 60]
 (zk 62 43 [.t 52, (zu 10), .t 57, .t 61]
 (zm 8 62
 .done))))))) (zr 58 (.load true 1 (.t 4))
 (zr 53 (.load true 1 (.t 4))
 (zk 57 43 [.t 53, (zu 16), .t 54, .t 56]
 (zk 61 60 [.t 58, .t 60]
 (zk 62 43 [.t 52, (zu 10), .t 57, .t 61]
 (zm 8 62
 .done)))))))) (.alt (zr 53 (.load true 1 (.t 4))
 (.alt (zr 52 (.load true 1 (.t 4))
 (.alt (zk 57 43 [.t 53, (zu 16), .t 54, .t 56]
 (zr 58 (.load true 1 (.t 4))
 (zk 61 60 [.t 58, .t 60]
 (zk 62 43 [.t 52, (zu 10), .t 57, .t 61]
 (zm 8 62
 .done))))) (zr 58 (.load true 1 (.t 4))
 (zk 57 43 [.t 53, (zu 16), .t 54, .t 56]
 (zk 61 60 [.t 58, .t 60]
 (zk 62 43 [.t 52, (zu 10), .t 57, .t 61]
 (zm 8 62
 .done))))))) (.alt (zk 57 43 [.t 53, (zu 16), .t 54, .t 56]
 (.alt (zr 52 (.load true 1 (.t 4))
 (zr 58 (.load true 1 (.t 4))
 (zk 61 60 [.t 58, .t 60]
 (zk 62 43 [.t 52, (zu 10), .t 57, .t 61]
 (zm 8 62
 .done))))) (zr 58 (.load true 1 (.t 4))
 (.alt (zr 52 (.load true 1 (.t 4))
 (zk 61 60 [.t 58, .t 60]
 (zk 62 43 [.t 52, (zu 10), .t 57, .t 61]
 (zm 8 62
 .done)))) (zk 61 60 [.t 58, .t 60]
 (zr 52 (.load true 1 (.t 4))
 (zk 62 43 [.t 52, (zu 10), .t 57, .t 61]
 (zm 8 62
 .done)))))))) (zr 58 (.load true 1 (.t 4))
 (.alt (zr 52 (.load true 1 (.t 4))
 (zk 57 43 [.t 53, (zu 16), .t 54, .t 56]
 (zk 61 60 [.t 58, .t 60]
 (zk 62 43 [.t 52, (zu 10), .t 57, .t 61]
 (zm 8 62
 .done))))) (zk 57 43 [.t 53, (zu 16), .t 54, .t 56]
 (.alt (zr 52 (.load true 1 (.t 4))
 (zk 61 60 [.t 58, .t 60]
 (zk 62 43 [.t 52, (zu 10), .t 57, .t 61]
 (zm 8 62
 .done)))) (zk 61 60 [.t 58, .t 60]
 (zr 52 (.load true 1 (.t 4))
 (zk 62 43 [.t 52, (zu 10), .t 57, .t 61]
 (zm 8 62
 .done))))))))))) (zr 58 (.load true 1 (.t 4))
 (.alt (zr 52 (.load true 1 (.t 4))
 (zr 53 (.load true 1 (.t 4))
 (zk 57 43 [.t 53, (zu 16), .t 54, .t 56]
 (zk 61 60 [.t 58, .t 60]
 (zk 62 43 [.t 52, (zu 10), .t 57, .t 61]
 (zm 8 62
 .done)))))) (zr 53 (.load true 1 (.t 4))
 (.alt (zr 52 (.load true 1 (.t 4))
 (zk 57 43 [.t 53, (zu 16), .t 54, .t 56]
 (zk 61 60 [.t 58, .t 60]
 (zk 62 43 [.t 52, (zu 10), .t 57, .t 61]
 (zm 8 62
 .done))))) (zk 57 43 [.t 53, (zu 16), .t 54, .t 56]
 (.alt (zr 52 (.load true 1 (.t 4))
 (zk 61 60 [.t 58, .t 60]
 (zk 62 43 [.t 52, (zu 10), .t 57, .t 61]
 (zm 8 62
 .done)))) (zk 61 60 [.t 58, .t 60]
 (zr 52 (.load true 1 (.t 4))
 (zk 62 43 [.t 52, (zu 10), .t 57, .t 61]
 (zm 8 62
 .done))))))))))))) (zr 58 (.load true 1 (.t 4))
 (.alt (zr 52 (.load true 1 (.t 4))
 (.alt (zr 53 (.load true 1 (.t 4))
 (zk 56 60 [.t 55, (zi 0)]
 (zk 57 43 [.t 53, (zu 16), .t 54, .t 56]
 (zk 61 60 [.t 58, .t 60]
 (zk 62 43 [.t 52, (zu 10), .t 57, .t 61]
 (zm 8 62
 .done)))))) (zk 56 60 [.t 55, (zi 0)]
 (zr 53 (.load true 1 (.t 4))
 (zk 57 43 [.t 53, (zu 16), .t 54, .t 56]
 (zk 61 60 [.t 58, .t 60]
 (zk 62 43 [.t 52, (zu 10), .t 57, .t 61]
 (zm 8 62
 .done)))))))) (.alt (zr 53 (.load true 1 (.t 4))
 (.alt (zr 52 (.load true 1 (.t 4))
 (zk 56 60 [.t 55, (zi 0)]
 (zk 57 43 [.t 53, (zu 16), .t 54, .t 56]
 (zk 61 60 [.t 58, .t 60]
 (zk 62 43 [.t 52, (zu 10), .t 57, .t 61]
 (zm 8 62
 .done)))))) (zk 56 60 [.t 55, (zi 0)]
 (.alt (zr 52 (.load true 1 (.t 4))
 (zk 57 43 [.t 53, (zu 16), .t 54, .t 56]
 (zk 61 60 [.t 58, .t 60]
 (zk 62 43 [.t 52, (zu 10), .t 57, .t 61]
 (zm 8 62
 .done))))) (zk 57 43 [.t 53, (zu 16), .t 54, .t 56]
 (.alt (zr 52 (.load true 1 (.t 4))
 (zk 61 60 [.t 58, .t 60]
 (zk 62 43 [.t 52, (zu 10), .t 57, .t 61]
 (zm 8 62
 .done)))) (zk 61 60 [.t 58, .t 60]
 (zr 52 (.load true 1 (.t 4))
 (zk 62 43 [.t 52, (zu 10), .t 57, .t 61]
 (zm 8 62
 .done)))))))))) (zk 56 60 [.t 55, (zi 0)]
 (.alt (zr 52 (.load true 1 (.t 4))
 (zr 53 (.load true 1 (.t 4))
 (zk 57 43 [.t 53, (zu 16), .t 54, .t 56]
 (zk 61 60 [.t 58, .t 60]
 (zk 62 43 [.t 52, (zu 10), .t 57, .t 61]
 (zm 8 62
 .done)))))) (zr 53 (.load true 1 (.t 4))
 (.alt (zr 52 (.load true 1 (.t 4))
 (zk 57 43 [.t 53, (zu 16), .t 54, .t 56]
 (zk 61 60 [.t 58, .t 60]
 (zk 62 43 [.t 52, (zu 10), .t 57, .t 61]
 (zm 8 62
 .done))))) (zk 57 43 [.t 53, (zu 16), .t 54, .t 56]
 (.alt (zr 52 (.load true 1 (.t 4))
 (zk 61 60 [.t 58, .t 60]
 (zk 62 43 [.t 52, (zu 10), .t 57, .t 61]
 (zm 8 62
 .done)))) (zk 61 60 [.t 58, .t 60]
 (zr 52 (.load true 1 (.t 4))
 (zk 62 43 [.t 52, (zu 10), .t 57, .t 61]
 (zm 8 62
 .done))))))))))))))))))))
def Qun : AT := (zr 64 (.load true 1 (.t 4))
 (zm 65 2
 (zk 66 92 [.t 64, .t 65, (zu 16)]
 (zm 63 66
 (zr 67 (.extr (.t 63) 0)
 (zr 68 (.extr (.t 63) 1)
 (zr 69 (.extr (.t 63) 2)
 (zm 9 67
 (zm 10 68
 (zm 11 69
 .done))))))))))
def Qum : AT := (zm 70 1
 (zr 71 (.bin .eql (.t 70) (zu 16))
 (zm 72 71
 (zt 73 72 (.mov (.t 11))
 (zr 74 (.pick (.t 72) (.t 73) (.c (.bool false)))
 (zm 75 74
 (zt 76 75 (.mov (.t 10))
 (zt 77 75 (.bin .eql (.t 76) (zi 0))
 (zr 78 (.pick (.t 75) (.t 77) (.c (.bool false)))
 (zm 79 78
 (zt 80 79 (.faddr 0 (.t 4))
 (zt 81 79 (.load false 1 (.t 80))
 (zt 82 79 (.mov (.t 9))
 (.cl false (some 83) (some (79, true)) (.c (.fn (.func 31) [] [])) [(.t 81), (.t 82)]
 (zr 84 (.pick (.t 79) (.t 83) (.c (.bool false)))
 .done)))))))))))))))
def Qul : AT := (zm 85 9
 (zm 8 85
 .done))
def Quk : AT := (zr 8 (.mov (.c (.int .i64 (-1))))
 .done)
def YP : AF := ⟨86, [.tmp 8],
 (.seq (.reg Qz6 [])
 (.seq (.block 0 (.seq (.reg Qz5 [13, 14, 15, 16, 17])
 (.cond (.t 12)
 (.seq (.reg Qz4 [])
 .ret)
 (.seq (.seq (.reg Qz3 [19, 20, 21, 22, 23, 24, 25])
 (.cond (.t 18)
 .skip
 (.reg Qz2 [26, 27, 28, 29, 30, 31])))
 (.cond (.t 18)
 (.seq (.reg Qz1 [32])
 .ret)
 (.seq (.seq (.reg Qz0 [34, 35])
 (.cond (.t 33)
 .skip
 (.reg QzZ [36, 37, 38, 39, 40, 41])))
 (.cond (.t 33)
 (.seq (.reg QzY [42, 43])
 .ret)
 (.seq (.reg QzX [45, 46, 47, 48, 49, 50, 51])
 (.cond (.t 44)
 (.seq (.reg Quo [52, 53, 54, 55, 56, 57, 58, 59, 60, 61, 62])
 .ret)
 .skip)))))))))
 (.seq (.reg Qun [64, 65, 66, 63, 67, 68, 69])
 (.seq (.seq (.reg Qum [70, 71, 72, 73, 74, 75, 76, 77, 78, 79, 80, 81, 82, 83])
 (.cond (.t 84)
 (.seq (.reg Qul [85])
 .ret)
 .skip))
 (.seq (.reg Quk [])
 .ret)))))⟩
abbrev XT : Nat := 97
/- slices.IndexFunc[[]proofmark/value.Cell,proofmark/value.Cell] -/
def QzW : AT := (zr 4 (.mov (zi 0))
 .done)
def QzV : AT := (zm 6 0
 (zr 7 (.len 0 (.t 6))
 (zr 8 (.mov (zi 0))
 .done)))
def QzU : AT := (zr 9 (.bin .lss (.t 8) (.t 7))
 .done)
def QzT : AT := (zm 10 8
 (zm 5 10
 .done))
def QzS : AT := (zm 11 1
 (zm 12 0
 (zm 13 5
 (zr 14 (.iaddr none 4 (.t 12) (.t 13))
 (zr 15 (.load true 4 (.t 14))
 (.cl false (some 16) none (.t 11) [(.t 15)]
 .done))))))
def QzR : AT := (zm 17 5
 (zm 4 17
 .done))
def QzQ : AT := (zr 18 (.bin .add (.t 8) (zi 1))
 (zm 8 18
 .done))
def QzP : AT := (zr 4 (.mov (.c (.int .i64 (-1))))
 .done)
def QF : AF := ⟨19, [.tmp 4],
 (.seq (.reg QzW [])
 (.seq (.seq (.reg QzV [6])
 (.block 0 (.loop (.seq (.reg QzU [])
 (.seq (.cond (.t 9)
 .skip
 (.exit 0))
 (.seq (.block 1 (.seq (.reg QzT [10])
 (.seq (.reg QzS [11, 12, 13, 14, 15])
 (.cond (.t 16)
 (.seq (.reg QzR [17])
 .ret)
 .skip))))
 (.reg QzQ [18])))))))
 (.seq (.reg QzP [])
 .ret)))⟩
abbrev XL : Nat := 98
/- (proofmark/value.Env).Cell$1 -/
def Qrl : AT := (.wr false (some 4) none (.box 69 (.t 0))
 (zr 5 (.mov (.c (.bool false)))
 .done))
def Qrk : AT := (zr 6 (.faddr 0 (.t 4))
 (zr 7 (.load false 1 (.t 6))
 (zr 8 (.load false 1 (.t 1))
 (zr 9 (.bin .eql (.t 7) (.t 8))
 (zm 10 9
 (zt 11 10 (.faddr 1 (.t 4))
 (zt 12 10 (.load false 1 (.t 11))
 (zt 13 10 (.load false 1 (.t 2))
 (zt 14 10 (.bin .eql (.t 12) (.t 13))
 (zr 15 (.pick (.t 10) (.t 14) (.c (.bool false)))
 (zm 16 15
 (zt 17 16 (.faddr 2 (.t 4))
 (zt 18 16 (.load false 1 (.t 17))
 (zt 19 16 (.load false 1 (.t 3))
 (zt 20 16 (.bin .eql (.t 18) (.t 19))
 (zr 21 (.pick (.t 16) (.t 20) (.c (.bool false)))
 (zm 5 21
 .done)))))))))))))))))
def XH : AF := ⟨22, [.tmp 5],
 (.seq (.reg Qrl [])
 (.seq (.reg Qrk [6, 7, 8, 9, 10, 11, 12, 13, 14, 15, 16, 17, 18, 19, 20, 21])
 .ret))⟩
abbrev QbK : Nat := 99
abbrev Qic : Nat := 100
abbrev Qwf : Nat := 101
abbrev QjJ : Nat := 102
abbrev Qmf : Nat := 103
/- (proofmark/norm.maker).of -/
def QzO : AT := (.wr false (some 3) none (.box 76 (.t 0))
 (zr 6 (.mov (zi 0))
 (zr 7 (.mov (zi 0))
 (zr 8 (.mov (.c (.bool false)))
 .done))))
def QzN : AT := (zr 12 (.faddr 0 (.t 3))
 (zr 13 (.load false 1 (.t 12))
 (zm 14 1
 (zk 15 29 [.t 13, .t 14]
 (zm 11 15
 (zr 16 (.extr (.t 11) 0)
 (zr 17 (.extr (.t 11) 1)
 (.wr false (some 9) none (.new 57 [(.int .u8 0), (.int .i64 0), (.int .i64 0), (.int .u8 0), (.int .i64 0), (.int .i64 0)])
 (.wr false none none (.store 6 (.t 9) (.t 16))
 (zm 10 17
 .done))))))))))
def QzM : AT := (zr 18 (.faddr 0 (.t 9))
 (zr 19 (.load false 1 (.t 18))
 (zr 20 (.bin .neq (.t 19) (zu 4))
 (zm 21 20
 (zf 22 21 (.faddr 3 (.t 9))
 (zf 23 21 (.load false 1 (.t 22))
 (zf 24 21 (.mov (.t 2))
 (zf 25 21 (.bin .neq (.t 23) (.t 24))
 (zr 26 (.pick (.t 21) (.c (.bool true)) (.t 25))
 .done)))))))))
def QzL : AT := (zr 6 (.mov (zi 0))
 (zr 7 (.mov (zi 0))
 (zr 8 (.mov (.c (.bool false)))
 .done)))
def QzK : AT := (zr 27 (.faddr 4 (.t 9))
 (zr 28 (.load false 1 (.t 27))
 (zr 29 (.faddr 5 (.t 9))
 (zr 30 (.load false 1 (.t 29))
 (zm 6 28
 (zm 7 30
 (zr 8 (.mov (.c (.bool true)))
 .done)))))))
def Z6 : AF := ⟨31, [.tmp 6, .tmp 7, .tmp 8],
 (.seq (.reg QzO [])
 (.seq (.reg QzN [12, 13, 14, 15, 11, 16, 17, 10])
 (.seq (.seq (.reg QzM [18, 19, 20, 21, 22, 23, 24, 25])
 (.cond (.t 26)
 (.seq (.reg QzL [])
 .ret)
 .skip))
 (.seq (.reg QzK [27, 28, 29, 30])
 .ret))))⟩
abbrev Qe5 : Nat := 104
/- proofmark/word.Power -/
def QzJ : AT := (zr 2 (.mov (zi 0))
 (zr 3 (.mov (.c (.bool false)))
 .done))
def QzI : AT := (zm 4 0
 (zr 5 (.conv .u64 (.t 4))
 (zk 6 121 [.t 5]
 (zr 7 (.bin .neq (.t 6) (zi 1))
 .done))))
def QzH : AT := (zr 2 (.mov (zi 0))
 (zr 3 (.mov (.c (.bool false)))
 .done))
def QzG : AT := (zm 8 0
 (zr 9 (.conv .u64 (.t 8))
 (zk 10 122 [.t 9]
 (zm 2 10
 (zr 3 (.mov (.c (.bool true)))
 .done)))))
def QcO : AF := ⟨11, [.tmp 2, .tmp 3],
 (.seq (.reg QzJ [])
 (.seq (.seq (.reg QzI [4, 5, 6])
 (.cond (.t 7)
 (.seq (.reg QzH [])
 .ret)
 .skip))
 (.seq (.reg QzG [8, 9, 10])
 .ret)))⟩
abbrev Qi6 : Nat := 105
abbrev QfG : Nat := 106
abbrev QhZ : Nat := 107
abbrev QfH : Nat := 108
abbrev Qgv : Nat := 109
abbrev Qgc : Nat := 110
abbrev Qdg : Nat := 111
abbrev Qr5 : Nat := 112
abbrev Qfx : Nat := 113
abbrev Qhv : Nat := 114
abbrev Qs4 : Nat := 115
abbrev Qs3 : Nat := 116
abbrev QlC : Nat := 117
abbrev QjG : Nat := 118
abbrev Qif : Nat := 119
abbrev Qji : Nat := 120
/- math/bits.OnesCount64 -/
def QzF : AT := (zr 2 (.mov (zi 0))
 .done)
def QzE : AT := (zm 3 0
 (zr 4 (.bin .shr (.t 3) (.c (.int .u64 1)))
 (zr 5 (.bin .and (.t 4) (.c (.int .u64 6148914691236517205)))
 (zm 6 0
 (zr 7 (.bin .and (.t 6) (.c (.int .u64 6148914691236517205)))
 (zr 8 (.bin .add (.t 5) (.t 7))
 (zm 0 8
 .done)))))))
def QzD : AT := (zm 9 0
 (zr 10 (.bin .shr (.t 9) (.c (.int .u64 2)))
 (zr 11 (.bin .and (.t 10) (.c (.int .u64 3689348814741910323)))
 (zm 12 0
 (zr 13 (.bin .and (.t 12) (.c (.int .u64 3689348814741910323)))
 (zr 14 (.bin .add (.t 11) (.t 13))
 (zm 0 14
 .done)))))))
def QzC : AT := (zm 15 0
 (zr 16 (.bin .shr (.t 15) (.c (.int .u64 4)))
 (zm 17 0
 (zr 18 (.bin .add (.t 16) (.t 17))
 (zr 19 (.bin .and (.t 18) (.c (.int .u64 1085102592571150095)))
 (zm 0 19
 .done))))))
def QzB : AT := (zm 20 0
 (zm 21 0
 (zr 22 (.bin .shr (.t 21) (.c (.int .u64 8)))
 (zr 23 (.bin .add (.t 20) (.t 22))
 (zm 0 23
 .done)))))
def QzA : AT := (zm 24 0
 (zm 25 0
 (zr 26 (.bin .shr (.t 25) (.c (.int .u64 16)))
 (zr 27 (.bin .add (.t 24) (.t 26))
 (zm 0 27
 .done)))))
def Qzz : AT := (zm 28 0
 (zm 29 0
 (zr 30 (.bin .shr (.t 29) (.c (.int .u64 32)))
 (zr 31 (.bin .add (.t 28) (.t 30))
 (zm 0 31
 .done)))))
def Qzy : AT := (zm 32 0
 (zr 33 (.conv .i64 (.t 32))
 (zr 34 (.bin .and (.t 33) (zi 127))
 (zm 2 34
 .done))))
def XS : AF := ⟨35, [.tmp 2],
 (.seq (.reg QzF [])
 (.seq (.reg QzE [3, 4, 5, 6, 7, 8])
 (.seq (.reg QzD [9, 10, 11, 12, 13, 14])
 (.seq (.reg QzC [15, 16, 17, 18, 19])
 (.seq (.reg QzB [20, 21, 22, 23])
 (.seq (.reg QzA [24, 25, 26, 27])
 (.seq (.reg Qzz [28, 29, 30, 31])
 (.seq (.reg Qzy [32, 33, 34])
 .ret))))))))⟩
abbrev Qaa : Nat := 121
/- math/bits.TrailingZeros64 -/
def Qzx : AT := (zr 2 (.mov (zi 0))
 .done)
def Qzw : AT := (zm 3 0
 (zr 4 (.bin .eql (.t 3) (.c (.int .u64 0)))
 .done))
def Qzv : AT := (zr 2 (.mov (zi 64))
 .done)
def Qzu : AT := (zm 5 0
 (zm 6 0
 (zr 7 (.un .neg (.t 6))
 (zr 8 (.bin .and (.t 5) (.t 7))
 (zr 9 (.bin .mul (.t 8) (.c (.int .u64 285870213051353865)))
 (zr 10 (.bin .shr (.t 9) (.c (.int .u64 58)))
 (zr 11 (.iaddr (some 64) 1 (.g 1) (.t 10))
 (zr 12 (.load false 1 (.t 11))
 (zr 13 (.conv .i64 (.t 12))
 (zm 2 13
 .done))))))))))
def Xj : AF := ⟨14, [.tmp 2],
 (.seq (.reg Qzx [])
 (.seq (.seq (.reg Qzw [3])
 (.cond (.t 4)
 (.seq (.reg Qzv [])
 .ret)
 .skip))
 (.seq (.reg Qzu [5, 6, 7, 8, 9, 10, 11, 12, 13])
 .ret)))⟩
abbrev Zc : Nat := 122
abbrev QhY : Nat := 123
abbrev Qme : Nat := 124
abbrev Qm3 : Nat := 125
abbrev Qfy : Nat := 126
abbrev Qjb : Nat := 127
abbrev Qqo : Nat := 128
abbrev QjH : Nat := 129
abbrev QjI : Nat := 130
abbrev Qie : Nat := 131
abbrev Qk5 : Nat := 132
abbrev Qja : Nat := 133
abbrev Qkv : Nat := 134
abbrev QtW : Nat := 156
def tab : Nat → Option AF
 | 3 => some Xa
 | 4 => some Q5
 | 6 => some Xg
 | 7 => some Xp
 | 8 => some Xq
 | 9 => some XZ
 | 10 => some XQ
 | 11 => some Xd
 | 12 => some QaW
 | 13 => some Qdq
 | 14 => some Qgj
 | 15 => some QcN
 | 16 => some Qbz
 | 17 => some QcP
 | 18 => some QP
 | 19 => some QJ
 | 20 => some Ys
 | 21 => some Qhr
 | 22 => some X9
 | 24 => some Xx
 | 25 => some YE
 | 26 => some Y7
 | 27 => some YD
 | 28 => some Qg8
 | 29 => some Yd
 | 30 => some QbH
 | 31 => some QbI
 | 32 => some QG
 | 33 => some XE
 | 34 => some Qm
 | 35 => some Qgs
 | 36 => some Q4
 | 37 => some Qhc
 | 38 => some Qhq
 | 39 => some Y6
 | 40 => some QeT
 | 41 => some Yu
 | 42 => some QaP
 | 43 => some ZE
 | 44 => some QY
 | 45 => some QeE
 | 46 => some YJ
 | 47 => some Qkp
 | 48 => some Yr
 | 49 => some Yo
 | 50 => some Yp
 | 51 => some Qp
 | 52 => some XX
 | 53 => some Yq
 | 54 => some Yn
 | 55 => some XY
 | 56 => some Y5
 | 57 => some QcT
 | 58 => some ZA
 | 59 => some QcU
 | 60 => some ZD
 | 61 => some XR
 | 62 => some YF
 | 63 => some QcL
 | 64 => some QcK
 | 65 => some QcJ
 | 66 => some Qdk
 | 67 => some Qdj
 | 68 => some QcM
 | 69 => some QcC
 | 70 => some QcI
 | 71 => some QcH
 | 72 => some QcG
 | 73 => some QcF
 | 74 => some QcE
 | 75 => some QcD
 | 76 => some Qby
 | 77 => some Qfm
 | 78 => some Qbx
 | 79 => some Qbw
 | 80 => some YH
 | 81 => some YI
 | 82 => some Zz
 | 83 => some XP
 | 84 => some QX
 | 85 => some Yl
 | 86 => some Ye
 | 87 => some QaU
 | 88 => some strconv_Itoa
 | 89 => some QeH
 | 90 => some QeI
 | 91 => some X0
 | 92 => some Zb
 | 93 => some Xy
 | 94 => some YS
 | 95 => some YR
 | 96 => some YQ
 | 97 => some YP
 | 98 => some QF
 | 99 => some XH
 | 104 => some Z6
 | 105 => some QcO
 | 121 => some XS
 | 122 => some Xj
 | _ => none
theorem ZB : tab Yv = some Xa := rfl
theorem Zp : tab Yi = some Q5 := rfl
theorem ZN : tab YG = some Xg := rfl
theorem YL : tab X5 = some Xp := rfl
theorem QbZ : tab Zr = some Xq := rfl
theorem Qf : tab Qz = some XZ := rfl
theorem X3 : tab Z9 = some XQ := rfl
theorem Q1 : tab QaN = some Xd := rfl
theorem QW : tab Qcn = some QaW := rfl
theorem Qe : tab Qfz = some Qdq := rfl
theorem QbC : tab Qhu = some Qgj := rfl
theorem Qa3 : tab Qi5 = some QcN := rfl
theorem Qdn : tab Qht = some Qbz := rfl
theorem QeK : tab Qi7 = some QcP := rfl
theorem Qa4 : tab Qa9 = some QP := rfl
theorem QaH : tab QaL = some QJ := rfl
theorem Qc : tab Zv = some Ys := rfl
theorem Zh : tab Qid = some Qhr := rfl
theorem QbE : tab QbP = some X9 := rfl
theorem XW : tab Qbo = some Xx := rfl
theorem YM : tab QbQ = some YE := rfl
theorem Q0 : tab QaZ = some Y7 := rfl
theorem XI : tab QbO = some YD := rfl
theorem YB : tab Qia = some Qg8 := rfl
theorem Qu : tab Zj = some Yd := rfl
theorem Zg : tab Qhw = some QbH := rfl
theorem YO : tab Qgw = some QbI := rfl
theorem Y9 : tab Qba = some QG := rfl
theorem YC : tab ZP = some XE := rfl
theorem Xn : tab QbN = some Qm := rfl
theorem ZC : tab Qkt = some Qgs := rfl
theorem Zo : tab Yh = some Q4 := rfl
theorem Qh2 : tab Qib = some Qhc := rfl
theorem Qh3 : tab QlB = some Qhq := rfl
theorem QcV : tab QaY = some Y6 := rfl
theorem Qgm : tab Qku = some QeT := rfl
theorem Qw : tab ZH = some Yu := rfl
theorem QeJ : tab Qcl = some QaP := rfl
theorem Qy : tab Qd3 = some ZE := rfl
theorem QV : tab Q3 = some QY := rfl
theorem Qke : tab Qdu = some QeE := rfl
theorem XN : tab QbL = some YJ := rfl
theorem Z1 : tab Qol = some Qkp := rfl
theorem Xc : tab Qbn = some Yr := rfl
theorem QC : tab Qbk = some Yo := rfl
theorem Qbi : tab Qbl = some Yp := rfl
theorem Xb : tab Zq = some Qp := rfl
theorem Yg : tab XG = some XX := rfl
theorem Qi : tab Qbm = some Yq := rfl
theorem Yz : tab Qbj = some Yn := rfl
theorem XD : tab QaM = some XY := rfl
theorem Zf : tab QaX = some Y5 := rfl
theorem QeM : tab Qi8 = some QcT := rfl
theorem QdY : tab Qd1 = some ZA := rfl
theorem QeN : tab Qi9 = some QcU := rfl
theorem Qo : tab Qd2 = some ZD := rfl
theorem QaT : tab QcZ = some XR := rfl
theorem YN : tab QbR = some YF := rfl
theorem QiZ : tab Qe3 = some QcL := rfl
theorem QiY : tab Qe2 = some QcK := rfl
theorem QiX : tab Qe1 = some QcJ := rfl
theorem Qlu : tab Qh9 = some Qdk := rfl
theorem Qlt : tab Qh8 = some Qdj := rfl
theorem Qkd : tab Qgu = some QcM := rfl
theorem Qkc : tab Qgt = some QcC := rfl
theorem QiW : tab Qe0 = some QcI := rfl
theorem QiV : tab QeZ = some QcH := rfl
theorem QiU : tab QeY = some QcG := rfl
theorem QiT : tab QeX = some QcF := rfl
theorem QiS : tab QeW = some QcE := rfl
theorem QiR : tab QeV = some QcD := rfl
theorem Qhg : tab Qdt = some Qby := rfl
theorem Qfu : tab QlA = some Qfm := rfl
theorem Qhf : tab Qds = some Qbx := rfl
theorem Qhe : tab Qdr = some Qbw := rfl
theorem Qf9 : tab Qa1 = some YH := rfl
theorem QeL : tab Qe4 = some YI := rfl
theorem QdX : tab Qd0 = some Zz := rfl
theorem QL : tab Z8 = some XP := rfl
theorem YK : tab Z7 = some QX := rfl
theorem Zt : tab Zu = some Yl := rfl
theorem Qbd : tab Xl = some Ye := rfl
theorem Qgl : tab QbM = some QaU := rfl
theorem Qk2 : tab Qgb = some strconv_Itoa := rfl
theorem Qkf : tab Qkq = some QeH := rfl
theorem Qkg : tab Qkr = some QeI := rfl
theorem QaJ : tab Xi = some X0 := rfl
theorem XJ : tab QcY = some Zb := rfl
theorem QaI : tab Xh = some Xy := rfl
theorem Qch : tab Qcm = some YS := rfl
theorem Qcg : tab XV = some YR := rfl
theorem Qcf : tab XU = some YQ := rfl
theorem Qce : tab XT = some YP := rfl
theorem XK : tab XL = some QF := rfl
theorem QbD : tab QbK = some XH := rfl
theorem XO : tab Qe5 = some Z6 := rfl
theorem Qi0 : tab Qi6 = some QcO := rfl
theorem Z2 : tab Qaa = some XS := rfl
theorem Za : tab Zc = some Xj := rfl
end Go.Proofs.YtpdeoalocejodaaGreatDoor
