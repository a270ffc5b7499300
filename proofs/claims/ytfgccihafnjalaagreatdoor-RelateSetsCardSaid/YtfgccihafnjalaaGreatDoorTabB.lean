/- The translations of the functions, by a program of mine. -/
import Derived.Test.YtfgccihafnjalaaGreatDoorTabA
namespace Go.Proofs.YtfgccihafnjalaaGreatDoor
open Go Go.Am
set_option maxRecDepth 100000
/- proofmark/rv.Decode -/
def QyI : AT := (.wr false (some 1) none (.box 131 (.t 0))
 (.wr false (some 2) none (.new 77 [(.int .u8 0), (.int .u8 0), (.int .u8 0), (.int .u8 0), (.int .i64 0)])
 (zr 3 (.mov (zi 0))
 .done)))
def QyH : AT := (zk 10 111 []
 (.wr false (some 4) none (.new 195 (List.replicate 66 [(.bool false), (.bool false), (.bool false), (.lst 0 [] true), (.int .i64 0), (.bool false), (.int .u32 0), (.str []), (.int .u32 0)]).flatten)
 (.wr false none none (.store 594 (.t 4) (.t 10))
 .done)))
def QyG : AT := (zr 11 (.slarr 66 9 (.t 4) none none)
 (zr 12 (.mkfn (.func 113) [] [(.t 1)])
 (zk 13 112 [.t 11, .t 12]
 (zm 5 13
 .done))))
def QyF : AT := (zm 14 5
 (zr 15 (.bin .lss (.t 14) (zi 0))
 .done))
def QyE : AT := (zr 16 (.build [(.int .u8 0), (.int .u8 0), (.int .u8 0), (.int .u8 0), (.int .i64 0)] [])
 (.wr false none none (.store 5 (.t 2) (.t 16))
 (zr 3 (.mov (zi 100))
 .done)))
def QyD : AT := (zm 17 5
 (zr 18 (.iaddr (some 66) 9 (.t 4) (.t 17))
 (zr 19 (.load true 9 (.t 18))
 (.wr false (some 6) none (.new 175 [(.bool false), (.bool false), (.bool false), (.lst 0 [] true), (.int .i64 0), (.bool false), (.int .u32 0), (.str []), (.int .u32 0)])
 (.wr false none none (.store 9 (.t 6) (.t 19))
 .done)))))
def QyC : AT := (zm 20 5
 (zr 21 (.conv .u8 (.t 20))
 (zr 22 (.faddr 0 (.t 6))
 (zr 23 (.load true 7 (.t 22))
 (zr 24 (.load false 1 (.t 1))
 (zk 25 114 [.t 23, .t 24]
 (zr 26 (.build [(.int .u8 0), (.int .u8 0), (.int .u8 0), (.int .u8 0), (.int .i64 0)] [(0, 1, (.t 21)), (4, 1, (.t 25))])
 (.wr false (some 7) none (.new 77 [(.int .u8 0), (.int .u8 0), (.int .u8 0), (.int .u8 0), (.int .i64 0)])
 (.wr false none none (.store 5 (.t 7) (.t 26))
 .done)))))))))
def QyB : AT := (zr 27 (.faddr 0 (.t 6))
 (zr 28 (.faddr 0 (.t 27))
 (zr 29 (.load false 1 (.t 28))
 (zr 30 (.faddr 1 (.t 7))
 (zr 31 (.load true 2 (.g 0))
 (zr 32 (.build [(.bool false), (.val (.pointer none)), (.int .i64 0), (.int .i64 0)] [(0, 1, (.t 29)), (1, 1, (.t 30)), (2, 2, (.t 31))])
 (zr 33 (.faddr 0 (.t 6))
 (zr 34 (.faddr 1 (.t 33))
 (zr 35 (.load false 1 (.t 34))
 (zr 36 (.faddr 2 (.t 7))
 (zr 37 (.load true 2 (.g 1))
 (zr 38 (.build [(.bool false), (.val (.pointer none)), (.int .i64 0), (.int .i64 0)] [(0, 1, (.t 35)), (1, 1, (.t 36)), (2, 2, (.t 37))])
 (zr 39 (.faddr 0 (.t 6))
 (zr 40 (.faddr 2 (.t 39))
 (zr 41 (.load false 1 (.t 40))
 (zr 42 (.faddr 3 (.t 7))
 (zr 43 (.load true 2 (.g 2))
 (zr 44 (.build [(.bool false), (.val (.pointer none)), (.int .i64 0), (.int .i64 0)] [(0, 1, (.t 41)), (1, 1, (.t 42)), (2, 2, (.t 43))])
 (.wr false (some 45) none (.bsl true true 202 4 [(.bool false), (.val (.pointer none)), (.int .i64 0), (.int .i64 0)] 3 [(0, 4, (.t 32)), (4, 4, (.t 38)), (8, 4, (.t 44))])
 (zr 46 (.len 0 (.t 45))
 (zr 47 (.mov (zi 0))
 .done)))))))))))))))))))))
def QyA : AT := (zr 48 (.bin .lss (.t 47) (.t 46))
 .done)
def Qyz : AT := (zr 49 (.iaddr none 4 (.t 45) (.t 47))
 (zr 50 (.load true 4 (.t 49))
 (.wr false (some 9) none (.new 202 [(.bool false), (.val (.pointer none)), (.int .i64 0), (.int .i64 0)])
 (.wr false none none (.store 4 (.t 9) (.t 50))
 .done))))
def Qti : AT := (zr 51 (.faddr 0 (.t 9))
 (zr 52 (.load false 1 (.t 51))
 .done))
def Qth : AT := (zr 53 (.faddr 1 (.t 9))
 (zr 54 (.load false 1 (.t 53))
 (zr 55 (.faddr 2 (.t 9))
 (zr 56 (.load true 2 (.t 55))
 (zr 57 (.load false 1 (.t 1))
 (.cl true (some 58) none (.c (.fn (.func 115) [] [])) [(.t 56), (.t 57)]
 (zr 59 (.conv .u8 (.t 58))
 (zr 60 (.nilc (.t 54))
 (.wr false none none (.store 1 (.t 60) (.t 59))
 .done)))))))))
def Qtg : AT := (zr 61 (.bin .add (.t 47) (zi 1))
 (zm 47 61
 .done))
def Qtf : AT := (zr 62 (.load true 5 (.t 7))
 (.wr false none none (.store 5 (.t 2) (.t 62))
 (zr 3 (.mov (zi 0))
 .done)))
def QeJ : AF := ⟨63, [.cell 2 true 5, .tmp 3],
 (.seq (.reg QyI [])
 (.seq (.reg QyH [10])
 (.seq (.reg QyG [11, 12, 13])
 (.seq (.seq (.reg QyF [14])
 (.cond (.t 15)
 (.seq (.reg QyE [16])
 .ret)
 .skip))
 (.seq (.reg QyD [17, 18, 19])
 (.seq (.reg QyC [20, 21, 22, 23, 24, 25, 26])
 (.seq (.seq (.reg QyB [27, 28, 29, 30, 31, 32, 33, 34, 35, 36, 37, 38, 39, 40, 41, 42, 43, 44])
 (.block 0 (.loop (.seq (.reg QyA [])
 (.seq (.cond (.t 48)
 .skip
 (.exit 0))
 (.seq (.block 1 (.seq (.reg Qyz [49, 50])
 (.seq (.reg Qti [51])
 (.cond (.t 52)
 (.reg Qth [53, 54, 55, 56, 57, 58, 59, 60])
 .skip))))
 (.reg Qtg [61])))))))
 (.seq (.reg Qtf [62])
 .ret))))))))⟩
abbrev Qgo : Nat := 91
/- proofmark/regions.frame -/
def zq2h_0 : AT := (.wr false (some 1) none (.box 77 (.t 0))
 (zr 2 (.mov (zi 0))
 .done))
def zq2h_1 : AT := (zr 4 (.faddr 4 (.t 1))
 (zr 5 (.load false 1 (.t 4))
 (zr 6 (.un .neg (.t 5))
 (zm 3 6
 .done))))
def zq2h_2 : AT := (zr 7 (.faddr 0 (.t 1))
 (zr 8 (.load false 1 (.t 7))
 (zr 9 (.bin .neq (.t 8) (zu 22))
 (zm 10 9
 (zf 11 10 (.faddr 1 (.t 1))
 (zf 12 10 (.load false 1 (.t 11))
 (zf 13 10 (.bin .neq (.t 12) (zu 2))
 (zr 14 (.pick (.t 10) (.c (.bool true)) (.t 13))
 (zm 15 14
 (zf 16 15 (.faddr 2 (.t 1))
 (zf 17 15 (.load false 1 (.t 16))
 (zf 18 15 (.bin .neq (.t 17) (zu 2))
 (zr 19 (.pick (.t 15) (.c (.bool true)) (.t 18))
 (zm 20 19
 (zf 21 20 (.mov (.t 3))
 (zf 22 20 (.bin .lss (.t 21) (zi 8))
 (zr 23 (.pick (.t 20) (.c (.bool true)) (.t 22))
 (zm 24 23
 (zf 25 24 (.mov (.t 3))
 (zf 26 24 (.bin .gtr (.t 25) (zi 1984))
 (zr 27 (.pick (.t 24) (.c (.bool true)) (.t 26))
 (zm 28 27
 (zf 29 28 (.mov (.t 3))
 (zf 30 28 (.bin .rem (.t 29) (zi 8))
 (zf 31 28 (.bin .neq (.t 30) (zi 0))
 (zr 32 (.pick (.t 28) (.c (.bool true)) (.t 31))
 .done))))))))))))))))))))))))))
def zq2h_3 : AT := (zr 2 (.mov (zi 0))
 .done)
def zq2h_4 : AT := (zm 33 3
 (zm 2 33
 .done))
def Qdo : AF := ⟨34, [.tmp 2],
 (.seq (.reg zq2h_0 [])
 (.seq (.reg zq2h_1 [4, 5, 6])
 (.seq (.seq (.reg zq2h_2 [7, 8, 9, 10, 11, 12, 13, 14, 15, 16, 17, 18, 19, 20, 21, 22, 23, 24, 25, 26, 27, 28, 29, 30, 31])
 (.cond (.t 32)
 (.seq (.reg zq2h_3 [])
 .ret)
 .skip))
 (.seq (.reg zq2h_4 [33])
 .ret))))⟩
abbrev QkC : Nat := 92
/- (*proofmark/regions.reader).fault -/
def zq2i_0 : AT := (zr 4 (.mov (zi 0))
 .done)
def zq2i_1 : AT := (zm 8 0
 (zr 9 (.mkfn (.func 116) [(.t 8)] [])
 (zr 10 (.build [(.val .nilFunc), (.int .i64 0)] [(0, 1, (.t 9)), (1, 1, (zi 220))])
 (zm 11 0
 (zr 12 (.mkfn (.func 117) [(.t 11)] [])
 (zr 13 (.build [(.val .nilFunc), (.int .i64 0)] [(0, 1, (.t 12)), (1, 1, (zi 221))])
 (zm 14 0
 (zr 15 (.mkfn (.func 118) [(.t 14)] [])
 (zr 16 (.build [(.val .nilFunc), (.int .i64 0)] [(0, 1, (.t 15)), (1, 1, (zi 222))])
 (zm 17 0
 (zr 18 (.mkfn (.func 119) [(.t 17)] [])
 (zr 19 (.build [(.val .nilFunc), (.int .i64 0)] [(0, 1, (.t 18)), (1, 1, (zi 223))])
 (.wr false (some 20) none (.bsl true true 205 2 [(.val .nilFunc), (.int .i64 0)] 4 [(0, 2, (.t 10)), (2, 2, (.t 13)), (4, 2, (.t 16)), (6, 2, (.t 19))])
 (zm 5 20
 .done))))))))))))))
def zq2i_2 : AT := (zm 21 5
 (zr 22 (.len 0 (.t 21))
 (zr 23 (.mov (zi 0))
 .done)))
def zq2i_3 : AT := (zr 24 (.bin .lss (.t 23) (.t 22))
 .done)
def zq2i_4 : AT := (zr 25 (.iaddr none 2 (.t 21) (.t 23))
 (zr 26 (.load true 2 (.t 25))
 (.wr false (some 7) none (.new 205 [(.val .nilFunc), (.int .i64 0)])
 (.wr false none none (.store 2 (.t 7) (.t 26))
 .done))))
def zq2i_5 : AT := (zr 27 (.faddr 0 (.t 7))
 (zr 28 (.load false 1 (.t 27))
 (zm 29 1
 (.cl false (some 30) none (.t 28) [(.t 29)]
 (zr 31 (.un .not (.t 30))
 .done)))))
def zq2i_6 : AT := (zr 32 (.faddr 1 (.t 7))
 (zr 33 (.load false 1 (.t 32))
 (zm 4 33
 .done)))
def zq2i_7 : AT := (zr 34 (.bin .add (.t 23) (zi 1))
 (zm 23 34
 .done))
def zq2i_8 : AT := (zr 4 (.mov (zi 0))
 .done)
def YX : AF := ⟨35, [.tmp 4],
 (.seq (.reg zq2i_0 [])
 (.seq (.reg zq2i_1 [8, 9, 10, 11, 12, 13, 14, 15, 16, 17, 18, 19, 20])
 (.seq (.seq (.reg zq2i_2 [])
 (.block 0 (.loop (.seq (.reg zq2i_3 [])
 (.seq (.cond (.t 24)
 .skip
 (.exit 0))
 (.seq (.block 1 (.seq (.reg zq2i_4 [25, 26])
 (.seq (.reg zq2i_5 [27, 28, 29, 30])
 (.cond (.t 31)
 (.seq (.reg zq2i_6 [32, 33])
 .ret)
 .skip))))
 (.reg zq2i_7 [34])))))))
 (.seq (.reg zq2i_8 [])
 .ret))))⟩
abbrev Qd9 : Nat := 93
/- (proofmark/regions.Func).cuts -/
def zq2j_0 : AT := (.wr false (some 1) none (.box 39 (.t 0))
 (zr 2 (.mov (.c (.lst 0 [] true)))
 .done))
def zq2j_1 : AT := (.wr false (some 10) none .mkmap
 (zm 3 10
 .done))
def zq2j_2 : AT := (zr 11 (.faddr 2 (.t 1))
 (zr 12 (.load false 1 (.t 11))
 (zr 13 (.len 0 (.t 12))
 (zr 14 (.mov (zi 0))
 .done))))
def zq2j_3 : AT := (zr 15 (.bin .lss (.t 14) (.t 13))
 .done)
def zq2j_4 : AT := (zm 16 14
 (zm 4 16
 .done))
def zq2j_5 : AT := (zr 17 (.load true 5 (.t 1))
 (zm 18 4
 (zk 19 120 [.t 17, .t 18]
 (zr 20 (.len 0 (.t 19))
 (zr 21 (.mov (zi 0))
 .done)))))
def zq2j_6 : AT := (zr 22 (.bin .lss (.t 21) (.t 20))
 .done)
def zq2j_7 : AT := (zr 23 (.iaddr none 1 (.t 19) (.t 21))
 (zr 24 (.load false 1 (.t 23))
 (zm 6 24
 .done)))
def zq2j_8 : AT := (zm 25 3
 (zm 26 6
 (zr 27 (.look false false [.i] (.int .i64 0) (.t 25) (.t 26))
 (zr 28 (.bin .add (.t 27) (zi 1))
 (.wr false none none (.mapup false [.i] (.t 25) (.t 26) (.t 28))
 .done)))))
def zq2j_9 : AT := (zr 29 (.bin .add (.t 21) (zi 1))
 (zm 21 29
 .done))
def QB6 : AT := (zr 30 (.bin .add (.t 14) (zi 1))
 (zm 14 30
 .done))
def QB5 : AT := (zr 7 (.mov (.c (.lst 0 [] true)))
 .done)
def QB4 : AT := (zm 31 3
 (.wr false (some 32) none (.iter (.t 31))
 .done))
def QB3 : AT := (.wr false (some 33) none (.next (.t 32))
 (zr 34 (.extr (.t 33) 0)
 .done))
def QB2 : AT := (.wr false (some 35) none (.entry (.t 32))
 (zr 36 (.extr (.t 35) 0)
 (zr 37 (.extr (.t 35) 1)
 (zm 8 36
 (zm 9 37
 .done)))))
def QB1 : AT := (zm 38 9
 (zr 39 (.bin .gtr (.t 38) (zi 1))
 .done))
def QB0 : AT := (zm 40 7
 (zm 41 8
 (.wr false (some 42) none (.bsl false false 3 1 [(.int .i64 0)] 1 [(0, 1, (.t 41))])
 (.wr false (some 43) none (.app 3 1 8 false (.t 40) (.t 42))
 (zm 7 43
 .done)))))
def QBZ : AT := (zm 44 7
 (zk 45 121 [.t 44]
 .done))
def QBY : AT := (zm 46 7
 (zm 2 46
 .done))
def Z6 : AF := ⟨47, [.tmp 2],
 (.seq (.reg zq2j_0 [])
 (.seq (.reg zq2j_1 [10])
 (.seq (.seq (.reg zq2j_2 [11, 12])
 (.block 0 (.loop (.seq (.reg zq2j_3 [])
 (.seq (.cond (.t 15)
 .skip
 (.exit 0))
 (.seq (.block 1 (.seq (.reg zq2j_4 [16])
 (.seq (.reg zq2j_5 [17, 18])
 (.block 2 (.loop (.seq (.reg zq2j_6 [])
 (.seq (.cond (.t 22)
 .skip
 (.exit 2))
 (.seq (.block 3 (.seq (.reg zq2j_7 [23, 24])
 (.reg zq2j_8 [25, 26, 27, 28])))
 (.reg zq2j_9 [29])))))))))
 (.reg QB6 [30])))))))
 (.seq (.reg QB5 [])
 (.seq (.seq (.reg QB4 [31])
 (.block 4 (.loop (.seq (.reg QB3 [33])
 (.seq (.cond (.t 34)
 .skip
 (.exit 4))
 (.block 5 (.seq (.reg QB2 [35, 36, 37])
 (.seq (.reg QB1 [38])
 (.cond (.t 39)
 (.reg QB0 [40, 41, 42, 43])
 .skip)))))))))
 (.seq (.reg QBZ [44, 45])
 (.seq (.reg QBY [46])
 .ret)))))))⟩
abbrev Qgq : Nat := 94
/- proofmark/rv.of -/
def Qyy : AT := (.wr false (some 2) none (.new 175 [(.bool false), (.bool false), (.bool false), (.lst 0 [] true), (.int .i64 0), (.bool false), (.int .u32 0), (.str []), (.int .u32 0)])
 (zr 3 (.mov (.c (.bool false)))
 .done))
def Qyx : AT := (zk 5 111 []
 (.wr false (some 4) none (.new 195 (List.replicate 66 [(.bool false), (.bool false), (.bool false), (.lst 0 [] true), (.int .i64 0), (.bool false), (.int .u32 0), (.str []), (.int .u32 0)]).flatten)
 (.wr false none none (.store 594 (.t 4) (.t 5))
 .done)))
def Qyw : AT := (zm 6 0
 (zr 7 (.bin .lss (.t 6) (zu 1))
 (zm 8 7
 (zf 9 8 (.mov (.t 0))
 (zf 10 8 (.conv .i64 (.t 9))
 (zf 11 8 (.bin .geq (.t 10) (zi 66))
 (zr 12 (.pick (.t 8) (.c (.bool true)) (.t 11))
 .done)))))))
def Qyv : AT := (zr 13 (.build [(.bool false), (.bool false), (.bool false), (.lst 0 [] true), (.int .i64 0), (.bool false), (.int .u32 0), (.str []), (.int .u32 0)] [])
 (.wr false none none (.store 9 (.t 2) (.t 13))
 (zr 3 (.mov (.c (.bool false)))
 .done)))
def Qyu : AT := (zm 14 0
 (zr 15 (.iaddr (some 66) 9 (.t 4) (.t 14))
 (zr 16 (.load true 9 (.t 15))
 (.wr false none none (.store 9 (.t 2) (.t 16))
 (zr 3 (.mov (.c (.bool true)))
 .done)))))
def Qui : AF := ⟨17, [.cell 2 true 9, .tmp 3],
 (.seq (.reg Qyy [])
 (.seq (.reg Qyx [5])
 (.seq (.seq (.reg Qyw [6, 7, 8, 9, 10, 11])
 (.cond (.t 12)
 (.seq (.reg Qyv [13])
 .ret)
 .skip))
 (.seq (.reg Qyu [14, 15, 16])
 .ret))))⟩
abbrev Quy : Nat := 95
/- proofmark/rv.Encode$1 -/
def Qyt : AT := (zr 4 (.mov (.c (.bool false)))
 .done)
def Qys : AT := (zm 5 1
 (zr 6 (.bin .lss (.t 5) (zu 32))
 (zm 7 6
 (zt 8 7 (.mov (.t 0))
 (zt 9 7 (.mov (.t 8))
 (zf 10 9 (.mov (.t 1))
 (zf 11 9 (.bin .eql (.t 10) (zu 0))
 (zt 12 7 (.pick (.t 9) (.c (.bool true)) (.t 11))
 (zr 13 (.pick (.t 7) (.t 12) (.c (.bool false)))
 (zm 4 13
 .done))))))))))
def Qau : AF := ⟨14, [.tmp 4],
 (.seq (.reg Qyt [])
 (.seq (.reg Qys [5, 6, 7, 8, 9, 10, 11, 12, 13])
 .ret))⟩
abbrev Qf7 : Nat := 96
/- (proofmark/rv.form).fits -/
def Qyr : AT := (.wr false (some 2) none (.box 173 (.t 0))
 (zr 4 (.mov (.c (.bool false)))
 .done))
def Qyq : AT := (zr 7 (.load true 7 (.t 2))
 (zk 8 122 [.t 7]
 (zr 9 (.bin .shl (zi 1) (.t 8))
 (zr 5 (.mov (zi 0))
 (zm 6 9
 .done)))))
def Qyp : AT := (zr 10 (.faddr 5 (.t 2))
 (zr 11 (.load false 1 (.t 10))
 .done))
def Qyo : AT := (zm 12 6
 (zr 13 (.un .neg (.t 12))
 (zr 14 (.bin .quo (.t 13) (zi 2))
 (zm 15 6
 (zr 16 (.bin .quo (.t 15) (zi 2))
 (zm 5 14
 (zm 6 16
 .done)))))))
def Qyn : AT := (zm 17 1
 (zm 18 5
 (zr 19 (.bin .geq (.t 17) (.t 18))
 (zm 20 19
 (zt 21 20 (.mov (.t 1))
 (zt 22 20 (.mov (.t 6))
 (zt 23 20 (.bin .lss (.t 21) (.t 22))
 (zr 24 (.pick (.t 20) (.t 23) (.c (.bool false)))
 (zm 25 24
 (zt 26 25 (.mov (.t 1))
 (zt 27 25 (.faddr 4 (.t 2))
 (zt 28 25 (.load false 1 (.t 27))
 (zt 29 25 (.bin .shl (zi 1) (.t 28))
 (zt 30 25 (.bin .sub (.t 29) (zi 1))
 (zt 31 25 (.bin .and (.t 26) (.t 30))
 (zt 32 25 (.bin .eql (.t 31) (zi 0))
 (zr 33 (.pick (.t 25) (.t 32) (.c (.bool false)))
 (zm 4 33
 .done))))))))))))))))))
def Qat : AF := ⟨34, [.tmp 4],
 (.seq (.reg Qyr [])
 (.seq (.reg Qyq [7, 8, 9])
 (.seq (.seq (.reg Qyp [10])
 (.cond (.t 11)
 (.reg Qyo [12, 13, 14, 15, 16])
 .skip))
 (.seq (.reg Qyn [17, 18, 19, 20, 21, 22, 23, 24, 25, 26, 27, 28, 29, 30, 31, 32, 33])
 .ret))))⟩
abbrev Qcu : Nat := 97
/- proofmark/rv.together -/
def Qym : AT := (zr 2 (.mov (.c (.int .u32 0)))
 .done)
def Qyl : AT := (zr 3 (.mov (.c (.int .u32 0)))
 .done)
def Qyk : AT := (zm 6 0
 (zr 7 (.len 0 (.t 6))
 (zr 8 (.mov (zi 0))
 .done)))
def Qyj : AT := (zr 9 (.bin .lss (.t 8) (.t 7))
 .done)
def Qyi : AT := (zr 10 (.iaddr none 1 (.t 6) (.t 8))
 (zr 11 (.load false 1 (.t 10))
 (zm 5 11
 .done)))
def Qyh : AT := (zm 12 3
 (zm 13 5
 (zr 14 (.bin .or (.t 12) (.t 13))
 (zm 3 14
 .done))))
def Qyg : AT := (zr 15 (.bin .add (.t 8) (zi 1))
 (zm 8 15
 .done))
def Qyf : AT := (zm 16 3
 (zm 2 16
 .done))
def Qbo : AF := ⟨17, [.tmp 2],
 (.seq (.reg Qym [])
 (.seq (.reg Qyl [])
 (.seq (.seq (.reg Qyk [])
 (.block 0 (.loop (.seq (.reg Qyj [])
 (.seq (.cond (.t 9)
 .skip
 (.exit 0))
 (.seq (.block 1 (.seq (.reg Qyi [10, 11])
 (.reg Qyh [12, 13, 14])))
 (.reg Qyg [15])))))))
 (.seq (.reg Qyf [16])
 .ret))))⟩
abbrev Qhd : Nat := 98
/- (proofmark/rv.form).spread -/
def zq2o_0 : AT := (.wr false (some 2) none (.box 173 (.t 0))
 (.wr false (some 3) none (.box 2 (.t 1))
 (zr 4 (.mov (.c (.int .u32 0)))
 .done)))
def zq2o_1 : AT := (.wr false (some 5) none (.new 131 [(.int .u32 0)])
 (.wr false none none (.store 1 (.t 5) (.c (.int .u32 0)))
 .done))
def zq2o_2 : AT := (zr 8 (.load false 1 (.t 3))
 (zr 9 (.faddr 4 (.t 2))
 (zr 10 (.load false 1 (.t 9))
 (zr 11 (.bin .shr (.t 8) (.t 10))
 (.wr false none none (.store 1 (.t 3) (.t 11))
 .done)))))
def zq2o_3 : AT := (zr 12 (.faddr 3 (.t 2))
 (zr 13 (.load false 1 (.t 12))
 (zk 14 123 [.t 13]
 .done)))
def zq2o_4 : AT := (zr 33 (.load false 1 (.t 5))
 (zm 4 33
 .done))
def Qcr : AF := ⟨34, [.tmp 4],
 (.seq (.reg zq2o_0 [])
 (.seq (.reg zq2o_1 [])
 (.seq (.reg zq2o_2 [8, 9, 10, 11])
 (.seq (.seq (.reg zq2o_3 [12, 13])
 (.block 0 .bad))
 (.seq (.reg zq2o_4 [33])
 .ret)))))⟩
abbrev Qd0 : Nat := 99
def QeI : AT := (.wr false (some 7) none (.new 181 [(.int .i64 0), (.int .i64 0)])
 (.wr false none none (.store 2 (.t 7) (.t 16))
 .done))
def Qg7 : AC := (.reg QeI [])
def QeH : AT := (zr 17 (.load false 1 (.t 5))
 (zr 18 (.load false 1 (.t 3))
 (zr 19 (.faddr 1 (.t 7))
 (zr 20 (.load false 1 (.t 19))
 (zr 21 (.bin .shl (zi 1) (.t 20))
 (zr 22 (.bin .sub (.t 21) (zi 1))
 (zr 23 (.bin .and (.t 18) (.t 22))
 (zr 24 (.conv .u32 (.t 23))
 (zr 25 (.faddr 0 (.t 7))
 (zr 26 (.load false 1 (.t 25))
 (zr 27 (.bin .shl (.t 24) (.t 26))
 (zr 28 (.bin .or (.t 17) (.t 27))
 (.wr false none none (.store 1 (.t 5) (.t 28))
 .done)))))))))))))
def QeG : AT := (zr 29 (.load false 1 (.t 3))
 (zr 30 (.faddr 1 (.t 7))
 (zr 31 (.load false 1 (.t 30))
 (zr 32 (.bin .shr (.t 29) (.t 31))
 (.wr false none none (.store 1 (.t 3) (.t 32))
 .done)))))
def Qg6 : AC := (.block 1 (.seq (.reg QeH [17, 18, 19, 20, 21, 22, 23, 24, 25, 26, 27, 28])
 (.reg QeG [29, 30, 31, 32])))
/- proofmark/term.bare -/
def Qye : AT := (.wr false (some 1) none (.box 108 (.t 0))
 (.wr false (some 2) none (.new 108 [(.int .u8 0), (.int .i64 0), (.int .i64 0), (.int .u8 0), (.int .i64 0), (.int .i64 0)])
 .done))
def Qyd : AT := (zr 3 (.faddr 0 (.t 1))
 (zr 4 (.load false 1 (.t 3))
 .done))
def Qyc : AT := (zr 6 (.bin .eql (.t 4) (zu 1))
 (zm 5 6
 .done))
def Qyb : AT := (zr 7 (.bin .eql (.t 4) (zu 2))
 (zm 5 7
 .done))
def Qya : AT := (zr 8 (.faddr 1 (.t 1))
 (.wr false none none (.store 1 (.t 8) (zi 0))
 .done))
def Qx9 : AT := (zr 10 (.bin .eql (.t 4) (zu 3))
 (zm 9 10
 .done))
def Qx8 : AT := (zr 11 (.faddr 1 (.t 1))
 (.wr false none none (.store 1 (.t 11) (zi 0))
 (zr 12 (.faddr 2 (.t 1))
 (.wr false none none (.store 1 (.t 12) (zi 0))
 (zr 13 (.faddr 5 (.t 1))
 (.wr false none none (.store 1 (.t 13) (zi 0))
 .done))))))
def Qx7 : AT := (zr 15 (.bin .eql (.t 4) (zu 4))
 (zm 14 15
 .done))
def Qx6 : AT := (zr 16 (.faddr 3 (.t 1))
 (.wr false none none (.store 1 (.t 16) (zu 0))
 (zr 17 (.faddr 4 (.t 1))
 (.wr false none none (.store 1 (.t 17) (zi 0))
 (zr 18 (.faddr 5 (.t 1))
 (.wr false none none (.store 1 (.t 18) (zi 0))
 .done))))))
def Qx5 : AT := (zr 19 (.faddr 0 (.t 1))
 (.wr false none none (.store 1 (.t 19) (zu 0))
 .done))
def Qte : AT := (zr 20 (.load true 6 (.t 1))
 (.wr false none none (.store 6 (.t 2) (.t 20))
 .done))
def QeC : AF := ⟨21, [.cell 2 true 6],
 (.seq (.reg Qye [])
 (.seq (.seq (.reg Qyd [3])
 (.block 0 (.seq (.seq (.reg Qyc [6])
 (.cond (.t 5)
 .skip
 (.reg Qyb [7])))
 (.cond (.t 5)
 (.reg Qya [8])
 (.seq (.reg Qx9 [10])
 (.cond (.t 9)
 (.reg Qx8 [11, 12, 13])
 (.seq (.reg Qx7 [15])
 (.cond (.t 14)
 (.reg Qx6 [16, 17, 18])
 .skip))))))))
 (.seq (.reg Qx5 [19])
 (.seq (.reg Qte [20])
 .ret))))⟩
abbrev QkA : Nat := 100
/- strconv.FormatInt -/
def zq2q_0 : AT := (zr 4 (.mov (.c (.str [])))
 .done)
def zq2q_1 : AT := (zm 5 0
 (zm 6 1
 (zk 7 124 [.t 5, .t 6]
 (zm 4 7
 .done))))
def Z2 : AF := ⟨8, [.tmp 4],
 (.seq (.reg zq2q_0 [])
 (.seq (.reg zq2q_1 [5, 6, 7])
 .ret))⟩
abbrev Y9 : Nat := 101
/- strconv.Itoa -/
def zq2r_0 : AT := (zr 2 (.mov (.c (.str [])))
 .done)
def zq2r_1 : AT := (zm 3 0
 (zk 4 125 [.t 3]
 (zm 2 4
 .done)))
def strconv_Itoa : AF := ⟨5, [.tmp 2],
 (.seq (.reg zq2r_0 [])
 (.seq (.reg zq2r_1 [3, 4])
 .ret))⟩
abbrev Qcs : Nat := 102
/- proofmark/term.sign -/
def Qx4 : AT := (zr 2 (.mov (.c (.str [])))
 .done)
def Qx3 : AT := (zr 3 (.build (List.replicate 17 [(.str [])]).flatten [(0, 1, (.c (.str []))), (1, 1, (.c (.str [43]))), (2, 1, (.c (.str [45]))), (3, 1, (.c (.str [42]))), (4, 1, (.c (.str [47]))), (5, 1, (.c (.str [37]))), (6, 1, (.c (.str [47, 117]))), (7, 1, (.c (.str [37, 117]))), (8, 1, (.c (.str [38]))), (9, 1, (.c (.str [124]))), (10, 1, (.c (.str [94]))), (11, 1, (.c (.str [60, 60]))), (12, 1, (.c (.str [62, 62, 117]))), (13, 1, (.c (.str [62, 62]))), (14, 1, (.c (.str [60]))), (15, 1, (.c (.str [60, 117]))), (16, 1, (.c (.str [61, 61])))])
 (zm 4 0
 (zr 5 (.aidx false 1 17 (.t 3) (.t 4))
 (zm 2 5
 .done))))
def QeB : AF := ⟨6, [.tmp 2],
 (.seq (.reg Qx4 [])
 (.seq (.reg Qx3 [3, 4, 5])
 .ret))⟩
abbrev Qkz : Nat := 103
abbrev Qf3 : Nat := 104
abbrev Qnd : Nat := 105
abbrev QnT : Nat := 106
abbrev QdZ : Nat := 107
abbrev QgR : Nat := 108
/- slices.IndexFunc[[]proofmark/image.Sym,proofmark/image.Sym] -/
def zq2y_0 : AT := (zr 4 (.mov (zi 0))
 .done)
def zq2y_1 : AT := (zm 6 0
 (zr 7 (.len 0 (.t 6))
 (zr 8 (.mov (zi 0))
 .done)))
def zq2y_2 : AT := (zr 9 (.bin .lss (.t 8) (.t 7))
 .done)
def zq2y_3 : AT := (zm 10 8
 (zm 5 10
 .done))
def zq2y_4 : AT := (zm 11 1
 (zm 12 0
 (zm 13 5
 (zr 14 (.iaddr none 2 (.t 12) (.t 13))
 (zr 15 (.load true 2 (.t 14))
 (.cl false (some 16) none (.t 11) [(.t 15)]
 .done))))))
def zq2y_5 : AT := (zm 17 5
 (zm 4 17
 .done))
def zq2y_6 : AT := (zr 18 (.bin .add (.t 8) (zi 1))
 (zm 8 18
 .done))
def zq2y_7 : AT := (zr 4 (.mov (.c (.int .i64 (-1))))
 .done)
def QQ : AF := ⟨19, [.tmp 4],
 (.seq (.reg zq2y_0 [])
 (.seq (.seq (.reg zq2y_1 [6])
 (.block 0 (.loop (.seq (.reg zq2y_2 [])
 (.seq (.cond (.t 9)
 .skip
 (.exit 0))
 (.seq (.block 1 (.seq (.reg zq2y_3 [10])
 (.seq (.reg zq2y_4 [11, 12, 13, 14, 15])
 (.cond (.t 16)
 (.seq (.reg zq2y_5 [17])
 .ret)
 .skip))))
 (.reg zq2y_6 [18])))))))
 (.seq (.reg zq2y_7 [])
 .ret)))⟩
abbrev YI : Nat := 109
/- slices.IndexFunc[[]func() bool,func() bool] -/
def zq2z_0 : AT := (zr 4 (.mov (zi 0))
 .done)
def zq2z_1 : AT := (zm 6 0
 (zr 7 (.len 0 (.t 6))
 (zr 8 (.mov (zi 0))
 .done)))
def zq2z_2 : AT := (zr 9 (.bin .lss (.t 8) (.t 7))
 .done)
def zq2z_3 : AT := (zm 10 8
 (zm 5 10
 .done))
def zq2z_4 : AT := (zm 11 1
 (zm 12 0
 (zm 13 5
 (zr 14 (.iaddr none 1 (.t 12) (.t 13))
 (zr 15 (.load false 1 (.t 14))
 (.cl false (some 16) none (.t 11) [(.t 15)]
 .done))))))
def zq2z_5 : AT := (zm 17 5
 (zm 4 17
 .done))
def zq2z_6 : AT := (zr 18 (.bin .add (.t 8) (zi 1))
 (zm 8 18
 .done))
def zq2z_7 : AT := (zr 4 (.mov (.c (.int .i64 (-1))))
 .done)
def QR : AF := ⟨19, [.tmp 4],
 (.seq (.reg zq2z_0 [])
 (.seq (.seq (.reg zq2z_1 [6])
 (.block 0 (.loop (.seq (.reg zq2z_2 [])
 (.seq (.cond (.t 9)
 .skip
 (.exit 0))
 (.seq (.block 1 (.seq (.reg zq2z_3 [10])
 (.seq (.reg zq2z_4 [11, 12, 13, 14, 15])
 (.cond (.t 16)
 (.seq (.reg zq2z_5 [17])
 .ret)
 .skip))))
 (.reg zq2z_6 [18])))))))
 (.seq (.reg zq2z_7 [])
 .ret)))⟩
abbrev YJ : Nat := 110
/- proofmark/rv.table -/
def zq30_0 : AT := (.wr false (some 0) none (.new 195 (List.replicate 66 [(.bool false), (.bool false), (.bool false), (.lst 0 [] true), (.int .i64 0), (.bool false), (.int .u32 0), (.str []), (.int .u32 0)]).flatten)
 .done)
def zq30_1 : AT := (zr 10 (.build [(.bool false), (.bool false), (.bool false), (.lst 0 [] true), (.int .i64 0), (.bool false), (.int .u32 0)] [(0, 1, (.c (.bool true))), (1, 1, (.c (.bool true))), (2, 1, (.c (.bool true))), (3, 1, (.c (.lst 0 [] true))), (4, 1, (zi 0)), (5, 1, (.c (.bool false))), (6, 1, (.c (.int .u32 4261441663)))])
 (.wr false (some 1) none (.new 173 [(.bool false), (.bool false), (.bool false), (.lst 0 [] true), (.int .i64 0), (.bool false), (.int .u32 0)])
 (.wr false none none (.store 7 (.t 1) (.t 10))
 .done)))
def zq30_2 : AT := (zr 11 (.build [(.int .i64 0), (.int .i64 0)] [(0, 1, (zi 20)), (1, 1, (zi 12))])
 (.wr false (some 12) none (.bsl false true 181 2 [(.int .i64 0), (.int .i64 0)] 1 [(0, 2, (.t 11))])
 (zr 13 (.build [(.bool false), (.bool false), (.bool false), (.lst 0 [] true), (.int .i64 0), (.bool false), (.int .u32 0)] [(0, 1, (.c (.bool true))), (1, 1, (.c (.bool true))), (2, 1, (.c (.bool false))), (3, 1, (.t 12)), (4, 1, (zi 0)), (5, 1, (.c (.bool true))), (6, 1, (.c (.int .u32 28799)))])
 (.wr false (some 2) none (.new 173 [(.bool false), (.bool false), (.bool false), (.lst 0 [] true), (.int .i64 0), (.bool false), (.int .u32 0)])
 (.wr false none none (.store 7 (.t 2) (.t 13))
 .done)))))
def zq30_3 : AT := (zr 14 (.build [(.int .i64 0), (.int .i64 0)] [(0, 1, (zi 20)), (1, 1, (zi 6))])
 (.wr false (some 15) none (.bsl false true 181 2 [(.int .i64 0), (.int .i64 0)] 1 [(0, 2, (.t 14))])
 (zr 16 (.build [(.bool false), (.bool false), (.bool false), (.lst 0 [] true), (.int .i64 0), (.bool false), (.int .u32 0)] [(0, 1, (.c (.bool true))), (1, 1, (.c (.bool true))), (2, 1, (.c (.bool false))), (3, 1, (.t 15)), (4, 1, (zi 0)), (5, 1, (.c (.bool false))), (6, 1, (.c (.int .u32 4227887231)))])
 (.wr false (some 3) none (.new 173 [(.bool false), (.bool false), (.bool false), (.lst 0 [] true), (.int .i64 0), (.bool false), (.int .u32 0)])
 (.wr false none none (.store 7 (.t 3) (.t 16))
 .done)))))
def zq30_4 : AT := (zr 17 (.build [(.int .i64 0), (.int .i64 0)] [(0, 1, (zi 20)), (1, 1, (zi 5))])
 (.wr false (some 18) none (.bsl false true 181 2 [(.int .i64 0), (.int .i64 0)] 1 [(0, 2, (.t 17))])
 (zr 19 (.build [(.bool false), (.bool false), (.bool false), (.lst 0 [] true), (.int .i64 0), (.bool false), (.int .u32 0)] [(0, 1, (.c (.bool true))), (1, 1, (.c (.bool true))), (2, 1, (.c (.bool false))), (3, 1, (.t 18)), (4, 1, (zi 0)), (5, 1, (.c (.bool false))), (6, 1, (.c (.int .u32 4261441663)))])
 (.wr false (some 4) none (.new 173 [(.bool false), (.bool false), (.bool false), (.lst 0 [] true), (.int .i64 0), (.bool false), (.int .u32 0)])
 (.wr false none none (.store 7 (.t 4) (.t 19))
 .done)))))
def zq30_5 : AT := (zr 20 (.build [(.int .i64 0), (.int .i64 0)] [(0, 1, (zi 25)), (1, 1, (zi 7))])
 (zr 21 (.build [(.int .i64 0), (.int .i64 0)] [(0, 1, (zi 7)), (1, 1, (zi 5))])
 (.wr false (some 22) none (.bsl false true 181 2 [(.int .i64 0), (.int .i64 0)] 2 [(0, 2, (.t 20)), (2, 2, (.t 21))])
 (zr 23 (.build [(.bool false), (.bool false), (.bool false), (.lst 0 [] true), (.int .i64 0), (.bool false), (.int .u32 0)] [(0, 1, (.c (.bool false))), (1, 1, (.c (.bool true))), (2, 1, (.c (.bool true))), (3, 1, (.t 22)), (4, 1, (zi 0)), (5, 1, (.c (.bool true))), (6, 1, (.c (.int .u32 28799)))])
 (.wr false (some 5) none (.new 173 [(.bool false), (.bool false), (.bool false), (.lst 0 [] true), (.int .i64 0), (.bool false), (.int .u32 0)])
 (.wr false none none (.store 7 (.t 5) (.t 23))
 .done))))))
def zq30_6 : AT := (zr 24 (.build [(.int .i64 0), (.int .i64 0)] [(0, 1, (zi 31)), (1, 1, (zi 1))])
 (zr 25 (.build [(.int .i64 0), (.int .i64 0)] [(0, 1, (zi 7)), (1, 1, (zi 1))])
 (zr 26 (.build [(.int .i64 0), (.int .i64 0)] [(0, 1, (zi 25)), (1, 1, (zi 6))])
 (zr 27 (.build [(.int .i64 0), (.int .i64 0)] [(0, 1, (zi 8)), (1, 1, (zi 4))])
 (.wr false (some 28) none (.bsl false true 181 2 [(.int .i64 0), (.int .i64 0)] 4 [(0, 2, (.t 24)), (2, 2, (.t 25)), (4, 2, (.t 26)), (6, 2, (.t 27))])
 (zr 29 (.build [(.bool false), (.bool false), (.bool false), (.lst 0 [] true), (.int .i64 0), (.bool false), (.int .u32 0)] [(0, 1, (.c (.bool false))), (1, 1, (.c (.bool true))), (2, 1, (.c (.bool true))), (3, 1, (.t 28)), (4, 1, (zi 1)), (5, 1, (.c (.bool true))), (6, 1, (.c (.int .u32 28799)))])
 (.wr false (some 6) none (.new 173 [(.bool false), (.bool false), (.bool false), (.lst 0 [] true), (.int .i64 0), (.bool false), (.int .u32 0)])
 (.wr false none none (.store 7 (.t 6) (.t 29))
 .done))))))))
def zq30_7 : AT := (zr 30 (.build [(.int .i64 0), (.int .i64 0)] [(0, 1, (zi 12)), (1, 1, (zi 20))])
 (.wr false (some 31) none (.bsl false true 181 2 [(.int .i64 0), (.int .i64 0)] 1 [(0, 2, (.t 30))])
 (zr 32 (.build [(.bool false), (.bool false), (.bool false), (.lst 0 [] true), (.int .i64 0), (.bool false), (.int .u32 0)] [(0, 1, (.c (.bool true))), (1, 1, (.c (.bool false))), (2, 1, (.c (.bool false))), (3, 1, (.t 31)), (4, 1, (zi 12)), (5, 1, (.c (.bool true))), (6, 1, (.c (.int .u32 127)))])
 (.wr false (some 7) none (.new 173 [(.bool false), (.bool false), (.bool false), (.lst 0 [] true), (.int .i64 0), (.bool false), (.int .u32 0)])
 (.wr false none none (.store 7 (.t 7) (.t 32))
 .done)))))
def zq30_8 : AT := (zr 33 (.build [(.int .i64 0), (.int .i64 0)] [(0, 1, (zi 31)), (1, 1, (zi 1))])
 (zr 34 (.build [(.int .i64 0), (.int .i64 0)] [(0, 1, (zi 12)), (1, 1, (zi 8))])
 (zr 35 (.build [(.int .i64 0), (.int .i64 0)] [(0, 1, (zi 20)), (1, 1, (zi 1))])
 (zr 36 (.build [(.int .i64 0), (.int .i64 0)] [(0, 1, (zi 21)), (1, 1, (zi 10))])
 (.wr false (some 37) none (.bsl false true 181 2 [(.int .i64 0), (.int .i64 0)] 4 [(0, 2, (.t 33)), (2, 2, (.t 34)), (4, 2, (.t 35)), (6, 2, (.t 36))])
 (zr 38 (.build [(.bool false), (.bool false), (.bool false), (.lst 0 [] true), (.int .i64 0), (.bool false), (.int .u32 0)] [(0, 1, (.c (.bool true))), (1, 1, (.c (.bool false))), (2, 1, (.c (.bool false))), (3, 1, (.t 37)), (4, 1, (zi 1)), (5, 1, (.c (.bool true))), (6, 1, (.c (.int .u32 127)))])
 (.wr false (some 8) none (.new 173 [(.bool false), (.bool false), (.bool false), (.lst 0 [] true), (.int .i64 0), (.bool false), (.int .u32 0)])
 (.wr false none none (.store 7 (.t 8) (.t 38))
 .done))))))))
def zq30_9 : AT := (zr 39 (.build [(.bool false), (.bool false), (.bool false), (.lst 0 [] true), (.int .i64 0), (.bool false), (.int .u32 0)] [(6, 1, (.c (.int .u32 4294967295)))])
 (.wr false (some 9) none (.new 173 [(.bool false), (.bool false), (.bool false), (.lst 0 [] true), (.int .i64 0), (.bool false), (.int .u32 0)])
 (.wr false none none (.store 7 (.t 9) (.t 39))
 .done)))
def QBX : AT := (zr 40 (.load true 7 (.t 7))
 (zr 42 (.load true 7 (.t 7))
 (zr 44 (.load true 7 (.t 8))
 (zr 46 (.load true 7 (.t 2))
 (zr 48 (.load true 7 (.t 6))
 (zr 50 (.load true 7 (.t 6))
 (zr 52 (.load true 7 (.t 6))
 (zr 54 (.load true 7 (.t 6))
 (zr 56 (.load true 7 (.t 6))
 (zr 58 (.load true 7 (.t 6))
 (zr 60 (.load true 7 (.t 2))
 (zr 62 (.load true 7 (.t 2))
 (zr 64 (.load true 7 (.t 2))
 (zr 66 (.load true 7 (.t 2))
 (zr 68 (.load true 7 (.t 2))
 (zr 70 (.load true 7 (.t 2))
 (zr 72 (.load true 7 (.t 2))
 (zr 74 (.load true 7 (.t 5))
 (zr 76 (.load true 7 (.t 5))
 (zr 78 (.load true 7 (.t 5))
 (zr 80 (.load true 7 (.t 5))
 (zr 82 (.load true 7 (.t 2))
 (zr 84 (.load true 7 (.t 2))
 (zr 86 (.load true 7 (.t 2))
 (zr 88 (.load true 7 (.t 2))
 (zr 90 (.load true 7 (.t 2))
 (zr 92 (.load true 7 (.t 2))
 (zr 94 (.load true 7 (.t 3))
 (zr 96 (.load true 7 (.t 3))
 (zr 98 (.load true 7 (.t 3))
 (zr 100 (.load true 7 (.t 1))
 (zr 102 (.load true 7 (.t 1))
 (zr 104 (.load true 7 (.t 1))
 (zr 106 (.load true 7 (.t 1))
 (zr 108 (.load true 7 (.t 1))
 (zr 110 (.load true 7 (.t 1))
 (zr 112 (.load true 7 (.t 1))
 (zr 114 (.load true 7 (.t 1))
 (zr 116 (.load true 7 (.t 1))
 (zr 118 (.load true 7 (.t 1))
 (zr 120 (.load true 7 (.t 2))
 (zr 122 (.load true 7 (.t 4))
 (zr 124 (.load true 7 (.t 4))
 (zr 126 (.load true 7 (.t 4))
 (zr 128 (.load true 7 (.t 1))
 (zr 130 (.load true 7 (.t 1))
 (zr 132 (.load true 7 (.t 1))
 (zr 134 (.load true 7 (.t 1))
 (zr 136 (.load true 7 (.t 1))
 (zr 138 (.load true 7 (.t 1))
 (zr 140 (.load true 7 (.t 1))
 (zr 142 (.load true 7 (.t 1))
 (zr 144 (.load true 7 (.t 1))
 (zr 146 (.load true 7 (.t 1))
 (zr 148 (.load true 7 (.t 1))
 (zr 150 (.load true 7 (.t 1))
 (zr 152 (.load true 7 (.t 1))
 (zr 154 (.load true 7 (.t 1))
 (zr 156 (.load true 7 (.t 1))
 (zr 158 (.load true 7 (.t 1))
 (zr 160 (.load true 7 (.t 1))
 (zr 162 (.load true 7 (.t 1))
 (zr 164 (.load true 7 (.t 2))
 (zr 166 (.load true 7 (.t 9))
 (zr 168 (.load true 7 (.t 9))
 (.cl true (some 41) none (.c (.fn (.func 127) [] [])) [(.t 40), (.c (.str [108, 117, 105])), (.c (.int .u32 55)), (.c (.int .u32 0)), (.c (.int .u32 0))]
 (.cl true (some 43) none (.c (.fn (.func 127) [] [])) [(.t 42), (.c (.str [97, 117, 105, 112, 99])), (.c (.int .u32 23)), (.c (.int .u32 0)), (.c (.int .u32 0))]
 (.cl true (some 45) none (.c (.fn (.func 127) [] [])) [(.t 44), (.c (.str [106, 97, 108])), (.c (.int .u32 111)), (.c (.int .u32 0)), (.c (.int .u32 0))]
 (.cl true (some 47) none (.c (.fn (.func 127) [] [])) [(.t 46), (.c (.str [106, 97, 108, 114])), (.c (.int .u32 103)), (.c (.int .u32 0)), (.c (.int .u32 0))]
 (.cl true (some 49) none (.c (.fn (.func 127) [] [])) [(.t 48), (.c (.str [98, 101, 113])), (.c (.int .u32 99)), (.c (.int .u32 0)), (.c (.int .u32 0))]
 (.cl true (some 51) none (.c (.fn (.func 127) [] [])) [(.t 50), (.c (.str [98, 110, 101])), (.c (.int .u32 99)), (.c (.int .u32 1)), (.c (.int .u32 0))]
 (.cl true (some 53) none (.c (.fn (.func 127) [] [])) [(.t 52), (.c (.str [98, 108, 116])), (.c (.int .u32 99)), (.c (.int .u32 4)), (.c (.int .u32 0))]
 (.cl true (some 55) none (.c (.fn (.func 127) [] [])) [(.t 54), (.c (.str [98, 103, 101])), (.c (.int .u32 99)), (.c (.int .u32 5)), (.c (.int .u32 0))]
 (.cl true (some 57) none (.c (.fn (.func 127) [] [])) [(.t 56), (.c (.str [98, 108, 116, 117])), (.c (.int .u32 99)), (.c (.int .u32 6)), (.c (.int .u32 0))]
 (.cl true (some 59) none (.c (.fn (.func 127) [] [])) [(.t 58), (.c (.str [98, 103, 101, 117])), (.c (.int .u32 99)), (.c (.int .u32 7)), (.c (.int .u32 0))]
 (.cl true (some 61) none (.c (.fn (.func 127) [] [])) [(.t 60), (.c (.str [108, 98])), (.c (.int .u32 3)), (.c (.int .u32 0)), (.c (.int .u32 0))]
 (.cl true (some 63) none (.c (.fn (.func 127) [] [])) [(.t 62), (.c (.str [108, 104])), (.c (.int .u32 3)), (.c (.int .u32 1)), (.c (.int .u32 0))]
 (.cl true (some 65) none (.c (.fn (.func 127) [] [])) [(.t 64), (.c (.str [108, 119])), (.c (.int .u32 3)), (.c (.int .u32 2)), (.c (.int .u32 0))]
 (.cl true (some 67) none (.c (.fn (.func 127) [] [])) [(.t 66), (.c (.str [108, 100])), (.c (.int .u32 3)), (.c (.int .u32 3)), (.c (.int .u32 0))]
 (.cl true (some 69) none (.c (.fn (.func 127) [] [])) [(.t 68), (.c (.str [108, 98, 117])), (.c (.int .u32 3)), (.c (.int .u32 4)), (.c (.int .u32 0))]
 (.cl true (some 71) none (.c (.fn (.func 127) [] [])) [(.t 70), (.c (.str [108, 104, 117])), (.c (.int .u32 3)), (.c (.int .u32 5)), (.c (.int .u32 0))]
 (.cl true (some 73) none (.c (.fn (.func 127) [] [])) [(.t 72), (.c (.str [108, 119, 117])), (.c (.int .u32 3)), (.c (.int .u32 6)), (.c (.int .u32 0))]
 (.cl true (some 75) none (.c (.fn (.func 127) [] [])) [(.t 74), (.c (.str [115, 98])), (.c (.int .u32 35)), (.c (.int .u32 0)), (.c (.int .u32 0))]
 (.cl true (some 77) none (.c (.fn (.func 127) [] [])) [(.t 76), (.c (.str [115, 104])), (.c (.int .u32 35)), (.c (.int .u32 1)), (.c (.int .u32 0))]
 (.cl true (some 79) none (.c (.fn (.func 127) [] [])) [(.t 78), (.c (.str [115, 119])), (.c (.int .u32 35)), (.c (.int .u32 2)), (.c (.int .u32 0))]
 (.cl true (some 81) none (.c (.fn (.func 127) [] [])) [(.t 80), (.c (.str [115, 100])), (.c (.int .u32 35)), (.c (.int .u32 3)), (.c (.int .u32 0))]
 (.cl true (some 83) none (.c (.fn (.func 127) [] [])) [(.t 82), (.c (.str [97, 100, 100, 105])), (.c (.int .u32 19)), (.c (.int .u32 0)), (.c (.int .u32 0))]
 (.cl true (some 85) none (.c (.fn (.func 127) [] [])) [(.t 84), (.c (.str [115, 108, 116, 105])), (.c (.int .u32 19)), (.c (.int .u32 2)), (.c (.int .u32 0))]
 (.cl true (some 87) none (.c (.fn (.func 127) [] [])) [(.t 86), (.c (.str [115, 108, 116, 105, 117])), (.c (.int .u32 19)), (.c (.int .u32 3)), (.c (.int .u32 0))]
 (.cl true (some 89) none (.c (.fn (.func 127) [] [])) [(.t 88), (.c (.str [120, 111, 114, 105])), (.c (.int .u32 19)), (.c (.int .u32 4)), (.c (.int .u32 0))]
 (.cl true (some 91) none (.c (.fn (.func 127) [] [])) [(.t 90), (.c (.str [111, 114, 105])), (.c (.int .u32 19)), (.c (.int .u32 6)), (.c (.int .u32 0))]
 (.cl true (some 93) none (.c (.fn (.func 127) [] [])) [(.t 92), (.c (.str [97, 110, 100, 105])), (.c (.int .u32 19)), (.c (.int .u32 7)), (.c (.int .u32 0))]
 (.cl true (some 95) none (.c (.fn (.func 127) [] [])) [(.t 94), (.c (.str [115, 108, 108, 105])), (.c (.int .u32 19)), (.c (.int .u32 1)), (.c (.int .u32 0))]
 (.cl true (some 97) none (.c (.fn (.func 127) [] [])) [(.t 96), (.c (.str [115, 114, 108, 105])), (.c (.int .u32 19)), (.c (.int .u32 5)), (.c (.int .u32 0))]
 (.cl true (some 99) none (.c (.fn (.func 127) [] [])) [(.t 98), (.c (.str [115, 114, 97, 105])), (.c (.int .u32 19)), (.c (.int .u32 5)), (.c (.int .u32 32))]
 (.cl true (some 101) none (.c (.fn (.func 127) [] [])) [(.t 100), (.c (.str [97, 100, 100])), (.c (.int .u32 51)), (.c (.int .u32 0)), (.c (.int .u32 0))]
 (.cl true (some 103) none (.c (.fn (.func 127) [] [])) [(.t 102), (.c (.str [115, 117, 98])), (.c (.int .u32 51)), (.c (.int .u32 0)), (.c (.int .u32 32))]
 (.cl true (some 105) none (.c (.fn (.func 127) [] [])) [(.t 104), (.c (.str [115, 108, 108])), (.c (.int .u32 51)), (.c (.int .u32 1)), (.c (.int .u32 0))]
 (.cl true (some 107) none (.c (.fn (.func 127) [] [])) [(.t 106), (.c (.str [115, 108, 116])), (.c (.int .u32 51)), (.c (.int .u32 2)), (.c (.int .u32 0))]
 (.cl true (some 109) none (.c (.fn (.func 127) [] [])) [(.t 108), (.c (.str [115, 108, 116, 117])), (.c (.int .u32 51)), (.c (.int .u32 3)), (.c (.int .u32 0))]
 (.cl true (some 111) none (.c (.fn (.func 127) [] [])) [(.t 110), (.c (.str [120, 111, 114])), (.c (.int .u32 51)), (.c (.int .u32 4)), (.c (.int .u32 0))]
 (.cl true (some 113) none (.c (.fn (.func 127) [] [])) [(.t 112), (.c (.str [115, 114, 108])), (.c (.int .u32 51)), (.c (.int .u32 5)), (.c (.int .u32 0))]
 (.cl true (some 115) none (.c (.fn (.func 127) [] [])) [(.t 114), (.c (.str [115, 114, 97])), (.c (.int .u32 51)), (.c (.int .u32 5)), (.c (.int .u32 32))]
 (.cl true (some 117) none (.c (.fn (.func 127) [] [])) [(.t 116), (.c (.str [111, 114])), (.c (.int .u32 51)), (.c (.int .u32 6)), (.c (.int .u32 0))]
 (.cl true (some 119) none (.c (.fn (.func 127) [] [])) [(.t 118), (.c (.str [97, 110, 100])), (.c (.int .u32 51)), (.c (.int .u32 7)), (.c (.int .u32 0))]
 (.cl true (some 121) none (.c (.fn (.func 127) [] [])) [(.t 120), (.c (.str [97, 100, 100, 105, 119])), (.c (.int .u32 27)), (.c (.int .u32 0)), (.c (.int .u32 0))]
 (.cl true (some 123) none (.c (.fn (.func 127) [] [])) [(.t 122), (.c (.str [115, 108, 108, 105, 119])), (.c (.int .u32 27)), (.c (.int .u32 1)), (.c (.int .u32 0))]
 (.cl true (some 125) none (.c (.fn (.func 127) [] [])) [(.t 124), (.c (.str [115, 114, 108, 105, 119])), (.c (.int .u32 27)), (.c (.int .u32 5)), (.c (.int .u32 0))]
 (.cl true (some 127) none (.c (.fn (.func 127) [] [])) [(.t 126), (.c (.str [115, 114, 97, 105, 119])), (.c (.int .u32 27)), (.c (.int .u32 5)), (.c (.int .u32 32))]
 (.cl true (some 129) none (.c (.fn (.func 127) [] [])) [(.t 128), (.c (.str [97, 100, 100, 119])), (.c (.int .u32 59)), (.c (.int .u32 0)), (.c (.int .u32 0))]
 (.cl true (some 131) none (.c (.fn (.func 127) [] [])) [(.t 130), (.c (.str [115, 117, 98, 119])), (.c (.int .u32 59)), (.c (.int .u32 0)), (.c (.int .u32 32))]
 (.cl true (some 133) none (.c (.fn (.func 127) [] [])) [(.t 132), (.c (.str [115, 108, 108, 119])), (.c (.int .u32 59)), (.c (.int .u32 1)), (.c (.int .u32 0))]
 (.cl true (some 135) none (.c (.fn (.func 127) [] [])) [(.t 134), (.c (.str [115, 114, 108, 119])), (.c (.int .u32 59)), (.c (.int .u32 5)), (.c (.int .u32 0))]
 (.cl true (some 137) none (.c (.fn (.func 127) [] [])) [(.t 136), (.c (.str [115, 114, 97, 119])), (.c (.int .u32 59)), (.c (.int .u32 5)), (.c (.int .u32 32))]
 (.cl true (some 139) none (.c (.fn (.func 127) [] [])) [(.t 138), (.c (.str [109, 117, 108])), (.c (.int .u32 51)), (.c (.int .u32 0)), (.c (.int .u32 1))]
 (.cl true (some 141) none (.c (.fn (.func 127) [] [])) [(.t 140), (.c (.str [109, 117, 108, 104])), (.c (.int .u32 51)), (.c (.int .u32 1)), (.c (.int .u32 1))]
 (.cl true (some 143) none (.c (.fn (.func 127) [] [])) [(.t 142), (.c (.str [109, 117, 108, 104, 115, 117])), (.c (.int .u32 51)), (.c (.int .u32 2)), (.c (.int .u32 1))]
 (.cl true (some 145) none (.c (.fn (.func 127) [] [])) [(.t 144), (.c (.str [109, 117, 108, 104, 117])), (.c (.int .u32 51)), (.c (.int .u32 3)), (.c (.int .u32 1))]
 (.cl true (some 147) none (.c (.fn (.func 127) [] [])) [(.t 146), (.c (.str [100, 105, 118])), (.c (.int .u32 51)), (.c (.int .u32 4)), (.c (.int .u32 1))]
 (.cl true (some 149) none (.c (.fn (.func 127) [] [])) [(.t 148), (.c (.str [100, 105, 118, 117])), (.c (.int .u32 51)), (.c (.int .u32 5)), (.c (.int .u32 1))]
 (.cl true (some 151) none (.c (.fn (.func 127) [] [])) [(.t 150), (.c (.str [114, 101, 109])), (.c (.int .u32 51)), (.c (.int .u32 6)), (.c (.int .u32 1))]
 (.cl true (some 153) none (.c (.fn (.func 127) [] [])) [(.t 152), (.c (.str [114, 101, 109, 117])), (.c (.int .u32 51)), (.c (.int .u32 7)), (.c (.int .u32 1))]
 (.cl true (some 155) none (.c (.fn (.func 127) [] [])) [(.t 154), (.c (.str [109, 117, 108, 119])), (.c (.int .u32 59)), (.c (.int .u32 0)), (.c (.int .u32 1))]
 (.cl true (some 157) none (.c (.fn (.func 127) [] [])) [(.t 156), (.c (.str [100, 105, 118, 119])), (.c (.int .u32 59)), (.c (.int .u32 4)), (.c (.int .u32 1))]
 (.cl true (some 159) none (.c (.fn (.func 127) [] [])) [(.t 158), (.c (.str [100, 105, 118, 117, 119])), (.c (.int .u32 59)), (.c (.int .u32 5)), (.c (.int .u32 1))]
 (.cl true (some 161) none (.c (.fn (.func 127) [] [])) [(.t 160), (.c (.str [114, 101, 109, 119])), (.c (.int .u32 59)), (.c (.int .u32 6)), (.c (.int .u32 1))]
 (.cl true (some 163) none (.c (.fn (.func 127) [] [])) [(.t 162), (.c (.str [114, 101, 109, 117, 119])), (.c (.int .u32 59)), (.c (.int .u32 7)), (.c (.int .u32 1))]
 (.cl true (some 165) none (.c (.fn (.func 127) [] [])) [(.t 164), (.c (.str [102, 101, 110, 99, 101])), (.c (.int .u32 15)), (.c (.int .u32 0)), (.c (.int .u32 0))]
 (.cl true (some 167) none (.c (.fn (.func 127) [] [])) [(.t 166), (.c (.str [101, 99, 97, 108, 108])), (.c (.int .u32 115)), (.c (.int .u32 0)), (.c (.int .u32 0))]
 (zk 169 127 [.t 168, (.c (.str [101, 98, 114, 101, 97, 107])), (.c (.int .u32 1048691)), (.c (.int .u32 0)), (.c (.int .u32 0))]
 (zr 170 (.build (List.replicate 66 [(.bool false), (.bool false), (.bool false), (.lst 0 [] true), (.int .i64 0), (.bool false), (.int .u32 0), (.str []), (.int .u32 0)]).flatten [(9, 9, (.t 41)), (18, 9, (.t 43)), (27, 9, (.t 45)), (36, 9, (.t 47)), (45, 9, (.t 49)), (54, 9, (.t 51)), (63, 9, (.t 53)), (72, 9, (.t 55)), (81, 9, (.t 57)), (90, 9, (.t 59)), (99, 9, (.t 61)), (108, 9, (.t 63)), (117, 9, (.t 65)), (126, 9, (.t 67)), (135, 9, (.t 69)), (144, 9, (.t 71)), (153, 9, (.t 73)), (162, 9, (.t 75)), (171, 9, (.t 77)), (180, 9, (.t 79)), (189, 9, (.t 81)), (198, 9, (.t 83)), (207, 9, (.t 85)), (216, 9, (.t 87)), (225, 9, (.t 89)), (234, 9, (.t 91)), (243, 9, (.t 93)), (252, 9, (.t 95)), (261, 9, (.t 97)), (270, 9, (.t 99)), (279, 9, (.t 101)), (288, 9, (.t 103)), (297, 9, (.t 105)), (306, 9, (.t 107)), (315, 9, (.t 109)), (324, 9, (.t 111)), (333, 9, (.t 113)), (342, 9, (.t 115)), (351, 9, (.t 117)), (360, 9, (.t 119)), (369, 9, (.t 121)), (378, 9, (.t 123)), (387, 9, (.t 125)), (396, 9, (.t 127)), (405, 9, (.t 129)), (414, 9, (.t 131)), (423, 9, (.t 133)), (432, 9, (.t 135)), (441, 9, (.t 137)), (450, 9, (.t 139)), (459, 9, (.t 141)), (468, 9, (.t 143)), (477, 9, (.t 145)), (486, 9, (.t 147)), (495, 9, (.t 149)), (504, 9, (.t 151)), (513, 9, (.t 153)), (522, 9, (.t 155)), (531, 9, (.t 157)), (540, 9, (.t 159)), (549, 9, (.t 161)), (558, 9, (.t 163)), (567, 9, (.t 165)), (576, 9, (.t 167)), (585, 9, (.t 169))])
 (.wr false none none (.store 594 (.t 0) (.t 170))
 .done))))))))))))))))))))))))))))))))))))))))))))))))))))))))))))))))))))))))))))))))))))))))))))))))))))))))))))))))))))))))))))))))))))
def Qm6 : AF := ⟨171, [.cell 0 true 594],
 (.seq (.reg zq30_0 [])
 (.seq (.reg zq30_1 [10])
 (.seq (.reg zq30_2 [11, 12, 13])
 (.seq (.reg zq30_3 [14, 15, 16])
 (.seq (.reg zq30_4 [17, 18, 19])
 (.seq (.reg zq30_5 [20, 21, 22, 23])
 (.seq (.reg zq30_6 [24, 25, 26, 27, 28, 29])
 (.seq (.reg zq30_7 [30, 31, 32])
 (.seq (.reg zq30_8 [33, 34, 35, 36, 37, 38])
 (.seq (.reg zq30_9 [39])
 (.seq (.reg QBX [40, 41, 42, 43, 44, 45, 46, 47, 48, 49, 50, 51, 52, 53, 54, 55, 56, 57, 58, 59, 60, 61, 62, 63, 64, 65, 66, 67, 68, 69, 70, 71, 72, 73, 74, 75, 76, 77, 78, 79, 80, 81, 82, 83, 84, 85, 86, 87, 88, 89, 90, 91, 92, 93, 94, 95, 96, 97, 98, 99, 100, 101, 102, 103, 104, 105, 106, 107, 108, 109, 110, 111, 112, 113, 114, 115, 116, 117, 118, 119, 120, 121, 122, 123, 124, 125, 126, 127, 128, 129, 130, 131, 132, 133, 134, 135, 136, 137, 138, 139, 140, 141, 142, 143, 144, 145, 146, 147, 148, 149, 150, 151, 152, 153, 154, 155, 156, 157, 158, 159, 160, 161, 162, 163, 164, 165, 166, 167, 168, 169, 170])
 .ret)))))))))))⟩
abbrev QmD : Nat := 111
/- slices.IndexFunc[[]proofmark/rv.row,proofmark/rv.row] -/
def Qx2 : AT := (zr 4 (.mov (zi 0))
 .done)
def Qx1 : AT := (zm 6 0
 (zr 7 (.len 0 (.t 6))
 (zr 8 (.mov (zi 0))
 .done)))
def Qx0 : AT := (zr 9 (.bin .lss (.t 8) (.t 7))
 .done)
def QxZ : AT := (zm 10 8
 (zm 5 10
 .done))
def QxY : AT := (zm 11 1
 (zm 12 0
 (zm 13 5
 (zr 14 (.iaddr none 9 (.t 12) (.t 13))
 (zr 15 (.load true 9 (.t 14))
 (.cl false (some 16) none (.t 11) [(.t 15)]
 .done))))))
def QxX : AT := (zm 17 5
 (zm 4 17
 .done))
def QxW : AT := (zr 18 (.bin .add (.t 8) (zi 1))
 (zm 8 18
 .done))
def QxV : AT := (zr 4 (.mov (.c (.int .i64 (-1))))
 .done)
def QB : AF := ⟨19, [.tmp 4],
 (.seq (.reg Qx2 [])
 (.seq (.seq (.reg Qx1 [6])
 (.block 0 (.loop (.seq (.reg Qx0 [])
 (.seq (.cond (.t 9)
 .skip
 (.exit 0))
 (.seq (.block 1 (.seq (.reg QxZ [10])
 (.seq (.reg QxY [11, 12, 13, 14, 15])
 (.cond (.t 16)
 (.seq (.reg QxX [17])
 .ret)
 .skip))))
 (.reg QxW [18])))))))
 (.seq (.reg QxV [])
 .ret)))⟩
abbrev XG : Nat := 112
/- proofmark/rv.Decode$1 -/
def Qtd : AT := (.wr false (some 2) none (.box 175 (.t 0))
 (zr 3 (.mov (.c (.bool false)))
 .done))
def Qtc : AT := (zr 4 (.faddr 0 (.t 2))
 (zr 5 (.faddr 6 (.t 4))
 (zr 6 (.load false 1 (.t 5))
 (zr 7 (.bin .neq (.t 6) (.c (.int .u32 0)))
 (zm 8 7
 (zt 9 8 (.load false 1 (.t 1))
 (zt 10 8 (.faddr 0 (.t 2))
 (zt 11 8 (.faddr 6 (.t 10))
 (zt 12 8 (.load false 1 (.t 11))
 (zt 13 8 (.bin .and (.t 9) (.t 12))
 (zt 14 8 (.faddr 8 (.t 2))
 (zt 15 8 (.load false 1 (.t 14))
 (zt 16 8 (.bin .eql (.t 13) (.t 15))
 (zr 17 (.pick (.t 8) (.t 16) (.c (.bool false)))
 (zm 3 17
 .done)))))))))))))))
def Zp : AF := ⟨18, [.tmp 3],
 (.seq (.reg Qtd [])
 (.seq (.reg Qtc [4, 5, 6, 7, 8, 9, 10, 11, 12, 13, 14, 15, 16, 17])
 .ret))⟩
abbrev Qf8 : Nat := 113
/- (proofmark/rv.form).number -/
def QxU : AT := (.wr false (some 2) none (.box 173 (.t 0))
 (zr 4 (.mov (zi 0))
 .done))
def QxT : AT := (zr 5 (.mov (zi 0))
 .done)
def QxS : AT := (zr 8 (.faddr 3 (.t 2))
 (zr 9 (.load false 1 (.t 8))
 (zr 10 (.len 0 (.t 9))
 (zr 11 (.mov (zi 0))
 .done))))
def QxR : AT := (zr 12 (.bin .lss (.t 11) (.t 10))
 .done)
def QxQ : AT := (zr 13 (.iaddr none 2 (.t 9) (.t 11))
 (zr 14 (.load true 2 (.t 13))
 (.wr false (some 7) none (.new 181 [(.int .i64 0), (.int .i64 0)])
 (.wr false none none (.store 2 (.t 7) (.t 14))
 .done))))
def QxP : AT := (zm 15 5
 (zr 16 (.faddr 1 (.t 7))
 (zr 17 (.load false 1 (.t 16))
 (zr 18 (.bin .shl (.t 15) (.t 17))
 (zr 19 (.load true 2 (.t 7))
 (zm 20 1
 (.cl true (some 21) none (.c (.fn (.func 115) [] [])) [(.t 19), (.t 20)]
 (zr 22 (.conv .i64 (.t 21))
 (zr 23 (.bin .or (.t 18) (.t 22))
 (zm 5 23
 .done))))))))))
def QxO : AT := (zr 24 (.bin .add (.t 11) (zi 1))
 (zm 11 24
 .done))
def QxN : AT := (zm 25 5
 (zr 26 (.faddr 4 (.t 2))
 (zr 27 (.load false 1 (.t 26))
 (zr 28 (.bin .shl (.t 25) (.t 27))
 (zm 5 28
 .done)))))
def QxM : AT := (zr 29 (.faddr 5 (.t 2))
 (zr 30 (.load false 1 (.t 29))
 .done))
def QxL : AT := (zm 31 5
 (zr 32 (.load true 7 (.t 2))
 (zr 36 (.load true 7 (.t 2))
 (.cl true (some 33) none (.c (.fn (.func 122) [] [])) [(.t 32)]
 (zr 34 (.bin .sub (zi 64) (.t 33))
 (zr 35 (.bin .shl (.t 31) (.t 34))
 (zk 37 122 [.t 36]
 (zr 38 (.bin .sub (zi 64) (.t 37))
 (zr 39 (.bin .shr (.t 35) (.t 38))
 (zm 5 39
 .done))))))))))
def Qtb : AT := (zm 40 5
 (zm 4 40
 .done))
def Y3 : AF := ⟨41, [.tmp 4],
 (.seq (.reg QxU [])
 (.seq (.reg QxT [])
 (.seq (.seq (.reg QxS [8])
 (.block 0 (.loop (.seq (.reg QxR [])
 (.seq (.cond (.t 12)
 .skip
 (.exit 0))
 (.seq (.block 1 (.seq (.reg QxQ [13, 14])
 (.reg QxP [15, 16, 17, 18, 19, 20, 21, 22, 23])))
 (.reg QxO [24])))))))
 (.seq (.reg QxN [25, 26, 27, 28])
 (.seq (.seq (.reg QxM [29])
 (.cond (.t 30)
 (.reg QxL [31, 32, 33, 34, 35, 36, 37, 38, 39])
 .skip))
 (.seq (.reg Qtb [40])
 .ret))))))⟩
abbrev QaT : Nat := 114
/- (proofmark/rv.bits).of -/
def QxK : AT := (.wr false (some 2) none (.box 181 (.t 0))
 (zr 4 (.mov (.c (.int .u32 0)))
 .done))
def QxJ : AT := (zm 5 1
 (zr 6 (.faddr 0 (.t 2))
 (zr 7 (.load false 1 (.t 6))
 (zr 8 (.bin .shr (.t 5) (.t 7))
 (zr 9 (.faddr 1 (.t 2))
 (zr 10 (.load false 1 (.t 9))
 (zr 11 (.bin .shl (.c (.int .u32 1)) (.t 10))
 (zr 12 (.bin .sub (.t 11) (.c (.int .u32 1)))
 (zr 13 (.bin .and (.t 8) (.t 12))
 (zm 4 13
 .done))))))))))
def QcS : AF := ⟨14, [.tmp 4],
 (.seq (.reg QxK [])
 (.seq (.reg QxJ [5, 6, 7, 8, 9, 10, 11, 12, 13])
 .ret))⟩
abbrev QeS : Nat := 115
/- (*proofmark/regions.reader).op -/
def zq35_0 : AT := (zr 4 (.mov (.c (.bool false)))
 .done)
def zq35_1 : AT := (zm 7 0
 (zr 8 (.nilc (.t 7))
 (zr 9 (.faddr 3 (.t 8))
 (zr 10 (.faddr 2 (.t 9))
 (zr 11 (.load false 1 (.t 10))
 (zm 12 1
 (zr 13 (.iaddr none 5 (.t 11) (.t 12))
 (zr 14 (.faddr 0 (.t 13))
 (zr 15 (.load false 1 (.t 14))
 (.wr false (some 5) none (.new 5 [(.int .u8 0)])
 (.wr false none none (.store 1 (.t 5) (.t 15))
 .done)))))))))))
def zq35_2 : AT := (zr 16 (.mkfn (.func 128) [] [(.t 5)])
 (zm 6 16
 .done))
def zq35_3 : AT := (zm 17 6
 (.cl false (some 18) none (.t 17) [(zu 1), (zu 10)]
 (zm 19 18
 (zf 20 19 (.mov (.t 6))
 (.cl false (some 21) (some (19, false)) (.t 20) [(zu 22), (zu 49)]
 (zr 22 (.pick (.t 19) (.c (.bool true)) (.t 21))
 (zm 23 22
 (zf 24 23 (.mov (.t 6))
 (.cl false (some 25) (some (23, false)) (.t 24) [(zu 54), (zu 62)]
 (zr 26 (.pick (.t 23) (.c (.bool true)) (.t 25))
 (zm 27 26
 (.wr false (some 28) (some (27, false)) (.bsl false false 5 1 [(.int .u8 0)] 4 [(0, 1, (zu 14)), (1, 1, (zu 21)), (2, 1, (zu 50)), (3, 1, (zu 64))])
 (zf 29 27 (.load false 1 (.t 5))
 (.cl false (some 30) (some (27, false)) (.c (.fn (.func 129) [] [])) [(.t 28), (.t 29)]
 (zr 31 (.pick (.t 27) (.c (.bool true)) (.t 30))
 (zm 4 31
 .done))))))))))))))))
def Z5 : AF := ⟨32, [.tmp 4],
 (.seq (.reg zq35_0 [])
 (.seq (.reg zq35_1 [7, 8, 9, 10, 11, 12, 13, 14, 15])
 (.seq (.reg zq35_2 [16])
 (.seq (.reg zq35_3 [17, 18, 19, 20, 21, 22, 23, 24, 25, 26, 27, 28, 29, 30, 31])
 .ret))))⟩
abbrev Qgp : Nat := 116
/- (*proofmark/regions.reader).stack -/
def zq36_0 : AT := (zr 4 (.mov (.c (.bool false)))
 .done)
def zq36_1 : AT := (zm 8 0
 (zr 9 (.nilc (.t 8))
 (zr 10 (.faddr 3 (.t 9))
 (zr 11 (.faddr 2 (.t 10))
 (zr 12 (.load false 1 (.t 11))
 (zm 13 1
 (zr 14 (.iaddr none 5 (.t 12) (.t 13))
 (zr 15 (.load true 5 (.t 14))
 (.wr false (some 5) none (.new 77 [(.int .u8 0), (.int .u8 0), (.int .u8 0), (.int .u8 0), (.int .i64 0)])
 (.wr false none none (.store 5 (.t 5) (.t 15))
 .done))))))))))
def zq36_2 : AT := (zm 16 1
 (zr 17 (.bin .eql (.t 16) (zi 0))
 (zm 18 17
 (zt 19 18 (.mov (.t 0))
 (zt 20 18 (.nilc (.t 19))
 (zt 21 18 (.faddr 3 (.t 20))
 (zt 22 18 (.faddr 3 (.t 21))
 (zt 23 18 (.load false 1 (.t 22))
 (zt 24 18 (.bin .gtr (.t 23) (zi 0))
 (zr 25 (.pick (.t 18) (.t 24) (.c (.bool false)))
 (zm 26 25
 (zf 27 26 (.mov (.t 0))
 (zf 28 26 (.nilc (.t 27))
 (zf 29 26 (.faddr 3 (.t 28))
 (zf 30 26 (.load true 5 (.t 29))
 (zf 31 26 (.mov (.t 1))
 (.cl false (some 32) (some (26, false)) (.c (.fn (.func 130) [] [])) [(.t 30), (.t 31)]
 (zr 33 (.pick (.t 26) (.c (.bool true)) (.t 32))
 .done))))))))))))))))))
def zq36_3 : AT := (zr 4 (.mov (.c (.bool true)))
 .done)
def zq36_4 : AT := (zr 35 (.load true 5 (.t 5))
 (zk 36 131 [.t 35]
 (zm 34 36
 (zr 37 (.extr (.t 34) 0)
 (zr 38 (.extr (.t 34) 1)
 (zm 6 37
 (zm 7 38
 .done)))))))
def zq36_5 : AT := (zm 39 7
 (zm 40 39
 (zt 41 40 (.mov (.t 6))
 (zt 42 40 (.bin .eql (.t 41) (zu 2))
 (zr 43 (.pick (.t 40) (.t 42) (.c (.bool false)))
 .done)))))
def zq36_6 : AT := (zr 4 (.mov (.c (.bool false)))
 .done)
def zq36_7 : AT := (zr 44 (.load true 5 (.t 5))
 (zk 45 132 [.t 44]
 (zk 46 129 [.t 45, (zu 2)]
 (zr 47 (.un .not (.t 46))
 .done))))
def zq36_8 : AT := (zr 4 (.mov (.c (.bool true)))
 .done)
def zq36_9 : AT := (zr 48 (.faddr 0 (.t 5))
 (zr 49 (.load false 1 (.t 48))
 .done))
def QBW : AT := (zr 51 (.bin .eql (.t 49) (zu 14))
 (zm 50 51
 .done))
def QBV : AT := (zr 4 (.mov (.c (.bool true)))
 .done)
def QBU : AT := (zr 53 (.bin .eql (.t 49) (zu 21))
 (zm 52 53
 .done))
def QBT : AT := (zr 54 (.bin .eql (.t 49) (zu 10))
 (zm 52 54
 .done))
def QBS : AT := (zr 55 (.faddr 3 (.t 5))
 (zr 56 (.load false 1 (.t 55))
 (zr 57 (.bin .neq (.t 56) (zu 2))
 (zm 4 57
 .done))))
def QBR : AT := (zr 4 (.mov (.c (.bool false)))
 .done)
def YV : AF := ⟨58, [.tmp 4],
 (.seq (.reg zq36_0 [])
 (.seq (.reg zq36_1 [8, 9, 10, 11, 12, 13, 14, 15])
 (.seq (.seq (.reg zq36_2 [16, 17, 18, 19, 20, 21, 22, 23, 24, 25, 26, 27, 28, 29, 30, 31, 32])
 (.cond (.t 33)
 (.seq (.reg zq36_3 [])
 .ret)
 .skip))
 (.seq (.seq (.reg zq36_4 [35, 36, 34, 37, 38])
 (.seq (.reg zq36_5 [39, 40, 41, 42])
 (.cond (.t 43)
 (.seq (.reg zq36_6 [])
 .ret)
 .skip)))
 (.seq (.seq (.reg zq36_7 [44, 45, 46])
 (.cond (.t 47)
 (.seq (.reg zq36_8 [])
 .ret)
 .skip))
 (.seq (.seq (.reg zq36_9 [48])
 (.block 0 (.seq (.reg QBW [51])
 (.cond (.t 50)
 (.seq (.reg QBV [])
 .ret)
 (.seq (.seq (.reg QBU [53])
 (.cond (.t 52)
 .skip
 (.reg QBT [54])))
 (.cond (.t 52)
 (.seq (.reg QBS [55, 56, 57])
 .ret)
 .skip))))))
 (.seq (.reg QBR [])
 .ret)))))))⟩
abbrev Qd7 : Nat := 117
/- (*proofmark/regions.reader).target -/
def zq37_0 : AT := (zr 4 (.mov (.c (.bool false)))
 .done)
def zq37_1 : AT := (zm 8 0
 (zr 9 (.nilc (.t 8))
 (zr 10 (.faddr 3 (.t 9))
 (zr 11 (.faddr 2 (.t 10))
 (zr 12 (.load false 1 (.t 11))
 (zm 13 1
 (zr 14 (.iaddr none 5 (.t 12) (.t 13))
 (zr 15 (.load true 5 (.t 14))
 (.wr false (some 5) none (.new 77 [(.int .u8 0), (.int .u8 0), (.int .u8 0), (.int .u8 0), (.int .i64 0)])
 (.wr false none none (.store 5 (.t 5) (.t 15))
 .done))))))))))
def zq37_2 : AT := (zr 17 (.load true 5 (.t 5))
 (zk 18 133 [.t 17]
 (zm 16 18
 .done)))
def zq37_3 : AT := (zm 19 1
 (zr 20 (.faddr 4 (.t 5))
 (zr 21 (.load false 1 (.t 20))
 (zr 22 (.bin .quo (.t 21) (zi 4))
 (zr 23 (.bin .add (.t 19) (.t 22))
 (zm 6 23
 .done))))))
def zq37_4 : AT := (zr 24 (.faddr 4 (.t 5))
 (zr 25 (.load false 1 (.t 24))
 (zr 26 (.bin .rem (.t 25) (zi 4))
 (zr 27 (.bin .eql (.t 26) (zi 0))
 (zm 28 27
 (zt 29 28 (.mov (.t 6))
 (zt 30 28 (.bin .gtr (.t 29) (zi 0))
 (zr 31 (.pick (.t 28) (.t 30) (.c (.bool false)))
 (zm 32 31
 (zt 33 32 (.mov (.t 6))
 (zt 34 32 (.mov (.t 0))
 (zt 35 32 (.nilc (.t 34))
 (zt 36 32 (.faddr 3 (.t 35))
 (zt 37 32 (.faddr 2 (.t 36))
 (zt 38 32 (.load false 1 (.t 37))
 (zt 39 32 (.len 0 (.t 38))
 (zt 40 32 (.bin .lss (.t 33) (.t 39))
 (zr 41 (.pick (.t 32) (.t 40) (.c (.bool false)))
 (zm 42 41
 (zt 43 42 (.mov (.t 0))
 (zt 44 42 (.nilc (.t 43))
 (zt 45 42 (.faddr 3 (.t 44))
 (zt 46 42 (.faddr 3 (.t 45))
 (zt 47 42 (.load false 1 (.t 46))
 (zt 48 42 (.bin .gtr (.t 47) (zi 0))
 (zt 49 42 (.mov (.t 48))
 (zt 50 49 (.mov (.t 0))
 (zt 51 49 (.nilc (.t 50))
 (zt 52 49 (.faddr 3 (.t 51))
 (zt 53 49 (.load true 5 (.t 52))
 (zt 54 49 (.mov (.t 6))
 (.cl false (some 55) (some (49, true)) (.c (.fn (.func 134) [] [])) [(.t 53), (.t 54)]
 (zt 56 42 (.pick (.t 49) (.t 55) (.c (.bool false)))
 (zt 57 42 (.un .not (.t 56))
 (zr 58 (.pick (.t 42) (.t 57) (.c (.bool false)))
 (zm 4 58
 .done))))))))))))))))))))))))))))))))))))
def zq37_5 : AT := (zr 60 (.faddr 0 (.t 5))
 (zr 61 (.load false 1 (.t 60))
 (zr 62 (.bin .eql (.t 61) (zu 3))
 (zm 59 62
 .done))))
def zq37_6 : AT := (zm 63 0
 (zr 64 (.nilc (.t 63))
 (zr 65 (.faddr 3 (.t 64))
 (zr 66 (.faddr 1 (.t 65))
 (zr 67 (.load false 1 (.t 66))
 (zm 68 1
 (zr 69 (.bin .mul (zi 4) (.t 68))
 (zr 70 (.bin .add (.t 67) (.t 69))
 (zr 71 (.faddr 4 (.t 5))
 (zr 72 (.load false 1 (.t 71))
 (zr 73 (.bin .add (.t 70) (.t 72))
 (.wr true (some 7) none (.new 2 [(.int .i64 0)])
 (.wr false none none (.store 1 (.t 7) (.t 73))
 .done)))))))))))))
def zq37_7 : AT := (zr 74 (.faddr 1 (.t 5))
 (zr 75 (.load false 1 (.t 74))
 (zr 76 (.bin .eql (.t 75) (zu 1))
 (zm 77 76
 (zt 78 77 (.mov (.t 0))
 (zt 79 77 (.nilc (.t 78))
 (zt 80 77 (.faddr 0 (.t 79))
 (zt 81 77 (.faddr 1 (.t 80))
 (zt 82 77 (.load false 1 (.t 81))
 (zt 83 77 (.mkfn (.func 135) [] [(.t 7)])
 (.cl false (some 84) (some (77, true)) (.c (.fn (.func 87) [] [])) [(.t 82), (.t 83)]
 (zr 85 (.pick (.t 77) (.t 84) (.c (.bool false)))
 (zm 4 85
 .done)))))))))))))
def zq37_8 : AT := (zr 4 (.mov (.c (.bool true)))
 .done)
def Yz : AF := ⟨86, [.tmp 4],
 (.seq (.reg zq37_0 [])
 (.seq (.reg zq37_1 [8, 9, 10, 11, 12, 13, 14, 15])
 (.seq (.block 0 (.seq (.reg zq37_2 [17, 18])
 (.cond (.t 16)
 (.seq (.reg zq37_3 [19, 20, 21, 22, 23])
 (.seq (.reg zq37_4 [24, 25, 26, 27, 28, 29, 30, 31, 32, 33, 34, 35, 36, 37, 38, 39, 40, 41, 42, 43, 44, 45, 46, 47, 48, 49, 50, 51, 52, 53, 54, 55, 56, 57, 58])
 .ret))
 (.seq (.reg zq37_5 [60, 61, 62])
 (.cond (.t 59)
 (.seq (.reg zq37_6 [63, 64, 65, 66, 67, 68, 69, 70, 71, 72, 73])
 (.seq (.reg zq37_7 [74, 75, 76, 77, 78, 79, 80, 81, 82, 83, 84, 85])
 .ret))
 .skip)))))
 (.seq (.reg zq37_8 [])
 .ret))))⟩
abbrev Qdt : Nat := 118
/- (*proofmark/regions.reader).back -/
def zq38_0 : AT := (zr 4 (.mov (.c (.bool false)))
 .done)
def zq38_1 : AT := (zm 5 0
 (zr 6 (.nilc (.t 5))
 (zr 7 (.faddr 3 (.t 6))
 (zr 8 (.faddr 2 (.t 7))
 (zr 9 (.load false 1 (.t 8))
 (zm 10 1
 (zr 11 (.iaddr none 5 (.t 9) (.t 10))
 (zr 12 (.faddr 0 (.t 11))
 (zr 13 (.load false 1 (.t 12))
 (zr 14 (.bin .neq (.t 13) (zu 4))
 (zm 15 14
 (zf 16 15 (.mov (.t 0))
 (zf 17 15 (.nilc (.t 16))
 (zf 18 15 (.faddr 3 (.t 17))
 (zf 19 15 (.load true 5 (.t 18))
 (zf 20 15 (.mov (.t 1))
 (.cl false (some 21) (some (15, false)) (.c (.fn (.func 134) [] [])) [(.t 19), (.t 20)]
 (zr 22 (.pick (.t 15) (.c (.bool true)) (.t 21))
 (zm 4 22
 .done)))))))))))))))))))
def Y7 : AF := ⟨23, [.tmp 4],
 (.seq (.reg zq38_0 [])
 (.seq (.reg zq38_1 [5, 6, 7, 8, 9, 10, 11, 12, 13, 14, 15, 16, 17, 18, 19, 20, 21, 22])
 .ret))⟩
abbrev QeU : Nat := 119
/- (proofmark/regions.Func).Next -/
def zq39_0 : AT := (.wr false (some 2) none (.box 39 (.t 0))
 (zr 4 (.mov (.c (.lst 0 [] true)))
 .done))
def zq39_1 : AT := (zm 7 1
 (zr 8 (.bin .lss (.t 7) (zi 0))
 (zm 9 8
 (zf 10 9 (.mov (.t 1))
 (zf 11 9 (.faddr 2 (.t 2))
 (zf 12 9 (.load false 1 (.t 11))
 (zf 13 9 (.len 0 (.t 12))
 (zf 14 9 (.bin .geq (.t 10) (.t 13))
 (zr 15 (.pick (.t 9) (.c (.bool true)) (.t 14))
 (zm 16 15
 (zf 17 16 (.load true 5 (.t 2))
 (zf 18 16 (.mov (.t 1))
 (.cl false (some 19) (some (16, false)) (.c (.fn (.func 134) [] [])) [(.t 17), (.t 18)]
 (zr 20 (.pick (.t 16) (.c (.bool true)) (.t 19))
 (zm 21 20
 (zf 22 21 (.load true 5 (.t 2))
 (zf 23 21 (.mov (.t 1))
 (.cl false (some 24) (some (21, false)) (.c (.fn (.func 136) [] [])) [(.t 22), (.t 23)]
 (zr 25 (.pick (.t 21) (.c (.bool true)) (.t 24))
 .done)))))))))))))))))))
def zq39_2 : AT := (zr 4 (.mov (.c (.lst 0 [] true)))
 .done)
def zq39_3 : AT := (zr 26 (.faddr 2 (.t 2))
 (zr 27 (.load false 1 (.t 26))
 (zm 28 1
 (zr 29 (.iaddr none 5 (.t 27) (.t 28))
 (zr 30 (.load true 5 (.t 29))
 (.wr false (some 5) none (.new 77 [(.int .u8 0), (.int .u8 0), (.int .u8 0), (.int .u8 0), (.int .i64 0)])
 (.wr false none none (.store 5 (.t 5) (.t 30))
 .done)))))))
def zq39_4 : AT := (zr 6 (.mov (.c (.lst 0 [] true)))
 .done)
def zq39_5 : AT := (zr 31 (.load true 5 (.t 5))
 (zk 32 133 [.t 31]
 .done))
def zq39_6 : AT := (zm 33 6
 (zm 34 1
 (zr 35 (.faddr 4 (.t 5))
 (zr 36 (.load false 1 (.t 35))
 (zr 37 (.bin .quo (.t 36) (zi 4))
 (zr 38 (.bin .add (.t 34) (.t 37))
 (.wr false (some 39) none (.bsl false false 3 1 [(.int .i64 0)] 1 [(0, 1, (.t 38))])
 (.wr false (some 40) none (.app 3 1 8 false (.t 33) (.t 39))
 (zm 6 40
 .done)))))))))
def zq39_7 : AT := (zr 41 (.load true 5 (.t 5))
 (zk 42 137 [.t 41]
 (zm 43 42
 (zf 44 43 (.load true 5 (.t 5))
 (.cl false (some 45) (some (43, false)) (.c (.fn (.func 133) [] [])) [(.t 44)]
 (zf 46 43 (.un .not (.t 45))
 (zr 47 (.pick (.t 43) (.c (.bool true)) (.t 46))
 .done)))))))
def zq39_8 : AT := (zm 48 6
 (zm 49 1
 (zr 50 (.bin .add (.t 49) (zi 1))
 (.wr false (some 51) none (.bsl false false 3 1 [(.int .i64 0)] 1 [(0, 1, (.t 50))])
 (.wr false (some 52) none (.app 3 1 8 false (.t 48) (.t 51))
 (zm 6 52
 .done))))))
def zq39_9 : AT := (zm 53 6
 (zk 54 121 [.t 53]
 .done))
def QBQ : AT := (zm 55 6
 (zk 56 139 [.t 55]
 (zr 57 (.mkfn (.func 140) [] [(.t 2)])
 (zk 58 138 [.t 56, .t 57]
 (zm 4 58
 .done)))))
def Z7 : AF := ⟨59, [.tmp 4],
 (.seq (.reg zq39_0 [])
 (.seq (.seq (.reg zq39_1 [7, 8, 9, 10, 11, 12, 13, 14, 15, 16, 17, 18, 19, 20, 21, 22, 23, 24])
 (.cond (.t 25)
 (.seq (.reg zq39_2 [])
 .ret)
 .skip))
 (.seq (.reg zq39_3 [26, 27, 28, 29, 30])
 (.seq (.reg zq39_4 [])
 (.seq (.seq (.reg zq39_5 [31])
 (.cond (.t 32)
 (.reg zq39_6 [33, 34, 35, 36, 37, 38, 39, 40])
 .skip))
 (.seq (.seq (.reg zq39_7 [41, 42, 43, 44, 45, 46])
 (.cond (.t 47)
 (.reg zq39_8 [48, 49, 50, 51, 52])
 .skip))
 (.seq (.reg zq39_9 [53, 54])
 (.seq (.reg QBQ [55, 56, 57, 58])
 .ret))))))))⟩
abbrev Qgr : Nat := 120
/- slices.Sort[[]int,int] -/
def zq3a_0 : AT := (zm 3 0
 (zr 4 (.len 0 (.t 3))
 (zm 2 4
 .done)))
def zq3a_1 : AT := (zm 5 0
 (zm 6 2
 (zm 7 2
 (zr 8 (.conv .u64 (.t 7))
 (zk 9 54 [.t 8]
 (zk 10 141 [.t 5, (zi 0), .t 6, .t 9]
 .done))))))
def Y6 : AF := ⟨11, [],
 (.seq (.reg zq3a_0 [3, 4])
 (.reg zq3a_1 [5, 6, 7, 8, 9, 10]))⟩
abbrev QeQ : Nat := 121
/- (proofmark/rv.form).width -/
def QxI : AT := (.wr false (some 1) none (.box 173 (.t 0))
 (zr 2 (.mov (zi 0))
 .done))
def QxH : AT := (zr 6 (.faddr 4 (.t 1))
 (zr 7 (.load false 1 (.t 6))
 (zm 3 7
 .done)))
def QxG : AT := (zr 8 (.faddr 3 (.t 1))
 (zr 9 (.load false 1 (.t 8))
 (zr 10 (.len 0 (.t 9))
 (zr 11 (.mov (zi 0))
 .done))))
def QxF : AT := (zr 12 (.bin .lss (.t 11) (.t 10))
 .done)
def QxE : AT := (zr 13 (.iaddr none 2 (.t 9) (.t 11))
 (zr 14 (.load true 2 (.t 13))
 (.wr false (some 5) none (.new 181 [(.int .i64 0), (.int .i64 0)])
 (.wr false none none (.store 2 (.t 5) (.t 14))
 .done))))
def QxD : AT := (zm 15 3
 (zr 16 (.faddr 1 (.t 5))
 (zr 17 (.load false 1 (.t 16))
 (zr 18 (.bin .add (.t 15) (.t 17))
 (zm 3 18
 .done)))))
def QxC : AT := (zr 19 (.bin .add (.t 11) (zi 1))
 (zm 11 19
 .done))
def QxB : AT := (zm 20 3
 (zm 2 20
 .done))
def ZB : AF := ⟨21, [.tmp 2],
 (.seq (.reg QxI [])
 (.seq (.reg QxH [6, 7])
 (.seq (.seq (.reg QxG [8])
 (.block 0 (.loop (.seq (.reg QxF [])
 (.seq (.cond (.t 12)
 .skip
 (.exit 0))
 (.seq (.block 1 (.seq (.reg QxE [13, 14])
 (.reg QxD [15, 16, 17, 18])))
 (.reg QxC [19])))))))
 (.seq (.reg QxB [20])
 .ret))))⟩
abbrev QeR : Nat := 122
abbrev Qhc : Nat := 123
abbrev QjZ : Nat := 124
abbrev Qng : Nat := 125
abbrev QgQ : Nat := 126
/- proofmark/rv.tells -/
def zq3g_0 : AT := (.wr false (some 5) none (.box 173 (.t 0))
 (.wr false (some 10) none (.new 175 [(.bool false), (.bool false), (.bool false), (.lst 0 [] true), (.int .i64 0), (.bool false), (.int .u32 0), (.str []), (.int .u32 0)])
 .done))
def zq3g_1 : AT := (zr 11 (.load true 7 (.t 5))
 (zm 12 1
 (zm 13 2
 (zm 14 3
 (zr 15 (.faddr 0 (.g 3))
 (zr 16 (.load false 1 (.t 15))
 (zr 17 (.bin .shl (.t 14) (.t 16))
 (zm 18 4
 (zr 19 (.faddr 0 (.g 4))
 (zr 20 (.load false 1 (.t 19))
 (zr 21 (.bin .shl (.t 18) (.t 20))
 (.wr true (some 22) none (.bsl false false 131 1 [(.int .u32 0)] 3 [(0, 1, (.t 13)), (1, 1, (.t 17)), (2, 1, (.t 21))])
 (.cl true (some 23) none (.c (.fn (.func 98) [] [])) [(.t 22)]
 (zr 24 (.build [(.bool false), (.bool false), (.bool false), (.lst 0 [] true), (.int .i64 0), (.bool false), (.int .u32 0), (.str []), (.int .u32 0)] [(0, 7, (.t 11)), (7, 1, (.t 12)), (8, 1, (.t 23))])
 (.wr false none none (.store 9 (.t 10) (.t 24))
 .done)))))))))))))))
def Qm5 : AF := ⟨25, [.cell 10 true 9],
 (.seq (.reg zq3g_0 [])
 (.seq (.reg zq3g_1 [11, 12, 13, 14, 15, 16, 17, 18, 19, 20, 21, 22, 23, 24])
 .ret))⟩
abbrev Qsk : Nat := 127
/- (*proofmark/regions.reader).op$1 -/
def zq3h_0 : AT := (zr 5 (.mov (.c (.bool false)))
 .done)
def zq3h_1 : AT := (zr 6 (.load false 1 (.t 2))
 (zm 7 0
 (zr 8 (.bin .geq (.t 6) (.t 7))
 (zm 9 8
 (zt 10 9 (.load false 1 (.t 2))
 (zt 11 9 (.mov (.t 1))
 (zt 12 9 (.bin .leq (.t 10) (.t 11))
 (zr 13 (.pick (.t 9) (.t 12) (.c (.bool false)))
 (zm 5 13
 .done)))))))))
def YW : AF := ⟨14, [.tmp 5],
 (.seq (.reg zq3h_0 [])
 (.seq (.reg zq3h_1 [6, 7, 8, 9, 10, 11, 12, 13])
 .ret))⟩
abbrev Qd8 : Nat := 128
/- slices.Contains[[]uint8,uint8] -/
def zq3i_0 : AT := (zr 4 (.mov (.c (.bool false)))
 .done)
def zq3i_1 : AT := (zm 5 0
 (zm 6 1
 (zk 7 147 [.t 5, .t 6]
 (zr 8 (.bin .geq (.t 7) (zi 0))
 (zm 4 8
 .done)))))
def Xm : AF := ⟨9, [.tmp 4],
 (.seq (.reg zq3i_0 [])
 (.seq (.reg zq3i_1 [5, 6, 7, 8])
 .ret))⟩
abbrev QaS : Nat := 129
/- (proofmark/regions.Func).restores -/
def zq3j_0 : AT := (.wr false (some 2) none (.box 39 (.t 0))
 (zr 4 (.mov (.c (.bool false)))
 .done))
def zq3j_1 : AT := (zr 5 (.faddr 3 (.t 2))
 (zr 6 (.load false 1 (.t 5))
 (zr 7 (.bin .gtr (.t 6) (zi 0))
 (zm 8 7
 (zt 9 8 (.load true 5 (.t 2))
 (zt 10 8 (.mov (.t 1))
 (zt 11 8 (.faddr 3 (.t 2))
 (zt 12 8 (.load false 1 (.t 11))
 (zt 13 8 (.build [(.int .u8 0), (.int .u8 0), (.int .u8 0), (.int .u8 0), (.int .i64 0)] [(0, 1, (zu 22)), (1, 1, (zu 2)), (2, 1, (zu 2)), (4, 1, (.t 12))])
 (.cl false (some 14) (some (8, true)) (.c (.fn (.func 148) [] [])) [(.t 9), (.t 10), (.t 13)]
 (zr 15 (.pick (.t 8) (.t 14) (.c (.bool false)))
 (zm 16 15
 (zt 17 16 (.load true 5 (.t 2))
 (zt 18 16 (.mov (.t 1))
 (zt 19 16 (.bin .add (.t 18) (zi 1))
 (zt 20 16 (.build [(.int .u8 0), (.int .u8 0), (.int .u8 0), (.int .u8 0), (.int .i64 0)] [(0, 1, (zu 4)), (2, 1, (zu 1))])
 (.cl false (some 21) (some (16, true)) (.c (.fn (.func 148) [] [])) [(.t 17), (.t 19), (.t 20)]
 (zr 22 (.pick (.t 16) (.t 21) (.c (.bool false)))
 (zm 4 22
 .done)))))))))))))))))))
def YA : AF := ⟨23, [.tmp 4],
 (.seq (.reg zq3j_0 [])
 (.seq (.reg zq3j_1 [5, 6, 7, 8, 9, 10, 11, 12, 13, 14, 15, 16, 17, 18, 19, 20, 21, 22])
 .ret))⟩
abbrev Qdu : Nat := 130
/- proofmark/rv.Writes -/
def zq3k_0 : AT := (.wr false (some 1) none (.box 77 (.t 0))
 (zr 2 (.mov (zu 0))
 (zr 3 (.mov (.c (.bool false)))
 .done)))
def zq3k_1 : AT := (zr 9 (.load true 5 (.t 1))
 (zk 10 62 [.t 9]
 (zm 8 10
 (zr 11 (.extr (.t 8) 0)
 (zr 12 (.extr (.t 8) 1)
 (zm 4 11
 (zm 5 12
 .done)))))))
def zq3k_2 : AT := (zr 14 (.faddr 0 (.t 1))
 (zr 15 (.load false 1 (.t 14))
 (zk 16 95 [.t 15]
 (zm 13 16
 (zr 17 (.extr (.t 13) 0)
 (zr 18 (.extr (.t 13) 1)
 (.wr false (some 6) none (.new 175 [(.bool false), (.bool false), (.bool false), (.lst 0 [] true), (.int .i64 0), (.bool false), (.int .u32 0), (.str []), (.int .u32 0)])
 (.wr false none none (.store 9 (.t 6) (.t 17))
 (zm 7 18
 .done)))))))))
def zq3k_3 : AT := (zm 19 5
 (zr 20 (.bin .neq (.t 19) (zi 0))
 (zm 21 20
 (zf 22 21 (.faddr 0 (.t 6))
 (zf 23 21 (.faddr 0 (.t 22))
 (zf 24 21 (.load false 1 (.t 23))
 (zf 25 21 (.un .not (.t 24))
 (zr 26 (.pick (.t 21) (.c (.bool true)) (.t 25))
 (zm 27 26
 (zf 28 27 (.faddr 1 (.t 1))
 (zf 29 27 (.load false 1 (.t 28))
 (zf 30 27 (.bin .eql (.t 29) (zu 0))
 (zr 31 (.pick (.t 27) (.c (.bool true)) (.t 30))
 .done)))))))))))))
def zq3k_4 : AT := (zr 2 (.mov (zu 0))
 (zr 3 (.mov (.c (.bool false)))
 .done))
def zq3k_5 : AT := (zr 32 (.faddr 1 (.t 1))
 (zr 33 (.load false 1 (.t 32))
 (zm 2 33
 (zr 3 (.mov (.c (.bool true)))
 .done))))
def Qkt : AF := ⟨34, [.tmp 2, .tmp 3],
 (.seq (.reg zq3k_0 [])
 (.seq (.reg zq3k_1 [9, 10, 8, 11, 12, 4])
 (.seq (.reg zq3k_2 [14, 15, 16, 13, 17, 18, 7])
 (.seq (.seq (.reg zq3k_3 [19, 20, 21, 22, 23, 24, 25, 26, 27, 28, 29, 30])
 (.cond (.t 31)
 (.seq (.reg zq3k_4 [])
 .ret)
 .skip))
 (.seq (.reg zq3k_5 [32, 33])
 .ret)))))⟩
abbrev Qp3 : Nat := 131
/- proofmark/rv.Reads -/
def zq3l_0 : AT := (.wr false (some 1) none (.box 77 (.t 0))
 (zr 2 (.mov (.c (.lst 0 [] true)))
 .done))
def zq3l_1 : AT := (zr 7 (.load true 5 (.t 1))
 (zk 8 62 [.t 7]
 (zm 6 8
 (zr 9 (.extr (.t 6) 0)
 (zr 10 (.extr (.t 6) 1)
 (zm 3 9
 (zm 4 10
 .done)))))))
def zq3l_2 : AT := (zm 11 4
 (zr 12 (.bin .neq (.t 11) (zi 0))
 .done))
def zq3l_3 : AT := (zr 2 (.mov (.c (.lst 0 [] true)))
 .done)
def zq3l_4 : AT := (zr 13 (.faddr 2 (.t 1))
 (zr 14 (.load false 1 (.t 13))
 (zr 15 (.faddr 3 (.t 1))
 (zr 16 (.load false 1 (.t 15))
 (.wr false (some 17) none (.bsl true false 5 1 [(.int .u8 0)] 2 [(0, 1, (.t 14)), (1, 1, (.t 16))])
 (zm 5 17
 .done))))))
def zq3l_5 : AT := (zm 18 5
 (zk 19 149 [.t 18]
 .done))
def zq3l_6 : AT := (zm 20 5
 (zk 21 150 [.t 20]
 (zm 5 21
 .done)))
def zq3l_7 : AT := (zm 22 5
 (zk 23 151 [.t 22, (.c (.fn (.func 152) [] []))]
 (zm 2 23
 .done)))
def Qm7 : AF := ⟨24, [.tmp 2],
 (.seq (.reg zq3l_0 [])
 (.seq (.seq (.reg zq3l_1 [7, 8, 6, 9, 10, 3])
 (.seq (.reg zq3l_2 [11])
 (.cond (.t 12)
 (.seq (.reg zq3l_3 [])
 .ret)
 .skip)))
 (.seq (.reg zq3l_4 [13, 14, 15, 16, 17])
 (.seq (.reg zq3l_5 [18, 19])
 (.seq (.reg zq3l_6 [20, 21])
 (.seq (.reg zq3l_7 [22, 23])
 .ret))))))⟩
abbrev Qsl : Nat := 132
/- proofmark/regions.jumps -/
def zq3m_0 : AT := (.wr false (some 1) none (.box 77 (.t 0))
 (zr 2 (.mov (.c (.bool false)))
 .done))
def zq3m_1 : AT := (zr 3 (.load true 5 (.t 1))
 (zk 4 137 [.t 3]
 (zm 5 4
 (zf 6 5 (.faddr 0 (.t 1))
 (zf 7 5 (.load false 1 (.t 6))
 (zf 8 5 (.bin .eql (.t 7) (zu 3))
 (zf 9 5 (.mov (.t 8))
 (zt 10 9 (.faddr 1 (.t 1))
 (zt 11 9 (.load false 1 (.t 10))
 (zt 12 9 (.bin .eql (.t 11) (zu 0))
 (zf 13 5 (.pick (.t 9) (.t 12) (.c (.bool false)))
 (zr 14 (.pick (.t 5) (.c (.bool true)) (.t 13))
 (zm 2 14
 .done)))))))))))))
def Qdn : AF := ⟨15, [.tmp 2],
 (.seq (.reg zq3m_0 [])
 (.seq (.reg zq3m_1 [3, 4, 5, 6, 7, 8, 9, 10, 11, 12, 13, 14])
 .ret))⟩
abbrev QkB : Nat := 133
/- (proofmark/regions.Func).Return -/
def zq3n_0 : AT := (.wr false (some 2) none (.box 39 (.t 0))
 (zr 4 (.mov (.c (.bool false)))
 .done))
def zq3n_1 : AT := (zr 5 (.load true 5 (.t 2))
 (zm 6 1
 (zr 7 (.build [(.int .u8 0), (.int .u8 0), (.int .u8 0), (.int .u8 0), (.int .i64 0)] [(0, 1, (zu 4)), (2, 1, (zu 1))])
 (zk 8 148 [.t 5, .t 6, .t 7]
 (zm 9 8
 (zt 10 9 (.faddr 3 (.t 2))
 (zt 11 9 (.load false 1 (.t 10))
 (zt 12 9 (.bin .eql (.t 11) (zi 0))
 (zt 13 9 (.mov (.t 12))
 (zf 14 13 (.load true 5 (.t 2))
 (zf 15 13 (.mov (.t 1))
 (zf 16 13 (.bin .sub (.t 15) (zi 1))
 (.cl false (some 17) (some (13, false)) (.c (.fn (.func 130) [] [])) [(.t 14), (.t 16)]
 (zt 18 9 (.pick (.t 13) (.c (.bool true)) (.t 17))
 (zr 19 (.pick (.t 9) (.t 18) (.c (.bool false)))
 (zm 4 19
 .done))))))))))))))))
def Y8 : AF := ⟨20, [.tmp 4],
 (.seq (.reg zq3n_0 [])
 (.seq (.reg zq3n_1 [5, 6, 7, 8, 9, 10, 11, 12, 13, 14, 15, 16, 17, 18, 19])
 .ret))⟩
abbrev QeV : Nat := 134
/- (*proofmark/regions.reader).target$1 -/
def zq3o_0 : AT := (.wr false (some 2) none (.box 130 (.t 0))
 (zr 3 (.mov (.c (.bool false)))
 .done))
def zq3o_1 : AT := (zr 4 (.faddr 1 (.t 2))
 (zr 5 (.load false 1 (.t 4))
 (zr 6 (.load false 1 (.t 1))
 (zr 7 (.bin .eql (.t 5) (.t 6))
 (zm 3 7
 .done)))))
def XK : AF := ⟨8, [.tmp 3],
 (.seq (.reg zq3o_0 [])
 (.seq (.reg zq3o_1 [4, 5, 6, 7])
 .ret))⟩
abbrev QbY : Nat := 135
/- (proofmark/regions.Func).Ends -/
def zq3p_0 : AT := (.wr false (some 2) none (.box 39 (.t 0))
 (zr 4 (.mov (.c (.bool false)))
 .done))
def zq3p_1 : AT := (zr 8 (.load true 5 (.t 2))
 (zm 9 1
 (zr 10 (.bin .sub (.t 9) (zi 1))
 (zr 11 (.build [(.int .u8 0), (.int .u8 0), (.int .u8 0), (.int .u8 0), (.int .i64 0)] [(0, 1, (zu 22)), (1, 1, (zu 17)), (4, 1, (zi 3))])
 (zk 12 148 [.t 8, .t 10, .t 11]
 (zm 13 12
 (zf 14 13 (.load true 5 (.t 2))
 (zf 15 13 (.mov (.t 1))
 (zf 16 13 (.bin .sub (.t 15) (zi 1))
 (zf 17 13 (.build [(.int .u8 0), (.int .u8 0), (.int .u8 0), (.int .u8 0), (.int .i64 0)] [(0, 1, (zu 22)), (1, 1, (zu 17)), (4, 1, (zi 4))])
 (.cl false (some 18) (some (13, false)) (.c (.fn (.func 148) [] [])) [(.t 14), (.t 16), (.t 17)]
 (zr 19 (.pick (.t 13) (.c (.bool true)) (.t 18))
 (zm 5 19
 .done)))))))))))))
def zq3p_2 : AT := (zm 20 5
 (zr 21 (.un .not (.t 20))
 (zm 22 21
 (zf 23 22 (.load true 5 (.t 2))
 (zf 24 22 (.mov (.t 1))
 (zf 25 22 (.build [(.int .u8 0), (.int .u8 0), (.int .u8 0), (.int .u8 0), (.int .i64 0)] [(0, 1, (zu 64))])
 (.cl false (some 26) (some (22, false)) (.c (.fn (.func 148) [] [])) [(.t 23), (.t 24), (.t 25)]
 (zf 27 22 (.un .not (.t 26))
 (zr 28 (.pick (.t 22) (.c (.bool true)) (.t 27))
 .done)))))))))
def zq3p_3 : AT := (zr 4 (.mov (.c (.bool false)))
 .done)
def zq3p_4 : AT := (zr 29 (.faddr 2 (.t 2))
 (zr 30 (.load false 1 (.t 29))
 (zr 31 (.len 0 (.t 30))
 (zr 32 (.mov (zi 0))
 .done))))
def zq3p_5 : AT := (zr 33 (.bin .lss (.t 32) (.t 31))
 .done)
def zq3p_6 : AT := (zm 34 32
 (zr 35 (.iaddr none 5 (.t 30) (.t 32))
 (zr 36 (.load true 5 (.t 35))
 (.wr false (some 7) none (.new 77 [(.int .u8 0), (.int .u8 0), (.int .u8 0), (.int .u8 0), (.int .i64 0)])
 (zm 6 34
 (.wr false none none (.store 5 (.t 7) (.t 36))
 .done))))))
def zq3p_7 : AT := (zr 37 (.load true 5 (.t 7))
 (zk 38 133 [.t 37]
 (zm 39 38
 (zt 40 39 (.mov (.t 6))
 (zt 41 39 (.faddr 4 (.t 7))
 (zt 42 39 (.load false 1 (.t 41))
 (zt 43 39 (.bin .quo (.t 42) (zi 4))
 (zt 44 39 (.bin .add (.t 40) (.t 43))
 (zt 45 39 (.mov (.t 1))
 (zt 46 39 (.bin .eql (.t 44) (.t 45))
 (zr 47 (.pick (.t 39) (.t 46) (.c (.bool false)))
 .done)))))))))))
def zq3p_8 : AT := (zr 4 (.mov (.c (.bool false)))
 .done)
def zq3p_9 : AT := (zr 48 (.bin .add (.t 32) (zi 1))
 (zm 32 48
 .done))
def QBP : AT := (zr 4 (.mov (.c (.bool true)))
 .done)
def Z8 : AF := ⟨49, [.tmp 4],
 (.seq (.reg zq3p_0 [])
 (.seq (.reg zq3p_1 [8, 9, 10, 11, 12, 13, 14, 15, 16, 17, 18, 19])
 (.seq (.seq (.reg zq3p_2 [20, 21, 22, 23, 24, 25, 26, 27])
 (.cond (.t 28)
 (.seq (.reg zq3p_3 [])
 .ret)
 .skip))
 (.seq (.seq (.reg zq3p_4 [29])
 (.block 0 (.loop (.seq (.reg zq3p_5 [])
 (.seq (.cond (.t 33)
 .skip
 (.exit 0))
 (.seq (.block 1 (.seq (.reg zq3p_6 [34, 35, 36])
 (.seq (.reg zq3p_7 [37, 38, 39, 40, 41, 42, 43, 44, 45, 46])
 (.cond (.t 47)
 (.seq (.reg zq3p_8 [])
 .ret)
 .skip))))
 (.reg zq3p_9 [48])))))))
 (.seq (.reg QBP [])
 .ret)))))⟩
abbrev Qgs : Nat := 136
/- proofmark/regions.branches -/
def zq3q_0 : AT := (.wr false (some 1) none (.box 77 (.t 0))
 (zr 2 (.mov (.c (.bool false)))
 .done))
def zq3q_1 : AT := (zr 3 (.faddr 0 (.t 1))
 (zr 4 (.load false 1 (.t 3))
 (zr 5 (.bin .geq (.t 4) (zu 5))
 (zm 6 5
 (zt 7 6 (.faddr 0 (.t 1))
 (zt 8 6 (.load false 1 (.t 7))
 (zt 9 6 (.bin .leq (.t 8) (zu 10))
 (zr 10 (.pick (.t 6) (.t 9) (.c (.bool false)))
 (zm 2 10
 .done)))))))))
def QaO : AF := ⟨11, [.tmp 2],
 (.seq (.reg zq3q_0 [])
 (.seq (.reg zq3q_1 [3, 4, 5, 6, 7, 8, 9, 10])
 .ret))⟩
abbrev Qhf : Nat := 137
/- slices.DeleteFunc[[]int,int] -/
def zq3r_0 : AT := (zr 4 (.mov (.c (.lst 0 [] true)))
 .done)
def zq3r_1 : AT := (zm 8 0
 (zm 9 1
 (zk 10 153 [.t 8, .t 9]
 (zm 5 10
 .done))))
def zq3r_2 : AT := (zm 11 5
 (zr 12 (.bin .eql (.t 11) (.c (.int .i64 (-1))))
 .done))
def zq3r_3 : AT := (zm 13 0
 (zm 4 13
 .done))
def zq3r_4 : AT := (zm 14 5
 (zr 15 (.bin .add (.t 14) (zi 1))
 (zm 6 15
 .done)))
def zq3r_5 : AT := (zm 16 6
 (zm 17 0
 (zr 18 (.len 0 (.t 17))
 (zr 19 (.bin .lss (.t 16) (.t 18))
 .done))))
def zq3r_6 : AT := (zm 22 0
 (zm 23 6
 (zr 24 (.iaddr none 1 (.t 22) (.t 23))
 (zr 25 (.load false 1 (.t 24))
 (zm 7 25
 .done)))))
def zq3r_7 : AT := (zm 26 1
 (zm 27 7
 (.cl false (some 28) none (.t 26) [(.t 27)]
 (zr 29 (.un .not (.t 28))
 .done))))
def zq3r_8 : AT := (zm 30 0
 (zm 31 5
 (zm 32 7
 (zr 33 (.iaddr none 1 (.t 30) (.t 31))
 (.wr false none none (.store 1 (.t 33) (.t 32))
 .done)))))
def zq3r_9 : AT := (zm 34 5
 (zr 35 (.bin .add (.t 34) (zi 1))
 (zm 5 35
 .done)))
def QBO : AT := (zm 20 6
 (zr 21 (.bin .add (.t 20) (zi 1))
 (zm 6 21
 .done)))
def QBN : AT := (zm 36 0
 (zm 37 5
 (zr 38 (.slc 1 (.t 36) (some (.t 37)) none none)
 (.wr false none none (.clr 1 [(.int .i64 0)] (.t 38))
 .done))))
def QBM : AT := (zm 39 0
 (zm 40 5
 (zr 41 (.slc 1 (.t 39) none (some (.t 40)) none)
 (zm 4 41
 .done))))
def Xx : AF := ⟨42, [.tmp 4],
 (.seq (.reg zq3r_0 [])
 (.seq (.reg zq3r_1 [8, 9, 10])
 (.seq (.seq (.reg zq3r_2 [11])
 (.cond (.t 12)
 (.seq (.reg zq3r_3 [13])
 .ret)
 .skip))
 (.seq (.seq (.reg zq3r_4 [14, 15])
 (.block 0 (.loop (.seq (.seq (.reg zq3r_5 [16, 17, 18])
 (.cond (.t 19)
 .skip
 (.exit 0)))
 (.seq (.block 1 (.seq (.reg zq3r_6 [22, 23, 24, 25])
 (.seq (.reg zq3r_7 [26, 27, 28])
 (.cond (.t 29)
 (.seq (.reg zq3r_8 [30, 31, 32, 33])
 (.reg zq3r_9 [34, 35]))
 .skip))))
 (.reg QBO [20, 21]))))))
 (.seq (.reg QBN [36, 37, 38])
 (.seq (.reg QBM [39, 40, 41])
 .ret))))))⟩
abbrev Qbu : Nat := 138
/- slices.Compact[[]int,int] -/
def zq3s_0 : AT := (zr 2 (.mov (.c (.lst 0 [] true)))
 .done)
def zq3s_1 : AT := (zm 6 0
 (zr 7 (.len 0 (.t 6))
 (zr 8 (.bin .lss (.t 7) (zi 2))
 .done)))
def zq3s_2 : AT := (zm 9 0
 (zm 2 9
 .done))
def zq3s_3 : AT := (zr 3 (.mov (zi 1))
 .done)
def zq3s_4 : AT := (zm 10 3
 (zm 11 0
 (zr 12 (.len 0 (.t 11))
 (zr 13 (.bin .lss (.t 10) (.t 12))
 .done))))
def zq3s_5 : AT := (zm 16 0
 (zm 17 3
 (zr 18 (.iaddr none 1 (.t 16) (.t 17))
 (zr 19 (.load false 1 (.t 18))
 (zm 20 0
 (zm 21 3
 (zr 22 (.bin .sub (.t 21) (zi 1))
 (zr 23 (.iaddr none 1 (.t 20) (.t 22))
 (zr 24 (.load false 1 (.t 23))
 (zr 25 (.bin .eql (.t 19) (.t 24))
 .done))))))))))
def zq3s_6 : AT := (zm 26 0
 (zm 27 3
 (zr 28 (.slc 1 (.t 26) (some (.t 27)) none none)
 (zm 4 28
 .done))))
def zq3s_7 : AT := (zr 5 (.mov (zi 1))
 .done)
def zq3s_8 : AT := (zm 29 5
 (zm 30 4
 (zr 31 (.len 0 (.t 30))
 (zr 32 (.bin .lss (.t 29) (.t 31))
 .done))))
def zq3s_9 : AT := (zm 35 4
 (zm 36 5
 (zr 37 (.iaddr none 1 (.t 35) (.t 36))
 (zr 38 (.load false 1 (.t 37))
 (zm 39 4
 (zm 40 5
 (zr 41 (.bin .sub (.t 40) (zi 1))
 (zr 42 (.iaddr none 1 (.t 39) (.t 41))
 (zr 43 (.load false 1 (.t 42))
 (zr 44 (.bin .neq (.t 38) (.t 43))
 .done))))))))))
def QBL : AT := (zm 45 0
 (zm 46 3
 (zm 47 4
 (zm 48 5
 (zr 49 (.iaddr none 1 (.t 47) (.t 48))
 (zr 50 (.load false 1 (.t 49))
 (zr 51 (.iaddr none 1 (.t 45) (.t 46))
 (.wr false none none (.store 1 (.t 51) (.t 50))
 .done))))))))
def QBK : AT := (zm 52 3
 (zr 53 (.bin .add (.t 52) (zi 1))
 (zm 3 53
 .done)))
def QBJ : AT := (zm 33 5
 (zr 34 (.bin .add (.t 33) (zi 1))
 (zm 5 34
 .done)))
def QBI : AT := (zm 54 0
 (zm 55 3
 (zr 56 (.slc 1 (.t 54) (some (.t 55)) none none)
 (.wr false none none (.clr 1 [(.int .i64 0)] (.t 56))
 .done))))
def QBH : AT := (zm 57 0
 (zm 58 3
 (zr 59 (.slc 1 (.t 57) none (some (.t 58)) none)
 (zm 2 59
 .done))))
def QBG : AT := (zm 14 3
 (zr 15 (.bin .add (.t 14) (zi 1))
 (zm 3 15
 .done)))
def QBF : AT := (zm 60 0
 (zm 2 60
 .done))
def X9 : AF := ⟨61, [.tmp 2],
 (.seq (.reg zq3s_0 [])
 (.seq (.seq (.reg zq3s_1 [6, 7])
 (.cond (.t 8)
 (.seq (.reg zq3s_2 [9])
 .ret)
 .skip))
 (.seq (.seq (.reg zq3s_3 [])
 (.block 0 (.loop (.seq (.seq (.reg zq3s_4 [10, 11, 12])
 (.cond (.t 13)
 .skip
 (.exit 0)))
 (.seq (.block 1 (.seq (.reg zq3s_5 [16, 17, 18, 19, 20, 21, 22, 23, 24])
 (.cond (.t 25)
 (.seq (.reg zq3s_6 [26, 27, 28])
 (.seq (.seq (.reg zq3s_7 [])
 (.block 2 (.loop (.seq (.seq (.reg zq3s_8 [29, 30, 31])
 (.cond (.t 32)
 .skip
 (.exit 2)))
 (.seq (.block 3 (.seq (.reg zq3s_9 [35, 36, 37, 38, 39, 40, 41, 42, 43])
 (.cond (.t 44)
 (.seq (.reg QBL [45, 46, 47, 48, 49, 50, 51])
 (.reg QBK [52, 53]))
 .skip)))
 (.reg QBJ [33, 34]))))))
 (.seq (.reg QBI [54, 55, 56])
 (.seq (.reg QBH [57, 58, 59])
 .ret))))
 .skip)))
 (.reg QBG [14, 15]))))))
 (.seq (.reg QBF [60])
 .ret))))⟩
abbrev QcX : Nat := 139
/- (proofmark/regions.Func).Next$1 -/
def zq3t_0 : AT := (zr 3 (.mov (.c (.bool false)))
 .done)
def zq3t_1 : AT := (zm 4 0
 (zr 5 (.bin .lss (.t 4) (zi 0))
 (zm 6 5
 (zf 7 6 (.mov (.t 0))
 (zf 8 6 (.faddr 2 (.t 1))
 (zf 9 6 (.load false 1 (.t 8))
 (zf 10 6 (.len 0 (.t 9))
 (zf 11 6 (.bin .geq (.t 7) (.t 10))
 (zr 12 (.pick (.t 6) (.c (.bool true)) (.t 11))
 (zm 3 12
 .done))))))))))
def YY : AF := ⟨13, [.tmp 3],
 (.seq (.reg zq3t_0 [])
 (.seq (.reg zq3t_1 [4, 5, 6, 7, 8, 9, 10, 11, 12])
 .ret))⟩
abbrev Qea : Nat := 140
/- slices.pdqsortOrdered[int] -/
def zq3u_0 : AT := (zr 8 (.mov (.c (.bool true)))
 .done)
def zq3u_1 : AT := (zr 9 (.mov (.c (.bool true)))
 .done)
def zq3u_2 : AT := (zm 19 2
 (zm 20 1
 (zr 21 (.bin .sub (.t 19) (.t 20))
 (zm 10 21
 .done))))
def zq3u_3 : AT := (zm 22 10
 (zr 23 (.bin .leq (.t 22) (zi 12))
 .done))
def zq3u_4 : AT := (zm 24 0
 (zm 25 1
 (zm 26 2
 (zk 27 154 [.t 24, .t 25, .t 26]
 .done))))
def zq3u_5 : AT := (zm 28 3
 (zr 29 (.bin .eql (.t 28) (zi 0))
 .done))
def zq3u_6 : AT := (zm 30 0
 (zm 31 1
 (zm 32 2
 (zk 33 155 [.t 30, .t 31, .t 32]
 .done))))
def zq3u_7 : AT := (zm 34 8
 (zr 35 (.un .not (.t 34))
 .done))
def zq3u_8 : AT := (zm 36 0
 (zm 37 1
 (zm 38 2
 (zk 39 156 [.t 36, .t 37, .t 38]
 .done))))
def zq3u_9 : AT := (zm 40 3
 (zr 41 (.bin .sub (.t 40) (zi 1))
 (zm 3 41
 .done)))
def QBE : AT := (zm 43 0
 (zm 44 1
 (zm 45 2
 (zk 46 157 [.t 43, .t 44, .t 45]
 (zm 42 46
 (zr 47 (.extr (.t 42) 0)
 (zr 48 (.extr (.t 42) 1)
 (zm 11 47
 (zm 12 48
 .done)))))))))
def QBD : AT := (zm 49 12
 (zr 50 (.bin .eql (.t 49) (zi 2))
 .done))
def QBC : AT := (zm 51 0
 (zm 52 1
 (zm 53 2
 (zk 54 158 [.t 51, .t 52, .t 53]
 .done))))
def QBB : AT := (zm 55 2
 (zr 56 (.bin .sub (.t 55) (zi 1))
 (zm 57 11
 (zm 58 1
 (zr 59 (.bin .sub (.t 57) (.t 58))
 (zr 60 (.bin .sub (.t 56) (.t 59))
 (zm 11 60
 .done)))))))
def QBA : AT := (zr 12 (.mov (zi 1))
 .done)
def QBz : AT := (zm 61 8
 (zm 62 61
 (zt 63 62 (.mov (.t 9))
 (zr 64 (.pick (.t 62) (.t 63) (.c (.bool false)))
 (zm 65 64
 (zt 66 65 (.mov (.t 12))
 (zt 67 65 (.bin .eql (.t 66) (zi 1))
 (zr 68 (.pick (.t 65) (.t 67) (.c (.bool false)))
 .done))))))))
def QBy : AT := (zm 69 0
 (zm 70 1
 (zm 71 2
 (zk 72 159 [.t 69, .t 70, .t 71]
 .done))))
def QBx : AT := (zm 73 1
 (zr 74 (.bin .gtr (.t 73) (zi 0))
 (zm 75 74
 (zt 76 75 (.mov (.t 0))
 (zt 77 75 (.mov (.t 1))
 (zt 78 75 (.bin .sub (.t 77) (zi 1))
 (zt 79 75 (.iaddr none 1 (.t 76) (.t 78))
 (zt 80 75 (.load false 1 (.t 79))
 (zt 81 75 (.mov (.t 0))
 (zt 82 75 (.mov (.t 11))
 (zt 83 75 (.iaddr none 1 (.t 81) (.t 82))
 (zt 84 75 (.load false 1 (.t 83))
 (.cl false (some 85) (some (75, true)) (.c (.fn (.func 160) [] [])) [(.t 80), (.t 84)]
 (zt 86 75 (.un .not (.t 85))
 (zr 87 (.pick (.t 75) (.t 86) (.c (.bool false)))
 .done)))))))))))))))
def QBw : AT := (zm 88 0
 (zm 89 1
 (zm 90 2
 (zm 91 11
 (zk 92 161 [.t 88, .t 89, .t 90, .t 91]
 (zm 13 92
 .done))))))
def QBv : AT := (zm 93 13
 (zm 1 93
 .done))
def QBu : AT := (zm 95 0
 (zm 96 1
 (zm 97 2
 (zm 98 11
 (zk 99 162 [.t 95, .t 96, .t 97, .t 98]
 (zm 94 99
 (zr 100 (.extr (.t 94) 0)
 (zr 101 (.extr (.t 94) 1)
 (zm 14 100
 (zm 15 101
 .done))))))))))
def QBt : AT := (zm 102 15
 (zm 9 102
 .done))
def QBs : AT := (zm 103 14
 (zm 104 1
 (zr 105 (.bin .sub (.t 103) (.t 104))
 (zm 106 2
 (zm 107 14
 (zr 108 (.bin .sub (.t 106) (.t 107))
 (zm 16 105
 (zm 17 108
 .done))))))))
def QBr : AT := (zm 109 10
 (zr 110 (.bin .quo (.t 109) (zi 8))
 (zm 18 110
 .done)))
def QBq : AT := (zm 111 16
 (zm 112 17
 (zr 113 (.bin .lss (.t 111) (.t 112))
 .done)))
def QBp : AT := (zm 114 16
 (zm 115 18
 (zr 116 (.bin .geq (.t 114) (.t 115))
 (zm 8 116
 .done))))
def QBo : AT := (zm 117 0
 (zm 118 1
 (zm 119 14
 (zm 120 3
 (zk 121 141 [.t 117, .t 118, .t 119, .t 120]
 .done)))))
def QBn : AT := (zm 122 14
 (zr 123 (.bin .add (.t 122) (zi 1))
 (zm 1 123
 .done)))
def QBm : AT := (zm 124 17
 (zm 125 18
 (zr 126 (.bin .geq (.t 124) (.t 125))
 (zm 8 126
 .done))))
def QBl : AT := (zm 127 0
 (zm 128 14
 (zr 129 (.bin .add (.t 128) (zi 1))
 (zm 130 2
 (zm 131 3
 (zk 132 141 [.t 127, .t 129, .t 130, .t 131]
 .done))))))
def QBk : AT := (zm 133 14
 (zm 2 133
 .done))
def Xw : AF := ⟨134, [],
 (.seq (.reg zq3u_0 [])
 (.seq (.reg zq3u_1 [])
 (.block 0 (.loop (.block 1 (.seq (.reg zq3u_2 [19, 20, 21])
 (.seq (.seq (.reg zq3u_3 [22])
 (.cond (.t 23)
 (.seq (.reg zq3u_4 [24, 25, 26, 27])
 .ret)
 .skip))
 (.seq (.seq (.reg zq3u_5 [28])
 (.cond (.t 29)
 (.seq (.reg zq3u_6 [30, 31, 32, 33])
 .ret)
 .skip))
 (.seq (.seq (.reg zq3u_7 [34])
 (.cond (.t 35)
 (.seq (.reg zq3u_8 [36, 37, 38, 39])
 (.reg zq3u_9 [40, 41]))
 .skip))
 (.seq (.reg QBE [43, 44, 45, 46, 42, 47, 48])
 (.seq (.seq (.reg QBD [49])
 (.cond (.t 50)
 (.seq (.reg QBC [51, 52, 53, 54])
 (.seq (.reg QBB [55, 56, 57, 58, 59, 60])
 (.reg QBA [])))
 .skip))
 (.seq (.seq (.reg QBz [61, 62, 63, 64, 65, 66, 67])
 (.cond (.t 68)
 (.seq (.reg QBy [69, 70, 71])
 (.cond (.t 72)
 .ret
 .skip))
 .skip))
 (.seq (.seq (.reg QBx [73, 74, 75, 76, 77, 78, 79, 80, 81, 82, 83, 84, 85, 86])
 (.cond (.t 87)
 (.seq (.reg QBw [88, 89, 90, 91, 92])
 (.seq (.reg QBv [93])
 (.exit 1)))
 .skip))
 (.seq (.reg QBu [95, 96, 97, 98, 99, 94, 100, 101])
 (.seq (.reg QBt [102])
 (.seq (.reg QBs [103, 104, 105, 106, 107, 108])
 (.seq (.reg QBr [109, 110])
 (.seq (.reg QBq [111, 112])
 (.cond (.t 113)
 (.seq (.reg QBp [114, 115, 116])
 (.seq (.reg QBo [117, 118, 119, 120, 121])
 (.reg QBn [122, 123])))
 (.seq (.reg QBm [124, 125, 126])
 (.seq (.reg QBl [127, 128, 129, 130, 131, 132])
 (.reg QBk [133]))))))))))))))))))))))⟩
abbrev Qbt : Nat := 141
abbrev QfD : Nat := 142
abbrev QmF : Nat := 143
abbrev QjW : Nat := 144
abbrev QhX : Nat := 145
abbrev QiX : Nat := 146
/- slices.Index[[]uint8,uint8] -/
def zq40_0 : AT := (zr 4 (.mov (zi 0))
 .done)
def zq40_1 : AT := (zm 6 0
 (zr 7 (.len 0 (.t 6))
 (zr 8 (.mov (zi 0))
 .done)))
def zq40_2 : AT := (zr 9 (.bin .lss (.t 8) (.t 7))
 .done)
def zq40_3 : AT := (zm 10 8
 (zm 5 10
 .done))
def zq40_4 : AT := (zm 11 1
 (zm 12 0
 (zm 13 5
 (zr 14 (.iaddr none 1 (.t 12) (.t 13))
 (zr 15 (.load false 1 (.t 14))
 (zr 16 (.bin .eql (.t 11) (.t 15))
 .done))))))
def zq40_5 : AT := (zm 17 5
 (zm 4 17
 .done))
def zq40_6 : AT := (zr 18 (.bin .add (.t 8) (zi 1))
 (zm 8 18
 .done))
def zq40_7 : AT := (zr 4 (.mov (.c (.int .i64 (-1))))
 .done)
def XI : AF := ⟨19, [.tmp 4],
 (.seq (.reg zq40_0 [])
 (.seq (.seq (.reg zq40_1 [6])
 (.block 0 (.loop (.seq (.reg zq40_2 [])
 (.seq (.cond (.t 9)
 .skip
 (.exit 0))
 (.seq (.block 1 (.seq (.reg zq40_3 [10])
 (.seq (.reg zq40_4 [11, 12, 13, 14, 15])
 (.cond (.t 16)
 (.seq (.reg zq40_5 [17])
 .ret)
 .skip))))
 (.reg zq40_6 [18])))))))
 (.seq (.reg zq40_7 [])
 .ret)))⟩
abbrev QbW : Nat := 147
/- (proofmark/regions.Func).is -/
def zq41_0 : AT := (.wr false (some 3) none (.box 39 (.t 0))
 (.wr false (some 5) none (.box 77 (.t 2))
 (zr 6 (.mov (.c (.bool false)))
 .done)))
def zq41_1 : AT := (zm 7 1
 (zr 8 (.bin .geq (.t 7) (zi 0))
 (zm 9 8
 (zt 10 9 (.mov (.t 1))
 (zt 11 9 (.faddr 2 (.t 3))
 (zt 12 9 (.load false 1 (.t 11))
 (zt 13 9 (.len 0 (.t 12))
 (zt 14 9 (.bin .lss (.t 10) (.t 13))
 (zr 15 (.pick (.t 9) (.t 14) (.c (.bool false)))
 (zm 16 15
 (zt 17 16 (.faddr 2 (.t 3))
 (zt 18 16 (.load false 1 (.t 17))
 (zt 19 16 (.mov (.t 1))
 (zt 20 16 (.iaddr none 5 (.t 18) (.t 19))
 (zt 21 16 (.load true 5 (.t 20))
 (zt 22 16 (.load true 5 (.t 5))
 (zt 23 16 (.eqs false [.i, .i, .i, .i, .i] (.t 21) (.t 22))
 (zr 24 (.pick (.t 16) (.t 23) (.c (.bool false)))
 (zm 6 24
 .done)))))))))))))))))))
def Qbr : AF := ⟨25, [.tmp 6],
 (.seq (.reg zq41_0 [])
 (.seq (.reg zq41_1 [7, 8, 9, 10, 11, 12, 13, 14, 15, 16, 17, 18, 19, 20, 21, 22, 23, 24])
 .ret))⟩
abbrev QhT : Nat := 148
/- slices.Sort[[]uint8,uint8] -/
def zq42_0 : AT := (zm 3 0
 (zr 4 (.len 0 (.t 3))
 (zm 2 4
 .done)))
def zq42_1 : AT := (zm 5 0
 (zm 6 2
 (zm 7 2
 (zr 8 (.conv .u64 (.t 7))
 (zk 9 54 [.t 8]
 (zk 10 167 [.t 5, (zi 0), .t 6, .t 9]
 .done))))))
def XV : AF := ⟨11, [],
 (.seq (.reg zq42_0 [3, 4])
 (.reg zq42_1 [5, 6, 7, 8, 9, 10]))⟩
abbrev Qct : Nat := 149
/- slices.Compact[[]uint8,uint8] -/
def zq43_0 : AT := (zr 2 (.mov (.c (.lst 0 [] true)))
 .done)
def zq43_1 : AT := (zm 6 0
 (zr 7 (.len 0 (.t 6))
 (zr 8 (.bin .lss (.t 7) (zi 2))
 .done)))
def zq43_2 : AT := (zm 9 0
 (zm 2 9
 .done))
def zq43_3 : AT := (zr 3 (.mov (zi 1))
 .done)
def zq43_4 : AT := (zm 10 3
 (zm 11 0
 (zr 12 (.len 0 (.t 11))
 (zr 13 (.bin .lss (.t 10) (.t 12))
 .done))))
def zq43_5 : AT := (zm 16 0
 (zm 17 3
 (zr 18 (.iaddr none 1 (.t 16) (.t 17))
 (zr 19 (.load false 1 (.t 18))
 (zm 20 0
 (zm 21 3
 (zr 22 (.bin .sub (.t 21) (zi 1))
 (zr 23 (.iaddr none 1 (.t 20) (.t 22))
 (zr 24 (.load false 1 (.t 23))
 (zr 25 (.bin .eql (.t 19) (.t 24))
 .done))))))))))
def zq43_6 : AT := (zm 26 0
 (zm 27 3
 (zr 28 (.slc 1 (.t 26) (some (.t 27)) none none)
 (zm 4 28
 .done))))
def zq43_7 : AT := (zr 5 (.mov (zi 1))
 .done)
def zq43_8 : AT := (zm 29 5
 (zm 30 4
 (zr 31 (.len 0 (.t 30))
 (zr 32 (.bin .lss (.t 29) (.t 31))
 .done))))
def zq43_9 : AT := (zm 35 4
 (zm 36 5
 (zr 37 (.iaddr none 1 (.t 35) (.t 36))
 (zr 38 (.load false 1 (.t 37))
 (zm 39 4
 (zm 40 5
 (zr 41 (.bin .sub (.t 40) (zi 1))
 (zr 42 (.iaddr none 1 (.t 39) (.t 41))
 (zr 43 (.load false 1 (.t 42))
 (zr 44 (.bin .neq (.t 38) (.t 43))
 .done))))))))))
def QBj : AT := (zm 45 0
 (zm 46 3
 (zm 47 4
 (zm 48 5
 (zr 49 (.iaddr none 1 (.t 47) (.t 48))
 (zr 50 (.load false 1 (.t 49))
 (zr 51 (.iaddr none 1 (.t 45) (.t 46))
 (.wr false none none (.store 1 (.t 51) (.t 50))
 .done))))))))
def QBi : AT := (zm 52 3
 (zr 53 (.bin .add (.t 52) (zi 1))
 (zm 3 53
 .done)))
def QBh : AT := (zm 33 5
 (zr 34 (.bin .add (.t 33) (zi 1))
 (zm 5 34
 .done)))
def QBg : AT := (zm 54 0
 (zm 55 3
 (zr 56 (.slc 1 (.t 54) (some (.t 55)) none none)
 (.wr false none none (.clr 1 [(.int .u8 0)] (.t 56))
 .done))))
def QBf : AT := (zm 57 0
 (zm 58 3
 (zr 59 (.slc 1 (.t 57) none (some (.t 58)) none)
 (zm 2 59
 .done))))
def QBe : AT := (zm 14 3
 (zr 15 (.bin .add (.t 14) (zi 1))
 (zm 3 15
 .done)))
def QBd : AT := (zm 60 0
 (zm 2 60
 .done))
def Xo : AF := ⟨61, [.tmp 2],
 (.seq (.reg zq43_0 [])
 (.seq (.seq (.reg zq43_1 [6, 7])
 (.cond (.t 8)
 (.seq (.reg zq43_2 [9])
 .ret)
 .skip))
 (.seq (.seq (.reg zq43_3 [])
 (.block 0 (.loop (.seq (.seq (.reg zq43_4 [10, 11, 12])
 (.cond (.t 13)
 .skip
 (.exit 0)))
 (.seq (.block 1 (.seq (.reg zq43_5 [16, 17, 18, 19, 20, 21, 22, 23, 24])
 (.cond (.t 25)
 (.seq (.reg zq43_6 [26, 27, 28])
 (.seq (.seq (.reg zq43_7 [])
 (.block 2 (.loop (.seq (.seq (.reg zq43_8 [29, 30, 31])
 (.cond (.t 32)
 .skip
 (.exit 2)))
 (.seq (.block 3 (.seq (.reg zq43_9 [35, 36, 37, 38, 39, 40, 41, 42, 43])
 (.cond (.t 44)
 (.seq (.reg QBj [45, 46, 47, 48, 49, 50, 51])
 (.reg QBi [52, 53]))
 .skip)))
 (.reg QBh [33, 34]))))))
 (.seq (.reg QBg [54, 55, 56])
 (.seq (.reg QBf [57, 58, 59])
 .ret))))
 .skip)))
 (.reg QBe [14, 15]))))))
 (.seq (.reg QBd [60])
 .ret))))⟩
abbrev Qa9 : Nat := 150
/- slices.DeleteFunc[[]uint8,uint8] -/
def zq44_0 : AT := (zr 4 (.mov (.c (.lst 0 [] true)))
 .done)
def zq44_1 : AT := (zm 8 0
 (zm 9 1
 (zk 10 168 [.t 8, .t 9]
 (zm 5 10
 .done))))
def zq44_2 : AT := (zm 11 5
 (zr 12 (.bin .eql (.t 11) (.c (.int .i64 (-1))))
 .done))
def zq44_3 : AT := (zm 13 0
 (zm 4 13
 .done))
def zq44_4 : AT := (zm 14 5
 (zr 15 (.bin .add (.t 14) (zi 1))
 (zm 6 15
 .done)))
def zq44_5 : AT := (zm 16 6
 (zm 17 0
 (zr 18 (.len 0 (.t 17))
 (zr 19 (.bin .lss (.t 16) (.t 18))
 .done))))
def zq44_6 : AT := (zm 22 0
 (zm 23 6
 (zr 24 (.iaddr none 1 (.t 22) (.t 23))
 (zr 25 (.load false 1 (.t 24))
 (zm 7 25
 .done)))))
def zq44_7 : AT := (zm 26 1
 (zm 27 7
 (.cl false (some 28) none (.t 26) [(.t 27)]
 (zr 29 (.un .not (.t 28))
 .done))))
def zq44_8 : AT := (zm 30 0
 (zm 31 5
 (zm 32 7
 (zr 33 (.iaddr none 1 (.t 30) (.t 31))
 (.wr false none none (.store 1 (.t 33) (.t 32))
 .done)))))
def zq44_9 : AT := (zm 34 5
 (zr 35 (.bin .add (.t 34) (zi 1))
 (zm 5 35
 .done)))
def QBc : AT := (zm 20 6
 (zr 21 (.bin .add (.t 20) (zi 1))
 (zm 6 21
 .done)))
def QBb : AT := (zm 36 0
 (zm 37 5
 (zr 38 (.slc 1 (.t 36) (some (.t 37)) none none)
 (.wr false none none (.clr 1 [(.int .u8 0)] (.t 38))
 .done))))
def QBa : AT := (zm 39 0
 (zm 40 5
 (zr 41 (.slc 1 (.t 39) none (some (.t 40)) none)
 (zm 4 41
 .done))))
def Xh : AF := ⟨42, [.tmp 4],
 (.seq (.reg zq44_0 [])
 (.seq (.reg zq44_1 [8, 9, 10])
 (.seq (.seq (.reg zq44_2 [11])
 (.cond (.t 12)
 (.seq (.reg zq44_3 [13])
 .ret)
 .skip))
 (.seq (.seq (.reg zq44_4 [14, 15])
 (.block 0 (.loop (.seq (.seq (.reg zq44_5 [16, 17, 18])
 (.cond (.t 19)
 .skip
 (.exit 0)))
 (.seq (.block 1 (.seq (.reg zq44_6 [22, 23, 24, 25])
 (.seq (.reg zq44_7 [26, 27, 28])
 (.cond (.t 29)
 (.seq (.reg zq44_8 [30, 31, 32, 33])
 (.reg zq44_9 [34, 35]))
 .skip))))
 (.reg QBc [20, 21]))))))
 (.seq (.reg QBb [36, 37, 38])
 (.seq (.reg QBa [39, 40, 41])
 .ret))))))⟩
abbrev Qaa : Nat := 151
/- proofmark/rv.Reads$1 -/
def zq45_0 : AT := (zr 2 (.mov (.c (.bool false)))
 .done)
def zq45_1 : AT := (zm 3 0
 (zr 4 (.bin .eql (.t 3) (zu 0))
 (zm 2 4
 .done)))
def Qgj : AF := ⟨5, [.tmp 2],
 (.seq (.reg zq45_0 [])
 (.seq (.reg zq45_1 [3, 4])
 .ret))⟩
abbrev Qne : Nat := 152
/- slices.IndexFunc[[]int,int] -/
def zq46_0 : AT := (zr 4 (.mov (zi 0))
 .done)
def zq46_1 : AT := (zm 6 0
 (zr 7 (.len 0 (.t 6))
 (zr 8 (.mov (zi 0))
 .done)))
def zq46_2 : AT := (zr 9 (.bin .lss (.t 8) (.t 7))
 .done)
def zq46_3 : AT := (zm 10 8
 (zm 5 10
 .done))
def zq46_4 : AT := (zm 11 1
 (zm 12 0
 (zm 13 5
 (zr 14 (.iaddr none 1 (.t 12) (.t 13))
 (zr 15 (.load false 1 (.t 14))
 (.cl false (some 16) none (.t 11) [(.t 15)]
 .done))))))
def zq46_5 : AT := (zm 17 5
 (zm 4 17
 .done))
def zq46_6 : AT := (zr 18 (.bin .add (.t 8) (zi 1))
 (zm 8 18
 .done))
def zq46_7 : AT := (zr 4 (.mov (.c (.int .i64 (-1))))
 .done)
def XJ : AF := ⟨19, [.tmp 4],
 (.seq (.reg zq46_0 [])
 (.seq (.seq (.reg zq46_1 [6])
 (.block 0 (.loop (.seq (.reg zq46_2 [])
 (.seq (.cond (.t 9)
 .skip
 (.exit 0))
 (.seq (.block 1 (.seq (.reg zq46_3 [10])
 (.seq (.reg zq46_4 [11, 12, 13, 14, 15])
 (.cond (.t 16)
 (.seq (.reg zq46_5 [17])
 .ret)
 .skip))))
 (.reg zq46_6 [18])))))))
 (.seq (.reg zq46_7 [])
 .ret)))⟩
abbrev QbX : Nat := 153
/- slices.insertionSortOrdered[int] -/
def zq47_0 : AT := (zm 8 1
 (zr 9 (.bin .add (.t 8) (zi 1))
 (zm 6 9
 .done)))
def zq47_1 : AT := (zm 10 6
 (zm 11 2
 (zr 12 (.bin .lss (.t 10) (.t 11))
 .done)))
def zq47_2 : AT := (zm 15 6
 (zm 7 15
 .done))
def zq47_3 : AT := (zm 16 7
 (zm 17 1
 (zr 18 (.bin .gtr (.t 16) (.t 17))
 (zm 19 18
 (zt 20 19 (.mov (.t 0))
 (zt 21 19 (.mov (.t 7))
 (zt 22 19 (.iaddr none 1 (.t 20) (.t 21))
 (zt 23 19 (.load false 1 (.t 22))
 (zt 24 19 (.mov (.t 0))
 (zt 25 19 (.mov (.t 7))
 (zt 26 19 (.bin .sub (.t 25) (zi 1))
 (zt 27 19 (.iaddr none 1 (.t 24) (.t 26))
 (zt 28 19 (.load false 1 (.t 27))
 (.cl false (some 29) (some (19, true)) (.c (.fn (.func 160) [] [])) [(.t 23), (.t 28)]
 (zr 30 (.pick (.t 19) (.t 29) (.c (.bool false)))
 .done)))))))))))))))
def zq47_4 : AT := (zm 33 0
 (zm 34 7
 (zm 35 0
 (zm 36 7
 (zr 37 (.bin .sub (.t 36) (zi 1))
 (zm 38 0
 (zm 39 7
 (zr 40 (.bin .sub (.t 39) (zi 1))
 (zr 41 (.iaddr none 1 (.t 38) (.t 40))
 (zr 42 (.load false 1 (.t 41))
 (zm 43 0
 (zm 44 7
 (zr 45 (.iaddr none 1 (.t 43) (.t 44))
 (zr 46 (.load false 1 (.t 45))
 (zr 47 (.iaddr none 1 (.t 33) (.t 34))
 (.wr false none none (.store 1 (.t 47) (.t 42))
 (zr 48 (.iaddr none 1 (.t 35) (.t 37))
 (.wr false none none (.store 1 (.t 48) (.t 46))
 .done))))))))))))))))))
def zq47_5 : AT := (zm 31 7
 (zr 32 (.bin .sub (.t 31) (zi 1))
 (zm 7 32
 .done)))
def zq47_6 : AT := (zm 13 6
 (zr 14 (.bin .add (.t 13) (zi 1))
 (zm 6 14
 .done)))
def Q6 : AF := ⟨49, [],
 (.seq (.reg zq47_0 [8, 9])
 (.block 0 (.loop (.seq (.seq (.reg zq47_1 [10, 11])
 (.cond (.t 12)
 .skip
 (.exit 0)))
 (.seq (.block 1 (.seq (.reg zq47_2 [15])
 (.block 2 (.loop (.seq (.seq (.reg zq47_3 [16, 17, 18, 19, 20, 21, 22, 23, 24, 25, 26, 27, 28, 29])
 (.cond (.t 30)
 .skip
 (.exit 2)))
 (.seq (.block 3 (.reg zq47_4 [33, 34, 35, 36, 37, 38, 39, 40, 41, 42, 43, 44, 45, 46, 47, 48]))
 (.reg zq47_5 [31, 32])))))))
 (.reg zq47_6 [13, 14]))))))⟩
abbrev ZH : Nat := 154
abbrev QjS : Nat := 155
abbrev Qhb : Nat := 156
abbrev QhS : Nat := 157
abbrev QhF : Nat := 158
abbrev Qew : Nat := 159
/- cmp.Less[int] -/
def zq4d_0 : AT := (zr 4 (.mov (.c (.bool false)))
 .done)
def zq4d_1 : AT := (zm 5 0
 (zk 6 79 [.t 5]
 (zm 7 6
 (zt 8 7 (.mov (.t 1))
 (.cl false (some 9) (some (7, true)) (.c (.fn (.func 79) [] [])) [(.t 8)]
 (zt 10 7 (.un .not (.t 9))
 (zr 11 (.pick (.t 7) (.t 10) (.c (.bool false)))
 (zm 12 11
 (zf 13 12 (.mov (.t 0))
 (zf 14 12 (.mov (.t 1))
 (zf 15 12 (.bin .lss (.t 13) (.t 14))
 (zr 16 (.pick (.t 12) (.c (.bool true)) (.t 15))
 (zm 4 16
 .done)))))))))))))
def cmp_Less_int : AF := ⟨17, [.tmp 4],
 (.seq (.reg zq4d_0 [])
 (.seq (.reg zq4d_1 [5, 6, 7, 8, 9, 10, 11, 12, 13, 14, 15, 16])
 .ret))⟩
abbrev QlT : Nat := 160
abbrev QgP : Nat := 161
abbrev QiW : Nat := 162
abbrev QjX : Nat := 163
abbrev QjY : Nat := 164
abbrev QhW : Nat := 165
abbrev QlR : Nat := 166
/- slices.pdqsortOrdered[uint8] -/
def zq4k_0 : AT := (zr 8 (.mov (.c (.bool true)))
 .done)
def zq4k_1 : AT := (zr 9 (.mov (.c (.bool true)))
 .done)
def zq4k_2 : AT := (zm 19 2
 (zm 20 1
 (zr 21 (.bin .sub (.t 19) (.t 20))
 (zm 10 21
 .done))))
def zq4k_3 : AT := (zm 22 10
 (zr 23 (.bin .leq (.t 22) (zi 12))
 .done))
def zq4k_4 : AT := (zm 24 0
 (zm 25 1
 (zm 26 2
 (zk 27 174 [.t 24, .t 25, .t 26]
 .done))))
def zq4k_5 : AT := (zm 28 3
 (zr 29 (.bin .eql (.t 28) (zi 0))
 .done))
def zq4k_6 : AT := (zm 30 0
 (zm 31 1
 (zm 32 2
 (zk 33 175 [.t 30, .t 31, .t 32]
 .done))))
def zq4k_7 : AT := (zm 34 8
 (zr 35 (.un .not (.t 34))
 .done))
def zq4k_8 : AT := (zm 36 0
 (zm 37 1
 (zm 38 2
 (zk 39 176 [.t 36, .t 37, .t 38]
 .done))))
def zq4k_9 : AT := (zm 40 3
 (zr 41 (.bin .sub (.t 40) (zi 1))
 (zm 3 41
 .done)))
def QA9 : AT := (zm 43 0
 (zm 44 1
 (zm 45 2
 (zk 46 177 [.t 43, .t 44, .t 45]
 (zm 42 46
 (zr 47 (.extr (.t 42) 0)
 (zr 48 (.extr (.t 42) 1)
 (zm 11 47
 (zm 12 48
 .done)))))))))
def QA8 : AT := (zm 49 12
 (zr 50 (.bin .eql (.t 49) (zi 2))
 .done))
def QA7 : AT := (zm 51 0
 (zm 52 1
 (zm 53 2
 (zk 54 178 [.t 51, .t 52, .t 53]
 .done))))
def QA6 : AT := (zm 55 2
 (zr 56 (.bin .sub (.t 55) (zi 1))
 (zm 57 11
 (zm 58 1
 (zr 59 (.bin .sub (.t 57) (.t 58))
 (zr 60 (.bin .sub (.t 56) (.t 59))
 (zm 11 60
 .done)))))))
def QA5 : AT := (zr 12 (.mov (zi 1))
 .done)
def QA4 : AT := (zm 61 8
 (zm 62 61
 (zt 63 62 (.mov (.t 9))
 (zr 64 (.pick (.t 62) (.t 63) (.c (.bool false)))
 (zm 65 64
 (zt 66 65 (.mov (.t 12))
 (zt 67 65 (.bin .eql (.t 66) (zi 1))
 (zr 68 (.pick (.t 65) (.t 67) (.c (.bool false)))
 .done))))))))
def QA3 : AT := (zm 69 0
 (zm 70 1
 (zm 71 2
 (zk 72 179 [.t 69, .t 70, .t 71]
 .done))))
def QA2 : AT := (zm 73 1
 (zr 74 (.bin .gtr (.t 73) (zi 0))
 (zm 75 74
 (zt 76 75 (.mov (.t 0))
 (zt 77 75 (.mov (.t 1))
 (zt 78 75 (.bin .sub (.t 77) (zi 1))
 (zt 79 75 (.iaddr none 1 (.t 76) (.t 78))
 (zt 80 75 (.load false 1 (.t 79))
 (zt 81 75 (.mov (.t 0))
 (zt 82 75 (.mov (.t 11))
 (zt 83 75 (.iaddr none 1 (.t 81) (.t 82))
 (zt 84 75 (.load false 1 (.t 83))
 (.cl false (some 85) (some (75, true)) (.c (.fn (.func 180) [] [])) [(.t 80), (.t 84)]
 (zt 86 75 (.un .not (.t 85))
 (zr 87 (.pick (.t 75) (.t 86) (.c (.bool false)))
 .done)))))))))))))))
def QA1 : AT := (zm 88 0
 (zm 89 1
 (zm 90 2
 (zm 91 11
 (zk 92 181 [.t 88, .t 89, .t 90, .t 91]
 (zm 13 92
 .done))))))
def QA0 : AT := (zm 93 13
 (zm 1 93
 .done))
def QAZ : AT := (zm 95 0
 (zm 96 1
 (zm 97 2
 (zm 98 11
 (zk 99 182 [.t 95, .t 96, .t 97, .t 98]
 (zm 94 99
 (zr 100 (.extr (.t 94) 0)
 (zr 101 (.extr (.t 94) 1)
 (zm 14 100
 (zm 15 101
 .done))))))))))
def QAY : AT := (zm 102 15
 (zm 9 102
 .done))
def QAX : AT := (zm 103 14
 (zm 104 1
 (zr 105 (.bin .sub (.t 103) (.t 104))
 (zm 106 2
 (zm 107 14
 (zr 108 (.bin .sub (.t 106) (.t 107))
 (zm 16 105
 (zm 17 108
 .done))))))))
def QAW : AT := (zm 109 10
 (zr 110 (.bin .quo (.t 109) (zi 8))
 (zm 18 110
 .done)))
def QAV : AT := (zm 111 16
 (zm 112 17
 (zr 113 (.bin .lss (.t 111) (.t 112))
 .done)))
def QAU : AT := (zm 114 16
 (zm 115 18
 (zr 116 (.bin .geq (.t 114) (.t 115))
 (zm 8 116
 .done))))
def QAT : AT := (zm 117 0
 (zm 118 1
 (zm 119 14
 (zm 120 3
 (zk 121 167 [.t 117, .t 118, .t 119, .t 120]
 .done)))))
def QAS : AT := (zm 122 14
 (zr 123 (.bin .add (.t 122) (zi 1))
 (zm 1 123
 .done)))
def QAR : AT := (zm 124 17
 (zm 125 18
 (zr 126 (.bin .geq (.t 124) (.t 125))
 (zm 8 126
 .done))))
def QAQ : AT := (zm 127 0
 (zm 128 14
 (zr 129 (.bin .add (.t 128) (zi 1))
 (zm 130 2
 (zm 131 3
 (zk 132 167 [.t 127, .t 129, .t 130, .t 131]
 .done))))))
def QAP : AT := (zm 133 14
 (zm 2 133
 .done))
def Xl : AF := ⟨134, [],
 (.seq (.reg zq4k_0 [])
 (.seq (.reg zq4k_1 [])
 (.block 0 (.loop (.block 1 (.seq (.reg zq4k_2 [19, 20, 21])
 (.seq (.seq (.reg zq4k_3 [22])
 (.cond (.t 23)
 (.seq (.reg zq4k_4 [24, 25, 26, 27])
 .ret)
 .skip))
 (.seq (.seq (.reg zq4k_5 [28])
 (.cond (.t 29)
 (.seq (.reg zq4k_6 [30, 31, 32, 33])
 .ret)
 .skip))
 (.seq (.seq (.reg zq4k_7 [34])
 (.cond (.t 35)
 (.seq (.reg zq4k_8 [36, 37, 38, 39])
 (.reg zq4k_9 [40, 41]))
 .skip))
 (.seq (.reg QA9 [43, 44, 45, 46, 42, 47, 48])
 (.seq (.seq (.reg QA8 [49])
 (.cond (.t 50)
 (.seq (.reg QA7 [51, 52, 53, 54])
 (.seq (.reg QA6 [55, 56, 57, 58, 59, 60])
 (.reg QA5 [])))
 .skip))
 (.seq (.seq (.reg QA4 [61, 62, 63, 64, 65, 66, 67])
 (.cond (.t 68)
 (.seq (.reg QA3 [69, 70, 71])
 (.cond (.t 72)
 .ret
 .skip))
 .skip))
 (.seq (.seq (.reg QA2 [73, 74, 75, 76, 77, 78, 79, 80, 81, 82, 83, 84, 85, 86])
 (.cond (.t 87)
 (.seq (.reg QA1 [88, 89, 90, 91, 92])
 (.seq (.reg QA0 [93])
 (.exit 1)))
 .skip))
 (.seq (.reg QAZ [95, 96, 97, 98, 99, 94, 100, 101])
 (.seq (.reg QAY [102])
 (.seq (.reg QAX [103, 104, 105, 106, 107, 108])
 (.seq (.reg QAW [109, 110])
 (.seq (.reg QAV [111, 112])
 (.cond (.t 113)
 (.seq (.reg QAU [114, 115, 116])
 (.seq (.reg QAT [117, 118, 119, 120, 121])
 (.reg QAS [122, 123])))
 (.seq (.reg QAR [124, 125, 126])
 (.seq (.reg QAQ [127, 128, 129, 130, 131, 132])
 (.reg QAP [133]))))))))))))))))))))))⟩
abbrev QaR : Nat := 167
/- slices.IndexFunc[[]uint8,uint8] -/
def zq4l_0 : AT := (zr 4 (.mov (zi 0))
 .done)
def zq4l_1 : AT := (zm 6 0
 (zr 7 (.len 0 (.t 6))
 (zr 8 (.mov (zi 0))
 .done)))
def zq4l_2 : AT := (zr 9 (.bin .lss (.t 8) (.t 7))
 .done)
def zq4l_3 : AT := (zm 10 8
 (zm 5 10
 .done))
def zq4l_4 : AT := (zm 11 1
 (zm 12 0
 (zm 13 5
 (zr 14 (.iaddr none 1 (.t 12) (.t 13))
 (zr 15 (.load false 1 (.t 14))
 (.cl false (some 16) none (.t 11) [(.t 15)]
 .done))))))
def zq4l_5 : AT := (zm 17 5
 (zm 4 17
 .done))
def zq4l_6 : AT := (zr 18 (.bin .add (.t 8) (zi 1))
 (zm 8 18
 .done))
def zq4l_7 : AT := (zr 4 (.mov (.c (.int .i64 (-1))))
 .done)
def Xk : AF := ⟨19, [.tmp 4],
 (.seq (.reg zq4l_0 [])
 (.seq (.seq (.reg zq4l_1 [6])
 (.block 0 (.loop (.seq (.reg zq4l_2 [])
 (.seq (.cond (.t 9)
 .skip
 (.exit 0))
 (.seq (.block 1 (.seq (.reg zq4l_3 [10])
 (.seq (.reg zq4l_4 [11, 12, 13, 14, 15])
 (.cond (.t 16)
 (.seq (.reg zq4l_5 [17])
 .ret)
 .skip))))
 (.reg zq4l_6 [18])))))))
 (.seq (.reg zq4l_7 [])
 .ret)))⟩
abbrev Qaw : Nat := 168
abbrev QjP : Nat := 169
abbrev QgS : Nat := 170
abbrev QlD : Nat := 171
abbrev QkE : Nat := 172
abbrev QkD : Nat := 173
/- slices.insertionSortOrdered[uint8] -/
def zq4r_0 : AT := (zm 8 1
 (zr 9 (.bin .add (.t 8) (zi 1))
 (zm 6 9
 .done)))
def zq4r_1 : AT := (zm 10 6
 (zm 11 2
 (zr 12 (.bin .lss (.t 10) (.t 11))
 .done)))
def zq4r_2 : AT := (zm 15 6
 (zm 7 15
 .done))
def zq4r_3 : AT := (zm 16 7
 (zm 17 1
 (zr 18 (.bin .gtr (.t 16) (.t 17))
 (zm 19 18
 (zt 20 19 (.mov (.t 0))
 (zt 21 19 (.mov (.t 7))
 (zt 22 19 (.iaddr none 1 (.t 20) (.t 21))
 (zt 23 19 (.load false 1 (.t 22))
 (zt 24 19 (.mov (.t 0))
 (zt 25 19 (.mov (.t 7))
 (zt 26 19 (.bin .sub (.t 25) (zi 1))
 (zt 27 19 (.iaddr none 1 (.t 24) (.t 26))
 (zt 28 19 (.load false 1 (.t 27))
 (.cl false (some 29) (some (19, true)) (.c (.fn (.func 180) [] [])) [(.t 23), (.t 28)]
 (zr 30 (.pick (.t 19) (.t 29) (.c (.bool false)))
 .done)))))))))))))))
def zq4r_4 : AT := (zm 33 0
 (zm 34 7
 (zm 35 0
 (zm 36 7
 (zr 37 (.bin .sub (.t 36) (zi 1))
 (zm 38 0
 (zm 39 7
 (zr 40 (.bin .sub (.t 39) (zi 1))
 (zr 41 (.iaddr none 1 (.t 38) (.t 40))
 (zr 42 (.load false 1 (.t 41))
 (zm 43 0
 (zm 44 7
 (zr 45 (.iaddr none 1 (.t 43) (.t 44))
 (zr 46 (.load false 1 (.t 45))
 (zr 47 (.iaddr none 1 (.t 33) (.t 34))
 (.wr false none none (.store 1 (.t 47) (.t 42))
 (zr 48 (.iaddr none 1 (.t 35) (.t 37))
 (.wr false none none (.store 1 (.t 48) (.t 46))
 .done))))))))))))))))))
def zq4r_5 : AT := (zm 31 7
 (zr 32 (.bin .sub (.t 31) (zi 1))
 (zm 7 32
 .done)))
def zq4r_6 : AT := (zm 13 6
 (zr 14 (.bin .add (.t 13) (zi 1))
 (zm 6 14
 .done)))
def QY : AF := ⟨49, [],
 (.seq (.reg zq4r_0 [8, 9])
 (.block 0 (.loop (.seq (.seq (.reg zq4r_1 [10, 11])
 (.cond (.t 12)
 .skip
 (.exit 0)))
 (.seq (.block 1 (.seq (.reg zq4r_2 [15])
 (.block 2 (.loop (.seq (.seq (.reg zq4r_3 [16, 17, 18, 19, 20, 21, 22, 23, 24, 25, 26, 27, 28, 29])
 (.cond (.t 30)
 .skip
 (.exit 2)))
 (.seq (.block 3 (.reg zq4r_4 [33, 34, 35, 36, 37, 38, 39, 40, 41, 42, 43, 44, 45, 46, 47, 48]))
 (.reg zq4r_5 [31, 32])))))))
 (.reg zq4r_6 [13, 14]))))))⟩
abbrev Za : Nat := 174
abbrev QiI : Nat := 175
abbrev Qgm : Nat := 176
abbrev Qha : Nat := 177
abbrev QgO : Nat := 178
abbrev QdY : Nat := 179
/- cmp.Less[uint8] -/
def zq4x_0 : AT := (zr 4 (.mov (.c (.bool false)))
 .done)
def zq4x_1 : AT := (zm 5 0
 (zk 6 80 [.t 5]
 (zm 7 6
 (zt 8 7 (.mov (.t 1))
 (.cl false (some 9) (some (7, true)) (.c (.fn (.func 80) [] [])) [(.t 8)]
 (zt 10 7 (.un .not (.t 9))
 (zr 11 (.pick (.t 7) (.t 10) (.c (.bool false)))
 (zm 12 11
 (zf 13 12 (.mov (.t 0))
 (zf 14 12 (.mov (.t 1))
 (zf 15 12 (.bin .lss (.t 13) (.t 14))
 (zr 16 (.pick (.t 12) (.c (.bool true)) (.t 15))
 (zm 4 16
 .done)))))))))))))
def QcG : AF := ⟨17, [.tmp 4],
 (.seq (.reg zq4x_0 [])
 (.seq (.reg zq4x_1 [5, 6, 7, 8, 9, 10, 11, 12, 13, 14, 15, 16])
 .ret))⟩
abbrev Qi4 : Nat := 180
abbrev Qf4 : Nat := 181
abbrev QhR : Nat := 182
abbrev QlC : Nat := 183
abbrev QiH : Nat := 184
abbrev Qf5 : Nat := 185
abbrev QjR : Nat := 186
abbrev QjQ : Nat := 187
abbrev Qs4 : Nat := 216
def tab0 : Nat → Option AF
 | 3 => some Ql
 | 8 => some proofmarklaw25_works
 | 9 => some Xi
 | 10 => some Xu
 | 11 => some Q8
 | 12 => some ZE
 | 13 => some Xd
 | 14 => some Qbq
 | 15 => some Q7
 | 16 => some ZD
 | 17 => some XW
 | 18 => some QgV
 | 19 => some relate_Fresh
 | 20 => some QcW
 | 24 => some Qc0
 | 25 => some Qg9
 | 29 => some Qr
 | 30 => some QK
 | 32 => some Qk
 | 33 => some QN
 | 34 => some QcU
 | 35 => some Qg
 | 36 => some Y4
 | 37 => some Qm
 | 38 => some X0
 | 39 => some QhO
 | 40 => some ZF
 | 41 => some Yy
 | 42 => some QV
 | 43 => some Qy
 | 44 => some QG
 | 45 => some Yx
 | 46 => some Y2
 | 50 => some ZK
 | 54 => some Qdv
 | 59 => some Qi
 | 60 => some Qgw
 | 61 => some QeL
 | 62 => some Qbp
 | 63 => some Xp
 | 64 => some Y1
 | 65 => some QcN
 | 66 => some QcO
 | 68 => some Zx
 | _ => none
def tab1 : Nat → Option AF
 | 77 => some Qbx
 | 78 => some Qbw
 | 79 => some cmp_isNaN_int
 | 80 => some QbQ
 | 82 => some QcB
 | 83 => some QcA
 | 84 => some Qcz
 | 85 => some Qcy
 | 86 => some Qcx
 | 87 => some QL
 | 88 => some QM
 | 89 => some Qcw
 | 90 => some Qe1
 | 91 => some QeJ
 | 92 => some Qdo
 | 93 => some YX
 | 94 => some Z6
 | 95 => some Qui
 | 96 => some Qau
 | 97 => some Qat
 | 98 => some Qbo
 | 99 => some Qcr
 | 100 => some QeC
 | 101 => some Z2
 | 102 => some strconv_Itoa
 | 103 => some QeB
 | 109 => some QQ
 | 110 => some QR
 | 111 => some Qm6
 | 112 => some QB
 | 113 => some Zp
 | 114 => some Y3
 | 115 => some QcS
 | 116 => some Z5
 | 117 => some YV
 | 118 => some Yz
 | 119 => some Y7
 | 120 => some Z7
 | 121 => some Y6
 | 122 => some ZB
 | 127 => some Qm5
 | 128 => some YW
 | 129 => some Xm
 | 130 => some YA
 | 131 => some Qkt
 | 132 => some Qm7
 | 133 => some Qdn
 | 134 => some Y8
 | 135 => some XK
 | 136 => some Z8
 | 137 => some QaO
 | 138 => some Xx
 | 139 => some X9
 | 140 => some YY
 | 141 => some Xw
 | _ => none
def tab2 : Nat → Option AF
 | 147 => some XI
 | 148 => some Qbr
 | 149 => some XV
 | 150 => some Xo
 | 151 => some Xh
 | 152 => some Qgj
 | 153 => some XJ
 | 154 => some Q6
 | 160 => some cmp_Less_int
 | 167 => some Xl
 | 168 => some Xk
 | 174 => some QY
 | 180 => some QcG
 | _ => none
def tab (f : Nat) : Option AF := if f < 73 then tab0 f else if f < 143 then tab1 f else tab2 f
theorem Qbl : tab YB = some Ql := rfl
theorem Xn : tab Yc = some proofmarklaw25_works := rfl
theorem Q4 : tab ZV = some Xi := rfl
theorem Q1 : tab Qa4 = some Xu := rfl
theorem Xc : tab Qay = some Q8 := rfl
theorem Zz : tab Qbv = some ZE := rfl
theorem XT : tab ZI = some Xd := rfl
theorem Qdk : tab Qhe = some Qbq := rfl
theorem Qar : tab Qax = some Q7 := rfl
theorem QeE : tab QeT = some ZD := rfl
theorem Qcp : tab QT = some XW := rfl
theorem Qmu : tab QmC = some QgV := rfl
theorem Qco : tab Qam = some relate_Fresh := rfl
theorem Qca : tab QiL = some QcW := rfl
theorem QiA : tab QeX = some Qc0 := rfl
theorem QhK : tab QmE = some Qg9 := rfl
theorem Xf : tab Xg = some Qr := rfl
theorem X8 : tab Q5 = some QK := rfl
theorem QH : tab Q9 = some Qk := rfl
theorem XU : tab ZJ = some QN := rfl
theorem QeD : tab QiJ = some QcU := rfl
theorem QC : tab QZ = some Qg := rfl
theorem QdV : tab Qd1 = some Y4 := rfl
theorem QU : tab QW = some Qm := rfl
theorem Qb9 : tab Qce = some X0 := rfl
theorem QzH : tab Qog = some QhO := rfl
theorem Qpv : tab QfE = some ZF := rfl
theorem QcP : tab QcY = some Yy := rfl
theorem QfZ : tab Qf9 = some QV := rfl
theorem XP : tab XR = some Qy := rfl
theorem Qo : tab XQ = some QG := rfl
theorem QO : tab Qab = some Yx := rfl
theorem QaM : tab QaQ = some Y2 := rfl
theorem Qbm : tab QeW = some ZK := rfl
theorem Qt5 : tab QkF = some Qdv := rfl
theorem Qt : tab QE = some Qi := rfl
theorem Qwi : tab Qnh = some Qgw := rfl
theorem QvA : tab QlQ = some QeL := rfl
theorem Qgg : tab Qgn = some Qbp := rfl
theorem Qiz : tab QiK = some Xp := rfl
theorem QdT : tab QdW = some Y1 := rfl
theorem Qiw : tab QiF = some QcN := rfl
theorem Qix : tab QiG = some QcO := rfl
theorem Qbk : tab QeO = some Zx := rfl
theorem Qr5 : tab QhV = some Qbx := rfl
theorem Qr4 : tab QhU = some Qbw := rfl
theorem Qt6 : tab QkG = some cmp_isNaN_int := rfl
theorem Qr6 : tab QhY = some QbQ := rfl
theorem Qs1 : tab Qi3 = some QcB := rfl
theorem Qs0 : tab Qi2 = some QcA := rfl
theorem QsZ : tab Qi1 = some Qcz := rfl
theorem QsY : tab Qi0 = some Qcy := rfl
theorem QsX : tab QiZ = some Qcx := rfl
theorem Qd3 : tab Ya = some QL := rfl
theorem Qd4 : tab Yb = some QM := rfl
theorem QsW : tab QiY = some Qcw := rfl
theorem QvB : tab QlS = some Qe1 := rfl
theorem Qkj : tab Qgo = some QeJ := rfl
theorem Qt4 : tab QkC = some Qdo := rfl
theorem QnR : tab Qd9 = some YX := rfl
theorem QpL : tab Qgq = some Z6 := rfl
theorem QpJ : tab Quy = some Qui := rfl
theorem Qai : tab Qf7 = some Qau := rfl
theorem QfY : tab Qcu = some Qat := rfl
theorem QgY : tab Qhd = some Qbo := rfl
theorem QiU : tab Qd0 = some Qcr := rfl
theorem Qkg : tab QkA = some QeC := rfl
theorem Qge : tab Y9 = some Z2 := rfl
theorem QlJ : tab Qcs = some strconv_Itoa := rfl
theorem Qkf : tab Qkz = some QeB := rfl
theorem Qfr : tab YI = some QQ := rfl
theorem Qfs : tab YJ = some QR := rfl
theorem Qmw : tab QmD = some Qm6 := rfl
theorem XF : tab XG = some QB := rfl
theorem Qcn : tab Qf8 = some Zp := rfl
theorem QdU : tab QaT = some Y3 := rfl
theorem Qaq : tab QeS = some QcS := rfl
theorem QpK : tab Qgp = some Z5 := rfl
theorem QnP : tab Qd7 = some YV := rfl
theorem QmY : tab Qdt = some Yz := rfl
theorem Qn5 : tab QeU = some Y7 := rfl
theorem QpM : tab Qgr = some Z7 := rfl
theorem Qn4 : tab QeQ = some Y6 := rfl
theorem Zy : tab QeR = some ZB := rfl
theorem QEa : tab Qsk = some Qm5 := rfl
theorem QnQ : tab Qd8 = some YW := rfl
theorem QiT : tab QaS = some Xm := rfl
theorem QmZ : tab Qdu = some YA := rfl
theorem QCH : tab Qp3 = some Qkt := rfl
theorem QEb : tab Qsl = some Qm7 := rfl
theorem Qt3 : tab QkB = some Qdn := rfl
theorem Qn6 : tab QeV = some Y8 := rfl
theorem QlB : tab QbY = some XK := rfl
theorem QpN : tab Qgs = some Z8 := rfl
theorem QqX : tab Qhf = some QaO := rfl
theorem Qki : tab Qbu = some Xx := rfl
theorem Qmv : tab QcX = some X9 := rfl
theorem QnS : tab Qea = some YY := rfl
theorem Qkh : tab Qbt = some Xw := rfl
theorem Qlz : tab QbW = some XI := rfl
theorem Qr3 : tab QhT = some Qbr := rfl
theorem QlK : tab Qct = some XV := rfl
theorem QjJ : tab Qa9 = some Xo := rfl
theorem QhJ : tab Qaa = some Xh := rfl
theorem Qwh : tab Qne = some Qgj := rfl
theorem QlA : tab QbX = some XJ := rfl
theorem QgX : tab ZH = some Q6 := rfl
theorem QvC : tab QlT = some cmp_Less_int := rfl
theorem QiS : tab QaR = some Xl := rfl
theorem Qiy : tab Qaw = some Xk := rfl
theorem Qgf : tab Za = some QY := rfl
theorem Qs2 : tab Qi4 = some QcG := rfl
end Go.Proofs.YtfgccihafnjalaaGreatDoor
