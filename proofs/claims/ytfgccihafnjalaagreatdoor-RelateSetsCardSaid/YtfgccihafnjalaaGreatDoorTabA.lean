/- The translations of the functions, by a program of mine. -/
import Derived.Test.YtfgccihafnjalaaGreatDoorAmD
namespace Go.Proofs.YtfgccihafnjalaaGreatDoor
open Go Go.Am
set_option maxRecDepth 100000
abbrev zm (d s : Nat) (t : AT) : AT := .rd (some d) none (.mov (.t s)) t
abbrev zr (d : Nat) (o : AOp) (t : AT) : AT := .rd (some d) none o t
abbrev zt (d g : Nat) (o : AOp) (t : AT) : AT := .rd (some d) (some (g, true)) o t
abbrev zf (d g : Nat) (o : AOp) (t : AT) : AT := .rd (some d) (some (g, false)) o t
abbrev zk (d f : Nat) (l : List Arg) (t : AT) : AT := .cl false (some d) none (.c (.fn (.func f) [] [])) l t
abbrev zi (n : Int) : Arg := .c (.int .i64 n)
abbrev zu (n : Int) : Arg := .c (.int .u8 n)
/- proofmark/proofmarklaw25.RelateSets -/
def QpF : AT := (zr 4 (.mov (.c (.bool false)))
 .done)
def QpE : AT := (zm 10 0
 (zr 11 (.len 0 (.t 10))
 (zr 12 (.bin .gtr (.t 11) (zi 60))
 (zm 13 12
 (zf 14 13 (.mov (.t 1))
 (zf 15 13 (.len 0 (.t 14))
 (zf 16 13 (.bin .gtr (.t 15) (zi 60))
 (zr 17 (.pick (.t 13) (.c (.bool true)) (.t 16))
 .done))))))))
def QpD : AT := (zk 18 8 []
 (zm 4 18
 .done))
def QpC : AT := (zm 19 0
 (zk 20 9 [.t 19]
 (zm 21 1
 (zk 22 9 [.t 21]
 (zm 5 20
 (zm 6 22
 .done))))))
def QpB : AT := (zr 7 (.mov (.c (.bool true)))
 .done)
def QpA : AT := (zr 8 (.mov (zi 0))
 .done)
def QlI : AT := (zm 23 8
 (zm 24 5
 (zr 25 (.len 0 (.t 24))
 (zr 26 (.bin .lss (.t 23) (.t 25))
 .done))))
def QlH : AT := (zm 29 7
 (zm 30 29
 (zt 31 30 (.mov (.t 6))
 (zt 32 30 (.mov (.t 5))
 (zt 33 30 (.mov (.t 8))
 (zt 34 30 (.iaddr none 3 (.t 32) (.t 33))
 (zt 35 30 (.load true 3 (.t 34))
 (.cl false (some 36) (some (30, true)) (.c (.fn (.func 10) [] [])) [(.t 31), (.t 35)]
 (zr 37 (.pick (.t 30) (.t 36) (.c (.bool false)))
 (zm 7 37
 .done))))))))))
def QlG : AT := (zm 27 8
 (zr 28 (.bin .add (.t 27) (zi 1))
 (zm 8 28
 .done)))
def Qpz : AT := (zm 38 0
 (zk 39 12 [.t 38]
 (zm 40 5
 (zk 41 13 [.t 40]
 (zk 42 11 [.t 39, .t 41]
 (zm 43 42
 (zt 44 43 (.mov (.t 0))
 (zt 45 43 (.mov (.t 1))
 (.cl false (some 46) (some (43, true)) (.c (.fn (.func 14) [] [])) [(.t 44), (.t 45)]
 (zt 47 43 (.mov (.t 5))
 (zt 48 43 (.mov (.t 6))
 (.cl false (some 49) (some (43, true)) (.c (.fn (.func 15) [] [])) [(.t 47), (.t 48)]
 (.cl false (some 50) (some (43, true)) (.c (.fn (.func 11) [] [])) [(.t 46), (.t 49)]
 (zr 51 (.pick (.t 43) (.t 50) (.c (.bool false)))
 (zm 52 51
 (zt 53 52 (.mov (.t 0))
 (zt 54 52 (.mov (.t 1))
 (.cl false (some 55) (some (52, true)) (.c (.fn (.func 16) [] [])) [(.t 53), (.t 54)]
 (zt 56 52 (.mov (.t 7))
 (zt 57 52 (.eqb false (.t 55) (.t 56))
 (zr 58 (.pick (.t 52) (.t 57) (.c (.bool false)))
 (zm 9 58
 .done))))))))))))))))))))))
def Qj7 : AT := (zm 59 9
 (zm 60 59
 (zt 61 60 (.mov (.t 0))
 (zt 62 60 (.mov (.t 5))
 (.cl false (some 63) (some (60, true)) (.c (.fn (.func 11) [] [])) [(.t 61), (.t 62)]
 (zr 64 (.pick (.t 60) (.t 63) (.c (.bool false)))
 (zm 65 64
 (zt 66 65 (.mov (.t 1))
 (zt 67 65 (.mov (.t 6))
 (.cl false (some 68) (some (65, true)) (.c (.fn (.func 11) [] [])) [(.t 66), (.t 67)]
 (zr 69 (.pick (.t 65) (.t 68) (.c (.bool false)))
 (zm 70 69
 (.cl false (some 71) (some (70, true)) (.c (.fn (.func 8) [] [])) []
 (zr 72 (.pick (.t 70) (.t 71) (.c (.bool false)))
 (zm 4 72
 .done)))))))))))))))
def Ql : AF := ⟨73, [.tmp 4],
 (.seq (.reg QpF [])
 (.seq (.seq (.reg QpE [10, 11, 12, 13, 14, 15, 16])
 (.cond (.t 17)
 (.seq (.reg QpD [18])
 .ret)
 .skip))
 (.seq (.reg QpC [19, 20, 21, 22])
 (.seq (.reg QpB [])
 (.seq (.seq (.reg QpA [])
 (.block 0 (.loop (.seq (.seq (.reg QlI [23, 24, 25])
 (.cond (.t 26)
 .skip
 (.exit 0)))
 (.seq (.block 1 (.reg QlH [29, 30, 31, 32, 33, 34, 35, 36, 37]))
 (.reg QlG [27, 28]))))))
 (.seq (.reg Qpz [38, 39, 40, 41, 42, 43, 44, 45, 46, 47, 48, 49, 50, 51, 52, 53, 54, 55, 56, 57, 58])
 (.seq (.reg Qj7 [59, 60, 61, 62, 63, 64, 65, 66, 67, 68, 69, 70, 71, 72])
 .ret)))))))⟩
abbrev YB : Nat := 3
abbrev QjT : Nat := 4
abbrev QjV : Nat := 5
abbrev QlE : Nat := 6
abbrev QjU : Nat := 7
/- proofmark/proofmarklaw25.works -/
def Qv2 : AT := (zr 0 (.mov (.c (.bool false)))
 .done)
def Qv1 : AT := (zr 8 (.build [(.int .u8 0), (.int .i64 0)] [(0, 1, (zu 1)), (1, 1, (zi 5))])
 (zr 9 (.build [(.int .u8 0), (.int .i64 0)] [(0, 1, (zu 2))])
 (zr 10 (.build [(.int .u8 0), (.int .i64 0)] [(0, 1, (zu 3)), (1, 1, (zi 3))])
 (.wr false (some 1) none (.new 62 [(.int .u8 0), (.int .i64 0)])
 (.wr false (some 2) none (.new 62 [(.int .u8 0), (.int .i64 0)])
 (.wr false (some 3) none (.new 62 [(.int .u8 0), (.int .i64 0)])
 (.wr false none none (.store 2 (.t 1) (.t 8))
 (.wr false none none (.store 2 (.t 2) (.t 9))
 (.wr false none none (.store 2 (.t 3) (.t 10))
 .done)))))))))
def Qv0 : AT := (zr 11 (.load true 2 (.t 1))
 (zr 12 (.build [(.int .i64 0), (.int .u8 0), (.int .i64 0)] [(0, 1, (zi 0)), (1, 2, (.t 11))])
 (zr 13 (.load true 2 (.t 2))
 (zr 14 (.build [(.int .i64 0), (.int .u8 0), (.int .i64 0)] [(0, 1, (zi 1)), (1, 2, (.t 13))])
 (.wr false (some 15) none (.bsl false true 64 3 [(.int .i64 0), (.int .u8 0), (.int .i64 0)] 2 [(0, 3, (.t 12)), (3, 3, (.t 14))])
 (zr 16 (.load true 2 (.t 2))
 (zr 17 (.build [(.int .i64 0), (.int .u8 0), (.int .i64 0)] [(0, 1, (zi 1)), (1, 2, (.t 16))])
 (zr 18 (.load true 2 (.t 3))
 (zr 19 (.build [(.int .i64 0), (.int .u8 0), (.int .i64 0)] [(0, 1, (zi 2)), (1, 2, (.t 18))])
 (.wr false (some 20) none (.bsl false true 64 3 [(.int .i64 0), (.int .u8 0), (.int .i64 0)] 2 [(0, 3, (.t 17)), (3, 3, (.t 19))])
 (zk 21 14 [.t 15, .t 20]
 (zm 4 21
 .done))))))))))))
def QrU : AT := (zk 22 18 []
 (zm 5 22
 .done))
def QrT : AT := (zm 24 5
 (zr 25 (.load true 2 (.t 1))
 (zr 26 (.build [(.int .i64 0), (.int .u8 0), (.int .i64 0)] [(0, 1, (zi 0)), (1, 2, (.t 25))])
 (zr 27 (.load true 2 (.t 1))
 (zr 28 (.build [(.int .i64 0), (.int .u8 0), (.int .i64 0)] [(0, 1, (zi 1)), (1, 2, (.t 27))])
 (zr 29 (.load true 2 (.t 2))
 (zr 30 (.build [(.int .i64 0), (.int .u8 0), (.int .i64 0)] [(0, 1, (zi 1)), (1, 2, (.t 29))])
 (zr 31 (.load true 2 (.t 3))
 (zr 32 (.build [(.int .i64 0), (.int .u8 0), (.int .i64 0)] [(0, 1, (zi 2)), (1, 2, (.t 31))])
 (.alt (.wr false (some 33) none (.bsl false true 64 3 [(.int .i64 0), (.int .u8 0), (.int .i64 0)] 4 [(0, 3, (.t 26)), (3, 3, (.t 28)), (6, 3, (.t 30)), (9, 3, (.t 32))])
 (.alt (.cl true (some 34) none (.c (.fn (.func 17) [] [])) [(zu 2)]
 (.alt (zk 35 19 [.t 24, .t 33, (zi 3), .t 34, (zi 0), (zi 0)]
 (zm 23 35
 (zr 36 (.extr (.t 23) 0)
 (zr 37 (.extr (.t 23) 1)
 (.wr true (some 6) none (.new 49 [(.lst 0 [] true), (.int .i64 0), (.int .i64 0), (.int .i64 0), (.int .i64 0), (.int .i64 0), (.int .i64 0), (.int .i64 0), (.int .i64 0), (.int .i64 0), (.int .i64 0), (.int .i64 0), (.int .i64 0), (.int .i64 0), (.int .i64 0), (.int .i64 0), (.int .i64 0), (.int .i64 0), (.int .i64 0), (.int .i64 0), (.int .i64 0), (.int .i64 0), (.int .i64 0), (.int .i64 0), (.int .i64 0), (.int .i64 0), (.int .i64 0), (.int .i64 0), (.int .i64 0), (.int .i64 0), (.int .i64 0), (.int .i64 0), (.int .i64 0), (.int .i64 0), (.lst 0 [] true), (.bool false)])
 (.wr false none none (.store 36 (.t 6) (.t 36))
 (zm 7 37
 .done))))))) (.wr true (some 6) none (.new 49 [(.lst 0 [] true), (.int .i64 0), (.int .i64 0), (.int .i64 0), (.int .i64 0), (.int .i64 0), (.int .i64 0), (.int .i64 0), (.int .i64 0), (.int .i64 0), (.int .i64 0), (.int .i64 0), (.int .i64 0), (.int .i64 0), (.int .i64 0), (.int .i64 0), (.int .i64 0), (.int .i64 0), (.int .i64 0), (.int .i64 0), (.int .i64 0), (.int .i64 0), (.int .i64 0), (.int .i64 0), (.int .i64 0), (.int .i64 0), (.int .i64 0), (.int .i64 0), (.int .i64 0), (.int .i64 0), (.int .i64 0), (.int .i64 0), (.int .i64 0), (.int .i64 0), (.lst 0 [] true), (.bool false)])
 (zk 35 19 [.t 24, .t 33, (zi 3), .t 34, (zi 0), (zi 0)]
 (zm 23 35
 (zr 36 (.extr (.t 23) 0)
 (zr 37 (.extr (.t 23) 1)
 (.wr false none none (.store 36 (.t 6) (.t 36))
 (zm 7 37
 .done))))))))) (.wr true (some 6) none (.new 49 [(.lst 0 [] true), (.int .i64 0), (.int .i64 0), (.int .i64 0), (.int .i64 0), (.int .i64 0), (.int .i64 0), (.int .i64 0), (.int .i64 0), (.int .i64 0), (.int .i64 0), (.int .i64 0), (.int .i64 0), (.int .i64 0), (.int .i64 0), (.int .i64 0), (.int .i64 0), (.int .i64 0), (.int .i64 0), (.int .i64 0), (.int .i64 0), (.int .i64 0), (.int .i64 0), (.int .i64 0), (.int .i64 0), (.int .i64 0), (.int .i64 0), (.int .i64 0), (.int .i64 0), (.int .i64 0), (.int .i64 0), (.int .i64 0), (.int .i64 0), (.int .i64 0), (.lst 0 [] true), (.bool false)])
 (.cl true (some 34) none (.c (.fn (.func 17) [] [])) [(zu 2)]
 (zk 35 19 [.t 24, .t 33, (zi 3), .t 34, (zi 0), (zi 0)]
 (zm 23 35
 (zr 36 (.extr (.t 23) 0)
 (zr 37 (.extr (.t 23) 1)
 (.wr false none none (.store 36 (.t 6) (.t 36))
 (zm 7 37
 .done)))))))))) (.alt (.cl true (some 34) none (.c (.fn (.func 17) [] [])) [(zu 2)]
 (.alt (.wr false (some 33) none (.bsl false true 64 3 [(.int .i64 0), (.int .u8 0), (.int .i64 0)] 4 [(0, 3, (.t 26)), (3, 3, (.t 28)), (6, 3, (.t 30)), (9, 3, (.t 32))])
 (.alt (zk 35 19 [.t 24, .t 33, (zi 3), .t 34, (zi 0), (zi 0)]
 (zm 23 35
 (zr 36 (.extr (.t 23) 0)
 (zr 37 (.extr (.t 23) 1)
 (.wr true (some 6) none (.new 49 [(.lst 0 [] true), (.int .i64 0), (.int .i64 0), (.int .i64 0), (.int .i64 0), (.int .i64 0), (.int .i64 0), (.int .i64 0), (.int .i64 0), (.int .i64 0), (.int .i64 0), (.int .i64 0), (.int .i64 0), (.int .i64 0), (.int .i64 0), (.int .i64 0), (.int .i64 0), (.int .i64 0), (.int .i64 0), (.int .i64 0), (.int .i64 0), (.int .i64 0), (.int .i64 0), (.int .i64 0), (.int .i64 0), (.int .i64 0), (.int .i64 0), (.int .i64 0), (.int .i64 0), (.int .i64 0), (.int .i64 0), (.int .i64 0), (.int .i64 0), (.int .i64 0), (.lst 0 [] true), (.bool false)])
 (.wr false none none (.store 36 (.t 6) (.t 36))
 (zm 7 37
 .done))))))) (.wr true (some 6) none (.new 49 [(.lst 0 [] true), (.int .i64 0), (.int .i64 0), (.int .i64 0), (.int .i64 0), (.int .i64 0), (.int .i64 0), (.int .i64 0), (.int .i64 0), (.int .i64 0), (.int .i64 0), (.int .i64 0), (.int .i64 0), (.int .i64 0), (.int .i64 0), (.int .i64 0), (.int .i64 0), (.int .i64 0), (.int .i64 0), (.int .i64 0), (.int .i64 0), (.int .i64 0), (.int .i64 0), (.int .i64 0), (.int .i64 0), (.int .i64 0), (.int .i64 0), (.int .i64 0), (.int .i64 0), (.int .i64 0), (.int .i64 0), (.int .i64 0), (.int .i64 0), (.int .i64 0), (.lst 0 [] true), (.bool false)])
 (zk 35 19 [.t 24, .t 33, (zi 3), .t 34, (zi 0), (zi 0)]
 (zm 23 35
 (zr 36 (.extr (.t 23) 0)
 (zr 37 (.extr (.t 23) 1)
 (.wr false none none (.store 36 (.t 6) (.t 36))
 (zm 7 37
 .done))))))))) (.wr true (some 6) none (.new 49 [(.lst 0 [] true), (.int .i64 0), (.int .i64 0), (.int .i64 0), (.int .i64 0), (.int .i64 0), (.int .i64 0), (.int .i64 0), (.int .i64 0), (.int .i64 0), (.int .i64 0), (.int .i64 0), (.int .i64 0), (.int .i64 0), (.int .i64 0), (.int .i64 0), (.int .i64 0), (.int .i64 0), (.int .i64 0), (.int .i64 0), (.int .i64 0), (.int .i64 0), (.int .i64 0), (.int .i64 0), (.int .i64 0), (.int .i64 0), (.int .i64 0), (.int .i64 0), (.int .i64 0), (.int .i64 0), (.int .i64 0), (.int .i64 0), (.int .i64 0), (.int .i64 0), (.lst 0 [] true), (.bool false)])
 (.wr false (some 33) none (.bsl false true 64 3 [(.int .i64 0), (.int .u8 0), (.int .i64 0)] 4 [(0, 3, (.t 26)), (3, 3, (.t 28)), (6, 3, (.t 30)), (9, 3, (.t 32))])
 (zk 35 19 [.t 24, .t 33, (zi 3), .t 34, (zi 0), (zi 0)]
 (zm 23 35
 (zr 36 (.extr (.t 23) 0)
 (zr 37 (.extr (.t 23) 1)
 (.wr false none none (.store 36 (.t 6) (.t 36))
 (zm 7 37
 .done)))))))))) (.wr true (some 6) none (.new 49 [(.lst 0 [] true), (.int .i64 0), (.int .i64 0), (.int .i64 0), (.int .i64 0), (.int .i64 0), (.int .i64 0), (.int .i64 0), (.int .i64 0), (.int .i64 0), (.int .i64 0), (.int .i64 0), (.int .i64 0), (.int .i64 0), (.int .i64 0), (.int .i64 0), (.int .i64 0), (.int .i64 0), (.int .i64 0), (.int .i64 0), (.int .i64 0), (.int .i64 0), (.int .i64 0), (.int .i64 0), (.int .i64 0), (.int .i64 0), (.int .i64 0), (.int .i64 0), (.int .i64 0), (.int .i64 0), (.int .i64 0), (.int .i64 0), (.int .i64 0), (.int .i64 0), (.lst 0 [] true), (.bool false)])
 (.alt (.wr false (some 33) none (.bsl false true 64 3 [(.int .i64 0), (.int .u8 0), (.int .i64 0)] 4 [(0, 3, (.t 26)), (3, 3, (.t 28)), (6, 3, (.t 30)), (9, 3, (.t 32))])
 (.cl true (some 34) none (.c (.fn (.func 17) [] [])) [(zu 2)]
 (zk 35 19 [.t 24, .t 33, (zi 3), .t 34, (zi 0), (zi 0)]
 (zm 23 35
 (zr 36 (.extr (.t 23) 0)
 (zr 37 (.extr (.t 23) 1)
 (.wr false none none (.store 36 (.t 6) (.t 36))
 (zm 7 37
 .done)))))))) (.cl true (some 34) none (.c (.fn (.func 17) [] [])) [(zu 2)]
 (.wr false (some 33) none (.bsl false true 64 3 [(.int .i64 0), (.int .u8 0), (.int .i64 0)] 4 [(0, 3, (.t 26)), (3, 3, (.t 28)), (6, 3, (.t 30)), (9, 3, (.t 32))])
 (zk 35 19 [.t 24, .t 33, (zi 3), .t 34, (zi 0), (zi 0)]
 (zm 23 35
 (zr 36 (.extr (.t 23) 0)
 (zr 37 (.extr (.t 23) 1)
 (.wr false none none (.store 36 (.t 6) (.t 36))
 (zm 7 37
 .done)))))))))))))))))))))
def QnX : AT := (zm 38 4
 (zr 39 (.len 0 (.t 38))
 (zr 40 (.bin .eql (.t 39) (zi 1))
 (zm 41 40
 (zt 42 41 (.mov (.t 4))
 (zt 43 41 (.iaddr none 3 (.t 42) (zi 0))
 (zt 44 41 (.load true 3 (.t 43))
 (zt 45 41 (.load true 2 (.t 2))
 (zt 46 41 (.build [(.int .i64 0), (.int .u8 0), (.int .i64 0)] [(0, 1, (zi 1)), (1, 2, (.t 45))])
 (zt 47 41 (.eqs false [.i, .i, .i] (.t 44) (.t 46))
 (zr 48 (.pick (.t 41) (.t 47) (.c (.bool false)))
 (zm 49 48
 (zt 50 49 (.faddr 0 (.t 6))
 (zt 51 49 (.load false 1 (.t 50))
 (zt 52 49 (.len 0 (.t 51))
 (zt 53 49 (.bin .eql (.t 52) (zi 3))
 (zr 54 (.pick (.t 49) (.t 53) (.c (.bool false)))
 (zm 55 54
 (zt 56 55 (.faddr 2 (.t 6))
 (zt 57 55 (.faddr 32 (.t 56))
 (zt 58 55 (.load false 1 (.t 57))
 (zt 59 55 (.len 0 (.t 58))
 (zt 60 55 (.bin .eql (.t 59) (zi 2))
 (zr 61 (.pick (.t 55) (.t 60) (.c (.bool false)))
 (zm 62 61
 (zt 63 62 (.faddr 0 (.t 6))
 (zt 64 62 (.load false 1 (.t 63))
 (zt 65 62 (.iaddr none 1 (.t 64) (zi 0))
 (zt 66 62 (.load false 1 (.t 65))
 (zt 67 62 (.faddr 0 (.t 6))
 (zt 68 62 (.load false 1 (.t 67))
 (zt 69 62 (.iaddr none 1 (.t 68) (zi 1))
 (zt 70 62 (.load false 1 (.t 69))
 (zt 71 62 (.bin .eql (.t 66) (.t 70))
 (zr 72 (.pick (.t 62) (.t 71) (.c (.bool false)))
 (zm 73 72
 (zt 74 73 (.faddr 0 (.t 6))
 (zt 75 73 (.load false 1 (.t 74))
 (zt 76 73 (.iaddr none 1 (.t 75) (zi 0))
 (zt 77 73 (.load false 1 (.t 76))
 (zt 78 73 (.faddr 2 (.t 6))
 (zt 79 73 (.faddr 0 (.t 78))
 (zt 80 73 (.iaddr (some 32) 1 (.t 79) (zi 5))
 (zt 81 73 (.load false 1 (.t 80))
 (zt 82 73 (.bin .eql (.t 77) (.t 81))
 (zr 83 (.pick (.t 73) (.t 82) (.c (.bool false)))
 (zm 84 83
 (zt 85 84 (.faddr 0 (.t 6))
 (zt 86 84 (.load false 1 (.t 85))
 (zt 87 84 (.iaddr none 1 (.t 86) (zi 0))
 (zt 88 84 (.load false 1 (.t 87))
 (zt 89 84 (.faddr 2 (.t 6))
 (zt 90 84 (.faddr 32 (.t 89))
 (zt 91 84 (.load false 1 (.t 90))
 (zt 92 84 (.iaddr none 1 (.t 91) (zi 0))
 (zt 93 84 (.load false 1 (.t 92))
 (zt 94 84 (.bin .eql (.t 88) (.t 93))
 (zr 95 (.pick (.t 84) (.t 94) (.c (.bool false)))
 (zm 96 95
 (zt 97 96 (.faddr 0 (.t 6))
 (zt 101 96 (.mov (.t 5))
 (.alt (zt 98 96 (.load false 1 (.t 97))
 (zt 99 96 (.iaddr none 1 (.t 98) (zi 2))
 (.alt (zt 100 96 (.load false 1 (.t 99))
 (.cl false (some 102) (some (96, true)) (.c (.fn (.func 20) [] [])) [(.t 101), (zi 3)]
 (zt 103 96 (.bin .eql (.t 100) (.t 102))
 (zr 104 (.pick (.t 96) (.t 103) (.c (.bool false)))
 (zm 105 104
 (zt 106 105 (.faddr 2 (.t 6))
 (zt 107 105 (.faddr 32 (.t 106))
 (zt 108 105 (.load false 1 (.t 107))
 (zt 109 105 (.iaddr none 1 (.t 108) (zi 1))
 (zt 110 105 (.load false 1 (.t 109))
 (zt 111 105 (.faddr 0 (.t 6))
 (zt 112 105 (.load false 1 (.t 111))
 (zt 113 105 (.iaddr none 1 (.t 112) (zi 0))
 (zt 114 105 (.load false 1 (.t 113))
 (zt 115 105 (.bin .neq (.t 110) (.t 114))
 (zr 116 (.pick (.t 105) (.t 115) (.c (.bool false)))
 (zm 0 116
 .done))))))))))))))))) (.cl false (some 102) (some (96, true)) (.c (.fn (.func 20) [] [])) [(.t 101), (zi 3)]
 (zt 100 96 (.load false 1 (.t 99))
 (zt 103 96 (.bin .eql (.t 100) (.t 102))
 (zr 104 (.pick (.t 96) (.t 103) (.c (.bool false)))
 (zm 105 104
 (zt 106 105 (.faddr 2 (.t 6))
 (zt 107 105 (.faddr 32 (.t 106))
 (zt 108 105 (.load false 1 (.t 107))
 (zt 109 105 (.iaddr none 1 (.t 108) (zi 1))
 (zt 110 105 (.load false 1 (.t 109))
 (zt 111 105 (.faddr 0 (.t 6))
 (zt 112 105 (.load false 1 (.t 111))
 (zt 113 105 (.iaddr none 1 (.t 112) (zi 0))
 (zt 114 105 (.load false 1 (.t 113))
 (zt 115 105 (.bin .neq (.t 110) (.t 114))
 (zr 116 (.pick (.t 105) (.t 115) (.c (.bool false)))
 (zm 0 116
 .done)))))))))))))))))))) (.cl false (some 102) (some (96, true)) (.c (.fn (.func 20) [] [])) [(.t 101), (zi 3)]
 (zt 98 96 (.load false 1 (.t 97))
 (zt 99 96 (.iaddr none 1 (.t 98) (zi 2))
 (zt 100 96 (.load false 1 (.t 99))
 (zt 103 96 (.bin .eql (.t 100) (.t 102))
 (zr 104 (.pick (.t 96) (.t 103) (.c (.bool false)))
 (zm 105 104
 (zt 106 105 (.faddr 2 (.t 6))
 (zt 107 105 (.faddr 32 (.t 106))
 (zt 108 105 (.load false 1 (.t 107))
 (zt 109 105 (.iaddr none 1 (.t 108) (zi 1))
 (zt 110 105 (.load false 1 (.t 109))
 (zt 111 105 (.faddr 0 (.t 6))
 (zt 112 105 (.load false 1 (.t 111))
 (zt 113 105 (.iaddr none 1 (.t 112) (zi 0))
 (zt 114 105 (.load false 1 (.t 113))
 (zt 115 105 (.bin .neq (.t 110) (.t 114))
 (zr 116 (.pick (.t 105) (.t 115) (.c (.bool false)))
 (zm 0 116
 .done)))))))))))))))))))))))))))))))))))))))))))))))))))))))))))))))))))))))))))))))))
def proofmarklaw25_works : AF := ⟨117, [.tmp 0],
 (.seq (.reg Qv2 [])
 (.seq (.reg Qv1 [8, 9, 10])
 (.seq (.reg Qv0 [11, 12, 13, 14, 15, 16, 17, 18, 19, 20, 21])
 (.seq (.reg QrU [22])
 (.seq (.reg QrT [24, 25, 26, 27, 28, 29, 30, 31, 32, 33, 34, 35, 23, 36, 37, 7])
 (.seq (.reg QnX [38, 39, 40, 41, 42, 43, 44, 45, 46, 47, 48, 49, 50, 51, 52, 53, 54, 55, 56, 57, 58, 59, 60, 61, 62, 63, 64, 65, 66, 67, 68, 69, 70, 71, 72, 73, 74, 75, 76, 77, 78, 79, 80, 81, 82, 83, 84, 85, 86, 87, 88, 89, 90, 91, 92, 93, 94, 95, 96, 97, 98, 99, 100, 101, 102, 103, 104, 105, 106, 107, 108, 109, 110, 111, 112, 113, 114, 115, 116])
 .ret))))))⟩
abbrev Yc : Nat := 8
/- proofmark/proofmarklaw25.plain -/
def zq6_0 : AT := (zr 2 (.mov (.c (.lst 0 [] true)))
 .done)
def zq6_1 : AT := (zr 3 (.mov (.c (.lst 0 [] true)))
 .done)
def zq6_2 : AT := (zr 4 (.mov (zi 0))
 .done)
def zq6_3 : AT := (zm 5 4
 (zm 6 0
 (zr 7 (.len 0 (.t 6))
 (zr 8 (.bin .lss (.t 5) (.t 7))
 .done))))
def zq6_4 : AT := (zm 11 3
 (zm 12 0
 (zm 13 4
 (zr 14 (.iaddr none 3 (.t 12) (.t 13))
 (zr 15 (.faddr 0 (.t 14))
 (zr 16 (.load false 1 (.t 15))
 (zm 17 0
 (zm 18 4
 (zr 19 (.iaddr none 3 (.t 17) (.t 18))
 (zr 20 (.faddr 1 (.t 19))
 (zr 21 (.faddr 0 (.t 20))
 (zr 22 (.load false 1 (.t 21))
 (zm 23 0
 (zm 24 4
 (zr 25 (.iaddr none 3 (.t 23) (.t 24))
 (zr 26 (.faddr 1 (.t 25))
 (zr 27 (.faddr 1 (.t 26))
 (zr 28 (.load false 1 (.t 27))
 (zr 29 (.build [(.int .i64 0), (.int .u8 0), (.int .i64 0)] [(0, 1, (.t 16)), (1, 1, (.t 22)), (2, 1, (.t 28))])
 (.wr false (some 30) none (.bsl false true 28 3 [(.int .i64 0), (.int .u8 0), (.int .i64 0)] 1 [(0, 3, (.t 29))])
 (.wr false (some 31) none (.app 28 3 24 false (.t 11) (.t 30))
 (zm 3 31
 .done))))))))))))))))))))))
def zq6_5 : AT := (zm 9 4
 (zr 10 (.bin .add (.t 9) (zi 1))
 (zm 4 10
 .done)))
def zq6_6 : AT := (zm 32 3
 (zm 2 32
 .done))
def Xi : AF := ⟨33, [.tmp 2],
 (.seq (.reg zq6_0 [])
 (.seq (.reg zq6_1 [])
 (.seq (.seq (.reg zq6_2 [])
 (.block 0 (.loop (.seq (.seq (.reg zq6_3 [5, 6, 7])
 (.cond (.t 8)
 .skip
 (.exit 0)))
 (.seq (.block 1 (.reg zq6_4 [11, 12, 13, 14, 15, 16, 17, 18, 19, 20, 21, 22, 23, 24, 25, 26, 27, 28, 29, 30, 31]))
 (.reg zq6_5 [9, 10]))))))
 (.seq (.reg zq6_6 [32])
 .ret))))⟩
abbrev ZV : Nat := 9
/- proofmark/proofmarkref25.Has -/
def zq7_0 : AT := (.wr false (some 3) none (.box 28 (.t 1))
 (zr 4 (.mov (.c (.bool false)))
 .done))
def zq7_1 : AT := (zr 5 (.mov (zi 0))
 .done)
def zq7_2 : AT := (zm 6 5
 (zm 7 0
 (zr 8 (.len 0 (.t 7))
 (zr 9 (.bin .lss (.t 6) (.t 8))
 .done))))
def zq7_3 : AT := (zm 12 0
 (zm 13 5
 (zr 14 (.iaddr none 3 (.t 12) (.t 13))
 (zr 15 (.load true 3 (.t 14))
 (zr 16 (.load true 3 (.t 3))
 (zr 17 (.eqs false [.i, .i, .i] (.t 15) (.t 16))
 .done))))))
def zq7_4 : AT := (zr 4 (.mov (.c (.bool true)))
 .done)
def zq7_5 : AT := (zm 10 5
 (zr 11 (.bin .add (.t 10) (zi 1))
 (zm 5 11
 .done)))
def zq7_6 : AT := (zr 4 (.mov (.c (.bool false)))
 .done)
def Xu : AF := ⟨18, [.tmp 4],
 (.seq (.reg zq7_0 [])
 (.seq (.seq (.reg zq7_1 [])
 (.block 0 (.loop (.seq (.seq (.reg zq7_2 [6, 7, 8])
 (.cond (.t 9)
 .skip
 (.exit 0)))
 (.seq (.block 1 (.seq (.reg zq7_3 [12, 13, 14, 15, 16])
 (.cond (.t 17)
 (.seq (.reg zq7_4 [])
 .ret)
 .skip)))
 (.reg zq7_5 [10, 11]))))))
 (.seq (.reg zq7_6 [])
 .ret)))⟩
abbrev Qa4 : Nat := 10
/- proofmark/proofmarklaw25.same -/
def QAO : AT := (zr 4 (.mov (.c (.bool false)))
 .done)
def QAN : AT := (zm 7 0
 (zk 8 9 [.t 7]
 (zm 5 8
 .done)))
def QAM : AT := (zm 9 5
 (zr 10 (.len 0 (.t 9))
 (zm 11 1
 (zr 12 (.len 0 (.t 11))
 (zr 13 (.bin .neq (.t 10) (.t 12))
 .done)))))
def QAL : AT := (zr 4 (.mov (.c (.bool false)))
 .done)
def QAK : AT := (zr 6 (.mov (zi 0))
 .done)
def QAJ : AT := (zm 14 6
 (zm 15 5
 (zr 16 (.len 0 (.t 15))
 (zr 17 (.bin .lss (.t 14) (.t 16))
 .done))))
def QAI : AT := (zm 20 5
 (zm 21 6
 (zr 22 (.iaddr none 3 (.t 20) (.t 21))
 (zr 23 (.load true 3 (.t 22))
 (zm 24 1
 (zm 25 6
 (zr 26 (.iaddr none 3 (.t 24) (.t 25))
 (zr 27 (.load true 3 (.t 26))
 (zr 28 (.eqs true [.i, .i, .i] (.t 23) (.t 27))
 .done)))))))))
def QAH : AT := (zr 4 (.mov (.c (.bool false)))
 .done)
def QAG : AT := (zm 18 6
 (zr 19 (.bin .add (.t 18) (zi 1))
 (zm 6 19
 .done)))
def QAF : AT := (zr 4 (.mov (.c (.bool true)))
 .done)
def Q8 : AF := ⟨29, [.tmp 4],
 (.seq (.reg QAO [])
 (.seq (.reg QAN [7, 8])
 (.seq (.seq (.reg QAM [9, 10, 11, 12])
 (.cond (.t 13)
 (.seq (.reg QAL [])
 .ret)
 .skip))
 (.seq (.seq (.reg QAK [])
 (.block 0 (.loop (.seq (.seq (.reg QAJ [14, 15, 16])
 (.cond (.t 17)
 .skip
 (.exit 0)))
 (.seq (.block 1 (.seq (.reg QAI [20, 21, 22, 23, 24, 25, 26, 27])
 (.cond (.t 28)
 (.seq (.reg QAH [])
 .ret)
 .skip)))
 (.reg QAG [18, 19]))))))
 (.seq (.reg QAF [])
 .ret)))))⟩
abbrev Qay : Nat := 11
/- proofmark/relate.Sorted -/
def zq9_0 : AT := (zr 2 (.mov (.c (.lst 0 [] true)))
 .done)
def zq9_1 : AT := (zm 4 0
 (zk 5 29 [.t 4]
 (zm 3 5
 .done)))
def zq9_2 : AT := (zm 6 3
 (zk 7 30 [.t 6, (.c (.fn (.func 31) [] []))]
 .done))
def zq9_3 : AT := (zm 8 3
 (zk 9 32 [.t 8]
 (zm 2 9
 .done)))
def ZE : AF := ⟨10, [.tmp 2],
 (.seq (.reg zq9_0 [])
 (.seq (.reg zq9_1 [4, 5])
 (.seq (.reg zq9_2 [6, 7])
 (.seq (.reg zq9_3 [8, 9])
 .ret))))⟩
abbrev Qbv : Nat := 12
/- proofmark/proofmarkref25.Sorted -/
def zqa_0 : AT := (zr 2 (.mov (.c (.lst 0 [] true)))
 .done)
def zqa_1 : AT := (zr 3 (.mov (.c (.lst 0 [] true)))
 .done)
def zqa_2 : AT := (zr 4 (.mov (zi 0))
 .done)
def zqa_3 : AT := (zm 6 4
 (zm 7 0
 (zr 8 (.len 0 (.t 7))
 (zr 9 (.bin .lss (.t 6) (.t 8))
 .done))))
def zqa_4 : AT := (zm 12 3
 (zm 13 0
 (zm 14 4
 (zr 15 (.iaddr none 3 (.t 13) (.t 14))
 (zr 16 (.load true 3 (.t 15))
 (zk 17 10 [.t 12, .t 16]
 .done))))))
def zqa_5 : AT := (zm 18 3
 (zm 19 0
 (zm 20 4
 (zr 21 (.iaddr none 3 (.t 19) (.t 20))
 (zr 22 (.load true 3 (.t 21))
 (.wr false (some 23) none (.bsl false true 28 3 [(.int .i64 0), (.int .u8 0), (.int .i64 0)] 1 [(0, 3, (.t 22))])
 (.wr false (some 24) none (.app 28 3 24 false (.t 18) (.t 23))
 (zm 3 24
 .done))))))))
def zqa_6 : AT := (zm 25 3
 (zr 26 (.len 0 (.t 25))
 (zr 27 (.bin .sub (.t 26) (zi 1))
 (zm 5 27
 .done))))
def QrS : AT := (zm 28 5
 (zr 29 (.bin .gtr (.t 28) (zi 0))
 (zm 30 29
 (zt 31 30 (.mov (.t 3))
 (zt 32 30 (.mov (.t 5))
 (zt 33 30 (.iaddr none 3 (.t 31) (.t 32))
 (zt 34 30 (.load true 3 (.t 33))
 (zt 35 30 (.mov (.t 3))
 (zt 36 30 (.mov (.t 5))
 (zt 37 30 (.bin .sub (.t 36) (zi 1))
 (zt 38 30 (.iaddr none 3 (.t 35) (.t 37))
 (zt 39 30 (.load true 3 (.t 38))
 (.cl false (some 40) (some (30, true)) (.c (.fn (.func 33) [] [])) [(.t 34), (.t 39)]
 (zr 41 (.pick (.t 30) (.t 40) (.c (.bool false)))
 .done))))))))))))))
def QrR : AT := (zm 44 3
 (zm 45 5
 (zm 46 3
 (zm 47 5
 (zr 48 (.bin .sub (.t 47) (zi 1))
 (zm 49 3
 (zm 50 5
 (zr 51 (.bin .sub (.t 50) (zi 1))
 (zr 52 (.iaddr none 3 (.t 49) (.t 51))
 (zr 53 (.load true 3 (.t 52))
 (zm 54 3
 (zm 55 5
 (zr 56 (.iaddr none 3 (.t 54) (.t 55))
 (zr 57 (.load true 3 (.t 56))
 (zr 58 (.iaddr none 3 (.t 44) (.t 45))
 (.wr false none none (.store 3 (.t 58) (.t 53))
 (zr 59 (.iaddr none 3 (.t 46) (.t 48))
 (.wr false none none (.store 3 (.t 59) (.t 57))
 .done))))))))))))))))))
def QrQ : AT := (zm 42 5
 (zr 43 (.bin .sub (.t 42) (zi 1))
 (zm 5 43
 .done)))
def QxA : AT := (zm 10 4
 (zr 11 (.bin .add (.t 10) (zi 1))
 (zm 4 11
 .done)))
def Qxz : AT := (zm 60 3
 (zm 2 60
 .done))
def Xd : AF := ⟨61, [.tmp 2],
 (.seq (.reg zqa_0 [])
 (.seq (.reg zqa_1 [])
 (.seq (.seq (.reg zqa_2 [])
 (.block 0 (.loop (.seq (.seq (.reg zqa_3 [6, 7, 8])
 (.cond (.t 9)
 .skip
 (.exit 0)))
 (.seq (.block 1 (.seq (.seq (.reg zqa_4 [12, 13, 14, 15, 16])
 (.cond (.t 17)
 (.exit 1)
 .skip))
 (.seq (.reg zqa_5 [18, 19, 20, 21, 22, 23, 24])
 (.seq (.reg zqa_6 [25, 26, 27])
 (.block 2 (.loop (.seq (.seq (.reg QrS [28, 29, 30, 31, 32, 33, 34, 35, 36, 37, 38, 39, 40])
 (.cond (.t 41)
 .skip
 (.exit 2)))
 (.seq (.block 3 (.reg QrR [44, 45, 46, 47, 48, 49, 50, 51, 52, 53, 54, 55, 56, 57, 58, 59]))
 (.reg QrQ [42, 43])))))))))
 (.reg QxA [10, 11]))))))
 (.seq (.reg Qxz [60])
 .ret))))⟩
abbrev ZI : Nat := 13
/- proofmark/relate.Meet -/
def zqb_0 : AT := (zr 4 (.mov (.c (.lst 0 [] true)))
 .done)
def zqb_1 : AT := (zm 6 1
 (zk 7 34 [.t 6]
 (.wr false (some 5) none (.new 71 [(.val (.map none))])
 (.wr false none none (.store 1 (.t 5) (.t 7))
 .done))))
def zqb_2 : AT := (zm 8 0
 (zk 9 12 [.t 8]
 (zr 10 (.mkfn (.func 36) [] [(.t 5)])
 (zk 11 35 [.t 9, .t 10]
 (zm 4 11
 .done)))))
def Qbq : AF := ⟨12, [.tmp 4],
 (.seq (.reg zqb_0 [])
 (.seq (.reg zqb_1 [6, 7])
 (.seq (.reg zqb_2 [8, 9, 10, 11])
 .ret)))⟩
abbrev Qhe : Nat := 14
/- proofmark/proofmarkref25.Meet -/
def QAE : AT := (zr 4 (.mov (.c (.lst 0 [] true)))
 .done)
def QAD : AT := (zr 5 (.mov (.c (.lst 0 [] true)))
 .done)
def QAC : AT := (zr 6 (.mov (zi 0))
 .done)
def QAB : AT := (zm 7 6
 (zm 8 0
 (zr 9 (.len 0 (.t 8))
 (zr 10 (.bin .lss (.t 7) (.t 9))
 .done))))
def QAA : AT := (zm 13 1
 (zm 14 0
 (zm 15 6
 (zr 16 (.iaddr none 3 (.t 14) (.t 15))
 (zr 17 (.load true 3 (.t 16))
 (zk 18 10 [.t 13, .t 17]
 .done))))))
def QAz : AT := (zm 19 5
 (zm 20 0
 (zm 21 6
 (zr 22 (.iaddr none 3 (.t 20) (.t 21))
 (zr 23 (.load true 3 (.t 22))
 (.wr false (some 24) none (.bsl false true 28 3 [(.int .i64 0), (.int .u8 0), (.int .i64 0)] 1 [(0, 3, (.t 23))])
 (.wr false (some 25) none (.app 28 3 24 false (.t 19) (.t 24))
 (zm 5 25
 .done))))))))
def QAy : AT := (zm 11 6
 (zr 12 (.bin .add (.t 11) (zi 1))
 (zm 6 12
 .done)))
def QAx : AT := (zm 26 5
 (zk 27 13 [.t 26]
 (zm 4 27
 .done)))
def Q7 : AF := ⟨28, [.tmp 4],
 (.seq (.reg QAE [])
 (.seq (.reg QAD [])
 (.seq (.seq (.reg QAC [])
 (.block 0 (.loop (.seq (.seq (.reg QAB [7, 8, 9])
 (.cond (.t 10)
 .skip
 (.exit 0)))
 (.seq (.block 1 (.seq (.reg QAA [13, 14, 15, 16, 17])
 (.cond (.t 18)
 (.reg QAz [19, 20, 21, 22, 23, 24, 25])
 .skip)))
 (.reg QAy [11, 12]))))))
 (.seq (.reg QAx [26, 27])
 .ret))))⟩
abbrev Qax : Nat := 15
/- proofmark/relate.Within -/
def zqd_0 : AT := (zr 4 (.mov (.c (.bool false)))
 .done)
def zqd_1 : AT := (zm 6 1
 (zk 7 34 [.t 6]
 (.wr false (some 5) none (.new 71 [(.val (.map none))])
 (.wr false none none (.store 1 (.t 5) (.t 7))
 .done))))
def zqd_2 : AT := (zm 8 0
 (zr 9 (.mkfn (.func 38) [] [(.t 5)])
 (zk 10 37 [.t 8, .t 9]
 (zr 11 (.un .not (.t 10))
 (zm 4 11
 .done)))))
def ZD : AF := ⟨12, [.tmp 4],
 (.seq (.reg zqd_0 [])
 (.seq (.reg zqd_1 [6, 7])
 (.seq (.reg zqd_2 [8, 9, 10, 11])
 .ret)))⟩
abbrev QeT : Nat := 16
/- proofmark/proofmarklaw25.function -/
def zqe_0 : AT := (.wr false (some 2) none (.new 39 [(.str []), (.int .i64 0), (.lst 0 [] true), (.int .i64 0), (.lst 0 [] true)])
 .done)
def zqe_1 : AT := (zm 7 0
 (zr 8 (.bin .rem (.t 7) (zu 5))
 (zr 9 (.conv .i64 (.t 8))
 (zm 3 9
 .done))))
def zqe_2 : AT := (zr 10 (.build [(.int .u8 0), (.int .u8 0), (.int .u8 0), (.int .u8 0), (.int .i64 0)] [(0, 1, (zu 4)), (2, 1, (zu 1))])
 (.wr false (some 11) none (.bsl false true 77 5 [(.int .u8 0), (.int .u8 0), (.int .u8 0), (.int .u8 0), (.int .i64 0)] 1 [(0, 5, (.t 10))])
 (.wr false (some 12) none (.bsl false false 36 1 [(.lst 0 [] true)] 1 [(0, 1, (.t 11))])
 (zm 4 12
 .done))))
def zqe_3 : AT := (zm 13 3
 (zr 14 (.bin .gtr (.t 13) (zi 0))
 .done))
def zqe_4 : AT := (zm 15 3
 (zr 16 (.bin .mul (.c (.int .i64 (-8))) (.t 15))
 (zr 17 (.build [(.int .u8 0), (.int .u8 0), (.int .u8 0), (.int .u8 0), (.int .i64 0)] [(0, 1, (zu 22)), (1, 1, (zu 2)), (2, 1, (zu 2)), (4, 1, (.t 16))])
 (zm 18 3
 (zr 19 (.bin .mul (zi 8) (.t 18))
 (zr 20 (.build [(.int .u8 0), (.int .u8 0), (.int .u8 0), (.int .u8 0), (.int .i64 0)] [(0, 1, (zu 22)), (1, 1, (zu 2)), (2, 1, (zu 2)), (4, 1, (.t 19))])
 (zr 21 (.build [(.int .u8 0), (.int .u8 0), (.int .u8 0), (.int .u8 0), (.int .i64 0)] [(0, 1, (zu 4)), (2, 1, (zu 1))])
 (.wr false (some 22) none (.bsl false true 77 5 [(.int .u8 0), (.int .u8 0), (.int .u8 0), (.int .u8 0), (.int .i64 0)] 3 [(0, 5, (.t 17)), (5, 5, (.t 20)), (10, 5, (.t 21))])
 (.wr false (some 23) none (.bsl false false 36 1 [(.lst 0 [] true)] 1 [(0, 1, (.t 22))])
 (zm 4 23
 .done))))))))))
def zqe_5 : AT := (zm 25 4
 (zk 26 40 [.t 25, (zi 0)]
 (zk 27 39 [.t 26]
 (zm 24 27
 (zr 28 (.extr (.t 24) 0)
 (zr 29 (.extr (.t 24) 1)
 (.wr false (some 6) none (.new 82 [(.int .i64 0), (.int .i64 0), (.int .i64 0)])
 (zm 5 28
 (.wr false none none (.store 3 (.t 6) (.t 29))
 .done)))))))))
def zqe_6 : AT := (zm 30 5
 (zr 31 (.len 0 (.t 30))
 (zr 32 (.bin .neq (.t 31) (zi 1))
 .done)))
def zqe_7 : AT := (zr 33 (.build [(.str []), (.int .i64 0), (.lst 0 [] true), (.int .i64 0), (.lst 0 [] true)] [])
 (.wr false none none (.store 5 (.t 2) (.t 33))
 .done))
def zqe_8 : AT := (zm 34 5
 (zr 35 (.iaddr none 5 (.t 34) (zi 0))
 (zr 36 (.load true 5 (.t 35))
 (.wr false none none (.store 5 (.t 2) (.t 36))
 .done))))
def XW : AF := ⟨37, [.cell 2 true 5],
 (.seq (.reg zqe_0 [])
 (.seq (.reg zqe_1 [7, 8, 9])
 (.seq (.reg zqe_2 [10, 11, 12])
 (.seq (.seq (.reg zqe_3 [13])
 (.cond (.t 14)
 (.reg zqe_4 [15, 16, 17, 18, 19, 20, 21, 22, 23])
 .skip))
 (.seq (.reg zqe_5 [25, 26, 27, 24, 28, 29, 6])
 (.seq (.seq (.reg zqe_6 [30, 31])
 (.cond (.t 32)
 (.seq (.reg zqe_7 [33])
 .ret)
 .skip))
 (.seq (.reg zqe_8 [34, 35, 36])
 .ret)))))))⟩
abbrev QT : Nat := 17
/- proofmark/term.New -/
def zqf_0 : AT := (zr 0 (.mov (.c (.val (.pointer none))))
 .done)
def zqf_1 : AT := (.wr false (some 1) none .mkmap
 (zr 2 (.build [(.lst 0 [] true), (.val (.map none)), (.lst 0 [] true), (.lst 0 [] true)] [(1, 1, (.t 1))])
 (.wr false (some 3) none (.box 93 (.t 2))
 (zm 0 3
 .done))))
def QgV : AF := ⟨4, [.tmp 0],
 (.seq (.reg zqf_0 [])
 (.seq (.reg zqf_1 [1, 2, 3])
 .ret))⟩
abbrev QmC : Nat := 18
/- proofmark/relate.Fresh -/
def Qdj : AT := (.wr false (some 6) none (.box 41 (.t 0))
 (.wr false (some 8) none (.box 3 (.t 2))
 (.wr false (some 9) none (.box 39 (.t 3))
 (.wr false (some 12) none (.new 49 [(.lst 0 [] true), (.int .i64 0), (.int .i64 0), (.int .i64 0), (.int .i64 0), (.int .i64 0), (.int .i64 0), (.int .i64 0), (.int .i64 0), (.int .i64 0), (.int .i64 0), (.int .i64 0), (.int .i64 0), (.int .i64 0), (.int .i64 0), (.int .i64 0), (.int .i64 0), (.int .i64 0), (.int .i64 0), (.int .i64 0), (.int .i64 0), (.int .i64 0), (.int .i64 0), (.int .i64 0), (.int .i64 0), (.int .i64 0), (.int .i64 0), (.int .i64 0), (.int .i64 0), (.int .i64 0), (.int .i64 0), (.int .i64 0), (.int .i64 0), (.int .i64 0), (.lst 0 [] true), (.bool false)])
 (zr 13 (.mov (zi 0))
 .done)))))
def Qdi : AT := (zr 31 (.load false 1 (.t 6))
 (zr 32 (.load true 5 (.t 9))
 (zm 33 4
 (zm 34 5
 (zk 35 24 [.t 31, .t 32, .t 33, .t 34]
 (zm 30 35
 (zr 36 (.extr (.t 30) 0)
 (zr 37 (.extr (.t 30) 1)
 (.wr false (some 14) none (.new 47 [(.int .i64 0), (.int .i64 0), (.int .i64 0), (.int .i64 0), (.int .i64 0), (.int .i64 0), (.int .i64 0), (.int .i64 0), (.int .i64 0), (.int .i64 0), (.int .i64 0), (.int .i64 0), (.int .i64 0), (.int .i64 0), (.int .i64 0), (.int .i64 0), (.int .i64 0), (.int .i64 0), (.int .i64 0), (.int .i64 0), (.int .i64 0), (.int .i64 0), (.int .i64 0), (.int .i64 0), (.int .i64 0), (.int .i64 0), (.int .i64 0), (.int .i64 0), (.int .i64 0), (.int .i64 0), (.int .i64 0), (.int .i64 0), (.lst 0 [] true), (.bool false)])
 (.wr false (some 15) none (.new 2 [(.int .i64 0)])
 (.wr false none none (.store 34 (.t 14) (.t 36))
 (.wr false none none (.store 1 (.t 15) (.t 37))
 .done))))))))))))
def Qdh : AT := (zr 38 (.load false 1 (.t 8))
 (zr 39 (.maxi (zi 0) (.t 38))
 (zr 41 (.load true 34 (.t 14))
 (.alt (.wr true (some 40) none (.mksl 44 1 8 [(.int .i64 0)] (.t 39) (.t 39))
 (zr 42 (.build [(.lst 0 [] true), (.int .i64 0), (.int .i64 0), (.int .i64 0), (.int .i64 0), (.int .i64 0), (.int .i64 0), (.int .i64 0), (.int .i64 0), (.int .i64 0), (.int .i64 0), (.int .i64 0), (.int .i64 0), (.int .i64 0), (.int .i64 0), (.int .i64 0), (.int .i64 0), (.int .i64 0), (.int .i64 0), (.int .i64 0), (.int .i64 0), (.int .i64 0), (.int .i64 0), (.int .i64 0), (.int .i64 0), (.int .i64 0), (.int .i64 0), (.int .i64 0), (.int .i64 0), (.int .i64 0), (.int .i64 0), (.int .i64 0), (.int .i64 0), (.int .i64 0), (.lst 0 [] true), (.bool false)] [(0, 1, (.t 40)), (2, 34, (.t 41))])
 (.wr true (some 16) none (.new 49 [(.lst 0 [] true), (.int .i64 0), (.int .i64 0), (.int .i64 0), (.int .i64 0), (.int .i64 0), (.int .i64 0), (.int .i64 0), (.int .i64 0), (.int .i64 0), (.int .i64 0), (.int .i64 0), (.int .i64 0), (.int .i64 0), (.int .i64 0), (.int .i64 0), (.int .i64 0), (.int .i64 0), (.int .i64 0), (.int .i64 0), (.int .i64 0), (.int .i64 0), (.int .i64 0), (.int .i64 0), (.int .i64 0), (.int .i64 0), (.int .i64 0), (.int .i64 0), (.int .i64 0), (.int .i64 0), (.int .i64 0), (.int .i64 0), (.int .i64 0), (.int .i64 0), (.lst 0 [] true), (.bool false)])
 (.wr false none none (.store 36 (.t 16) (.t 42))
 .done)))) (.wr true (some 16) none (.new 49 [(.lst 0 [] true), (.int .i64 0), (.int .i64 0), (.int .i64 0), (.int .i64 0), (.int .i64 0), (.int .i64 0), (.int .i64 0), (.int .i64 0), (.int .i64 0), (.int .i64 0), (.int .i64 0), (.int .i64 0), (.int .i64 0), (.int .i64 0), (.int .i64 0), (.int .i64 0), (.int .i64 0), (.int .i64 0), (.int .i64 0), (.int .i64 0), (.int .i64 0), (.int .i64 0), (.int .i64 0), (.int .i64 0), (.int .i64 0), (.int .i64 0), (.int .i64 0), (.int .i64 0), (.int .i64 0), (.int .i64 0), (.int .i64 0), (.int .i64 0), (.int .i64 0), (.lst 0 [] true), (.bool false)])
 (.wr true (some 40) none (.mksl 44 1 8 [(.int .i64 0)] (.t 39) (.t 39))
 (zr 42 (.build [(.lst 0 [] true), (.int .i64 0), (.int .i64 0), (.int .i64 0), (.int .i64 0), (.int .i64 0), (.int .i64 0), (.int .i64 0), (.int .i64 0), (.int .i64 0), (.int .i64 0), (.int .i64 0), (.int .i64 0), (.int .i64 0), (.int .i64 0), (.int .i64 0), (.int .i64 0), (.int .i64 0), (.int .i64 0), (.int .i64 0), (.int .i64 0), (.int .i64 0), (.int .i64 0), (.int .i64 0), (.int .i64 0), (.int .i64 0), (.int .i64 0), (.int .i64 0), (.int .i64 0), (.int .i64 0), (.int .i64 0), (.int .i64 0), (.int .i64 0), (.int .i64 0), (.lst 0 [] true), (.bool false)] [(0, 1, (.t 40)), (2, 34, (.t 41))])
 (.wr false none none (.store 36 (.t 16) (.t 42))
 .done))))))))
def Qdg : AT := (.wr false (some 43) none .mkmap
 (zr 44 (.build [(.val (.map none))] [(0, 1, (.t 43))])
 (.wr false (some 17) none (.new 96 [(.val (.map none))])
 (.wr false none none (.store 1 (.t 17) (.t 44))
 .done))))
def Qdf : AT := (zm 45 1
 (zk 46 12 [.t 45]
 (zr 47 (.mkfn (.func 41) [] [(.t 8), (.t 14)])
 (zk 48 35 [.t 46, .t 47]
 (zm 1 48
 .done)))))
def Qde : AT := (zm 49 1
 (zr 50 (.len 0 (.t 49))
 (zr 51 (.mov (zi 0))
 .done)))
def Qcm : AT := (zr 52 (.bin .lss (.t 51) (.t 50))
 .done)
def QcM : AT := (zr 53 (.iaddr none 3 (.t 49) (.t 51))
 (zr 54 (.load true 3 (.t 53))
 (.wr false (some 19) none (.new 64 [(.int .i64 0), (.int .u8 0), (.int .i64 0)])
 (.wr false none none (.store 3 (.t 19) (.t 54))
 .done))))
def QcL : AT := (zr 55 (.load true 1 (.t 17))
 (zr 56 (.faddr 0 (.t 19))
 (zr 57 (.load false 1 (.t 56))
 (zr 58 (.build [(.int .i64 0), (.int .u8 0), (.int .i64 0)] [(0, 1, (.t 57))])
 (zr 59 (.faddr 1 (.t 19))
 (zr 60 (.load true 2 (.t 59))
 (zr 61 (.build [(.int .i64 0), (.int .u8 0), (.int .i64 0)] [(1, 2, (.t 60))])
 (zk 62 43 [.t 55, .t 58, .t 61]
 .done))))))))
def QcK : AT := (zr 63 (.bin .add (.t 51) (zi 1))
 (zm 51 63
 .done))
def Zv : AT := (.wr false (some 64) none .mkmap
 (.wr false (some 20) none (.new 101 [(.val (.map none))])
 (.wr false none none (.store 1 (.t 20) (.t 64))
 .done)))
def Zu : AT := (zm 65 1
 (zr 66 (.len 0 (.t 65))
 (zr 67 (.mov (zi 0))
 .done)))
def Y0 : AT := (zr 68 (.bin .lss (.t 67) (.t 66))
 .done)
def Zn : AT := (zr 69 (.iaddr none 3 (.t 65) (.t 67))
 (zr 70 (.load true 3 (.t 69))
 (.wr false (some 22) none (.new 64 [(.int .i64 0), (.int .u8 0), (.int .i64 0)])
 (.wr false none none (.store 3 (.t 22) (.t 70))
 .done))))
def Zm : AT := (zr 71 (.load true 1 (.t 17))
 (zr 72 (.faddr 0 (.t 22))
 (zr 73 (.load false 1 (.t 72))
 (zr 74 (.build [(.int .i64 0), (.int .u8 0), (.int .i64 0)] [(0, 1, (.t 73))])
 (zk 75 44 [.t 71, .t 74]
 (.wr false (some 23) none (.new 100 [(.int .i64 0), (.int .u8 0), (.int .i64 0)])
 (.wr false none none (.store 3 (.t 23) (.t 75))
 .done)))))))
def Zl : AT := (zr 77 (.load false 1 (.t 20))
 (zr 78 (.load true 3 (.t 23))
 (zr 79 (.look true true [.i, .i, .i] (.int .i64 0) (.t 77) (.t 78))
 (zm 76 79
 (zr 80 (.extr (.t 76) 0)
 (zr 81 (.extr (.t 76) 1)
 (zm 24 80
 (zm 25 81
 .done))))))))
def Zk : AT := (zm 82 25
 (zr 83 (.un .not (.t 82))
 (zm 84 83
 (zt 85 84 (.faddr 1 (.t 22))
 (zt 86 84 (.faddr 0 (.t 85))
 (zt 87 84 (.load false 1 (.t 86))
 (zt 88 84 (.bin .eql (.t 87) (zu 3))
 (zr 89 (.pick (.t 84) (.t 88) (.c (.bool false)))
 .done))))))))
def Zj : AT := (zr 92 (.load false 1 (.t 6))
 (zr 93 (.faddr 1 (.t 22))
 (zr 94 (.faddr 1 (.t 93))
 (zr 95 (.load false 1 (.t 94))
 (.alt (zr 90 (.load false 1 (.t 20))
 (.alt (zr 91 (.load true 3 (.t 23))
 (zk 96 20 [.t 92, .t 95]
 (.wr false none none (.mapup true [.i, .i, .i] (.t 90) (.t 91) (.t 96))
 .done))) (zk 96 20 [.t 92, .t 95]
 (zr 91 (.load true 3 (.t 23))
 (.wr false none none (.mapup true [.i, .i, .i] (.t 90) (.t 91) (.t 96))
 .done))))) (.alt (zr 91 (.load true 3 (.t 23))
 (.alt (zr 90 (.load false 1 (.t 20))
 (zk 96 20 [.t 92, .t 95]
 (.wr false none none (.mapup true [.i, .i, .i] (.t 90) (.t 91) (.t 96))
 .done))) (zk 96 20 [.t 92, .t 95]
 (zr 90 (.load false 1 (.t 20))
 (.wr false none none (.mapup true [.i, .i, .i] (.t 90) (.t 91) (.t 96))
 .done))))) (zk 96 20 [.t 92, .t 95]
 (.alt (zr 90 (.load false 1 (.t 20))
 (zr 91 (.load true 3 (.t 23))
 (.wr false none none (.mapup true [.i, .i, .i] (.t 90) (.t 91) (.t 96))
 .done))) (zr 91 (.load true 3 (.t 23))
 (zr 90 (.load false 1 (.t 20))
 (.wr false none none (.mapup true [.i, .i, .i] (.t 90) (.t 91) (.t 96))
 .done)))))))))))
def Zi : AT := (zr 97 (.bin .add (.t 67) (zi 1))
 (zm 67 97
 .done))
def Zh : AT := (zr 98 (.mkfn (.func 45) [] [(.t 17), (.t 20), (.t 6), (.t 15)])
 (zm 26 98
 .done))
def Zg : AT := (zm 99 26
 (zr 100 (.build [(.int .i64 0), (.int .u8 0), (.int .i64 0)] [(0, 1, (.c (.int .i64 (-1))))])
 (.cl false (some 101) none (.t 99) [(.t 100)]
 (zr 102 (.faddr 1 (.t 16))
 (.wr false none none (.store 1 (.t 102) (.t 101))
 .done)))))
def YZ : AT := (zr 103 (.faddr 0 (.t 16))
 (zr 104 (.load false 1 (.t 103))
 (zr 105 (.len 0 (.t 104))
 (zr 106 (.mov (zi 0))
 .done))))
def Yo : AT := (zr 107 (.bin .lss (.t 106) (.t 105))
 .done)
def Yv : AT := (zm 108 106
 (zm 27 108
 .done))
def Yu : AT := (zr 109 (.faddr 0 (.t 16))
 (zm 111 27
 (zm 112 26
 (zm 113 27
 (zr 114 (.build [(.int .i64 0), (.int .u8 0), (.int .i64 0)] [(0, 1, (.t 113))])
 (.alt (zr 110 (.load false 1 (.t 109))
 (.cl false (some 115) none (.t 112) [(.t 114)]
 (zr 116 (.iaddr none 1 (.t 110) (.t 111))
 (.wr false none none (.store 1 (.t 116) (.t 115))
 .done)))) (.cl false (some 115) none (.t 112) [(.t 114)]
 (zr 110 (.load false 1 (.t 109))
 (zr 116 (.iaddr none 1 (.t 110) (.t 111))
 (.wr false none none (.store 1 (.t 116) (.t 115))
 .done))))))))))
def Yt : AT := (zr 117 (.bin .add (.t 106) (zi 1))
 (zm 106 117
 .done))
def Zt : AT := (zm 118 1
 (zr 119 (.len 0 (.t 118))
 (zr 120 (.mov (zi 0))
 .done)))
def Xq : AT := (zr 121 (.bin .lss (.t 120) (.t 119))
 .done)
def XE : AT := (zr 122 (.iaddr none 3 (.t 118) (.t 120))
 (zr 123 (.load true 3 (.t 122))
 (.wr false (some 29) none (.new 64 [(.int .i64 0), (.int .u8 0), (.int .i64 0)])
 (.wr false none none (.store 3 (.t 29) (.t 123))
 .done))))
def XD : AT := (zr 124 (.faddr 1 (.t 29))
 (zr 125 (.faddr 0 (.t 124))
 (zr 126 (.load false 1 (.t 125))
 .done)))
def XC : AT := (zr 128 (.bin .eql (.t 126) (zu 1))
 (zm 127 128
 .done))
def XB : AT := (zr 129 (.faddr 1 (.t 29))
 (zr 130 (.faddr 1 (.t 129))
 (zm 132 26
 (zr 133 (.faddr 1 (.t 29))
 (zr 134 (.load true 2 (.t 133))
 (zr 135 (.build [(.int .i64 0), (.int .u8 0), (.int .i64 0)] [(1, 2, (.t 134))])
 (zr 137 (.faddr 2 (.t 16))
 (zr 138 (.faddr 0 (.t 137))
 (.alt (zr 131 (.load false 1 (.t 130))
 (.cl false (some 136) none (.t 132) [(.t 135)]
 (zr 139 (.iaddr (some 32) 1 (.t 138) (.t 131))
 (.wr false none none (.store 1 (.t 139) (.t 136))
 .done)))) (.cl false (some 136) none (.t 132) [(.t 135)]
 (zr 131 (.load false 1 (.t 130))
 (zr 139 (.iaddr (some 32) 1 (.t 138) (.t 131))
 (.wr false none none (.store 1 (.t 139) (.t 136))
 .done)))))))))))))
def XA : AT := (zr 141 (.bin .eql (.t 126) (zu 2))
 (zm 140 141
 .done))
def Xz : AT := (zr 142 (.faddr 2 (.t 16))
 (zr 143 (.faddr 32 (.t 142))
 (zr 145 (.faddr 1 (.t 29))
 (zr 146 (.faddr 1 (.t 145))
 (zm 148 26
 (zr 149 (.faddr 1 (.t 29))
 (zr 150 (.load true 2 (.t 149))
 (zr 151 (.build [(.int .i64 0), (.int .u8 0), (.int .i64 0)] [(1, 2, (.t 150))])
 (.alt (zr 144 (.load false 1 (.t 143))
 (.alt (zr 147 (.load false 1 (.t 146))
 (.cl false (some 152) none (.t 148) [(.t 151)]
 (zr 153 (.iaddr none 1 (.t 144) (.t 147))
 (.wr false none none (.store 1 (.t 153) (.t 152))
 .done)))) (.cl false (some 152) none (.t 148) [(.t 151)]
 (zr 147 (.load false 1 (.t 146))
 (zr 153 (.iaddr none 1 (.t 144) (.t 147))
 (.wr false none none (.store 1 (.t 153) (.t 152))
 .done)))))) (.alt (zr 147 (.load false 1 (.t 146))
 (.alt (zr 144 (.load false 1 (.t 143))
 (.cl false (some 152) none (.t 148) [(.t 151)]
 (zr 153 (.iaddr none 1 (.t 144) (.t 147))
 (.wr false none none (.store 1 (.t 153) (.t 152))
 .done)))) (.cl false (some 152) none (.t 148) [(.t 151)]
 (zr 144 (.load false 1 (.t 143))
 (zr 153 (.iaddr none 1 (.t 144) (.t 147))
 (.wr false none none (.store 1 (.t 153) (.t 152))
 .done)))))) (.cl false (some 152) none (.t 148) [(.t 151)]
 (.alt (zr 144 (.load false 1 (.t 143))
 (zr 147 (.load false 1 (.t 146))
 (zr 153 (.iaddr none 1 (.t 144) (.t 147))
 (.wr false none none (.store 1 (.t 153) (.t 152))
 .done)))) (zr 147 (.load false 1 (.t 146))
 (zr 144 (.load false 1 (.t 143))
 (zr 153 (.iaddr none 1 (.t 144) (.t 147))
 (.wr false none none (.store 1 (.t 153) (.t 152))
 .done))))))))))))))))
def Xy : AT := (zr 154 (.bin .add (.t 120) (zi 1))
 (zm 120 154
 .done))
def ZU : AT := (zr 155 (.load true 36 (.t 16))
 (.alt (zr 156 (.load false 1 (.t 15))
 (.wr false none none (.store 36 (.t 12) (.t 155))
 (zm 13 156
 .done))) (.wr false none none (.store 36 (.t 12) (.t 155))
 (zr 156 (.load false 1 (.t 15))
 (zm 13 156
 .done)))))
def relate_Fresh : AF := ⟨157, [.cell 12 true 36, .tmp 13],
 (.seq (.reg Qdj [])
 (.seq (.reg Qdi [31, 32, 33, 34, 35, 30, 36, 37])
 (.seq (.reg Qdh [38, 39, 40, 41, 42])
 (.seq (.reg Qdg [43, 44])
 (.seq (.reg Qdf [45, 46, 47, 48])
 (.seq (.seq (.reg Qde [])
 (.block 0 (.loop (.seq (.reg Qcm [])
 (.seq (.cond (.t 52)
 .skip
 (.exit 0))
 (.seq (.block 1 (.seq (.reg QcM [53, 54])
 (.reg QcL [55, 56, 57, 58, 59, 60, 61, 62])))
 (.reg QcK [63])))))))
 (.seq (.reg Zv [64])
 (.seq (.seq (.reg Zu [])
 (.block 2 (.loop (.seq (.reg Y0 [])
 (.seq (.cond (.t 68)
 .skip
 (.exit 2))
 (.seq (.block 3 (.seq (.reg Zn [69, 70])
 (.seq (.reg Zm [71, 72, 73, 74, 75])
 (.seq (.reg Zl [77, 78, 79, 76, 80, 81, 24])
 (.seq (.reg Zk [82, 83, 84, 85, 86, 87, 88])
 (.cond (.t 89)
 (.reg Zj [90, 91, 92, 93, 94, 95, 96])
 .skip))))))
 (.reg Zi [97])))))))
 (.seq (.reg Zh [98])
 (.seq (.reg Zg [99, 100, 101, 102])
 (.seq (.seq (.reg YZ [103, 104])
 (.block 4 (.loop (.seq (.reg Yo [])
 (.seq (.cond (.t 107)
 .skip
 (.exit 4))
 (.seq (.block 5 (.seq (.reg Yv [108])
 (.reg Yu [109, 110, 111, 112, 113, 114, 115, 116])))
 (.reg Yt [117])))))))
 (.seq (.seq (.reg Zt [])
 (.block 6 (.loop (.seq (.reg Xq [])
 (.seq (.cond (.t 121)
 .skip
 (.exit 6))
 (.seq (.block 7 (.seq (.reg XE [122, 123])
 (.seq (.reg XD [124, 125])
 (.block 8 (.seq (.reg XC [128])
 (.cond (.t 127)
 (.reg XB [129, 130, 131, 132, 133, 134, 135, 136, 137, 138, 139])
 (.seq (.reg XA [141])
 (.cond (.t 140)
 (.reg Xz [142, 143, 144, 145, 146, 147, 148, 149, 150, 151, 152, 153])
 .skip))))))))
 (.reg Xy [154])))))))
 (.seq (.reg ZU [155, 156])
 .ret)))))))))))))⟩
abbrev Qam : Nat := 19
/- proofmark/norm.Const -/
def zqh_0 : AT := (zr 4 (.mov (zi 0))
 .done)
def zqh_1 : AT := (zm 5 0
 (zm 6 1
 (zr 7 (.build [(.int .u8 0), (.int .i64 0), (.int .i64 0), (.int .u8 0), (.int .i64 0), (.int .i64 0)] [(0, 1, (zu 1)), (1, 1, (.t 6))])
 (zk 8 46 [.t 5, .t 7]
 (zm 4 8
 .done)))))
def QcW : AF := ⟨9, [.tmp 4],
 (.seq (.reg zqh_0 [])
 (.seq (.reg zqh_1 [5, 6, 7, 8])
 .ret))⟩
abbrev QiL : Nat := 20
abbrev QnU : Nat := 21
abbrev n_proofmarklaw25_holds : Nat := 22
abbrev QnV : Nat := 23
/- proofmark/lift.Begin -/
def zql_0 : AT := (.wr false (some 4) none (.box 41 (.t 0))
 (.wr false (some 5) none (.box 39 (.t 1))
 (.wr false (some 7) none (.box 2 (.t 3))
 (.wr false (some 8) none (.new 47 [(.int .i64 0), (.int .i64 0), (.int .i64 0), (.int .i64 0), (.int .i64 0), (.int .i64 0), (.int .i64 0), (.int .i64 0), (.int .i64 0), (.int .i64 0), (.int .i64 0), (.int .i64 0), (.int .i64 0), (.int .i64 0), (.int .i64 0), (.int .i64 0), (.int .i64 0), (.int .i64 0), (.int .i64 0), (.int .i64 0), (.int .i64 0), (.int .i64 0), (.int .i64 0), (.int .i64 0), (.int .i64 0), (.int .i64 0), (.int .i64 0), (.int .i64 0), (.int .i64 0), (.int .i64 0), (.int .i64 0), (.int .i64 0), (.lst 0 [] true), (.bool false)])
 (zr 9 (.mov (zi 0))
 .done)))))
def zql_1 : AT := (zr 13 (.load false 1 (.t 7))
 (zr 14 (.maxi (zi 0) (.t 13))
 (.wr false none none (.store 1 (.t 7) (.t 14))
 .done)))
def zql_2 : AT := (zr 15 (.mkfn (.func 50) [] [(.t 7), (.t 4)])
 (zm 10 15
 .done))
def zql_3 : AT := (zr 16 (.faddr 3 (.t 5))
 (zr 17 (.load false 1 (.t 16))
 (zr 18 (.bin .eql (.t 17) (zi 0))
 (zr 19 (.build [(.int .i64 0), (.int .i64 0), (.int .i64 0), (.int .i64 0), (.int .i64 0), (.int .i64 0), (.int .i64 0), (.int .i64 0), (.int .i64 0), (.int .i64 0), (.int .i64 0), (.int .i64 0), (.int .i64 0), (.int .i64 0), (.int .i64 0), (.int .i64 0), (.int .i64 0), (.int .i64 0), (.int .i64 0), (.int .i64 0), (.int .i64 0), (.int .i64 0), (.int .i64 0), (.int .i64 0), (.int .i64 0), (.int .i64 0), (.int .i64 0), (.int .i64 0), (.int .i64 0), (.int .i64 0), (.int .i64 0), (.int .i64 0), (.lst 0 [] true), (.bool false)] [(33, 1, (.t 18))])
 (.wr false (some 11) none (.new 47 [(.int .i64 0), (.int .i64 0), (.int .i64 0), (.int .i64 0), (.int .i64 0), (.int .i64 0), (.int .i64 0), (.int .i64 0), (.int .i64 0), (.int .i64 0), (.int .i64 0), (.int .i64 0), (.int .i64 0), (.int .i64 0), (.int .i64 0), (.int .i64 0), (.int .i64 0), (.int .i64 0), (.int .i64 0), (.int .i64 0), (.int .i64 0), (.int .i64 0), (.int .i64 0), (.int .i64 0), (.int .i64 0), (.int .i64 0), (.int .i64 0), (.int .i64 0), (.int .i64 0), (.int .i64 0), (.int .i64 0), (.int .i64 0), (.lst 0 [] true), (.bool false)])
 (.wr false none none (.store 34 (.t 11) (.t 19))
 .done))))))
def zql_4 : AT := (zr 20 (.mov (zi 0))
 .done)
def QrP : AT := (zr 21 (.bin .lss (.t 20) (zi 32))
 .done)
def QrO : AT := (zm 22 20
 (zm 12 22
 .done))
def QrN : AT := (zm 23 12
 .done)
def QrM : AT := (zr 30 (.bin .eql (.t 23) (zi 0))
 (zm 29 30
 .done))
def QrL : AT := (zm 31 12
 (zr 32 (.load false 1 (.t 4))
 (zk 33 20 [.t 32, (zi 0)]
 (zr 34 (.faddr 0 (.t 11))
 (zr 35 (.iaddr (some 32) 1 (.t 34) (.t 31))
 (.wr false none none (.store 1 (.t 35) (.t 33))
 .done))))))
def Qmt : AT := (zr 37 (.bin .eql (.t 23) (zi 2))
 (zm 36 37
 .done))
def Qms : AT := (zm 38 12
 (zr 39 (.faddr 0 (.t 11))
 (zr 40 (.iaddr (some 32) 1 (.t 39) (.t 38))
 (.wr false none none (.store 1 (.t 40) (.c (.int .i64 (-1))))
 .done))))
def Qmr : AT := (zm 24 12
 (zm 25 10
 (.cl false (some 26) none (.t 25) []
 (zr 27 (.faddr 0 (.t 11))
 (zr 28 (.iaddr (some 32) 1 (.t 27) (.t 24))
 (.wr false none none (.store 1 (.t 28) (.t 26))
 .done))))))
def Qmq : AT := (zr 41 (.bin .add (.t 20) (zi 1))
 (zm 20 41
 .done))
def Qxy : AT := (zr 42 (.faddr 3 (.t 5))
 (zr 43 (.load false 1 (.t 42))
 (zr 44 (.bin .quo (.t 43) (zi 8))
 (zm 45 2
 (zr 46 (.mini (.t 45) (zi 6))
 (zr 47 (.maxi (zi 0) (.t 46))
 (zr 48 (.bin .add (.t 44) (.t 47))
 (zr 49 (.mov (zi 0))
 .done))))))))
def QqR : AT := (zr 50 (.bin .lss (.t 49) (.t 48))
 .done)
def QqQ : AT := (zr 51 (.faddr 32 (.t 11))
 (zm 53 10
 (.alt (zr 52 (.load false 1 (.t 51))
 (.cl false (some 54) none (.t 53) []
 (.wr true (some 55) none (.bsl false false 44 1 [(.int .i64 0)] 1 [(0, 1, (.t 54))])
 (.wr false (some 56) none (.app 44 1 8 false (.t 52) (.t 55))
 (zr 57 (.faddr 32 (.t 11))
 (.wr false none none (.store 1 (.t 57) (.t 56))
 .done)))))) (.cl false (some 54) none (.t 53) []
 (.alt (zr 52 (.load false 1 (.t 51))
 (.wr true (some 55) none (.bsl false false 44 1 [(.int .i64 0)] 1 [(0, 1, (.t 54))])
 (.wr false (some 56) none (.app 44 1 8 false (.t 52) (.t 55))
 (zr 57 (.faddr 32 (.t 11))
 (.wr false none none (.store 1 (.t 57) (.t 56))
 .done))))) (.wr true (some 55) none (.bsl false false 44 1 [(.int .i64 0)] 1 [(0, 1, (.t 54))])
 (zr 52 (.load false 1 (.t 51))
 (.wr false (some 56) none (.app 44 1 8 false (.t 52) (.t 55))
 (zr 57 (.faddr 32 (.t 11))
 (.wr false none none (.store 1 (.t 57) (.t 56))
 .done))))))))))
def QqP : AT := (zr 58 (.bin .add (.t 49) (zi 1))
 (zm 49 58
 .done))
def Qxx : AT := (zr 59 (.load true 34 (.t 11))
 (.alt (zr 60 (.load false 1 (.t 7))
 (.wr false none none (.store 34 (.t 8) (.t 59))
 (zm 9 60
 .done))) (.wr false none none (.store 34 (.t 8) (.t 59))
 (zr 60 (.load false 1 (.t 7))
 (zm 9 60
 .done)))))
def Qc0 : AF := ⟨61, [.cell 8 true 34, .tmp 9],
 (.seq (.reg zql_0 [])
 (.seq (.reg zql_1 [13, 14])
 (.seq (.reg zql_2 [15])
 (.seq (.reg zql_3 [16, 17, 18, 19])
 (.seq (.seq (.reg zql_4 [])
 (.block 0 (.loop (.seq (.reg QrP [])
 (.seq (.cond (.t 21)
 .skip
 (.exit 0))
 (.seq (.block 1 (.seq (.reg QrO [22])
 (.seq (.reg QrN [])
 (.block 2 (.seq (.reg QrM [30])
 (.cond (.t 29)
 (.reg QrL [31, 32, 33, 34, 35])
 (.seq (.reg Qmt [37])
 (.cond (.t 36)
 (.reg Qms [38, 39, 40])
 (.reg Qmr [24, 25, 26, 27, 28])))))))))
 (.reg Qmq [41])))))))
 (.seq (.seq (.reg Qxy [42, 43, 44, 45, 46, 47])
 (.block 3 (.loop (.seq (.reg QqR [])
 (.seq (.cond (.t 50)
 .skip
 (.exit 3))
 (.seq (.block 4 (.reg QqQ [51, 52, 53, 54, 55, 56, 57]))
 (.reg QqP [58])))))))
 (.seq (.reg Qxx [59, 60])
 .ret)))))))⟩
abbrev QeX : Nat := 24
/- proofmark/norm.Sym -/
def zqm_0 : AT := (zr 4 (.mov (zi 0))
 .done)
def zqm_1 : AT := (zm 5 0
 (zm 6 1
 (zr 7 (.build [(.int .u8 0), (.int .i64 0), (.int .i64 0), (.int .u8 0), (.int .i64 0), (.int .i64 0)] [(0, 1, (zu 2)), (1, 1, (.t 6))])
 (zk 8 46 [.t 5, .t 7]
 (zm 4 8
 .done)))))
def Qg9 : AF := ⟨9, [.tmp 4],
 (.seq (.reg zqm_0 [])
 (.seq (.reg zqm_1 [5, 6, 7, 8])
 .ret))⟩
abbrev QmE : Nat := 25
abbrev QzQ : Nat := 26
abbrev Qp4 : Nat := 27
abbrev Qoi : Nat := 28
/- slices.Clone[[]proofmark/relate.Pair,proofmark/relate.Pair] -/
def zqq_0 : AT := (zr 2 (.mov (.c (.lst 0 [] true)))
 .done)
def zqq_1 : AT := (zm 3 0
 (zr 4 (.eqn false (.t 3))
 .done))
def zqq_2 : AT := (zr 2 (.mov (.c (.lst 0 [] true)))
 .done)
def zqq_3 : AT := (.wr false (some 5) none (.bsl false true 64 3 [(.int .i64 0), (.int .u8 0), (.int .i64 0)] 0 [])
 (zm 6 0
 (.wr false (some 7) none (.app 64 3 24 false (.t 5) (.t 6))
 (zm 2 7
 .done))))
def Qr : AF := ⟨8, [.tmp 2],
 (.seq (.reg zqq_0 [])
 (.seq (.seq (.reg zqq_1 [3])
 (.cond (.t 4)
 (.seq (.reg zqq_2 [])
 .ret)
 .skip))
 (.seq (.reg zqq_3 [5, 6, 7])
 .ret)))⟩
abbrev Xg : Nat := 29
/- slices.SortFunc[[]proofmark/relate.Pair,proofmark/relate.Pair] -/
def zqr_0 : AT := (zm 5 0
 (zr 6 (.len 0 (.t 5))
 (zm 4 6
 .done)))
def zqr_1 : AT := (zm 7 0
 (zm 8 4
 (zm 9 4
 (zr 10 (.conv .u64 (.t 9))
 (zk 11 54 [.t 10]
 (zm 12 1
 (zk 13 53 [.t 7, (zi 0), .t 8, .t 11, .t 12]
 .done)))))))
def QK : AF := ⟨14, [],
 (.seq (.reg zqr_0 [5, 6])
 (.reg zqr_1 [7, 8, 9, 10, 11, 12, 13]))⟩
abbrev Q5 : Nat := 30
abbrev QvF : Nat := 31
/- slices.Compact[[]proofmark/relate.Pair,proofmark/relate.Pair] -/
def QAw : AT := (zr 2 (.mov (.c (.lst 0 [] true)))
 .done)
def QAv : AT := (zm 6 0
 (zr 7 (.len 0 (.t 6))
 (zr 8 (.bin .lss (.t 7) (zi 2))
 .done)))
def QAu : AT := (zm 9 0
 (zm 2 9
 .done))
def QAt : AT := (zr 3 (.mov (zi 1))
 .done)
def QAs : AT := (zm 10 3
 (zm 11 0
 (zr 12 (.len 0 (.t 11))
 (zr 13 (.bin .lss (.t 10) (.t 12))
 .done))))
def QAr : AT := (zm 16 0
 (zm 17 3
 (zr 18 (.iaddr none 3 (.t 16) (.t 17))
 (zr 19 (.load true 3 (.t 18))
 (zm 20 0
 (zm 21 3
 (zr 22 (.bin .sub (.t 21) (zi 1))
 (zr 23 (.iaddr none 3 (.t 20) (.t 22))
 (zr 24 (.load true 3 (.t 23))
 (zr 25 (.eqs false [.i, .i, .i] (.t 19) (.t 24))
 .done))))))))))
def QAq : AT := (zm 26 0
 (zm 27 3
 (zr 28 (.slc 3 (.t 26) (some (.t 27)) none none)
 (zm 4 28
 .done))))
def QAp : AT := (zr 5 (.mov (zi 1))
 .done)
def Qpy : AT := (zm 29 5
 (zm 30 4
 (zr 31 (.len 0 (.t 30))
 (zr 32 (.bin .lss (.t 29) (.t 31))
 .done))))
def Qpx : AT := (zm 35 4
 (zm 36 5
 (zr 37 (.iaddr none 3 (.t 35) (.t 36))
 (zr 38 (.load true 3 (.t 37))
 (zm 39 4
 (zm 40 5
 (zr 41 (.bin .sub (.t 40) (zi 1))
 (zr 42 (.iaddr none 3 (.t 39) (.t 41))
 (zr 43 (.load true 3 (.t 42))
 (zr 44 (.eqs true [.i, .i, .i] (.t 38) (.t 43))
 .done))))))))))
def Qj6 : AT := (zm 45 0
 (zm 46 3
 (zm 47 4
 (zm 48 5
 (zr 49 (.iaddr none 3 (.t 47) (.t 48))
 (zr 50 (.load true 3 (.t 49))
 (zr 51 (.iaddr none 3 (.t 45) (.t 46))
 (.wr false none none (.store 3 (.t 51) (.t 50))
 .done))))))))
def Qj5 : AT := (zm 52 3
 (zr 53 (.bin .add (.t 52) (zi 1))
 (zm 3 53
 .done)))
def Qj4 : AT := (zm 33 5
 (zr 34 (.bin .add (.t 33) (zi 1))
 (zm 5 34
 .done)))
def Qta : AT := (zm 54 0
 (zm 55 3
 (zr 56 (.slc 3 (.t 54) (some (.t 55)) none none)
 (.wr false none none (.clr 3 [(.int .i64 0), (.int .u8 0), (.int .i64 0)] (.t 56))
 .done))))
def Qs9 : AT := (zm 57 0
 (zm 58 3
 (zr 59 (.slc 3 (.t 57) none (some (.t 58)) none)
 (zm 2 59
 .done))))
def Qs8 : AT := (zm 14 3
 (zr 15 (.bin .add (.t 14) (zi 1))
 (zm 3 15
 .done)))
def Qs7 : AT := (zm 60 0
 (zm 2 60
 .done))
def Qk : AF := ⟨61, [.tmp 2],
 (.seq (.reg QAw [])
 (.seq (.seq (.reg QAv [6, 7])
 (.cond (.t 8)
 (.seq (.reg QAu [9])
 .ret)
 .skip))
 (.seq (.seq (.reg QAt [])
 (.block 0 (.loop (.seq (.seq (.reg QAs [10, 11, 12])
 (.cond (.t 13)
 .skip
 (.exit 0)))
 (.seq (.block 1 (.seq (.reg QAr [16, 17, 18, 19, 20, 21, 22, 23, 24])
 (.cond (.t 25)
 (.seq (.reg QAq [26, 27, 28])
 (.seq (.seq (.reg QAp [])
 (.block 2 (.loop (.seq (.seq (.reg Qpy [29, 30, 31])
 (.cond (.t 32)
 .skip
 (.exit 2)))
 (.seq (.block 3 (.seq (.reg Qpx [35, 36, 37, 38, 39, 40, 41, 42, 43])
 (.cond (.t 44)
 (.seq (.reg Qj6 [45, 46, 47, 48, 49, 50, 51])
 (.reg Qj5 [52, 53]))
 .skip)))
 (.reg Qj4 [33, 34]))))))
 (.seq (.reg Qta [54, 55, 56])
 (.seq (.reg Qs9 [57, 58, 59])
 .ret))))
 .skip)))
 (.reg Qs8 [14, 15]))))))
 (.seq (.reg Qs7 [60])
 .ret))))⟩
abbrev Q9 : Nat := 32
/- proofmark/proofmarkref25.Before -/
def QvZ : AT := (.wr false (some 2) none (.box 28 (.t 0))
 (.wr false (some 3) none (.box 28 (.t 1))
 (zr 4 (.mov (.c (.bool false)))
 .done)))
def QvY : AT := (zr 5 (.faddr 0 (.t 2))
 (zr 6 (.load false 1 (.t 5))
 (zr 7 (.faddr 0 (.t 3))
 (zr 8 (.load false 1 (.t 7))
 (zr 9 (.bin .neq (.t 6) (.t 8))
 .done)))))
def QvX : AT := (zr 10 (.faddr 0 (.t 2))
 (zr 11 (.load false 1 (.t 10))
 (zr 12 (.faddr 0 (.t 3))
 (zr 13 (.load false 1 (.t 12))
 (zr 14 (.bin .lss (.t 11) (.t 13))
 (zm 4 14
 .done))))))
def QvW : AT := (zr 15 (.faddr 1 (.t 2))
 (zr 16 (.load false 1 (.t 15))
 (zr 17 (.faddr 1 (.t 3))
 (zr 18 (.load false 1 (.t 17))
 (zr 19 (.bin .neq (.t 16) (.t 18))
 .done)))))
def QvV : AT := (zr 20 (.faddr 1 (.t 2))
 (zr 21 (.load false 1 (.t 20))
 (zr 22 (.faddr 1 (.t 3))
 (zr 23 (.load false 1 (.t 22))
 (zr 24 (.bin .lss (.t 21) (.t 23))
 (zm 4 24
 .done))))))
def QvU : AT := (zr 25 (.faddr 2 (.t 2))
 (zr 26 (.load false 1 (.t 25))
 (zr 27 (.faddr 2 (.t 3))
 (zr 28 (.load false 1 (.t 27))
 (zr 29 (.bin .lss (.t 26) (.t 28))
 (zm 4 29
 .done))))))
def QN : AF := ⟨30, [.tmp 4],
 (.seq (.reg QvZ [])
 (.seq (.seq (.reg QvY [5, 6, 7, 8])
 (.cond (.t 9)
 (.seq (.reg QvX [10, 11, 12, 13, 14])
 .ret)
 .skip))
 (.seq (.seq (.reg QvW [15, 16, 17, 18])
 (.cond (.t 19)
 (.seq (.reg QvV [20, 21, 22, 23, 24])
 .ret)
 .skip))
 (.seq (.reg QvU [25, 26, 27, 28, 29])
 .ret))))⟩
abbrev ZJ : Nat := 33
/- proofmark/relate.set -/
def zqv_0 : AT := (zr 2 (.mov (.c (.val (.map none))))
 .done)
def zqv_1 : AT := (.wr false (some 6) none .mkmap
 (zm 3 6
 .done))
def zqv_2 : AT := (zm 7 0
 (zr 8 (.len 0 (.t 7))
 (zr 9 (.mov (zi 0))
 .done)))
def zqv_3 : AT := (zr 10 (.bin .lss (.t 9) (.t 8))
 .done)
def zqv_4 : AT := (zr 11 (.iaddr none 3 (.t 7) (.t 9))
 (zr 12 (.load true 3 (.t 11))
 (.wr false (some 5) none (.new 64 [(.int .i64 0), (.int .u8 0), (.int .i64 0)])
 (.wr false none none (.store 3 (.t 5) (.t 12))
 .done))))
def zqv_5 : AT := (zm 13 3
 (zr 14 (.load true 3 (.t 5))
 (.wr false none none (.mapup true [.i, .i, .i] (.t 13) (.t 14) (zi 1))
 .done)))
def zqv_6 : AT := (zr 15 (.bin .add (.t 9) (zi 1))
 (zm 9 15
 .done))
def zqv_7 : AT := (zm 16 3
 (zm 2 16
 .done))
def QcU : AF := ⟨17, [.tmp 2],
 (.seq (.reg zqv_0 [])
 (.seq (.reg zqv_1 [6])
 (.seq (.seq (.reg zqv_2 [])
 (.block 0 (.loop (.seq (.reg zqv_3 [])
 (.seq (.cond (.t 10)
 .skip
 (.exit 0))
 (.seq (.block 1 (.seq (.reg zqv_4 [11, 12])
 (.reg zqv_5 [13, 14])))
 (.reg zqv_6 [15])))))))
 (.seq (.reg zqv_7 [16])
 .ret))))⟩
abbrev QiJ : Nat := 34
/- slices.DeleteFunc[[]proofmark/relate.Pair,proofmark/relate.Pair] -/
def QvT : AT := (zr 4 (.mov (.c (.lst 0 [] true)))
 .done)
def QvS : AT := (zm 8 0
 (zm 9 1
 (zk 10 59 [.t 8, .t 9]
 (zm 5 10
 .done))))
def QvR : AT := (zm 11 5
 (zr 12 (.bin .eql (.t 11) (.c (.int .i64 (-1))))
 .done))
def QvQ : AT := (zm 13 0
 (zm 4 13
 .done))
def QvP : AT := (zm 14 5
 (zr 15 (.bin .add (.t 14) (zi 1))
 (zm 6 15
 .done)))
def QvO : AT := (zm 16 6
 (zm 17 0
 (zr 18 (.len 0 (.t 17))
 (zr 19 (.bin .lss (.t 16) (.t 18))
 .done))))
def QvN : AT := (zm 22 0
 (zm 23 6
 (zr 24 (.iaddr none 3 (.t 22) (.t 23))
 (zr 25 (.load true 3 (.t 24))
 (.wr false (some 7) none (.new 64 [(.int .i64 0), (.int .u8 0), (.int .i64 0)])
 (.wr false none none (.store 3 (.t 7) (.t 25))
 .done))))))
def QvM : AT := (zm 26 1
 (zr 27 (.load true 3 (.t 7))
 (.cl false (some 28) none (.t 26) [(.t 27)]
 (zr 29 (.un .not (.t 28))
 .done))))
def QvL : AT := (zm 30 0
 (zm 31 5
 (zr 32 (.load true 3 (.t 7))
 (zr 33 (.iaddr none 3 (.t 30) (.t 31))
 (.wr false none none (.store 3 (.t 33) (.t 32))
 .done)))))
def QvK : AT := (zm 34 5
 (zr 35 (.bin .add (.t 34) (zi 1))
 (zm 5 35
 .done)))
def QqO : AT := (zm 20 6
 (zr 21 (.bin .add (.t 20) (zi 1))
 (zm 6 21
 .done)))
def QqN : AT := (zm 36 0
 (zm 37 5
 (zr 38 (.slc 3 (.t 36) (some (.t 37)) none none)
 (.wr false none none (.clr 3 [(.int .i64 0), (.int .u8 0), (.int .i64 0)] (.t 38))
 .done))))
def QqM : AT := (zm 39 0
 (zm 40 5
 (zr 41 (.slc 3 (.t 39) none (some (.t 40)) none)
 (zm 4 41
 .done))))
def Qg : AF := ⟨42, [.tmp 4],
 (.seq (.reg QvT [])
 (.seq (.reg QvS [8, 9, 10])
 (.seq (.seq (.reg QvR [11])
 (.cond (.t 12)
 (.seq (.reg QvQ [13])
 .ret)
 .skip))
 (.seq (.seq (.reg QvP [14, 15])
 (.block 0 (.loop (.seq (.seq (.reg QvO [16, 17, 18])
 (.cond (.t 19)
 .skip
 (.exit 0)))
 (.seq (.block 1 (.seq (.reg QvN [22, 23, 24, 25])
 (.seq (.reg QvM [26, 27, 28])
 (.cond (.t 29)
 (.seq (.reg QvL [30, 31, 32, 33])
 (.reg QvK [34, 35]))
 .skip))))
 (.reg QqO [20, 21]))))))
 (.seq (.reg QqN [36, 37, 38])
 (.seq (.reg QqM [39, 40, 41])
 .ret))))))⟩
abbrev QZ : Nat := 35
/- proofmark/relate.Meet$1 -/
def zqx_0 : AT := (.wr false (some 2) none (.box 64 (.t 0))
 (zr 3 (.mov (.c (.bool false)))
 .done))
def zqx_1 : AT := (zr 4 (.load false 1 (.t 1))
 (zr 5 (.load true 3 (.t 2))
 (zr 6 (.look false true [.i, .i, .i] (.int .i64 0) (.t 4) (.t 5))
 (zr 7 (.bin .eql (.t 6) (zi 0))
 (zm 3 7
 .done)))))
def Y4 : AF := ⟨8, [.tmp 3],
 (.seq (.reg zqx_0 [])
 (.seq (.reg zqx_1 [4, 5, 6, 7])
 .ret))⟩
abbrev Qd1 : Nat := 36
/- slices.ContainsFunc[[]proofmark/relate.Pair,proofmark/relate.Pair] -/
def zqy_0 : AT := (zr 4 (.mov (.c (.bool false)))
 .done)
def zqy_1 : AT := (zm 5 0
 (zm 6 1
 (zk 7 59 [.t 5, .t 6]
 (zr 8 (.bin .geq (.t 7) (zi 0))
 (zm 4 8
 .done)))))
def Qm : AF := ⟨9, [.tmp 4],
 (.seq (.reg zqy_0 [])
 (.seq (.reg zqy_1 [5, 6, 7, 8])
 .ret))⟩
abbrev QW : Nat := 37
/- proofmark/relate.Within$1 -/
def zqz_0 : AT := (.wr false (some 2) none (.box 64 (.t 0))
 (zr 3 (.mov (.c (.bool false)))
 .done))
def zqz_1 : AT := (zr 4 (.load false 1 (.t 1))
 (zr 5 (.load true 3 (.t 2))
 (zr 6 (.look false true [.i, .i, .i] (.int .i64 0) (.t 4) (.t 5))
 (zr 7 (.bin .eql (.t 6) (zi 0))
 (zm 3 7
 .done)))))
def X0 : AF := ⟨8, [.tmp 3],
 (.seq (.reg zqz_0 [])
 (.seq (.reg zqz_1 [4, 5, 6, 7])
 .ret))⟩
abbrev Qce : Nat := 38
/- proofmark/regions.Of -/
def zq10_0 : AT := (.wr false (some 1) none (.box 88 (.t 0))
 (zr 2 (.mov (.c (.lst 0 [] true)))
 (.wr false (some 3) none (.new 82 [(.int .i64 0), (.int .i64 0), (.int .i64 0)])
 .done)))
def zq10_1 : AT := (zr 8 (.load true 3 (.t 1))
 (zk 9 60 [.t 8]
 (zr 10 (.un .not (.t 9))
 .done)))
def zq10_2 : AT := (zr 11 (.build [(.int .i64 0), (.int .i64 0), (.int .i64 0)] [(2, 1, (zi 2))])
 (zr 2 (.mov (.c (.lst 0 [] true)))
 (.wr false none none (.store 3 (.t 3) (.t 11))
 .done)))
def zq10_3 : AT := (zr 4 (.mov (.c (.lst 0 [] true)))
 .done)
def zq10_4 : AT := (zr 12 (.faddr 1 (.t 1))
 (zr 13 (.load false 1 (.t 12))
 (zr 14 (.len 0 (.t 13))
 (zr 15 (.mov (zi 0))
 .done))))
def zq10_5 : AT := (zr 16 (.bin .lss (.t 15) (.t 14))
 .done)
def zq10_6 : AT := (zm 17 15
 (zm 5 17
 .done))
def zq10_7 : AT := (zr 19 (.load true 3 (.t 1))
 (zm 20 5
 (zk 21 61 [.t 19, .t 20]
 (zm 18 21
 (zr 22 (.extr (.t 18) 0)
 (zr 23 (.extr (.t 18) 1)
 (.wr false (some 6) none (.new 39 [(.str []), (.int .i64 0), (.lst 0 [] true), (.int .i64 0), (.lst 0 [] true)])
 (.wr false (some 7) none (.new 82 [(.int .i64 0), (.int .i64 0), (.int .i64 0)])
 (.wr false none none (.store 5 (.t 6) (.t 22))
 (.wr false none none (.store 3 (.t 7) (.t 23))
 .done))))))))))
def zq10_8 : AT := (zr 24 (.faddr 2 (.t 7))
 (zr 25 (.load false 1 (.t 24))
 (zr 26 (.bin .neq (.t 25) (zi 0))
 .done)))
def zq10_9 : AT := (zr 27 (.load true 3 (.t 7))
 (zr 2 (.mov (.c (.lst 0 [] true)))
 (.wr false none none (.store 3 (.t 3) (.t 27))
 .done)))
def QCr : AT := (zm 28 4
 (zr 29 (.load true 5 (.t 6))
 (.wr false (some 30) none (.bsl true true 39 5 [(.str []), (.int .i64 0), (.lst 0 [] true), (.int .i64 0), (.lst 0 [] true)] 1 [(0, 5, (.t 29))])
 (.wr false (some 31) none (.app 39 5 80 false (.t 28) (.t 30))
 (zm 4 31
 .done)))))
def QCq : AT := (zr 32 (.bin .add (.t 15) (zi 1))
 (zm 15 32
 .done))
def QCp : AT := (zm 33 4
 (zr 34 (.build [(.int .i64 0), (.int .i64 0), (.int .i64 0)] [])
 (zm 2 33
 (.wr false none none (.store 3 (.t 3) (.t 34))
 .done))))
def QhO : AF := ⟨35, [.tmp 2, .cell 3 true 3],
 (.seq (.reg zq10_0 [])
 (.seq (.seq (.reg zq10_1 [8, 9])
 (.cond (.t 10)
 (.seq (.reg zq10_2 [11])
 .ret)
 .skip))
 (.seq (.reg zq10_3 [])
 (.seq (.seq (.reg zq10_4 [12, 13])
 (.block 0 (.loop (.seq (.reg zq10_5 [])
 (.seq (.cond (.t 16)
 .skip
 (.exit 0))
 (.seq (.block 1 (.seq (.reg zq10_6 [17])
 (.seq (.reg zq10_7 [19, 20, 21, 18, 22, 23])
 (.seq (.seq (.reg zq10_8 [24, 25])
 (.cond (.t 26)
 (.seq (.reg zq10_9 [27])
 .ret)
 .skip))
 (.reg QCr [28, 29, 30, 31])))))
 (.reg QCq [32])))))))
 (.seq (.reg QCp [33, 34])
 .ret)))))⟩
abbrev Qog : Nat := 39
/- proofmark/proofmarkkit.Image -/
def zq11_0 : AT := (.wr false (some 4) none (.new 88 [(.int .i64 0), (.lst 0 [] true), (.lst 0 [] true)])
 .done)
def zq11_1 : AT := (zm 10 1
 (zr 11 (.build [(.int .i64 0), (.lst 0 [] true), (.lst 0 [] true)] [(0, 1, (.t 10))])
 (.wr false (some 5) none (.new 88 [(.int .i64 0), (.lst 0 [] true), (.lst 0 [] true)])
 (.wr false none none (.store 3 (.t 5) (.t 11))
 .done))))
def zq11_2 : AT := (zr 6 (.mov (zi 0))
 .done)
def zq11_3 : AT := (zm 12 6
 (zm 13 0
 (zr 14 (.len 0 (.t 13))
 (zr 15 (.bin .lss (.t 12) (.t 14))
 .done))))
def zq11_4 : AT := (zr 18 (.faddr 1 (.t 5))
 (zr 19 (.load false 1 (.t 18))
 (zm 20 6
 (zr 21 (.bin .rem (.t 20) (zi 26))
 (zr 22 (.bin .add (zi 97) (.t 21))
 (zr 23 (.conv .i32 (.t 22))
 (zr 24 (.same (.t 23))
 (zr 25 (.bin .add (.c (.str [102])) (.t 24))
 (zm 26 6
 (zr 27 (.bin .quo (.t 26) (zi 26))
 (zr 28 (.bin .add (zi 97) (.t 27))
 (zr 29 (.conv .i32 (.t 28))
 (zr 30 (.same (.t 29))
 (zr 31 (.bin .add (.t 25) (.t 30))
 (zr 32 (.faddr 2 (.t 5))
 (zr 33 (.load false 1 (.t 32))
 (zr 34 (.len 0 (.t 33))
 (zr 35 (.bin .mul (zi 4) (.t 34))
 (zr 36 (.build [(.str []), (.int .i64 0)] [(0, 1, (.t 31)), (1, 1, (.t 35))])
 (.wr false (some 37) none (.bsl false true 130 2 [(.str []), (.int .i64 0)] 1 [(0, 2, (.t 36))])
 (.wr false (some 38) none (.app 130 2 24 false (.t 19) (.t 37))
 (zr 39 (.faddr 1 (.t 5))
 (.wr false none none (.store 1 (.t 39) (.t 38))
 .done)))))))))))))))))))))))
def zq11_5 : AT := (zr 7 (.mov (zi 0))
 .done)
def zq11_6 : AT := (zm 40 7
 (zm 41 0
 (zm 42 6
 (zr 43 (.iaddr none 1 (.t 41) (.t 42))
 (zr 44 (.load false 1 (.t 43))
 (zr 45 (.len 0 (.t 44))
 (zr 46 (.bin .lss (.t 40) (.t 45))
 .done)))))))
def zq11_7 : AT := (zm 50 0
 (zm 51 6
 (zr 52 (.iaddr none 1 (.t 50) (.t 51))
 (zr 53 (.load false 1 (.t 52))
 (zm 54 7
 (zr 55 (.iaddr none 5 (.t 53) (.t 54))
 (zr 56 (.load true 5 (.t 55))
 (zk 57 62 [.t 56]
 (zm 49 57
 (zr 58 (.extr (.t 49) 0)
 (zr 59 (.extr (.t 49) 1)
 (zm 8 58
 (zm 9 59
 .done)))))))))))))
def zq11_8 : AT := (zm 60 9
 (zr 61 (.bin .eql (.t 60) (zi 0))
 .done))
def zq11_9 : AT := (zr 62 (.faddr 2 (.t 5))
 (zr 63 (.load false 1 (.t 62))
 (zm 64 8
 (.wr false (some 65) none (.bsl false false 131 1 [(.int .u32 0)] 1 [(0, 1, (.t 64))])
 (.wr false (some 66) none (.app 131 1 4 false (.t 63) (.t 65))
 (zr 67 (.faddr 2 (.t 5))
 (.wr false none none (.store 1 (.t 67) (.t 66))
 .done)))))))
def QCo : AT := (zm 47 7
 (zr 48 (.bin .add (.t 47) (zi 1))
 (zm 7 48
 .done)))
def QCn : AT := (zm 16 6
 (zr 17 (.bin .add (.t 16) (zi 1))
 (zm 6 17
 .done)))
def QCm : AT := (zr 68 (.load true 3 (.t 5))
 (.wr false none none (.store 3 (.t 4) (.t 68))
 .done))
def ZF : AF := ⟨69, [.cell 4 true 3],
 (.seq (.reg zq11_0 [])
 (.seq (.reg zq11_1 [10, 11])
 (.seq (.seq (.reg zq11_2 [])
 (.block 0 (.loop (.seq (.seq (.reg zq11_3 [12, 13, 14])
 (.cond (.t 15)
 .skip
 (.exit 0)))
 (.seq (.block 1 (.seq (.reg zq11_4 [18, 19, 20, 21, 22, 23, 24, 25, 26, 27, 28, 29, 30, 31, 32, 33, 34, 35, 36, 37, 38, 39])
 (.seq (.reg zq11_5 [])
 (.block 2 (.loop (.seq (.seq (.reg zq11_6 [40, 41, 42, 43, 44, 45])
 (.cond (.t 46)
 .skip
 (.exit 2)))
 (.seq (.block 3 (.seq (.reg zq11_7 [50, 51, 52, 53, 54, 55, 56, 57, 49, 58, 59])
 (.seq (.reg zq11_8 [60])
 (.cond (.t 61)
 (.reg zq11_9 [62, 63, 64, 65, 66, 67])
 .skip))))
 (.reg QCo [47, 48]))))))))
 (.reg QCn [16, 17]))))))
 (.seq (.reg QCm [68])
 .ret))))⟩
abbrev QfE : Nat := 40
/- proofmark/relate.Fresh$1 -/
def QzC : AT := (.wr false (some 3) none (.box 64 (.t 0))
 (zr 4 (.mov (.c (.bool false)))
 .done))
def QzB : AT := (zr 5 (.load true 3 (.t 3))
 (zr 6 (.load false 1 (.t 1))
 (zr 7 (.faddr 32 (.t 2))
 (zr 8 (.load false 1 (.t 7))
 (zr 9 (.len 0 (.t 8))
 (zk 10 42 [.t 5, .t 6, .t 9]
 (zr 11 (.un .not (.t 10))
 (zm 4 11
 .done))))))))
def Yy : AF := ⟨12, [.tmp 4],
 (.seq (.reg QzC [])
 (.seq (.reg QzB [5, 6, 7, 8, 9, 10, 11])
 .ret))⟩
abbrev QcY : Nat := 41
/- proofmark/relate.there -/
def QfX : AT := (.wr false (some 3) none (.box 64 (.t 0))
 (zr 6 (.mov (.c (.bool false)))
 .done))
def QfW : AT := (zr 7 (.faddr 0 (.t 3))
 (zr 8 (.load false 1 (.t 7))
 (zr 9 (.bin .lss (.t 8) (.c (.int .i64 (-1))))
 (zm 10 9
 (zf 11 10 (.faddr 0 (.t 3))
 (zf 12 10 (.load false 1 (.t 11))
 (zf 13 10 (.mov (.t 1))
 (zf 14 10 (.bin .geq (.t 12) (.t 13))
 (zr 15 (.pick (.t 10) (.c (.bool true)) (.t 14))
 .done)))))))))
def QfV : AT := (zr 6 (.mov (.c (.bool false)))
 .done)
def QfU : AT := (zr 16 (.faddr 1 (.t 3))
 (zr 17 (.faddr 0 (.t 16))
 (zr 18 (.load false 1 (.t 17))
 .done)))
def QfT : AT := (zr 20 (.bin .eql (.t 18) (zu 1))
 (zm 19 20
 .done))
def QfS : AT := (zr 21 (.faddr 1 (.t 3))
 (zr 22 (.faddr 1 (.t 21))
 (zr 23 (.load false 1 (.t 22))
 (zk 24 63 [.t 23]
 (zm 6 24
 .done)))))
def QfR : AT := (zr 26 (.bin .eql (.t 18) (zu 2))
 (zm 25 26
 .done))
def QfQ : AT := (zr 27 (.faddr 1 (.t 3))
 (zr 28 (.faddr 1 (.t 27))
 (zr 29 (.load false 1 (.t 28))
 (zr 30 (.bin .geq (.t 29) (zi 0))
 (zm 31 30
 (zt 32 31 (.faddr 1 (.t 3))
 (zt 33 31 (.faddr 1 (.t 32))
 (zt 34 31 (.load false 1 (.t 33))
 (zt 35 31 (.mov (.t 2))
 (zt 36 31 (.bin .lss (.t 34) (.t 35))
 (zr 37 (.pick (.t 31) (.t 36) (.c (.bool false)))
 (zm 6 37
 .done))))))))))))
def QfP : AT := (zr 38 (.faddr 1 (.t 3))
 (zr 39 (.faddr 0 (.t 38))
 (zr 40 (.load false 1 (.t 39))
 (zr 41 (.bin .eql (.t 40) (zu 3))
 (zm 6 41
 .done)))))
def QV : AF := ⟨42, [.tmp 6],
 (.seq (.reg QfX [])
 (.seq (.seq (.reg QfW [7, 8, 9, 10, 11, 12, 13, 14])
 (.cond (.t 15)
 (.seq (.reg QfV [])
 .ret)
 .skip))
 (.seq (.seq (.reg QfU [16, 17])
 (.block 0 (.seq (.reg QfT [20])
 (.cond (.t 19)
 (.seq (.reg QfS [21, 22, 23, 24])
 .ret)
 (.seq (.reg QfR [26])
 (.cond (.t 25)
 (.seq (.reg QfQ [27, 28, 29, 30, 31, 32, 33, 34, 35, 36, 37])
 .ret)
 .skip))))))
 (.seq (.reg QfP [38, 39, 40, 41])
 .ret))))⟩
abbrev Qf9 : Nat := 42
/- (proofmark/relate.parts[proofmark/relate.end]).join -/
def QtL : AT := (.wr false (some 3) none (.box 96 (.t 0))
 (.wr false (some 4) none (.box 100 (.t 1))
 (.wr false (some 5) none (.box 100 (.t 2))
 .done)))
def QtK : AT := (zr 8 (.load true 1 (.t 3))
 (zr 9 (.load true 3 (.t 4))
 (zr 11 (.load true 1 (.t 3))
 (zr 12 (.load true 3 (.t 5))
 (.alt (.cl true (some 10) none (.c (.fn (.func 44) [] [])) [(.t 8), (.t 9)]
 (.alt (zk 13 44 [.t 11, .t 12]
 (.alt (.wr true (some 6) none (.new 100 [(.int .i64 0), (.int .u8 0), (.int .i64 0)])
 (.wr true (some 7) none (.new 100 [(.int .i64 0), (.int .u8 0), (.int .i64 0)])
 (.wr false none none (.store 3 (.t 6) (.t 10))
 (.wr false none none (.store 3 (.t 7) (.t 13))
 .done)))) (.wr true (some 7) none (.new 100 [(.int .i64 0), (.int .u8 0), (.int .i64 0)])
 (.wr true (some 6) none (.new 100 [(.int .i64 0), (.int .u8 0), (.int .i64 0)])
 (.wr false none none (.store 3 (.t 6) (.t 10))
 (.wr false none none (.store 3 (.t 7) (.t 13))
 .done)))))) (.alt (.wr true (some 6) none (.new 100 [(.int .i64 0), (.int .u8 0), (.int .i64 0)])
 (.alt (zk 13 44 [.t 11, .t 12]
 (.wr true (some 7) none (.new 100 [(.int .i64 0), (.int .u8 0), (.int .i64 0)])
 (.wr false none none (.store 3 (.t 6) (.t 10))
 (.wr false none none (.store 3 (.t 7) (.t 13))
 .done)))) (.wr true (some 7) none (.new 100 [(.int .i64 0), (.int .u8 0), (.int .i64 0)])
 (zk 13 44 [.t 11, .t 12]
 (.wr false none none (.store 3 (.t 6) (.t 10))
 (.wr false none none (.store 3 (.t 7) (.t 13))
 .done)))))) (.wr true (some 7) none (.new 100 [(.int .i64 0), (.int .u8 0), (.int .i64 0)])
 (.alt (zk 13 44 [.t 11, .t 12]
 (.wr true (some 6) none (.new 100 [(.int .i64 0), (.int .u8 0), (.int .i64 0)])
 (.wr false none none (.store 3 (.t 6) (.t 10))
 (.wr false none none (.store 3 (.t 7) (.t 13))
 .done)))) (.wr true (some 6) none (.new 100 [(.int .i64 0), (.int .u8 0), (.int .i64 0)])
 (zk 13 44 [.t 11, .t 12]
 (.wr false none none (.store 3 (.t 6) (.t 10))
 (.wr false none none (.store 3 (.t 7) (.t 13))
 .done))))))))) (.alt (.wr true (some 6) none (.new 100 [(.int .i64 0), (.int .u8 0), (.int .i64 0)])
 (.alt (.cl true (some 10) none (.c (.fn (.func 44) [] [])) [(.t 8), (.t 9)]
 (.alt (zk 13 44 [.t 11, .t 12]
 (.wr true (some 7) none (.new 100 [(.int .i64 0), (.int .u8 0), (.int .i64 0)])
 (.wr false none none (.store 3 (.t 6) (.t 10))
 (.wr false none none (.store 3 (.t 7) (.t 13))
 .done)))) (.wr true (some 7) none (.new 100 [(.int .i64 0), (.int .u8 0), (.int .i64 0)])
 (zk 13 44 [.t 11, .t 12]
 (.wr false none none (.store 3 (.t 6) (.t 10))
 (.wr false none none (.store 3 (.t 7) (.t 13))
 .done)))))) (.wr true (some 7) none (.new 100 [(.int .i64 0), (.int .u8 0), (.int .i64 0)])
 (.cl true (some 10) none (.c (.fn (.func 44) [] [])) [(.t 8), (.t 9)]
 (zk 13 44 [.t 11, .t 12]
 (.wr false none none (.store 3 (.t 6) (.t 10))
 (.wr false none none (.store 3 (.t 7) (.t 13))
 .done))))))) (.wr true (some 7) none (.new 100 [(.int .i64 0), (.int .u8 0), (.int .i64 0)])
 (.alt (.cl true (some 10) none (.c (.fn (.func 44) [] [])) [(.t 8), (.t 9)]
 (.alt (zk 13 44 [.t 11, .t 12]
 (.wr true (some 6) none (.new 100 [(.int .i64 0), (.int .u8 0), (.int .i64 0)])
 (.wr false none none (.store 3 (.t 6) (.t 10))
 (.wr false none none (.store 3 (.t 7) (.t 13))
 .done)))) (.wr true (some 6) none (.new 100 [(.int .i64 0), (.int .u8 0), (.int .i64 0)])
 (zk 13 44 [.t 11, .t 12]
 (.wr false none none (.store 3 (.t 6) (.t 10))
 (.wr false none none (.store 3 (.t 7) (.t 13))
 .done)))))) (.wr true (some 6) none (.new 100 [(.int .i64 0), (.int .u8 0), (.int .i64 0)])
 (.cl true (some 10) none (.c (.fn (.func 44) [] [])) [(.t 8), (.t 9)]
 (zk 13 44 [.t 11, .t 12]
 (.wr false none none (.store 3 (.t 6) (.t 10))
 (.wr false none none (.store 3 (.t 7) (.t 13))
 .done)))))))))))))
def QtJ : AT := (zr 14 (.load true 3 (.t 6))
 (zr 15 (.load true 3 (.t 7))
 (zr 16 (.eqs true [.i, .i, .i] (.t 14) (.t 15))
 .done)))
def QtI : AT := (zr 17 (.faddr 0 (.t 3))
 (zr 18 (.load false 1 (.t 17))
 (zr 19 (.load true 3 (.t 6))
 (zr 20 (.load true 3 (.t 7))
 (.wr false none none (.mapup true [.i, .i, .i] (.t 18) (.t 19) (.t 20))
 .done)))))
def Qy : AF := ⟨21, [],
 (.seq (.reg QtL [])
 (.seq (.reg QtK [8, 9, 10, 11, 12, 13])
 (.seq (.reg QtJ [14, 15])
 (.cond (.t 16)
 (.reg QtI [17, 18, 19, 20])
 .skip))))⟩
abbrev XR : Nat := 43
/- (proofmark/relate.parts[proofmark/relate.end]).root -/
def QzA : AT := (.wr false (some 2) none (.box 96 (.t 0))
 (.wr false (some 3) none (.box 100 (.t 1))
 (.wr false (some 4) none (.new 100 [(.int .i64 0), (.int .u8 0), (.int .i64 0)])
 .done)))
def Qzz : AT := (zr 8 (.faddr 0 (.t 2))
 (zr 9 (.load false 1 (.t 8))
 (zr 10 (.load true 3 (.t 3))
 (zr 11 (.look true true [.i, .i, .i] (.agg [(.int .i64 0), (.int .u8 0), (.int .i64 0)]) (.t 9) (.t 10))
 (zm 7 11
 (zr 12 (.extr (.t 7) 0)
 (zr 13 (.extr (.t 7) 1)
 (.wr false (some 5) none (.new 100 [(.int .i64 0), (.int .u8 0), (.int .i64 0)])
 (.wr false none none (.store 3 (.t 5) (.t 12))
 (zm 6 13
 .done))))))))))
def Qzy : AT := (zm 14 6
 (zr 15 (.un .not (.t 14))
 .done))
def Qzx : AT := (zr 16 (.load true 3 (.t 3))
 (.wr false none none (.store 3 (.t 4) (.t 16))
 .done))
def Qzw : AT := (zr 17 (.load true 3 (.t 5))
 (.wr false none none (.store 3 (.t 3) (.t 17))
 .done))
def QG : AF := ⟨18, [.cell 4 true 3],
 (.seq (.reg QzA [])
 (.block 0 (.loop (.block 1 (.seq (.reg Qzz [8, 9, 10, 11, 7, 12, 13])
 (.seq (.seq (.reg Qzy [14])
 (.cond (.t 15)
 (.seq (.reg Qzx [16])
 .ret)
 .skip))
 (.reg Qzw [17])))))))⟩
abbrev XQ : Nat := 44
/- proofmark/relate.Fresh$2 -/
def Qzv : AT := (.wr false (some 5) none (.box 100 (.t 0))
 (zr 6 (.mov (zi 0))
 .done))
def Qzu : AT := (zr 10 (.load true 1 (.t 1))
 (zr 11 (.load true 3 (.t 5))
 (zk 12 44 [.t 10, .t 11]
 (.wr false (some 7) none (.new 100 [(.int .i64 0), (.int .u8 0), (.int .i64 0)])
 (.wr false none none (.store 3 (.t 7) (.t 12))
 .done)))))
def Qzt : AT := (zr 14 (.load false 1 (.t 2))
 (zr 15 (.load true 3 (.t 7))
 (zr 16 (.look true true [.i, .i, .i] (.int .i64 0) (.t 14) (.t 15))
 (zm 13 16
 (zr 17 (.extr (.t 13) 0)
 (zr 18 (.extr (.t 13) 1)
 (zm 8 17
 (zm 9 18
 .done))))))))
def Qzs : AT := (zm 19 9
 (zr 20 (.un .not (.t 19))
 .done))
def Qzr : AT := (zr 23 (.load false 1 (.t 3))
 (zr 24 (.load false 1 (.t 4))
 (.alt (zr 21 (.load false 1 (.t 2))
 (.alt (zr 22 (.load true 3 (.t 7))
 (zk 25 25 [.t 23, .t 24]
 (.wr false none none (.mapup true [.i, .i, .i] (.t 21) (.t 22) (.t 25))
 .done))) (zk 25 25 [.t 23, .t 24]
 (zr 22 (.load true 3 (.t 7))
 (.wr false none none (.mapup true [.i, .i, .i] (.t 21) (.t 22) (.t 25))
 .done))))) (.alt (zr 22 (.load true 3 (.t 7))
 (.alt (zr 21 (.load false 1 (.t 2))
 (zk 25 25 [.t 23, .t 24]
 (.wr false none none (.mapup true [.i, .i, .i] (.t 21) (.t 22) (.t 25))
 .done))) (zk 25 25 [.t 23, .t 24]
 (zr 21 (.load false 1 (.t 2))
 (.wr false none none (.mapup true [.i, .i, .i] (.t 21) (.t 22) (.t 25))
 .done))))) (zk 25 25 [.t 23, .t 24]
 (.alt (zr 21 (.load false 1 (.t 2))
 (zr 22 (.load true 3 (.t 7))
 (.wr false none none (.mapup true [.i, .i, .i] (.t 21) (.t 22) (.t 25))
 .done))) (zr 22 (.load true 3 (.t 7))
 (zr 21 (.load false 1 (.t 2))
 (.wr false none none (.mapup true [.i, .i, .i] (.t 21) (.t 22) (.t 25))
 .done)))))))))
def Qzq : AT := (zr 26 (.load false 1 (.t 4))
 (zr 27 (.bin .add (.t 26) (zi 1))
 (.wr false none none (.store 1 (.t 4) (.t 27))
 .done)))
def Qzp : AT := (zr 28 (.load false 1 (.t 2))
 (zr 29 (.load true 3 (.t 7))
 (zr 30 (.look false true [.i, .i, .i] (.int .i64 0) (.t 28) (.t 29))
 (zm 6 30
 .done))))
def Yx : AF := ⟨31, [.tmp 6],
 (.seq (.reg Qzv [])
 (.seq (.reg Qzu [10, 11, 12])
 (.seq (.seq (.reg Qzt [14, 15, 16, 13, 17, 18, 8])
 (.seq (.reg Qzs [19])
 (.cond (.t 20)
 (.seq (.reg Qzr [21, 22, 23, 24, 25])
 (.reg Qzq [26, 27]))
 .skip)))
 (.seq (.reg Qzp [28, 29, 30])
 .ret))))⟩
abbrev Qab : Nat := 45
/- (*proofmark/term.Graph).Add -/
def Qzo : AT := (.wr false (some 3) none (.box 108 (.t 1))
 (zr 4 (.mov (zi 0))
 .done))
def Qzn : AT := (zm 12 0
 (zr 13 (.eqp false (.t 12) (.c (.val (.pointer none))))
 (zm 14 13
 (zf 15 14 (.mov (.t 0))
 (zf 16 14 (.load true 6 (.t 3))
 (.cl false (some 17) (some (14, false)) (.c (.fn (.func 64) [] [])) [(.t 15), (.t 16)]
 (zf 18 14 (.un .not (.t 17))
 (zr 19 (.pick (.t 14) (.c (.bool true)) (.t 18))
 .done))))))))
def Qzm : AT := (zr 4 (.mov (.c (.int .i64 (-1))))
 .done)
def Qzl : AT := (zm 21 0
 (zr 22 (.nilc (.t 21))
 (zr 23 (.faddr 1 (.t 22))
 (zr 24 (.load false 1 (.t 23))
 (zr 25 (.load true 6 (.t 3))
 (zr 26 (.look true true [.i, .i, .i, .i, .i, .i] (.int .i64 0) (.t 24) (.t 25))
 (zm 20 26
 (zr 27 (.extr (.t 20) 0)
 (zr 28 (.extr (.t 20) 1)
 (zm 5 27
 (zm 6 28
 .done)))))))))))
def Qzk : AT := (zm 29 6
 .done)
def Qzj : AT := (zm 30 5
 (zm 4 30
 .done))
def Qzi : AT := (zm 31 0
 (zr 32 (.nilc (.t 31))
 (zr 33 (.faddr 0 (.t 32))
 (zr 34 (.load false 1 (.t 33))
 (zr 35 (.len 0 (.t 34))
 (zm 7 35
 .done))))))
def Qzh : AT := (zr 36 (.load true 6 (.t 3))
 (zk 37 65 [.t 36, (.c (.str [])), (.c (.str []))]
 (zr 38 (.len 1 (.t 37))
 (zr 8 (.mov (zi 0))
 (zm 9 38
 .done)))))
def Qzg : AT := (zr 39 (.load true 6 (.t 3))
 (zk 40 66 [.t 39]
 (zr 41 (.len 0 (.t 40))
 (zr 42 (.mov (zi 0))
 .done))))
def Qzf : AT := (zr 43 (.bin .lss (.t 42) (.t 41))
 .done)
def QtH : AT := (zr 44 (.iaddr none 1 (.t 40) (.t 42))
 (zr 45 (.load false 1 (.t 44))
 (zm 11 45
 .done)))
def QtG : AT := (zm 46 8
 (zm 47 0
 (zr 48 (.nilc (.t 47))
 (zr 49 (.faddr 2 (.t 48))
 (zr 50 (.load false 1 (.t 49))
 (zm 51 11
 (zr 52 (.iaddr none 1 (.t 50) (.t 51))
 (zr 53 (.load false 1 (.t 52))
 (zr 54 (.maxi (.t 46) (.t 53))
 (zm 55 9
 (zm 56 0
 (zr 57 (.nilc (.t 56))
 (zr 58 (.faddr 3 (.t 57))
 (zr 59 (.load false 1 (.t 58))
 (zm 60 11
 (zr 61 (.iaddr none 1 (.t 59) (.t 60))
 (zr 62 (.load false 1 (.t 61))
 (zr 63 (.bin .add (.t 55) (.t 62))
 (zm 8 54
 (zm 9 63
 .done))))))))))))))))))))
def QtF : AT := (zr 64 (.bin .add (.t 42) (zi 1))
 (zm 42 64
 .done))
def QtE : AT := (zm 65 0
 (zm 66 0
 (zr 67 (.nilc (.t 66))
 (zr 68 (.faddr 1 (.t 67))
 (zr 69 (.load false 1 (.t 68))
 (zm 71 0
 (zr 72 (.nilc (.t 71))
 (zr 73 (.faddr 0 (.t 72))
 (zr 74 (.load false 1 (.t 73))
 (zr 75 (.load true 6 (.t 3))
 (zm 78 7
 (.alt (zr 70 (.load true 6 (.t 3))
 (.wr true (some 76) none (.bsl false true 108 6 [(.int .u8 0), (.int .i64 0), (.int .i64 0), (.int .u8 0), (.int .i64 0), (.int .i64 0)] 1 [(0, 6, (.t 75))])
 (.wr true (some 77) none (.app 108 6 48 false (.t 74) (.t 76))
 (zr 79 (.nilc (.t 65))
 (zr 80 (.faddr 0 (.t 79))
 (.wr false none none (.store 1 (.t 80) (.t 77))
 (.wr false (some 81) none (.ment true [.i, .i, .i, .i, .i, .i] (.int .i64 0) (.t 69) (.t 70))
 (zr 82 (.extr (.t 81) 1)
 (.wr false none none (.mst (.t 69) (.t 82) (.t 78))
 .done))))))))) (.wr true (some 76) none (.bsl false true 108 6 [(.int .u8 0), (.int .i64 0), (.int .i64 0), (.int .u8 0), (.int .i64 0), (.int .i64 0)] 1 [(0, 6, (.t 75))])
 (.alt (zr 70 (.load true 6 (.t 3))
 (.wr true (some 77) none (.app 108 6 48 false (.t 74) (.t 76))
 (zr 79 (.nilc (.t 65))
 (zr 80 (.faddr 0 (.t 79))
 (.wr false none none (.store 1 (.t 80) (.t 77))
 (.wr false (some 81) none (.ment true [.i, .i, .i, .i, .i, .i] (.int .i64 0) (.t 69) (.t 70))
 (zr 82 (.extr (.t 81) 1)
 (.wr false none none (.mst (.t 69) (.t 82) (.t 78))
 .done)))))))) (.wr true (some 77) none (.app 108 6 48 false (.t 74) (.t 76))
 (zr 79 (.nilc (.t 65))
 (zr 80 (.faddr 0 (.t 79))
 (.alt (zr 70 (.load true 6 (.t 3))
 (.wr false none none (.store 1 (.t 80) (.t 77))
 (.wr false (some 81) none (.ment true [.i, .i, .i, .i, .i, .i] (.int .i64 0) (.t 69) (.t 70))
 (zr 82 (.extr (.t 81) 1)
 (.wr false none none (.mst (.t 69) (.t 82) (.t 78))
 .done))))) (.wr false none none (.store 1 (.t 80) (.t 77))
 (zr 70 (.load true 6 (.t 3))
 (.wr false (some 81) none (.ment true [.i, .i, .i, .i, .i, .i] (.int .i64 0) (.t 69) (.t 70))
 (zr 82 (.extr (.t 81) 1)
 (.wr false none none (.mst (.t 69) (.t 82) (.t 78))
 .done)))))))))))))))))))))))
def QtD : AT := (zm 83 0
 (zm 84 0
 (zm 85 0
 (zr 86 (.nilc (.t 85))
 (zr 87 (.faddr 2 (.t 86))
 (zr 88 (.load false 1 (.t 87))
 (zm 89 8
 (zr 90 (.bin .add (.t 89) (zi 1))
 (zm 93 0
 (zr 94 (.nilc (.t 93))
 (zr 95 (.faddr 3 (.t 94))
 (zr 96 (.load false 1 (.t 95))
 (zm 97 9
 (zr 98 (.mini (.t 97) (zi 65537))
 (.alt (.wr true (some 91) none (.bsl false false 3 1 [(.int .i64 0)] 1 [(0, 1, (.t 90))])
 (.alt (.wr true (some 92) none (.app 3 1 8 false (.t 88) (.t 91))
 (.wr true (some 99) none (.bsl false false 3 1 [(.int .i64 0)] 1 [(0, 1, (.t 98))])
 (.wr false (some 100) none (.app 3 1 8 false (.t 96) (.t 99))
 (zr 101 (.nilc (.t 83))
 (zr 102 (.faddr 2 (.t 101))
 (.wr false none none (.store 1 (.t 102) (.t 92))
 (zr 103 (.nilc (.t 84))
 (zr 104 (.faddr 3 (.t 103))
 (.wr false none none (.store 1 (.t 104) (.t 100))
 .done))))))))) (.wr true (some 99) none (.bsl false false 3 1 [(.int .i64 0)] 1 [(0, 1, (.t 98))])
 (.wr true (some 92) none (.app 3 1 8 false (.t 88) (.t 91))
 (.wr false (some 100) none (.app 3 1 8 false (.t 96) (.t 99))
 (zr 101 (.nilc (.t 83))
 (zr 102 (.faddr 2 (.t 101))
 (.wr false none none (.store 1 (.t 102) (.t 92))
 (zr 103 (.nilc (.t 84))
 (zr 104 (.faddr 3 (.t 103))
 (.wr false none none (.store 1 (.t 104) (.t 100))
 .done))))))))))) (.wr true (some 99) none (.bsl false false 3 1 [(.int .i64 0)] 1 [(0, 1, (.t 98))])
 (.wr true (some 91) none (.bsl false false 3 1 [(.int .i64 0)] 1 [(0, 1, (.t 90))])
 (.wr true (some 92) none (.app 3 1 8 false (.t 88) (.t 91))
 (.wr false (some 100) none (.app 3 1 8 false (.t 96) (.t 99))
 (zr 101 (.nilc (.t 83))
 (zr 102 (.faddr 2 (.t 101))
 (.wr false none none (.store 1 (.t 102) (.t 92))
 (zr 103 (.nilc (.t 84))
 (zr 104 (.faddr 3 (.t 103))
 (.wr false none none (.store 1 (.t 104) (.t 100))
 .done)))))))))))))))))))))))))
def QtC : AT := (zm 105 7
 (zm 4 105
 .done))
def Y2 : AF := ⟨106, [.tmp 4],
 (.seq (.reg Qzo [])
 (.seq (.seq (.reg Qzn [12, 13, 14, 15, 16, 17, 18])
 (.cond (.t 19)
 (.seq (.reg Qzm [])
 .ret)
 .skip))
 (.seq (.seq (.reg Qzl [21, 22, 23, 24, 25, 26, 20, 27, 28])
 (.seq (.reg Qzk [])
 (.cond (.t 29)
 (.seq (.reg Qzj [30])
 .ret)
 .skip)))
 (.seq (.reg Qzi [31, 32, 33, 34, 35])
 (.seq (.reg Qzh [36, 37, 38])
 (.seq (.seq (.reg Qzg [39])
 (.block 0 (.loop (.seq (.reg Qzf [])
 (.seq (.cond (.t 43)
 .skip
 (.exit 0))
 (.seq (.block 1 (.seq (.reg QtH [44, 45])
 (.reg QtG [46, 47, 48, 49, 50, 51, 52, 53, 54, 55, 56, 57, 58, 59, 60, 61, 62, 63])))
 (.reg QtF [64])))))))
 (.seq (.reg QtE [65, 66, 67, 68, 69, 70, 71, 72, 73, 74, 75, 76, 77, 78, 79, 80, 81, 82])
 (.seq (.reg QtD [83, 84, 85, 86, 87, 88, 89, 90, 91, 92, 93, 94, 95, 96, 97, 98, 99, 100, 101, 102, 103, 104])
 (.seq (.reg QtC [105])
 .ret)))))))))⟩
abbrev QaQ : Nat := 46
abbrev Qoh : Nat := 47
abbrev Qsj : Nat := 48
abbrev Qnf : Nat := 49
/- proofmark/lift.Begin$1 -/
def Qze : AT := (zr 2 (.mov (zi 0))
 .done)
def Qzd : AT := (zr 3 (.load false 1 (.t 0))
 (zr 4 (.bin .add (.t 3) (zi 1))
 (.wr false none none (.store 1 (.t 0) (.t 4))
 .done)))
def Qzc : AT := (zr 5 (.load false 1 (.t 1))
 (zr 6 (.load false 1 (.t 0))
 (zr 7 (.bin .sub (.t 6) (zi 1))
 (zk 8 25 [.t 5, .t 7]
 (zm 2 8
 .done)))))
def ZK : AF := ⟨9, [.tmp 2],
 (.seq (.reg Qze [])
 (.seq (.reg Qzd [3, 4])
 (.seq (.reg Qzc [5, 6, 7, 8])
 .ret)))⟩
abbrev QeW : Nat := 50
abbrev Quz : Nat := 51
abbrev QwD : Nat := 52
abbrev Qgl : Nat := 53
/- math/bits.Len -/
def zq1f_0 : AT := (zr 2 (.mov (zi 0))
 .done)
def zq1f_1 : AT := (zm 3 0
 (zr 4 (.conv .u32 (.t 3))
 (zk 5 77 [.t 4]
 (zm 2 5
 .done))))
def zq1f_2 : AT := (zm 6 0
 (zk 7 78 [.t 6]
 (zm 2 7
 .done)))
def Qdv : AF := ⟨8, [.tmp 2],
 (.seq (.reg zq1f_0 [])
 (.seq (.cond (.c (.bool false))
 (.seq (.reg zq1f_1 [3, 4, 5])
 .ret)
 .skip)
 (.seq (.reg zq1f_2 [6, 7])
 .ret)))⟩
abbrev QkF : Nat := 54
abbrev QzR : Nat := 55
abbrev Qsn : Nat := 56
abbrev Qp5 : Nat := 57
abbrev Qp6 : Nat := 58
/- slices.IndexFunc[[]proofmark/relate.Pair,proofmark/relate.Pair] -/
def QtB : AT := (zr 4 (.mov (zi 0))
 .done)
def QtA : AT := (zm 6 0
 (zr 7 (.len 0 (.t 6))
 (zr 8 (.mov (zi 0))
 .done)))
def Qtz : AT := (zr 9 (.bin .lss (.t 8) (.t 7))
 .done)
def Qty : AT := (zm 10 8
 (zm 5 10
 .done))
def Qtx : AT := (zm 11 1
 (zm 12 0
 (zm 13 5
 (zr 14 (.iaddr none 3 (.t 12) (.t 13))
 (zr 15 (.load true 3 (.t 14))
 (.cl false (some 16) none (.t 11) [(.t 15)]
 .done))))))
def Qtw : AT := (zm 17 5
 (zm 4 17
 .done))
def Qtv : AT := (zr 18 (.bin .add (.t 8) (zi 1))
 (zm 8 18
 .done))
def Qtu : AT := (zr 4 (.mov (.c (.int .i64 (-1))))
 .done)
def Qi : AF := ⟨19, [.tmp 4],
 (.seq (.reg QtB [])
 (.seq (.seq (.reg QtA [6])
 (.block 0 (.loop (.seq (.reg Qtz [])
 (.seq (.cond (.t 9)
 .skip
 (.exit 0))
 (.seq (.block 1 (.seq (.reg Qty [10])
 (.seq (.reg Qtx [11, 12, 13, 14, 15])
 (.cond (.t 16)
 (.seq (.reg Qtw [17])
 .ret)
 .skip))))
 (.reg Qtv [18])))))))
 (.seq (.reg Qtu [])
 .ret)))⟩
abbrev QE : Nat := 59
/- proofmark/image.Right -/
def zq1l_0 : AT := (.wr false (some 1) none (.box 88 (.t 0))
 (zr 2 (.mov (.c (.bool false)))
 .done))
def zq1l_1 : AT := (.wr false (some 7) none .mkmap
 (.wr false (some 3) none (.new 154 [(.val (.map none))])
 (.wr false none none (.store 1 (.t 3) (.t 7))
 .done)))
def zq1l_2 : AT := (.wr false (some 4) none (.new 3 [(.int .i64 0)])
 (.wr false none none (.store 1 (.t 4) (.c (.int .i64 (-1))))
 .done))
def zq1l_3 : AT := (zr 8 (.mkfn (.func 82) [] [(.t 3), (.t 4), (.t 1)])
 (.wr false (some 5) none (.new 155 [(.val .nilFunc)])
 (.wr false none none (.store 1 (.t 5) (.t 8))
 .done)))
def zq1l_4 : AT := (zr 9 (.mkfn (.func 83) [] [(.t 1)])
 (zr 10 (.mkfn (.func 84) [] [(.t 1)])
 (zr 11 (.mkfn (.func 85) [] [(.t 1)])
 (zr 12 (.mkfn (.func 86) [] [(.t 1), (.t 5)])
 (.wr false (some 13) none (.bsl true false 23 1 [(.val .nilFunc)] 4 [(0, 1, (.t 9)), (1, 1, (.t 10)), (2, 1, (.t 11)), (3, 1, (.t 12))])
 (zm 6 13
 .done))))))
def zq1l_5 : AT := (zm 14 6
 (zk 15 88 [.t 14, (.c (.fn (.func 89) [] []))]
 (zr 16 (.un .not (.t 15))
 (zm 2 16
 .done))))
def Qgw : AF := ⟨17, [.tmp 2],
 (.seq (.reg zq1l_0 [])
 (.seq (.reg zq1l_1 [7])
 (.seq (.reg zq1l_2 [])
 (.seq (.reg zq1l_3 [8])
 (.seq (.reg zq1l_4 [9, 10, 11, 12, 13])
 (.seq (.reg zq1l_5 [14, 15, 16])
 .ret))))))⟩
abbrev Qnh : Nat := 60
/- proofmark/regions.read -/
def zq1m_0 : AT := (.wr false (some 2) none (.box 88 (.t 0))
 (.wr false (some 4) none (.new 39 [(.str []), (.int .i64 0), (.lst 0 [] true), (.int .i64 0), (.lst 0 [] true)])
 (.wr false (some 5) none (.new 82 [(.int .i64 0), (.int .i64 0), (.int .i64 0)])
 .done)))
def zq1m_1 : AT := (zr 17 (.load true 3 (.t 2))
 (zm 18 1
 (zk 19 90 [.t 17, .t 18]
 (zm 16 19
 (zr 20 (.extr (.t 16) 0)
 (zr 21 (.extr (.t 16) 1)
 (zm 6 20
 (zm 7 21
 .done))))))))
def zq1m_2 : AT := (zr 22 (.load true 3 (.t 2))
 (zr 23 (.faddr 1 (.t 2))
 (zr 24 (.load false 1 (.t 23))
 (zm 25 1
 (zr 26 (.iaddr none 2 (.t 24) (.t 25))
 (zr 27 (.faddr 0 (.t 26))
 (zr 28 (.load false 1 (.t 27))
 (zm 29 6
 (zr 30 (.build [(.str []), (.int .i64 0), (.lst 0 [] true), (.int .i64 0), (.lst 0 [] true)] [(0, 1, (.t 28)), (1, 1, (.t 29))])
 (zr 31 (.build [(.int .i64 0), (.lst 0 [] true), (.lst 0 [] true), (.str []), (.int .i64 0), (.lst 0 [] true), (.int .i64 0), (.lst 0 [] true)] [(0, 3, (.t 22)), (3, 5, (.t 30))])
 (.wr false (some 32) none (.box 164 (.t 31))
 (zm 8 32
 .done))))))))))))
def zq1m_3 : AT := (.wr false (some 33) none .mkmap
 (zm 9 33
 .done))
def zq1m_4 : AT := (zr 34 (.faddr 2 (.t 2))
 (zr 35 (.load false 1 (.t 34))
 (zm 36 6
 (zr 37 (.bin .quo (.t 36) (zi 4))
 (zm 38 7
 (zr 39 (.bin .quo (.t 38) (zi 4))
 (zr 40 (.slc 1 (.t 35) (some (.t 37)) (some (.t 39)) none)
 (zr 41 (.len 0 (.t 40))
 (zr 42 (.mov (zi 0))
 .done)))))))))
def zq1m_5 : AT := (zr 43 (.bin .lss (.t 42) (.t 41))
 .done)
def zq1m_6 : AT := (zm 44 42
 (zr 45 (.iaddr none 1 (.t 40) (.t 42))
 (zr 46 (.load false 1 (.t 45))
 (zm 10 44
 (zm 11 46
 .done)))))
def zq1m_7 : AT := (zm 48 11
 (zk 49 91 [.t 48]
 (zm 47 49
 (zr 50 (.extr (.t 47) 0)
 (zr 51 (.extr (.t 47) 1)
 (.wr false (some 12) none (.new 77 [(.int .u8 0), (.int .u8 0), (.int .u8 0), (.int .u8 0), (.int .i64 0)])
 (.wr false none none (.store 5 (.t 12) (.t 50))
 (zm 13 51
 .done))))))))
def zq1m_8 : AT := (zm 52 13
 (zr 53 (.bin .neq (.t 52) (zi 0))
 .done))
def zq1m_9 : AT := (zm 54 9
 (zm 55 10
 (zr 56 (.build [(.int .u8 0), (.int .u8 0), (.int .u8 0), (.int .u8 0), (.int .i64 0)] [])
 (.wr false none none (.store 5 (.t 12) (.t 56))
 (.wr false none none (.mapup false [.i] (.t 54) (.t 55) (zi 1))
 .done)))))
def QCl : AT := (zm 57 8
 (zm 58 8
 (zr 59 (.nilc (.t 58))
 (zr 60 (.faddr 3 (.t 59))
 (zr 61 (.faddr 2 (.t 60))
 (zr 62 (.load false 1 (.t 61))
 (zr 63 (.load true 5 (.t 12))
 (.wr true (some 64) none (.bsl false true 77 5 [(.int .u8 0), (.int .u8 0), (.int .u8 0), (.int .u8 0), (.int .i64 0)] 1 [(0, 5, (.t 63))])
 (.wr false (some 65) none (.app 77 5 16 false (.t 62) (.t 64))
 (zr 66 (.nilc (.t 57))
 (zr 67 (.faddr 3 (.t 66))
 (zr 68 (.faddr 2 (.t 67))
 (.wr false none none (.store 1 (.t 68) (.t 65))
 .done)))))))))))))
def QCk : AT := (zr 69 (.bin .add (.t 42) (zi 1))
 (zm 42 69
 .done))
def QCj : AT := (zm 70 8
 (zm 71 8
 (zr 72 (.nilc (.t 71))
 (zr 73 (.faddr 3 (.t 72))
 (zr 74 (.faddr 2 (.t 73))
 (zr 75 (.load false 1 (.t 74))
 (zr 76 (.iaddr none 5 (.t 75) (zi 0))
 (zr 77 (.load true 5 (.t 76))
 (zk 78 92 [.t 77]
 (zr 79 (.nilc (.t 70))
 (zr 80 (.faddr 3 (.t 79))
 (zr 81 (.faddr 3 (.t 80))
 (.wr false none none (.store 1 (.t 81) (.t 78))
 .done)))))))))))))
def QCi : AT := (zm 82 8
 (zr 83 (.nilc (.t 82))
 (zr 84 (.faddr 3 (.t 83))
 (zr 85 (.faddr 2 (.t 84))
 (zr 86 (.load false 1 (.t 85))
 (zr 87 (.len 0 (.t 86))
 (zr 88 (.mov (zi 0))
 .done)))))))
def QCh : AT := (zr 89 (.bin .lss (.t 88) (.t 87))
 .done)
def QCg : AT := (zm 90 88
 (zm 14 90
 .done))
def QCf : AT := (zm 91 9
 (zm 92 14
 (zr 93 (.look false false [.i] (.int .i64 0) (.t 91) (.t 92))
 (zr 94 (.bin .gtr (.t 93) (zi 0))
 .done))))
def QCe : AT := (zr 95 (.build [(.str []), (.int .i64 0), (.lst 0 [] true), (.int .i64 0), (.lst 0 [] true)] [])
 (zm 96 1
 (zm 97 14
 (zr 98 (.build [(.int .i64 0), (.int .i64 0), (.int .i64 0)] [(0, 1, (.t 96)), (1, 1, (.t 97)), (2, 1, (zi 220))])
 (.wr false none none (.store 5 (.t 4) (.t 95))
 (.wr false none none (.store 3 (.t 5) (.t 98))
 .done))))))
def QCd : AT := (zm 99 8
 (zm 100 14
 (zk 101 93 [.t 99, .t 100]
 (zm 15 101
 .done))))
def QCc : AT := (zm 102 15
 (zr 103 (.bin .neq (.t 102) (zi 0))
 .done))
def QCb : AT := (zr 104 (.build [(.str []), (.int .i64 0), (.lst 0 [] true), (.int .i64 0), (.lst 0 [] true)] [])
 (zm 105 1
 (zm 106 14
 (zm 107 15
 (zr 108 (.build [(.int .i64 0), (.int .i64 0), (.int .i64 0)] [(0, 1, (.t 105)), (1, 1, (.t 106)), (2, 1, (.t 107))])
 (.wr false none none (.store 5 (.t 4) (.t 104))
 (.wr false none none (.store 3 (.t 5) (.t 108))
 .done)))))))
def QCa : AT := (zr 109 (.bin .add (.t 88) (zi 1))
 (zm 88 109
 .done))
def QB9 : AT := (zm 110 8
 (zm 111 8
 (zr 112 (.nilc (.t 111))
 (zr 113 (.faddr 3 (.t 112))
 (zr 114 (.load true 5 (.t 113))
 (zk 115 94 [.t 114]
 (zr 116 (.nilc (.t 110))
 (zr 117 (.faddr 3 (.t 116))
 (zr 118 (.faddr 4 (.t 117))
 (.wr false none none (.store 1 (.t 118) (.t 115))
 .done))))))))))
def QB8 : AT := (zm 119 8
 (zr 120 (.nilc (.t 119))
 (zr 121 (.faddr 3 (.t 120))
 (zr 122 (.load true 5 (.t 121))
 (zr 123 (.build [(.int .i64 0), (.int .i64 0), (.int .i64 0)] [])
 (.wr false none none (.store 5 (.t 4) (.t 122))
 (.wr false none none (.store 3 (.t 5) (.t 123))
 .done)))))))
def QeL : AF := ⟨124, [.cell 4 true 5, .cell 5 true 3],
 (.seq (.reg zq1m_0 [])
 (.seq (.reg zq1m_1 [17, 18, 19, 16, 20, 21])
 (.seq (.reg zq1m_2 [22, 23, 24, 25, 26, 27, 28, 29, 30, 31, 32])
 (.seq (.reg zq1m_3 [33])
 (.seq (.seq (.reg zq1m_4 [34, 35, 36, 37, 38, 39])
 (.block 0 (.loop (.seq (.reg zq1m_5 [])
 (.seq (.cond (.t 43)
 .skip
 (.exit 0))
 (.seq (.block 1 (.seq (.reg zq1m_6 [44, 45, 46])
 (.seq (.reg zq1m_7 [48, 49, 47, 50, 51])
 (.seq (.seq (.reg zq1m_8 [52])
 (.cond (.t 53)
 (.reg zq1m_9 [54, 55, 56])
 .skip))
 (.reg QCl [57, 58, 59, 60, 61, 62, 63, 64, 65, 66, 67, 68])))))
 (.reg QCk [69])))))))
 (.seq (.reg QCj [70, 71, 72, 73, 74, 75, 76, 77, 78, 79, 80, 81])
 (.seq (.seq (.reg QCi [82, 83, 84, 85, 86])
 (.block 2 (.loop (.seq (.reg QCh [])
 (.seq (.cond (.t 89)
 .skip
 (.exit 2))
 (.seq (.block 3 (.seq (.reg QCg [90])
 (.seq (.seq (.reg QCf [91, 92, 93])
 (.cond (.t 94)
 (.seq (.reg QCe [95, 96, 97, 98])
 .ret)
 .skip))
 (.seq (.reg QCd [99, 100, 101])
 (.seq (.reg QCc [102])
 (.cond (.t 103)
 (.seq (.reg QCb [104, 105, 106, 107, 108])
 .ret)
 .skip))))))
 (.reg QCa [109])))))))
 (.seq (.reg QB9 [110, 111, 112, 113, 114, 115, 116, 117, 118])
 (.seq (.reg QB8 [119, 120, 121, 122, 123])
 .ret)))))))))⟩
abbrev QlQ : Nat := 61
/- proofmark/rv.Encode -/
def Qtt : AT := (.wr false (some 1) none (.box 77 (.t 0))
 (zr 2 (.mov (.c (.int .u32 0)))
 (zr 3 (.mov (zi 0))
 .done)))
def Qts : AT := (zr 8 (.faddr 0 (.t 1))
 (zr 9 (.load false 1 (.t 8))
 (zk 10 95 [.t 9]
 (zm 7 10
 (zr 11 (.extr (.t 7) 0)
 (zr 12 (.extr (.t 7) 1)
 (.wr false (some 4) none (.new 175 [(.bool false), (.bool false), (.bool false), (.lst 0 [] true), (.int .i64 0), (.bool false), (.int .u32 0), (.str []), (.int .u32 0)])
 (.wr false none none (.store 9 (.t 4) (.t 11))
 (zm 5 12
 .done)))))))))
def Qtr : AT := (zr 6 (.mov (.c (.fn (.func 96) [] [])))
 .done)
def Qtq : AT := (zm 13 5
 (zr 14 (.un .not (.t 13))
 (zm 15 14
 (zf 16 15 (.mov (.t 6))
 (zf 17 15 (.faddr 0 (.t 4))
 (zf 18 15 (.faddr 0 (.t 17))
 (zf 19 15 (.load false 1 (.t 18))
 (zf 20 15 (.faddr 1 (.t 1))
 (zf 21 15 (.load false 1 (.t 20))
 (.cl false (some 22) (some (15, false)) (.t 16) [(.t 19), (.t 21)]
 (zf 23 15 (.un .not (.t 22))
 (zr 24 (.pick (.t 15) (.c (.bool true)) (.t 23))
 (zm 25 24
 (zf 26 25 (.mov (.t 6))
 (zf 27 25 (.faddr 0 (.t 4))
 (zf 28 25 (.faddr 1 (.t 27))
 (zf 29 25 (.load false 1 (.t 28))
 (zf 30 25 (.faddr 2 (.t 1))
 (zf 31 25 (.load false 1 (.t 30))
 (.cl false (some 32) (some (25, false)) (.t 26) [(.t 29), (.t 31)]
 (zf 33 25 (.un .not (.t 32))
 (zr 34 (.pick (.t 25) (.c (.bool true)) (.t 33))
 (zm 35 34
 (zf 36 35 (.mov (.t 6))
 (zf 37 35 (.faddr 0 (.t 4))
 (zf 38 35 (.faddr 2 (.t 37))
 (zf 39 35 (.load false 1 (.t 38))
 (zf 40 35 (.faddr 3 (.t 1))
 (zf 41 35 (.load false 1 (.t 40))
 (.cl false (some 42) (some (35, false)) (.t 36) [(.t 39), (.t 41)]
 (zf 43 35 (.un .not (.t 42))
 (zr 44 (.pick (.t 35) (.c (.bool true)) (.t 43))
 (zm 45 44
 (zf 46 45 (.faddr 0 (.t 4))
 (zf 47 45 (.faddr 3 (.t 46))
 (zf 48 45 (.load false 1 (.t 47))
 (zf 49 45 (.len 0 (.t 48))
 (zf 50 45 (.bin .eql (.t 49) (zi 0))
 (zf 51 45 (.mov (.t 50))
 (zt 52 51 (.faddr 4 (.t 1))
 (zt 53 51 (.load false 1 (.t 52))
 (zt 54 51 (.bin .neq (.t 53) (zi 0))
 (zf 55 45 (.pick (.t 51) (.t 54) (.c (.bool false)))
 (zr 56 (.pick (.t 45) (.c (.bool true)) (.t 55))
 .done))))))))))))))))))))))))))))))))))))))))))))
def Qtp : AT := (zr 2 (.mov (.c (.int .u32 0)))
 (zr 3 (.mov (zi 100))
 .done))
def Qto : AT := (zr 57 (.faddr 0 (.t 4))
 (zr 58 (.load true 7 (.t 57))
 (zr 59 (.faddr 4 (.t 1))
 (zr 60 (.load false 1 (.t 59))
 (zk 61 97 [.t 58, .t 60]
 (zr 62 (.un .not (.t 61))
 .done))))))
def Qtn : AT := (zr 2 (.mov (.c (.int .u32 0)))
 (zr 3 (.mov (zi 101))
 .done))
def Qtm : AT := (zr 63 (.faddr 8 (.t 4))
 (zr 64 (.load false 1 (.t 63))
 (zr 65 (.faddr 1 (.t 1))
 (zr 66 (.load false 1 (.t 65))
 (zr 67 (.conv .u32 (.t 66))
 (zr 68 (.faddr 0 (.g 0))
 (zr 69 (.load false 1 (.t 68))
 (zr 70 (.bin .shl (.t 67) (.t 69))
 (zr 71 (.faddr 2 (.t 1))
 (zr 72 (.load false 1 (.t 71))
 (zr 73 (.conv .u32 (.t 72))
 (zr 74 (.faddr 0 (.g 1))
 (zr 75 (.load false 1 (.t 74))
 (zr 76 (.bin .shl (.t 73) (.t 75))
 (zr 77 (.faddr 3 (.t 1))
 (zr 78 (.load false 1 (.t 77))
 (zr 79 (.conv .u32 (.t 78))
 (zr 80 (.faddr 0 (.g 2))
 (zr 81 (.load false 1 (.t 80))
 (zr 82 (.bin .shl (.t 79) (.t 81))
 (zr 83 (.faddr 0 (.t 4))
 (zr 84 (.load true 7 (.t 83))
 (zr 85 (.faddr 4 (.t 1))
 (zr 86 (.load false 1 (.t 85))
 (.cl true (some 87) none (.c (.fn (.func 99) [] [])) [(.t 84), (.t 86)]
 (.wr false (some 88) none (.bsl false false 131 1 [(.int .u32 0)] 5 [(0, 1, (.t 64)), (1, 1, (.t 70)), (2, 1, (.t 76)), (3, 1, (.t 82)), (4, 1, (.t 87))])
 (zk 89 98 [.t 88]
 (zm 2 89
 (zr 3 (.mov (zi 0))
 .done)))))))))))))))))))))))))))))
def Qbp : AF := ⟨90, [.tmp 2, .tmp 3],
 (.seq (.reg Qtt [])
 (.seq (.reg Qts [8, 9, 10, 7, 11, 12])
 (.seq (.reg Qtr [])
 (.seq (.seq (.reg Qtq [13, 14, 15, 16, 17, 18, 19, 20, 21, 22, 23, 24, 25, 26, 27, 28, 29, 30, 31, 32, 33, 34, 35, 36, 37, 38, 39, 40, 41, 42, 43, 44, 45, 46, 47, 48, 49, 50, 51, 52, 53, 54, 55])
 (.cond (.t 56)
 (.seq (.reg Qtp [])
 .ret)
 .skip))
 (.seq (.seq (.reg Qto [57, 58, 59, 60, 61])
 (.cond (.t 62)
 (.seq (.reg Qtn [])
 .ret)
 .skip))
 (.seq (.reg Qtm [63, 64, 65, 66, 67, 68, 69, 70, 71, 72, 73, 74, 75, 76, 77, 78, 79, 80, 81, 82, 83, 84, 85, 86, 87, 88, 89])
 .ret))))))⟩
abbrev Qgn : Nat := 62
/- proofmark/relate.reg -/
def QgU : AT := (zr 2 (.mov (.c (.bool false)))
 .done)
def QgT : AT := (zm 3 0
 (zr 4 (.bin .geq (.t 3) (zi 1))
 (zm 5 4
 (zt 6 5 (.mov (.t 0))
 (zt 7 5 (.bin .leq (.t 6) (zi 31))
 (zr 8 (.pick (.t 5) (.t 7) (.c (.bool false)))
 (zm 9 8
 (zt 10 9 (.mov (.t 0))
 (zt 11 9 (.bin .neq (.t 10) (zi 2))
 (zr 12 (.pick (.t 9) (.t 11) (.c (.bool false)))
 (zm 2 12
 .done)))))))))))
def Xp : AF := ⟨13, [.tmp 2],
 (.seq (.reg QgU [])
 (.seq (.reg QgT [3, 4, 5, 6, 7, 8, 9, 10, 11, 12])
 .ret))⟩
abbrev QiK : Nat := 63
/- (*proofmark/term.Graph).may -/
def Qzb : AT := (.wr false (some 3) none (.box 108 (.t 1))
 (zr 4 (.mov (.c (.bool false)))
 .done))
def Qza : AT := (zr 5 (.load true 6 (.t 3))
 (zk 6 100 [.t 5]
 (zr 7 (.build [(.int .u8 0), (.int .i64 0), (.int .i64 0), (.int .u8 0), (.int .i64 0), (.int .i64 0)] [])
 (zr 8 (.eqs true [.i, .i, .i, .i, .i, .i] (.t 6) (.t 7))
 .done))))
def Qy9 : AT := (zr 4 (.mov (.c (.bool false)))
 .done)
def Qy8 : AT := (zr 9 (.faddr 0 (.t 3))
 (zr 10 (.load false 1 (.t 9))
 .done))
def Qy7 : AT := (zr 12 (.bin .eql (.t 10) (zu 1))
 (zm 11 12
 .done))
def Qy6 : AT := (zr 4 (.mov (.c (.bool true)))
 .done)
def Qy5 : AT := (zr 14 (.bin .eql (.t 10) (zu 2))
 (zm 13 14
 .done))
def Qy4 : AT := (zr 15 (.faddr 1 (.t 3))
 (zr 16 (.load false 1 (.t 15))
 (zr 17 (.bin .geq (.t 16) (zi 0))
 (zm 4 17
 .done))))
def Qy3 : AT := (zr 19 (.bin .eql (.t 10) (zu 3))
 (zm 18 19
 .done))
def Qy2 : AT := (zr 20 (.faddr 1 (.t 3))
 (zr 21 (.load false 1 (.t 20))
 (zr 22 (.bin .geq (.t 21) (zi 0))
 (zm 23 22
 (zt 24 23 (.faddr 2 (.t 3))
 (zt 25 23 (.load false 1 (.t 24))
 (zt 26 23 (.bin .geq (.t 25) (zi 0))
 (zr 27 (.pick (.t 23) (.t 26) (.c (.bool false)))
 (zm 28 27
 (zt 29 28 (.mov (.t 0))
 (zt 30 28 (.faddr 5 (.t 3))
 (zt 31 28 (.load false 1 (.t 30))
 (.cl false (some 32) (some (28, true)) (.c (.fn (.func 68) [] [])) [(.t 29), (.t 31)]
 (zr 33 (.pick (.t 28) (.t 32) (.c (.bool false)))
 (zm 4 33
 .done)))))))))))))))
def Qtl : AT := (zr 35 (.bin .eql (.t 10) (zu 4))
 (zm 34 35
 .done))
def Qtk : AT := (zr 36 (.faddr 3 (.t 3))
 (zr 37 (.load false 1 (.t 36))
 (zr 38 (.bin .geq (.t 37) (zu 1))
 (zm 39 38
 (zt 40 39 (.faddr 3 (.t 3))
 (zt 41 39 (.load false 1 (.t 40))
 (zt 42 39 (.bin .leq (.t 41) (zu 16))
 (zr 43 (.pick (.t 39) (.t 42) (.c (.bool false)))
 (zm 44 43
 (zt 45 44 (.mov (.t 0))
 (zt 46 44 (.faddr 4 (.t 3))
 (zt 47 44 (.load false 1 (.t 46))
 (.cl false (some 48) (some (44, true)) (.c (.fn (.func 68) [] [])) [(.t 45), (.t 47)]
 (zr 49 (.pick (.t 44) (.t 48) (.c (.bool false)))
 (zm 50 49
 (zt 51 50 (.mov (.t 0))
 (zt 52 50 (.faddr 5 (.t 3))
 (zt 53 50 (.load false 1 (.t 52))
 (.cl false (some 54) (some (50, true)) (.c (.fn (.func 68) [] [])) [(.t 51), (.t 53)]
 (zr 55 (.pick (.t 50) (.t 54) (.c (.bool false)))
 (zm 4 55
 .done)))))))))))))))))))))
def Qtj : AT := (zr 4 (.mov (.c (.bool false)))
 .done)
def Y1 : AF := ⟨56, [.tmp 4],
 (.seq (.reg Qzb [])
 (.seq (.seq (.reg Qza [5, 6, 7])
 (.cond (.t 8)
 (.seq (.reg Qy9 [])
 .ret)
 .skip))
 (.seq (.seq (.reg Qy8 [9])
 (.block 0 (.seq (.reg Qy7 [12])
 (.cond (.t 11)
 (.seq (.reg Qy6 [])
 .ret)
 (.seq (.reg Qy5 [14])
 (.cond (.t 13)
 (.seq (.reg Qy4 [15, 16, 17])
 .ret)
 (.seq (.reg Qy3 [19])
 (.cond (.t 18)
 (.seq (.reg Qy2 [20, 21, 22, 23, 24, 25, 26, 27, 28, 29, 30, 31, 32, 33])
 .ret)
 (.seq (.reg Qtl [35])
 (.cond (.t 34)
 (.seq (.reg Qtk [36, 37, 38, 39, 40, 41, 42, 43, 44, 45, 46, 47, 48, 49, 50, 51, 52, 53, 54, 55])
 .ret)
 .skip))))))))))
 (.seq (.reg Qtj [])
 .ret))))⟩
abbrev QdW : Nat := 64
/- proofmark/term.words -/
def Qy1 : AT := (.wr false (some 3) none (.box 108 (.t 0))
 (zr 6 (.mov (.c (.str [])))
 .done))
def Qy0 : AT := (zr 8 (.faddr 1 (.t 3))
 (zr 9 (.load false 1 (.t 8))
 (zk 10 101 [.t 9, (zi 10)]
 (zm 7 10
 .done))))
def QyZ : AT := (zr 11 (.faddr 0 (.t 3))
 (zr 12 (.load false 1 (.t 11))
 .done))
def QyY : AT := (zr 14 (.bin .eql (.t 12) (zu 1))
 (zm 13 14
 .done))
def QyX : AT := (zm 15 7
 (zm 6 15
 .done))
def QyW : AT := (zr 17 (.bin .eql (.t 12) (zu 2))
 (zm 16 17
 .done))
def QyV : AT := (zm 18 7
 (zr 19 (.bin .add (.c (.str [115])) (.t 18))
 (zm 6 19
 .done)))
def QyU : AT := (zr 21 (.bin .eql (.t 12) (zu 3))
 (zm 20 21
 .done))
def QyT : AT := (zr 22 (.faddr 2 (.t 3))
 (zr 23 (.load false 1 (.t 22))
 (zk 24 102 [.t 23]
 (zr 25 (.bin .add (.c (.str [97])) (.t 24))
 (zr 26 (.bin .add (.t 25) (.c (.str [118])))
 (zm 27 7
 (zr 28 (.bin .add (.t 26) (.t 27))
 (zr 29 (.bin .add (.t 28) (.c (.str [91])))
 (zm 30 2
 (zr 31 (.bin .add (.t 29) (.t 30))
 (zr 32 (.bin .add (.t 31) (.c (.str [93])))
 (zm 6 32
 .done))))))))))))
def QyS : AT := (zm 33 1
 (zr 34 (.bin .add (.c (.str [40])) (.t 33))
 (zr 35 (.bin .add (.t 34) (.c (.str [32])))
 (zr 36 (.faddr 3 (.t 3))
 (zr 37 (.load false 1 (.t 36))
 (zk 38 103 [.t 37]
 (zr 39 (.bin .add (.t 35) (.t 38))
 (zr 40 (.bin .add (.t 39) (.c (.str [32])))
 (zm 41 2
 (zr 42 (.bin .add (.t 40) (.t 41))
 (zr 43 (.bin .add (.t 42) (.c (.str [41])))
 (zm 6 43
 .done))))))))))))
def QcN : AF := ⟨44, [.tmp 6],
 (.seq (.reg Qy1 [])
 (.seq (.reg Qy0 [8, 9, 10])
 (.seq (.seq (.reg QyZ [11])
 (.block 0 (.seq (.reg QyY [14])
 (.cond (.t 13)
 (.seq (.reg QyX [15])
 .ret)
 (.seq (.reg QyW [17])
 (.cond (.t 16)
 (.seq (.reg QyV [18, 19])
 .ret)
 (.seq (.reg QyU [21])
 (.cond (.t 20)
 (.seq (.reg QyT [22, 23, 24, 25, 26, 27, 28, 29, 30, 31, 32])
 .ret)
 .skip))))))))
 (.seq (.reg QyS [33, 34, 35, 36, 37, 38, 39, 40, 41, 42, 43])
 .ret))))⟩
abbrev QiF : Nat := 65
/- proofmark/term.parts -/
def QyR : AT := (.wr false (some 1) none (.box 108 (.t 0))
 (zr 2 (.mov (.c (.lst 0 [] true)))
 .done))
def QyQ : AT := (zr 3 (.faddr 0 (.t 1))
 (zr 4 (.load false 1 (.t 3))
 .done))
def QyP : AT := (zr 6 (.bin .eql (.t 4) (zu 3))
 (zm 5 6
 .done))
def QyO : AT := (zr 7 (.faddr 5 (.t 1))
 (zr 8 (.load false 1 (.t 7))
 (.wr false (some 9) none (.bsl false false 44 1 [(.int .i64 0)] 1 [(0, 1, (.t 8))])
 (zm 2 9
 .done))))
def QyN : AT := (zr 11 (.bin .eql (.t 4) (zu 4))
 (zm 10 11
 .done))
def QyM : AT := (zr 12 (.faddr 4 (.t 1))
 (zr 13 (.load false 1 (.t 12))
 (zr 14 (.faddr 5 (.t 1))
 (zr 15 (.load false 1 (.t 14))
 (.wr false (some 16) none (.bsl false false 44 1 [(.int .i64 0)] 2 [(0, 1, (.t 13)), (1, 1, (.t 15))])
 (zm 2 16
 .done))))))
def QyL : AT := (zr 2 (.mov (.c (.lst 0 [] true)))
 .done)
def QcO : AF := ⟨17, [.tmp 2],
 (.seq (.reg QyR [])
 (.seq (.seq (.reg QyQ [3])
 (.block 0 (.seq (.reg QyP [6])
 (.cond (.t 5)
 (.seq (.reg QyO [7, 8, 9])
 .ret)
 (.seq (.reg QyN [11])
 (.cond (.t 10)
 (.seq (.reg QyM [12, 13, 14, 15, 16])
 .ret)
 .skip))))))
 (.seq (.reg QyL [])
 .ret)))⟩
abbrev QiG : Nat := 66
abbrev Qpw : Nat := 67
/- (*proofmark/term.Graph).is -/
def QyK : AT := (zr 4 (.mov (.c (.bool false)))
 .done)
def QyJ : AT := (zm 5 0
 (zr 6 (.eqp true (.t 5) (.c (.val (.pointer none))))
 (zm 7 6
 (zt 8 7 (.mov (.t 1))
 (zt 9 7 (.bin .geq (.t 8) (zi 0))
 (zr 10 (.pick (.t 7) (.t 9) (.c (.bool false)))
 (zm 11 10
 (zt 12 11 (.mov (.t 1))
 (zt 13 11 (.mov (.t 0))
 (zt 14 11 (.nilc (.t 13))
 (zt 15 11 (.faddr 0 (.t 14))
 (zt 16 11 (.load false 1 (.t 15))
 (zt 17 11 (.len 0 (.t 16))
 (zt 18 11 (.bin .lss (.t 12) (.t 17))
 (zr 19 (.pick (.t 11) (.t 18) (.c (.bool false)))
 (zm 4 19
 .done))))))))))))))))
def Zx : AF := ⟨20, [.tmp 4],
 (.seq (.reg QyK [])
 (.seq (.reg QyJ [5, 6, 7, 8, 9, 10, 11, 12, 13, 14, 15, 16, 17, 18, 19])
 .ret))⟩
abbrev QeO : Nat := 68
abbrev Qd5 : Nat := 69
abbrev Qf6 : Nat := 70
abbrev Qd6 : Nat := 71
abbrev QeP : Nat := 72
abbrev Qev : Nat := 73
abbrev Qcd : Nat := 74
abbrev QdX : Nat := 75
abbrev QfC : Nat := 76
/- math/bits.Len32 -/
def zq22_0 : AT := (zr 2 (.mov (zi 0))
 .done)
def zq22_1 : AT := (zm 3 0
 (zr 4 (.bin .geq (.t 3) (.c (.int .u32 65536)))
 .done))
def zq22_2 : AT := (zm 5 0
 (zr 6 (.bin .shr (.t 5) (.c (.int .u64 16)))
 (zm 0 6
 .done)))
def zq22_3 : AT := (zr 2 (.mov (zi 16))
 .done)
def zq22_4 : AT := (zm 7 0
 (zr 8 (.bin .geq (.t 7) (.c (.int .u32 256)))
 .done))
def zq22_5 : AT := (zm 9 0
 (zr 10 (.bin .shr (.t 9) (.c (.int .u64 8)))
 (zm 0 10
 .done)))
def zq22_6 : AT := (zm 11 2
 (zr 12 (.bin .add (.t 11) (zi 8))
 (zm 2 12
 .done)))
def zq22_7 : AT := (zm 13 2
 (zm 14 0
 (zr 15 (.conv .u8 (.t 14))
 (zr 16 (.sidx (.c (.str [0, 1, 2, 2, 3, 3, 3, 3, 4, 4, 4, 4, 4, 4, 4, 4, 5, 5, 5, 5, 5, 5, 5, 5, 5, 5, 5, 5, 5, 5, 5, 5, 6, 6, 6, 6, 6, 6, 6, 6, 6, 6, 6, 6, 6, 6, 6, 6, 6, 6, 6, 6, 6, 6, 6, 6, 6, 6, 6, 6, 6, 6, 6, 6, 7, 7, 7, 7, 7, 7, 7, 7, 7, 7, 7, 7, 7, 7, 7, 7, 7, 7, 7, 7, 7, 7, 7, 7, 7, 7, 7, 7, 7, 7, 7, 7, 7, 7, 7, 7, 7, 7, 7, 7, 7, 7, 7, 7, 7, 7, 7, 7, 7, 7, 7, 7, 7, 7, 7, 7, 7, 7, 7, 7, 7, 7, 7, 7, 8, 8, 8, 8, 8, 8, 8, 8, 8, 8, 8, 8, 8, 8, 8, 8, 8, 8, 8, 8, 8, 8, 8, 8, 8, 8, 8, 8, 8, 8, 8, 8, 8, 8, 8, 8, 8, 8, 8, 8, 8, 8, 8, 8, 8, 8, 8, 8, 8, 8, 8, 8, 8, 8, 8, 8, 8, 8, 8, 8, 8, 8, 8, 8, 8, 8, 8, 8, 8, 8, 8, 8, 8, 8, 8, 8, 8, 8, 8, 8, 8, 8, 8, 8, 8, 8, 8, 8, 8, 8, 8, 8, 8, 8, 8, 8, 8, 8, 8, 8, 8, 8, 8, 8, 8, 8, 8, 8, 8, 8, 8, 8, 8, 8, 8, 8, 8, 8, 8, 8, 8, 8, 8, 8, 8, 8, 8, 8])) (.t 15))
 (zr 17 (.conv .i64 (.t 16))
 (zr 18 (.bin .add (.t 13) (.t 17))
 (zm 2 18
 .done)))))))
def Qbx : AF := ⟨19, [.tmp 2],
 (.seq (.reg zq22_0 [])
 (.seq (.seq (.reg zq22_1 [3])
 (.cond (.t 4)
 (.seq (.reg zq22_2 [5, 6])
 (.reg zq22_3 []))
 .skip))
 (.seq (.seq (.reg zq22_4 [7])
 (.cond (.t 8)
 (.seq (.reg zq22_5 [9, 10])
 (.reg zq22_6 [11, 12]))
 .skip))
 (.seq (.reg zq22_7 [13, 14, 15, 16, 17, 18])
 .ret))))⟩
abbrev QhV : Nat := 77
/- math/bits.Len64 -/
def zq23_0 : AT := (zr 2 (.mov (zi 0))
 .done)
def zq23_1 : AT := (zm 3 0
 (zr 4 (.bin .geq (.t 3) (.c (.int .u64 4294967296)))
 .done))
def zq23_2 : AT := (zm 5 0
 (zr 6 (.bin .shr (.t 5) (.c (.int .u64 32)))
 (zm 0 6
 .done)))
def zq23_3 : AT := (zr 2 (.mov (zi 32))
 .done)
def zq23_4 : AT := (zm 7 0
 (zr 8 (.bin .geq (.t 7) (.c (.int .u64 65536)))
 .done))
def zq23_5 : AT := (zm 9 0
 (zr 10 (.bin .shr (.t 9) (.c (.int .u64 16)))
 (zm 0 10
 .done)))
def zq23_6 : AT := (zm 11 2
 (zr 12 (.bin .add (.t 11) (zi 16))
 (zm 2 12
 .done)))
def zq23_7 : AT := (zm 13 0
 (zr 14 (.bin .geq (.t 13) (.c (.int .u64 256)))
 .done))
def zq23_8 : AT := (zm 15 0
 (zr 16 (.bin .shr (.t 15) (.c (.int .u64 8)))
 (zm 0 16
 .done)))
def zq23_9 : AT := (zm 17 2
 (zr 18 (.bin .add (.t 17) (zi 8))
 (zm 2 18
 .done)))
def QB7 : AT := (zm 19 2
 (zm 20 0
 (zr 21 (.conv .u8 (.t 20))
 (zr 22 (.sidx (.c (.str [0, 1, 2, 2, 3, 3, 3, 3, 4, 4, 4, 4, 4, 4, 4, 4, 5, 5, 5, 5, 5, 5, 5, 5, 5, 5, 5, 5, 5, 5, 5, 5, 6, 6, 6, 6, 6, 6, 6, 6, 6, 6, 6, 6, 6, 6, 6, 6, 6, 6, 6, 6, 6, 6, 6, 6, 6, 6, 6, 6, 6, 6, 6, 6, 7, 7, 7, 7, 7, 7, 7, 7, 7, 7, 7, 7, 7, 7, 7, 7, 7, 7, 7, 7, 7, 7, 7, 7, 7, 7, 7, 7, 7, 7, 7, 7, 7, 7, 7, 7, 7, 7, 7, 7, 7, 7, 7, 7, 7, 7, 7, 7, 7, 7, 7, 7, 7, 7, 7, 7, 7, 7, 7, 7, 7, 7, 7, 7, 8, 8, 8, 8, 8, 8, 8, 8, 8, 8, 8, 8, 8, 8, 8, 8, 8, 8, 8, 8, 8, 8, 8, 8, 8, 8, 8, 8, 8, 8, 8, 8, 8, 8, 8, 8, 8, 8, 8, 8, 8, 8, 8, 8, 8, 8, 8, 8, 8, 8, 8, 8, 8, 8, 8, 8, 8, 8, 8, 8, 8, 8, 8, 8, 8, 8, 8, 8, 8, 8, 8, 8, 8, 8, 8, 8, 8, 8, 8, 8, 8, 8, 8, 8, 8, 8, 8, 8, 8, 8, 8, 8, 8, 8, 8, 8, 8, 8, 8, 8, 8, 8, 8, 8, 8, 8, 8, 8, 8, 8, 8, 8, 8, 8, 8, 8, 8, 8, 8, 8, 8, 8, 8, 8, 8, 8, 8, 8])) (.t 21))
 (zr 23 (.conv .i64 (.t 22))
 (zr 24 (.bin .add (.t 19) (.t 23))
 (zm 2 24
 .done)))))))
def Qbw : AF := ⟨25, [.tmp 2],
 (.seq (.reg zq23_0 [])
 (.seq (.seq (.reg zq23_1 [3])
 (.cond (.t 4)
 (.seq (.reg zq23_2 [5, 6])
 (.reg zq23_3 []))
 .skip))
 (.seq (.seq (.reg zq23_4 [7])
 (.cond (.t 8)
 (.seq (.reg zq23_5 [9, 10])
 (.reg zq23_6 [11, 12]))
 .skip))
 (.seq (.seq (.reg zq23_7 [13])
 (.cond (.t 14)
 (.seq (.reg zq23_8 [15, 16])
 (.reg zq23_9 [17, 18]))
 .skip))
 (.seq (.reg QB7 [19, 20, 21, 22, 23, 24])
 .ret)))))⟩
abbrev QhU : Nat := 78
/- cmp.isNaN[int] -/
def zq24_0 : AT := (zr 2 (.mov (.c (.bool false)))
 .done)
def zq24_1 : AT := (zm 3 0
 (zm 4 0
 (zr 5 (.bin .neq (.t 3) (.t 4))
 (zm 2 5
 .done))))
def cmp_isNaN_int : AF := ⟨6, [.tmp 2],
 (.seq (.reg zq24_0 [])
 (.seq (.reg zq24_1 [3, 4, 5])
 .ret))⟩
abbrev QkG : Nat := 79
/- cmp.isNaN[uint8] -/
def zq25_0 : AT := (zr 2 (.mov (.c (.bool false)))
 .done)
def zq25_1 : AT := (zm 3 0
 (zm 4 0
 (zr 5 (.bin .neq (.t 3) (.t 4))
 (zm 2 5
 .done))))
def QbQ : AF := ⟨6, [.tmp 2],
 (.seq (.reg zq25_0 [])
 (.seq (.reg zq25_1 [3, 4, 5])
 .ret))⟩
abbrev QhY : Nat := 80
abbrev Qsm : Nat := 81
/- proofmark/image.Right$1 -/
def zq27_0 : AT := (.wr false (some 4) none (.box 130 (.t 0))
 (zr 5 (.mov (.c (.bool false)))
 .done))
def zq27_1 : AT := (zr 7 (.load false 1 (.t 1))
 (zr 8 (.faddr 0 (.t 4))
 (zr 9 (.load false 1 (.t 8))
 (zr 10 (.look false false [.s] (.int .i64 0) (.t 7) (.t 9))
 (zr 11 (.bin .add (.t 10) (zi 1))
 (.wr false none none (.mapup false [.s] (.t 7) (.t 9) (.t 11))
 .done))))))
def zq27_2 : AT := (zr 12 (.faddr 0 (.t 4))
 (zr 13 (.load false 1 (.t 12))
 (zr 14 (.len 1 (.t 13))
 (zr 15 (.bin .lss (.t 14) (zi 1))
 (zm 16 15
 (zf 17 16 (.faddr 0 (.t 4))
 (zf 18 16 (.load false 1 (.t 17))
 (zf 19 16 (.len 1 (.t 18))
 (zf 20 16 (.bin .gtr (.t 19) (zi 64))
 (zr 21 (.pick (.t 16) (.c (.bool true)) (.t 20))
 (zm 22 21
 (zf 23 22 (.load false 1 (.t 1))
 (zf 24 22 (.faddr 0 (.t 4))
 (zf 25 22 (.load false 1 (.t 24))
 (zf 26 22 (.look false false [.s] (.int .i64 0) (.t 23) (.t 25))
 (zf 27 22 (.bin .gtr (.t 26) (zi 1))
 (zr 28 (.pick (.t 22) (.c (.bool true)) (.t 27))
 (zm 29 28
 (zf 30 29 (.faddr 1 (.t 4))
 (zf 31 29 (.load false 1 (.t 30))
 (zf 32 29 (.load false 1 (.t 2))
 (zf 33 29 (.bin .leq (.t 31) (.t 32))
 (zr 34 (.pick (.t 29) (.c (.bool true)) (.t 33))
 (zm 35 34
 (zf 36 35 (.faddr 1 (.t 4))
 (zf 37 35 (.load false 1 (.t 36))
 (zf 38 35 (.bin .rem (.t 37) (zi 4))
 (zf 39 35 (.bin .neq (.t 38) (zi 0))
 (zr 40 (.pick (.t 35) (.c (.bool true)) (.t 39))
 (zm 41 40
 (zf 42 41 (.faddr 1 (.t 4))
 (zf 43 41 (.load false 1 (.t 42))
 (zf 44 41 (.faddr 2 (.t 3))
 (zf 45 41 (.load false 1 (.t 44))
 (zf 46 41 (.len 0 (.t 45))
 (zf 47 41 (.bin .mul (zi 4) (.t 46))
 (zf 48 41 (.bin .geq (.t 43) (.t 47))
 (zr 49 (.pick (.t 41) (.c (.bool true)) (.t 48))
 (zm 6 49
 .done)))))))))))))))))))))))))))))))))))))))
def zq27_3 : AT := (zr 50 (.faddr 1 (.t 4))
 (zr 51 (.load false 1 (.t 50))
 (.wr false none none (.store 1 (.t 2) (.t 51))
 .done)))
def zq27_4 : AT := (zm 52 6
 (zm 5 52
 .done))
def QcB : AF := ⟨53, [.tmp 5],
 (.seq (.reg zq27_0 [])
 (.seq (.reg zq27_1 [7, 8, 9, 10, 11])
 (.seq (.reg zq27_2 [12, 13, 14, 15, 16, 17, 18, 19, 20, 21, 22, 23, 24, 25, 26, 27, 28, 29, 30, 31, 32, 33, 34, 35, 36, 37, 38, 39, 40, 41, 42, 43, 44, 45, 46, 47, 48, 49])
 (.seq (.reg zq27_3 [50, 51])
 (.seq (.reg zq27_4 [52])
 .ret)))))⟩
abbrev Qi3 : Nat := 82
/- proofmark/image.Right$2 -/
def zq28_0 : AT := (zr 1 (.mov (.c (.bool false)))
 .done)
def zq28_1 : AT := (zr 2 (.faddr 0 (.t 0))
 (zr 3 (.load false 1 (.t 2))
 (zr 4 (.bin .geq (.t 3) (zi 0))
 (zm 5 4
 (zt 6 5 (.faddr 0 (.t 0))
 (zt 7 5 (.load false 1 (.t 6))
 (zt 8 5 (.bin .leq (.t 7) (zi 524288))
 (zr 9 (.pick (.t 5) (.t 8) (.c (.bool false)))
 (zm 10 9
 (zt 11 10 (.faddr 0 (.t 0))
 (zt 12 10 (.load false 1 (.t 11))
 (zt 13 10 (.bin .rem (.t 12) (zi 8))
 (zt 14 10 (.bin .eql (.t 13) (zi 0))
 (zr 15 (.pick (.t 10) (.t 14) (.c (.bool false)))
 (zm 1 15
 .done)))))))))))))))
def QcA : AF := ⟨16, [.tmp 1],
 (.seq (.reg zq28_0 [])
 (.seq (.reg zq28_1 [2, 3, 4, 5, 6, 7, 8, 9, 10, 11, 12, 13, 14, 15])
 .ret))⟩
abbrev Qi2 : Nat := 83
/- proofmark/image.Right$3 -/
def zq29_0 : AT := (zr 1 (.mov (.c (.bool false)))
 .done)
def zq29_1 : AT := (zr 2 (.faddr 2 (.t 0))
 (zr 3 (.load false 1 (.t 2))
 (zr 4 (.len 0 (.t 3))
 (zr 5 (.bin .geq (.t 4) (zi 1))
 (zm 6 5
 (zt 7 6 (.faddr 2 (.t 0))
 (zt 8 6 (.load false 1 (.t 7))
 (zt 9 6 (.len 0 (.t 8))
 (zt 10 6 (.bin .leq (.t 9) (zi 262144))
 (zr 11 (.pick (.t 6) (.t 10) (.c (.bool false)))
 (zm 1 11
 .done)))))))))))
def Qcz : AF := ⟨12, [.tmp 1],
 (.seq (.reg zq29_0 [])
 (.seq (.reg zq29_1 [2, 3, 4, 5, 6, 7, 8, 9, 10, 11])
 .ret))⟩
abbrev Qi1 : Nat := 84
/- proofmark/image.Right$4 -/
def zq2a_0 : AT := (zr 1 (.mov (.c (.bool false)))
 .done)
def zq2a_1 : AT := (zr 2 (.faddr 1 (.t 0))
 (zr 3 (.load false 1 (.t 2))
 (zr 4 (.len 0 (.t 3))
 (zr 5 (.bin .geq (.t 4) (zi 1))
 (zm 6 5
 (zt 7 6 (.faddr 1 (.t 0))
 (zt 8 6 (.load false 1 (.t 7))
 (zt 9 6 (.len 0 (.t 8))
 (zt 10 6 (.bin .leq (.t 9) (zi 65))
 (zr 11 (.pick (.t 6) (.t 10) (.c (.bool false)))
 (zm 12 11
 (zt 13 12 (.faddr 1 (.t 0))
 (zt 14 12 (.load false 1 (.t 13))
 (zt 15 12 (.iaddr none 2 (.t 14) (zi 0))
 (zt 16 12 (.faddr 1 (.t 15))
 (zt 17 12 (.load false 1 (.t 16))
 (zt 18 12 (.bin .eql (.t 17) (zi 0))
 (zr 19 (.pick (.t 12) (.t 18) (.c (.bool false)))
 (zm 1 19
 .done)))))))))))))))))))
def Qcy : AF := ⟨20, [.tmp 1],
 (.seq (.reg zq2a_0 [])
 (.seq (.reg zq2a_1 [2, 3, 4, 5, 6, 7, 8, 9, 10, 11, 12, 13, 14, 15, 16, 17, 18, 19])
 .ret))⟩
abbrev Qi0 : Nat := 85
/- proofmark/image.Right$5 -/
def zq2b_0 : AT := (zr 2 (.mov (.c (.bool false)))
 .done)
def zq2b_1 : AT := (zr 3 (.faddr 1 (.t 0))
 (zr 4 (.load false 1 (.t 3))
 (zr 5 (.load false 1 (.t 1))
 (zk 6 87 [.t 4, .t 5]
 (zr 7 (.un .not (.t 6))
 (zm 2 7
 .done))))))
def Qcx : AF := ⟨8, [.tmp 2],
 (.seq (.reg zq2b_0 [])
 (.seq (.reg zq2b_1 [3, 4, 5, 6, 7])
 .ret))⟩
abbrev QiZ : Nat := 86
/- slices.ContainsFunc[[]proofmark/image.Sym,proofmark/image.Sym] -/
def zq2c_0 : AT := (zr 4 (.mov (.c (.bool false)))
 .done)
def zq2c_1 : AT := (zm 5 0
 (zm 6 1
 (zk 7 109 [.t 5, .t 6]
 (zr 8 (.bin .geq (.t 7) (zi 0))
 (zm 4 8
 .done)))))
def QL : AF := ⟨9, [.tmp 4],
 (.seq (.reg zq2c_0 [])
 (.seq (.reg zq2c_1 [5, 6, 7, 8])
 .ret))⟩
abbrev Ya : Nat := 87
/- slices.ContainsFunc[[]func() bool,func() bool] -/
def zq2d_0 : AT := (zr 4 (.mov (.c (.bool false)))
 .done)
def zq2d_1 : AT := (zm 5 0
 (zm 6 1
 (zk 7 110 [.t 5, .t 6]
 (zr 8 (.bin .geq (.t 7) (zi 0))
 (zm 4 8
 .done)))))
def QM : AF := ⟨9, [.tmp 4],
 (.seq (.reg zq2d_0 [])
 (.seq (.reg zq2d_1 [5, 6, 7, 8])
 .ret))⟩
abbrev Yb : Nat := 88
/- proofmark/image.Right$6 -/
def zq2e_0 : AT := (zr 2 (.mov (.c (.bool false)))
 .done)
def zq2e_1 : AT := (zm 3 0
 (.cl false (some 4) none (.t 3) []
 (zr 5 (.un .not (.t 4))
 (zm 2 5
 .done))))
def Qcw : AF := ⟨6, [.tmp 2],
 (.seq (.reg zq2e_0 [])
 (.seq (.reg zq2e_1 [3, 4, 5])
 .ret))⟩
abbrev QiY : Nat := 89
/- proofmark/image.Bounds -/
def zq2f_0 : AT := (.wr false (some 2) none (.box 88 (.t 0))
 (zr 4 (.mov (zi 0))
 (zr 5 (.mov (zi 0))
 .done)))
def zq2f_1 : AT := (zr 7 (.load true 3 (.t 2))
 (zk 8 60 [.t 7]
 (zr 9 (.un .not (.t 8))
 (zm 10 9
 (zf 11 10 (.mov (.t 1))
 (zf 12 10 (.bin .lss (.t 11) (zi 0))
 (zr 13 (.pick (.t 10) (.c (.bool true)) (.t 12))
 (zm 14 13
 (zf 15 14 (.mov (.t 1))
 (zf 16 14 (.faddr 1 (.t 2))
 (zf 17 14 (.load false 1 (.t 16))
 (zf 18 14 (.len 0 (.t 17))
 (zf 19 14 (.bin .geq (.t 15) (.t 18))
 (zr 20 (.pick (.t 14) (.c (.bool true)) (.t 19))
 .done))))))))))))))
def zq2f_2 : AT := (zr 4 (.mov (zi 0))
 (zr 5 (.mov (zi 0))
 .done))
def zq2f_3 : AT := (zr 21 (.faddr 2 (.t 2))
 (zr 22 (.load false 1 (.t 21))
 (zr 23 (.len 0 (.t 22))
 (zr 24 (.bin .mul (zi 4) (.t 23))
 (zm 6 24
 .done)))))
def zq2f_4 : AT := (zm 25 1
 (zr 26 (.bin .add (.t 25) (zi 1))
 (zr 27 (.faddr 1 (.t 2))
 (zr 28 (.load false 1 (.t 27))
 (zr 29 (.len 0 (.t 28))
 (zr 30 (.bin .lss (.t 26) (.t 29))
 .done))))))
def zq2f_5 : AT := (zr 31 (.faddr 1 (.t 2))
 (zr 32 (.load false 1 (.t 31))
 (zm 33 1
 (zr 34 (.bin .add (.t 33) (zi 1))
 (zr 35 (.iaddr none 2 (.t 32) (.t 34))
 (zr 36 (.faddr 1 (.t 35))
 (zr 37 (.load false 1 (.t 36))
 (zm 6 37
 .done))))))))
def zq2f_6 : AT := (zr 38 (.faddr 1 (.t 2))
 (zr 39 (.load false 1 (.t 38))
 (zm 40 1
 (zr 41 (.iaddr none 2 (.t 39) (.t 40))
 (zr 42 (.faddr 1 (.t 41))
 (zr 43 (.load false 1 (.t 42))
 (zm 44 6
 (zm 4 43
 (zm 5 44
 .done)))))))))
def Qe1 : AF := ⟨45, [.tmp 4, .tmp 5],
 (.seq (.reg zq2f_0 [])
 (.seq (.seq (.reg zq2f_1 [7, 8, 9, 10, 11, 12, 13, 14, 15, 16, 17, 18, 19])
 (.cond (.t 20)
 (.seq (.reg zq2f_2 [])
 .ret)
 .skip))
 (.seq (.reg zq2f_3 [21, 22, 23, 24])
 (.seq (.seq (.reg zq2f_4 [25, 26, 27, 28, 29])
 (.cond (.t 30)
 (.reg zq2f_5 [31, 32, 33, 34, 35, 36, 37])
 .skip))
 (.seq (.reg zq2f_6 [38, 39, 40, 41, 42, 43, 44])
 .ret)))))⟩
abbrev QlS : Nat := 90
end Go.Proofs.YtfgccihafnjalaaGreatDoor
