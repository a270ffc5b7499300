/- The translations of the functions, by a program of mine. -/
import Derived.Test.YtfgccihafnjalaaGreatDoorAmD
namespace Go.Proofs.YtfgccihafnjalaaGreatDoor
open Go Go.Am
set_option maxRecDepth 100000
abbrev zm (d s:Nat) (t:AT):AT:=.rd (some d) none (.mov (.t s)) t
abbrev zr (d:Nat) (o:AOp) (t:AT):AT:=.rd (some d) none o t
abbrev zt (d g:Nat) (o:AOp) (t:AT):AT:=.rd (some d) (some (g,true)) o t
abbrev zf (d g:Nat) (o:AOp) (t:AT):AT:=.rd (some d) (some (g,false)) o t
abbrev zk (d f:Nat) (l:List Arg) (t:AT):AT:=.cl false (some d) none (.c (.fn (.func f) [] [])) l t
abbrev zi (n:Int):Arg:=.c (.int .i64 n)
abbrev zu (n:Int):Arg:=.c (.int .u8 n)
abbrev zl (d s a:Nat) (t:AT):AT:=zr d (.load false s (.t a)) t
abbrev zp (d a b:Nat) (t:AT):AT:=zr d (.pick (.t a) (.c (.bool true)) (.t b)) t
abbrev zq (d a b:Nat) (t:AT):AT:=zr d (.pick (.t a) (.t b) (.c (.bool false))) t
abbrev za (d k a:Nat) (t:AT):AT:=zr d (.faddr k (.t a)) t
abbrev zx (d s a b:Nat) (t:AT):AT:=zr d (.iaddr none s (.t a) (.t b)) t
abbrev zn (d z a:Nat) (t:AT):AT:=zr d (.len z (.t a)) t
abbrev ze (d a k:Nat) (t:AT):AT:=zr d (.extr (.t a) k) t
abbrev zlt (d g s a:Nat) (t:AT):AT:=zt d g (.load false s (.t a)) t
abbrev zpt (d g a b:Nat) (t:AT):AT:=zt d g (.pick (.t a) (.c (.bool true)) (.t b)) t
abbrev zqt (d g a b:Nat) (t:AT):AT:=zt d g (.pick (.t a) (.t b) (.c (.bool false))) t
abbrev zat (d g k a:Nat) (t:AT):AT:=zt d g (.faddr k (.t a)) t
abbrev zxt (d g s a b:Nat) (t:AT):AT:=zt d g (.iaddr none s (.t a) (.t b)) t
abbrev znt (d g z a:Nat) (t:AT):AT:=zt d g (.len z (.t a)) t
abbrev zet (d g a k:Nat) (t:AT):AT:=zt d g (.extr (.t a) k) t
abbrev zlf (d g s a:Nat) (t:AT):AT:=zf d g (.load false s (.t a)) t
abbrev zpf (d g a b:Nat) (t:AT):AT:=zf d g (.pick (.t a) (.c (.bool true)) (.t b)) t
abbrev zqf (d g a b:Nat) (t:AT):AT:=zf d g (.pick (.t a) (.t b) (.c (.bool false))) t
abbrev zaf (d g k a:Nat) (t:AT):AT:=zf d g (.faddr k (.t a)) t
abbrev zxf (d g s a b:Nat) (t:AT):AT:=zf d g (.iaddr none s (.t a) (.t b)) t
abbrev znf (d g z a:Nat) (t:AT):AT:=zf d g (.len z (.t a)) t
abbrev zef (d g a k:Nat) (t:AT):AT:=zf d g (.extr (.t a) k) t
abbrev zb (o:BinOp) (d a b:Nat) (t:AT):AT:=zr d (.bin o (.t a) (.t b)) t
abbrev zbt (o:BinOp) (d g a b:Nat) (t:AT):AT:=zt d g (.bin o (.t a) (.t b)) t
abbrev zbf (o:BinOp) (d g a b:Nat) (t:AT):AT:=zf d g (.bin o (.t a) (.t b)) t
abbrev zc (o:BinOp) (d a:Nat) (b:Int) (t:AT):AT:=zr d (.bin o (.t a) (zi b)) t
abbrev zct (o:BinOp) (d g a:Nat) (b:Int) (t:AT):AT:=zt d g (.bin o (.t a) (zi b)) t
abbrev zcf (o:BinOp) (d g a:Nat) (b:Int) (t:AT):AT:=zf d g (.bin o (.t a) (zi b)) t
abbrev zmt (d g a:Nat) (t:AT):AT:=zt d g (.mov (.t a)) t
abbrev zmf (d g a:Nat) (t:AT):AT:=zf d g (.mov (.t a)) t
abbrev zs (k a b:Nat) (t:AT):AT:=.wr false none none (.store k (.t a) (.t b)) t
abbrev zw (a:Nat) (x y:AC):AC:=.cond (.t a) x y
abbrev zg (a:AT) (l:List Nat) (r:AC):AC:=.seq (.reg a l) r
abbrev Qko:Nat:=3
/- proofmark/proofmarklaw25.RelateMeets -/
def QcI:AT:=(zr 6 (.mov (.c (.bool false)))
 .done)
def QcH:AT:=(zm 9 0
 (zn 10 0 9
 (zc .gtr 11 10 40
 (zm 12 11
 (zmf 13 12 1
 (znf 14 12 0 13
 (zcf .gtr 15 12 14 40
 (zp 16 12 15
 (zm 17 16
 (zmf 18 17 2
 (znf 19 17 0 18
 (zcf .gtr 20 17 19 40
 (zp 21 17 20
 .done)))))))))))))
def QcG:AT:=(zk 22 8 []
 (zm 6 22
 .done))
def QcF:AT:=(zm 23 0
 (zm 24 1
 (zk 25 14 [.t 23,.t 24]
 (zm 26 1
 (zm 27 0
 (zk 28 14 [.t 26,.t 27]
 (zm 7 25
 (zm 8 28
 .done))))))))
def QcE:AT:=(zm 29 7
 (zm 30 8
 (zk 31 9 [.t 30]
 (zk 32 11 [.t 29,.t 31]
 (zr 33 (.un .not (.t 32))
 (zm 34 33
 (zmf 35 34 7
 (zmf 36 34 2
 (.cl false (some 37) (some (34,false)) (.c (.fn (.func 14) [] [])) [(.t 35),(.t 36)]
 (zmf 38 34 0
 (zmf 39 34 1
 (zmf 40 34 2
 (.cl false (some 41) (some (34,false)) (.c (.fn (.func 14) [] [])) [(.t 39),(.t 40)]
 (.cl false (some 42) (some (34,false)) (.c (.fn (.func 14) [] [])) [(.t 38),(.t 41)]
 (.cl false (some 43) (some (34,false)) (.c (.fn (.func 9) [] [])) [(.t 42)]
 (.cl false (some 44) (some (34,false)) (.c (.fn (.func 11) [] [])) [(.t 37),(.t 43)]
 (zf 45 34 (.un .not (.t 44))
 (zp 46 34 45
 (zm 47 46
 (zmf 48 47 0
 (zmf 49 47 0
 (.cl false (some 50) (some (47,false)) (.c (.fn (.func 14) [] [])) [(.t 48),(.t 49)]
 (zmf 51 47 0
 (.cl false (some 52) (some (47,false)) (.c (.fn (.func 12) [] [])) [(.t 51)]
 (.cl false (some 53) (some (47,false)) (.c (.fn (.func 9) [] [])) [(.t 52)]
 (.cl false (some 54) (some (47,false)) (.c (.fn (.func 11) [] [])) [(.t 50),(.t 53)]
 (zf 55 47 (.un .not (.t 54))
 (zp 56 47 55
 (zm 57 56
 (zmf 58 57 7
 (.cl false (some 59) (some (57,false)) (.c (.fn (.func 12) [] [])) [(.t 58)]
 (zmf 60 57 7
 (.cl false (some 61) (some (57,false)) (.c (.fn (.func 9) [] [])) [(.t 60)]
 (.cl false (some 62) (some (57,false)) (.c (.fn (.func 11) [] [])) [(.t 59),(.t 61)]
 (zf 63 57 (.un .not (.t 62))
 (zp 64 57 63
 .done))))))))))))))))))))))))))))))))))))
def QcD:AT:=(zr 6 (.mov (.c (.bool false)))
 .done)
def QcC:AT:=(zm 65 7
 (zm 66 0
 (zk 67 16 [.t 65,.t 66]
 (zr 68 (.un .not (.t 67))
 (zm 69 68
 (zmf 70 69 7
 (zmf 71 69 1
 (.cl false (some 72) (some (69,false)) (.c (.fn (.func 16) [] [])) [(.t 70),(.t 71)]
 (zf 73 69 (.un .not (.t 72))
 (zp 74 69 73
 (zm 75 74
 (zmf 76 75 2
 (zmf 77 75 0
 (.cl false (some 78) (some (75,false)) (.c (.fn (.func 16) [] [])) [(.t 76),(.t 77)]
 (zmf 79 75 78
 (zmt 80 79 2
 (zmt 81 79 1
 (.cl false (some 82) (some (79,true)) (.c (.fn (.func 16) [] [])) [(.t 80),(.t 81)]
 (zqf 83 75 79 82
 (zmf 84 75 83
 (zmt 85 84 2
 (zmt 86 84 7
 (.cl false (some 87) (some (84,true)) (.c (.fn (.func 16) [] [])) [(.t 85),(.t 86)]
 (zt 88 84 (.un .not (.t 87))
 (zqf 89 75 84 88
 (zp 90 75 89
 .done))))))))))))))))))))))))))
def QcB:AT:=(zr 6 (.mov (.c (.bool false)))
 .done)
def QcA:AT:=(zm 91 0
 (zm 92 1
 (zk 93 16 [.t 91,.t 92]
 (zm 94 0
 (zk 95 12 [.t 94]
 (zn 96 0 95
 (zm 97 7
 (zn 98 0 97
 (zb .eql 99 96 98
 (zr 100 (.eqb false (.t 93) (.t 99))
 (zm 101 100
 (.cl false (some 102) (some (101,true)) (.c (.fn (.func 8) [] [])) []
 (zq 103 101 102
 (zm 6 103
 .done))))))))))))))
def Qd:AF:=⟨104,[.tmp 6],
 (zg QcI []
 (.seq (zg QcH [9,10,11,12,13,14,15,16,17,18,19,20]
 (zw 21
 (zg QcG [22]
 .ret)
 .skip))
 (zg QcF [23,24,25,26,27,28]
 (.seq (zg QcE [29,30,31,32,33,34,35,36,37,38,39,40,41,42,43,44,45,46,47,48,49,50,51,52,53,54,55,56,57,58,59,60,61,62,63]
 (zw 64
 (zg QcD []
 .ret)
 .skip))
 (.seq (zg QcC [65,66,67,68,69,70,71,72,73,74,75,76,77,78,79,80,81,82,83,84,85,86,87,88,89]
 (zw 90
 (zg QcB []
 .ret)
 .skip))
 (zg QcA [91,92,93,94,95,96,97,98,99,100,101,102,103]
 .ret))))))⟩
abbrev Yl:Nat:=4
abbrev QjI:Nat:=5
abbrev Qlt:Nat:=6
abbrev QjH:Nat:=7
/- proofmark/proofmarklaw25.works -/
def QvB:AT:=(zr 0 (.mov (.c (.bool false)))
 .done)
def QvA:AT:=(zr 8 (.build [(.int .u8 0),(.int .i64 0)] [(0,1,(zu 1)),(1,1,(zi 5))])
 (zr 9 (.build [(.int .u8 0),(.int .i64 0)] [(0,1,(zu 2))])
 (zr 10 (.build [(.int .u8 0),(.int .i64 0)] [(0,1,(zu 3)),(1,1,(zi 3))])
 (.wr false (some 1) none (.new 62 [(.int .u8 0),(.int .i64 0)])
 (.wr false (some 2) none (.new 62 [(.int .u8 0),(.int .i64 0)])
 (.wr false (some 3) none (.new 62 [(.int .u8 0),(.int .i64 0)])
 (zs 2 1 8
 (zs 2 2 9
 (zs 2 3 10
 .done)))))))))
def Qvz:AT:=(zr 11 (.load true 2 (.t 1))
 (zr 12 (.build [(.int .i64 0),(.int .u8 0),(.int .i64 0)] [(0,1,(zi 0)),(1,2,(.t 11))])
 (zr 13 (.load true 2 (.t 2))
 (zr 14 (.build [(.int .i64 0),(.int .u8 0),(.int .i64 0)] [(0,1,(zi 1)),(1,2,(.t 13))])
 (.wr false (some 15) none (.bsl false true 64 3 [(.int .i64 0),(.int .u8 0),(.int .i64 0)] 2 [(0,3,(.t 12)),(3,3,(.t 14))])
 (zr 16 (.load true 2 (.t 2))
 (zr 17 (.build [(.int .i64 0),(.int .u8 0),(.int .i64 0)] [(0,1,(zi 1)),(1,2,(.t 16))])
 (zr 18 (.load true 2 (.t 3))
 (zr 19 (.build [(.int .i64 0),(.int .u8 0),(.int .i64 0)] [(0,1,(zi 2)),(1,2,(.t 18))])
 (.wr false (some 20) none (.bsl false true 64 3 [(.int .i64 0),(.int .u8 0),(.int .i64 0)] 2 [(0,3,(.t 17)),(3,3,(.t 19))])
 (zk 21 14 [.t 15,.t 20]
 (zm 4 21
 .done))))))))))))
def Qrw:AT:=(zk 22 18 []
 (zm 5 22
 .done))
def Qrv:AT:=(zm 24 5
 (zr 25 (.load true 2 (.t 1))
 (zr 26 (.build [(.int .i64 0),(.int .u8 0),(.int .i64 0)] [(0,1,(zi 0)),(1,2,(.t 25))])
 (zr 27 (.load true 2 (.t 1))
 (zr 28 (.build [(.int .i64 0),(.int .u8 0),(.int .i64 0)] [(0,1,(zi 1)),(1,2,(.t 27))])
 (zr 29 (.load true 2 (.t 2))
 (zr 30 (.build [(.int .i64 0),(.int .u8 0),(.int .i64 0)] [(0,1,(zi 1)),(1,2,(.t 29))])
 (zr 31 (.load true 2 (.t 3))
 (zr 32 (.build [(.int .i64 0),(.int .u8 0),(.int .i64 0)] [(0,1,(zi 2)),(1,2,(.t 31))])
 (.alt (.wr false (some 33) none (.bsl false true 64 3 [(.int .i64 0),(.int .u8 0),(.int .i64 0)] 4 [(0,3,(.t 26)),(3,3,(.t 28)),(6,3,(.t 30)),(9,3,(.t 32))])
 (.alt (.cl true (some 34) none (.c (.fn (.func 17) [] [])) [(zu 2)]
 (.alt (zk 35 19 [.t 24,.t 33,(zi 3),.t 34,(zi 0),(zi 0)]
 (zm 23 35
 (ze 36 23 0
 (ze 37 23 1
 (.wr true (some 6) none (.new 49 [(.lst 0 [] true),(.int .i64 0),(.int .i64 0),(.int .i64 0),(.int .i64 0),(.int .i64 0),(.int .i64 0),(.int .i64 0),(.int .i64 0),(.int .i64 0),(.int .i64 0),(.int .i64 0),(.int .i64 0),(.int .i64 0),(.int .i64 0),(.int .i64 0),(.int .i64 0),(.int .i64 0),(.int .i64 0),(.int .i64 0),(.int .i64 0),(.int .i64 0),(.int .i64 0),(.int .i64 0),(.int .i64 0),(.int .i64 0),(.int .i64 0),(.int .i64 0),(.int .i64 0),(.int .i64 0),(.int .i64 0),(.int .i64 0),(.int .i64 0),(.int .i64 0),(.lst 0 [] true),(.bool false)])
 (zs 36 6 36
 (zm 7 37
 .done))))))) (.wr true (some 6) none (.new 49 [(.lst 0 [] true),(.int .i64 0),(.int .i64 0),(.int .i64 0),(.int .i64 0),(.int .i64 0),(.int .i64 0),(.int .i64 0),(.int .i64 0),(.int .i64 0),(.int .i64 0),(.int .i64 0),(.int .i64 0),(.int .i64 0),(.int .i64 0),(.int .i64 0),(.int .i64 0),(.int .i64 0),(.int .i64 0),(.int .i64 0),(.int .i64 0),(.int .i64 0),(.int .i64 0),(.int .i64 0),(.int .i64 0),(.int .i64 0),(.int .i64 0),(.int .i64 0),(.int .i64 0),(.int .i64 0),(.int .i64 0),(.int .i64 0),(.int .i64 0),(.int .i64 0),(.lst 0 [] true),(.bool false)])
 (zk 35 19 [.t 24,.t 33,(zi 3),.t 34,(zi 0),(zi 0)]
 (zm 23 35
 (ze 36 23 0
 (ze 37 23 1
 (zs 36 6 36
 (zm 7 37
 .done))))))))) (.wr true (some 6) none (.new 49 [(.lst 0 [] true),(.int .i64 0),(.int .i64 0),(.int .i64 0),(.int .i64 0),(.int .i64 0),(.int .i64 0),(.int .i64 0),(.int .i64 0),(.int .i64 0),(.int .i64 0),(.int .i64 0),(.int .i64 0),(.int .i64 0),(.int .i64 0),(.int .i64 0),(.int .i64 0),(.int .i64 0),(.int .i64 0),(.int .i64 0),(.int .i64 0),(.int .i64 0),(.int .i64 0),(.int .i64 0),(.int .i64 0),(.int .i64 0),(.int .i64 0),(.int .i64 0),(.int .i64 0),(.int .i64 0),(.int .i64 0),(.int .i64 0),(.int .i64 0),(.int .i64 0),(.lst 0 [] true),(.bool false)])
 (.cl true (some 34) none (.c (.fn (.func 17) [] [])) [(zu 2)]
 (zk 35 19 [.t 24,.t 33,(zi 3),.t 34,(zi 0),(zi 0)]
 (zm 23 35
 (ze 36 23 0
 (ze 37 23 1
 (zs 36 6 36
 (zm 7 37
 .done)))))))))) (.alt (.cl true (some 34) none (.c (.fn (.func 17) [] [])) [(zu 2)]
 (.alt (.wr false (some 33) none (.bsl false true 64 3 [(.int .i64 0),(.int .u8 0),(.int .i64 0)] 4 [(0,3,(.t 26)),(3,3,(.t 28)),(6,3,(.t 30)),(9,3,(.t 32))])
 (.alt (zk 35 19 [.t 24,.t 33,(zi 3),.t 34,(zi 0),(zi 0)]
 (zm 23 35
 (ze 36 23 0
 (ze 37 23 1
 (.wr true (some 6) none (.new 49 [(.lst 0 [] true),(.int .i64 0),(.int .i64 0),(.int .i64 0),(.int .i64 0),(.int .i64 0),(.int .i64 0),(.int .i64 0),(.int .i64 0),(.int .i64 0),(.int .i64 0),(.int .i64 0),(.int .i64 0),(.int .i64 0),(.int .i64 0),(.int .i64 0),(.int .i64 0),(.int .i64 0),(.int .i64 0),(.int .i64 0),(.int .i64 0),(.int .i64 0),(.int .i64 0),(.int .i64 0),(.int .i64 0),(.int .i64 0),(.int .i64 0),(.int .i64 0),(.int .i64 0),(.int .i64 0),(.int .i64 0),(.int .i64 0),(.int .i64 0),(.int .i64 0),(.lst 0 [] true),(.bool false)])
 (zs 36 6 36
 (zm 7 37
 .done))))))) (.wr true (some 6) none (.new 49 [(.lst 0 [] true),(.int .i64 0),(.int .i64 0),(.int .i64 0),(.int .i64 0),(.int .i64 0),(.int .i64 0),(.int .i64 0),(.int .i64 0),(.int .i64 0),(.int .i64 0),(.int .i64 0),(.int .i64 0),(.int .i64 0),(.int .i64 0),(.int .i64 0),(.int .i64 0),(.int .i64 0),(.int .i64 0),(.int .i64 0),(.int .i64 0),(.int .i64 0),(.int .i64 0),(.int .i64 0),(.int .i64 0),(.int .i64 0),(.int .i64 0),(.int .i64 0),(.int .i64 0),(.int .i64 0),(.int .i64 0),(.int .i64 0),(.int .i64 0),(.int .i64 0),(.lst 0 [] true),(.bool false)])
 (zk 35 19 [.t 24,.t 33,(zi 3),.t 34,(zi 0),(zi 0)]
 (zm 23 35
 (ze 36 23 0
 (ze 37 23 1
 (zs 36 6 36
 (zm 7 37
 .done))))))))) (.wr true (some 6) none (.new 49 [(.lst 0 [] true),(.int .i64 0),(.int .i64 0),(.int .i64 0),(.int .i64 0),(.int .i64 0),(.int .i64 0),(.int .i64 0),(.int .i64 0),(.int .i64 0),(.int .i64 0),(.int .i64 0),(.int .i64 0),(.int .i64 0),(.int .i64 0),(.int .i64 0),(.int .i64 0),(.int .i64 0),(.int .i64 0),(.int .i64 0),(.int .i64 0),(.int .i64 0),(.int .i64 0),(.int .i64 0),(.int .i64 0),(.int .i64 0),(.int .i64 0),(.int .i64 0),(.int .i64 0),(.int .i64 0),(.int .i64 0),(.int .i64 0),(.int .i64 0),(.int .i64 0),(.lst 0 [] true),(.bool false)])
 (.wr false (some 33) none (.bsl false true 64 3 [(.int .i64 0),(.int .u8 0),(.int .i64 0)] 4 [(0,3,(.t 26)),(3,3,(.t 28)),(6,3,(.t 30)),(9,3,(.t 32))])
 (zk 35 19 [.t 24,.t 33,(zi 3),.t 34,(zi 0),(zi 0)]
 (zm 23 35
 (ze 36 23 0
 (ze 37 23 1
 (zs 36 6 36
 (zm 7 37
 .done)))))))))) (.wr true (some 6) none (.new 49 [(.lst 0 [] true),(.int .i64 0),(.int .i64 0),(.int .i64 0),(.int .i64 0),(.int .i64 0),(.int .i64 0),(.int .i64 0),(.int .i64 0),(.int .i64 0),(.int .i64 0),(.int .i64 0),(.int .i64 0),(.int .i64 0),(.int .i64 0),(.int .i64 0),(.int .i64 0),(.int .i64 0),(.int .i64 0),(.int .i64 0),(.int .i64 0),(.int .i64 0),(.int .i64 0),(.int .i64 0),(.int .i64 0),(.int .i64 0),(.int .i64 0),(.int .i64 0),(.int .i64 0),(.int .i64 0),(.int .i64 0),(.int .i64 0),(.int .i64 0),(.int .i64 0),(.lst 0 [] true),(.bool false)])
 (.alt (.wr false (some 33) none (.bsl false true 64 3 [(.int .i64 0),(.int .u8 0),(.int .i64 0)] 4 [(0,3,(.t 26)),(3,3,(.t 28)),(6,3,(.t 30)),(9,3,(.t 32))])
 (.cl true (some 34) none (.c (.fn (.func 17) [] [])) [(zu 2)]
 (zk 35 19 [.t 24,.t 33,(zi 3),.t 34,(zi 0),(zi 0)]
 (zm 23 35
 (ze 36 23 0
 (ze 37 23 1
 (zs 36 6 36
 (zm 7 37
 .done)))))))) (.cl true (some 34) none (.c (.fn (.func 17) [] [])) [(zu 2)]
 (.wr false (some 33) none (.bsl false true 64 3 [(.int .i64 0),(.int .u8 0),(.int .i64 0)] 4 [(0,3,(.t 26)),(3,3,(.t 28)),(6,3,(.t 30)),(9,3,(.t 32))])
 (zk 35 19 [.t 24,.t 33,(zi 3),.t 34,(zi 0),(zi 0)]
 (zm 23 35
 (ze 36 23 0
 (ze 37 23 1
 (zs 36 6 36
 (zm 7 37
 .done)))))))))))))))))))))
def QnK:AT:=(zm 38 4
 (zn 39 0 38
 (zc .eql 40 39 1
 (zm 41 40
 (zmt 42 41 4
 (zt 43 41 (.iaddr none 3 (.t 42) (zi 0))
 (zt 44 41 (.load true 3 (.t 43))
 (zt 45 41 (.load true 2 (.t 2))
 (zt 46 41 (.build [(.int .i64 0),(.int .u8 0),(.int .i64 0)] [(0,1,(zi 1)),(1,2,(.t 45))])
 (zt 47 41 (.eqs false [.i,.i,.i] (.t 44) (.t 46))
 (zq 48 41 47
 (zm 49 48
 (zat 50 49 0 6
 (zlt 51 49 1 50
 (znt 52 49 0 51
 (zct .eql 53 49 52 3
 (zq 54 49 53
 (zm 55 54
 (zat 56 55 2 6
 (zat 57 55 32 56
 (zlt 58 55 1 57
 (znt 59 55 0 58
 (zct .eql 60 55 59 2
 (zq 61 55 60
 (zm 62 61
 (zat 63 62 0 6
 (zlt 64 62 1 63
 (zt 65 62 (.iaddr none 1 (.t 64) (zi 0))
 (zlt 66 62 1 65
 (zat 67 62 0 6
 (zlt 68 62 1 67
 (zt 69 62 (.iaddr none 1 (.t 68) (zi 1))
 (zlt 70 62 1 69
 (zbt .eql 71 62 66 70
 (zq 72 62 71
 (zm 73 72
 (zat 74 73 0 6
 (zlt 75 73 1 74
 (zt 76 73 (.iaddr none 1 (.t 75) (zi 0))
 (zlt 77 73 1 76
 (zat 78 73 2 6
 (zat 79 73 0 78
 (zt 80 73 (.iaddr (some 32) 1 (.t 79) (zi 5))
 (zlt 81 73 1 80
 (zbt .eql 82 73 77 81
 (zq 83 73 82
 (zm 84 83
 (zat 85 84 0 6
 (zlt 86 84 1 85
 (zt 87 84 (.iaddr none 1 (.t 86) (zi 0))
 (zlt 88 84 1 87
 (zat 89 84 2 6
 (zat 90 84 32 89
 (zlt 91 84 1 90
 (zt 92 84 (.iaddr none 1 (.t 91) (zi 0))
 (zlt 93 84 1 92
 (zbt .eql 94 84 88 93
 (zq 95 84 94
 (zm 96 95
 (zat 97 96 0 6
 (zmt 101 96 5
 (.alt (zlt 98 96 1 97
 (zt 99 96 (.iaddr none 1 (.t 98) (zi 2))
 (.alt (zlt 100 96 1 99
 (.cl false (some 102) (some (96,true)) (.c (.fn (.func 20) [] [])) [(.t 101),(zi 3)]
 (zbt .eql 103 96 100 102
 (zq 104 96 103
 (zm 105 104
 (zat 106 105 2 6
 (zat 107 105 32 106
 (zlt 108 105 1 107
 (zt 109 105 (.iaddr none 1 (.t 108) (zi 1))
 (zlt 110 105 1 109
 (zat 111 105 0 6
 (zlt 112 105 1 111
 (zt 113 105 (.iaddr none 1 (.t 112) (zi 0))
 (zlt 114 105 1 113
 (zbt .neq 115 105 110 114
 (zq 116 105 115
 (zm 0 116
 .done))))))))))))))))) (.cl false (some 102) (some (96,true)) (.c (.fn (.func 20) [] [])) [(.t 101),(zi 3)]
 (zlt 100 96 1 99
 (zbt .eql 103 96 100 102
 (zq 104 96 103
 (zm 105 104
 (zat 106 105 2 6
 (zat 107 105 32 106
 (zlt 108 105 1 107
 (zt 109 105 (.iaddr none 1 (.t 108) (zi 1))
 (zlt 110 105 1 109
 (zat 111 105 0 6
 (zlt 112 105 1 111
 (zt 113 105 (.iaddr none 1 (.t 112) (zi 0))
 (zlt 114 105 1 113
 (zbt .neq 115 105 110 114
 (zq 116 105 115
 (zm 0 116
 .done)))))))))))))))))))) (.cl false (some 102) (some (96,true)) (.c (.fn (.func 20) [] [])) [(.t 101),(zi 3)]
 (zlt 98 96 1 97
 (zt 99 96 (.iaddr none 1 (.t 98) (zi 2))
 (zlt 100 96 1 99
 (zbt .eql 103 96 100 102
 (zq 104 96 103
 (zm 105 104
 (zat 106 105 2 6
 (zat 107 105 32 106
 (zlt 108 105 1 107
 (zt 109 105 (.iaddr none 1 (.t 108) (zi 1))
 (zlt 110 105 1 109
 (zat 111 105 0 6
 (zlt 112 105 1 111
 (zt 113 105 (.iaddr none 1 (.t 112) (zi 0))
 (zlt 114 105 1 113
 (zbt .neq 115 105 110 114
 (zq 116 105 115
 (zm 0 116
 .done)))))))))))))))))))))))))))))))))))))))))))))))))))))))))))))))))))))))))))))))))
def proofmarklaw25_works:AF:=⟨117,[.tmp 0],
 (zg QvB []
 (zg QvA [8,9,10]
 (zg Qvz [11,12,13,14,15,16,17,18,19,20,21]
 (zg Qrw [22]
 (zg Qrv [24,25,26,27,28,29,30,31,32,33,34,35,23,36,37,7]
 (zg QnK [38,39,40,41,42,43,44,45,46,47,48,49,50,51,52,53,54,55,56,57,58,59,60,61,62,63,64,65,66,67,68,69,70,71,72,73,74,75,76,77,78,79,80,81,82,83,84,85,86,87,88,89,90,91,92,93,94,95,96,97,98,99,100,101,102,103,104,105,106,107,108,109,110,111,112,113,114,115,116]
 .ret))))))⟩
abbrev X7:Nat:=8
/- proofmark/proofmarklaw25.plain -/
def zq6_0:AT:=(zr 2 (.mov (.c (.lst 0 [] true)))
 .done)
def zq6_1:AT:=(zr 3 (.mov (.c (.lst 0 [] true)))
 .done)
def zq6_2:AT:=(zr 4 (.mov (zi 0))
 .done)
def zq6_3:AT:=(zm 5 4
 (zm 6 0
 (zn 7 0 6
 (zb .lss 8 5 7
 .done))))
def zq6_4:AT:=(zm 11 3
 (zm 12 0
 (zm 13 4
 (zx 14 3 12 13
 (za 15 0 14
 (zl 16 1 15
 (zm 17 0
 (zm 18 4
 (zx 19 3 17 18
 (za 20 1 19
 (za 21 0 20
 (zl 22 1 21
 (zm 23 0
 (zm 24 4
 (zx 25 3 23 24
 (za 26 1 25
 (za 27 1 26
 (zl 28 1 27
 (zr 29 (.build [(.int .i64 0),(.int .u8 0),(.int .i64 0)] [(0,1,(.t 16)),(1,1,(.t 22)),(2,1,(.t 28))])
 (.wr false (some 30) none (.bsl false true 28 3 [(.int .i64 0),(.int .u8 0),(.int .i64 0)] 1 [(0,3,(.t 29))])
 (.wr false (some 31) none (.app 28 3 24 false (.t 11) (.t 30))
 (zm 3 31
 .done))))))))))))))))))))))
def zq6_5:AT:=(zm 9 4
 (zc .add 10 9 1
 (zm 4 10
 .done)))
def zq6_6:AT:=(zm 32 3
 (zm 2 32
 .done))
def Xh:AF:=⟨33,[.tmp 2],
 (zg zq6_0 []
 (zg zq6_1 []
 (.seq (zg zq6_2 []
 (.block 0 (.loop (.seq (zg zq6_3 [5,6,7]
 (zw 8
 .skip
 (.exit 0)))
 (.seq (.block 1 (.reg zq6_4 [11,12,13,14,15,16,17,18,19,20,21,22,23,24,25,26,27,28,29,30,31]))
 (.reg zq6_5 [9,10]))))))
 (zg zq6_6 [32]
 .ret))))⟩
abbrev ZK:Nat:=9
abbrev Qpk:Nat:=10
/- proofmark/proofmarklaw25.same -/
def Qz2:AT:=(zr 4 (.mov (.c (.bool false)))
 .done)
def Qz1:AT:=(zm 7 0
 (zk 8 9 [.t 7]
 (zm 5 8
 .done)))
def Qz0:AT:=(zm 9 5
 (zn 10 0 9
 (zm 11 1
 (zn 12 0 11
 (zb .neq 13 10 12
 .done)))))
def QzZ:AT:=(zr 4 (.mov (.c (.bool false)))
 .done)
def QzY:AT:=(zr 6 (.mov (zi 0))
 .done)
def QzX:AT:=(zm 14 6
 (zm 15 5
 (zn 16 0 15
 (zb .lss 17 14 16
 .done))))
def QzW:AT:=(zm 20 5
 (zm 21 6
 (zx 22 3 20 21
 (zr 23 (.load true 3 (.t 22))
 (zm 24 1
 (zm 25 6
 (zx 26 3 24 25
 (zr 27 (.load true 3 (.t 26))
 (zr 28 (.eqs true [.i,.i,.i] (.t 23) (.t 27))
 .done)))))))))
def QzV:AT:=(zr 4 (.mov (.c (.bool false)))
 .done)
def QzU:AT:=(zm 18 6
 (zc .add 19 18 1
 (zm 6 19
 .done)))
def QzT:AT:=(zr 4 (.mov (.c (.bool true)))
 .done)
def Q8:AF:=⟨29,[.tmp 4],
 (zg Qz2 []
 (zg Qz1 [7,8]
 (.seq (zg Qz0 [9,10,11,12]
 (zw 13
 (zg QzZ []
 .ret)
 .skip))
 (.seq (zg QzY []
 (.block 0 (.loop (.seq (zg QzX [14,15,16]
 (zw 17
 .skip
 (.exit 0)))
 (.seq (.block 1 (zg QzW [20,21,22,23,24,25,26,27]
 (zw 28
 (zg QzV []
 .ret)
 .skip)))
 (.reg QzU [18,19]))))))
 (zg QzT []
 .ret)))))⟩
abbrev Qak:Nat:=11
/- proofmark/relate.Sorted -/
def zq9_0:AT:=(zr 2 (.mov (.c (.lst 0 [] true)))
 .done)
def zq9_1:AT:=(zm 4 0
 (zk 5 29 [.t 4]
 (zm 3 5
 .done)))
def zq9_2:AT:=(zm 6 3
 (zk 7 30 [.t 6,(.c (.fn (.func 31) [] []))]
 .done))
def zq9_3:AT:=(zm 8 3
 (zk 9 32 [.t 8]
 (zm 2 9
 .done)))
def Zw:AF:=⟨10,[.tmp 2],
 (zg zq9_0 []
 (zg zq9_1 [4,5]
 (zg zq9_2 [6,7]
 (zg zq9_3 [8,9]
 .ret))))⟩
abbrev Qbj:Nat:=12
abbrev Qm0:Nat:=13
/- proofmark/relate.Meet -/
def zqb_0:AT:=(zr 4 (.mov (.c (.lst 0 [] true)))
 .done)
def zqb_1:AT:=(zm 6 1
 (zk 7 34 [.t 6]
 (.wr false (some 5) none (.new 71 [(.val (.map none))])
 (zs 1 5 7
 .done))))
def zqb_2:AT:=(zm 8 0
 (zk 9 12 [.t 8]
 (zr 10 (.mkfn (.func 36) [] [(.t 5)])
 (zk 11 35 [.t 9,.t 10]
 (zm 4 11
 .done)))))
def Qbe:AF:=⟨12,[.tmp 4],
 (zg zqb_0 []
 (zg zqb_1 [6,7]
 (zg zqb_2 [8,9,10,11]
 .ret)))⟩
abbrev Qg0:Nat:=14
abbrev Qn6:Nat:=15
/- proofmark/relate.Within -/
def zqd_0:AT:=(zr 4 (.mov (.c (.bool false)))
 .done)
def zqd_1:AT:=(zm 6 1
 (zk 7 34 [.t 6]
 (.wr false (some 5) none (.new 71 [(.val (.map none))])
 (zs 1 5 7
 .done))))
def zqd_2:AT:=(zm 8 0
 (zr 9 (.mkfn (.func 38) [] [(.t 5)])
 (zk 10 37 [.t 8,.t 9]
 (zr 11 (.un .not (.t 10))
 (zm 4 11
 .done)))))
def Zv:AF:=⟨12,[.tmp 4],
 (zg zqd_0 []
 (zg zqd_1 [6,7]
 (zg zqd_2 [8,9,10,11]
 .ret)))⟩
abbrev QeF:Nat:=16
/- proofmark/proofmarklaw25.function -/
def zqe_0:AT:=(.wr false (some 2) none (.new 39 [(.str []),(.int .i64 0),(.lst 0 [] true),(.int .i64 0),(.lst 0 [] true)])
 .done)
def zqe_1:AT:=(zm 7 0
 (zr 8 (.bin .rem (.t 7) (zu 5))
 (zr 9 (.conv .i64 (.t 8))
 (zm 3 9
 .done))))
def zqe_2:AT:=(zr 10 (.build [(.int .u8 0),(.int .u8 0),(.int .u8 0),(.int .u8 0),(.int .i64 0)] [(0,1,(zu 4)),(2,1,(zu 1))])
 (.wr false (some 11) none (.bsl false true 77 5 [(.int .u8 0),(.int .u8 0),(.int .u8 0),(.int .u8 0),(.int .i64 0)] 1 [(0,5,(.t 10))])
 (.wr false (some 12) none (.bsl false false 36 1 [(.lst 0 [] true)] 1 [(0,1,(.t 11))])
 (zm 4 12
 .done))))
def zqe_3:AT:=(zm 13 3
 (zc .gtr 14 13 0
 .done))
def zqe_4:AT:=(zm 15 3
 (zr 16 (.bin .mul (.c (.int .i64 (-8))) (.t 15))
 (zr 17 (.build [(.int .u8 0),(.int .u8 0),(.int .u8 0),(.int .u8 0),(.int .i64 0)] [(0,1,(zu 22)),(1,1,(zu 2)),(2,1,(zu 2)),(4,1,(.t 16))])
 (zm 18 3
 (zr 19 (.bin .mul (zi 8) (.t 18))
 (zr 20 (.build [(.int .u8 0),(.int .u8 0),(.int .u8 0),(.int .u8 0),(.int .i64 0)] [(0,1,(zu 22)),(1,1,(zu 2)),(2,1,(zu 2)),(4,1,(.t 19))])
 (zr 21 (.build [(.int .u8 0),(.int .u8 0),(.int .u8 0),(.int .u8 0),(.int .i64 0)] [(0,1,(zu 4)),(2,1,(zu 1))])
 (.wr false (some 22) none (.bsl false true 77 5 [(.int .u8 0),(.int .u8 0),(.int .u8 0),(.int .u8 0),(.int .i64 0)] 3 [(0,5,(.t 17)),(5,5,(.t 20)),(10,5,(.t 21))])
 (.wr false (some 23) none (.bsl false false 36 1 [(.lst 0 [] true)] 1 [(0,1,(.t 22))])
 (zm 4 23
 .done))))))))))
def zqe_5:AT:=(zm 25 4
 (zk 26 40 [.t 25,(zi 0)]
 (zk 27 39 [.t 26]
 (zm 24 27
 (ze 28 24 0
 (ze 29 24 1
 (.wr false (some 6) none (.new 82 [(.int .i64 0),(.int .i64 0),(.int .i64 0)])
 (zm 5 28
 (zs 3 6 29
 .done)))))))))
def zqe_6:AT:=(zm 30 5
 (zn 31 0 30
 (zc .neq 32 31 1
 .done)))
def zqe_7:AT:=(zr 33 (.build [(.str []),(.int .i64 0),(.lst 0 [] true),(.int .i64 0),(.lst 0 [] true)] [])
 (zs 5 2 33
 .done))
def zqe_8:AT:=(zm 34 5
 (zr 35 (.iaddr none 5 (.t 34) (zi 0))
 (zr 36 (.load true 5 (.t 35))
 (zs 5 2 36
 .done))))
def XR:AF:=⟨37,[.cell 2 true 5],
 (zg zqe_0 []
 (zg zqe_1 [7,8,9]
 (zg zqe_2 [10,11,12]
 (.seq (zg zqe_3 [13]
 (zw 14
 (.reg zqe_4 [15,16,17,18,19,20,21,22,23])
 .skip))
 (zg zqe_5 [25,26,27,24,28,29,6]
 (.seq (zg zqe_6 [30,31]
 (zw 32
 (zg zqe_7 [33]
 .ret)
 .skip))
 (zg zqe_8 [34,35,36]
 .ret)))))))⟩
abbrev QT:Nat:=17
/- proofmark/term.New -/
def zqf_0:AT:=(zr 0 (.mov (.c (.val (.pointer none))))
 .done)
def zqf_1:AT:=(.wr false (some 1) none .mkmap
 (zr 2 (.build [(.lst 0 [] true),(.val (.map none)),(.lst 0 [] true),(.lst 0 [] true)] [(1,1,(.t 1))])
 (.wr false (some 3) none (.box 93 (.t 2))
 (zm 0 3
 .done))))
def QgF:AF:=⟨4,[.tmp 0],
 (zg zqf_0 []
 (zg zqf_1 [1,2,3]
 .ret))⟩
abbrev Qmn:Nat:=18
/- proofmark/relate.Fresh -/
def Qdf:AT:=(.wr false (some 6) none (.box 41 (.t 0))
 (.wr false (some 8) none (.box 3 (.t 2))
 (.wr false (some 9) none (.box 39 (.t 3))
 (.wr false (some 12) none (.new 49 [(.lst 0 [] true),(.int .i64 0),(.int .i64 0),(.int .i64 0),(.int .i64 0),(.int .i64 0),(.int .i64 0),(.int .i64 0),(.int .i64 0),(.int .i64 0),(.int .i64 0),(.int .i64 0),(.int .i64 0),(.int .i64 0),(.int .i64 0),(.int .i64 0),(.int .i64 0),(.int .i64 0),(.int .i64 0),(.int .i64 0),(.int .i64 0),(.int .i64 0),(.int .i64 0),(.int .i64 0),(.int .i64 0),(.int .i64 0),(.int .i64 0),(.int .i64 0),(.int .i64 0),(.int .i64 0),(.int .i64 0),(.int .i64 0),(.int .i64 0),(.int .i64 0),(.lst 0 [] true),(.bool false)])
 (zr 13 (.mov (zi 0))
 .done)))))
def Qde:AT:=(zl 31 1 6
 (zr 32 (.load true 5 (.t 9))
 (zm 33 4
 (zm 34 5
 (zk 35 24 [.t 31,.t 32,.t 33,.t 34]
 (zm 30 35
 (ze 36 30 0
 (ze 37 30 1
 (.wr false (some 14) none (.new 47 [(.int .i64 0),(.int .i64 0),(.int .i64 0),(.int .i64 0),(.int .i64 0),(.int .i64 0),(.int .i64 0),(.int .i64 0),(.int .i64 0),(.int .i64 0),(.int .i64 0),(.int .i64 0),(.int .i64 0),(.int .i64 0),(.int .i64 0),(.int .i64 0),(.int .i64 0),(.int .i64 0),(.int .i64 0),(.int .i64 0),(.int .i64 0),(.int .i64 0),(.int .i64 0),(.int .i64 0),(.int .i64 0),(.int .i64 0),(.int .i64 0),(.int .i64 0),(.int .i64 0),(.int .i64 0),(.int .i64 0),(.int .i64 0),(.lst 0 [] true),(.bool false)])
 (.wr false (some 15) none (.new 2 [(.int .i64 0)])
 (zs 34 14 36
 (zs 1 15 37
 .done))))))))))))
def Qdd:AT:=(zl 38 1 8
 (zr 39 (.maxi (zi 0) (.t 38))
 (zr 41 (.load true 34 (.t 14))
 (.alt (.wr true (some 40) none (.mksl 44 1 8 [(.int .i64 0)] (.t 39) (.t 39))
 (zr 42 (.build [(.lst 0 [] true),(.int .i64 0),(.int .i64 0),(.int .i64 0),(.int .i64 0),(.int .i64 0),(.int .i64 0),(.int .i64 0),(.int .i64 0),(.int .i64 0),(.int .i64 0),(.int .i64 0),(.int .i64 0),(.int .i64 0),(.int .i64 0),(.int .i64 0),(.int .i64 0),(.int .i64 0),(.int .i64 0),(.int .i64 0),(.int .i64 0),(.int .i64 0),(.int .i64 0),(.int .i64 0),(.int .i64 0),(.int .i64 0),(.int .i64 0),(.int .i64 0),(.int .i64 0),(.int .i64 0),(.int .i64 0),(.int .i64 0),(.int .i64 0),(.int .i64 0),(.lst 0 [] true),(.bool false)] [(0,1,(.t 40)),(2,34,(.t 41))])
 (.wr true (some 16) none (.new 49 [(.lst 0 [] true),(.int .i64 0),(.int .i64 0),(.int .i64 0),(.int .i64 0),(.int .i64 0),(.int .i64 0),(.int .i64 0),(.int .i64 0),(.int .i64 0),(.int .i64 0),(.int .i64 0),(.int .i64 0),(.int .i64 0),(.int .i64 0),(.int .i64 0),(.int .i64 0),(.int .i64 0),(.int .i64 0),(.int .i64 0),(.int .i64 0),(.int .i64 0),(.int .i64 0),(.int .i64 0),(.int .i64 0),(.int .i64 0),(.int .i64 0),(.int .i64 0),(.int .i64 0),(.int .i64 0),(.int .i64 0),(.int .i64 0),(.int .i64 0),(.int .i64 0),(.lst 0 [] true),(.bool false)])
 (zs 36 16 42
 .done)))) (.wr true (some 16) none (.new 49 [(.lst 0 [] true),(.int .i64 0),(.int .i64 0),(.int .i64 0),(.int .i64 0),(.int .i64 0),(.int .i64 0),(.int .i64 0),(.int .i64 0),(.int .i64 0),(.int .i64 0),(.int .i64 0),(.int .i64 0),(.int .i64 0),(.int .i64 0),(.int .i64 0),(.int .i64 0),(.int .i64 0),(.int .i64 0),(.int .i64 0),(.int .i64 0),(.int .i64 0),(.int .i64 0),(.int .i64 0),(.int .i64 0),(.int .i64 0),(.int .i64 0),(.int .i64 0),(.int .i64 0),(.int .i64 0),(.int .i64 0),(.int .i64 0),(.int .i64 0),(.int .i64 0),(.lst 0 [] true),(.bool false)])
 (.wr true (some 40) none (.mksl 44 1 8 [(.int .i64 0)] (.t 39) (.t 39))
 (zr 42 (.build [(.lst 0 [] true),(.int .i64 0),(.int .i64 0),(.int .i64 0),(.int .i64 0),(.int .i64 0),(.int .i64 0),(.int .i64 0),(.int .i64 0),(.int .i64 0),(.int .i64 0),(.int .i64 0),(.int .i64 0),(.int .i64 0),(.int .i64 0),(.int .i64 0),(.int .i64 0),(.int .i64 0),(.int .i64 0),(.int .i64 0),(.int .i64 0),(.int .i64 0),(.int .i64 0),(.int .i64 0),(.int .i64 0),(.int .i64 0),(.int .i64 0),(.int .i64 0),(.int .i64 0),(.int .i64 0),(.int .i64 0),(.int .i64 0),(.int .i64 0),(.int .i64 0),(.lst 0 [] true),(.bool false)] [(0,1,(.t 40)),(2,34,(.t 41))])
 (zs 36 16 42
 .done))))))))
def Qdc:AT:=(.wr false (some 43) none .mkmap
 (zr 44 (.build [(.val (.map none))] [(0,1,(.t 43))])
 (.wr false (some 17) none (.new 96 [(.val (.map none))])
 (zs 1 17 44
 .done))))
def Qdb:AT:=(zm 45 1
 (zk 46 12 [.t 45]
 (zr 47 (.mkfn (.func 41) [] [(.t 8),(.t 14)])
 (zk 48 35 [.t 46,.t 47]
 (zm 1 48
 .done)))))
def Qda:AT:=(zm 49 1
 (zn 50 0 49
 (zr 51 (.mov (zi 0))
 .done)))
def Qb8:AT:=(zb .lss 52 51 50
 .done)
def Qcz:AT:=(zx 53 3 49 51
 (zr 54 (.load true 3 (.t 53))
 (.wr false (some 19) none (.new 64 [(.int .i64 0),(.int .u8 0),(.int .i64 0)])
 (zs 3 19 54
 .done))))
def Qcy:AT:=(zr 55 (.load true 1 (.t 17))
 (za 56 0 19
 (zl 57 1 56
 (zr 58 (.build [(.int .i64 0),(.int .u8 0),(.int .i64 0)] [(0,1,(.t 57))])
 (za 59 1 19
 (zr 60 (.load true 2 (.t 59))
 (zr 61 (.build [(.int .i64 0),(.int .u8 0),(.int .i64 0)] [(1,2,(.t 60))])
 (zk 62 43 [.t 55,.t 58,.t 61]
 .done))))))))
def Qcx:AT:=(zc .add 63 51 1
 (zm 51 63
 .done))
def Zp:AT:=(.wr false (some 64) none .mkmap
 (.wr false (some 20) none (.new 101 [(.val (.map none))])
 (zs 1 20 64
 .done)))
def Zo:AT:=(zm 65 1
 (zn 66 0 65
 (zr 67 (.mov (zi 0))
 .done)))
def YU:AT:=(zb .lss 68 67 66
 .done)
def Zh:AT:=(zx 69 3 65 67
 (zr 70 (.load true 3 (.t 69))
 (.wr false (some 22) none (.new 64 [(.int .i64 0),(.int .u8 0),(.int .i64 0)])
 (zs 3 22 70
 .done))))
def Zg:AT:=(zr 71 (.load true 1 (.t 17))
 (za 72 0 22
 (zl 73 1 72
 (zr 74 (.build [(.int .i64 0),(.int .u8 0),(.int .i64 0)] [(0,1,(.t 73))])
 (zk 75 44 [.t 71,.t 74]
 (.wr false (some 23) none (.new 100 [(.int .i64 0),(.int .u8 0),(.int .i64 0)])
 (zs 3 23 75
 .done)))))))
def Zf:AT:=(zl 77 1 20
 (zr 78 (.load true 3 (.t 23))
 (zr 79 (.look true true [.i,.i,.i] (.int .i64 0) (.t 77) (.t 78))
 (zm 76 79
 (ze 80 76 0
 (ze 81 76 1
 (zm 24 80
 (zm 25 81
 .done))))))))
def Ze:AT:=(zm 82 25
 (zr 83 (.un .not (.t 82))
 (zm 84 83
 (zat 85 84 1 22
 (zat 86 84 0 85
 (zlt 87 84 1 86
 (zt 88 84 (.bin .eql (.t 87) (zu 3))
 (zq 89 84 88
 .done))))))))
def Zd:AT:=(zl 92 1 6
 (za 93 1 22
 (za 94 1 93
 (zl 95 1 94
 (.alt (zl 90 1 20
 (.alt (zr 91 (.load true 3 (.t 23))
 (zk 96 20 [.t 92,.t 95]
 (.wr false none none (.mapup true [.i,.i,.i] (.t 90) (.t 91) (.t 96))
 .done))) (zk 96 20 [.t 92,.t 95]
 (zr 91 (.load true 3 (.t 23))
 (.wr false none none (.mapup true [.i,.i,.i] (.t 90) (.t 91) (.t 96))
 .done))))) (.alt (zr 91 (.load true 3 (.t 23))
 (.alt (zl 90 1 20
 (zk 96 20 [.t 92,.t 95]
 (.wr false none none (.mapup true [.i,.i,.i] (.t 90) (.t 91) (.t 96))
 .done))) (zk 96 20 [.t 92,.t 95]
 (zl 90 1 20
 (.wr false none none (.mapup true [.i,.i,.i] (.t 90) (.t 91) (.t 96))
 .done))))) (zk 96 20 [.t 92,.t 95]
 (.alt (zl 90 1 20
 (zr 91 (.load true 3 (.t 23))
 (.wr false none none (.mapup true [.i,.i,.i] (.t 90) (.t 91) (.t 96))
 .done))) (zr 91 (.load true 3 (.t 23))
 (zl 90 1 20
 (.wr false none none (.mapup true [.i,.i,.i] (.t 90) (.t 91) (.t 96))
 .done)))))))))))
def Zc:AT:=(zc .add 97 67 1
 (zm 67 97
 .done))
def Zb:AT:=(zr 98 (.mkfn (.func 45) [] [(.t 17),(.t 20),(.t 6),(.t 15)])
 (zm 26 98
 .done))
def Za:AT:=(zm 99 26
 (zr 100 (.build [(.int .i64 0),(.int .u8 0),(.int .i64 0)] [(0,1,(.c (.int .i64 (-1))))])
 (.cl false (some 101) none (.t 99) [(.t 100)]
 (za 102 1 16
 (zs 1 102 101
 .done)))))
def YT:AT:=(za 103 0 16
 (zl 104 1 103
 (zn 105 0 104
 (zr 106 (.mov (zi 0))
 .done))))
def Yj:AT:=(zb .lss 107 106 105
 .done)
def Ys:AT:=(zm 108 106
 (zm 27 108
 .done))
def Yr:AT:=(za 109 0 16
 (zm 111 27
 (zm 112 26
 (zm 113 27
 (zr 114 (.build [(.int .i64 0),(.int .u8 0),(.int .i64 0)] [(0,1,(.t 113))])
 (.alt (zl 110 1 109
 (.cl false (some 115) none (.t 112) [(.t 114)]
 (zx 116 1 110 111
 (zs 1 116 115
 .done)))) (.cl false (some 115) none (.t 112) [(.t 114)]
 (zl 110 1 109
 (zx 116 1 110 111
 (zs 1 116 115
 .done))))))))))
def Yq:AT:=(zc .add 117 106 1
 (zm 106 117
 .done))
def Zn:AT:=(zm 118 1
 (zn 119 0 118
 (zr 120 (.mov (zi 0))
 .done)))
def Xp:AT:=(zb .lss 121 120 119
 .done)
def XD:AT:=(zx 122 3 118 120
 (zr 123 (.load true 3 (.t 122))
 (.wr false (some 29) none (.new 64 [(.int .i64 0),(.int .u8 0),(.int .i64 0)])
 (zs 3 29 123
 .done))))
def XC:AT:=(za 124 1 29
 (za 125 0 124
 (zl 126 1 125
 .done)))
def XB:AT:=(zr 128 (.bin .eql (.t 126) (zu 1))
 (zm 127 128
 .done))
def XA:AT:=(za 129 1 29
 (za 130 1 129
 (zm 132 26
 (za 133 1 29
 (zr 134 (.load true 2 (.t 133))
 (zr 135 (.build [(.int .i64 0),(.int .u8 0),(.int .i64 0)] [(1,2,(.t 134))])
 (za 137 2 16
 (za 138 0 137
 (.alt (zl 131 1 130
 (.cl false (some 136) none (.t 132) [(.t 135)]
 (zr 139 (.iaddr (some 32) 1 (.t 138) (.t 131))
 (zs 1 139 136
 .done)))) (.cl false (some 136) none (.t 132) [(.t 135)]
 (zl 131 1 130
 (zr 139 (.iaddr (some 32) 1 (.t 138) (.t 131))
 (zs 1 139 136
 .done)))))))))))))
def Xz:AT:=(zr 141 (.bin .eql (.t 126) (zu 2))
 (zm 140 141
 .done))
def Xy:AT:=(za 142 2 16
 (za 143 32 142
 (za 145 1 29
 (za 146 1 145
 (zm 148 26
 (za 149 1 29
 (zr 150 (.load true 2 (.t 149))
 (zr 151 (.build [(.int .i64 0),(.int .u8 0),(.int .i64 0)] [(1,2,(.t 150))])
 (.alt (zl 144 1 143
 (.alt (zl 147 1 146
 (.cl false (some 152) none (.t 148) [(.t 151)]
 (zx 153 1 144 147
 (zs 1 153 152
 .done)))) (.cl false (some 152) none (.t 148) [(.t 151)]
 (zl 147 1 146
 (zx 153 1 144 147
 (zs 1 153 152
 .done)))))) (.alt (zl 147 1 146
 (.alt (zl 144 1 143
 (.cl false (some 152) none (.t 148) [(.t 151)]
 (zx 153 1 144 147
 (zs 1 153 152
 .done)))) (.cl false (some 152) none (.t 148) [(.t 151)]
 (zl 144 1 143
 (zx 153 1 144 147
 (zs 1 153 152
 .done)))))) (.cl false (some 152) none (.t 148) [(.t 151)]
 (.alt (zl 144 1 143
 (zl 147 1 146
 (zx 153 1 144 147
 (zs 1 153 152
 .done)))) (zl 147 1 146
 (zl 144 1 143
 (zx 153 1 144 147
 (zs 1 153 152
 .done))))))))))))))))
def Xx:AT:=(zc .add 154 120 1
 (zm 120 154
 .done))
def ZJ:AT:=(zr 155 (.load true 36 (.t 16))
 (.alt (zl 156 1 15
 (zs 36 12 155
 (zm 13 156
 .done))) (zs 36 12 155
 (zl 156 1 15
 (zm 13 156
 .done)))))
def relate_Fresh:AF:=⟨157,[.cell 12 true 36,.tmp 13],
 (zg Qdf []
 (zg Qde [31,32,33,34,35,30,36,37]
 (zg Qdd [38,39,40,41,42]
 (zg Qdc [43,44]
 (zg Qdb [45,46,47,48]
 (.seq (zg Qda []
 (.block 0 (.loop (zg Qb8 []
 (.seq (zw 52
 .skip
 (.exit 0))
 (.seq (.block 1 (zg Qcz [53,54]
 (.reg Qcy [55,56,57,58,59,60,61,62])))
 (.reg Qcx [63])))))))
 (zg Zp [64]
 (.seq (zg Zo []
 (.block 2 (.loop (zg YU []
 (.seq (zw 68
 .skip
 (.exit 2))
 (.seq (.block 3 (zg Zh [69,70]
 (zg Zg [71,72,73,74,75]
 (zg Zf [77,78,79,76,80,81,24]
 (zg Ze [82,83,84,85,86,87,88]
 (zw 89
 (.reg Zd [90,91,92,93,94,95,96])
 .skip))))))
 (.reg Zc [97])))))))
 (zg Zb [98]
 (zg Za [99,100,101,102]
 (.seq (zg YT [103,104]
 (.block 4 (.loop (zg Yj []
 (.seq (zw 107
 .skip
 (.exit 4))
 (.seq (.block 5 (zg Ys [108]
 (.reg Yr [109,110,111,112,113,114,115,116])))
 (.reg Yq [117])))))))
 (.seq (zg Zn []
 (.block 6 (.loop (zg Xp []
 (.seq (zw 121
 .skip
 (.exit 6))
 (.seq (.block 7 (zg XD [122,123]
 (zg XC [124,125]
 (.block 8 (zg XB [128]
 (zw 127
 (.reg XA [129,130,131,132,133,134,135,136,137,138,139])
 (zg Xz [141]
 (zw 140
 (.reg Xy [142,143,144,145,146,147,148,149,150,151,152,153])
 .skip))))))))
 (.reg Xx [154])))))))
 (zg ZJ [155,156]
 .ret)))))))))))))⟩
abbrev Qac:Nat:=19
/- proofmark/norm.Const -/
def zqh_0:AT:=(zr 4 (.mov (zi 0))
 .done)
def zqh_1:AT:=(zm 5 0
 (zm 6 1
 (zr 7 (.build [(.int .u8 0),(.int .i64 0),(.int .i64 0),(.int .u8 0),(.int .i64 0),(.int .i64 0)] [(0,1,(zu 1)),(1,1,(.t 6))])
 (zk 8 46 [.t 5,.t 7]
 (zm 4 8
 .done)))))
def QcT:AF:=⟨9,[.tmp 4],
 (zg zqh_0 []
 (zg zqh_1 [5,6,7,8]
 .ret))⟩
abbrev Qiz:Nat:=20
abbrev QnH:Nat:=21
abbrev n_proofmarklaw25_holds:Nat:=22
abbrev QnI:Nat:=23
/- proofmark/lift.Begin -/
def zql_0:AT:=(.wr false (some 4) none (.box 41 (.t 0))
 (.wr false (some 5) none (.box 39 (.t 1))
 (.wr false (some 7) none (.box 2 (.t 3))
 (.wr false (some 8) none (.new 47 [(.int .i64 0),(.int .i64 0),(.int .i64 0),(.int .i64 0),(.int .i64 0),(.int .i64 0),(.int .i64 0),(.int .i64 0),(.int .i64 0),(.int .i64 0),(.int .i64 0),(.int .i64 0),(.int .i64 0),(.int .i64 0),(.int .i64 0),(.int .i64 0),(.int .i64 0),(.int .i64 0),(.int .i64 0),(.int .i64 0),(.int .i64 0),(.int .i64 0),(.int .i64 0),(.int .i64 0),(.int .i64 0),(.int .i64 0),(.int .i64 0),(.int .i64 0),(.int .i64 0),(.int .i64 0),(.int .i64 0),(.int .i64 0),(.lst 0 [] true),(.bool false)])
 (zr 9 (.mov (zi 0))
 .done)))))
def zql_1:AT:=(zl 13 1 7
 (zr 14 (.maxi (zi 0) (.t 13))
 (zs 1 7 14
 .done)))
def zql_2:AT:=(zr 15 (.mkfn (.func 50) [] [(.t 7),(.t 4)])
 (zm 10 15
 .done))
def zql_3:AT:=(za 16 3 5
 (zl 17 1 16
 (zc .eql 18 17 0
 (zr 19 (.build [(.int .i64 0),(.int .i64 0),(.int .i64 0),(.int .i64 0),(.int .i64 0),(.int .i64 0),(.int .i64 0),(.int .i64 0),(.int .i64 0),(.int .i64 0),(.int .i64 0),(.int .i64 0),(.int .i64 0),(.int .i64 0),(.int .i64 0),(.int .i64 0),(.int .i64 0),(.int .i64 0),(.int .i64 0),(.int .i64 0),(.int .i64 0),(.int .i64 0),(.int .i64 0),(.int .i64 0),(.int .i64 0),(.int .i64 0),(.int .i64 0),(.int .i64 0),(.int .i64 0),(.int .i64 0),(.int .i64 0),(.int .i64 0),(.lst 0 [] true),(.bool false)] [(33,1,(.t 18))])
 (.wr false (some 11) none (.new 47 [(.int .i64 0),(.int .i64 0),(.int .i64 0),(.int .i64 0),(.int .i64 0),(.int .i64 0),(.int .i64 0),(.int .i64 0),(.int .i64 0),(.int .i64 0),(.int .i64 0),(.int .i64 0),(.int .i64 0),(.int .i64 0),(.int .i64 0),(.int .i64 0),(.int .i64 0),(.int .i64 0),(.int .i64 0),(.int .i64 0),(.int .i64 0),(.int .i64 0),(.int .i64 0),(.int .i64 0),(.int .i64 0),(.int .i64 0),(.int .i64 0),(.int .i64 0),(.int .i64 0),(.int .i64 0),(.int .i64 0),(.int .i64 0),(.lst 0 [] true),(.bool false)])
 (zs 34 11 19
 .done))))))
def zql_4:AT:=(zr 20 (.mov (zi 0))
 .done)
def Qru:AT:=(zc .lss 21 20 32
 .done)
def Qrt:AT:=(zm 22 20
 (zm 12 22
 .done))
def Qrs:AT:=(zm 23 12
 .done)
def Qrr:AT:=(zc .eql 30 23 0
 (zm 29 30
 .done))
def Qrq:AT:=(zm 31 12
 (zl 32 1 4
 (zk 33 20 [.t 32,(zi 0)]
 (za 34 0 11
 (zr 35 (.iaddr (some 32) 1 (.t 34) (.t 31))
 (zs 1 35 33
 .done))))))
def Qmf:AT:=(zc .eql 37 23 2
 (zm 36 37
 .done))
def Qme:AT:=(zm 38 12
 (za 39 0 11
 (zr 40 (.iaddr (some 32) 1 (.t 39) (.t 38))
 (.wr false none none (.store 1 (.t 40) (.c (.int .i64 (-1))))
 .done))))
def Qmd:AT:=(zm 24 12
 (zm 25 10
 (.cl false (some 26) none (.t 25) []
 (za 27 0 11
 (zr 28 (.iaddr (some 32) 1 (.t 27) (.t 24))
 (zs 1 28 26
 .done))))))
def Qmc:AT:=(zc .add 41 20 1
 (zm 20 41
 .done))
def QwZ:AT:=(za 42 3 5
 (zl 43 1 42
 (zc .quo 44 43 8
 (zm 45 2
 (zr 46 (.mini (.t 45) (zi 6))
 (zr 47 (.maxi (zi 0) (.t 46))
 (zb .add 48 44 47
 (zr 49 (.mov (zi 0))
 .done))))))))
def Qqz:AT:=(zb .lss 50 49 48
 .done)
def Qqy:AT:=(za 51 32 11
 (zm 53 10
 (.alt (zl 52 1 51
 (.cl false (some 54) none (.t 53) []
 (.wr true (some 55) none (.bsl false false 44 1 [(.int .i64 0)] 1 [(0,1,(.t 54))])
 (.wr false (some 56) none (.app 44 1 8 false (.t 52) (.t 55))
 (za 57 32 11
 (zs 1 57 56
 .done)))))) (.cl false (some 54) none (.t 53) []
 (.alt (zl 52 1 51
 (.wr true (some 55) none (.bsl false false 44 1 [(.int .i64 0)] 1 [(0,1,(.t 54))])
 (.wr false (some 56) none (.app 44 1 8 false (.t 52) (.t 55))
 (za 57 32 11
 (zs 1 57 56
 .done))))) (.wr true (some 55) none (.bsl false false 44 1 [(.int .i64 0)] 1 [(0,1,(.t 54))])
 (zl 52 1 51
 (.wr false (some 56) none (.app 44 1 8 false (.t 52) (.t 55))
 (za 57 32 11
 (zs 1 57 56
 .done))))))))))
def Qqx:AT:=(zc .add 58 49 1
 (zm 49 58
 .done))
def QwY:AT:=(zr 59 (.load true 34 (.t 11))
 (.alt (zl 60 1 7
 (zs 34 8 59
 (zm 9 60
 .done))) (zs 34 8 59
 (zl 60 1 7
 (zm 9 60
 .done)))))
def QcX:AF:=⟨61,[.cell 8 true 34,.tmp 9],
 (zg zql_0 []
 (zg zql_1 [13,14]
 (zg zql_2 [15]
 (zg zql_3 [16,17,18,19]
 (.seq (zg zql_4 []
 (.block 0 (.loop (zg Qru []
 (.seq (zw 21
 .skip
 (.exit 0))
 (.seq (.block 1 (zg Qrt [22]
 (zg Qrs []
 (.block 2 (zg Qrr [30]
 (zw 29
 (.reg Qrq [31,32,33,34,35])
 (zg Qmf [37]
 (zw 36
 (.reg Qme [38,39,40])
 (.reg Qmd [24,25,26,27,28])))))))))
 (.reg Qmc [41])))))))
 (.seq (zg QwZ [42,43,44,45,46,47]
 (.block 3 (.loop (zg Qqz []
 (.seq (zw 50
 .skip
 (.exit 3))
 (.seq (.block 4 (.reg Qqy [51,52,53,54,55,56,57]))
 (.reg Qqx [58])))))))
 (zg QwY [59,60]
 .ret)))))))⟩
abbrev QeJ:Nat:=24
/- proofmark/norm.Sym -/
def zqm_0:AT:=(zr 4 (.mov (zi 0))
 .done)
def zqm_1:AT:=(zm 5 0
 (zm 6 1
 (zr 7 (.build [(.int .u8 0),(.int .i64 0),(.int .i64 0),(.int .u8 0),(.int .i64 0),(.int .i64 0)] [(0,1,(zu 2)),(1,1,(.t 6))])
 (zk 8 46 [.t 5,.t 7]
 (zm 4 8
 .done)))))
def QgV:AF:=⟨9,[.tmp 4],
 (zg zqm_0 []
 (zg zqm_1 [5,6,7,8]
 .ret))⟩
abbrev Qmp:Nat:=25
abbrev Qze:Nat:=26
abbrev QpN:Nat:=27
abbrev Qn7:Nat:=28
/- slices.Clone[[]proofmark/relate.Pair,proofmark/relate.Pair] -/
def zqq_0:AT:=(zr 2 (.mov (.c (.lst 0 [] true)))
 .done)
def zqq_1:AT:=(zm 3 0
 (zr 4 (.eqn false (.t 3))
 .done))
def zqq_2:AT:=(zr 2 (.mov (.c (.lst 0 [] true)))
 .done)
def zqq_3:AT:=(.wr false (some 5) none (.bsl false true 64 3 [(.int .i64 0),(.int .u8 0),(.int .i64 0)] 0 [])
 (zm 6 0
 (.wr false (some 7) none (.app 64 3 24 false (.t 5) (.t 6))
 (zm 2 7
 .done))))
def Qq:AF:=⟨8,[.tmp 2],
 (zg zqq_0 []
 (.seq (zg zqq_1 [3]
 (zw 4
 (zg zqq_2 []
 .ret)
 .skip))
 (zg zqq_3 [5,6,7]
 .ret)))⟩
abbrev Xf:Nat:=29
/- slices.SortFunc[[]proofmark/relate.Pair,proofmark/relate.Pair] -/
def zqr_0:AT:=(zm 5 0
 (zn 6 0 5
 (zm 4 6
 .done)))
def zqr_1:AT:=(zm 7 0
 (zm 8 4
 (zm 9 4
 (zr 10 (.conv .u64 (.t 9))
 (zk 11 54 [.t 10]
 (zm 12 1
 (zk 13 53 [.t 7,(zi 0),.t 8,.t 11,.t 12]
 .done)))))))
def QK:AF:=⟨14,[],
 (zg zqr_0 [5,6]
 (.reg zqr_1 [7,8,9,10,11,12,13]))⟩
abbrev Q6:Nat:=30
abbrev Qvk:Nat:=31
/- slices.Compact[[]proofmark/relate.Pair,proofmark/relate.Pair] -/
def QzS:AT:=(zr 2 (.mov (.c (.lst 0 [] true)))
 .done)
def QzR:AT:=(zm 6 0
 (zn 7 0 6
 (zc .lss 8 7 2
 .done)))
def QzQ:AT:=(zm 9 0
 (zm 2 9
 .done))
def QzP:AT:=(zr 3 (.mov (zi 1))
 .done)
def QzO:AT:=(zm 10 3
 (zm 11 0
 (zn 12 0 11
 (zb .lss 13 10 12
 .done))))
def QzN:AT:=(zm 16 0
 (zm 17 3
 (zx 18 3 16 17
 (zr 19 (.load true 3 (.t 18))
 (zm 20 0
 (zm 21 3
 (zc .sub 22 21 1
 (zx 23 3 20 22
 (zr 24 (.load true 3 (.t 23))
 (zr 25 (.eqs false [.i,.i,.i] (.t 19) (.t 24))
 .done))))))))))
def QzM:AT:=(zm 26 0
 (zm 27 3
 (zr 28 (.slc 3 (.t 26) (some (.t 27)) none none)
 (zm 4 28
 .done))))
def QzL:AT:=(zr 5 (.mov (zi 1))
 .done)
def Qpm:AT:=(zm 29 5
 (zm 30 4
 (zn 31 0 30
 (zb .lss 32 29 31
 .done))))
def Qpl:AT:=(zm 35 4
 (zm 36 5
 (zx 37 3 35 36
 (zr 38 (.load true 3 (.t 37))
 (zm 39 4
 (zm 40 5
 (zc .sub 41 40 1
 (zx 42 3 39 41
 (zr 43 (.load true 3 (.t 42))
 (zr 44 (.eqs true [.i,.i,.i] (.t 38) (.t 43))
 .done))))))))))
def QjS:AT:=(zm 45 0
 (zm 46 3
 (zm 47 4
 (zm 48 5
 (zx 49 3 47 48
 (zr 50 (.load true 3 (.t 49))
 (zx 51 3 45 46
 (zs 3 51 50
 .done))))))))
def QjR:AT:=(zm 52 3
 (zc .add 53 52 1
 (zm 3 53
 .done)))
def QjQ:AT:=(zm 33 5
 (zc .add 34 33 1
 (zm 5 34
 .done)))
def QsN:AT:=(zm 54 0
 (zm 55 3
 (zr 56 (.slc 3 (.t 54) (some (.t 55)) none none)
 (.wr false none none (.clr 3 [(.int .i64 0),(.int .u8 0),(.int .i64 0)] (.t 56))
 .done))))
def QsM:AT:=(zm 57 0
 (zm 58 3
 (zr 59 (.slc 3 (.t 57) none (some (.t 58)) none)
 (zm 2 59
 .done))))
def QsL:AT:=(zm 14 3
 (zc .add 15 14 1
 (zm 3 15
 .done)))
def QsK:AT:=(zm 60 0
 (zm 2 60
 .done))
def Ql:AF:=⟨61,[.tmp 2],
 (zg QzS []
 (.seq (zg QzR [6,7]
 (zw 8
 (zg QzQ [9]
 .ret)
 .skip))
 (.seq (zg QzP []
 (.block 0 (.loop (.seq (zg QzO [10,11,12]
 (zw 13
 .skip
 (.exit 0)))
 (.seq (.block 1 (zg QzN [16,17,18,19,20,21,22,23,24]
 (zw 25
 (zg QzM [26,27,28]
 (.seq (zg QzL []
 (.block 2 (.loop (.seq (zg Qpm [29,30,31]
 (zw 32
 .skip
 (.exit 2)))
 (.seq (.block 3 (zg Qpl [35,36,37,38,39,40,41,42,43]
 (zw 44
 (zg QjS [45,46,47,48,49,50,51]
 (.reg QjR [52,53]))
 .skip)))
 (.reg QjQ [33,34]))))))
 (zg QsN [54,55,56]
 (zg QsM [57,58,59]
 .ret))))
 .skip)))
 (.reg QsL [14,15]))))))
 (zg QsK [60]
 .ret))))⟩
abbrev Q9:Nat:=32
abbrev Qm1:Nat:=33
/- proofmark/relate.set -/
def zqv_0:AT:=(zr 2 (.mov (.c (.val (.map none))))
 .done)
def zqv_1:AT:=(.wr false (some 6) none .mkmap
 (zm 3 6
 .done))
def zqv_2:AT:=(zm 7 0
 (zn 8 0 7
 (zr 9 (.mov (zi 0))
 .done)))
def zqv_3:AT:=(zb .lss 10 9 8
 .done)
def zqv_4:AT:=(zx 11 3 7 9
 (zr 12 (.load true 3 (.t 11))
 (.wr false (some 5) none (.new 64 [(.int .i64 0),(.int .u8 0),(.int .i64 0)])
 (zs 3 5 12
 .done))))
def zqv_5:AT:=(zm 13 3
 (zr 14 (.load true 3 (.t 5))
 (.wr false none none (.mapup true [.i,.i,.i] (.t 13) (.t 14) (zi 1))
 .done)))
def zqv_6:AT:=(zc .add 15 9 1
 (zm 9 15
 .done))
def zqv_7:AT:=(zm 16 3
 (zm 2 16
 .done))
def QcR:AF:=⟨17,[.tmp 2],
 (zg zqv_0 []
 (zg zqv_1 [6]
 (.seq (zg zqv_2 []
 (.block 0 (.loop (zg zqv_3 []
 (.seq (zw 10
 .skip
 (.exit 0))
 (.seq (.block 1 (zg zqv_4 [11,12]
 (.reg zqv_5 [13,14])))
 (.reg zqv_6 [15])))))))
 (zg zqv_7 [16]
 .ret))))⟩
abbrev Qix:Nat:=34
/- slices.DeleteFunc[[]proofmark/relate.Pair,proofmark/relate.Pair] -/
def Qvy:AT:=(zr 4 (.mov (.c (.lst 0 [] true)))
 .done)
def Qvx:AT:=(zm 8 0
 (zm 9 1
 (zk 10 59 [.t 8,.t 9]
 (zm 5 10
 .done))))
def Qvw:AT:=(zm 11 5
 (zr 12 (.bin .eql (.t 11) (.c (.int .i64 (-1))))
 .done))
def Qvv:AT:=(zm 13 0
 (zm 4 13
 .done))
def Qvu:AT:=(zm 14 5
 (zc .add 15 14 1
 (zm 6 15
 .done)))
def Qvt:AT:=(zm 16 6
 (zm 17 0
 (zn 18 0 17
 (zb .lss 19 16 18
 .done))))
def Qvs:AT:=(zm 22 0
 (zm 23 6
 (zx 24 3 22 23
 (zr 25 (.load true 3 (.t 24))
 (.wr false (some 7) none (.new 64 [(.int .i64 0),(.int .u8 0),(.int .i64 0)])
 (zs 3 7 25
 .done))))))
def Qvr:AT:=(zm 26 1
 (zr 27 (.load true 3 (.t 7))
 (.cl false (some 28) none (.t 26) [(.t 27)]
 (zr 29 (.un .not (.t 28))
 .done))))
def Qvq:AT:=(zm 30 0
 (zm 31 5
 (zr 32 (.load true 3 (.t 7))
 (zx 33 3 30 31
 (zs 3 33 32
 .done)))))
def Qvp:AT:=(zm 34 5
 (zc .add 35 34 1
 (zm 5 35
 .done)))
def Qqw:AT:=(zm 20 6
 (zc .add 21 20 1
 (zm 6 21
 .done)))
def Qqv:AT:=(zm 36 0
 (zm 37 5
 (zr 38 (.slc 3 (.t 36) (some (.t 37)) none none)
 (.wr false none none (.clr 3 [(.int .i64 0),(.int .u8 0),(.int .i64 0)] (.t 38))
 .done))))
def Qqu:AT:=(zm 39 0
 (zm 40 5
 (zr 41 (.slc 3 (.t 39) none (some (.t 40)) none)
 (zm 4 41
 .done))))
def Qh:AF:=⟨42,[.tmp 4],
 (zg Qvy []
 (zg Qvx [8,9,10]
 (.seq (zg Qvw [11]
 (zw 12
 (zg Qvv [13]
 .ret)
 .skip))
 (.seq (zg Qvu [14,15]
 (.block 0 (.loop (.seq (zg Qvt [16,17,18]
 (zw 19
 .skip
 (.exit 0)))
 (.seq (.block 1 (zg Qvs [22,23,24,25]
 (zg Qvr [26,27,28]
 (zw 29
 (zg Qvq [30,31,32,33]
 (.reg Qvp [34,35]))
 .skip))))
 (.reg Qqw [20,21]))))))
 (zg Qqv [36,37,38]
 (zg Qqu [39,40,41]
 .ret))))))⟩
abbrev Q0:Nat:=35
/- proofmark/relate.Meet$1 -/
def zqx_0:AT:=(.wr false (some 2) none (.box 64 (.t 0))
 (zr 3 (.mov (.c (.bool false)))
 .done))
def zqx_1:AT:=(zl 4 1 1
 (zr 5 (.load true 3 (.t 2))
 (zr 6 (.look false true [.i,.i,.i] (.int .i64 0) (.t 4) (.t 5))
 (zc .eql 7 6 0
 (zm 3 7
 .done)))))
def YY:AF:=⟨8,[.tmp 3],
 (zg zqx_0 []
 (zg zqx_1 [4,5,6,7]
 .ret))⟩
abbrev QdP:Nat:=36
/- slices.ContainsFunc[[]proofmark/relate.Pair,proofmark/relate.Pair] -/
def zqy_0:AT:=(zr 4 (.mov (.c (.bool false)))
 .done)
def zqy_1:AT:=(zm 5 0
 (zm 6 1
 (zk 7 59 [.t 5,.t 6]
 (zc .geq 8 7 0
 (zm 4 8
 .done)))))
def Qm:AF:=⟨9,[.tmp 4],
 (zg zqy_0 []
 (zg zqy_1 [5,6,7,8]
 .ret))⟩
abbrev QX:Nat:=37
/- proofmark/relate.Within$1 -/
def zqz_0:AT:=(.wr false (some 2) none (.box 64 (.t 0))
 (zr 3 (.mov (.c (.bool false)))
 .done))
def zqz_1:AT:=(zl 4 1 1
 (zr 5 (.load true 3 (.t 2))
 (zr 6 (.look false true [.i,.i,.i] (.int .i64 0) (.t 4) (.t 5))
 (zc .eql 7 6 0
 (zm 3 7
 .done)))))
def XV:AF:=⟨8,[.tmp 3],
 (zg zqz_0 []
 (zg zqz_1 [4,5,6,7]
 .ret))⟩
abbrev Qb0:Nat:=38
/- proofmark/regions.Of -/
def zq10_0:AT:=(.wr false (some 1) none (.box 88 (.t 0))
 (zr 2 (.mov (.c (.lst 0 [] true)))
 (.wr false (some 3) none (.new 82 [(.int .i64 0),(.int .i64 0),(.int .i64 0)])
 .done)))
def zq10_1:AT:=(zr 8 (.load true 3 (.t 1))
 (zk 9 60 [.t 8]
 (zr 10 (.un .not (.t 9))
 .done)))
def zq10_2:AT:=(zr 11 (.build [(.int .i64 0),(.int .i64 0),(.int .i64 0)] [(2,1,(zi 2))])
 (zr 2 (.mov (.c (.lst 0 [] true)))
 (zs 3 3 11
 .done)))
def zq10_3:AT:=(zr 4 (.mov (.c (.lst 0 [] true)))
 .done)
def zq10_4:AT:=(za 12 1 1
 (zl 13 1 12
 (zn 14 0 13
 (zr 15 (.mov (zi 0))
 .done))))
def zq10_5:AT:=(zb .lss 16 15 14
 .done)
def zq10_6:AT:=(zm 17 15
 (zm 5 17
 .done))
def zq10_7:AT:=(zr 19 (.load true 3 (.t 1))
 (zm 20 5
 (zk 21 61 [.t 19,.t 20]
 (zm 18 21
 (ze 22 18 0
 (ze 23 18 1
 (.wr false (some 6) none (.new 39 [(.str []),(.int .i64 0),(.lst 0 [] true),(.int .i64 0),(.lst 0 [] true)])
 (.wr false (some 7) none (.new 82 [(.int .i64 0),(.int .i64 0),(.int .i64 0)])
 (zs 5 6 22
 (zs 3 7 23
 .done))))))))))
def zq10_8:AT:=(za 24 2 7
 (zl 25 1 24
 (zc .neq 26 25 0
 .done)))
def zq10_9:AT:=(zr 27 (.load true 3 (.t 7))
 (zr 2 (.mov (.c (.lst 0 [] true)))
 (zs 3 3 27
 .done)))
def QBF:AT:=(zm 28 4
 (zr 29 (.load true 5 (.t 6))
 (.wr false (some 30) none (.bsl true true 39 5 [(.str []),(.int .i64 0),(.lst 0 [] true),(.int .i64 0),(.lst 0 [] true)] 1 [(0,5,(.t 29))])
 (.wr false (some 31) none (.app 39 5 80 false (.t 28) (.t 30))
 (zm 4 31
 .done)))))
def QBE:AT:=(zc .add 32 15 1
 (zm 15 32
 .done))
def QBD:AT:=(zm 33 4
 (zr 34 (.build [(.int .i64 0),(.int .i64 0),(.int .i64 0)] [])
 (zm 2 33
 (zs 3 3 34
 .done))))
def QhD:AF:=⟨35,[.tmp 2,.cell 3 true 3],
 (zg zq10_0 []
 (.seq (zg zq10_1 [8,9]
 (zw 10
 (zg zq10_2 [11]
 .ret)
 .skip))
 (zg zq10_3 []
 (.seq (zg zq10_4 [12,13]
 (.block 0 (.loop (zg zq10_5 []
 (.seq (zw 16
 .skip
 (.exit 0))
 (.seq (.block 1 (zg zq10_6 [17]
 (zg zq10_7 [19,20,21,18,22,23]
 (.seq (zg zq10_8 [24,25]
 (zw 26
 (zg zq10_9 [27]
 .ret)
 .skip))
 (.reg QBF [28,29,30,31])))))
 (.reg QBE [32])))))))
 (zg QBD [33,34]
 .ret)))))⟩
abbrev Qn4:Nat:=39
/- proofmark/proofmarkkit.Image -/
def zq11_0:AT:=(.wr false (some 4) none (.new 88 [(.int .i64 0),(.lst 0 [] true),(.lst 0 [] true)])
 .done)
def zq11_1:AT:=(zm 10 1
 (zr 11 (.build [(.int .i64 0),(.lst 0 [] true),(.lst 0 [] true)] [(0,1,(.t 10))])
 (.wr false (some 5) none (.new 88 [(.int .i64 0),(.lst 0 [] true),(.lst 0 [] true)])
 (zs 3 5 11
 .done))))
def zq11_2:AT:=(zr 6 (.mov (zi 0))
 .done)
def zq11_3:AT:=(zm 12 6
 (zm 13 0
 (zn 14 0 13
 (zb .lss 15 12 14
 .done))))
def zq11_4:AT:=(za 18 1 5
 (zl 19 1 18
 (zm 20 6
 (zc .rem 21 20 26
 (zr 22 (.bin .add (zi 97) (.t 21))
 (zr 23 (.conv .i32 (.t 22))
 (zr 24 (.same (.t 23))
 (zr 25 (.bin .add (.c (.str [102])) (.t 24))
 (zm 26 6
 (zc .quo 27 26 26
 (zr 28 (.bin .add (zi 97) (.t 27))
 (zr 29 (.conv .i32 (.t 28))
 (zr 30 (.same (.t 29))
 (zb .add 31 25 30
 (za 32 2 5
 (zl 33 1 32
 (zn 34 0 33
 (zr 35 (.bin .mul (zi 4) (.t 34))
 (zr 36 (.build [(.str []),(.int .i64 0)] [(0,1,(.t 31)),(1,1,(.t 35))])
 (.wr false (some 37) none (.bsl false true 130 2 [(.str []),(.int .i64 0)] 1 [(0,2,(.t 36))])
 (.wr false (some 38) none (.app 130 2 24 false (.t 19) (.t 37))
 (za 39 1 5
 (zs 1 39 38
 .done)))))))))))))))))))))))
def zq11_5:AT:=(zr 7 (.mov (zi 0))
 .done)
def zq11_6:AT:=(zm 40 7
 (zm 41 0
 (zm 42 6
 (zx 43 1 41 42
 (zl 44 1 43
 (zn 45 0 44
 (zb .lss 46 40 45
 .done)))))))
def zq11_7:AT:=(zm 50 0
 (zm 51 6
 (zx 52 1 50 51
 (zl 53 1 52
 (zm 54 7
 (zx 55 5 53 54
 (zr 56 (.load true 5 (.t 55))
 (zk 57 62 [.t 56]
 (zm 49 57
 (ze 58 49 0
 (ze 59 49 1
 (zm 8 58
 (zm 9 59
 .done)))))))))))))
def zq11_8:AT:=(zm 60 9
 (zc .eql 61 60 0
 .done))
def zq11_9:AT:=(za 62 2 5
 (zl 63 1 62
 (zm 64 8
 (.wr false (some 65) none (.bsl false false 131 1 [(.int .u32 0)] 1 [(0,1,(.t 64))])
 (.wr false (some 66) none (.app 131 1 4 false (.t 63) (.t 65))
 (za 67 2 5
 (zs 1 67 66
 .done)))))))
def QBC:AT:=(zm 47 7
 (zc .add 48 47 1
 (zm 7 48
 .done)))
def QBB:AT:=(zm 16 6
 (zc .add 17 16 1
 (zm 6 17
 .done)))
def QBA:AT:=(zr 68 (.load true 3 (.t 5))
 (zs 3 4 68
 .done))
def Zx:AF:=⟨69,[.cell 4 true 3],
 (zg zq11_0 []
 (zg zq11_1 [10,11]
 (.seq (zg zq11_2 []
 (.block 0 (.loop (.seq (zg zq11_3 [12,13,14]
 (zw 15
 .skip
 (.exit 0)))
 (.seq (.block 1 (zg zq11_4 [18,19,20,21,22,23,24,25,26,27,28,29,30,31,32,33,34,35,36,37,38,39]
 (zg zq11_5 []
 (.block 2 (.loop (.seq (zg zq11_6 [40,41,42,43,44,45]
 (zw 46
 .skip
 (.exit 2)))
 (.seq (.block 3 (zg zq11_7 [50,51,52,53,54,55,56,57,49,58,59]
 (zg zq11_8 [60]
 (zw 61
 (.reg zq11_9 [62,63,64,65,66,67])
 .skip))))
 (.reg QBC [47,48]))))))))
 (.reg QBB [16,17]))))))
 (zg QBA [68]
 .ret))))⟩
abbrev Qfr:Nat:=40
/- proofmark/relate.Fresh$1 -/
def Qy1:AT:=(.wr false (some 3) none (.box 64 (.t 0))
 (zr 4 (.mov (.c (.bool false)))
 .done))
def Qy0:AT:=(zr 5 (.load true 3 (.t 3))
 (zl 6 1 1
 (za 7 32 2
 (zl 8 1 7
 (zn 9 0 8
 (zk 10 42 [.t 5,.t 6,.t 9]
 (zr 11 (.un .not (.t 10))
 (zm 4 11
 .done))))))))
def Yv:AF:=⟨12,[.tmp 4],
 (zg Qy1 []
 (zg Qy0 [5,6,7,8,9,10,11]
 .ret))⟩
abbrev QcV:Nat:=41
/- proofmark/relate.there -/
def QfH:AT:=(.wr false (some 3) none (.box 64 (.t 0))
 (zr 6 (.mov (.c (.bool false)))
 .done))
def QfG:AT:=(za 7 0 3
 (zl 8 1 7
 (zr 9 (.bin .lss (.t 8) (.c (.int .i64 (-1))))
 (zm 10 9
 (zaf 11 10 0 3
 (zlf 12 10 1 11
 (zmf 13 10 1
 (zbf .geq 14 10 12 13
 (zp 15 10 14
 .done)))))))))
def QfF:AT:=(zr 6 (.mov (.c (.bool false)))
 .done)
def QfE:AT:=(za 16 1 3
 (za 17 0 16
 (zl 18 1 17
 .done)))
def QfD:AT:=(zr 20 (.bin .eql (.t 18) (zu 1))
 (zm 19 20
 .done))
def QfC:AT:=(za 21 1 3
 (za 22 1 21
 (zl 23 1 22
 (zk 24 63 [.t 23]
 (zm 6 24
 .done)))))
def QfB:AT:=(zr 26 (.bin .eql (.t 18) (zu 2))
 (zm 25 26
 .done))
def QfA:AT:=(za 27 1 3
 (za 28 1 27
 (zl 29 1 28
 (zc .geq 30 29 0
 (zm 31 30
 (zat 32 31 1 3
 (zat 33 31 1 32
 (zlt 34 31 1 33
 (zmt 35 31 2
 (zbt .lss 36 31 34 35
 (zq 37 31 36
 (zm 6 37
 .done))))))))))))
def Qfz:AT:=(za 38 1 3
 (za 39 0 38
 (zl 40 1 39
 (zr 41 (.bin .eql (.t 40) (zu 3))
 (zm 6 41
 .done)))))
def QW:AF:=⟨42,[.tmp 6],
 (zg QfH []
 (.seq (zg QfG [7,8,9,10,11,12,13,14]
 (zw 15
 (zg QfF []
 .ret)
 .skip))
 (.seq (zg QfE [16,17]
 (.block 0 (zg QfD [20]
 (zw 19
 (zg QfC [21,22,23,24]
 .ret)
 (zg QfB [26]
 (zw 25
 (zg QfA [27,28,29,30,31,32,33,34,35,36,37]
 .ret)
 .skip))))))
 (zg Qfz [38,39,40,41]
 .ret))))⟩
abbrev QfT:Nat:=42
/- (proofmark/relate.parts[proofmark/relate.end]).join -/
def Qto:AT:=(.wr false (some 3) none (.box 96 (.t 0))
 (.wr false (some 4) none (.box 100 (.t 1))
 (.wr false (some 5) none (.box 100 (.t 2))
 .done)))
def Qtn:AT:=(zr 8 (.load true 1 (.t 3))
 (zr 9 (.load true 3 (.t 4))
 (zr 11 (.load true 1 (.t 3))
 (zr 12 (.load true 3 (.t 5))
 (.alt (.cl true (some 10) none (.c (.fn (.func 44) [] [])) [(.t 8),(.t 9)]
 (.alt (zk 13 44 [.t 11,.t 12]
 (.alt (.wr true (some 6) none (.new 100 [(.int .i64 0),(.int .u8 0),(.int .i64 0)])
 (.wr true (some 7) none (.new 100 [(.int .i64 0),(.int .u8 0),(.int .i64 0)])
 (zs 3 6 10
 (zs 3 7 13
 .done)))) (.wr true (some 7) none (.new 100 [(.int .i64 0),(.int .u8 0),(.int .i64 0)])
 (.wr true (some 6) none (.new 100 [(.int .i64 0),(.int .u8 0),(.int .i64 0)])
 (zs 3 6 10
 (zs 3 7 13
 .done)))))) (.alt (.wr true (some 6) none (.new 100 [(.int .i64 0),(.int .u8 0),(.int .i64 0)])
 (.alt (zk 13 44 [.t 11,.t 12]
 (.wr true (some 7) none (.new 100 [(.int .i64 0),(.int .u8 0),(.int .i64 0)])
 (zs 3 6 10
 (zs 3 7 13
 .done)))) (.wr true (some 7) none (.new 100 [(.int .i64 0),(.int .u8 0),(.int .i64 0)])
 (zk 13 44 [.t 11,.t 12]
 (zs 3 6 10
 (zs 3 7 13
 .done)))))) (.wr true (some 7) none (.new 100 [(.int .i64 0),(.int .u8 0),(.int .i64 0)])
 (.alt (zk 13 44 [.t 11,.t 12]
 (.wr true (some 6) none (.new 100 [(.int .i64 0),(.int .u8 0),(.int .i64 0)])
 (zs 3 6 10
 (zs 3 7 13
 .done)))) (.wr true (some 6) none (.new 100 [(.int .i64 0),(.int .u8 0),(.int .i64 0)])
 (zk 13 44 [.t 11,.t 12]
 (zs 3 6 10
 (zs 3 7 13
 .done))))))))) (.alt (.wr true (some 6) none (.new 100 [(.int .i64 0),(.int .u8 0),(.int .i64 0)])
 (.alt (.cl true (some 10) none (.c (.fn (.func 44) [] [])) [(.t 8),(.t 9)]
 (.alt (zk 13 44 [.t 11,.t 12]
 (.wr true (some 7) none (.new 100 [(.int .i64 0),(.int .u8 0),(.int .i64 0)])
 (zs 3 6 10
 (zs 3 7 13
 .done)))) (.wr true (some 7) none (.new 100 [(.int .i64 0),(.int .u8 0),(.int .i64 0)])
 (zk 13 44 [.t 11,.t 12]
 (zs 3 6 10
 (zs 3 7 13
 .done)))))) (.wr true (some 7) none (.new 100 [(.int .i64 0),(.int .u8 0),(.int .i64 0)])
 (.cl true (some 10) none (.c (.fn (.func 44) [] [])) [(.t 8),(.t 9)]
 (zk 13 44 [.t 11,.t 12]
 (zs 3 6 10
 (zs 3 7 13
 .done))))))) (.wr true (some 7) none (.new 100 [(.int .i64 0),(.int .u8 0),(.int .i64 0)])
 (.alt (.cl true (some 10) none (.c (.fn (.func 44) [] [])) [(.t 8),(.t 9)]
 (.alt (zk 13 44 [.t 11,.t 12]
 (.wr true (some 6) none (.new 100 [(.int .i64 0),(.int .u8 0),(.int .i64 0)])
 (zs 3 6 10
 (zs 3 7 13
 .done)))) (.wr true (some 6) none (.new 100 [(.int .i64 0),(.int .u8 0),(.int .i64 0)])
 (zk 13 44 [.t 11,.t 12]
 (zs 3 6 10
 (zs 3 7 13
 .done)))))) (.wr true (some 6) none (.new 100 [(.int .i64 0),(.int .u8 0),(.int .i64 0)])
 (.cl true (some 10) none (.c (.fn (.func 44) [] [])) [(.t 8),(.t 9)]
 (zk 13 44 [.t 11,.t 12]
 (zs 3 6 10
 (zs 3 7 13
 .done)))))))))))))
def Qtm:AT:=(zr 14 (.load true 3 (.t 6))
 (zr 15 (.load true 3 (.t 7))
 (zr 16 (.eqs true [.i,.i,.i] (.t 14) (.t 15))
 .done)))
def Qtl:AT:=(za 17 0 3
 (zl 18 1 17
 (zr 19 (.load true 3 (.t 6))
 (zr 20 (.load true 3 (.t 7))
 (.wr false none none (.mapup true [.i,.i,.i] (.t 18) (.t 19) (.t 20))
 .done)))))
def Qv:AF:=⟨21,[],
 (zg Qto []
 (zg Qtn [8,9,10,11,12,13]
 (zg Qtm [14,15]
 (zw 16
 (.reg Qtl [17,18,19,20])
 .skip))))⟩
abbrev XP:Nat:=43
/- (proofmark/relate.parts[proofmark/relate.end]).root -/
def QyZ:AT:=(.wr false (some 2) none (.box 96 (.t 0))
 (.wr false (some 3) none (.box 100 (.t 1))
 (.wr false (some 4) none (.new 100 [(.int .i64 0),(.int .u8 0),(.int .i64 0)])
 .done)))
def QyY:AT:=(za 8 0 2
 (zl 9 1 8
 (zr 10 (.load true 3 (.t 3))
 (zr 11 (.look true true [.i,.i,.i] (.agg [(.int .i64 0),(.int .u8 0),(.int .i64 0)]) (.t 9) (.t 10))
 (zm 7 11
 (ze 12 7 0
 (ze 13 7 1
 (.wr false (some 5) none (.new 100 [(.int .i64 0),(.int .u8 0),(.int .i64 0)])
 (zs 3 5 12
 (zm 6 13
 .done))))))))))
def QyX:AT:=(zm 14 6
 (zr 15 (.un .not (.t 14))
 .done))
def QyW:AT:=(zr 16 (.load true 3 (.t 3))
 (zs 3 4 16
 .done))
def QyV:AT:=(zr 17 (.load true 3 (.t 5))
 (zs 3 3 17
 .done))
def QE:AF:=⟨18,[.cell 4 true 3],
 (zg QyZ []
 (.block 0 (.loop (.block 1 (zg QyY [8,9,10,11,7,12,13]
 (.seq (zg QyX [14]
 (zw 15
 (zg QyW [16]
 .ret)
 .skip))
 (.reg QyV [17])))))))⟩
abbrev XO:Nat:=44
/- proofmark/relate.Fresh$2 -/
def QyU:AT:=(.wr false (some 5) none (.box 100 (.t 0))
 (zr 6 (.mov (zi 0))
 .done))
def QyT:AT:=(zr 10 (.load true 1 (.t 1))
 (zr 11 (.load true 3 (.t 5))
 (zk 12 44 [.t 10,.t 11]
 (.wr false (some 7) none (.new 100 [(.int .i64 0),(.int .u8 0),(.int .i64 0)])
 (zs 3 7 12
 .done)))))
def QyS:AT:=(zl 14 1 2
 (zr 15 (.load true 3 (.t 7))
 (zr 16 (.look true true [.i,.i,.i] (.int .i64 0) (.t 14) (.t 15))
 (zm 13 16
 (ze 17 13 0
 (ze 18 13 1
 (zm 8 17
 (zm 9 18
 .done))))))))
def QyR:AT:=(zm 19 9
 (zr 20 (.un .not (.t 19))
 .done))
def QyQ:AT:=(zl 23 1 3
 (zl 24 1 4
 (.alt (zl 21 1 2
 (.alt (zr 22 (.load true 3 (.t 7))
 (zk 25 25 [.t 23,.t 24]
 (.wr false none none (.mapup true [.i,.i,.i] (.t 21) (.t 22) (.t 25))
 .done))) (zk 25 25 [.t 23,.t 24]
 (zr 22 (.load true 3 (.t 7))
 (.wr false none none (.mapup true [.i,.i,.i] (.t 21) (.t 22) (.t 25))
 .done))))) (.alt (zr 22 (.load true 3 (.t 7))
 (.alt (zl 21 1 2
 (zk 25 25 [.t 23,.t 24]
 (.wr false none none (.mapup true [.i,.i,.i] (.t 21) (.t 22) (.t 25))
 .done))) (zk 25 25 [.t 23,.t 24]
 (zl 21 1 2
 (.wr false none none (.mapup true [.i,.i,.i] (.t 21) (.t 22) (.t 25))
 .done))))) (zk 25 25 [.t 23,.t 24]
 (.alt (zl 21 1 2
 (zr 22 (.load true 3 (.t 7))
 (.wr false none none (.mapup true [.i,.i,.i] (.t 21) (.t 22) (.t 25))
 .done))) (zr 22 (.load true 3 (.t 7))
 (zl 21 1 2
 (.wr false none none (.mapup true [.i,.i,.i] (.t 21) (.t 22) (.t 25))
 .done)))))))))
def QyP:AT:=(zl 26 1 4
 (zc .add 27 26 1
 (zs 1 4 27
 .done)))
def QyO:AT:=(zl 28 1 2
 (zr 29 (.load true 3 (.t 7))
 (zr 30 (.look false true [.i,.i,.i] (.int .i64 0) (.t 28) (.t 29))
 (zm 6 30
 .done))))
def Yu:AF:=⟨31,[.tmp 6],
 (zg QyU []
 (zg QyT [10,11,12]
 (.seq (zg QyS [14,15,16,13,17,18,8]
 (zg QyR [19]
 (zw 20
 (zg QyQ [21,22,23,24,25]
 (.reg QyP [26,27]))
 .skip)))
 (zg QyO [28,29,30]
 .ret))))⟩
abbrev Z0:Nat:=45
/- (*proofmark/term.Graph).Add -/
def QyN:AT:=(.wr false (some 3) none (.box 108 (.t 1))
 (zr 4 (.mov (zi 0))
 .done))
def QyM:AT:=(zm 12 0
 (zr 13 (.eqp false (.t 12) (.c (.val (.pointer none))))
 (zm 14 13
 (zmf 15 14 0
 (zf 16 14 (.load true 6 (.t 3))
 (.cl false (some 17) (some (14,false)) (.c (.fn (.func 64) [] [])) [(.t 15),(.t 16)]
 (zf 18 14 (.un .not (.t 17))
 (zp 19 14 18
 .done))))))))
def QyL:AT:=(zr 4 (.mov (.c (.int .i64 (-1))))
 .done)
def QyK:AT:=(zm 21 0
 (zr 22 (.nilc (.t 21))
 (za 23 1 22
 (zl 24 1 23
 (zr 25 (.load true 6 (.t 3))
 (zr 26 (.look true true [.i,.i,.i,.i,.i,.i] (.int .i64 0) (.t 24) (.t 25))
 (zm 20 26
 (ze 27 20 0
 (ze 28 20 1
 (zm 5 27
 (zm 6 28
 .done)))))))))))
def QyJ:AT:=(zm 29 6
 .done)
def QyI:AT:=(zm 30 5
 (zm 4 30
 .done))
def QyH:AT:=(zm 31 0
 (zr 32 (.nilc (.t 31))
 (za 33 0 32
 (zl 34 1 33
 (zn 35 0 34
 (zm 7 35
 .done))))))
def QyG:AT:=(zr 36 (.load true 6 (.t 3))
 (zk 37 65 [.t 36,(.c (.str [])),(.c (.str []))]
 (zn 38 1 37
 (zr 8 (.mov (zi 0))
 (zm 9 38
 .done)))))
def QyF:AT:=(zr 39 (.load true 6 (.t 3))
 (zk 40 66 [.t 39]
 (zn 41 0 40
 (zr 42 (.mov (zi 0))
 .done))))
def QyE:AT:=(zb .lss 43 42 41
 .done)
def Qtk:AT:=(zx 44 1 40 42
 (zl 45 1 44
 (zm 11 45
 .done)))
def Qtj:AT:=(zm 46 8
 (zm 47 0
 (zr 48 (.nilc (.t 47))
 (za 49 2 48
 (zl 50 1 49
 (zm 51 11
 (zx 52 1 50 51
 (zl 53 1 52
 (zr 54 (.maxi (.t 46) (.t 53))
 (zm 55 9
 (zm 56 0
 (zr 57 (.nilc (.t 56))
 (za 58 3 57
 (zl 59 1 58
 (zm 60 11
 (zx 61 1 59 60
 (zl 62 1 61
 (zb .add 63 55 62
 (zm 8 54
 (zm 9 63
 .done))))))))))))))))))))
def Qti:AT:=(zc .add 64 42 1
 (zm 42 64
 .done))
def Qth:AT:=(zm 65 0
 (zm 66 0
 (zr 67 (.nilc (.t 66))
 (za 68 1 67
 (zl 69 1 68
 (zm 71 0
 (zr 72 (.nilc (.t 71))
 (za 73 0 72
 (zl 74 1 73
 (zr 75 (.load true 6 (.t 3))
 (zm 78 7
 (.alt (zr 70 (.load true 6 (.t 3))
 (.wr true (some 76) none (.bsl false true 108 6 [(.int .u8 0),(.int .i64 0),(.int .i64 0),(.int .u8 0),(.int .i64 0),(.int .i64 0)] 1 [(0,6,(.t 75))])
 (.wr true (some 77) none (.app 108 6 48 false (.t 74) (.t 76))
 (zr 79 (.nilc (.t 65))
 (za 80 0 79
 (zs 1 80 77
 (.wr false (some 81) none (.ment true [.i,.i,.i,.i,.i,.i] (.int .i64 0) (.t 69) (.t 70))
 (ze 82 81 1
 (.wr false none none (.mst (.t 69) (.t 82) (.t 78))
 .done))))))))) (.wr true (some 76) none (.bsl false true 108 6 [(.int .u8 0),(.int .i64 0),(.int .i64 0),(.int .u8 0),(.int .i64 0),(.int .i64 0)] 1 [(0,6,(.t 75))])
 (.alt (zr 70 (.load true 6 (.t 3))
 (.wr true (some 77) none (.app 108 6 48 false (.t 74) (.t 76))
 (zr 79 (.nilc (.t 65))
 (za 80 0 79
 (zs 1 80 77
 (.wr false (some 81) none (.ment true [.i,.i,.i,.i,.i,.i] (.int .i64 0) (.t 69) (.t 70))
 (ze 82 81 1
 (.wr false none none (.mst (.t 69) (.t 82) (.t 78))
 .done)))))))) (.wr true (some 77) none (.app 108 6 48 false (.t 74) (.t 76))
 (zr 79 (.nilc (.t 65))
 (za 80 0 79
 (.alt (zr 70 (.load true 6 (.t 3))
 (zs 1 80 77
 (.wr false (some 81) none (.ment true [.i,.i,.i,.i,.i,.i] (.int .i64 0) (.t 69) (.t 70))
 (ze 82 81 1
 (.wr false none none (.mst (.t 69) (.t 82) (.t 78))
 .done))))) (zs 1 80 77
 (zr 70 (.load true 6 (.t 3))
 (.wr false (some 81) none (.ment true [.i,.i,.i,.i,.i,.i] (.int .i64 0) (.t 69) (.t 70))
 (ze 82 81 1
 (.wr false none none (.mst (.t 69) (.t 82) (.t 78))
 .done)))))))))))))))))))))))
def Qtg:AT:=(zm 83 0
 (zm 84 0
 (zm 85 0
 (zr 86 (.nilc (.t 85))
 (za 87 2 86
 (zl 88 1 87
 (zm 89 8
 (zc .add 90 89 1
 (zm 93 0
 (zr 94 (.nilc (.t 93))
 (za 95 3 94
 (zl 96 1 95
 (zm 97 9
 (zr 98 (.mini (.t 97) (zi 65537))
 (.alt (.wr true (some 91) none (.bsl false false 3 1 [(.int .i64 0)] 1 [(0,1,(.t 90))])
 (.alt (.wr true (some 92) none (.app 3 1 8 false (.t 88) (.t 91))
 (.wr true (some 99) none (.bsl false false 3 1 [(.int .i64 0)] 1 [(0,1,(.t 98))])
 (.wr false (some 100) none (.app 3 1 8 false (.t 96) (.t 99))
 (zr 101 (.nilc (.t 83))
 (za 102 2 101
 (zs 1 102 92
 (zr 103 (.nilc (.t 84))
 (za 104 3 103
 (zs 1 104 100
 .done))))))))) (.wr true (some 99) none (.bsl false false 3 1 [(.int .i64 0)] 1 [(0,1,(.t 98))])
 (.wr true (some 92) none (.app 3 1 8 false (.t 88) (.t 91))
 (.wr false (some 100) none (.app 3 1 8 false (.t 96) (.t 99))
 (zr 101 (.nilc (.t 83))
 (za 102 2 101
 (zs 1 102 92
 (zr 103 (.nilc (.t 84))
 (za 104 3 103
 (zs 1 104 100
 .done))))))))))) (.wr true (some 99) none (.bsl false false 3 1 [(.int .i64 0)] 1 [(0,1,(.t 98))])
 (.wr true (some 91) none (.bsl false false 3 1 [(.int .i64 0)] 1 [(0,1,(.t 90))])
 (.wr true (some 92) none (.app 3 1 8 false (.t 88) (.t 91))
 (.wr false (some 100) none (.app 3 1 8 false (.t 96) (.t 99))
 (zr 101 (.nilc (.t 83))
 (za 102 2 101
 (zs 1 102 92
 (zr 103 (.nilc (.t 84))
 (za 104 3 103
 (zs 1 104 100
 .done)))))))))))))))))))))))))
def Qtf:AT:=(zm 105 7
 (zm 4 105
 .done))
def YW:AF:=⟨106,[.tmp 4],
 (zg QyN []
 (.seq (zg QyM [12,13,14,15,16,17,18]
 (zw 19
 (zg QyL []
 .ret)
 .skip))
 (.seq (zg QyK [21,22,23,24,25,26,20,27,28]
 (zg QyJ []
 (zw 29
 (zg QyI [30]
 .ret)
 .skip)))
 (zg QyH [31,32,33,34,35]
 (zg QyG [36,37,38]
 (.seq (zg QyF [39]
 (.block 0 (.loop (zg QyE []
 (.seq (zw 43
 .skip
 (.exit 0))
 (.seq (.block 1 (zg Qtk [44,45]
 (.reg Qtj [46,47,48,49,50,51,52,53,54,55,56,57,58,59,60,61,62,63])))
 (.reg Qti [64])))))))
 (zg Qth [65,66,67,68,69,70,71,72,73,74,75,76,77,78,79,80,81,82]
 (zg Qtg [83,84,85,86,87,88,89,90,91,92,93,94,95,96,97,98,99,100,101,102,103,104]
 (zg Qtf [105]
 .ret)))))))))⟩
abbrev QaE:Nat:=46
abbrev Qn5:Nat:=47
abbrev QrV:Nat:=48
abbrev Qm2:Nat:=49
/- proofmark/lift.Begin$1 -/
def QyD:AT:=(zr 2 (.mov (zi 0))
 .done)
def QyC:AT:=(zl 3 1 0
 (zc .add 4 3 1
 (zs 1 0 4
 .done)))
def QyB:AT:=(zl 5 1 1
 (zl 6 1 0
 (zc .sub 7 6 1
 (zk 8 25 [.t 5,.t 7]
 (zm 2 8
 .done)))))
def Zz:AF:=⟨9,[.tmp 2],
 (zg QyD []
 (zg QyC [3,4]
 (zg QyB [5,6,7,8]
 .ret)))⟩
abbrev QeI:Nat:=50
abbrev Qub:Nat:=51
abbrev Qv9:Nat:=52
abbrev Qf5:Nat:=53
/- math/bits.Len -/
def zq1f_0:AT:=(zr 2 (.mov (zi 0))
 .done)
def zq1f_1:AT:=(zm 3 0
 (zr 4 (.conv .u32 (.t 3))
 (zk 5 77 [.t 4]
 (zm 2 5
 .done))))
def zq1f_2:AT:=(zm 6 0
 (zk 7 78 [.t 6]
 (zm 2 7
 .done)))
def Qdp:AF:=⟨8,[.tmp 2],
 (zg zq1f_0 []
 (.seq (.cond (.c (.bool false))
 (zg zq1f_1 [3,4,5]
 .ret)
 .skip)
 (zg zq1f_2 [6,7]
 .ret)))⟩
abbrev Qkr:Nat:=54
abbrev Qzf:Nat:=55
abbrev QrZ:Nat:=56
abbrev QpO:Nat:=57
abbrev QpP:Nat:=58
/- slices.IndexFunc[[]proofmark/relate.Pair,proofmark/relate.Pair] -/
def Qte:AT:=(zr 4 (.mov (zi 0))
 .done)
def Qtd:AT:=(zm 6 0
 (zn 7 0 6
 (zr 8 (.mov (zi 0))
 .done)))
def Qtc:AT:=(zb .lss 9 8 7
 .done)
def Qtb:AT:=(zm 10 8
 (zm 5 10
 .done))
def Qta:AT:=(zm 11 1
 (zm 12 0
 (zm 13 5
 (zx 14 3 12 13
 (zr 15 (.load true 3 (.t 14))
 (.cl false (some 16) none (.t 11) [(.t 15)]
 .done))))))
def Qs9:AT:=(zm 17 5
 (zm 4 17
 .done))
def Qs8:AT:=(zc .add 18 8 1
 (zm 8 18
 .done))
def Qs7:AT:=(zr 4 (.mov (.c (.int .i64 (-1))))
 .done)
def Qi:AF:=⟨19,[.tmp 4],
 (zg Qte []
 (.seq (zg Qtd [6]
 (.block 0 (.loop (zg Qtc []
 (.seq (zw 9
 .skip
 (.exit 0))
 (.seq (.block 1 (zg Qtb [10]
 (zg Qta [11,12,13,14,15]
 (zw 16
 (zg Qs9 [17]
 .ret)
 .skip))))
 (.reg Qs8 [18])))))))
 (zg Qs7 []
 .ret)))⟩
abbrev QB:Nat:=59
/- proofmark/image.Right -/
def zq1l_0:AT:=(.wr false (some 1) none (.box 88 (.t 0))
 (zr 2 (.mov (.c (.bool false)))
 .done))
def zq1l_1:AT:=(.wr false (some 7) none .mkmap
 (.wr false (some 3) none (.new 154 [(.val (.map none))])
 (zs 1 3 7
 .done)))
def zq1l_2:AT:=(.wr false (some 4) none (.new 3 [(.int .i64 0)])
 (.wr false none none (.store 1 (.t 4) (.c (.int .i64 (-1))))
 .done))
def zq1l_3:AT:=(zr 8 (.mkfn (.func 82) [] [(.t 3),(.t 4),(.t 1)])
 (.wr false (some 5) none (.new 155 [(.val .nilFunc)])
 (zs 1 5 8
 .done)))
def zq1l_4:AT:=(zr 9 (.mkfn (.func 83) [] [(.t 1)])
 (zr 10 (.mkfn (.func 84) [] [(.t 1)])
 (zr 11 (.mkfn (.func 85) [] [(.t 1)])
 (zr 12 (.mkfn (.func 86) [] [(.t 1),(.t 5)])
 (.wr false (some 13) none (.bsl true false 23 1 [(.val .nilFunc)] 4 [(0,1,(.t 9)),(1,1,(.t 10)),(2,1,(.t 11)),(3,1,(.t 12))])
 (zm 6 13
 .done))))))
def zq1l_5:AT:=(zm 14 6
 (zk 15 88 [.t 14,(.c (.fn (.func 89) [] []))]
 (zr 16 (.un .not (.t 15))
 (zm 2 16
 .done))))
def Qgg:AF:=⟨17,[.tmp 2],
 (zg zq1l_0 []
 (zg zq1l_1 [7]
 (zg zq1l_2 []
 (zg zq1l_3 [8]
 (zg zq1l_4 [9,10,11,12,13]
 (zg zq1l_5 [14,15,16]
 .ret))))))⟩
abbrev Qm4:Nat:=60
/- proofmark/regions.read -/
def zq1m_0:AT:=(.wr false (some 2) none (.box 88 (.t 0))
 (.wr false (some 4) none (.new 39 [(.str []),(.int .i64 0),(.lst 0 [] true),(.int .i64 0),(.lst 0 [] true)])
 (.wr false (some 5) none (.new 82 [(.int .i64 0),(.int .i64 0),(.int .i64 0)])
 .done)))
def zq1m_1:AT:=(zr 17 (.load true 3 (.t 2))
 (zm 18 1
 (zk 19 90 [.t 17,.t 18]
 (zm 16 19
 (ze 20 16 0
 (ze 21 16 1
 (zm 6 20
 (zm 7 21
 .done))))))))
def zq1m_2:AT:=(zr 22 (.load true 3 (.t 2))
 (za 23 1 2
 (zl 24 1 23
 (zm 25 1
 (zx 26 2 24 25
 (za 27 0 26
 (zl 28 1 27
 (zm 29 6
 (zr 30 (.build [(.str []),(.int .i64 0),(.lst 0 [] true),(.int .i64 0),(.lst 0 [] true)] [(0,1,(.t 28)),(1,1,(.t 29))])
 (zr 31 (.build [(.int .i64 0),(.lst 0 [] true),(.lst 0 [] true),(.str []),(.int .i64 0),(.lst 0 [] true),(.int .i64 0),(.lst 0 [] true)] [(0,3,(.t 22)),(3,5,(.t 30))])
 (.wr false (some 32) none (.box 164 (.t 31))
 (zm 8 32
 .done))))))))))))
def zq1m_3:AT:=(.wr false (some 33) none .mkmap
 (zm 9 33
 .done))
def zq1m_4:AT:=(za 34 2 2
 (zl 35 1 34
 (zm 36 6
 (zc .quo 37 36 4
 (zm 38 7
 (zc .quo 39 38 4
 (zr 40 (.slc 1 (.t 35) (some (.t 37)) (some (.t 39)) none)
 (zn 41 0 40
 (zr 42 (.mov (zi 0))
 .done)))))))))
def zq1m_5:AT:=(zb .lss 43 42 41
 .done)
def zq1m_6:AT:=(zm 44 42
 (zx 45 1 40 42
 (zl 46 1 45
 (zm 10 44
 (zm 11 46
 .done)))))
def zq1m_7:AT:=(zm 48 11
 (zk 49 91 [.t 48]
 (zm 47 49
 (ze 50 47 0
 (ze 51 47 1
 (.wr false (some 12) none (.new 77 [(.int .u8 0),(.int .u8 0),(.int .u8 0),(.int .u8 0),(.int .i64 0)])
 (zs 5 12 50
 (zm 13 51
 .done))))))))
def zq1m_8:AT:=(zm 52 13
 (zc .neq 53 52 0
 .done))
def zq1m_9:AT:=(zm 54 9
 (zm 55 10
 (zr 56 (.build [(.int .u8 0),(.int .u8 0),(.int .u8 0),(.int .u8 0),(.int .i64 0)] [])
 (zs 5 12 56
 (.wr false none none (.mapup false [.i] (.t 54) (.t 55) (zi 1))
 .done)))))
def QBz:AT:=(zm 57 8
 (zm 58 8
 (zr 59 (.nilc (.t 58))
 (za 60 3 59
 (za 61 2 60
 (zl 62 1 61
 (zr 63 (.load true 5 (.t 12))
 (.wr true (some 64) none (.bsl false true 77 5 [(.int .u8 0),(.int .u8 0),(.int .u8 0),(.int .u8 0),(.int .i64 0)] 1 [(0,5,(.t 63))])
 (.wr false (some 65) none (.app 77 5 16 false (.t 62) (.t 64))
 (zr 66 (.nilc (.t 57))
 (za 67 3 66
 (za 68 2 67
 (zs 1 68 65
 .done)))))))))))))
def QBy:AT:=(zc .add 69 42 1
 (zm 42 69
 .done))
def QBx:AT:=(zm 70 8
 (zm 71 8
 (zr 72 (.nilc (.t 71))
 (za 73 3 72
 (za 74 2 73
 (zl 75 1 74
 (zr 76 (.iaddr none 5 (.t 75) (zi 0))
 (zr 77 (.load true 5 (.t 76))
 (zk 78 92 [.t 77]
 (zr 79 (.nilc (.t 70))
 (za 80 3 79
 (za 81 3 80
 (zs 1 81 78
 .done)))))))))))))
def QBw:AT:=(zm 82 8
 (zr 83 (.nilc (.t 82))
 (za 84 3 83
 (za 85 2 84
 (zl 86 1 85
 (zn 87 0 86
 (zr 88 (.mov (zi 0))
 .done)))))))
def QBv:AT:=(zb .lss 89 88 87
 .done)
def QBu:AT:=(zm 90 88
 (zm 14 90
 .done))
def QBt:AT:=(zm 91 9
 (zm 92 14
 (zr 93 (.look false false [.i] (.int .i64 0) (.t 91) (.t 92))
 (zc .gtr 94 93 0
 .done))))
def QBs:AT:=(zr 95 (.build [(.str []),(.int .i64 0),(.lst 0 [] true),(.int .i64 0),(.lst 0 [] true)] [])
 (zm 96 1
 (zm 97 14
 (zr 98 (.build [(.int .i64 0),(.int .i64 0),(.int .i64 0)] [(0,1,(.t 96)),(1,1,(.t 97)),(2,1,(zi 220))])
 (zs 5 4 95
 (zs 3 5 98
 .done))))))
def QBr:AT:=(zm 99 8
 (zm 100 14
 (zk 101 93 [.t 99,.t 100]
 (zm 15 101
 .done))))
def QBq:AT:=(zm 102 15
 (zc .neq 103 102 0
 .done))
def QBp:AT:=(zr 104 (.build [(.str []),(.int .i64 0),(.lst 0 [] true),(.int .i64 0),(.lst 0 [] true)] [])
 (zm 105 1
 (zm 106 14
 (zm 107 15
 (zr 108 (.build [(.int .i64 0),(.int .i64 0),(.int .i64 0)] [(0,1,(.t 105)),(1,1,(.t 106)),(2,1,(.t 107))])
 (zs 5 4 104
 (zs 3 5 108
 .done)))))))
def QBo:AT:=(zc .add 109 88 1
 (zm 88 109
 .done))
def QBn:AT:=(zm 110 8
 (zm 111 8
 (zr 112 (.nilc (.t 111))
 (za 113 3 112
 (zr 114 (.load true 5 (.t 113))
 (zk 115 94 [.t 114]
 (zr 116 (.nilc (.t 110))
 (za 117 3 116
 (za 118 4 117
 (zs 1 118 115
 .done))))))))))
def QBm:AT:=(zm 119 8
 (zr 120 (.nilc (.t 119))
 (za 121 3 120
 (zr 122 (.load true 5 (.t 121))
 (zr 123 (.build [(.int .i64 0),(.int .i64 0),(.int .i64 0)] [])
 (zs 5 4 122
 (zs 3 5 123
 .done)))))))
def Qex:AF:=⟨124,[.cell 4 true 5,.cell 5 true 3],
 (zg zq1m_0 []
 (zg zq1m_1 [17,18,19,16,20,21]
 (zg zq1m_2 [22,23,24,25,26,27,28,29,30,31,32]
 (zg zq1m_3 [33]
 (.seq (zg zq1m_4 [34,35,36,37,38,39]
 (.block 0 (.loop (zg zq1m_5 []
 (.seq (zw 43
 .skip
 (.exit 0))
 (.seq (.block 1 (zg zq1m_6 [44,45,46]
 (zg zq1m_7 [48,49,47,50,51]
 (.seq (zg zq1m_8 [52]
 (zw 53
 (.reg zq1m_9 [54,55,56])
 .skip))
 (.reg QBz [57,58,59,60,61,62,63,64,65,66,67,68])))))
 (.reg QBy [69])))))))
 (zg QBx [70,71,72,73,74,75,76,77,78,79,80,81]
 (.seq (zg QBw [82,83,84,85,86]
 (.block 2 (.loop (zg QBv []
 (.seq (zw 89
 .skip
 (.exit 2))
 (.seq (.block 3 (zg QBu [90]
 (.seq (zg QBt [91,92,93]
 (zw 94
 (zg QBs [95,96,97,98]
 .ret)
 .skip))
 (zg QBr [99,100,101]
 (zg QBq [102]
 (zw 103
 (zg QBp [104,105,106,107,108]
 .ret)
 .skip))))))
 (.reg QBo [109])))))))
 (zg QBn [110,111,112,113,114,115,116,117,118]
 (zg QBm [119,120,121,122,123]
 .ret)))))))))⟩
abbrev QlC:Nat:=61
/- proofmark/rv.Encode -/
def Qs6:AT:=(.wr false (some 1) none (.box 77 (.t 0))
 (zr 2 (.mov (.c (.int .u32 0)))
 (zr 3 (.mov (zi 0))
 .done)))
def Qs5:AT:=(za 8 0 1
 (zl 9 1 8
 (zk 10 95 [.t 9]
 (zm 7 10
 (ze 11 7 0
 (ze 12 7 1
 (.wr false (some 4) none (.new 175 [(.bool false),(.bool false),(.bool false),(.lst 0 [] true),(.int .i64 0),(.bool false),(.int .u32 0),(.str []),(.int .u32 0)])
 (zs 9 4 11
 (zm 5 12
 .done)))))))))
def Qs4:AT:=(zr 6 (.mov (.c (.fn (.func 96) [] [])))
 .done)
def Qs3:AT:=(zm 13 5
 (zr 14 (.un .not (.t 13))
 (zm 15 14
 (zmf 16 15 6
 (zaf 17 15 0 4
 (zaf 18 15 0 17
 (zlf 19 15 1 18
 (zaf 20 15 1 1
 (zlf 21 15 1 20
 (.cl false (some 22) (some (15,false)) (.t 16) [(.t 19),(.t 21)]
 (zf 23 15 (.un .not (.t 22))
 (zp 24 15 23
 (zm 25 24
 (zmf 26 25 6
 (zaf 27 25 0 4
 (zaf 28 25 1 27
 (zlf 29 25 1 28
 (zaf 30 25 2 1
 (zlf 31 25 1 30
 (.cl false (some 32) (some (25,false)) (.t 26) [(.t 29),(.t 31)]
 (zf 33 25 (.un .not (.t 32))
 (zp 34 25 33
 (zm 35 34
 (zmf 36 35 6
 (zaf 37 35 0 4
 (zaf 38 35 2 37
 (zlf 39 35 1 38
 (zaf 40 35 3 1
 (zlf 41 35 1 40
 (.cl false (some 42) (some (35,false)) (.t 36) [(.t 39),(.t 41)]
 (zf 43 35 (.un .not (.t 42))
 (zp 44 35 43
 (zm 45 44
 (zaf 46 45 0 4
 (zaf 47 45 3 46
 (zlf 48 45 1 47
 (znf 49 45 0 48
 (zcf .eql 50 45 49 0
 (zmf 51 45 50
 (zat 52 51 4 1
 (zlt 53 51 1 52
 (zct .neq 54 51 53 0
 (zqf 55 45 51 54
 (zp 56 45 55
 .done))))))))))))))))))))))))))))))))))))))))))))
def Qs2:AT:=(zr 2 (.mov (.c (.int .u32 0)))
 (zr 3 (.mov (zi 100))
 .done))
def Qs1:AT:=(za 57 0 4
 (zr 58 (.load true 7 (.t 57))
 (za 59 4 1
 (zl 60 1 59
 (zk 61 97 [.t 58,.t 60]
 (zr 62 (.un .not (.t 61))
 .done))))))
def Qs0:AT:=(zr 2 (.mov (.c (.int .u32 0)))
 (zr 3 (.mov (zi 101))
 .done))
def QsZ:AT:=(za 63 8 4
 (zl 64 1 63
 (za 65 1 1
 (zl 66 1 65
 (zr 67 (.conv .u32 (.t 66))
 (zr 68 (.faddr 0 (.g 0))
 (zl 69 1 68
 (zb .shl 70 67 69
 (za 71 2 1
 (zl 72 1 71
 (zr 73 (.conv .u32 (.t 72))
 (zr 74 (.faddr 0 (.g 1))
 (zl 75 1 74
 (zb .shl 76 73 75
 (za 77 3 1
 (zl 78 1 77
 (zr 79 (.conv .u32 (.t 78))
 (zr 80 (.faddr 0 (.g 2))
 (zl 81 1 80
 (zb .shl 82 79 81
 (za 83 0 4
 (zr 84 (.load true 7 (.t 83))
 (za 85 4 1
 (zl 86 1 85
 (.cl true (some 87) none (.c (.fn (.func 99) [] [])) [(.t 84),(.t 86)]
 (.wr false (some 88) none (.bsl false false 131 1 [(.int .u32 0)] 5 [(0,1,(.t 64)),(1,1,(.t 70)),(2,1,(.t 76)),(3,1,(.t 82)),(4,1,(.t 87))])
 (zk 89 98 [.t 88]
 (zm 2 89
 (zr 3 (.mov (zi 0))
 .done)))))))))))))))))))))))))))))
def Qbd:AF:=⟨90,[.tmp 2,.tmp 3],
 (zg Qs6 []
 (zg Qs5 [8,9,10,7,11,12]
 (zg Qs4 []
 (.seq (zg Qs3 [13,14,15,16,17,18,19,20,21,22,23,24,25,26,27,28,29,30,31,32,33,34,35,36,37,38,39,40,41,42,43,44,45,46,47,48,49,50,51,52,53,54,55]
 (zw 56
 (zg Qs2 []
 .ret)
 .skip))
 (.seq (zg Qs1 [57,58,59,60,61]
 (zw 62
 (zg Qs0 []
 .ret)
 .skip))
 (zg QsZ [63,64,65,66,67,68,69,70,71,72,73,74,75,76,77,78,79,80,81,82,83,84,85,86,87,88,89]
 .ret))))))⟩
abbrev Qf7:Nat:=62
/- proofmark/relate.reg -/
def QgE:AT:=(zr 2 (.mov (.c (.bool false)))
 .done)
def QgD:AT:=(zm 3 0
 (zc .geq 4 3 1
 (zm 5 4
 (zmt 6 5 0
 (zct .leq 7 5 6 31
 (zq 8 5 7
 (zm 9 8
 (zmt 10 9 0
 (zct .neq 11 9 10 2
 (zq 12 9 11
 (zm 2 12
 .done)))))))))))
def Xo:AF:=⟨13,[.tmp 2],
 (zg QgE []
 (zg QgD [3,4,5,6,7,8,9,10,11,12]
 .ret))⟩
abbrev Qiy:Nat:=63
/- (*proofmark/term.Graph).may -/
def QyA:AT:=(.wr false (some 3) none (.box 108 (.t 1))
 (zr 4 (.mov (.c (.bool false)))
 .done))
def Qyz:AT:=(zr 5 (.load true 6 (.t 3))
 (zk 6 100 [.t 5]
 (zr 7 (.build [(.int .u8 0),(.int .i64 0),(.int .i64 0),(.int .u8 0),(.int .i64 0),(.int .i64 0)] [])
 (zr 8 (.eqs true [.i,.i,.i,.i,.i,.i] (.t 6) (.t 7))
 .done))))
def Qyy:AT:=(zr 4 (.mov (.c (.bool false)))
 .done)
def Qyx:AT:=(za 9 0 3
 (zl 10 1 9
 .done))
def Qyw:AT:=(zr 12 (.bin .eql (.t 10) (zu 1))
 (zm 11 12
 .done))
def Qyv:AT:=(zr 4 (.mov (.c (.bool true)))
 .done)
def Qyu:AT:=(zr 14 (.bin .eql (.t 10) (zu 2))
 (zm 13 14
 .done))
def Qyt:AT:=(za 15 1 3
 (zl 16 1 15
 (zc .geq 17 16 0
 (zm 4 17
 .done))))
def Qys:AT:=(zr 19 (.bin .eql (.t 10) (zu 3))
 (zm 18 19
 .done))
def Qyr:AT:=(za 20 1 3
 (zl 21 1 20
 (zc .geq 22 21 0
 (zm 23 22
 (zat 24 23 2 3
 (zlt 25 23 1 24
 (zct .geq 26 23 25 0
 (zq 27 23 26
 (zm 28 27
 (zmt 29 28 0
 (zat 30 28 5 3
 (zlt 31 28 1 30
 (.cl false (some 32) (some (28,true)) (.c (.fn (.func 68) [] [])) [(.t 29),(.t 31)]
 (zq 33 28 32
 (zm 4 33
 .done)))))))))))))))
def QsY:AT:=(zr 35 (.bin .eql (.t 10) (zu 4))
 (zm 34 35
 .done))
def QsX:AT:=(za 36 3 3
 (zl 37 1 36
 (zr 38 (.bin .geq (.t 37) (zu 1))
 (zm 39 38
 (zat 40 39 3 3
 (zlt 41 39 1 40
 (zt 42 39 (.bin .leq (.t 41) (zu 16))
 (zq 43 39 42
 (zm 44 43
 (zmt 45 44 0
 (zat 46 44 4 3
 (zlt 47 44 1 46
 (.cl false (some 48) (some (44,true)) (.c (.fn (.func 68) [] [])) [(.t 45),(.t 47)]
 (zq 49 44 48
 (zm 50 49
 (zmt 51 50 0
 (zat 52 50 5 3
 (zlt 53 50 1 52
 (.cl false (some 54) (some (50,true)) (.c (.fn (.func 68) [] [])) [(.t 51),(.t 53)]
 (zq 55 50 54
 (zm 4 55
 .done)))))))))))))))))))))
def QsW:AT:=(zr 4 (.mov (.c (.bool false)))
 .done)
def YV:AF:=⟨56,[.tmp 4],
 (zg QyA []
 (.seq (zg Qyz [5,6,7]
 (zw 8
 (zg Qyy []
 .ret)
 .skip))
 (.seq (zg Qyx [9]
 (.block 0 (zg Qyw [12]
 (zw 11
 (zg Qyv []
 .ret)
 (zg Qyu [14]
 (zw 13
 (zg Qyt [15,16,17]
 .ret)
 (zg Qys [19]
 (zw 18
 (zg Qyr [20,21,22,23,24,25,26,27,28,29,30,31,32,33]
 .ret)
 (zg QsY [35]
 (zw 34
 (zg QsX [36,37,38,39,40,41,42,43,44,45,46,47,48,49,50,51,52,53,54,55]
 .ret)
 .skip))))))))))
 (zg QsW []
 .ret))))⟩
abbrev QdK:Nat:=64
/- proofmark/term.words -/
def Qyq:AT:=(.wr false (some 3) none (.box 108 (.t 0))
 (zr 6 (.mov (.c (.str [])))
 .done))
def Qyp:AT:=(za 8 1 3
 (zl 9 1 8
 (zk 10 101 [.t 9,(zi 10)]
 (zm 7 10
 .done))))
def Qyo:AT:=(za 11 0 3
 (zl 12 1 11
 .done))
def Qyn:AT:=(zr 14 (.bin .eql (.t 12) (zu 1))
 (zm 13 14
 .done))
def Qym:AT:=(zm 15 7
 (zm 6 15
 .done))
def Qyl:AT:=(zr 17 (.bin .eql (.t 12) (zu 2))
 (zm 16 17
 .done))
def Qyk:AT:=(zm 18 7
 (zr 19 (.bin .add (.c (.str [115])) (.t 18))
 (zm 6 19
 .done)))
def Qyj:AT:=(zr 21 (.bin .eql (.t 12) (zu 3))
 (zm 20 21
 .done))
def Qyi:AT:=(za 22 2 3
 (zl 23 1 22
 (zk 24 102 [.t 23]
 (zr 25 (.bin .add (.c (.str [97])) (.t 24))
 (zr 26 (.bin .add (.t 25) (.c (.str [118])))
 (zm 27 7
 (zb .add 28 26 27
 (zr 29 (.bin .add (.t 28) (.c (.str [91])))
 (zm 30 2
 (zb .add 31 29 30
 (zr 32 (.bin .add (.t 31) (.c (.str [93])))
 (zm 6 32
 .done))))))))))))
def Qyh:AT:=(zm 33 1
 (zr 34 (.bin .add (.c (.str [40])) (.t 33))
 (zr 35 (.bin .add (.t 34) (.c (.str [32])))
 (za 36 3 3
 (zl 37 1 36
 (zk 38 103 [.t 37]
 (zb .add 39 35 38
 (zr 40 (.bin .add (.t 39) (.c (.str [32])))
 (zm 41 2
 (zb .add 42 40 41
 (zr 43 (.bin .add (.t 42) (.c (.str [41])))
 (zm 6 43
 .done))))))))))))
def QcK:AF:=⟨44,[.tmp 6],
 (zg Qyq []
 (zg Qyp [8,9,10]
 (.seq (zg Qyo [11]
 (.block 0 (zg Qyn [14]
 (zw 13
 (zg Qym [15]
 .ret)
 (zg Qyl [17]
 (zw 16
 (zg Qyk [18,19]
 .ret)
 (zg Qyj [21]
 (zw 20
 (zg Qyi [22,23,24,25,26,27,28,29,30,31,32]
 .ret)
 .skip))))))))
 (zg Qyh [33,34,35,36,37,38,39,40,41,42,43]
 .ret))))⟩
abbrev Qit:Nat:=65
/- proofmark/term.parts -/
def Qyg:AT:=(.wr false (some 1) none (.box 108 (.t 0))
 (zr 2 (.mov (.c (.lst 0 [] true)))
 .done))
def Qyf:AT:=(za 3 0 1
 (zl 4 1 3
 .done))
def Qye:AT:=(zr 6 (.bin .eql (.t 4) (zu 3))
 (zm 5 6
 .done))
def Qyd:AT:=(za 7 5 1
 (zl 8 1 7
 (.wr false (some 9) none (.bsl false false 44 1 [(.int .i64 0)] 1 [(0,1,(.t 8))])
 (zm 2 9
 .done))))
def Qyc:AT:=(zr 11 (.bin .eql (.t 4) (zu 4))
 (zm 10 11
 .done))
def Qyb:AT:=(za 12 4 1
 (zl 13 1 12
 (za 14 5 1
 (zl 15 1 14
 (.wr false (some 16) none (.bsl false false 44 1 [(.int .i64 0)] 2 [(0,1,(.t 13)),(1,1,(.t 15))])
 (zm 2 16
 .done))))))
def Qya:AT:=(zr 2 (.mov (.c (.lst 0 [] true)))
 .done)
def QcL:AF:=⟨17,[.tmp 2],
 (zg Qyg []
 (.seq (zg Qyf [3]
 (.block 0 (zg Qye [6]
 (zw 5
 (zg Qyd [7,8,9]
 .ret)
 (zg Qyc [11]
 (zw 10
 (zg Qyb [12,13,14,15,16]
 .ret)
 .skip))))))
 (zg Qya []
 .ret)))⟩
abbrev Qiu:Nat:=66
abbrev Qpj:Nat:=67
/- (*proofmark/term.Graph).is -/
def Qx9:AT:=(zr 4 (.mov (.c (.bool false)))
 .done)
def Qx8:AT:=(zm 5 0
 (zr 6 (.eqp true (.t 5) (.c (.val (.pointer none))))
 (zm 7 6
 (zmt 8 7 1
 (zct .geq 9 7 8 0
 (zq 10 7 9
 (zm 11 10
 (zmt 12 11 1
 (zmt 13 11 0
 (zt 14 11 (.nilc (.t 13))
 (zat 15 11 0 14
 (zlt 16 11 1 15
 (znt 17 11 0 16
 (zbt .lss 18 11 12 17
 (zq 19 11 18
 (zm 4 19
 .done))))))))))))))))
def Zr:AF:=⟨20,[.tmp 4],
 (zg Qx9 []
 (zg Qx8 [5,6,7,8,9,10,11,12,13,14,15,16,17,18,19]
 .ret))⟩
abbrev QeA:Nat:=68
abbrev QdT:Nat:=69
abbrev QfQ:Nat:=70
abbrev QdU:Nat:=71
abbrev QeB:Nat:=72
abbrev Qej:Nat:=73
abbrev QbZ:Nat:=74
abbrev QdL:Nat:=75
abbrev Qfp:Nat:=76
/- math/bits.Len32 -/
def zq22_0:AT:=(zr 2 (.mov (zi 0))
 .done)
def zq22_1:AT:=(zm 3 0
 (zr 4 (.bin .geq (.t 3) (.c (.int .u32 65536)))
 .done))
def zq22_2:AT:=(zm 5 0
 (zr 6 (.bin .shr (.t 5) (.c (.int .u64 16)))
 (zm 0 6
 .done)))
def zq22_3:AT:=(zr 2 (.mov (zi 16))
 .done)
def zq22_4:AT:=(zm 7 0
 (zr 8 (.bin .geq (.t 7) (.c (.int .u32 256)))
 .done))
def zq22_5:AT:=(zm 9 0
 (zr 10 (.bin .shr (.t 9) (.c (.int .u64 8)))
 (zm 0 10
 .done)))
def zq22_6:AT:=(zm 11 2
 (zc .add 12 11 8
 (zm 2 12
 .done)))
def zq22_7:AT:=(zm 13 2
 (zm 14 0
 (zr 15 (.conv .u8 (.t 14))
 (zr 16 (.sidx (.c (.str [0,1,2,2,3,3,3,3,4,4,4,4,4,4,4,4,5,5,5,5,5,5,5,5,5,5,5,5,5,5,5,5,6,6,6,6,6,6,6,6,6,6,6,6,6,6,6,6,6,6,6,6,6,6,6,6,6,6,6,6,6,6,6,6,7,7,7,7,7,7,7,7,7,7,7,7,7,7,7,7,7,7,7,7,7,7,7,7,7,7,7,7,7,7,7,7,7,7,7,7,7,7,7,7,7,7,7,7,7,7,7,7,7,7,7,7,7,7,7,7,7,7,7,7,7,7,7,7,8,8,8,8,8,8,8,8,8,8,8,8,8,8,8,8,8,8,8,8,8,8,8,8,8,8,8,8,8,8,8,8,8,8,8,8,8,8,8,8,8,8,8,8,8,8,8,8,8,8,8,8,8,8,8,8,8,8,8,8,8,8,8,8,8,8,8,8,8,8,8,8,8,8,8,8,8,8,8,8,8,8,8,8,8,8,8,8,8,8,8,8,8,8,8,8,8,8,8,8,8,8,8,8,8,8,8,8,8,8,8,8,8,8,8,8,8,8,8,8,8,8,8,8,8,8,8,8])) (.t 15))
 (zr 17 (.conv .i64 (.t 16))
 (zb .add 18 13 17
 (zm 2 18
 .done)))))))
def Qbl:AF:=⟨19,[.tmp 2],
 (zg zq22_0 []
 (.seq (zg zq22_1 [3]
 (zw 4
 (zg zq22_2 [5,6]
 (.reg zq22_3 []))
 .skip))
 (.seq (zg zq22_4 [7]
 (zw 8
 (zg zq22_5 [9,10]
 (.reg zq22_6 [11,12]))
 .skip))
 (zg zq22_7 [13,14,15,16,17,18]
 .ret))))⟩
abbrev QhK:Nat:=77
/- math/bits.Len64 -/
def zq23_0:AT:=(zr 2 (.mov (zi 0))
 .done)
def zq23_1:AT:=(zm 3 0
 (zr 4 (.bin .geq (.t 3) (.c (.int .u64 4294967296)))
 .done))
def zq23_2:AT:=(zm 5 0
 (zr 6 (.bin .shr (.t 5) (.c (.int .u64 32)))
 (zm 0 6
 .done)))
def zq23_3:AT:=(zr 2 (.mov (zi 32))
 .done)
def zq23_4:AT:=(zm 7 0
 (zr 8 (.bin .geq (.t 7) (.c (.int .u64 65536)))
 .done))
def zq23_5:AT:=(zm 9 0
 (zr 10 (.bin .shr (.t 9) (.c (.int .u64 16)))
 (zm 0 10
 .done)))
def zq23_6:AT:=(zm 11 2
 (zc .add 12 11 16
 (zm 2 12
 .done)))
def zq23_7:AT:=(zm 13 0
 (zr 14 (.bin .geq (.t 13) (.c (.int .u64 256)))
 .done))
def zq23_8:AT:=(zm 15 0
 (zr 16 (.bin .shr (.t 15) (.c (.int .u64 8)))
 (zm 0 16
 .done)))
def zq23_9:AT:=(zm 17 2
 (zc .add 18 17 8
 (zm 2 18
 .done)))
def QBl:AT:=(zm 19 2
 (zm 20 0
 (zr 21 (.conv .u8 (.t 20))
 (zr 22 (.sidx (.c (.str [0,1,2,2,3,3,3,3,4,4,4,4,4,4,4,4,5,5,5,5,5,5,5,5,5,5,5,5,5,5,5,5,6,6,6,6,6,6,6,6,6,6,6,6,6,6,6,6,6,6,6,6,6,6,6,6,6,6,6,6,6,6,6,6,7,7,7,7,7,7,7,7,7,7,7,7,7,7,7,7,7,7,7,7,7,7,7,7,7,7,7,7,7,7,7,7,7,7,7,7,7,7,7,7,7,7,7,7,7,7,7,7,7,7,7,7,7,7,7,7,7,7,7,7,7,7,7,7,8,8,8,8,8,8,8,8,8,8,8,8,8,8,8,8,8,8,8,8,8,8,8,8,8,8,8,8,8,8,8,8,8,8,8,8,8,8,8,8,8,8,8,8,8,8,8,8,8,8,8,8,8,8,8,8,8,8,8,8,8,8,8,8,8,8,8,8,8,8,8,8,8,8,8,8,8,8,8,8,8,8,8,8,8,8,8,8,8,8,8,8,8,8,8,8,8,8,8,8,8,8,8,8,8,8,8,8,8,8,8,8,8,8,8,8,8,8,8,8,8,8,8,8,8,8,8,8])) (.t 21))
 (zr 23 (.conv .i64 (.t 22))
 (zb .add 24 19 23
 (zm 2 24
 .done)))))))
def Qbk:AF:=⟨25,[.tmp 2],
 (zg zq23_0 []
 (.seq (zg zq23_1 [3]
 (zw 4
 (zg zq23_2 [5,6]
 (.reg zq23_3 []))
 .skip))
 (.seq (zg zq23_4 [7]
 (zw 8
 (zg zq23_5 [9,10]
 (.reg zq23_6 [11,12]))
 .skip))
 (.seq (zg zq23_7 [13]
 (zw 14
 (zg zq23_8 [15,16]
 (.reg zq23_9 [17,18]))
 .skip))
 (zg QBl [19,20,21,22,23,24]
 .ret)))))⟩
abbrev QhJ:Nat:=78
/- cmp.isNaN[int] -/
def zq24_0:AT:=(zr 2 (.mov (.c (.bool false)))
 .done)
def zq24_1:AT:=(zm 3 0
 (zm 4 0
 (zb .neq 5 3 4
 (zm 2 5
 .done))))
def cmp_isNaN_int:AF:=⟨6,[.tmp 2],
 (zg zq24_0 []
 (zg zq24_1 [3,4,5]
 .ret))⟩
abbrev Qks:Nat:=79
/- cmp.isNaN[uint8] -/
def zq25_0:AT:=(zr 2 (.mov (.c (.bool false)))
 .done)
def zq25_1:AT:=(zm 3 0
 (zm 4 0
 (zb .neq 5 3 4
 (zm 2 5
 .done))))
def QbC:AF:=⟨6,[.tmp 2],
 (zg zq25_0 []
 (zg zq25_1 [3,4,5]
 .ret))⟩
abbrev QhN:Nat:=80
abbrev QrY:Nat:=81
/- proofmark/image.Right$1 -/
def zq27_0:AT:=(.wr false (some 4) none (.box 130 (.t 0))
 (zr 5 (.mov (.c (.bool false)))
 .done))
def zq27_1:AT:=(zl 7 1 1
 (za 8 0 4
 (zl 9 1 8
 (zr 10 (.look false false [.s] (.int .i64 0) (.t 7) (.t 9))
 (zc .add 11 10 1
 (.wr false none none (.mapup false [.s] (.t 7) (.t 9) (.t 11))
 .done))))))
def zq27_2:AT:=(za 12 0 4
 (zl 13 1 12
 (zn 14 1 13
 (zc .lss 15 14 1
 (zm 16 15
 (zaf 17 16 0 4
 (zlf 18 16 1 17
 (znf 19 16 1 18
 (zcf .gtr 20 16 19 64
 (zp 21 16 20
 (zm 22 21
 (zlf 23 22 1 1
 (zaf 24 22 0 4
 (zlf 25 22 1 24
 (zf 26 22 (.look false false [.s] (.int .i64 0) (.t 23) (.t 25))
 (zcf .gtr 27 22 26 1
 (zp 28 22 27
 (zm 29 28
 (zaf 30 29 1 4
 (zlf 31 29 1 30
 (zlf 32 29 1 2
 (zbf .leq 33 29 31 32
 (zp 34 29 33
 (zm 35 34
 (zaf 36 35 1 4
 (zlf 37 35 1 36
 (zcf .rem 38 35 37 4
 (zcf .neq 39 35 38 0
 (zp 40 35 39
 (zm 41 40
 (zaf 42 41 1 4
 (zlf 43 41 1 42
 (zaf 44 41 2 3
 (zlf 45 41 1 44
 (znf 46 41 0 45
 (zf 47 41 (.bin .mul (zi 4) (.t 46))
 (zbf .geq 48 41 43 47
 (zp 49 41 48
 (zm 6 49
 .done)))))))))))))))))))))))))))))))))))))))
def zq27_3:AT:=(za 50 1 4
 (zl 51 1 50
 (zs 1 2 51
 .done)))
def zq27_4:AT:=(zm 52 6
 (zm 5 52
 .done))
def Qco:AF:=⟨53,[.tmp 5],
 (zg zq27_0 []
 (zg zq27_1 [7,8,9,10,11]
 (zg zq27_2 [12,13,14,15,16,17,18,19,20,21,22,23,24,25,26,27,28,29,30,31,32,33,34,35,36,37,38,39,40,41,42,43,44,45,46,47,48,49]
 (zg zq27_3 [50,51]
 (zg zq27_4 [52]
 .ret)))))⟩
abbrev QiR:Nat:=82
/- proofmark/image.Right$2 -/
def zq28_0:AT:=(zr 1 (.mov (.c (.bool false)))
 .done)
def zq28_1:AT:=(za 2 0 0
 (zl 3 1 2
 (zc .geq 4 3 0
 (zm 5 4
 (zat 6 5 0 0
 (zlt 7 5 1 6
 (zct .leq 8 5 7 524288
 (zq 9 5 8
 (zm 10 9
 (zat 11 10 0 0
 (zlt 12 10 1 11
 (zct .rem 13 10 12 8
 (zct .eql 14 10 13 0
 (zq 15 10 14
 (zm 1 15
 .done)))))))))))))))
def Qcn:AF:=⟨16,[.tmp 1],
 (zg zq28_0 []
 (zg zq28_1 [2,3,4,5,6,7,8,9,10,11,12,13,14,15]
 .ret))⟩
abbrev QiQ:Nat:=83
/- proofmark/image.Right$3 -/
def zq29_0:AT:=(zr 1 (.mov (.c (.bool false)))
 .done)
def zq29_1:AT:=(za 2 2 0
 (zl 3 1 2
 (zn 4 0 3
 (zc .geq 5 4 1
 (zm 6 5
 (zat 7 6 2 0
 (zlt 8 6 1 7
 (znt 9 6 0 8
 (zct .leq 10 6 9 262144
 (zq 11 6 10
 (zm 1 11
 .done)))))))))))
def Qcm:AF:=⟨12,[.tmp 1],
 (zg zq29_0 []
 (zg zq29_1 [2,3,4,5,6,7,8,9,10,11]
 .ret))⟩
abbrev QiP:Nat:=84
/- proofmark/image.Right$4 -/
def zq2a_0:AT:=(zr 1 (.mov (.c (.bool false)))
 .done)
def zq2a_1:AT:=(za 2 1 0
 (zl 3 1 2
 (zn 4 0 3
 (zc .geq 5 4 1
 (zm 6 5
 (zat 7 6 1 0
 (zlt 8 6 1 7
 (znt 9 6 0 8
 (zct .leq 10 6 9 65
 (zq 11 6 10
 (zm 12 11
 (zat 13 12 1 0
 (zlt 14 12 1 13
 (zt 15 12 (.iaddr none 2 (.t 14) (zi 0))
 (zat 16 12 1 15
 (zlt 17 12 1 16
 (zct .eql 18 12 17 0
 (zq 19 12 18
 (zm 1 19
 .done)))))))))))))))))))
def Qcl:AF:=⟨20,[.tmp 1],
 (zg zq2a_0 []
 (zg zq2a_1 [2,3,4,5,6,7,8,9,10,11,12,13,14,15,16,17,18,19]
 .ret))⟩
abbrev QiO:Nat:=85
/- proofmark/image.Right$5 -/
def zq2b_0:AT:=(zr 2 (.mov (.c (.bool false)))
 .done)
def zq2b_1:AT:=(za 3 1 0
 (zl 4 1 3
 (zl 5 1 1
 (zk 6 87 [.t 4,.t 5]
 (zr 7 (.un .not (.t 6))
 (zm 2 7
 .done))))))
def Qck:AF:=⟨8,[.tmp 2],
 (zg zq2b_0 []
 (zg zq2b_1 [3,4,5,6,7]
 .ret))⟩
abbrev QiN:Nat:=86
/- slices.ContainsFunc[[]proofmark/image.Sym,proofmark/image.Sym] -/
def zq2c_0:AT:=(zr 4 (.mov (.c (.bool false)))
 .done)
def zq2c_1:AT:=(zm 5 0
 (zm 6 1
 (zk 7 109 [.t 5,.t 6]
 (zc .geq 8 7 0
 (zm 4 8
 .done)))))
def QL:AF:=⟨9,[.tmp 4],
 (zg zq2c_0 []
 (zg zq2c_1 [5,6,7,8]
 .ret))⟩
abbrev X5:Nat:=87
/- slices.ContainsFunc[[]func() bool,func() bool] -/
def zq2d_0:AT:=(zr 4 (.mov (.c (.bool false)))
 .done)
def zq2d_1:AT:=(zm 5 0
 (zm 6 1
 (zk 7 110 [.t 5,.t 6]
 (zc .geq 8 7 0
 (zm 4 8
 .done)))))
def QM:AF:=⟨9,[.tmp 4],
 (zg zq2d_0 []
 (zg zq2d_1 [5,6,7,8]
 .ret))⟩
abbrev X6:Nat:=88
/- proofmark/image.Right$6 -/
def zq2e_0:AT:=(zr 2 (.mov (.c (.bool false)))
 .done)
def zq2e_1:AT:=(zm 3 0
 (.cl false (some 4) none (.t 3) []
 (zr 5 (.un .not (.t 4))
 (zm 2 5
 .done))))
def Qcj:AF:=⟨6,[.tmp 2],
 (zg zq2e_0 []
 (zg zq2e_1 [3,4,5]
 .ret))⟩
abbrev QiM:Nat:=89
/- proofmark/image.Bounds -/
def zq2f_0:AT:=(.wr false (some 2) none (.box 88 (.t 0))
 (zr 4 (.mov (zi 0))
 (zr 5 (.mov (zi 0))
 .done)))
def zq2f_1:AT:=(zr 7 (.load true 3 (.t 2))
 (zk 8 60 [.t 7]
 (zr 9 (.un .not (.t 8))
 (zm 10 9
 (zmf 11 10 1
 (zcf .lss 12 10 11 0
 (zp 13 10 12
 (zm 14 13
 (zmf 15 14 1
 (zaf 16 14 1 2
 (zlf 17 14 1 16
 (znf 18 14 0 17
 (zbf .geq 19 14 15 18
 (zp 20 14 19
 .done))))))))))))))
def zq2f_2:AT:=(zr 4 (.mov (zi 0))
 (zr 5 (.mov (zi 0))
 .done))
def zq2f_3:AT:=(za 21 2 2
 (zl 22 1 21
 (zn 23 0 22
 (zr 24 (.bin .mul (zi 4) (.t 23))
 (zm 6 24
 .done)))))
def zq2f_4:AT:=(zm 25 1
 (zc .add 26 25 1
 (za 27 1 2
 (zl 28 1 27
 (zn 29 0 28
 (zb .lss 30 26 29
 .done))))))
def zq2f_5:AT:=(za 31 1 2
 (zl 32 1 31
 (zm 33 1
 (zc .add 34 33 1
 (zx 35 2 32 34
 (za 36 1 35
 (zl 37 1 36
 (zm 6 37
 .done))))))))
def zq2f_6:AT:=(za 38 1 2
 (zl 39 1 38
 (zm 40 1
 (zx 41 2 39 40
 (za 42 1 41
 (zl 43 1 42
 (zm 44 6
 (zm 4 43
 (zm 5 44
 .done)))))))))
def QeN:AF:=⟨45,[.tmp 4,.tmp 5],
 (zg zq2f_0 []
 (.seq (zg zq2f_1 [7,8,9,10,11,12,13,14,15,16,17,18,19]
 (zw 20
 (zg zq2f_2 []
 .ret)
 .skip))
 (zg zq2f_3 [21,22,23,24]
 (.seq (zg zq2f_4 [25,26,27,28,29]
 (zw 30
 (.reg zq2f_5 [31,32,33,34,35,36,37])
 .skip))
 (zg zq2f_6 [38,39,40,41,42,43,44]
 .ret)))))⟩
abbrev QlE:Nat:=90
/- proofmark/rv.Decode -/
def Qx7:AT:=(.wr false (some 1) none (.box 131 (.t 0))
 (.wr false (some 2) none (.new 77 [(.int .u8 0),(.int .u8 0),(.int .u8 0),(.int .u8 0),(.int .i64 0)])
 (zr 3 (.mov (zi 0))
 .done)))
def Qx6:AT:=(zk 10 111 []
 (.wr false (some 4) none (.new 195 (List.replicate 66 [(.bool false),(.bool false),(.bool false),(.lst 0 [] true),(.int .i64 0),(.bool false),(.int .u32 0),(.str []),(.int .u32 0)]).flatten)
 (zs 594 4 10
 .done)))
def Qx5:AT:=(zr 11 (.slarr 66 9 (.t 4) none none)
 (zr 12 (.mkfn (.func 113) [] [(.t 1)])
 (zk 13 112 [.t 11,.t 12]
 (zm 5 13
 .done))))
def Qx4:AT:=(zm 14 5
 (zc .lss 15 14 0
 .done))
def Qx3:AT:=(zr 16 (.build [(.int .u8 0),(.int .u8 0),(.int .u8 0),(.int .u8 0),(.int .i64 0)] [])
 (zs 5 2 16
 (zr 3 (.mov (zi 100))
 .done)))
def Qx2:AT:=(zm 17 5
 (zr 18 (.iaddr (some 66) 9 (.t 4) (.t 17))
 (zr 19 (.load true 9 (.t 18))
 (.wr false (some 6) none (.new 175 [(.bool false),(.bool false),(.bool false),(.lst 0 [] true),(.int .i64 0),(.bool false),(.int .u32 0),(.str []),(.int .u32 0)])
 (zs 9 6 19
 .done)))))
def Qx1:AT:=(zm 20 5
 (zr 21 (.conv .u8 (.t 20))
 (za 22 0 6
 (zr 23 (.load true 7 (.t 22))
 (zl 24 1 1
 (zk 25 114 [.t 23,.t 24]
 (zr 26 (.build [(.int .u8 0),(.int .u8 0),(.int .u8 0),(.int .u8 0),(.int .i64 0)] [(0,1,(.t 21)),(4,1,(.t 25))])
 (.wr false (some 7) none (.new 77 [(.int .u8 0),(.int .u8 0),(.int .u8 0),(.int .u8 0),(.int .i64 0)])
 (zs 5 7 26
 .done)))))))))
def Qx0:AT:=(za 27 0 6
 (za 28 0 27
 (zl 29 1 28
 (za 30 1 7
 (zr 31 (.load true 2 (.g 0))
 (zr 32 (.build [(.bool false),(.val (.pointer none)),(.int .i64 0),(.int .i64 0)] [(0,1,(.t 29)),(1,1,(.t 30)),(2,2,(.t 31))])
 (za 33 0 6
 (za 34 1 33
 (zl 35 1 34
 (za 36 2 7
 (zr 37 (.load true 2 (.g 1))
 (zr 38 (.build [(.bool false),(.val (.pointer none)),(.int .i64 0),(.int .i64 0)] [(0,1,(.t 35)),(1,1,(.t 36)),(2,2,(.t 37))])
 (za 39 0 6
 (za 40 2 39
 (zl 41 1 40
 (za 42 3 7
 (zr 43 (.load true 2 (.g 2))
 (zr 44 (.build [(.bool false),(.val (.pointer none)),(.int .i64 0),(.int .i64 0)] [(0,1,(.t 41)),(1,1,(.t 42)),(2,2,(.t 43))])
 (.wr false (some 45) none (.bsl true true 202 4 [(.bool false),(.val (.pointer none)),(.int .i64 0),(.int .i64 0)] 3 [(0,4,(.t 32)),(4,4,(.t 38)),(8,4,(.t 44))])
 (zn 46 0 45
 (zr 47 (.mov (zi 0))
 .done)))))))))))))))))))))
def QxZ:AT:=(zb .lss 48 47 46
 .done)
def QxY:AT:=(zx 49 4 45 47
 (zr 50 (.load true 4 (.t 49))
 (.wr false (some 9) none (.new 202 [(.bool false),(.val (.pointer none)),(.int .i64 0),(.int .i64 0)])
 (zs 4 9 50
 .done))))
def QsV:AT:=(za 51 0 9
 (zl 52 1 51
 .done))
def QsU:AT:=(za 53 1 9
 (zl 54 1 53
 (za 55 2 9
 (zr 56 (.load true 2 (.t 55))
 (zl 57 1 1
 (.cl true (some 58) none (.c (.fn (.func 115) [] [])) [(.t 56),(.t 57)]
 (zr 59 (.conv .u8 (.t 58))
 (zr 60 (.nilc (.t 54))
 (zs 1 60 59
 .done)))))))))
def QsT:AT:=(zc .add 61 47 1
 (zm 47 61
 .done))
def QsS:AT:=(zr 62 (.load true 5 (.t 7))
 (zs 5 2 62
 (zr 3 (.mov (zi 0))
 .done)))
def Qev:AF:=⟨63,[.cell 2 true 5,.tmp 3],
 (zg Qx7 []
 (zg Qx6 [10]
 (zg Qx5 [11,12,13]
 (.seq (zg Qx4 [14]
 (zw 15
 (zg Qx3 [16]
 .ret)
 .skip))
 (zg Qx2 [17,18,19]
 (zg Qx1 [20,21,22,23,24,25,26]
 (.seq (zg Qx0 [27,28,29,30,31,32,33,34,35,36,37,38,39,40,41,42,43,44]
 (.block 0 (.loop (zg QxZ []
 (.seq (zw 48
 .skip
 (.exit 0))
 (.seq (.block 1 (zg QxY [49,50]
 (zg QsV [51]
 (zw 52
 (.reg QsU [53,54,55,56,57,58,59,60])
 .skip))))
 (.reg QsT [61])))))))
 (zg QsS [62]
 .ret))))))))⟩
abbrev Qf8:Nat:=91
end Go.Proofs.YtfgccihafnjalaaGreatDoor
