/- The translations of the functions, by a program of mine. -/
import Derived.Test.YtfgccihafnjalaaGreatDoorAmD
namespace Go.Proofs.YtfgccihafnjalaaGreatDoor
open Go Go.Am
set_option maxRecDepth 100000
abbrev zm (d s:Nat) (t:AT):AT:=.rd (some d) none (.mov (.t s)) t
abbrev zr (d:Nat) (o:AOp) (t:AT):AT:=.rd (some d) none o t
abbrev zt (d g:Nat) (o:AOp) (t:AT):AT:=.rd (some d) (some (g,true)) o t
abbrev zf (d g:Nat) (o:AOp) (t:AT):AT:=.rd (some d) (some (g,false)) o t
abbrev zk (d f:Nat) (l:List Arg) (t:AT):AT:=.cl false (some d) none (.c (.fn (.func f) [] [])) l t
abbrev zi (n:Int):Arg:=.c (.int .i64 n)
abbrev zu (n:Int):Arg:=.c (.int .u8 n)
abbrev zl (d s a:Nat) (t:AT):AT:=zr d (.load false s (.t a)) t
abbrev zp (d a b:Nat) (t:AT):AT:=zr d (.pick (.t a) (.c (.bool true)) (.t b)) t
abbrev zq (d a b:Nat) (t:AT):AT:=zr d (.pick (.t a) (.t b) (.c (.bool false))) t
abbrev za (d k a:Nat) (t:AT):AT:=zr d (.faddr k (.t a)) t
abbrev zx (d s a b:Nat) (t:AT):AT:=zr d (.iaddr none s (.t a) (.t b)) t
abbrev zn (d z a:Nat) (t:AT):AT:=zr d (.len z (.t a)) t
abbrev ze (d a k:Nat) (t:AT):AT:=zr d (.extr (.t a) k) t
abbrev zlt (d g s a:Nat) (t:AT):AT:=zt d g (.load false s (.t a)) t
abbrev zpt (d g a b:Nat) (t:AT):AT:=zt d g (.pick (.t a) (.c (.bool true)) (.t b)) t
abbrev zqt (d g a b:Nat) (t:AT):AT:=zt d g (.pick (.t a) (.t b) (.c (.bool false))) t
abbrev zat (d g k a:Nat) (t:AT):AT:=zt d g (.faddr k (.t a)) t
abbrev zxt (d g s a b:Nat) (t:AT):AT:=zt d g (.iaddr none s (.t a) (.t b)) t
abbrev znt (d g z a:Nat) (t:AT):AT:=zt d g (.len z (.t a)) t
abbrev zet (d g a k:Nat) (t:AT):AT:=zt d g (.extr (.t a) k) t
abbrev zlf (d g s a:Nat) (t:AT):AT:=zf d g (.load false s (.t a)) t
abbrev zpf (d g a b:Nat) (t:AT):AT:=zf d g (.pick (.t a) (.c (.bool true)) (.t b)) t
abbrev zqf (d g a b:Nat) (t:AT):AT:=zf d g (.pick (.t a) (.t b) (.c (.bool false))) t
abbrev zaf (d g k a:Nat) (t:AT):AT:=zf d g (.faddr k (.t a)) t
abbrev zxf (d g s a b:Nat) (t:AT):AT:=zf d g (.iaddr none s (.t a) (.t b)) t
abbrev znf (d g z a:Nat) (t:AT):AT:=zf d g (.len z (.t a)) t
abbrev zef (d g a k:Nat) (t:AT):AT:=zf d g (.extr (.t a) k) t
abbrev zb (o:BinOp) (d a b:Nat) (t:AT):AT:=zr d (.bin o (.t a) (.t b)) t
abbrev zbt (o:BinOp) (d g a b:Nat) (t:AT):AT:=zt d g (.bin o (.t a) (.t b)) t
abbrev zbf (o:BinOp) (d g a b:Nat) (t:AT):AT:=zf d g (.bin o (.t a) (.t b)) t
abbrev zc (o:BinOp) (d a:Nat) (b:Int) (t:AT):AT:=zr d (.bin o (.t a) (zi b)) t
abbrev zct (o:BinOp) (d g a:Nat) (b:Int) (t:AT):AT:=zt d g (.bin o (.t a) (zi b)) t
abbrev zcf (o:BinOp) (d g a:Nat) (b:Int) (t:AT):AT:=zf d g (.bin o (.t a) (zi b)) t
abbrev zmt (d g a:Nat) (t:AT):AT:=zt d g (.mov (.t a)) t
abbrev zmf (d g a:Nat) (t:AT):AT:=zf d g (.mov (.t a)) t
abbrev zs (k a b:Nat) (t:AT):AT:=.wr false none none (.store k (.t a) (.t b)) t
abbrev zw (a:Nat) (x y:AC):AC:=.cond (.t a) x y
abbrev zg (a:AT) (l:List Nat) (r:AC):AC:=.seq (.reg a l) r
abbrev Qmu:Nat:=3
abbrev QlJ:Nat:=4
/- proofmark/proofmarklaw25.RelateFresh -/
def Qjd:AT:=(zr 10 (.mov (.c (.bool false)))
 .done)
def Qjc:AT:=(zm 21 1
 (zr 22 (.bin .rem (.t 21) (zu 9))
 (zr 23 (.conv .i64 (.t 22))
 (zm 11 23
 .done))))
def Qjb:AT:=(zm 24 2
 (zk 25 17 [.t 24]
 (.wr false (some 12) none (.new 39 [(.str []),(.int .i64 0),(.lst 0 [] true),(.int .i64 0),(.lst 0 [] true)])
 (zs 5 12 25
 .done))))
def Qja:AT:=(zm 26 0
 (zn 27 0 26
 (zc .gtr 28 27 30
 (zm 29 28
 (zmf 30 29 4
 (zcf .gtr 31 29 30 1099511627776
 (zp 32 29 31
 .done)))))))
def Qi9:AT:=(zk 33 8 []
 (zm 10 33
 .done))
def Qi8:AT:=(zk 34 18 []
 (zm 13 34
 .done))
def Qi7:AT:=(zm 36 13
 (zm 37 0
 (zm 38 11
 (zr 39 (.load true 5 (.t 12))
 (zm 40 3
 (zm 41 4
 (zk 42 19 [.t 36,.t 37,.t 38,.t 39,.t 40,.t 41]
 (zm 35 42
 (ze 43 35 0
 (ze 44 35 1
 (.wr false (some 14) none (.new 49 [(.lst 0 [] true),(.int .i64 0),(.int .i64 0),(.int .i64 0),(.int .i64 0),(.int .i64 0),(.int .i64 0),(.int .i64 0),(.int .i64 0),(.int .i64 0),(.int .i64 0),(.int .i64 0),(.int .i64 0),(.int .i64 0),(.int .i64 0),(.int .i64 0),(.int .i64 0),(.int .i64 0),(.int .i64 0),(.int .i64 0),(.int .i64 0),(.int .i64 0),(.int .i64 0),(.int .i64 0),(.int .i64 0),(.int .i64 0),(.int .i64 0),(.int .i64 0),(.int .i64 0),(.int .i64 0),(.int .i64 0),(.int .i64 0),(.int .i64 0),(.int .i64 0),(.lst 0 [] true),(.bool false)])
 (zs 36 14 43
 (zm 15 44
 .done)))))))))))))
def Qi6:AT:=(za 45 3 12
 (zl 46 1 45
 (zc .quo 47 46 8
 (zm 48 3
 (zr 49 (.mini (.t 48) (zi 6))
 (zr 50 (.maxi (zi 0) (.t 49))
 (zb .add 51 47 50
 (zm 16 51
 .done))))))))
def Qi5:AT:=(za 52 0 14
 (zl 53 1 52
 (zn 54 0 53
 (zm 55 11
 (zb .neq 56 54 55
 (zm 57 56
 (zaf 58 57 2 14
 (zaf 59 57 32 58
 (zlf 60 57 1 59
 (znf 61 57 0 60
 (zmf 62 57 16
 (zbf .neq 63 57 61 62
 (zp 64 57 63
 (zm 65 64
 (zaf 66 65 2 14
 (zaf 67 65 33 66
 (zlf 68 65 1 67
 (zaf 69 65 3 12
 (zlf 70 65 1 69
 (zcf .eql 71 65 70 0
 (zf 72 65 (.eqb true (.t 68) (.t 71))
 (zp 73 65 72
 (zm 74 73
 (zaf 75 74 2 14
 (zaf 76 74 0 75
 (zf 77 74 (.iaddr (some 32) 1 (.t 76) (zi 2))
 (zlf 78 74 1 77
 (zf 79 74 (.bin .neq (.t 78) (.c (.int .i64 (-1))))
 (zp 80 74 79
 (zm 81 80
 (zaf 82 81 2 14
 (zaf 83 81 0 82
 (zf 84 81 (.iaddr (some 32) 1 (.t 83) (zi 0))
 (zmf 86 81 13
 (.alt (zlf 85 81 1 84
 (.cl false (some 87) (some (81,false)) (.c (.fn (.func 20) [] [])) [(.t 86),(zi 0)]
 (zbf .neq 88 81 85 87
 (zp 89 81 88
 .done)))) (.cl false (some 87) (some (81,false)) (.c (.fn (.func 20) [] [])) [(.t 86),(zi 0)]
 (zlf 85 81 1 84
 (zbf .neq 88 81 85 87
 (zp 89 81 88
 .done)))))))))))))))))))))))))))))))))))))))
def Qi4:AT:=(zr 10 (.mov (.c (.bool false)))
 .done)
def Qdz:AT:=(zr 17 (.mov (.c (.lst 0 [] true)))
 .done)
def Qdy:AT:=(zm 90 0
 (zk 91 9 [.t 90]
 (zk 92 13 [.t 91]
 (zm 18 92
 .done))))
def Qdx:AT:=(zr 19 (.mov (zi 0))
 .done)
def Qai:AT:=(zm 93 19
 (zm 94 18
 (zn 95 0 94
 (zb .lss 96 93 95
 .done))))
def Qah:AT:=(zm 99 18
 (zm 100 19
 (zx 101 3 99 100
 (zr 102 (.load true 3 (.t 101))
 (zm 103 11
 (zm 104 16
 (zk 105 21 [.t 102,.t 103,.t 104]
 .done)))))))
def Qag:AT:=(zm 106 17
 (zm 107 18
 (zm 108 19
 (zx 109 3 107 108
 (zr 110 (.load true 3 (.t 109))
 (.wr false (some 111) none (.bsl false true 28 3 [(.int .i64 0),(.int .u8 0),(.int .i64 0)] 1 [(0,3,(.t 110))])
 (.wr false (some 112) none (.app 28 3 24 false (.t 106) (.t 111))
 (zm 17 112
 .done))))))))
def Qaf:AT:=(zm 97 19
 (zc .add 98 97 1
 (zm 19 98
 .done)))
def Qdw:AT:=(zr 20 (.mov (.c (.int .i64 (-1))))
 .done)
def QaV:AT:=(zm 113 20
 (zm 114 11
 (zb .lss 115 113 114
 .done)))
def QaU:AT:=(zm 118 13
 (zr 119 (.load true 36 (.t 14))
 (zm 120 17
 (zm 121 20
 (zm 122 11
 (zm 123 4
 (zr 124 (.maxi (zi 0) (.t 123))
 (zm 125 15
 (zk 126 22 [.t 118,.t 119,.t 120,.t 121,.t 122,.t 124,.t 125]
 (zr 127 (.un .not (.t 126))
 .done))))))))))
def QaT:AT:=(zr 10 (.mov (.c (.bool false)))
 .done)
def QaS:AT:=(zm 116 20
 (zc .add 117 116 1
 (zm 20 117
 .done)))
def Qdv:AT:=(zm 128 13
 (zr 129 (.load true 36 (.t 14))
 (zm 130 17
 (zm 131 4
 (zr 132 (.maxi (zi 0) (.t 131))
 (zm 133 15
 (zk 134 23 [.t 128,.t 129,.t 130,.t 132,.t 133]
 (zm 135 134
 (.cl false (some 136) (some (135,true)) (.c (.fn (.func 8) [] [])) []
 (zq 137 135 136
 (zm 10 137
 .done)))))))))))
def proofmarklaw25_RelateFresh:AF:=⟨138,[.tmp 10],
 (zg Qjd []
 (zg Qjc [21,22,23]
 (zg Qjb [24,25]
 (.seq (zg Qja [26,27,28,29,30,31]
 (zw 32
 (zg Qi9 [33]
 .ret)
 .skip))
 (zg Qi8 [34]
 (zg Qi7 [36,37,38,39,40,41,42,35,43,44]
 (zg Qi6 [45,46,47,48,49,50,51]
 (.seq (zg Qi5 [52,53,54,55,56,57,58,59,60,61,62,63,64,65,66,67,68,69,70,71,72,73,74,75,76,77,78,79,80,81,82,83,84,85,86,87,88]
 (zw 89
 (zg Qi4 []
 .ret)
 .skip))
 (zg Qdz []
 (zg Qdy [90,91,92]
 (.seq (zg Qdx []
 (.block 0 (.loop (.seq (zg Qai [93,94,95]
 (zw 96
 .skip
 (.exit 0)))
 (.seq (.block 1 (zg Qah [99,100,101,102,103,104]
 (zw 105
 (.reg Qag [106,107,108,109,110,111,112])
 .skip)))
 (.reg Qaf [97,98]))))))
 (.seq (zg Qdw []
 (.block 2 (.loop (.seq (zg QaV [113,114]
 (zw 115
 .skip
 (.exit 2)))
 (.seq (.block 3 (zg QaU [118,119,120,121,122,123,124,125,126]
 (zw 127
 (zg QaT []
 .ret)
 .skip)))
 (.reg QaS [116,117]))))))
 (zg Qdv [128,129,130,131,132,133,134,135,136,137]
 .ret)))))))))))))⟩
abbrev Yy:Nat:=5
abbrev Qnw:Nat:=6
abbrev QlK:Nat:=7
/- proofmark/proofmarklaw25.works -/
def Qyi:AT:=(zr 0 (.mov (.c (.bool false)))
 .done)
def Qyh:AT:=(zr 8 (.build [(.int .u8 0),(.int .i64 0)] [(0,1,(zu 1)),(1,1,(zi 5))])
 (zr 9 (.build [(.int .u8 0),(.int .i64 0)] [(0,1,(zu 2))])
 (zr 10 (.build [(.int .u8 0),(.int .i64 0)] [(0,1,(zu 3)),(1,1,(zi 3))])
 (.wr false (some 1) none (.new 62 [(.int .u8 0),(.int .i64 0)])
 (.wr false (some 2) none (.new 62 [(.int .u8 0),(.int .i64 0)])
 (.wr false (some 3) none (.new 62 [(.int .u8 0),(.int .i64 0)])
 (zs 2 1 8
 (zs 2 2 9
 (zs 2 3 10
 .done)))))))))
def Qyg:AT:=(zr 11 (.load true 2 (.t 1))
 (zr 12 (.build [(.int .i64 0),(.int .u8 0),(.int .i64 0)] [(0,1,(zi 0)),(1,2,(.t 11))])
 (zr 13 (.load true 2 (.t 2))
 (zr 14 (.build [(.int .i64 0),(.int .u8 0),(.int .i64 0)] [(0,1,(zi 1)),(1,2,(.t 13))])
 (.wr false (some 15) none (.bsl false true 64 3 [(.int .i64 0),(.int .u8 0),(.int .i64 0)] 2 [(0,3,(.t 12)),(3,3,(.t 14))])
 (zr 16 (.load true 2 (.t 2))
 (zr 17 (.build [(.int .i64 0),(.int .u8 0),(.int .i64 0)] [(0,1,(zi 1)),(1,2,(.t 16))])
 (zr 18 (.load true 2 (.t 3))
 (zr 19 (.build [(.int .i64 0),(.int .u8 0),(.int .i64 0)] [(0,1,(zi 2)),(1,2,(.t 18))])
 (.wr false (some 20) none (.bsl false true 64 3 [(.int .i64 0),(.int .u8 0),(.int .i64 0)] 2 [(0,3,(.t 17)),(3,3,(.t 19))])
 (zk 21 14 [.t 15,.t 20]
 (zm 4 21
 .done))))))))))))
def Qt3:AT:=(zk 22 18 []
 (zm 5 22
 .done))
def Qt2:AT:=(zm 24 5
 (zr 25 (.load true 2 (.t 1))
 (zr 26 (.build [(.int .i64 0),(.int .u8 0),(.int .i64 0)] [(0,1,(zi 0)),(1,2,(.t 25))])
 (zr 27 (.load true 2 (.t 1))
 (zr 28 (.build [(.int .i64 0),(.int .u8 0),(.int .i64 0)] [(0,1,(zi 1)),(1,2,(.t 27))])
 (zr 29 (.load true 2 (.t 2))
 (zr 30 (.build [(.int .i64 0),(.int .u8 0),(.int .i64 0)] [(0,1,(zi 1)),(1,2,(.t 29))])
 (zr 31 (.load true 2 (.t 3))
 (zr 32 (.build [(.int .i64 0),(.int .u8 0),(.int .i64 0)] [(0,1,(zi 2)),(1,2,(.t 31))])
 (.alt (.wr false (some 33) none (.bsl false true 64 3 [(.int .i64 0),(.int .u8 0),(.int .i64 0)] 4 [(0,3,(.t 26)),(3,3,(.t 28)),(6,3,(.t 30)),(9,3,(.t 32))])
 (.alt (.cl true (some 34) none (.c (.fn (.func 17) [] [])) [(zu 2)]
 (.alt (zk 35 19 [.t 24,.t 33,(zi 3),.t 34,(zi 0),(zi 0)]
 (zm 23 35
 (ze 36 23 0
 (ze 37 23 1
 (.wr true (some 6) none (.new 49 [(.lst 0 [] true),(.int .i64 0),(.int .i64 0),(.int .i64 0),(.int .i64 0),(.int .i64 0),(.int .i64 0),(.int .i64 0),(.int .i64 0),(.int .i64 0),(.int .i64 0),(.int .i64 0),(.int .i64 0),(.int .i64 0),(.int .i64 0),(.int .i64 0),(.int .i64 0),(.int .i64 0),(.int .i64 0),(.int .i64 0),(.int .i64 0),(.int .i64 0),(.int .i64 0),(.int .i64 0),(.int .i64 0),(.int .i64 0),(.int .i64 0),(.int .i64 0),(.int .i64 0),(.int .i64 0),(.int .i64 0),(.int .i64 0),(.int .i64 0),(.int .i64 0),(.lst 0 [] true),(.bool false)])
 (zs 36 6 36
 (zm 7 37
 .done))))))) (.wr true (some 6) none (.new 49 [(.lst 0 [] true),(.int .i64 0),(.int .i64 0),(.int .i64 0),(.int .i64 0),(.int .i64 0),(.int .i64 0),(.int .i64 0),(.int .i64 0),(.int .i64 0),(.int .i64 0),(.int .i64 0),(.int .i64 0),(.int .i64 0),(.int .i64 0),(.int .i64 0),(.int .i64 0),(.int .i64 0),(.int .i64 0),(.int .i64 0),(.int .i64 0),(.int .i64 0),(.int .i64 0),(.int .i64 0),(.int .i64 0),(.int .i64 0),(.int .i64 0),(.int .i64 0),(.int .i64 0),(.int .i64 0),(.int .i64 0),(.int .i64 0),(.int .i64 0),(.int .i64 0),(.lst 0 [] true),(.bool false)])
 (zk 35 19 [.t 24,.t 33,(zi 3),.t 34,(zi 0),(zi 0)]
 (zm 23 35
 (ze 36 23 0
 (ze 37 23 1
 (zs 36 6 36
 (zm 7 37
 .done))))))))) (.wr true (some 6) none (.new 49 [(.lst 0 [] true),(.int .i64 0),(.int .i64 0),(.int .i64 0),(.int .i64 0),(.int .i64 0),(.int .i64 0),(.int .i64 0),(.int .i64 0),(.int .i64 0),(.int .i64 0),(.int .i64 0),(.int .i64 0),(.int .i64 0),(.int .i64 0),(.int .i64 0),(.int .i64 0),(.int .i64 0),(.int .i64 0),(.int .i64 0),(.int .i64 0),(.int .i64 0),(.int .i64 0),(.int .i64 0),(.int .i64 0),(.int .i64 0),(.int .i64 0),(.int .i64 0),(.int .i64 0),(.int .i64 0),(.int .i64 0),(.int .i64 0),(.int .i64 0),(.int .i64 0),(.lst 0 [] true),(.bool false)])
 (.cl true (some 34) none (.c (.fn (.func 17) [] [])) [(zu 2)]
 (zk 35 19 [.t 24,.t 33,(zi 3),.t 34,(zi 0),(zi 0)]
 (zm 23 35
 (ze 36 23 0
 (ze 37 23 1
 (zs 36 6 36
 (zm 7 37
 .done)))))))))) (.alt (.cl true (some 34) none (.c (.fn (.func 17) [] [])) [(zu 2)]
 (.alt (.wr false (some 33) none (.bsl false true 64 3 [(.int .i64 0),(.int .u8 0),(.int .i64 0)] 4 [(0,3,(.t 26)),(3,3,(.t 28)),(6,3,(.t 30)),(9,3,(.t 32))])
 (.alt (zk 35 19 [.t 24,.t 33,(zi 3),.t 34,(zi 0),(zi 0)]
 (zm 23 35
 (ze 36 23 0
 (ze 37 23 1
 (.wr true (some 6) none (.new 49 [(.lst 0 [] true),(.int .i64 0),(.int .i64 0),(.int .i64 0),(.int .i64 0),(.int .i64 0),(.int .i64 0),(.int .i64 0),(.int .i64 0),(.int .i64 0),(.int .i64 0),(.int .i64 0),(.int .i64 0),(.int .i64 0),(.int .i64 0),(.int .i64 0),(.int .i64 0),(.int .i64 0),(.int .i64 0),(.int .i64 0),(.int .i64 0),(.int .i64 0),(.int .i64 0),(.int .i64 0),(.int .i64 0),(.int .i64 0),(.int .i64 0),(.int .i64 0),(.int .i64 0),(.int .i64 0),(.int .i64 0),(.int .i64 0),(.int .i64 0),(.int .i64 0),(.lst 0 [] true),(.bool false)])
 (zs 36 6 36
 (zm 7 37
 .done))))))) (.wr true (some 6) none (.new 49 [(.lst 0 [] true),(.int .i64 0),(.int .i64 0),(.int .i64 0),(.int .i64 0),(.int .i64 0),(.int .i64 0),(.int .i64 0),(.int .i64 0),(.int .i64 0),(.int .i64 0),(.int .i64 0),(.int .i64 0),(.int .i64 0),(.int .i64 0),(.int .i64 0),(.int .i64 0),(.int .i64 0),(.int .i64 0),(.int .i64 0),(.int .i64 0),(.int .i64 0),(.int .i64 0),(.int .i64 0),(.int .i64 0),(.int .i64 0),(.int .i64 0),(.int .i64 0),(.int .i64 0),(.int .i64 0),(.int .i64 0),(.int .i64 0),(.int .i64 0),(.int .i64 0),(.lst 0 [] true),(.bool false)])
 (zk 35 19 [.t 24,.t 33,(zi 3),.t 34,(zi 0),(zi 0)]
 (zm 23 35
 (ze 36 23 0
 (ze 37 23 1
 (zs 36 6 36
 (zm 7 37
 .done))))))))) (.wr true (some 6) none (.new 49 [(.lst 0 [] true),(.int .i64 0),(.int .i64 0),(.int .i64 0),(.int .i64 0),(.int .i64 0),(.int .i64 0),(.int .i64 0),(.int .i64 0),(.int .i64 0),(.int .i64 0),(.int .i64 0),(.int .i64 0),(.int .i64 0),(.int .i64 0),(.int .i64 0),(.int .i64 0),(.int .i64 0),(.int .i64 0),(.int .i64 0),(.int .i64 0),(.int .i64 0),(.int .i64 0),(.int .i64 0),(.int .i64 0),(.int .i64 0),(.int .i64 0),(.int .i64 0),(.int .i64 0),(.int .i64 0),(.int .i64 0),(.int .i64 0),(.int .i64 0),(.int .i64 0),(.lst 0 [] true),(.bool false)])
 (.wr false (some 33) none (.bsl false true 64 3 [(.int .i64 0),(.int .u8 0),(.int .i64 0)] 4 [(0,3,(.t 26)),(3,3,(.t 28)),(6,3,(.t 30)),(9,3,(.t 32))])
 (zk 35 19 [.t 24,.t 33,(zi 3),.t 34,(zi 0),(zi 0)]
 (zm 23 35
 (ze 36 23 0
 (ze 37 23 1
 (zs 36 6 36
 (zm 7 37
 .done)))))))))) (.wr true (some 6) none (.new 49 [(.lst 0 [] true),(.int .i64 0),(.int .i64 0),(.int .i64 0),(.int .i64 0),(.int .i64 0),(.int .i64 0),(.int .i64 0),(.int .i64 0),(.int .i64 0),(.int .i64 0),(.int .i64 0),(.int .i64 0),(.int .i64 0),(.int .i64 0),(.int .i64 0),(.int .i64 0),(.int .i64 0),(.int .i64 0),(.int .i64 0),(.int .i64 0),(.int .i64 0),(.int .i64 0),(.int .i64 0),(.int .i64 0),(.int .i64 0),(.int .i64 0),(.int .i64 0),(.int .i64 0),(.int .i64 0),(.int .i64 0),(.int .i64 0),(.int .i64 0),(.int .i64 0),(.lst 0 [] true),(.bool false)])
 (.alt (.wr false (some 33) none (.bsl false true 64 3 [(.int .i64 0),(.int .u8 0),(.int .i64 0)] 4 [(0,3,(.t 26)),(3,3,(.t 28)),(6,3,(.t 30)),(9,3,(.t 32))])
 (.cl true (some 34) none (.c (.fn (.func 17) [] [])) [(zu 2)]
 (zk 35 19 [.t 24,.t 33,(zi 3),.t 34,(zi 0),(zi 0)]
 (zm 23 35
 (ze 36 23 0
 (ze 37 23 1
 (zs 36 6 36
 (zm 7 37
 .done)))))))) (.cl true (some 34) none (.c (.fn (.func 17) [] [])) [(zu 2)]
 (.wr false (some 33) none (.bsl false true 64 3 [(.int .i64 0),(.int .u8 0),(.int .i64 0)] 4 [(0,3,(.t 26)),(3,3,(.t 28)),(6,3,(.t 30)),(9,3,(.t 32))])
 (zk 35 19 [.t 24,.t 33,(zi 3),.t 34,(zi 0),(zi 0)]
 (zm 23 35
 (ze 36 23 0
 (ze 37 23 1
 (zs 36 6 36
 (zm 7 37
 .done)))))))))))))))))))))
def Qp8:AT:=(zm 38 4
 (zn 39 0 38
 (zc .eql 40 39 1
 (zm 41 40
 (zmt 42 41 4
 (zt 43 41 (.iaddr none 3 (.t 42) (zi 0))
 (zt 44 41 (.load true 3 (.t 43))
 (zt 45 41 (.load true 2 (.t 2))
 (zt 46 41 (.build [(.int .i64 0),(.int .u8 0),(.int .i64 0)] [(0,1,(zi 1)),(1,2,(.t 45))])
 (zt 47 41 (.eqs false [.i,.i,.i] (.t 44) (.t 46))
 (zq 48 41 47
 (zm 49 48
 (zat 50 49 0 6
 (zlt 51 49 1 50
 (znt 52 49 0 51
 (zct .eql 53 49 52 3
 (zq 54 49 53
 (zm 55 54
 (zat 56 55 2 6
 (zat 57 55 32 56
 (zlt 58 55 1 57
 (znt 59 55 0 58
 (zct .eql 60 55 59 2
 (zq 61 55 60
 (zm 62 61
 (zat 63 62 0 6
 (zlt 64 62 1 63
 (zt 65 62 (.iaddr none 1 (.t 64) (zi 0))
 (zlt 66 62 1 65
 (zat 67 62 0 6
 (zlt 68 62 1 67
 (zt 69 62 (.iaddr none 1 (.t 68) (zi 1))
 (zlt 70 62 1 69
 (zbt .eql 71 62 66 70
 (zq 72 62 71
 (zm 73 72
 (zat 74 73 0 6
 (zlt 75 73 1 74
 (zt 76 73 (.iaddr none 1 (.t 75) (zi 0))
 (zlt 77 73 1 76
 (zat 78 73 2 6
 (zat 79 73 0 78
 (zt 80 73 (.iaddr (some 32) 1 (.t 79) (zi 5))
 (zlt 81 73 1 80
 (zbt .eql 82 73 77 81
 (zq 83 73 82
 (zm 84 83
 (zat 85 84 0 6
 (zlt 86 84 1 85
 (zt 87 84 (.iaddr none 1 (.t 86) (zi 0))
 (zlt 88 84 1 87
 (zat 89 84 2 6
 (zat 90 84 32 89
 (zlt 91 84 1 90
 (zt 92 84 (.iaddr none 1 (.t 91) (zi 0))
 (zlt 93 84 1 92
 (zbt .eql 94 84 88 93
 (zq 95 84 94
 (zm 96 95
 (zat 97 96 0 6
 (zmt 101 96 5
 (.alt (zlt 98 96 1 97
 (zt 99 96 (.iaddr none 1 (.t 98) (zi 2))
 (.alt (zlt 100 96 1 99
 (.cl false (some 102) (some (96,true)) (.c (.fn (.func 20) [] [])) [(.t 101),(zi 3)]
 (zbt .eql 103 96 100 102
 (zq 104 96 103
 (zm 105 104
 (zat 106 105 2 6
 (zat 107 105 32 106
 (zlt 108 105 1 107
 (zt 109 105 (.iaddr none 1 (.t 108) (zi 1))
 (zlt 110 105 1 109
 (zat 111 105 0 6
 (zlt 112 105 1 111
 (zt 113 105 (.iaddr none 1 (.t 112) (zi 0))
 (zlt 114 105 1 113
 (zbt .neq 115 105 110 114
 (zq 116 105 115
 (zm 0 116
 .done))))))))))))))))) (.cl false (some 102) (some (96,true)) (.c (.fn (.func 20) [] [])) [(.t 101),(zi 3)]
 (zlt 100 96 1 99
 (zbt .eql 103 96 100 102
 (zq 104 96 103
 (zm 105 104
 (zat 106 105 2 6
 (zat 107 105 32 106
 (zlt 108 105 1 107
 (zt 109 105 (.iaddr none 1 (.t 108) (zi 1))
 (zlt 110 105 1 109
 (zat 111 105 0 6
 (zlt 112 105 1 111
 (zt 113 105 (.iaddr none 1 (.t 112) (zi 0))
 (zlt 114 105 1 113
 (zbt .neq 115 105 110 114
 (zq 116 105 115
 (zm 0 116
 .done)))))))))))))))))))) (.cl false (some 102) (some (96,true)) (.c (.fn (.func 20) [] [])) [(.t 101),(zi 3)]
 (zlt 98 96 1 97
 (zt 99 96 (.iaddr none 1 (.t 98) (zi 2))
 (zlt 100 96 1 99
 (zbt .eql 103 96 100 102
 (zq 104 96 103
 (zm 105 104
 (zat 106 105 2 6
 (zat 107 105 32 106
 (zlt 108 105 1 107
 (zt 109 105 (.iaddr none 1 (.t 108) (zi 1))
 (zlt 110 105 1 109
 (zat 111 105 0 6
 (zlt 112 105 1 111
 (zt 113 105 (.iaddr none 1 (.t 112) (zi 0))
 (zlt 114 105 1 113
 (zbt .neq 115 105 110 114
 (zq 116 105 115
 (zm 0 116
 .done)))))))))))))))))))))))))))))))))))))))))))))))))))))))))))))))))))))))))))))))))
def proofmarklaw25_works:AF:=⟨117,[.tmp 0],
 (zg Qyi []
 (zg Qyh [8,9,10]
 (zg Qyg [11,12,13,14,15,16,17,18,19,20,21]
 (zg Qt3 [22]
 (zg Qt2 [24,25,26,27,28,29,30,31,32,33,34,35,23,36,37,7]
 (zg Qp8 [38,39,40,41,42,43,44,45,46,47,48,49,50,51,52,53,54,55,56,57,58,59,60,61,62,63,64,65,66,67,68,69,70,71,72,73,74,75,76,77,78,79,80,81,82,83,84,85,86,87,88,89,90,91,92,93,94,95,96,97,98,99,100,101,102,103,104,105,106,107,108,109,110,111,112,113,114,115,116]
 .ret))))))⟩
abbrev Xv:Nat:=8
/- proofmark/proofmarklaw25.plain -/
def zq6_0:AT:=(zr 2 (.mov (.c (.lst 0 [] true)))
 .done)
def zq6_1:AT:=(zr 3 (.mov (.c (.lst 0 [] true)))
 .done)
def zq6_2:AT:=(zr 4 (.mov (zi 0))
 .done)
def zq6_3:AT:=(zm 5 4
 (zm 6 0
 (zn 7 0 6
 (zb .lss 8 5 7
 .done))))
def zq6_4:AT:=(zm 11 3
 (zm 12 0
 (zm 13 4
 (zx 14 3 12 13
 (za 15 0 14
 (zl 16 1 15
 (zm 17 0
 (zm 18 4
 (zx 19 3 17 18
 (za 20 1 19
 (za 21 0 20
 (zl 22 1 21
 (zm 23 0
 (zm 24 4
 (zx 25 3 23 24
 (za 26 1 25
 (za 27 1 26
 (zl 28 1 27
 (zr 29 (.build [(.int .i64 0),(.int .u8 0),(.int .i64 0)] [(0,1,(.t 16)),(1,1,(.t 22)),(2,1,(.t 28))])
 (.wr false (some 30) none (.bsl false true 28 3 [(.int .i64 0),(.int .u8 0),(.int .i64 0)] 1 [(0,3,(.t 29))])
 (.wr false (some 31) none (.app 28 3 24 false (.t 11) (.t 30))
 (zm 3 31
 .done))))))))))))))))))))))
def zq6_5:AT:=(zm 9 4
 (zc .add 10 9 1
 (zm 4 10
 .done)))
def zq6_6:AT:=(zm 32 3
 (zm 2 32
 .done))
def Xk:AF:=⟨33,[.tmp 2],
 (zg zq6_0 []
 (zg zq6_1 []
 (.seq (zg zq6_2 []
 (.block 0 (.loop (.seq (zg zq6_3 [5,6,7]
 (zw 8
 .skip
 (.exit 0)))
 (.seq (.block 1 (.reg zq6_4 [11,12,13,14,15,16,17,18,19,20,21,22,23,24,25,26,27,28,29,30,31]))
 (.reg zq6_5 [9,10]))))))
 (zg zq6_6 [32]
 .ret))))⟩
abbrev Qan:Nat:=9
/- proofmark/proofmarkref25.Has -/
def zq7_0:AT:=(.wr false (some 3) none (.box 28 (.t 1))
 (zr 4 (.mov (.c (.bool false)))
 .done))
def zq7_1:AT:=(zr 5 (.mov (zi 0))
 .done)
def zq7_2:AT:=(zm 6 5
 (zm 7 0
 (zn 8 0 7
 (zb .lss 9 6 8
 .done))))
def zq7_3:AT:=(zm 12 0
 (zm 13 5
 (zx 14 3 12 13
 (zr 15 (.load true 3 (.t 14))
 (zr 16 (.load true 3 (.t 3))
 (zr 17 (.eqs false [.i,.i,.i] (.t 15) (.t 16))
 .done))))))
def zq7_4:AT:=(zr 4 (.mov (.c (.bool true)))
 .done)
def zq7_5:AT:=(zm 10 5
 (zc .add 11 10 1
 (zm 5 11
 .done)))
def zq7_6:AT:=(zr 4 (.mov (.c (.bool false)))
 .done)
def XE:AF:=⟨18,[.tmp 4],
 (zg zq7_0 []
 (.seq (zg zq7_1 []
 (.block 0 (.loop (.seq (zg zq7_2 [6,7,8]
 (zw 9
 .skip
 (.exit 0)))
 (.seq (.block 1 (zg zq7_3 [12,13,14,15,16]
 (zw 17
 (zg zq7_4 []
 .ret)
 .skip)))
 (.reg zq7_5 [10,11]))))))
 (zg zq7_6 []
 .ret)))⟩
abbrev QbF:Nat:=10
abbrev Qqx:Nat:=11
/- proofmark/relate.Sorted -/
def zq9_0:AT:=(zr 2 (.mov (.c (.lst 0 [] true)))
 .done)
def zq9_1:AT:=(zm 4 0
 (zk 5 29 [.t 4]
 (zm 3 5
 .done)))
def zq9_2:AT:=(zm 6 3
 (zk 7 30 [.t 6,(.c (.fn (.func 31) [] []))]
 .done))
def zq9_3:AT:=(zm 8 3
 (zk 9 32 [.t 8]
 (zm 2 9
 .done)))
def ZU:AF:=⟨10,[.tmp 2],
 (zg zq9_0 []
 (zg zq9_1 [4,5]
 (zg zq9_2 [6,7]
 (zg zq9_3 [8,9]
 .ret))))⟩
abbrev QfI:Nat:=12
/- proofmark/proofmarkref25.Sorted -/
def zqa_0:AT:=(zr 2 (.mov (.c (.lst 0 [] true)))
 .done)
def zqa_1:AT:=(zr 3 (.mov (.c (.lst 0 [] true)))
 .done)
def zqa_2:AT:=(zr 4 (.mov (zi 0))
 .done)
def zqa_3:AT:=(zm 6 4
 (zm 7 0
 (zn 8 0 7
 (zb .lss 9 6 8
 .done))))
def zqa_4:AT:=(zm 12 3
 (zm 13 0
 (zm 14 4
 (zx 15 3 13 14
 (zr 16 (.load true 3 (.t 15))
 (zk 17 10 [.t 12,.t 16]
 .done))))))
def zqa_5:AT:=(zm 18 3
 (zm 19 0
 (zm 20 4
 (zx 21 3 19 20
 (zr 22 (.load true 3 (.t 21))
 (.wr false (some 23) none (.bsl false true 28 3 [(.int .i64 0),(.int .u8 0),(.int .i64 0)] 1 [(0,3,(.t 22))])
 (.wr false (some 24) none (.app 28 3 24 false (.t 18) (.t 23))
 (zm 3 24
 .done))))))))
def zqa_6:AT:=(zm 25 3
 (zn 26 0 25
 (zc .sub 27 26 1
 (zm 5 27
 .done))))
def Qt1:AT:=(zm 28 5
 (zc .gtr 29 28 0
 (zm 30 29
 (zmt 31 30 3
 (zmt 32 30 5
 (zxt 33 30 3 31 32
 (zt 34 30 (.load true 3 (.t 33))
 (zmt 35 30 3
 (zmt 36 30 5
 (zct .sub 37 30 36 1
 (zxt 38 30 3 35 37
 (zt 39 30 (.load true 3 (.t 38))
 (.cl false (some 40) (some (30,true)) (.c (.fn (.func 33) [] [])) [(.t 34),(.t 39)]
 (zq 41 30 40
 .done))))))))))))))
def Qt0:AT:=(zm 44 3
 (zm 45 5
 (zm 46 3
 (zm 47 5
 (zc .sub 48 47 1
 (zm 49 3
 (zm 50 5
 (zc .sub 51 50 1
 (zx 52 3 49 51
 (zr 53 (.load true 3 (.t 52))
 (zm 54 3
 (zm 55 5
 (zx 56 3 54 55
 (zr 57 (.load true 3 (.t 56))
 (zx 58 3 44 45
 (zs 3 58 53
 (zx 59 3 46 48
 (zs 3 59 57
 .done))))))))))))))))))
def QtZ:AT:=(zm 42 5
 (zc .sub 43 42 1
 (zm 5 43
 .done)))
def QAa:AT:=(zm 10 4
 (zc .add 11 10 1
 (zm 4 11
 .done)))
def Qz9:AT:=(zm 60 3
 (zm 2 60
 .done))
def Xe:AF:=⟨61,[.tmp 2],
 (zg zqa_0 []
 (zg zqa_1 []
 (.seq (zg zqa_2 []
 (.block 0 (.loop (.seq (zg zqa_3 [6,7,8]
 (zw 9
 .skip
 (.exit 0)))
 (.seq (.block 1 (.seq (zg zqa_4 [12,13,14,15,16]
 (zw 17
 (.exit 1)
 .skip))
 (zg zqa_5 [18,19,20,21,22,23,24]
 (zg zqa_6 [25,26,27]
 (.block 2 (.loop (.seq (zg Qt1 [28,29,30,31,32,33,34,35,36,37,38,39,40]
 (zw 41
 .skip
 (.exit 2)))
 (.seq (.block 3 (.reg Qt0 [44,45,46,47,48,49,50,51,52,53,54,55,56,57,58,59]))
 (.reg QtZ [42,43])))))))))
 (.reg QAa [10,11]))))))
 (zg Qz9 [60]
 .ret))))⟩
abbrev ZY:Nat:=13
/- proofmark/relate.Meet -/
def zqb_0:AT:=(zr 4 (.mov (.c (.lst 0 [] true)))
 .done)
def zqb_1:AT:=(zm 6 1
 (zk 7 34 [.t 6]
 (.wr false (some 5) none (.new 71 [(.val (.map none))])
 (zs 1 5 7
 .done))))
def zqb_2:AT:=(zm 8 0
 (zk 9 12 [.t 8]
 (zr 10 (.mkfn (.func 36) [] [(.t 5)])
 (zk 11 35 [.t 9,.t 10]
 (zm 4 11
 .done)))))
def Qb9:AF:=⟨12,[.tmp 4],
 (zg zqb_0 []
 (zg zqb_1 [6,7]
 (zg zqb_2 [8,9,10,11]
 .ret)))⟩
abbrev Qiw:Nat:=14
abbrev Qqw:Nat:=15
abbrev QwD:Nat:=16
/- proofmark/proofmarklaw25.function -/
def QDO:AT:=(.wr false (some 2) none (.new 39 [(.str []),(.int .i64 0),(.lst 0 [] true),(.int .i64 0),(.lst 0 [] true)])
 .done)
def QDN:AT:=(zm 7 0
 (zr 8 (.bin .rem (.t 7) (zu 5))
 (zr 9 (.conv .i64 (.t 8))
 (zm 3 9
 .done))))
def zqe_2:AT:=(zr 10 (.build [(.int .u8 0),(.int .u8 0),(.int .u8 0),(.int .u8 0),(.int .i64 0)] [(0,1,(zu 4)),(2,1,(zu 1))])
 (.wr false (some 11) none (.bsl false true 77 5 [(.int .u8 0),(.int .u8 0),(.int .u8 0),(.int .u8 0),(.int .i64 0)] 1 [(0,5,(.t 10))])
 (.wr false (some 12) none (.bsl false false 36 1 [(.lst 0 [] true)] 1 [(0,1,(.t 11))])
 (zm 4 12
 .done))))
def zqe_3:AT:=(zm 13 3
 (zc .gtr 14 13 0
 .done))
def zqe_4:AT:=(zm 15 3
 (zr 16 (.bin .mul (.c (.int .i64 (-8))) (.t 15))
 (zr 17 (.build [(.int .u8 0),(.int .u8 0),(.int .u8 0),(.int .u8 0),(.int .i64 0)] [(0,1,(zu 22)),(1,1,(zu 2)),(2,1,(zu 2)),(4,1,(.t 16))])
 (zm 18 3
 (zr 19 (.bin .mul (zi 8) (.t 18))
 (zr 20 (.build [(.int .u8 0),(.int .u8 0),(.int .u8 0),(.int .u8 0),(.int .i64 0)] [(0,1,(zu 22)),(1,1,(zu 2)),(2,1,(zu 2)),(4,1,(.t 19))])
 (zr 21 (.build [(.int .u8 0),(.int .u8 0),(.int .u8 0),(.int .u8 0),(.int .i64 0)] [(0,1,(zu 4)),(2,1,(zu 1))])
 (.wr false (some 22) none (.bsl false true 77 5 [(.int .u8 0),(.int .u8 0),(.int .u8 0),(.int .u8 0),(.int .i64 0)] 3 [(0,5,(.t 17)),(5,5,(.t 20)),(10,5,(.t 21))])
 (.wr false (some 23) none (.bsl false false 36 1 [(.lst 0 [] true)] 1 [(0,1,(.t 22))])
 (zm 4 23
 .done))))))))))
def zqe_5:AT:=(zm 25 4
 (zk 26 40 [.t 25,(zi 0)]
 (zk 27 39 [.t 26]
 (zm 24 27
 (ze 28 24 0
 (ze 29 24 1
 (.wr false (some 6) none (.new 82 [(.int .i64 0),(.int .i64 0),(.int .i64 0)])
 (zm 5 28
 (zs 3 6 29
 .done)))))))))
def zqe_6:AT:=(zm 30 5
 (zn 31 0 30
 (zc .neq 32 31 1
 .done)))
def zqe_7:AT:=(zr 33 (.build [(.str []),(.int .i64 0),(.lst 0 [] true),(.int .i64 0),(.lst 0 [] true)] [])
 (zs 5 2 33
 .done))
def zqe_8:AT:=(zm 34 5
 (zr 35 (.iaddr none 5 (.t 34) (zi 0))
 (zr 36 (.load true 5 (.t 35))
 (zs 5 2 36
 .done))))
def proofmarklaw25_function:AF:=⟨37,[.cell 2 true 5],
 (zg QDO []
 (zg QDN [7,8,9]
 (zg zqe_2 [10,11,12]
 (.seq (zg zqe_3 [13]
 (zw 14
 (.reg zqe_4 [15,16,17,18,19,20,21,22,23])
 .skip))
 (zg zqe_5 [25,26,27,24,28,29,6]
 (.seq (zg zqe_6 [30,31]
 (zw 32
 (zg zqe_7 [33]
 .ret)
 .skip))
 (zg zqe_8 [34,35,36]
 .ret)))))))⟩
abbrev Qw:Nat:=17
/- proofmark/term.New -/
def zqf_0:AT:=(zr 0 (.mov (.c (.val (.pointer none))))
 .done)
def zqf_1:AT:=(.wr false (some 1) none .mkmap
 (zr 2 (.build [(.lst 0 [] true),(.val (.map none)),(.lst 0 [] true),(.lst 0 [] true)] [(1,1,(.t 1))])
 (.wr false (some 3) none (.box 93 (.t 2))
 (zm 0 3
 .done))))
def Qid:AF:=⟨4,[.tmp 0],
 (zg zqf_0 []
 (zg zqf_1 [1,2,3]
 .ret))⟩
abbrev QoA:Nat:=18
/- proofmark/relate.Fresh -/
def Qd4:AT:=(.wr false (some 6) none (.box 41 (.t 0))
 (.wr false (some 8) none (.box 3 (.t 2))
 (.wr false (some 9) none (.box 39 (.t 3))
 (.wr false (some 12) none (.new 49 [(.lst 0 [] true),(.int .i64 0),(.int .i64 0),(.int .i64 0),(.int .i64 0),(.int .i64 0),(.int .i64 0),(.int .i64 0),(.int .i64 0),(.int .i64 0),(.int .i64 0),(.int .i64 0),(.int .i64 0),(.int .i64 0),(.int .i64 0),(.int .i64 0),(.int .i64 0),(.int .i64 0),(.int .i64 0),(.int .i64 0),(.int .i64 0),(.int .i64 0),(.int .i64 0),(.int .i64 0),(.int .i64 0),(.int .i64 0),(.int .i64 0),(.int .i64 0),(.int .i64 0),(.int .i64 0),(.int .i64 0),(.int .i64 0),(.int .i64 0),(.int .i64 0),(.lst 0 [] true),(.bool false)])
 (zr 13 (.mov (zi 0))
 .done)))))
def Qd3:AT:=(zl 31 1 6
 (zr 32 (.load true 5 (.t 9))
 (zm 33 4
 (zm 34 5
 (zk 35 24 [.t 31,.t 32,.t 33,.t 34]
 (zm 30 35
 (ze 36 30 0
 (ze 37 30 1
 (.wr false (some 14) none (.new 47 [(.int .i64 0),(.int .i64 0),(.int .i64 0),(.int .i64 0),(.int .i64 0),(.int .i64 0),(.int .i64 0),(.int .i64 0),(.int .i64 0),(.int .i64 0),(.int .i64 0),(.int .i64 0),(.int .i64 0),(.int .i64 0),(.int .i64 0),(.int .i64 0),(.int .i64 0),(.int .i64 0),(.int .i64 0),(.int .i64 0),(.int .i64 0),(.int .i64 0),(.int .i64 0),(.int .i64 0),(.int .i64 0),(.int .i64 0),(.int .i64 0),(.int .i64 0),(.int .i64 0),(.int .i64 0),(.int .i64 0),(.int .i64 0),(.lst 0 [] true),(.bool false)])
 (.wr false (some 15) none (.new 2 [(.int .i64 0)])
 (zs 34 14 36
 (zs 1 15 37
 .done))))))))))))
def Qd2:AT:=(zl 38 1 8
 (zr 39 (.maxi (zi 0) (.t 38))
 (zr 41 (.load true 34 (.t 14))
 (.alt (.wr true (some 40) none (.mksl 44 1 8 [(.int .i64 0)] (.t 39) (.t 39))
 (zr 42 (.build [(.lst 0 [] true),(.int .i64 0),(.int .i64 0),(.int .i64 0),(.int .i64 0),(.int .i64 0),(.int .i64 0),(.int .i64 0),(.int .i64 0),(.int .i64 0),(.int .i64 0),(.int .i64 0),(.int .i64 0),(.int .i64 0),(.int .i64 0),(.int .i64 0),(.int .i64 0),(.int .i64 0),(.int .i64 0),(.int .i64 0),(.int .i64 0),(.int .i64 0),(.int .i64 0),(.int .i64 0),(.int .i64 0),(.int .i64 0),(.int .i64 0),(.int .i64 0),(.int .i64 0),(.int .i64 0),(.int .i64 0),(.int .i64 0),(.int .i64 0),(.int .i64 0),(.lst 0 [] true),(.bool false)] [(0,1,(.t 40)),(2,34,(.t 41))])
 (.wr true (some 16) none (.new 49 [(.lst 0 [] true),(.int .i64 0),(.int .i64 0),(.int .i64 0),(.int .i64 0),(.int .i64 0),(.int .i64 0),(.int .i64 0),(.int .i64 0),(.int .i64 0),(.int .i64 0),(.int .i64 0),(.int .i64 0),(.int .i64 0),(.int .i64 0),(.int .i64 0),(.int .i64 0),(.int .i64 0),(.int .i64 0),(.int .i64 0),(.int .i64 0),(.int .i64 0),(.int .i64 0),(.int .i64 0),(.int .i64 0),(.int .i64 0),(.int .i64 0),(.int .i64 0),(.int .i64 0),(.int .i64 0),(.int .i64 0),(.int .i64 0),(.int .i64 0),(.int .i64 0),(.lst 0 [] true),(.bool false)])
 (zs 36 16 42
 .done)))) (.wr true (some 16) none (.new 49 [(.lst 0 [] true),(.int .i64 0),(.int .i64 0),(.int .i64 0),(.int .i64 0),(.int .i64 0),(.int .i64 0),(.int .i64 0),(.int .i64 0),(.int .i64 0),(.int .i64 0),(.int .i64 0),(.int .i64 0),(.int .i64 0),(.int .i64 0),(.int .i64 0),(.int .i64 0),(.int .i64 0),(.int .i64 0),(.int .i64 0),(.int .i64 0),(.int .i64 0),(.int .i64 0),(.int .i64 0),(.int .i64 0),(.int .i64 0),(.int .i64 0),(.int .i64 0),(.int .i64 0),(.int .i64 0),(.int .i64 0),(.int .i64 0),(.int .i64 0),(.int .i64 0),(.lst 0 [] true),(.bool false)])
 (.wr true (some 40) none (.mksl 44 1 8 [(.int .i64 0)] (.t 39) (.t 39))
 (zr 42 (.build [(.lst 0 [] true),(.int .i64 0),(.int .i64 0),(.int .i64 0),(.int .i64 0),(.int .i64 0),(.int .i64 0),(.int .i64 0),(.int .i64 0),(.int .i64 0),(.int .i64 0),(.int .i64 0),(.int .i64 0),(.int .i64 0),(.int .i64 0),(.int .i64 0),(.int .i64 0),(.int .i64 0),(.int .i64 0),(.int .i64 0),(.int .i64 0),(.int .i64 0),(.int .i64 0),(.int .i64 0),(.int .i64 0),(.int .i64 0),(.int .i64 0),(.int .i64 0),(.int .i64 0),(.int .i64 0),(.int .i64 0),(.int .i64 0),(.int .i64 0),(.int .i64 0),(.lst 0 [] true),(.bool false)] [(0,1,(.t 40)),(2,34,(.t 41))])
 (zs 36 16 42
 .done))))))))
def Qd1:AT:=(.wr false (some 43) none .mkmap
 (zr 44 (.build [(.val (.map none))] [(0,1,(.t 43))])
 (.wr false (some 17) none (.new 96 [(.val (.map none))])
 (zs 1 17 44
 .done))))
def Qd0:AT:=(zm 45 1
 (zk 46 12 [.t 45]
 (zr 47 (.mkfn (.func 41) [] [(.t 8),(.t 14)])
 (zk 48 35 [.t 46,.t 47]
 (zm 1 48
 .done)))))
def QdZ:AT:=(zm 49 1
 (zn 50 0 49
 (zr 51 (.mov (zi 0))
 .done)))
def Qc3:AT:=(zb .lss 52 51 50
 .done)
def Qdu:AT:=(zx 53 3 49 51
 (zr 54 (.load true 3 (.t 53))
 (.wr false (some 19) none (.new 64 [(.int .i64 0),(.int .u8 0),(.int .i64 0)])
 (zs 3 19 54
 .done))))
def Qdt:AT:=(zr 55 (.load true 1 (.t 17))
 (za 56 0 19
 (zl 57 1 56
 (zr 58 (.build [(.int .i64 0),(.int .u8 0),(.int .i64 0)] [(0,1,(.t 57))])
 (za 59 1 19
 (zr 60 (.load true 2 (.t 59))
 (zr 61 (.build [(.int .i64 0),(.int .u8 0),(.int .i64 0)] [(1,2,(.t 60))])
 (zk 62 43 [.t 55,.t 58,.t 61]
 .done))))))))
def Qds:AT:=(zc .add 63 51 1
 (zm 51 63
 .done))
def ZN:AT:=(.wr false (some 64) none .mkmap
 (.wr false (some 20) none (.new 101 [(.val (.map none))])
 (zs 1 20 64
 .done)))
def ZM:AT:=(zm 65 1
 (zn 66 0 65
 (zr 67 (.mov (zi 0))
 .done)))
def Zf:AT:=(zb .lss 68 67 66
 .done)
def ZF:AT:=(zx 69 3 65 67
 (zr 70 (.load true 3 (.t 69))
 (.wr false (some 22) none (.new 64 [(.int .i64 0),(.int .u8 0),(.int .i64 0)])
 (zs 3 22 70
 .done))))
def ZE:AT:=(zr 71 (.load true 1 (.t 17))
 (za 72 0 22
 (zl 73 1 72
 (zr 74 (.build [(.int .i64 0),(.int .u8 0),(.int .i64 0)] [(0,1,(.t 73))])
 (zk 75 44 [.t 71,.t 74]
 (.wr false (some 23) none (.new 100 [(.int .i64 0),(.int .u8 0),(.int .i64 0)])
 (zs 3 23 75
 .done)))))))
def ZD:AT:=(zl 77 1 20
 (zr 78 (.load true 3 (.t 23))
 (zr 79 (.look true true [.i,.i,.i] (.int .i64 0) (.t 77) (.t 78))
 (zm 76 79
 (ze 80 76 0
 (ze 81 76 1
 (zm 24 80
 (zm 25 81
 .done))))))))
def ZC:AT:=(zm 82 25
 (zr 83 (.un .not (.t 82))
 (zm 84 83
 (zat 85 84 1 22
 (zat 86 84 0 85
 (zlt 87 84 1 86
 (zt 88 84 (.bin .eql (.t 87) (zu 3))
 (zq 89 84 88
 .done))))))))
def ZB:AT:=(zl 92 1 6
 (za 93 1 22
 (za 94 1 93
 (zl 95 1 94
 (.alt (zl 90 1 20
 (.alt (zr 91 (.load true 3 (.t 23))
 (zk 96 20 [.t 92,.t 95]
 (.wr false none none (.mapup true [.i,.i,.i] (.t 90) (.t 91) (.t 96))
 .done))) (zk 96 20 [.t 92,.t 95]
 (zr 91 (.load true 3 (.t 23))
 (.wr false none none (.mapup true [.i,.i,.i] (.t 90) (.t 91) (.t 96))
 .done))))) (.alt (zr 91 (.load true 3 (.t 23))
 (.alt (zl 90 1 20
 (zk 96 20 [.t 92,.t 95]
 (.wr false none none (.mapup true [.i,.i,.i] (.t 90) (.t 91) (.t 96))
 .done))) (zk 96 20 [.t 92,.t 95]
 (zl 90 1 20
 (.wr false none none (.mapup true [.i,.i,.i] (.t 90) (.t 91) (.t 96))
 .done))))) (zk 96 20 [.t 92,.t 95]
 (.alt (zl 90 1 20
 (zr 91 (.load true 3 (.t 23))
 (.wr false none none (.mapup true [.i,.i,.i] (.t 90) (.t 91) (.t 96))
 .done))) (zr 91 (.load true 3 (.t 23))
 (zl 90 1 20
 (.wr false none none (.mapup true [.i,.i,.i] (.t 90) (.t 91) (.t 96))
 .done)))))))))))
def ZA:AT:=(zc .add 97 67 1
 (zm 67 97
 .done))
def Zz:AT:=(zr 98 (.mkfn (.func 45) [] [(.t 17),(.t 20),(.t 6),(.t 15)])
 (zm 26 98
 .done))
def Zy:AT:=(zm 99 26
 (zr 100 (.build [(.int .i64 0),(.int .u8 0),(.int .i64 0)] [(0,1,(.c (.int .i64 (-1))))])
 (.cl false (some 101) none (.t 99) [(.t 100)]
 (za 102 1 16
 (zs 1 102 101
 .done)))))
def Ze:AT:=(za 103 0 16
 (zl 104 1 103
 (zn 105 0 104
 (zr 106 (.mov (zi 0))
 .done))))
def Yw:AT:=(zb .lss 107 106 105
 .done)
def YF:AT:=(zm 108 106
 (zm 27 108
 .done))
def YE:AT:=(za 109 0 16
 (zm 111 27
 (zm 112 26
 (zm 113 27
 (zr 114 (.build [(.int .i64 0),(.int .u8 0),(.int .i64 0)] [(0,1,(.t 113))])
 (.alt (zl 110 1 109
 (.cl false (some 115) none (.t 112) [(.t 114)]
 (zx 116 1 110 111
 (zs 1 116 115
 .done)))) (.cl false (some 115) none (.t 112) [(.t 114)]
 (zl 110 1 109
 (zx 116 1 110 111
 (zs 1 116 115
 .done))))))))))
def YD:AT:=(zc .add 117 106 1
 (zm 106 117
 .done))
def ZL:AT:=(zm 118 1
 (zn 119 0 118
 (zr 120 (.mov (zi 0))
 .done)))
def XA:AT:=(zb .lss 121 120 119
 .done)
def XO:AT:=(zx 122 3 118 120
 (zr 123 (.load true 3 (.t 122))
 (.wr false (some 29) none (.new 64 [(.int .i64 0),(.int .u8 0),(.int .i64 0)])
 (zs 3 29 123
 .done))))
def XN:AT:=(za 124 1 29
 (za 125 0 124
 (zl 126 1 125
 .done)))
def XM:AT:=(zr 128 (.bin .eql (.t 126) (zu 1))
 (zm 127 128
 .done))
def XL:AT:=(za 129 1 29
 (za 130 1 129
 (zm 132 26
 (za 133 1 29
 (zr 134 (.load true 2 (.t 133))
 (zr 135 (.build [(.int .i64 0),(.int .u8 0),(.int .i64 0)] [(1,2,(.t 134))])
 (za 137 2 16
 (za 138 0 137
 (.alt (zl 131 1 130
 (.cl false (some 136) none (.t 132) [(.t 135)]
 (zr 139 (.iaddr (some 32) 1 (.t 138) (.t 131))
 (zs 1 139 136
 .done)))) (.cl false (some 136) none (.t 132) [(.t 135)]
 (zl 131 1 130
 (zr 139 (.iaddr (some 32) 1 (.t 138) (.t 131))
 (zs 1 139 136
 .done)))))))))))))
def XK:AT:=(zr 141 (.bin .eql (.t 126) (zu 2))
 (zm 140 141
 .done))
def XJ:AT:=(za 142 2 16
 (za 143 32 142
 (za 145 1 29
 (za 146 1 145
 (zm 148 26
 (za 149 1 29
 (zr 150 (.load true 2 (.t 149))
 (zr 151 (.build [(.int .i64 0),(.int .u8 0),(.int .i64 0)] [(1,2,(.t 150))])
 (.alt (zl 144 1 143
 (.alt (zl 147 1 146
 (.cl false (some 152) none (.t 148) [(.t 151)]
 (zx 153 1 144 147
 (zs 1 153 152
 .done)))) (.cl false (some 152) none (.t 148) [(.t 151)]
 (zl 147 1 146
 (zx 153 1 144 147
 (zs 1 153 152
 .done)))))) (.alt (zl 147 1 146
 (.alt (zl 144 1 143
 (.cl false (some 152) none (.t 148) [(.t 151)]
 (zx 153 1 144 147
 (zs 1 153 152
 .done)))) (.cl false (some 152) none (.t 148) [(.t 151)]
 (zl 144 1 143
 (zx 153 1 144 147
 (zs 1 153 152
 .done)))))) (.cl false (some 152) none (.t 148) [(.t 151)]
 (.alt (zl 144 1 143
 (zl 147 1 146
 (zx 153 1 144 147
 (zs 1 153 152
 .done)))) (zl 147 1 146
 (zl 144 1 143
 (zx 153 1 144 147
 (zs 1 153 152
 .done))))))))))))))))
def XI:AT:=(zc .add 154 120 1
 (zm 120 154
 .done))
def Qae:AT:=(zr 155 (.load true 36 (.t 16))
 (.alt (zl 156 1 15
 (zs 36 12 155
 (zm 13 156
 .done))) (zs 36 12 155
 (zl 156 1 15
 (zm 13 156
 .done)))))
def relate_Fresh:AF:=⟨157,[.cell 12 true 36,.tmp 13],
 (zg Qd4 []
 (zg Qd3 [31,32,33,34,35,30,36,37]
 (zg Qd2 [38,39,40,41,42]
 (zg Qd1 [43,44]
 (zg Qd0 [45,46,47,48]
 (.seq (zg QdZ []
 (.block 0 (.loop (zg Qc3 []
 (.seq (zw 52
 .skip
 (.exit 0))
 (.seq (.block 1 (zg Qdu [53,54]
 (.reg Qdt [55,56,57,58,59,60,61,62])))
 (.reg Qds [63])))))))
 (zg ZN [64]
 (.seq (zg ZM []
 (.block 2 (.loop (zg Zf []
 (.seq (zw 68
 .skip
 (.exit 2))
 (.seq (.block 3 (zg ZF [69,70]
 (zg ZE [71,72,73,74,75]
 (zg ZD [77,78,79,76,80,81,24]
 (zg ZC [82,83,84,85,86,87,88]
 (zw 89
 (.reg ZB [90,91,92,93,94,95,96])
 .skip))))))
 (.reg ZA [97])))))))
 (zg Zz [98]
 (zg Zy [99,100,101,102]
 (.seq (zg Ze [103,104]
 (.block 4 (.loop (zg Yw []
 (.seq (zw 107
 .skip
 (.exit 4))
 (.seq (.block 5 (zg YF [108]
 (.reg YE [109,110,111,112,113,114,115,116])))
 (.reg YD [117])))))))
 (.seq (zg ZL []
 (.block 6 (.loop (zg XA []
 (.seq (zw 121
 .skip
 (.exit 6))
 (.seq (.block 7 (zg XO [122,123]
 (zg XN [124,125]
 (.block 8 (zg XM [128]
 (zw 127
 (.reg XL [129,130,131,132,133,134,135,136,137,138,139])
 (zg XK [141]
 (zw 140
 (.reg XJ [142,143,144,145,146,147,148,149,150,151,152,153])
 .skip))))))))
 (.reg XI [154])))))))
 (zg Qae [155,156]
 .ret)))))))))))))⟩
abbrev QaP:Nat:=19
/- proofmark/norm.Const -/
def zqh_0:AT:=(zr 4 (.mov (zi 0))
 .done)
def zqh_1:AT:=(zm 5 0
 (zm 6 1
 (zr 7 (.build [(.int .u8 0),(.int .i64 0),(.int .i64 0),(.int .u8 0),(.int .i64 0),(.int .i64 0)] [(0,1,(zu 1)),(1,1,(.t 6))])
 (zk 8 46 [.t 5,.t 7]
 (zm 4 8
 .done)))))
def QdH:AF:=⟨9,[.tmp 4],
 (zg zqh_0 []
 (zg zqh_1 [5,6,7,8]
 .ret))⟩
abbrev Qky:Nat:=20
/- proofmark/proofmarkref25.There -/
def Qgz:AT:=(.wr false (some 3) none (.box 28 (.t 0))
 (zr 6 (.mov (.c (.bool false)))
 .done))
def Qgy:AT:=(za 8 0 3
 (zl 9 1 8
 (zr 10 (.bin .geq (.t 9) (.c (.int .i64 (-1))))
 (zm 11 10
 (zat 12 11 0 3
 (zlt 13 11 1 12
 (zmt 14 11 1
 (zbt .lss 15 11 13 14
 (zq 16 11 15
 (zm 7 16
 .done))))))))))
def Qgx:AT:=(za 17 1 3
 (zl 18 1 17
 .done))
def Qgw:AT:=(zr 20 (.bin .eql (.t 18) (zu 1))
 (zm 19 20
 .done))
def Qgv:AT:=(zm 21 7
 (zm 22 21
 (zat 23 22 2 3
 (zlt 24 22 1 23
 (zct .geq 25 22 24 1
 (zq 26 22 25
 (zm 27 26
 (zat 28 27 2 3
 (zlt 29 27 1 28
 (zct .leq 30 27 29 31
 (zq 31 27 30
 (zm 32 31
 (zat 33 32 2 3
 (zlt 34 32 1 33
 (zct .neq 35 32 34 2
 (zq 36 32 35
 (zm 6 36
 .done)))))))))))))))))
def Qgu:AT:=(zr 38 (.bin .eql (.t 18) (zu 2))
 (zm 37 38
 .done))
def Qgt:AT:=(zm 39 7
 (zm 40 39
 (zat 41 40 2 3
 (zlt 42 40 1 41
 (zct .geq 43 40 42 0
 (zq 44 40 43
 (zm 45 44
 (zat 46 45 2 3
 (zlt 47 45 1 46
 (zmt 48 45 2
 (zbt .lss 49 45 47 48
 (zq 50 45 49
 (zm 6 50
 .done)))))))))))))
def Qgs:AT:=(zm 51 7
 (zm 52 51
 (zat 53 52 1 3
 (zlt 54 52 1 53
 (zt 55 52 (.bin .eql (.t 54) (zu 3))
 (zq 56 52 55
 (zm 6 56
 .done)))))))
def Qi:AF:=⟨57,[.tmp 6],
 (zg Qgz []
 (zg Qgy [8,9,10,11,12,13,14,15,16]
 (.seq (zg Qgx [17]
 (.block 0 (zg Qgw [20]
 (zw 19
 (zg Qgv [21,22,23,24,25,26,27,28,29,30,31,32,33,34,35,36]
 .ret)
 (zg Qgu [38]
 (zw 37
 (zg Qgt [39,40,41,42,43,44,45,46,47,48,49,50]
 .ret)
 .skip))))))
 (zg Qgs [51,52,53,54,55,56]
 .ret))))⟩
abbrev Qam:Nat:=21
/- proofmark/proofmarklaw25.holds -/
def Qyf:AT:=(.wr false (some 8) none (.box 49 (.t 1))
 (zr 14 (.mov (.c (.bool false)))
 .done))
def Qye:AT:=(zm 26 2
 (zm 27 3
 (zk 28 47 [.t 26,.t 27]
 (zm 15 28
 .done))))
def Qyd:AT:=(zr 29 (.load true 36 (.t 8))
 (zm 30 3
 (zk 31 28 [.t 29,.t 30]
 (zm 16 31
 .done))))
def Qyc:AT:=(zr 17 (.mov (.c (.bool false)))
 .done)
def Qyb:AT:=(zr 18 (.mov (zi 0))
 .done)
def Qp7:AT:=(zm 32 18
 (zm 33 2
 (zn 34 0 33
 (zb .lss 35 32 34
 .done))))
def Qp6:AT:=(zr 19 (.mov (.c (.bool false)))
 .done)
def Qp5:AT:=(zr 20 (.mov (zi 0))
 .done)
def Qi3:AT:=(zm 38 20
 (zm 39 15
 (zn 40 0 39
 (zb .lss 41 38 40
 .done))))
def Qi2:AT:=(zm 44 19
 (zm 45 44
 (zmf 46 45 15
 (zmf 47 45 20
 (zxf 48 45 1 46 47
 (zlf 49 45 1 48
 (zmf 50 45 2
 (zmf 51 45 18
 (zxf 52 45 3 50 51
 (zaf 53 45 0 52
 (zlf 54 45 1 53
 (zbf .eql 55 45 49 54
 (zp 56 45 55
 (zm 19 56
 .done))))))))))))))
def Qdr:AT:=(zm 42 20
 (zc .add 43 42 1
 (zm 20 43
 .done)))
def Qkh:AT:=(zm 57 19
 (zr 58 (.un .not (.t 57))
 .done))
def Qkg:AT:=(zm 59 2
 (zm 60 18
 (zx 61 3 59 60
 (za 62 1 61
 (zl 63 1 62
 (zr 64 (.bin .eql (.t 63) (zu 3))
 (zm 65 64
 (zmt 66 65 17
 (zt 67 65 (.un .not (.t 66))
 (zq 68 65 67
 .done))))))))))
def Qkf:AT:=(zr 17 (.mov (.c (.bool true)))
 .done)
def Qke:AT:=(zm 69 16
 (zm 70 0
 (zm 71 2
 (zm 72 18
 (zx 73 3 71 72
 (za 74 2 73
 (zl 75 1 74
 (zk 76 20 [.t 70,.t 75]
 (zb .neq 77 69 76
 .done)))))))))
def Qkd:AT:=(zr 14 (.mov (.c (.bool false)))
 .done)
def Qkc:AT:=(zr 78 (.load true 36 (.t 8))
 (zm 79 2
 (zm 80 18
 (zx 81 3 79 80
 (za 82 0 81
 (zl 83 1 82
 (zm 85 16
 (zk 84 28 [.t 78,.t 83]
 (zb .neq 86 84 85
 (zm 87 86
 (zmf 88 87 2
 (zmf 89 87 18
 (zxf 90 87 3 88 89
 (zaf 91 87 1 90
 (zlf 92 87 1 91
 (zf 93 87 (.bin .neq (.t 92) (zu 3))
 (zmf 94 87 93
 (zmt 95 94 0
 (zt 96 94 (.load true 36 (.t 8))
 (zmt 97 94 2
 (zmt 98 94 18
 (zxt 99 94 3 97 98
 (zat 100 94 1 99
 (zlt 101 94 1 100
 (zmt 102 94 2
 (zmt 103 94 18
 (zxt 104 94 3 102 103
 (zat 105 94 2 104
 (zlt 106 94 1 105
 (zmt 108 94 16
 (.cl false (some 107) (some (94,true)) (.c (.fn (.func 27) [] [])) [(.t 95),(.t 96),(.t 101),(.t 106)]
 (zbt .neq 109 94 107 108
 (zqf 110 87 94 109
 (zp 111 87 110
 .done))))))))))))))))))))))))))))))))))
def Qkb:AT:=(zr 14 (.mov (.c (.bool false)))
 .done)
def Qka:AT:=(zm 36 18
 (zc .add 37 36 1
 (zm 18 37
 .done)))
def Qs3:AT:=(zm 113 0
 (zm 114 16
 (zk 115 48 [.t 113,.t 114]
 (zm 112 115
 (ze 116 112 0
 (ze 117 112 1
 (.wr false (some 21) none (.new 108 [(.int .u8 0),(.int .i64 0),(.int .i64 0),(.int .u8 0),(.int .i64 0),(.int .i64 0)])
 (zs 6 21 116
 (zm 22 117
 .done)))))))))
def Qs2:AT:=(zm 118 22
 (zr 119 (.un .not (.t 118))
 (zm 120 119
 (zmf 121 120 17
 (zf 122 120 (.un .not (.t 121))
 (zmf 123 120 122
 (zat 124 123 0 21
 (zlt 125 123 1 124
 (zt 126 123 (.bin .neq (.t 125) (zu 2))
 (zmt 127 123 126
 (zaf 128 127 1 21
 (zlf 129 127 1 128
 (zmf 130 127 5
 (zbf .lss 131 127 129 130
 (zpt 132 123 127 131
 (zmt 133 123 132
 (zaf 134 133 1 21
 (zlf 135 133 1 134
 (zmf 136 133 6
 (zbf .geq 137 133 135 136
 (zpt 138 123 133 137
 (zqf 139 120 123 138
 (zp 140 120 139
 .done)))))))))))))))))))))))
def Qs1:AT:=(zr 14 (.mov (.c (.bool false)))
 .done)
def Qs0:AT:=(zr 23 (.mov (.c (.int .i64 (-1))))
 .done)
def Qg4:AT:=(zm 141 23
 (zm 142 4
 (zb .lss 143 141 142
 (zm 144 143
 (zmt 145 144 17
 (zt 146 144 (.un .not (.t 145))
 (zq 147 144 146
 .done)))))))
def Qg3:AT:=(zr 24 (.mov (.c (.bool false)))
 .done)
def Qg2:AT:=(zr 25 (.mov (zi 0))
 .done)
def Qb2:AT:=(zm 150 25
 (zm 151 15
 (zn 152 0 151
 (zb .lss 153 150 152
 .done))))
def Qb1:AT:=(zm 156 24
 (zm 157 156
 (zmf 158 157 15
 (zmf 159 157 25
 (zxf 160 157 1 158 159
 (zlf 161 157 1 160
 (zmf 162 157 23
 (zbf .eql 163 157 161 162
 (zp 164 157 163
 (zm 24 164
 .done))))))))))
def Qb0:AT:=(zm 154 25
 (zc .add 155 154 1
 (zm 25 155
 .done)))
def Qg1:AT:=(zm 165 24
 (zr 166 (.un .not (.t 165))
 (zm 167 166
 (zt 168 167 (.load true 36 (.t 8))
 (zmt 169 167 23
 (.cl false (some 170) (some (167,true)) (.c (.fn (.func 28) [] [])) [(.t 168),(.t 169)]
 (zmt 171 167 16
 (zbt .eql 172 167 170 171
 (zq 173 167 172
 .done)))))))))
def Qg0:AT:=(zr 14 (.mov (.c (.bool false)))
 .done)
def QgZ:AT:=(zm 148 23
 (zc .add 149 148 1
 (zm 23 149
 .done)))
def QsZ:AT:=(zr 14 (.mov (.c (.bool true)))
 .done)
def proofmarklaw25_holds:AF:=⟨174,[.tmp 14],
 (zg Qyf []
 (zg Qye [26,27,28]
 (zg Qyd [29,30,31]
 (zg Qyc []
 (.seq (zg Qyb []
 (.block 0 (.loop (.seq (zg Qp7 [32,33,34]
 (zw 35
 .skip
 (.exit 0)))
 (.seq (.block 1 (zg Qp6 []
 (.seq (zg Qp5 []
 (.block 2 (.loop (.seq (zg Qi3 [38,39,40]
 (zw 41
 .skip
 (.exit 2)))
 (.seq (.block 3 (.reg Qi2 [44,45,46,47,48,49,50,51,52,53,54,55,56]))
 (.reg Qdr [42,43]))))))
 (.seq (zg Qkh [57]
 (zw 58
 (.exit 1)
 .skip))
 (.seq (zg Qkg [59,60,61,62,63,64,65,66,67]
 (zw 68
 (zg Qkf []
 (zg Qke [69,70,71,72,73,74,75,76]
 (zw 77
 (zg Qkd []
 .ret)
 .skip)))
 .skip))
 (zg Qkc [78,79,80,81,82,83,84,85,86,87,88,89,90,91,92,93,94,95,96,97,98,99,100,101,102,103,104,105,106,107,108,109,110]
 (zw 111
 (zg Qkb []
 .ret)
 .skip)))))))
 (.reg Qka [36,37]))))))
 (zg Qs3 [113,114,115,112,116,117]
 (.seq (zg Qs2 [118,119,120,121,122,123,124,125,126,127,128,129,130,131,132,133,134,135,136,137,138,139]
 (zw 140
 (zg Qs1 []
 .ret)
 .skip))
 (.seq (zg Qs0 []
 (.block 4 (.loop (.seq (zg Qg4 [141,142,143,144,145,146]
 (zw 147
 .skip
 (.exit 4)))
 (.seq (.block 5 (zg Qg3 []
 (.seq (zg Qg2 []
 (.block 6 (.loop (.seq (zg Qb2 [150,151,152]
 (zw 153
 .skip
 (.exit 6)))
 (.seq (.block 7 (.reg Qb1 [156,157,158,159,160,161,162,163,164]))
 (.reg Qb0 [154,155]))))))
 (zg Qg1 [165,166,167,168,169,170,171,172]
 (zw 173
 (zg Qg0 []
 .ret)
 .skip)))))
 (.reg QgZ [148,149]))))))
 (zg QsZ []
 .ret)))))))))⟩
abbrev n_proofmarklaw25_holds:Nat:=22
/- proofmark/proofmarklaw25.apart -/
def zqk_0:AT:=(.wr false (some 6) none (.box 49 (.t 1))
 (zr 10 (.mov (.c (.bool false)))
 .done))
def zqk_1:AT:=(zr 11 (.mov (.c (.lst 0 [] true)))
 .done)
def zqk_2:AT:=(zr 12 (.mov (zi 1))
 .done)
def Qp4:AT:=(zm 19 12
 (zc .lss 20 19 32
 .done))
def Qp3:AT:=(zm 23 12
 (zc .neq 24 23 2
 (zm 25 24
 (zmt 26 25 2
 (zmt 27 25 12
 (.cl false (some 28) (some (25,true)) (.c (.fn (.func 49) [] [])) [(.t 26),(zu 1),(.t 27)]
 (zt 29 25 (.un .not (.t 28))
 (zq 30 25 29
 .done))))))))
def Qp2:AT:=(zm 31 11
 (zm 32 12
 (za 33 2 6
 (za 34 0 33
 (zr 35 (.iaddr (some 32) 1 (.t 34) (.t 32))
 (zl 36 1 35
 (.wr false (some 37) none (.bsl false false 44 1 [(.int .i64 0)] 1 [(0,1,(.t 36))])
 (.wr false (some 38) none (.app 44 1 8 false (.t 31) (.t 37))
 (zm 11 38
 .done)))))))))
def Qp1:AT:=(zm 21 12
 (zc .add 22 21 1
 (zm 12 22
 .done)))
def zqk_7:AT:=(zr 13 (.mov (zi 0))
 .done)
def QrP:AT:=(zm 39 13
 (za 40 2 6
 (za 41 32 40
 (zl 42 1 41
 (zn 43 0 42
 (zb .lss 44 39 43
 .done))))))
def QrO:AT:=(zm 47 2
 (zm 48 13
 (zk 49 49 [.t 47,(zu 2),.t 48]
 (zr 50 (.un .not (.t 49))
 .done))))
def QlX:AT:=(zm 51 11
 (za 52 2 6
 (za 53 32 52
 (zl 54 1 53
 (zm 55 13
 (zx 56 1 54 55
 (zl 57 1 56
 (.wr false (some 58) none (.bsl false false 44 1 [(.int .i64 0)] 1 [(0,1,(.t 57))])
 (.wr false (some 59) none (.app 44 1 8 false (.t 51) (.t 58))
 (zm 11 59
 .done))))))))))
def QlW:AT:=(zm 45 13
 (zc .add 46 45 1
 (zm 13 46
 .done)))
def Qz8:AT:=(zr 14 (.mov (zi 0))
 .done)
def Qop:AT:=(zm 60 14
 (zm 61 11
 (zn 62 0 61
 (zb .lss 63 60 62
 .done))))
def Qoo:AT:=(zm 67 0
 (zm 68 11
 (zm 69 14
 (zx 70 1 68 69
 (zl 71 1 70
 (zk 72 48 [.t 67,.t 71]
 (zm 66 72
 (ze 73 66 0
 (ze 74 66 1
 (.wr false (some 15) none (.new 108 [(.int .u8 0),(.int .i64 0),(.int .i64 0),(.int .u8 0),(.int .i64 0),(.int .i64 0)])
 (zs 6 15 73
 (zm 16 74
 .done))))))))))))
def Qon:AT:=(zm 75 16
 (zr 76 (.un .not (.t 75))
 (zm 77 76
 (zaf 78 77 0 15
 (zlf 79 77 1 78
 (zf 80 77 (.bin .neq (.t 79) (zu 2))
 (zp 81 77 80
 (zm 82 81
 (zaf 83 82 1 15
 (zlf 84 82 1 83
 (zmf 85 82 3
 (zbf .lss 86 82 84 85
 (zp 87 82 86
 (zm 88 87
 (zaf 89 88 1 15
 (zlf 90 88 1 89
 (zmf 91 88 4
 (zbf .geq 92 88 90 91
 (zp 93 88 92
 (zm 94 93
 (zmf 95 94 11
 (zmf 96 94 14
 (zxf 97 94 1 95 96
 (zlf 98 94 1 97
 (zaf 99 94 1 6
 (zlf 100 94 1 99
 (zbf .eql 101 94 98 100
 (zp 102 94 101
 .done))))))))))))))))))))))))))))
def Qom:AT:=(zr 10 (.mov (.c (.bool false)))
 .done)
def Qol:AT:=(zr 17 (.mov (zi 0))
 .done)
def QgY:AT:=(zm 103 17
 (zm 104 14
 (zb .lss 105 103 104
 .done)))
def QgX:AT:=(zm 108 11
 (zm 109 14
 (zx 110 1 108 109
 (zl 111 1 110
 (zm 112 11
 (zm 113 17
 (zx 114 1 112 113
 (zl 115 1 114
 (zb .eql 116 111 115
 .done)))))))))
def QgW:AT:=(zr 10 (.mov (.c (.bool false)))
 .done)
def QgV:AT:=(zm 106 17
 (zc .add 107 106 1
 (zm 17 107
 .done)))
def Qok:AT:=(zr 18 (.mov (zi 0))
 .done)
def QgU:AT:=(zm 117 18
 (za 118 0 6
 (zl 119 1 118
 (zn 120 0 119
 (zb .lss 121 117 120
 .done)))))
def QgT:AT:=(zm 124 11
 (zm 125 14
 (zx 126 1 124 125
 (zl 127 1 126
 (za 128 0 6
 (zl 129 1 128
 (zm 130 18
 (zx 131 1 129 130
 (zl 132 1 131
 (zb .eql 133 127 132
 .done))))))))))
def QgS:AT:=(zr 10 (.mov (.c (.bool false)))
 .done)
def QgR:AT:=(zm 122 18
 (zc .add 123 122 1
 (zm 18 123
 .done)))
def Qoj:AT:=(zm 64 14
 (zc .add 65 64 1
 (zm 14 65
 .done)))
def Qz7:AT:=(zr 10 (.mov (.c (.bool true)))
 .done)
def Xl:AF:=⟨134,[.tmp 10],
 (zg zqk_0 []
 (zg zqk_1 []
 (.seq (zg zqk_2 []
 (.block 0 (.loop (.seq (zg Qp4 [19]
 (zw 20
 .skip
 (.exit 0)))
 (.seq (.block 1 (zg Qp3 [23,24,25,26,27,28,29]
 (zw 30
 (.reg Qp2 [31,32,33,34,35,36,37,38])
 .skip)))
 (.reg Qp1 [21,22]))))))
 (.seq (zg zqk_7 []
 (.block 2 (.loop (.seq (zg QrP [39,40,41,42,43]
 (zw 44
 .skip
 (.exit 2)))
 (.seq (.block 3 (zg QrO [47,48,49]
 (zw 50
 (.reg QlX [51,52,53,54,55,56,57,58,59])
 .skip)))
 (.reg QlW [45,46]))))))
 (.seq (zg Qz8 []
 (.block 4 (.loop (.seq (zg Qop [60,61,62]
 (zw 63
 .skip
 (.exit 4)))
 (.seq (.block 5 (zg Qoo [67,68,69,70,71,72,66,73,74]
 (.seq (zg Qon [75,76,77,78,79,80,81,82,83,84,85,86,87,88,89,90,91,92,93,94,95,96,97,98,99,100,101]
 (zw 102
 (zg Qom []
 .ret)
 .skip))
 (.seq (zg Qol []
 (.block 6 (.loop (.seq (zg QgY [103,104]
 (zw 105
 .skip
 (.exit 6)))
 (.seq (.block 7 (zg QgX [108,109,110,111,112,113,114,115]
 (zw 116
 (zg QgW []
 .ret)
 .skip)))
 (.reg QgV [106,107]))))))
 (zg Qok []
 (.block 8 (.loop (.seq (zg QgU [117,118,119,120]
 (zw 121
 .skip
 (.exit 8)))
 (.seq (.block 9 (zg QgT [124,125,126,127,128,129,130,131,132]
 (zw 133
 (zg QgS []
 .ret)
 .skip)))
 (.reg QgR [122,123]))))))))))
 (.reg Qoj [64,65]))))))
 (zg Qz7 []
 .ret))))))⟩
abbrev Qao:Nat:=23
/- proofmark/lift.Begin -/
def zql_0:AT:=(.wr false (some 4) none (.box 41 (.t 0))
 (.wr false (some 5) none (.box 39 (.t 1))
 (.wr false (some 7) none (.box 2 (.t 3))
 (.wr false (some 8) none (.new 47 [(.int .i64 0),(.int .i64 0),(.int .i64 0),(.int .i64 0),(.int .i64 0),(.int .i64 0),(.int .i64 0),(.int .i64 0),(.int .i64 0),(.int .i64 0),(.int .i64 0),(.int .i64 0),(.int .i64 0),(.int .i64 0),(.int .i64 0),(.int .i64 0),(.int .i64 0),(.int .i64 0),(.int .i64 0),(.int .i64 0),(.int .i64 0),(.int .i64 0),(.int .i64 0),(.int .i64 0),(.int .i64 0),(.int .i64 0),(.int .i64 0),(.int .i64 0),(.int .i64 0),(.int .i64 0),(.int .i64 0),(.int .i64 0),(.lst 0 [] true),(.bool false)])
 (zr 9 (.mov (zi 0))
 .done)))))
def zql_1:AT:=(zl 13 1 7
 (zr 14 (.maxi (zi 0) (.t 13))
 (zs 1 7 14
 .done)))
def zql_2:AT:=(zr 15 (.mkfn (.func 50) [] [(.t 7),(.t 4)])
 (zm 10 15
 .done))
def zql_3:AT:=(za 16 3 5
 (zl 17 1 16
 (zc .eql 18 17 0
 (zr 19 (.build [(.int .i64 0),(.int .i64 0),(.int .i64 0),(.int .i64 0),(.int .i64 0),(.int .i64 0),(.int .i64 0),(.int .i64 0),(.int .i64 0),(.int .i64 0),(.int .i64 0),(.int .i64 0),(.int .i64 0),(.int .i64 0),(.int .i64 0),(.int .i64 0),(.int .i64 0),(.int .i64 0),(.int .i64 0),(.int .i64 0),(.int .i64 0),(.int .i64 0),(.int .i64 0),(.int .i64 0),(.int .i64 0),(.int .i64 0),(.int .i64 0),(.int .i64 0),(.int .i64 0),(.int .i64 0),(.int .i64 0),(.int .i64 0),(.lst 0 [] true),(.bool false)] [(33,1,(.t 18))])
 (.wr false (some 11) none (.new 47 [(.int .i64 0),(.int .i64 0),(.int .i64 0),(.int .i64 0),(.int .i64 0),(.int .i64 0),(.int .i64 0),(.int .i64 0),(.int .i64 0),(.int .i64 0),(.int .i64 0),(.int .i64 0),(.int .i64 0),(.int .i64 0),(.int .i64 0),(.int .i64 0),(.int .i64 0),(.int .i64 0),(.int .i64 0),(.int .i64 0),(.int .i64 0),(.int .i64 0),(.int .i64 0),(.int .i64 0),(.int .i64 0),(.int .i64 0),(.int .i64 0),(.int .i64 0),(.int .i64 0),(.int .i64 0),(.int .i64 0),(.int .i64 0),(.lst 0 [] true),(.bool false)])
 (zs 34 11 19
 .done))))))
def zql_4:AT:=(zr 20 (.mov (zi 0))
 .done)
def QtY:AT:=(zc .lss 21 20 32
 .done)
def QtX:AT:=(zm 22 20
 (zm 12 22
 .done))
def QtW:AT:=(zm 23 12
 .done)
def QtV:AT:=(zc .eql 30 23 0
 (zm 29 30
 .done))
def QtU:AT:=(zm 31 12
 (zl 32 1 4
 (zk 33 20 [.t 32,(zi 0)]
 (za 34 0 11
 (zr 35 (.iaddr (some 32) 1 (.t 34) (.t 31))
 (zs 1 35 33
 .done))))))
def Qoi:AT:=(zc .eql 37 23 2
 (zm 36 37
 .done))
def Qoh:AT:=(zm 38 12
 (za 39 0 11
 (zr 40 (.iaddr (some 32) 1 (.t 39) (.t 38))
 (.wr false none none (.store 1 (.t 40) (.c (.int .i64 (-1))))
 .done))))
def Qog:AT:=(zm 24 12
 (zm 25 10
 (.cl false (some 26) none (.t 25) []
 (za 27 0 11
 (zr 28 (.iaddr (some 32) 1 (.t 27) (.t 24))
 (zs 1 28 26
 .done))))))
def Qof:AT:=(zc .add 41 20 1
 (zm 20 41
 .done))
def Qz6:AT:=(za 42 3 5
 (zl 43 1 42
 (zc .quo 44 43 8
 (zm 45 2
 (zr 46 (.mini (.t 45) (zi 6))
 (zr 47 (.maxi (zi 0) (.t 46))
 (zb .add 48 44 47
 (zr 49 (.mov (zi 0))
 .done))))))))
def QsY:AT:=(zb .lss 50 49 48
 .done)
def QsX:AT:=(za 51 32 11
 (zm 53 10
 (.alt (zl 52 1 51
 (.cl false (some 54) none (.t 53) []
 (.wr true (some 55) none (.bsl false false 44 1 [(.int .i64 0)] 1 [(0,1,(.t 54))])
 (.wr false (some 56) none (.app 44 1 8 false (.t 52) (.t 55))
 (za 57 32 11
 (zs 1 57 56
 .done)))))) (.cl false (some 54) none (.t 53) []
 (.alt (zl 52 1 51
 (.wr true (some 55) none (.bsl false false 44 1 [(.int .i64 0)] 1 [(0,1,(.t 54))])
 (.wr false (some 56) none (.app 44 1 8 false (.t 52) (.t 55))
 (za 57 32 11
 (zs 1 57 56
 .done))))) (.wr true (some 55) none (.bsl false false 44 1 [(.int .i64 0)] 1 [(0,1,(.t 54))])
 (zl 52 1 51
 (.wr false (some 56) none (.app 44 1 8 false (.t 52) (.t 55))
 (za 57 32 11
 (zs 1 57 56
 .done))))))))))
def QsW:AT:=(zc .add 58 49 1
 (zm 49 58
 .done))
def Qz5:AT:=(zr 59 (.load true 34 (.t 11))
 (.alt (zl 60 1 7
 (zs 34 8 59
 (zm 9 60
 .done))) (zs 34 8 59
 (zl 60 1 7
 (zm 9 60
 .done)))))
def QdN:AF:=⟨61,[.cell 8 true 34,.tmp 9],
 (zg zql_0 []
 (zg zql_1 [13,14]
 (zg zql_2 [15]
 (zg zql_3 [16,17,18,19]
 (.seq (zg zql_4 []
 (.block 0 (.loop (zg QtY []
 (.seq (zw 21
 .skip
 (.exit 0))
 (.seq (.block 1 (zg QtX [22]
 (zg QtW []
 (.block 2 (zg QtV [30]
 (zw 29
 (.reg QtU [31,32,33,34,35])
 (zg Qoi [37]
 (zw 36
 (.reg Qoh [38,39,40])
 (.reg Qog [24,25,26,27,28])))))))))
 (.reg Qof [41])))))))
 (.seq (zg Qz6 [42,43,44,45,46,47]
 (.block 3 (.loop (zg QsY []
 (.seq (zw 50
 .skip
 (.exit 3))
 (.seq (.block 4 (.reg QsX [51,52,53,54,55,56,57]))
 (.reg QsW [58])))))))
 (zg Qz5 [59,60]
 .ret)))))))⟩
abbrev QfM:Nat:=24
/- proofmark/norm.Sym -/
def zqm_0:AT:=(zr 4 (.mov (zi 0))
 .done)
def zqm_1:AT:=(zm 5 0
 (zm 6 1
 (zr 7 (.build [(.int .u8 0),(.int .i64 0),(.int .i64 0),(.int .u8 0),(.int .i64 0),(.int .i64 0)] [(0,1,(zu 2)),(1,1,(.t 6))])
 (zk 8 46 [.t 5,.t 7]
 (zm 4 8
 .done)))))
def Qir:AF:=⟨9,[.tmp 4],
 (zg zqm_0 []
 (zg zqm_1 [5,6,7,8]
 .ret))⟩
abbrev QoC:Nat:=25
abbrev QCT:Nat:=26
/- proofmark/proofmarklaw25.at -/
def QDM:AT:=(.wr false (some 5) none (.box 49 (.t 1))
 (zr 8 (.mov (zi 0))
 .done))
def QDL:AT:=(zm 9 2
 .done)
def QDK:AT:=(zr 11 (.bin .eql (.t 9) (zu 1))
 (zm 10 11
 .done))
def QDJ:AT:=(zm 12 3
 (za 13 2 5
 (za 14 0 13
 (zr 15 (.iaddr (some 32) 1 (.t 14) (.t 12))
 (zl 16 1 15
 (zm 8 16
 .done))))))
def QDI:AT:=(zr 18 (.bin .eql (.t 9) (zu 2))
 (zm 17 18
 .done))
def QDH:AT:=(za 19 2 5
 (za 20 32 19
 (zl 21 1 20
 (zm 22 3
 (zx 23 1 21 22
 (zl 24 1 23
 (zm 8 24
 .done)))))))
def QDG:AT:=(zm 25 0
 (zm 26 3
 (zk 27 20 [.t 25,.t 26]
 (zm 8 27
 .done))))
def Xp:AF:=⟨28,[.tmp 8],
 (zg QDM []
 (.seq (zg QDL []
 (.block 0 (zg QDK [11]
 (zw 10
 (zg QDJ [12,13,14,15,16]
 .ret)
 (zg QDI [18]
 (zw 17
 (zg QDH [19,20,21,22,23,24]
 .ret)
 .skip))))))
 (zg QDG [25,26,27]
 .ret)))⟩
abbrev Qce:Nat:=27
/- proofmark/proofmarklaw25.held -/
def QDF:AT:=(.wr false (some 2) none (.box 49 (.t 0))
 (zr 4 (.mov (zi 0))
 .done))
def QDE:AT:=(zm 5 1
 (zc .lss 6 5 0
 .done))
def QDD:AT:=(za 7 1 2
 (zl 8 1 7
 (zm 4 8
 .done)))
def QDC:AT:=(za 9 0 2
 (zl 10 1 9
 (zm 11 1
 (zx 12 1 10 11
 (zl 13 1 12
 (zm 4 13
 .done))))))
def Xb:AF:=⟨14,[.tmp 4],
 (zg QDF []
 (.seq (zg QDE [5]
 (zw 6
 (zg QDD [7,8]
 .ret)
 .skip))
 (zg QDC [9,10,11,12,13]
 .ret)))⟩
abbrev Qa6:Nat:=28
/- slices.Clone[[]proofmark/relate.Pair,proofmark/relate.Pair] -/
def zqq_0:AT:=(zr 2 (.mov (.c (.lst 0 [] true)))
 .done)
def zqq_1:AT:=(zm 3 0
 (zr 4 (.eqn false (.t 3))
 .done))
def zqq_2:AT:=(zr 2 (.mov (.c (.lst 0 [] true)))
 .done)
def zqq_3:AT:=(.wr false (some 5) none (.bsl false true 64 3 [(.int .i64 0),(.int .u8 0),(.int .i64 0)] 0 [])
 (zm 6 0
 (.wr false (some 7) none (.app 64 3 24 false (.t 5) (.t 6))
 (zm 2 7
 .done))))
def Qv:AF:=⟨8,[.tmp 2],
 (zg zqq_0 []
 (.seq (zg zqq_1 [3]
 (zw 4
 (zg zqq_2 []
 .ret)
 .skip))
 (zg zqq_3 [5,6,7]
 .ret)))⟩
abbrev Xi:Nat:=29
/- slices.SortFunc[[]proofmark/relate.Pair,proofmark/relate.Pair] -/
def zqr_0:AT:=(zm 5 0
 (zn 6 0 5
 (zm 4 6
 .done)))
def zqr_1:AT:=(zm 7 0
 (zm 8 4
 (zm 9 4
 (zr 10 (.conv .u64 (.t 9))
 (zk 11 54 [.t 10]
 (zm 12 1
 (zk 13 53 [.t 7,(zi 0),.t 8,.t 11,.t 12]
 .done)))))))
def QJ:AF:=⟨14,[],
 (zg zqr_0 [5,6]
 (.reg zqr_1 [7,8,9,10,11,12,13]))⟩
abbrev Q9:Nat:=30
abbrev QxQ:Nat:=31
/- slices.Compact[[]proofmark/relate.Pair,proofmark/relate.Pair] -/
def QDB:AT:=(zr 2 (.mov (.c (.lst 0 [] true)))
 .done)
def QDA:AT:=(zm 6 0
 (zn 7 0 6
 (zc .lss 8 7 2
 .done)))
def QDz:AT:=(zm 9 0
 (zm 2 9
 .done))
def QDy:AT:=(zr 3 (.mov (zi 1))
 .done)
def QDx:AT:=(zm 10 3
 (zm 11 0
 (zn 12 0 11
 (zb .lss 13 10 12
 .done))))
def QDw:AT:=(zm 16 0
 (zm 17 3
 (zx 18 3 16 17
 (zr 19 (.load true 3 (.t 18))
 (zm 20 0
 (zm 21 3
 (zc .sub 22 21 1
 (zx 23 3 20 22
 (zr 24 (.load true 3 (.t 23))
 (zr 25 (.eqs false [.i,.i,.i] (.t 19) (.t 24))
 .done))))))))))
def QDv:AT:=(zm 26 0
 (zm 27 3
 (zr 28 (.slc 3 (.t 26) (some (.t 27)) none none)
 (zm 4 28
 .done))))
def QDu:AT:=(zr 5 (.mov (zi 1))
 .done)
def QrN:AT:=(zm 29 5
 (zm 30 4
 (zn 31 0 30
 (zb .lss 32 29 31
 .done))))
def QrM:AT:=(zm 35 4
 (zm 36 5
 (zx 37 3 35 36
 (zr 38 (.load true 3 (.t 37))
 (zm 39 4
 (zm 40 5
 (zc .sub 41 40 1
 (zx 42 3 39 41
 (zr 43 (.load true 3 (.t 42))
 (zr 44 (.eqs true [.i,.i,.i] (.t 38) (.t 43))
 .done))))))))))
def QlV:AT:=(zm 45 0
 (zm 46 3
 (zm 47 4
 (zm 48 5
 (zx 49 3 47 48
 (zr 50 (.load true 3 (.t 49))
 (zx 51 3 45 46
 (zs 3 51 50
 .done))))))))
def QlU:AT:=(zm 52 3
 (zc .add 53 52 1
 (zm 3 53
 .done)))
def QlT:AT:=(zm 33 5
 (zc .add 34 33 1
 (zm 5 34
 .done)))
def Qvh:AT:=(zm 54 0
 (zm 55 3
 (zr 56 (.slc 3 (.t 54) (some (.t 55)) none none)
 (.wr false none none (.clr 3 [(.int .i64 0),(.int .u8 0),(.int .i64 0)] (.t 56))
 .done))))
def Qvg:AT:=(zm 57 0
 (zm 58 3
 (zr 59 (.slc 3 (.t 57) none (some (.t 58)) none)
 (zm 2 59
 .done))))
def Qvf:AT:=(zm 14 3
 (zc .add 15 14 1
 (zm 3 15
 .done)))
def Qve:AT:=(zm 60 0
 (zm 2 60
 .done))
def Qm:AF:=⟨61,[.tmp 2],
 (zg QDB []
 (.seq (zg QDA [6,7]
 (zw 8
 (zg QDz [9]
 .ret)
 .skip))
 (.seq (zg QDy []
 (.block 0 (.loop (.seq (zg QDx [10,11,12]
 (zw 13
 .skip
 (.exit 0)))
 (.seq (.block 1 (zg QDw [16,17,18,19,20,21,22,23,24]
 (zw 25
 (zg QDv [26,27,28]
 (.seq (zg QDu []
 (.block 2 (.loop (.seq (zg QrN [29,30,31]
 (zw 32
 .skip
 (.exit 2)))
 (.seq (.block 3 (zg QrM [35,36,37,38,39,40,41,42,43]
 (zw 44
 (zg QlV [45,46,47,48,49,50,51]
 (.reg QlU [52,53]))
 .skip)))
 (.reg QlT [33,34]))))))
 (zg Qvh [54,55,56]
 (zg Qvg [57,58,59]
 .ret))))
 .skip)))
 (.reg Qvf [14,15]))))))
 (zg Qve [60]
 .ret))))⟩
abbrev Xc:Nat:=32
/- proofmark/proofmarkref25.Before -/
def Qya:AT:=(.wr false (some 2) none (.box 28 (.t 0))
 (.wr false (some 3) none (.box 28 (.t 1))
 (zr 4 (.mov (.c (.bool false)))
 .done)))
def Qx9:AT:=(za 5 0 2
 (zl 6 1 5
 (za 7 0 3
 (zl 8 1 7
 (zb .neq 9 6 8
 .done)))))
def Qx8:AT:=(za 10 0 2
 (zl 11 1 10
 (za 12 0 3
 (zl 13 1 12
 (zb .lss 14 11 13
 (zm 4 14
 .done))))))
def Qx7:AT:=(za 15 1 2
 (zl 16 1 15
 (za 17 1 3
 (zl 18 1 17
 (zb .neq 19 16 18
 .done)))))
def Qx6:AT:=(za 20 1 2
 (zl 21 1 20
 (za 22 1 3
 (zl 23 1 22
 (zb .lss 24 21 23
 (zm 4 24
 .done))))))
def Qx5:AT:=(za 25 2 2
 (zl 26 1 25
 (za 27 2 3
 (zl 28 1 27
 (zb .lss 29 26 28
 (zm 4 29
 .done))))))
def QM:AF:=⟨30,[.tmp 4],
 (zg Qya []
 (.seq (zg Qx9 [5,6,7,8]
 (zw 9
 (zg Qx8 [10,11,12,13,14]
 .ret)
 .skip))
 (.seq (zg Qx7 [15,16,17,18]
 (zw 19
 (zg Qx6 [20,21,22,23,24]
 .ret)
 .skip))
 (zg Qx5 [25,26,27,28,29]
 .ret))))⟩
abbrev ZZ:Nat:=33
/- proofmark/relate.set -/
def zqv_0:AT:=(zr 2 (.mov (.c (.val (.map none))))
 .done)
def zqv_1:AT:=(.wr false (some 6) none .mkmap
 (zm 3 6
 .done))
def zqv_2:AT:=(zm 7 0
 (zn 8 0 7
 (zr 9 (.mov (zi 0))
 .done)))
def zqv_3:AT:=(zb .lss 10 9 8
 .done)
def zqv_4:AT:=(zx 11 3 7 9
 (zr 12 (.load true 3 (.t 11))
 (.wr false (some 5) none (.new 64 [(.int .i64 0),(.int .u8 0),(.int .i64 0)])
 (zs 3 5 12
 .done))))
def zqv_5:AT:=(zm 13 3
 (zr 14 (.load true 3 (.t 5))
 (.wr false none none (.mapup true [.i,.i,.i] (.t 13) (.t 14) (zi 1))
 .done)))
def zqv_6:AT:=(zc .add 15 9 1
 (zm 9 15
 .done))
def zqv_7:AT:=(zm 16 3
 (zm 2 16
 .done))
def QdF:AF:=⟨17,[.tmp 2],
 (zg zqv_0 []
 (zg zqv_1 [6]
 (.seq (zg zqv_2 []
 (.block 0 (.loop (zg zqv_3 []
 (.seq (zw 10
 .skip
 (.exit 0))
 (.seq (.block 1 (zg zqv_4 [11,12]
 (.reg zqv_5 [13,14])))
 (.reg zqv_6 [15])))))))
 (zg zqv_7 [16]
 .ret))))⟩
abbrev Qkw:Nat:=34
/- slices.DeleteFunc[[]proofmark/relate.Pair,proofmark/relate.Pair] -/
def Qx4:AT:=(zr 4 (.mov (.c (.lst 0 [] true)))
 .done)
def Qx3:AT:=(zm 8 0
 (zm 9 1
 (zk 10 59 [.t 8,.t 9]
 (zm 5 10
 .done))))
def Qx2:AT:=(zm 11 5
 (zr 12 (.bin .eql (.t 11) (.c (.int .i64 (-1))))
 .done))
def Qx1:AT:=(zm 13 0
 (zm 4 13
 .done))
def Qx0:AT:=(zm 14 5
 (zc .add 15 14 1
 (zm 6 15
 .done)))
def QxZ:AT:=(zm 16 6
 (zm 17 0
 (zn 18 0 17
 (zb .lss 19 16 18
 .done))))
def QxY:AT:=(zm 22 0
 (zm 23 6
 (zx 24 3 22 23
 (zr 25 (.load true 3 (.t 24))
 (.wr false (some 7) none (.new 64 [(.int .i64 0),(.int .u8 0),(.int .i64 0)])
 (zs 3 7 25
 .done))))))
def QxX:AT:=(zm 26 1
 (zr 27 (.load true 3 (.t 7))
 (.cl false (some 28) none (.t 26) [(.t 27)]
 (zr 29 (.un .not (.t 28))
 .done))))
def QxW:AT:=(zm 30 0
 (zm 31 5
 (zr 32 (.load true 3 (.t 7))
 (zx 33 3 30 31
 (zs 3 33 32
 .done)))))
def QxV:AT:=(zm 34 5
 (zc .add 35 34 1
 (zm 5 35
 .done)))
def QsV:AT:=(zm 20 6
 (zc .add 21 20 1
 (zm 6 21
 .done)))
def QsU:AT:=(zm 36 0
 (zm 37 5
 (zr 38 (.slc 3 (.t 36) (some (.t 37)) none none)
 (.wr false none none (.clr 3 [(.int .i64 0),(.int .u8 0),(.int .i64 0)] (.t 38))
 .done))))
def QsT:AT:=(zm 39 0
 (zm 40 5
 (zr 41 (.slc 3 (.t 39) none (some (.t 40)) none)
 (zm 4 41
 .done))))
def Qk:AF:=⟨42,[.tmp 4],
 (zg Qx4 []
 (zg Qx3 [8,9,10]
 (.seq (zg Qx2 [11]
 (zw 12
 (zg Qx1 [13]
 .ret)
 .skip))
 (.seq (zg Qx0 [14,15]
 (.block 0 (.loop (.seq (zg QxZ [16,17,18]
 (zw 19
 .skip
 (.exit 0)))
 (.seq (.block 1 (zg QxY [22,23,24,25]
 (zg QxX [26,27,28]
 (zw 29
 (zg QxW [30,31,32,33]
 (.reg QxV [34,35]))
 .skip))))
 (.reg QsV [20,21]))))))
 (zg QsU [36,37,38]
 (zg QsT [39,40,41]
 .ret))))))⟩
abbrev QZ:Nat:=35
/- proofmark/relate.Meet$1 -/
def zqx_0:AT:=(.wr false (some 2) none (.box 64 (.t 0))
 (zr 3 (.mov (.c (.bool false)))
 .done))
def zqx_1:AT:=(zl 4 1 1
 (zr 5 (.load true 3 (.t 2))
 (zr 6 (.look false true [.i,.i,.i] (.int .i64 0) (.t 4) (.t 5))
 (zc .eql 7 6 0
 (zm 3 7
 .done)))))
def Zk:AF:=⟨8,[.tmp 3],
 (zg zqx_0 []
 (zg zqx_1 [4,5,6,7]
 .ret))⟩
abbrev QeO:Nat:=36
abbrev QdI:Nat:=37
/- proofmark/relate.Within$1 -/
def zqz_0:AT:=(.wr false (some 2) none (.box 64 (.t 0))
 (zr 3 (.mov (.c (.bool false)))
 .done))
def zqz_1:AT:=(zl 4 1 1
 (zr 5 (.load true 3 (.t 2))
 (zr 6 (.look false true [.i,.i,.i] (.int .i64 0) (.t 4) (.t 5))
 (zc .eql 7 6 0
 (zm 3 7
 .done)))))
def X7:AF:=⟨8,[.tmp 3],
 (zg zqz_0 []
 (zg zqz_1 [4,5,6,7]
 .ret))⟩
abbrev QcU:Nat:=38
/- proofmark/regions.Of -/
def zq10_0:AT:=(.wr false (some 1) none (.box 88 (.t 0))
 (zr 2 (.mov (.c (.lst 0 [] true)))
 (.wr false (some 3) none (.new 82 [(.int .i64 0),(.int .i64 0),(.int .i64 0)])
 .done)))
def zq10_1:AT:=(zr 8 (.load true 3 (.t 1))
 (zk 9 60 [.t 8]
 (zr 10 (.un .not (.t 9))
 .done)))
def zq10_2:AT:=(zr 11 (.build [(.int .i64 0),(.int .i64 0),(.int .i64 0)] [(2,1,(zi 2))])
 (zr 2 (.mov (.c (.lst 0 [] true)))
 (zs 3 3 11
 .done)))
def zq10_3:AT:=(zr 4 (.mov (.c (.lst 0 [] true)))
 .done)
def zq10_4:AT:=(za 12 1 1
 (zl 13 1 12
 (zn 14 0 13
 (zr 15 (.mov (zi 0))
 .done))))
def zq10_5:AT:=(zb .lss 16 15 14
 .done)
def zq10_6:AT:=(zm 17 15
 (zm 5 17
 .done))
def zq10_7:AT:=(zr 19 (.load true 3 (.t 1))
 (zm 20 5
 (zk 21 61 [.t 19,.t 20]
 (zm 18 21
 (ze 22 18 0
 (ze 23 18 1
 (.wr false (some 6) none (.new 39 [(.str []),(.int .i64 0),(.lst 0 [] true),(.int .i64 0),(.lst 0 [] true)])
 (.wr false (some 7) none (.new 82 [(.int .i64 0),(.int .i64 0),(.int .i64 0)])
 (zs 5 6 22
 (zs 3 7 23
 .done))))))))))
def zq10_8:AT:=(za 24 2 7
 (zl 25 1 24
 (zc .neq 26 25 0
 .done)))
def zq10_9:AT:=(zr 27 (.load true 3 (.t 7))
 (zr 2 (.mov (.c (.lst 0 [] true)))
 (zs 3 3 27
 .done)))
def QFr:AT:=(zm 28 4
 (zr 29 (.load true 5 (.t 6))
 (.wr false (some 30) none (.bsl true true 39 5 [(.str []),(.int .i64 0),(.lst 0 [] true),(.int .i64 0),(.lst 0 [] true)] 1 [(0,5,(.t 29))])
 (.wr false (some 31) none (.app 39 5 80 false (.t 28) (.t 30))
 (zm 4 31
 .done)))))
def QFq:AT:=(zc .add 32 15 1
 (zm 15 32
 .done))
def QFp:AT:=(zm 33 4
 (zr 34 (.build [(.int .i64 0),(.int .i64 0),(.int .i64 0)] [])
 (zm 2 33
 (zs 3 3 34
 .done))))
def Qjp:AF:=⟨35,[.tmp 2,.cell 3 true 3],
 (zg zq10_0 []
 (.seq (zg zq10_1 [8,9]
 (zw 10
 (zg zq10_2 [11]
 .ret)
 .skip))
 (zg zq10_3 []
 (.seq (zg zq10_4 [12,13]
 (.block 0 (.loop (zg zq10_5 []
 (.seq (zw 16
 .skip
 (.exit 0))
 (.seq (.block 1 (zg zq10_6 [17]
 (zg zq10_7 [19,20,21,18,22,23]
 (.seq (zg zq10_8 [24,25]
 (zw 26
 (zg zq10_9 [27]
 .ret)
 .skip))
 (.reg QFr [28,29,30,31])))))
 (.reg QFq [32])))))))
 (zg QFp [33,34]
 .ret)))))⟩
abbrev Qqv:Nat:=39
/- proofmark/proofmarkkit.Image -/
def zq11_0:AT:=(.wr false (some 4) none (.new 88 [(.int .i64 0),(.lst 0 [] true),(.lst 0 [] true)])
 .done)
def zq11_1:AT:=(zm 10 1
 (zr 11 (.build [(.int .i64 0),(.lst 0 [] true),(.lst 0 [] true)] [(0,1,(.t 10))])
 (.wr false (some 5) none (.new 88 [(.int .i64 0),(.lst 0 [] true),(.lst 0 [] true)])
 (zs 3 5 11
 .done))))
def zq11_2:AT:=(zr 6 (.mov (zi 0))
 .done)
def zq11_3:AT:=(zm 12 6
 (zm 13 0
 (zn 14 0 13
 (zb .lss 15 12 14
 .done))))
def zq11_4:AT:=(za 18 1 5
 (zl 19 1 18
 (zm 20 6
 (zc .rem 21 20 26
 (zr 22 (.bin .add (zi 97) (.t 21))
 (zr 23 (.conv .i32 (.t 22))
 (zr 24 (.same (.t 23))
 (zr 25 (.bin .add (.c (.str [102])) (.t 24))
 (zm 26 6
 (zc .quo 27 26 26
 (zr 28 (.bin .add (zi 97) (.t 27))
 (zr 29 (.conv .i32 (.t 28))
 (zr 30 (.same (.t 29))
 (zb .add 31 25 30
 (za 32 2 5
 (zl 33 1 32
 (zn 34 0 33
 (zr 35 (.bin .mul (zi 4) (.t 34))
 (zr 36 (.build [(.str []),(.int .i64 0)] [(0,1,(.t 31)),(1,1,(.t 35))])
 (.wr false (some 37) none (.bsl false true 130 2 [(.str []),(.int .i64 0)] 1 [(0,2,(.t 36))])
 (.wr false (some 38) none (.app 130 2 24 false (.t 19) (.t 37))
 (za 39 1 5
 (zs 1 39 38
 .done)))))))))))))))))))))))
def zq11_5:AT:=(zr 7 (.mov (zi 0))
 .done)
def zq11_6:AT:=(zm 40 7
 (zm 41 0
 (zm 42 6
 (zx 43 1 41 42
 (zl 44 1 43
 (zn 45 0 44
 (zb .lss 46 40 45
 .done)))))))
def zq11_7:AT:=(zm 50 0
 (zm 51 6
 (zx 52 1 50 51
 (zl 53 1 52
 (zm 54 7
 (zx 55 5 53 54
 (zr 56 (.load true 5 (.t 55))
 (zk 57 62 [.t 56]
 (zm 49 57
 (ze 58 49 0
 (ze 59 49 1
 (zm 8 58
 (zm 9 59
 .done)))))))))))))
def zq11_8:AT:=(zm 60 9
 (zc .eql 61 60 0
 .done))
def zq11_9:AT:=(za 62 2 5
 (zl 63 1 62
 (zm 64 8
 (.wr false (some 65) none (.bsl false false 131 1 [(.int .u32 0)] 1 [(0,1,(.t 64))])
 (.wr false (some 66) none (.app 131 1 4 false (.t 63) (.t 65))
 (za 67 2 5
 (zs 1 67 66
 .done)))))))
def QFo:AT:=(zm 47 7
 (zc .add 48 47 1
 (zm 7 48
 .done)))
def QFn:AT:=(zm 16 6
 (zc .add 17 16 1
 (zm 6 17
 .done)))
def QFm:AT:=(zr 68 (.load true 3 (.t 5))
 (zs 3 4 68
 .done))
def ZV:AF:=⟨69,[.cell 4 true 3],
 (zg zq11_0 []
 (zg zq11_1 [10,11]
 (.seq (zg zq11_2 []
 (.block 0 (.loop (.seq (zg zq11_3 [12,13,14]
 (zw 15
 .skip
 (.exit 0)))
 (.seq (.block 1 (zg zq11_4 [18,19,20,21,22,23,24,25,26,27,28,29,30,31,32,33,34,35,36,37,38,39]
 (zg zq11_5 []
 (.block 2 (.loop (.seq (zg zq11_6 [40,41,42,43,44,45]
 (zw 46
 .skip
 (.exit 2)))
 (.seq (.block 3 (zg zq11_7 [50,51,52,53,54,55,56,57,49,58,59]
 (zg zq11_8 [60]
 (zw 61
 (.reg zq11_9 [62,63,64,65,66,67])
 .skip))))
 (.reg QFo [47,48]))))))))
 (.reg QFn [16,17]))))))
 (zg QFm [68]
 .ret))))⟩
abbrev QgC:Nat:=40
/- proofmark/relate.Fresh$1 -/
def QCF:AT:=(.wr false (some 3) none (.box 64 (.t 0))
 (zr 4 (.mov (.c (.bool false)))
 .done))
def QCE:AT:=(zr 5 (.load true 3 (.t 3))
 (zl 6 1 1
 (za 7 32 2
 (zl 8 1 7
 (zn 9 0 8
 (zk 10 42 [.t 5,.t 6,.t 9]
 (zr 11 (.un .not (.t 10))
 (zm 4 11
 .done))))))))
def YM:AF:=⟨12,[.tmp 4],
 (zg QCF []
 (zg QCE [5,6,7,8,9,10,11]
 .ret))⟩
abbrev QdK:Nat:=41
/- proofmark/relate.there -/
def Qhd:AT:=(.wr false (some 3) none (.box 64 (.t 0))
 (zr 6 (.mov (.c (.bool false)))
 .done))
def Qhc:AT:=(za 7 0 3
 (zl 8 1 7
 (zr 9 (.bin .lss (.t 8) (.c (.int .i64 (-1))))
 (zm 10 9
 (zaf 11 10 0 3
 (zlf 12 10 1 11
 (zmf 13 10 1
 (zbf .geq 14 10 12 13
 (zp 15 10 14
 .done)))))))))
def Qhb:AT:=(zr 6 (.mov (.c (.bool false)))
 .done)
def Qha:AT:=(za 16 1 3
 (za 17 0 16
 (zl 18 1 17
 .done)))
def Qg9:AT:=(zr 20 (.bin .eql (.t 18) (zu 1))
 (zm 19 20
 .done))
def Qg8:AT:=(za 21 1 3
 (za 22 1 21
 (zl 23 1 22
 (zk 24 63 [.t 23]
 (zm 6 24
 .done)))))
def Qg7:AT:=(zr 26 (.bin .eql (.t 18) (zu 2))
 (zm 25 26
 .done))
def Qg6:AT:=(za 27 1 3
 (za 28 1 27
 (zl 29 1 28
 (zc .geq 30 29 0
 (zm 31 30
 (zat 32 31 1 3
 (zat 33 31 1 32
 (zlt 34 31 1 33
 (zmt 35 31 2
 (zbt .lss 36 31 34 35
 (zq 37 31 36
 (zm 6 37
 .done))))))))))))
def Qg5:AT:=(za 38 1 3
 (za 39 0 38
 (zl 40 1 39
 (zr 41 (.bin .eql (.t 40) (zu 3))
 (zm 6 41
 .done)))))
def QW:AF:=⟨42,[.tmp 6],
 (zg Qhd []
 (.seq (zg Qhc [7,8,9,10,11,12,13,14]
 (zw 15
 (zg Qhb []
 .ret)
 .skip))
 (.seq (zg Qha [16,17]
 (.block 0 (zg Qg9 [20]
 (zw 19
 (zg Qg8 [21,22,23,24]
 .ret)
 (zg Qg7 [26]
 (zw 25
 (zg Qg6 [27,28,29,30,31,32,33,34,35,36,37]
 .ret)
 .skip))))))
 (zg Qg5 [38,39,40,41]
 .ret))))⟩
abbrev Qho:Nat:=42
/- (proofmark/relate.parts[proofmark/relate.end]).join -/
def QvL:AT:=(.wr false (some 3) none (.box 96 (.t 0))
 (.wr false (some 4) none (.box 100 (.t 1))
 (.wr false (some 5) none (.box 100 (.t 2))
 .done)))
def QvK:AT:=(zr 8 (.load true 1 (.t 3))
 (zr 9 (.load true 3 (.t 4))
 (zr 11 (.load true 1 (.t 3))
 (zr 12 (.load true 3 (.t 5))
 (.alt (.cl true (some 10) none (.c (.fn (.func 44) [] [])) [(.t 8),(.t 9)]
 (.alt (zk 13 44 [.t 11,.t 12]
 (.alt (.wr true (some 6) none (.new 100 [(.int .i64 0),(.int .u8 0),(.int .i64 0)])
 (.wr true (some 7) none (.new 100 [(.int .i64 0),(.int .u8 0),(.int .i64 0)])
 (zs 3 6 10
 (zs 3 7 13
 .done)))) (.wr true (some 7) none (.new 100 [(.int .i64 0),(.int .u8 0),(.int .i64 0)])
 (.wr true (some 6) none (.new 100 [(.int .i64 0),(.int .u8 0),(.int .i64 0)])
 (zs 3 6 10
 (zs 3 7 13
 .done)))))) (.alt (.wr true (some 6) none (.new 100 [(.int .i64 0),(.int .u8 0),(.int .i64 0)])
 (.alt (zk 13 44 [.t 11,.t 12]
 (.wr true (some 7) none (.new 100 [(.int .i64 0),(.int .u8 0),(.int .i64 0)])
 (zs 3 6 10
 (zs 3 7 13
 .done)))) (.wr true (some 7) none (.new 100 [(.int .i64 0),(.int .u8 0),(.int .i64 0)])
 (zk 13 44 [.t 11,.t 12]
 (zs 3 6 10
 (zs 3 7 13
 .done)))))) (.wr true (some 7) none (.new 100 [(.int .i64 0),(.int .u8 0),(.int .i64 0)])
 (.alt (zk 13 44 [.t 11,.t 12]
 (.wr true (some 6) none (.new 100 [(.int .i64 0),(.int .u8 0),(.int .i64 0)])
 (zs 3 6 10
 (zs 3 7 13
 .done)))) (.wr true (some 6) none (.new 100 [(.int .i64 0),(.int .u8 0),(.int .i64 0)])
 (zk 13 44 [.t 11,.t 12]
 (zs 3 6 10
 (zs 3 7 13
 .done))))))))) (.alt (.wr true (some 6) none (.new 100 [(.int .i64 0),(.int .u8 0),(.int .i64 0)])
 (.alt (.cl true (some 10) none (.c (.fn (.func 44) [] [])) [(.t 8),(.t 9)]
 (.alt (zk 13 44 [.t 11,.t 12]
 (.wr true (some 7) none (.new 100 [(.int .i64 0),(.int .u8 0),(.int .i64 0)])
 (zs 3 6 10
 (zs 3 7 13
 .done)))) (.wr true (some 7) none (.new 100 [(.int .i64 0),(.int .u8 0),(.int .i64 0)])
 (zk 13 44 [.t 11,.t 12]
 (zs 3 6 10
 (zs 3 7 13
 .done)))))) (.wr true (some 7) none (.new 100 [(.int .i64 0),(.int .u8 0),(.int .i64 0)])
 (.cl true (some 10) none (.c (.fn (.func 44) [] [])) [(.t 8),(.t 9)]
 (zk 13 44 [.t 11,.t 12]
 (zs 3 6 10
 (zs 3 7 13
 .done))))))) (.wr true (some 7) none (.new 100 [(.int .i64 0),(.int .u8 0),(.int .i64 0)])
 (.alt (.cl true (some 10) none (.c (.fn (.func 44) [] [])) [(.t 8),(.t 9)]
 (.alt (zk 13 44 [.t 11,.t 12]
 (.wr true (some 6) none (.new 100 [(.int .i64 0),(.int .u8 0),(.int .i64 0)])
 (zs 3 6 10
 (zs 3 7 13
 .done)))) (.wr true (some 6) none (.new 100 [(.int .i64 0),(.int .u8 0),(.int .i64 0)])
 (zk 13 44 [.t 11,.t 12]
 (zs 3 6 10
 (zs 3 7 13
 .done)))))) (.wr true (some 6) none (.new 100 [(.int .i64 0),(.int .u8 0),(.int .i64 0)])
 (.cl true (some 10) none (.c (.fn (.func 44) [] [])) [(.t 8),(.t 9)]
 (zk 13 44 [.t 11,.t 12]
 (zs 3 6 10
 (zs 3 7 13
 .done)))))))))))))
def QvJ:AT:=(zr 14 (.load true 3 (.t 6))
 (zr 15 (.load true 3 (.t 7))
 (zr 16 (.eqs true [.i,.i,.i] (.t 14) (.t 15))
 .done)))
def QvI:AT:=(za 17 0 3
 (zl 18 1 17
 (zr 19 (.load true 3 (.t 6))
 (zr 20 (.load true 3 (.t 7))
 (.wr false none none (.mapup true [.i,.i,.i] (.t 18) (.t 19) (.t 20))
 .done)))))
def Qy:AF:=⟨21,[],
 (zg QvL []
 (zg QvK [8,9,10,11,12,13]
 (zg QvJ [14,15]
 (zw 16
 (.reg QvI [17,18,19,20])
 .skip))))⟩
abbrev X0:Nat:=43
/- (proofmark/relate.parts[proofmark/relate.end]).root -/
def QCD:AT:=(.wr false (some 2) none (.box 96 (.t 0))
 (.wr false (some 3) none (.box 100 (.t 1))
 (.wr false (some 4) none (.new 100 [(.int .i64 0),(.int .u8 0),(.int .i64 0)])
 .done)))
def QCC:AT:=(za 8 0 2
 (zl 9 1 8
 (zr 10 (.load true 3 (.t 3))
 (zr 11 (.look true true [.i,.i,.i] (.agg [(.int .i64 0),(.int .u8 0),(.int .i64 0)]) (.t 9) (.t 10))
 (zm 7 11
 (ze 12 7 0
 (ze 13 7 1
 (.wr false (some 5) none (.new 100 [(.int .i64 0),(.int .u8 0),(.int .i64 0)])
 (zs 3 5 12
 (zm 6 13
 .done))))))))))
def QCB:AT:=(zm 14 6
 (zr 15 (.un .not (.t 14))
 .done))
def QCA:AT:=(zr 16 (.load true 3 (.t 3))
 (zs 3 4 16
 .done))
def QCz:AT:=(zr 17 (.load true 3 (.t 5))
 (zs 3 3 17
 .done))
def QG:AF:=⟨18,[.cell 4 true 3],
 (zg QCD []
 (.block 0 (.loop (.block 1 (zg QCC [8,9,10,11,7,12,13]
 (.seq (zg QCB [14]
 (zw 15
 (zg QCA [16]
 .ret)
 .skip))
 (.reg QCz [17])))))))⟩
abbrev XZ:Nat:=44
/- proofmark/relate.Fresh$2 -/
def QCy:AT:=(.wr false (some 5) none (.box 100 (.t 0))
 (zr 6 (.mov (zi 0))
 .done))
def QCx:AT:=(zr 10 (.load true 1 (.t 1))
 (zr 11 (.load true 3 (.t 5))
 (zk 12 44 [.t 10,.t 11]
 (.wr false (some 7) none (.new 100 [(.int .i64 0),(.int .u8 0),(.int .i64 0)])
 (zs 3 7 12
 .done)))))
def QCw:AT:=(zl 14 1 2
 (zr 15 (.load true 3 (.t 7))
 (zr 16 (.look true true [.i,.i,.i] (.int .i64 0) (.t 14) (.t 15))
 (zm 13 16
 (ze 17 13 0
 (ze 18 13 1
 (zm 8 17
 (zm 9 18
 .done))))))))
def QCv:AT:=(zm 19 9
 (zr 20 (.un .not (.t 19))
 .done))
def QCu:AT:=(zl 23 1 3
 (zl 24 1 4
 (.alt (zl 21 1 2
 (.alt (zr 22 (.load true 3 (.t 7))
 (zk 25 25 [.t 23,.t 24]
 (.wr false none none (.mapup true [.i,.i,.i] (.t 21) (.t 22) (.t 25))
 .done))) (zk 25 25 [.t 23,.t 24]
 (zr 22 (.load true 3 (.t 7))
 (.wr false none none (.mapup true [.i,.i,.i] (.t 21) (.t 22) (.t 25))
 .done))))) (.alt (zr 22 (.load true 3 (.t 7))
 (.alt (zl 21 1 2
 (zk 25 25 [.t 23,.t 24]
 (.wr false none none (.mapup true [.i,.i,.i] (.t 21) (.t 22) (.t 25))
 .done))) (zk 25 25 [.t 23,.t 24]
 (zl 21 1 2
 (.wr false none none (.mapup true [.i,.i,.i] (.t 21) (.t 22) (.t 25))
 .done))))) (zk 25 25 [.t 23,.t 24]
 (.alt (zl 21 1 2
 (zr 22 (.load true 3 (.t 7))
 (.wr false none none (.mapup true [.i,.i,.i] (.t 21) (.t 22) (.t 25))
 .done))) (zr 22 (.load true 3 (.t 7))
 (zl 21 1 2
 (.wr false none none (.mapup true [.i,.i,.i] (.t 21) (.t 22) (.t 25))
 .done)))))))))
def QCt:AT:=(zl 26 1 4
 (zc .add 27 26 1
 (zs 1 4 27
 .done)))
def QCs:AT:=(zl 28 1 2
 (zr 29 (.load true 3 (.t 7))
 (zr 30 (.look false true [.i,.i,.i] (.int .i64 0) (.t 28) (.t 29))
 (zm 6 30
 .done))))
def YL:AF:=⟨31,[.tmp 6],
 (zg QCy []
 (zg QCx [10,11,12]
 (.seq (zg QCw [14,15,16,13,17,18,8]
 (zg QCv [19]
 (zw 20
 (zg QCu [21,22,23,24,25]
 (.reg QCt [26,27]))
 .skip)))
 (zg QCs [28,29,30]
 .ret))))⟩
abbrev QaF:Nat:=45
/- (*proofmark/term.Graph).Add -/
def QCr:AT:=(.wr false (some 3) none (.box 108 (.t 1))
 (zr 4 (.mov (zi 0))
 .done))
def QCq:AT:=(zm 12 0
 (zr 13 (.eqp false (.t 12) (.c (.val (.pointer none))))
 (zm 14 13
 (zmf 15 14 0
 (zf 16 14 (.load true 6 (.t 3))
 (.cl false (some 17) (some (14,false)) (.c (.fn (.func 64) [] [])) [(.t 15),(.t 16)]
 (zf 18 14 (.un .not (.t 17))
 (zp 19 14 18
 .done))))))))
def QCp:AT:=(zr 4 (.mov (.c (.int .i64 (-1))))
 .done)
def QCo:AT:=(zm 21 0
 (zr 22 (.nilc (.t 21))
 (za 23 1 22
 (zl 24 1 23
 (zr 25 (.load true 6 (.t 3))
 (zr 26 (.look true true [.i,.i,.i,.i,.i,.i] (.int .i64 0) (.t 24) (.t 25))
 (zm 20 26
 (ze 27 20 0
 (ze 28 20 1
 (zm 5 27
 (zm 6 28
 .done)))))))))))
def QCn:AT:=(zm 29 6
 .done)
def QCm:AT:=(zm 30 5
 (zm 4 30
 .done))
def QCl:AT:=(zm 31 0
 (zr 32 (.nilc (.t 31))
 (za 33 0 32
 (zl 34 1 33
 (zn 35 0 34
 (zm 7 35
 .done))))))
def QCk:AT:=(zr 36 (.load true 6 (.t 3))
 (zk 37 65 [.t 36,(.c (.str [])),(.c (.str []))]
 (zn 38 1 37
 (zr 8 (.mov (zi 0))
 (zm 9 38
 .done)))))
def QCj:AT:=(zr 39 (.load true 6 (.t 3))
 (zk 40 66 [.t 39]
 (zn 41 0 40
 (zr 42 (.mov (zi 0))
 .done))))
def QCi:AT:=(zb .lss 43 42 41
 .done)
def QvH:AT:=(zx 44 1 40 42
 (zl 45 1 44
 (zm 11 45
 .done)))
def QvG:AT:=(zm 46 8
 (zm 47 0
 (zr 48 (.nilc (.t 47))
 (za 49 2 48
 (zl 50 1 49
 (zm 51 11
 (zx 52 1 50 51
 (zl 53 1 52
 (zr 54 (.maxi (.t 46) (.t 53))
 (zm 55 9
 (zm 56 0
 (zr 57 (.nilc (.t 56))
 (za 58 3 57
 (zl 59 1 58
 (zm 60 11
 (zx 61 1 59 60
 (zl 62 1 61
 (zb .add 63 55 62
 (zm 8 54
 (zm 9 63
 .done))))))))))))))))))))
def QvF:AT:=(zc .add 64 42 1
 (zm 42 64
 .done))
def QvE:AT:=(zm 65 0
 (zm 66 0
 (zr 67 (.nilc (.t 66))
 (za 68 1 67
 (zl 69 1 68
 (zm 71 0
 (zr 72 (.nilc (.t 71))
 (za 73 0 72
 (zl 74 1 73
 (zr 75 (.load true 6 (.t 3))
 (zm 78 7
 (.alt (zr 70 (.load true 6 (.t 3))
 (.wr true (some 76) none (.bsl false true 108 6 [(.int .u8 0),(.int .i64 0),(.int .i64 0),(.int .u8 0),(.int .i64 0),(.int .i64 0)] 1 [(0,6,(.t 75))])
 (.wr true (some 77) none (.app 108 6 48 false (.t 74) (.t 76))
 (zr 79 (.nilc (.t 65))
 (za 80 0 79
 (zs 1 80 77
 (.wr false (some 81) none (.ment true [.i,.i,.i,.i,.i,.i] (.int .i64 0) (.t 69) (.t 70))
 (ze 82 81 1
 (.wr false none none (.mst (.t 69) (.t 82) (.t 78))
 .done))))))))) (.wr true (some 76) none (.bsl false true 108 6 [(.int .u8 0),(.int .i64 0),(.int .i64 0),(.int .u8 0),(.int .i64 0),(.int .i64 0)] 1 [(0,6,(.t 75))])
 (.alt (zr 70 (.load true 6 (.t 3))
 (.wr true (some 77) none (.app 108 6 48 false (.t 74) (.t 76))
 (zr 79 (.nilc (.t 65))
 (za 80 0 79
 (zs 1 80 77
 (.wr false (some 81) none (.ment true [.i,.i,.i,.i,.i,.i] (.int .i64 0) (.t 69) (.t 70))
 (ze 82 81 1
 (.wr false none none (.mst (.t 69) (.t 82) (.t 78))
 .done)))))))) (.wr true (some 77) none (.app 108 6 48 false (.t 74) (.t 76))
 (zr 79 (.nilc (.t 65))
 (za 80 0 79
 (.alt (zr 70 (.load true 6 (.t 3))
 (zs 1 80 77
 (.wr false (some 81) none (.ment true [.i,.i,.i,.i,.i,.i] (.int .i64 0) (.t 69) (.t 70))
 (ze 82 81 1
 (.wr false none none (.mst (.t 69) (.t 82) (.t 78))
 .done))))) (zs 1 80 77
 (zr 70 (.load true 6 (.t 3))
 (.wr false (some 81) none (.ment true [.i,.i,.i,.i,.i,.i] (.int .i64 0) (.t 69) (.t 70))
 (ze 82 81 1
 (.wr false none none (.mst (.t 69) (.t 82) (.t 78))
 .done)))))))))))))))))))))))
def QvD:AT:=(zm 83 0
 (zm 84 0
 (zm 85 0
 (zr 86 (.nilc (.t 85))
 (za 87 2 86
 (zl 88 1 87
 (zm 89 8
 (zc .add 90 89 1
 (zm 93 0
 (zr 94 (.nilc (.t 93))
 (za 95 3 94
 (zl 96 1 95
 (zm 97 9
 (zr 98 (.mini (.t 97) (zi 65537))
 (.alt (.wr true (some 91) none (.bsl false false 3 1 [(.int .i64 0)] 1 [(0,1,(.t 90))])
 (.alt (.wr true (some 92) none (.app 3 1 8 false (.t 88) (.t 91))
 (.wr true (some 99) none (.bsl false false 3 1 [(.int .i64 0)] 1 [(0,1,(.t 98))])
 (.wr false (some 100) none (.app 3 1 8 false (.t 96) (.t 99))
 (zr 101 (.nilc (.t 83))
 (za 102 2 101
 (zs 1 102 92
 (zr 103 (.nilc (.t 84))
 (za 104 3 103
 (zs 1 104 100
 .done))))))))) (.wr true (some 99) none (.bsl false false 3 1 [(.int .i64 0)] 1 [(0,1,(.t 98))])
 (.wr true (some 92) none (.app 3 1 8 false (.t 88) (.t 91))
 (.wr false (some 100) none (.app 3 1 8 false (.t 96) (.t 99))
 (zr 101 (.nilc (.t 83))
 (za 102 2 101
 (zs 1 102 92
 (zr 103 (.nilc (.t 84))
 (za 104 3 103
 (zs 1 104 100
 .done))))))))))) (.wr true (some 99) none (.bsl false false 3 1 [(.int .i64 0)] 1 [(0,1,(.t 98))])
 (.wr true (some 91) none (.bsl false false 3 1 [(.int .i64 0)] 1 [(0,1,(.t 90))])
 (.wr true (some 92) none (.app 3 1 8 false (.t 88) (.t 91))
 (.wr false (some 100) none (.app 3 1 8 false (.t 96) (.t 99))
 (zr 101 (.nilc (.t 83))
 (za 102 2 101
 (zs 1 102 92
 (zr 103 (.nilc (.t 84))
 (za 104 3 103
 (zs 1 104 100
 .done)))))))))))))))))))))))))
def QvC:AT:=(zm 105 7
 (zm 4 105
 .done))
def Zi:AF:=⟨106,[.tmp 4],
 (zg QCr []
 (.seq (zg QCq [12,13,14,15,16,17,18]
 (zw 19
 (zg QCp []
 .ret)
 .skip))
 (.seq (zg QCo [21,22,23,24,25,26,20,27,28]
 (zg QCn []
 (zw 29
 (zg QCm [30]
 .ret)
 .skip)))
 (zg QCl [31,32,33,34,35]
 (zg QCk [36,37,38]
 (.seq (zg QCj [39]
 (.block 0 (.loop (zg QCi []
 (.seq (zw 43
 .skip
 (.exit 0))
 (.seq (.block 1 (zg QvH [44,45]
 (.reg QvG [46,47,48,49,50,51,52,53,54,55,56,57,58,59,60,61,62,63])))
 (.reg QvF [64])))))))
 (zg QvE [65,66,67,68,69,70,71,72,73,74,75,76,77,78,79,80,81,82]
 (zg QvD [83,84,85,86,87,88,89,90,91,92,93,94,95,96,97,98,99,100,101,102,103,104]
 (zg QvC [105]
 .ret)))))))))⟩
abbrev Qbr:Nat:=46
/- proofmark/proofmarkref25.Tied -/
def QCh:AT:=(zr 4 (.mov (.c (.lst 0 [] true)))
 .done)
def QCg:AT:=(zm 9 1
 (.wr false (some 10) none (.bsl true false 3 1 [(.int .i64 0)] 1 [(0,1,(.t 9))])
 (zm 5 10
 .done)))
def QCf:AT:=(zr 6 (.mov (.c (.bool true)))
 .done)
def Qqb:AT:=(zm 11 6
 .done)
def Qqa:AT:=(zr 6 (.mov (.c (.bool false)))
 .done)
def Qp9:AT:=(zr 7 (.mov (zi 0))
 .done)
def Qic:AT:=(zm 12 7
 (zm 13 0
 (zn 14 0 13
 (zb .lss 15 12 14
 .done))))
def Qib:AT:=(zr 8 (.mov (zi 0))
 .done)
def QaX:AT:=(zm 18 8
 (zm 19 0
 (zn 20 0 19
 (zb .lss 21 18 20
 .done))))
def QaW:AT:=(zm 24 0
 (zm 25 7
 (zx 26 3 24 25
 (za 27 1 26
 (zl 28 1 27
 (zm 29 0
 (zm 30 8
 (zx 31 3 29 30
 (za 32 1 31
 (zl 33 1 32
 (zb .neq 34 28 33
 (zm 35 34
 (zmf 36 35 0
 (zmf 37 35 7
 (zxf 38 35 3 36 37
 (zaf 39 35 2 38
 (zlf 40 35 1 39
 (zmf 41 35 0
 (zmf 42 35 8
 (zxf 43 35 3 41 42
 (zaf 44 35 2 43
 (zlf 45 35 1 44
 (zbf .neq 46 35 40 45
 (zp 47 35 46
 (zm 48 47
 (zmf 49 48 5
 (zmf 50 48 0
 (zmf 51 48 7
 (zxf 52 48 3 50 51
 (zaf 53 48 0 52
 (zlf 54 48 1 53
 (.cl false (some 55) (some (48,false)) (.c (.fn (.func 67) [] [])) [(.t 49),(.t 54)]
 (zf 56 48 (.un .not (.t 55))
 (zp 57 48 56
 (zm 58 57
 (zmf 59 58 5
 (zmf 60 58 0
 (zmf 61 58 8
 (zxf 62 58 3 60 61
 (zaf 63 58 0 62
 (zlf 64 58 1 63
 (.cl false (some 65) (some (58,false)) (.c (.fn (.func 67) [] [])) [(.t 59),(.t 64)]
 (zp 66 58 65
 .done)))))))))))))))))))))))))))))))))))))))))))
def YI:AT:=(zm 67 5
 (zm 68 0
 (zm 69 8
 (zx 70 3 68 69
 (za 71 0 70
 (zl 72 1 71
 (.wr false (some 73) none (.bsl false false 3 1 [(.int .i64 0)] 1 [(0,1,(.t 72))])
 (.wr false (some 74) none (.app 3 1 8 false (.t 67) (.t 73))
 (zm 5 74
 .done)))))))))
def YH:AT:=(zr 6 (.mov (.c (.bool true)))
 .done)
def YG:AT:=(zm 22 8
 (zc .add 23 22 1
 (zm 8 23
 .done)))
def Qd5:AT:=(zm 16 7
 (zc .add 17 16 1
 (zm 7 17
 .done)))
def QvB:AT:=(zm 75 5
 (zm 4 75
 .done))
def Xs:AF:=⟨76,[.tmp 4],
 (zg QCh []
 (zg QCg [9,10]
 (.seq (zg QCf []
 (.block 0 (.loop (.seq (zg Qqb []
 (zw 11
 .skip
 (.exit 0)))
 (.block 1 (zg Qqa []
 (zg Qp9 []
 (.block 2 (.loop (.seq (zg Qic [12,13,14]
 (zw 15
 .skip
 (.exit 2)))
 (.seq (.block 3 (zg Qib []
 (.block 4 (.loop (.seq (zg QaX [18,19,20]
 (zw 21
 .skip
 (.exit 4)))
 (.seq (.block 5 (.seq (zg QaW [24,25,26,27,28,29,30,31,32,33,34,35,36,37,38,39,40,41,42,43,44,45,46,47,48,49,50,51,52,53,54,55,56,57,58,59,60,61,62,63,64,65]
 (zw 66
 (.exit 5)
 .skip))
 (zg YI [67,68,69,70,71,72,73,74]
 (.reg YH []))))
 (.reg YG [22,23])))))))
 (.reg Qd5 [16,17]))))))))))))
 (zg QvB [75]
 .ret))))⟩
abbrev Qa5:Nat:=47
/- (*proofmark/term.Graph).Node -/
def QCe:AT:=(.wr false (some 4) none (.new 108 [(.int .u8 0),(.int .i64 0),(.int .i64 0),(.int .u8 0),(.int .i64 0),(.int .i64 0)])
 (zr 5 (.mov (.c (.bool false)))
 .done))
def QCd:AT:=(zm 6 0
 (zm 7 1
 (zk 8 68 [.t 6,.t 7]
 (zr 9 (.un .not (.t 8))
 .done))))
def QCc:AT:=(zr 10 (.build [(.int .u8 0),(.int .i64 0),(.int .i64 0),(.int .u8 0),(.int .i64 0),(.int .i64 0)] [])
 (zs 6 4 10
 (zr 5 (.mov (.c (.bool false)))
 .done)))
def QCb:AT:=(zm 11 0
 (zr 12 (.nilc (.t 11))
 (za 13 0 12
 (zl 14 1 13
 (zm 15 1
 (zx 16 6 14 15
 (zr 17 (.load true 6 (.t 16))
 (zs 6 4 17
 (zr 5 (.mov (.c (.bool true)))
 .done)))))))))
def YK:AF:=⟨18,[.cell 4 true 6,.tmp 5],
 (zg QCe []
 (.seq (zg QCd [6,7,8]
 (zw 9
 (zg QCc [10]
 .ret)
 .skip))
 (zg QCb [11,12,13,14,15,16,17]
 .ret)))⟩
abbrev QaD:Nat:=48
/- proofmark/proofmarklaw25.paired -/
def QCa:AT:=(zr 6 (.mov (.c (.bool false)))
 .done)
def QB9:AT:=(zr 7 (.mov (zi 0))
 .done)
def QB8:AT:=(zm 8 7
 (zm 9 0
 (zn 10 0 9
 (zb .lss 11 8 10
 .done))))
def QB7:AT:=(zm 14 0
 (zm 15 7
 (zx 16 3 14 15
 (za 17 1 16
 (zl 18 1 17
 (zm 19 1
 (zb .eql 20 18 19
 (zm 21 20
 (zmt 22 21 0
 (zmt 23 21 7
 (zxt 24 21 3 22 23
 (zat 25 21 2 24
 (zlt 26 21 1 25
 (zmt 27 21 2
 (zbt .eql 28 21 26 27
 (zq 29 21 28
 .done))))))))))))))))
def QB6:AT:=(zr 6 (.mov (.c (.bool true)))
 .done)
def QB5:AT:=(zm 12 7
 (zc .add 13 12 1
 (zm 7 13
 .done)))
def QB4:AT:=(zr 6 (.mov (.c (.bool false)))
 .done)
def Xf:AF:=⟨30,[.tmp 6],
 (zg QCa []
 (.seq (zg QB9 []
 (.block 0 (.loop (.seq (zg QB8 [8,9,10]
 (zw 11
 .skip
 (.exit 0)))
 (.seq (.block 1 (zg QB7 [14,15,16,17,18,19,20,21,22,23,24,25,26,27,28]
 (zw 29
 (zg QB6 []
 .ret)
 .skip)))
 (.reg QB5 [12,13]))))))
 (zg QB4 []
 .ret)))⟩
abbrev Z0:Nat:=49
/- proofmark/lift.Begin$1 -/
def QB3:AT:=(zr 2 (.mov (zi 0))
 .done)
def QB2:AT:=(zl 3 1 0
 (zc .add 4 3 1
 (zs 1 0 4
 .done)))
def QB1:AT:=(zl 5 1 1
 (zl 6 1 0
 (zc .sub 7 6 1
 (zk 8 25 [.t 5,.t 7]
 (zm 2 8
 .done)))))
def Z1:AF:=⟨9,[.tmp 2],
 (zg QB3 []
 (zg QB2 [3,4]
 (zg QB1 [5,6,7,8]
 .ret)))⟩
abbrev QfL:Nat:=50
abbrev QwC:Nat:=51
abbrev Qy0:Nat:=52
abbrev Qhz:Nat:=53
/- math/bits.Len -/
def zq1f_0:AT:=(zr 2 (.mov (zi 0))
 .done)
def zq1f_1:AT:=(zm 3 0
 (zr 4 (.conv .u32 (.t 3))
 (zk 5 77 [.t 4]
 (zm 2 5
 .done))))
def zq1f_2:AT:=(zm 6 0
 (zk 7 78 [.t 6]
 (zm 2 7
 .done)))
def Qef:AF:=⟨8,[.tmp 2],
 (zg zq1f_0 []
 (.seq (.cond (.c (.bool false))
 (zg zq1f_1 [3,4,5]
 .ret)
 .skip)
 (zg zq1f_2 [6,7]
 .ret)))⟩
abbrev Qmx:Nat:=54
abbrev QCU:Nat:=55
abbrev Quu:Nat:=56
abbrev Qsf:Nat:=57
abbrev Qsg:Nat:=58
/- slices.IndexFunc[[]proofmark/relate.Pair,proofmark/relate.Pair] -/
def QB0:AT:=(zr 4 (.mov (zi 0))
 .done)
def QBZ:AT:=(zm 6 0
 (zn 7 0 6
 (zr 8 (.mov (zi 0))
 .done)))
def QBY:AT:=(zb .lss 9 8 7
 .done)
def QBX:AT:=(zm 10 8
 (zm 5 10
 .done))
def QBW:AT:=(zm 11 1
 (zm 12 0
 (zm 13 5
 (zx 14 3 12 13
 (zr 15 (.load true 3 (.t 14))
 (.cl false (some 16) none (.t 11) [(.t 15)]
 .done))))))
def QBV:AT:=(zm 17 5
 (zm 4 17
 .done))
def QBU:AT:=(zc .add 18 8 1
 (zm 8 18
 .done))
def QBT:AT:=(zr 4 (.mov (.c (.int .i64 (-1))))
 .done)
def Qs:AF:=⟨19,[.tmp 4],
 (zg QB0 []
 (.seq (zg QBZ [6]
 (.block 0 (.loop (zg QBY []
 (.seq (zw 9
 .skip
 (.exit 0))
 (.seq (.block 1 (zg QBX [10]
 (zg QBW [11,12,13,14,15]
 (zw 16
 (zg QBV [17]
 .ret)
 .skip))))
 (.reg QBU [18])))))))
 (zg QBT []
 .ret)))⟩
abbrev Q5:Nat:=59
/- proofmark/image.Right -/
def zq1l_0:AT:=(.wr false (some 1) none (.box 88 (.t 0))
 (zr 2 (.mov (.c (.bool false)))
 .done))
def zq1l_1:AT:=(.wr false (some 7) none .mkmap
 (.wr false (some 3) none (.new 154 [(.val (.map none))])
 (zs 1 3 7
 .done)))
def zq1l_2:AT:=(.wr false (some 4) none (.new 3 [(.int .i64 0)])
 (.wr false none none (.store 1 (.t 4) (.c (.int .i64 (-1))))
 .done))
def zq1l_3:AT:=(zr 8 (.mkfn (.func 82) [] [(.t 3),(.t 4),(.t 1)])
 (.wr false (some 5) none (.new 155 [(.val .nilFunc)])
 (zs 1 5 8
 .done)))
def zq1l_4:AT:=(zr 9 (.mkfn (.func 83) [] [(.t 1)])
 (zr 10 (.mkfn (.func 84) [] [(.t 1)])
 (zr 11 (.mkfn (.func 85) [] [(.t 1)])
 (zr 12 (.mkfn (.func 86) [] [(.t 1),(.t 5)])
 (.wr false (some 13) none (.bsl true false 23 1 [(.val .nilFunc)] 4 [(0,1,(.t 9)),(1,1,(.t 10)),(2,1,(.t 11)),(3,1,(.t 12))])
 (zm 6 13
 .done))))))
def zq1l_5:AT:=(zm 14 6
 (zk 15 88 [.t 14,(.c (.fn (.func 89) [] []))]
 (zr 16 (.un .not (.t 15))
 (zm 2 16
 .done))))
def QhI:AF:=⟨17,[.tmp 2],
 (zg zq1l_0 []
 (zg zq1l_1 [7]
 (zg zq1l_2 []
 (zg zq1l_3 [8]
 (zg zq1l_4 [9,10,11,12,13]
 (zg zq1l_5 [14,15,16]
 .ret))))))⟩
abbrev Qpg:Nat:=60
/- proofmark/regions.read -/
def zq1m_0:AT:=(.wr false (some 2) none (.box 88 (.t 0))
 (.wr false (some 4) none (.new 39 [(.str []),(.int .i64 0),(.lst 0 [] true),(.int .i64 0),(.lst 0 [] true)])
 (.wr false (some 5) none (.new 82 [(.int .i64 0),(.int .i64 0),(.int .i64 0)])
 .done)))
def zq1m_1:AT:=(zr 17 (.load true 3 (.t 2))
 (zm 18 1
 (zk 19 90 [.t 17,.t 18]
 (zm 16 19
 (ze 20 16 0
 (ze 21 16 1
 (zm 6 20
 (zm 7 21
 .done))))))))
def zq1m_2:AT:=(zr 22 (.load true 3 (.t 2))
 (za 23 1 2
 (zl 24 1 23
 (zm 25 1
 (zx 26 2 24 25
 (za 27 0 26
 (zl 28 1 27
 (zm 29 6
 (zr 30 (.build [(.str []),(.int .i64 0),(.lst 0 [] true),(.int .i64 0),(.lst 0 [] true)] [(0,1,(.t 28)),(1,1,(.t 29))])
 (zr 31 (.build [(.int .i64 0),(.lst 0 [] true),(.lst 0 [] true),(.str []),(.int .i64 0),(.lst 0 [] true),(.int .i64 0),(.lst 0 [] true)] [(0,3,(.t 22)),(3,5,(.t 30))])
 (.wr false (some 32) none (.box 164 (.t 31))
 (zm 8 32
 .done))))))))))))
def zq1m_3:AT:=(.wr false (some 33) none .mkmap
 (zm 9 33
 .done))
def zq1m_4:AT:=(za 34 2 2
 (zl 35 1 34
 (zm 36 6
 (zc .quo 37 36 4
 (zm 38 7
 (zc .quo 39 38 4
 (zr 40 (.slc 1 (.t 35) (some (.t 37)) (some (.t 39)) none)
 (zn 41 0 40
 (zr 42 (.mov (zi 0))
 .done)))))))))
def zq1m_5:AT:=(zb .lss 43 42 41
 .done)
def zq1m_6:AT:=(zm 44 42
 (zx 45 1 40 42
 (zl 46 1 45
 (zm 10 44
 (zm 11 46
 .done)))))
def zq1m_7:AT:=(zm 48 11
 (zk 49 91 [.t 48]
 (zm 47 49
 (ze 50 47 0
 (ze 51 47 1
 (.wr false (some 12) none (.new 77 [(.int .u8 0),(.int .u8 0),(.int .u8 0),(.int .u8 0),(.int .i64 0)])
 (zs 5 12 50
 (zm 13 51
 .done))))))))
def zq1m_8:AT:=(zm 52 13
 (zc .neq 53 52 0
 .done))
def zq1m_9:AT:=(zm 54 9
 (zm 55 10
 (zr 56 (.build [(.int .u8 0),(.int .u8 0),(.int .u8 0),(.int .u8 0),(.int .i64 0)] [])
 (zs 5 12 56
 (.wr false none none (.mapup false [.i] (.t 54) (.t 55) (zi 1))
 .done)))))
def QFl:AT:=(zm 57 8
 (zm 58 8
 (zr 59 (.nilc (.t 58))
 (za 60 3 59
 (za 61 2 60
 (zl 62 1 61
 (zr 63 (.load true 5 (.t 12))
 (.wr true (some 64) none (.bsl false true 77 5 [(.int .u8 0),(.int .u8 0),(.int .u8 0),(.int .u8 0),(.int .i64 0)] 1 [(0,5,(.t 63))])
 (.wr false (some 65) none (.app 77 5 16 false (.t 62) (.t 64))
 (zr 66 (.nilc (.t 57))
 (za 67 3 66
 (za 68 2 67
 (zs 1 68 65
 .done)))))))))))))
def QFk:AT:=(zc .add 69 42 1
 (zm 42 69
 .done))
def QFj:AT:=(zm 70 8
 (zm 71 8
 (zr 72 (.nilc (.t 71))
 (za 73 3 72
 (za 74 2 73
 (zl 75 1 74
 (zr 76 (.iaddr none 5 (.t 75) (zi 0))
 (zr 77 (.load true 5 (.t 76))
 (zk 78 92 [.t 77]
 (zr 79 (.nilc (.t 70))
 (za 80 3 79
 (za 81 3 80
 (zs 1 81 78
 .done)))))))))))))
def QFi:AT:=(zm 82 8
 (zr 83 (.nilc (.t 82))
 (za 84 3 83
 (za 85 2 84
 (zl 86 1 85
 (zn 87 0 86
 (zr 88 (.mov (zi 0))
 .done)))))))
def QFh:AT:=(zb .lss 89 88 87
 .done)
def QFg:AT:=(zm 90 88
 (zm 14 90
 .done))
def QFf:AT:=(zm 91 9
 (zm 92 14
 (zr 93 (.look false false [.i] (.int .i64 0) (.t 91) (.t 92))
 (zc .gtr 94 93 0
 .done))))
def QFe:AT:=(zr 95 (.build [(.str []),(.int .i64 0),(.lst 0 [] true),(.int .i64 0),(.lst 0 [] true)] [])
 (zm 96 1
 (zm 97 14
 (zr 98 (.build [(.int .i64 0),(.int .i64 0),(.int .i64 0)] [(0,1,(.t 96)),(1,1,(.t 97)),(2,1,(zi 220))])
 (zs 5 4 95
 (zs 3 5 98
 .done))))))
def QFd:AT:=(zm 99 8
 (zm 100 14
 (zk 101 93 [.t 99,.t 100]
 (zm 15 101
 .done))))
def QFc:AT:=(zm 102 15
 (zc .neq 103 102 0
 .done))
def QFb:AT:=(zr 104 (.build [(.str []),(.int .i64 0),(.lst 0 [] true),(.int .i64 0),(.lst 0 [] true)] [])
 (zm 105 1
 (zm 106 14
 (zm 107 15
 (zr 108 (.build [(.int .i64 0),(.int .i64 0),(.int .i64 0)] [(0,1,(.t 105)),(1,1,(.t 106)),(2,1,(.t 107))])
 (zs 5 4 104
 (zs 3 5 108
 .done)))))))
def QFa:AT:=(zc .add 109 88 1
 (zm 88 109
 .done))
def QE9:AT:=(zm 110 8
 (zm 111 8
 (zr 112 (.nilc (.t 111))
 (za 113 3 112
 (zr 114 (.load true 5 (.t 113))
 (zk 115 94 [.t 114]
 (zr 116 (.nilc (.t 110))
 (za 117 3 116
 (za 118 4 117
 (zs 1 118 115
 .done))))))))))
def QE8:AT:=(zm 119 8
 (zr 120 (.nilc (.t 119))
 (za 121 3 120
 (zr 122 (.load true 5 (.t 121))
 (zr 123 (.build [(.int .i64 0),(.int .i64 0),(.int .i64 0)] [])
 (zs 5 4 122
 (zs 3 5 123
 .done)))))))
def QfA:AF:=⟨124,[.cell 4 true 5,.cell 5 true 3],
 (zg zq1m_0 []
 (zg zq1m_1 [17,18,19,16,20,21]
 (zg zq1m_2 [22,23,24,25,26,27,28,29,30,31,32]
 (zg zq1m_3 [33]
 (.seq (zg zq1m_4 [34,35,36,37,38,39]
 (.block 0 (.loop (zg zq1m_5 []
 (.seq (zw 43
 .skip
 (.exit 0))
 (.seq (.block 1 (zg zq1m_6 [44,45,46]
 (zg zq1m_7 [48,49,47,50,51]
 (.seq (zg zq1m_8 [52]
 (zw 53
 (.reg zq1m_9 [54,55,56])
 .skip))
 (.reg QFl [57,58,59,60,61,62,63,64,65,66,67,68])))))
 (.reg QFk [69])))))))
 (zg QFj [70,71,72,73,74,75,76,77,78,79,80,81]
 (.seq (zg QFi [82,83,84,85,86]
 (.block 2 (.loop (zg QFh []
 (.seq (zw 89
 .skip
 (.exit 2))
 (.seq (.block 3 (zg QFg [90]
 (.seq (zg QFf [91,92,93]
 (zw 94
 (zg QFe [95,96,97,98]
 .ret)
 .skip))
 (zg QFd [99,100,101]
 (zg QFc [102]
 (zw 103
 (zg QFb [104,105,106,107,108]
 .ret)
 .skip))))))
 (.reg QFa [109])))))))
 (zg QE9 [110,111,112,113,114,115,116,117,118]
 (zg QE8 [119,120,121,122,123]
 .ret)))))))))⟩
abbrev QnF:Nat:=61
/- proofmark/rv.Encode -/
def QvA:AT:=(.wr false (some 1) none (.box 77 (.t 0))
 (zr 2 (.mov (.c (.int .u32 0)))
 (zr 3 (.mov (zi 0))
 .done)))
def Qvz:AT:=(za 8 0 1
 (zl 9 1 8
 (zk 10 95 [.t 9]
 (zm 7 10
 (ze 11 7 0
 (ze 12 7 1
 (.wr false (some 4) none (.new 175 [(.bool false),(.bool false),(.bool false),(.lst 0 [] true),(.int .i64 0),(.bool false),(.int .u32 0),(.str []),(.int .u32 0)])
 (zs 9 4 11
 (zm 5 12
 .done)))))))))
def Qvy:AT:=(zr 6 (.mov (.c (.fn (.func 96) [] [])))
 .done)
def Qvx:AT:=(zm 13 5
 (zr 14 (.un .not (.t 13))
 (zm 15 14
 (zmf 16 15 6
 (zaf 17 15 0 4
 (zaf 18 15 0 17
 (zlf 19 15 1 18
 (zaf 20 15 1 1
 (zlf 21 15 1 20
 (.cl false (some 22) (some (15,false)) (.t 16) [(.t 19),(.t 21)]
 (zf 23 15 (.un .not (.t 22))
 (zp 24 15 23
 (zm 25 24
 (zmf 26 25 6
 (zaf 27 25 0 4
 (zaf 28 25 1 27
 (zlf 29 25 1 28
 (zaf 30 25 2 1
 (zlf 31 25 1 30
 (.cl false (some 32) (some (25,false)) (.t 26) [(.t 29),(.t 31)]
 (zf 33 25 (.un .not (.t 32))
 (zp 34 25 33
 (zm 35 34
 (zmf 36 35 6
 (zaf 37 35 0 4
 (zaf 38 35 2 37
 (zlf 39 35 1 38
 (zaf 40 35 3 1
 (zlf 41 35 1 40
 (.cl false (some 42) (some (35,false)) (.t 36) [(.t 39),(.t 41)]
 (zf 43 35 (.un .not (.t 42))
 (zp 44 35 43
 (zm 45 44
 (zaf 46 45 0 4
 (zaf 47 45 3 46
 (zlf 48 45 1 47
 (znf 49 45 0 48
 (zcf .eql 50 45 49 0
 (zmf 51 45 50
 (zat 52 51 4 1
 (zlt 53 51 1 52
 (zct .neq 54 51 53 0
 (zqf 55 45 51 54
 (zp 56 45 55
 .done))))))))))))))))))))))))))))))))))))))))))))
def Qvw:AT:=(zr 2 (.mov (.c (.int .u32 0)))
 (zr 3 (.mov (zi 100))
 .done))
def Qvv:AT:=(za 57 0 4
 (zr 58 (.load true 7 (.t 57))
 (za 59 4 1
 (zl 60 1 59
 (zk 61 97 [.t 58,.t 60]
 (zr 62 (.un .not (.t 61))
 .done))))))
def Qvu:AT:=(zr 2 (.mov (.c (.int .u32 0)))
 (zr 3 (.mov (zi 101))
 .done))
def Qvt:AT:=(za 63 8 4
 (zl 64 1 63
 (za 65 1 1
 (zl 66 1 65
 (zr 67 (.conv .u32 (.t 66))
 (zr 68 (.faddr 0 (.g 0))
 (zl 69 1 68
 (zb .shl 70 67 69
 (za 71 2 1
 (zl 72 1 71
 (zr 73 (.conv .u32 (.t 72))
 (zr 74 (.faddr 0 (.g 1))
 (zl 75 1 74
 (zb .shl 76 73 75
 (za 77 3 1
 (zl 78 1 77
 (zr 79 (.conv .u32 (.t 78))
 (zr 80 (.faddr 0 (.g 2))
 (zl 81 1 80
 (zb .shl 82 79 81
 (za 83 0 4
 (zr 84 (.load true 7 (.t 83))
 (za 85 4 1
 (zl 86 1 85
 (.cl true (some 87) none (.c (.fn (.func 99) [] [])) [(.t 84),(.t 86)]
 (.wr false (some 88) none (.bsl false false 131 1 [(.int .u32 0)] 5 [(0,1,(.t 64)),(1,1,(.t 70)),(2,1,(.t 76)),(3,1,(.t 82)),(4,1,(.t 87))])
 (zk 89 98 [.t 88]
 (zm 2 89
 (zr 3 (.mov (zi 0))
 .done)))))))))))))))))))))))))))))
def Qb8:AF:=⟨90,[.tmp 2,.tmp 3],
 (zg QvA []
 (zg Qvz [8,9,10,7,11,12]
 (zg Qvy []
 (.seq (zg Qvx [13,14,15,16,17,18,19,20,21,22,23,24,25,26,27,28,29,30,31,32,33,34,35,36,37,38,39,40,41,42,43,44,45,46,47,48,49,50,51,52,53,54,55]
 (zw 56
 (zg Qvw []
 .ret)
 .skip))
 (.seq (zg Qvv [57,58,59,60,61]
 (zw 62
 (zg Qvu []
 .ret)
 .skip))
 (zg Qvt [63,64,65,66,67,68,69,70,71,72,73,74,75,76,77,78,79,80,81,82,83,84,85,86,87,88,89]
 .ret))))))⟩
abbrev QhB:Nat:=62
/- proofmark/relate.reg -/
def Qia:AT:=(zr 2 (.mov (.c (.bool false)))
 .done)
def Qh9:AT:=(zm 3 0
 (zc .geq 4 3 1
 (zm 5 4
 (zmt 6 5 0
 (zct .leq 7 5 6 31
 (zq 8 5 7
 (zm 9 8
 (zmt 10 9 0
 (zct .neq 11 9 10 2
 (zq 12 9 11
 (zm 2 12
 .done)))))))))))
def Xz:AF:=⟨13,[.tmp 2],
 (zg Qia []
 (zg Qh9 [3,4,5,6,7,8,9,10,11,12]
 .ret))⟩
abbrev Qkx:Nat:=63
/- (*proofmark/term.Graph).may -/
def QBS:AT:=(.wr false (some 3) none (.box 108 (.t 1))
 (zr 4 (.mov (.c (.bool false)))
 .done))
def QBR:AT:=(zr 5 (.load true 6 (.t 3))
 (zk 6 100 [.t 5]
 (zr 7 (.build [(.int .u8 0),(.int .i64 0),(.int .i64 0),(.int .u8 0),(.int .i64 0),(.int .i64 0)] [])
 (zr 8 (.eqs true [.i,.i,.i,.i,.i,.i] (.t 6) (.t 7))
 .done))))
def QBQ:AT:=(zr 4 (.mov (.c (.bool false)))
 .done)
def QBP:AT:=(za 9 0 3
 (zl 10 1 9
 .done))
def QBO:AT:=(zr 12 (.bin .eql (.t 10) (zu 1))
 (zm 11 12
 .done))
def QBN:AT:=(zr 4 (.mov (.c (.bool true)))
 .done)
def QBM:AT:=(zr 14 (.bin .eql (.t 10) (zu 2))
 (zm 13 14
 .done))
def QBL:AT:=(za 15 1 3
 (zl 16 1 15
 (zc .geq 17 16 0
 (zm 4 17
 .done))))
def QBK:AT:=(zr 19 (.bin .eql (.t 10) (zu 3))
 (zm 18 19
 .done))
def QBJ:AT:=(za 20 1 3
 (zl 21 1 20
 (zc .geq 22 21 0
 (zm 23 22
 (zat 24 23 2 3
 (zlt 25 23 1 24
 (zct .geq 26 23 25 0
 (zq 27 23 26
 (zm 28 27
 (zmt 29 28 0
 (zat 30 28 5 3
 (zlt 31 28 1 30
 (.cl false (some 32) (some (28,true)) (.c (.fn (.func 68) [] [])) [(.t 29),(.t 31)]
 (zq 33 28 32
 (zm 4 33
 .done)))))))))))))))
def Qvs:AT:=(zr 35 (.bin .eql (.t 10) (zu 4))
 (zm 34 35
 .done))
def Qvr:AT:=(za 36 3 3
 (zl 37 1 36
 (zr 38 (.bin .geq (.t 37) (zu 1))
 (zm 39 38
 (zat 40 39 3 3
 (zlt 41 39 1 40
 (zt 42 39 (.bin .leq (.t 41) (zu 16))
 (zq 43 39 42
 (zm 44 43
 (zmt 45 44 0
 (zat 46 44 4 3
 (zlt 47 44 1 46
 (.cl false (some 48) (some (44,true)) (.c (.fn (.func 68) [] [])) [(.t 45),(.t 47)]
 (zq 49 44 48
 (zm 50 49
 (zmt 51 50 0
 (zat 52 50 5 3
 (zlt 53 50 1 52
 (.cl false (some 54) (some (50,true)) (.c (.fn (.func 68) [] [])) [(.t 51),(.t 53)]
 (zq 55 50 54
 (zm 4 55
 .done)))))))))))))))))))))
def Qvq:AT:=(zr 4 (.mov (.c (.bool false)))
 .done)
def Zh:AF:=⟨56,[.tmp 4],
 (zg QBS []
 (.seq (zg QBR [5,6,7]
 (zw 8
 (zg QBQ []
 .ret)
 .skip))
 (.seq (zg QBP [9]
 (.block 0 (zg QBO [12]
 (zw 11
 (zg QBN []
 .ret)
 (zg QBM [14]
 (zw 13
 (zg QBL [15,16,17]
 .ret)
 (zg QBK [19]
 (zw 18
 (zg QBJ [20,21,22,23,24,25,26,27,28,29,30,31,32,33]
 .ret)
 (zg Qvs [35]
 (zw 34
 (zg Qvr [36,37,38,39,40,41,42,43,44,45,46,47,48,49,50,51,52,53,54,55]
 .ret)
 .skip))))))))))
 (zg Qvq []
 .ret))))⟩
abbrev QeJ:Nat:=64
/- proofmark/term.words -/
def QBI:AT:=(.wr false (some 3) none (.box 108 (.t 0))
 (zr 6 (.mov (.c (.str [])))
 .done))
def QBH:AT:=(za 8 1 3
 (zl 9 1 8
 (zk 10 101 [.t 9,(zi 10)]
 (zm 7 10
 .done))))
def QBG:AT:=(za 11 0 3
 (zl 12 1 11
 .done))
def QBF:AT:=(zr 14 (.bin .eql (.t 12) (zu 1))
 (zm 13 14
 .done))
def QBE:AT:=(zm 15 7
 (zm 6 15
 .done))
def QBD:AT:=(zr 17 (.bin .eql (.t 12) (zu 2))
 (zm 16 17
 .done))
def QBC:AT:=(zm 18 7
 (zr 19 (.bin .add (.c (.str [115])) (.t 18))
 (zm 6 19
 .done)))
def QBB:AT:=(zr 21 (.bin .eql (.t 12) (zu 3))
 (zm 20 21
 .done))
def QBA:AT:=(za 22 2 3
 (zl 23 1 22
 (zk 24 102 [.t 23]
 (zr 25 (.bin .add (.c (.str [97])) (.t 24))
 (zr 26 (.bin .add (.t 25) (.c (.str [118])))
 (zm 27 7
 (zb .add 28 26 27
 (zr 29 (.bin .add (.t 28) (.c (.str [91])))
 (zm 30 2
 (zb .add 31 29 30
 (zr 32 (.bin .add (.t 31) (.c (.str [93])))
 (zm 6 32
 .done))))))))))))
def QBz:AT:=(zm 33 1
 (zr 34 (.bin .add (.c (.str [40])) (.t 33))
 (zr 35 (.bin .add (.t 34) (.c (.str [32])))
 (za 36 3 3
 (zl 37 1 36
 (zk 38 103 [.t 37]
 (zb .add 39 35 38
 (zr 40 (.bin .add (.t 39) (.c (.str [32])))
 (zm 41 2
 (zb .add 42 40 41
 (zr 43 (.bin .add (.t 42) (.c (.str [41])))
 (zm 6 43
 .done))))))))))))
def QdA:AF:=⟨44,[.tmp 6],
 (zg QBI []
 (zg QBH [8,9,10]
 (.seq (zg QBG [11]
 (.block 0 (zg QBF [14]
 (zw 13
 (zg QBE [15]
 .ret)
 (zg QBD [17]
 (zw 16
 (zg QBC [18,19]
 .ret)
 (zg QBB [21]
 (zw 20
 (zg QBA [22,23,24,25,26,27,28,29,30,31,32]
 .ret)
 .skip))))))))
 (zg QBz [33,34,35,36,37,38,39,40,41,42,43]
 .ret))))⟩
abbrev Qks:Nat:=65
/- proofmark/term.parts -/
def QBy:AT:=(.wr false (some 1) none (.box 108 (.t 0))
 (zr 2 (.mov (.c (.lst 0 [] true)))
 .done))
def QBx:AT:=(za 3 0 1
 (zl 4 1 3
 .done))
def QBw:AT:=(zr 6 (.bin .eql (.t 4) (zu 3))
 (zm 5 6
 .done))
def QBv:AT:=(za 7 5 1
 (zl 8 1 7
 (.wr false (some 9) none (.bsl false false 44 1 [(.int .i64 0)] 1 [(0,1,(.t 8))])
 (zm 2 9
 .done))))
def QBu:AT:=(zr 11 (.bin .eql (.t 4) (zu 4))
 (zm 10 11
 .done))
def QBt:AT:=(za 12 4 1
 (zl 13 1 12
 (za 14 5 1
 (zl 15 1 14
 (.wr false (some 16) none (.bsl false false 44 1 [(.int .i64 0)] 2 [(0,1,(.t 13)),(1,1,(.t 15))])
 (zm 2 16
 .done))))))
def QBs:AT:=(zr 2 (.mov (.c (.lst 0 [] true)))
 .done)
def QdB:AF:=⟨17,[.tmp 2],
 (zg QBy []
 (.seq (zg QBx [3]
 (.block 0 (zg QBw [6]
 (zw 5
 (zg QBv [7,8,9]
 .ret)
 (zg QBu [11]
 (zw 10
 (zg QBt [12,13,14,15,16]
 .ret)
 .skip))))))
 (zg QBs []
 .ret)))⟩
abbrev Qkt:Nat:=66
/- proofmark/proofmarkref25.has -/
def QBr:AT:=(zr 4 (.mov (.c (.bool false)))
 .done)
def QBq:AT:=(zr 5 (.mov (zi 0))
 .done)
def QBp:AT:=(zm 6 5
 (zm 7 0
 (zn 8 0 7
 (zb .lss 9 6 8
 .done))))
def QBo:AT:=(zm 12 0
 (zm 13 5
 (zx 14 1 12 13
 (zl 15 1 14
 (zm 16 1
 (zb .eql 17 15 16
 .done))))))
def QBn:AT:=(zr 4 (.mov (.c (.bool true)))
 .done)
def QBm:AT:=(zm 10 5
 (zc .add 11 10 1
 (zm 5 11
 .done)))
def QBl:AT:=(zr 4 (.mov (.c (.bool false)))
 .done)
def XD:AF:=⟨18,[.tmp 4],
 (zg QBr []
 (.seq (zg QBq []
 (.block 0 (.loop (.seq (zg QBp [6,7,8]
 (zw 9
 .skip
 (.exit 0)))
 (.seq (.block 1 (zg QBo [12,13,14,15,16]
 (zw 17
 (zg QBn []
 .ret)
 .skip)))
 (.reg QBm [10,11]))))))
 (zg QBl []
 .ret)))⟩
abbrev QbE:Nat:=67
/- (*proofmark/term.Graph).is -/
def QBk:AT:=(zr 4 (.mov (.c (.bool false)))
 .done)
def QBj:AT:=(zm 5 0
 (zr 6 (.eqp true (.t 5) (.c (.val (.pointer none))))
 (zm 7 6
 (zmt 8 7 1
 (zct .geq 9 7 8 0
 (zq 10 7 9
 (zm 11 10
 (zmt 12 11 1
 (zmt 13 11 0
 (zt 14 11 (.nilc (.t 13))
 (zat 15 11 0 14
 (zlt 16 11 1 15
 (znt 17 11 0 16
 (zbt .lss 18 11 12 17
 (zq 19 11 18
 (zm 4 19
 .done))))))))))))))))
def ZO:AF:=⟨20,[.tmp 4],
 (zg QBk []
 (zg QBj [5,6,7,8,9,10,11,12,13,14,15,16,17,18,19]
 .ret))⟩
abbrev QfD:Nat:=68
abbrev QeR:Nat:=69
abbrev Qhl:Nat:=70
abbrev QeS:Nat:=71
abbrev QfE:Nat:=72
abbrev Qfn:Nat:=73
abbrev QcT:Nat:=74
abbrev QeK:Nat:=75
abbrev QgA:Nat:=76
end Go.Proofs.YtfgccihafnjalaaGreatDoor
