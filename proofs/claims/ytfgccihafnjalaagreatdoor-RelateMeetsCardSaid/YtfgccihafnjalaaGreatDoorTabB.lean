/- The translations of the functions, by a program of mine. -/
import Derived.Test.YtfgccihafnjalaaGreatDoorTabA
namespace Go.Proofs.YtfgccihafnjalaaGreatDoor
open Go Go.Am
set_option maxRecDepth 100000
/- proofmark/regions.frame -/
def zq2h_0:AT:=(.wr false (some 1) none (.box 77 (.t 0))
 (zr 2 (.mov (zi 0))
 .done))
def zq2h_1:AT:=(za 4 4 1
 (zl 5 1 4
 (zr 6 (.un .neg (.t 5))
 (zm 3 6
 .done))))
def zq2h_2:AT:=(za 7 0 1
 (zl 8 1 7
 (zr 9 (.bin .neq (.t 8) (zu 22))
 (zm 10 9
 (zaf 11 10 1 1
 (zlf 12 10 1 11
 (zf 13 10 (.bin .neq (.t 12) (zu 2))
 (zp 14 10 13
 (zm 15 14
 (zaf 16 15 2 1
 (zlf 17 15 1 16
 (zf 18 15 (.bin .neq (.t 17) (zu 2))
 (zp 19 15 18
 (zm 20 19
 (zmf 21 20 3
 (zcf .lss 22 20 21 8
 (zp 23 20 22
 (zm 24 23
 (zmf 25 24 3
 (zcf .gtr 26 24 25 1984
 (zp 27 24 26
 (zm 28 27
 (zmf 29 28 3
 (zcf .rem 30 28 29 8
 (zcf .neq 31 28 30 0
 (zp 32 28 31
 .done))))))))))))))))))))))))))
def zq2h_3:AT:=(zr 2 (.mov (zi 0))
 .done)
def zq2h_4:AT:=(zm 33 3
 (zm 2 33
 .done))
def Qdi:AF:=⟨34,[.tmp 2],
 (zg zq2h_0 []
 (zg zq2h_1 [4,5,6]
 (.seq (zg zq2h_2 [7,8,9,10,11,12,13,14,15,16,17,18,19,20,21,22,23,24,25,26,27,28,29,30,31]
 (zw 32
 (zg zq2h_3 []
 .ret)
 .skip))
 (zg zq2h_4 [33]
 .ret))))⟩
abbrev Qkn:Nat:=92
/- (*proofmark/regions.reader).fault -/
def zq2i_0:AT:=(zr 4 (.mov (zi 0))
 .done)
def zq2i_1:AT:=(zm 8 0
 (zr 9 (.mkfn (.func 116) [(.t 8)] [])
 (zr 10 (.build [(.val .nilFunc),(.int .i64 0)] [(0,1,(.t 9)),(1,1,(zi 220))])
 (zm 11 0
 (zr 12 (.mkfn (.func 117) [(.t 11)] [])
 (zr 13 (.build [(.val .nilFunc),(.int .i64 0)] [(0,1,(.t 12)),(1,1,(zi 221))])
 (zm 14 0
 (zr 15 (.mkfn (.func 118) [(.t 14)] [])
 (zr 16 (.build [(.val .nilFunc),(.int .i64 0)] [(0,1,(.t 15)),(1,1,(zi 222))])
 (zm 17 0
 (zr 18 (.mkfn (.func 119) [(.t 17)] [])
 (zr 19 (.build [(.val .nilFunc),(.int .i64 0)] [(0,1,(.t 18)),(1,1,(zi 223))])
 (.wr false (some 20) none (.bsl true true 205 2 [(.val .nilFunc),(.int .i64 0)] 4 [(0,2,(.t 10)),(2,2,(.t 13)),(4,2,(.t 16)),(6,2,(.t 19))])
 (zm 5 20
 .done))))))))))))))
def zq2i_2:AT:=(zm 21 5
 (zn 22 0 21
 (zr 23 (.mov (zi 0))
 .done)))
def zq2i_3:AT:=(zb .lss 24 23 22
 .done)
def zq2i_4:AT:=(zx 25 2 21 23
 (zr 26 (.load true 2 (.t 25))
 (.wr false (some 7) none (.new 205 [(.val .nilFunc),(.int .i64 0)])
 (zs 2 7 26
 .done))))
def zq2i_5:AT:=(za 27 0 7
 (zl 28 1 27
 (zm 29 1
 (.cl false (some 30) none (.t 28) [(.t 29)]
 (zr 31 (.un .not (.t 30))
 .done)))))
def zq2i_6:AT:=(za 32 1 7
 (zl 33 1 32
 (zm 4 33
 .done)))
def zq2i_7:AT:=(zc .add 34 23 1
 (zm 23 34
 .done))
def zq2i_8:AT:=(zr 4 (.mov (zi 0))
 .done)
def YR:AF:=⟨35,[.tmp 4],
 (zg zq2i_0 []
 (zg zq2i_1 [8,9,10,11,12,13,14,15,16,17,18,19,20]
 (.seq (zg zq2i_2 []
 (.block 0 (.loop (zg zq2i_3 []
 (.seq (zw 24
 .skip
 (.exit 0))
 (.seq (.block 1 (zg zq2i_4 [25,26]
 (zg zq2i_5 [27,28,29,30]
 (zw 31
 (zg zq2i_6 [32,33]
 .ret)
 .skip))))
 (.reg zq2i_7 [34])))))))
 (zg zq2i_8 []
 .ret))))⟩
abbrev QdX:Nat:=93
/- (proofmark/regions.Func).cuts -/
def zq2j_0:AT:=(.wr false (some 1) none (.box 39 (.t 0))
 (zr 2 (.mov (.c (.lst 0 [] true)))
 .done))
def zq2j_1:AT:=(.wr false (some 10) none .mkmap
 (zm 3 10
 .done))
def zq2j_2:AT:=(za 11 2 1
 (zl 12 1 11
 (zn 13 0 12
 (zr 14 (.mov (zi 0))
 .done))))
def zq2j_3:AT:=(zb .lss 15 14 13
 .done)
def zq2j_4:AT:=(zm 16 14
 (zm 4 16
 .done))
def zq2j_5:AT:=(zr 17 (.load true 5 (.t 1))
 (zm 18 4
 (zk 19 120 [.t 17,.t 18]
 (zn 20 0 19
 (zr 21 (.mov (zi 0))
 .done)))))
def zq2j_6:AT:=(zb .lss 22 21 20
 .done)
def zq2j_7:AT:=(zx 23 1 19 21
 (zl 24 1 23
 (zm 6 24
 .done)))
def zq2j_8:AT:=(zm 25 3
 (zm 26 6
 (zr 27 (.look false false [.i] (.int .i64 0) (.t 25) (.t 26))
 (zc .add 28 27 1
 (.wr false none none (.mapup false [.i] (.t 25) (.t 26) (.t 28))
 .done)))))
def zq2j_9:AT:=(zc .add 29 21 1
 (zm 21 29
 .done))
def QBk:AT:=(zc .add 30 14 1
 (zm 14 30
 .done))
def QBj:AT:=(zr 7 (.mov (.c (.lst 0 [] true)))
 .done)
def QBi:AT:=(zm 31 3
 (.wr false (some 32) none (.iter (.t 31))
 .done))
def QBh:AT:=(.wr false (some 33) none (.next (.t 32))
 (ze 34 33 0
 .done))
def QBg:AT:=(.wr false (some 35) none (.entry (.t 32))
 (ze 36 35 0
 (ze 37 35 1
 (zm 8 36
 (zm 9 37
 .done)))))
def QBf:AT:=(zm 38 9
 (zc .gtr 39 38 1
 .done))
def QBe:AT:=(zm 40 7
 (zm 41 8
 (.wr false (some 42) none (.bsl false false 3 1 [(.int .i64 0)] 1 [(0,1,(.t 41))])
 (.wr false (some 43) none (.app 3 1 8 false (.t 40) (.t 42))
 (zm 7 43
 .done)))))
def QBd:AT:=(zm 44 7
 (zk 45 121 [.t 44]
 .done))
def QBc:AT:=(zm 46 7
 (zm 2 46
 .done))
def ZV:AF:=⟨47,[.tmp 2],
 (zg zq2j_0 []
 (zg zq2j_1 [10]
 (.seq (zg zq2j_2 [11,12]
 (.block 0 (.loop (zg zq2j_3 []
 (.seq (zw 15
 .skip
 (.exit 0))
 (.seq (.block 1 (zg zq2j_4 [16]
 (zg zq2j_5 [17,18]
 (.block 2 (.loop (zg zq2j_6 []
 (.seq (zw 22
 .skip
 (.exit 2))
 (.seq (.block 3 (zg zq2j_7 [23,24]
 (.reg zq2j_8 [25,26,27,28])))
 (.reg zq2j_9 [29])))))))))
 (.reg QBk [30])))))))
 (zg QBj []
 (.seq (zg QBi [31]
 (.block 4 (.loop (zg QBh [33]
 (.seq (zw 34
 .skip
 (.exit 4))
 (.block 5 (zg QBg [35,36,37]
 (zg QBf [38]
 (zw 39
 (.reg QBe [40,41,42,43])
 .skip)))))))))
 (zg QBd [44,45]
 (zg QBc [46]
 .ret)))))))⟩
abbrev Qga:Nat:=94
/- proofmark/rv.of -/
def QxX:AT:=(.wr false (some 2) none (.new 175 [(.bool false),(.bool false),(.bool false),(.lst 0 [] true),(.int .i64 0),(.bool false),(.int .u32 0),(.str []),(.int .u32 0)])
 (zr 3 (.mov (.c (.bool false)))
 .done))
def QxW:AT:=(zk 5 111 []
 (.wr false (some 4) none (.new 195 (List.replicate 66 [(.bool false),(.bool false),(.bool false),(.lst 0 [] true),(.int .i64 0),(.bool false),(.int .u32 0),(.str []),(.int .u32 0)]).flatten)
 (zs 594 4 5
 .done)))
def QxV:AT:=(zm 6 0
 (zr 7 (.bin .lss (.t 6) (zu 1))
 (zm 8 7
 (zmf 9 8 0
 (zf 10 8 (.conv .i64 (.t 9))
 (zcf .geq 11 8 10 66
 (zp 12 8 11
 .done)))))))
def QxU:AT:=(zr 13 (.build [(.bool false),(.bool false),(.bool false),(.lst 0 [] true),(.int .i64 0),(.bool false),(.int .u32 0),(.str []),(.int .u32 0)] [])
 (zs 9 2 13
 (zr 3 (.mov (.c (.bool false)))
 .done)))
def QxT:AT:=(zm 14 0
 (zr 15 (.iaddr (some 66) 9 (.t 4) (.t 14))
 (zr 16 (.load true 9 (.t 15))
 (zs 9 2 16
 (zr 3 (.mov (.c (.bool true)))
 .done)))))
def QtV:AF:=⟨17,[.cell 2 true 9,.tmp 3],
 (zg QxX []
 (zg QxW [5]
 (.seq (zg QxV [6,7,8,9,10,11]
 (zw 12
 (zg QxU [13]
 .ret)
 .skip))
 (zg QxT [14,15,16]
 .ret))))⟩
abbrev Qua:Nat:=95
/- proofmark/rv.Encode$1 -/
def QxS:AT:=(zr 4 (.mov (.c (.bool false)))
 .done)
def QxR:AT:=(zm 5 1
 (zr 6 (.bin .lss (.t 5) (zu 32))
 (zm 7 6
 (zmt 8 7 0
 (zmt 9 7 8
 (zmf 10 9 1
 (zf 11 9 (.bin .eql (.t 10) (zu 0))
 (zpt 12 7 9 11
 (zq 13 7 12
 (zm 4 13
 .done))))))))))
def Qah:AF:=⟨14,[.tmp 4],
 (zg QxS []
 (zg QxR [5,6,7,8,9,10,11,12,13]
 .ret))⟩
abbrev QfR:Nat:=96
/- (proofmark/rv.form).fits -/
def QxQ:AT:=(.wr false (some 2) none (.box 173 (.t 0))
 (zr 4 (.mov (.c (.bool false)))
 .done))
def QxP:AT:=(zr 7 (.load true 7 (.t 2))
 (zk 8 122 [.t 7]
 (zr 9 (.bin .shl (zi 1) (.t 8))
 (zr 5 (.mov (zi 0))
 (zm 6 9
 .done)))))
def QxO:AT:=(za 10 5 2
 (zl 11 1 10
 .done))
def QxN:AT:=(zm 12 6
 (zr 13 (.un .neg (.t 12))
 (zc .quo 14 13 2
 (zm 15 6
 (zc .quo 16 15 2
 (zm 5 14
 (zm 6 16
 .done)))))))
def QxM:AT:=(zm 17 1
 (zm 18 5
 (zb .geq 19 17 18
 (zm 20 19
 (zmt 21 20 1
 (zmt 22 20 6
 (zbt .lss 23 20 21 22
 (zq 24 20 23
 (zm 25 24
 (zmt 26 25 1
 (zat 27 25 4 2
 (zlt 28 25 1 27
 (zt 29 25 (.bin .shl (zi 1) (.t 28))
 (zct .sub 30 25 29 1
 (zbt .and 31 25 26 30
 (zct .eql 32 25 31 0
 (zq 33 25 32
 (zm 4 33
 .done))))))))))))))))))
def Qag:AF:=⟨34,[.tmp 4],
 (zg QxQ []
 (zg QxP [7,8,9]
 (.seq (zg QxO [10]
 (zw 11
 (.reg QxN [12,13,14,15,16])
 .skip))
 (zg QxM [17,18,19,20,21,22,23,24,25,26,27,28,29,30,31,32,33]
 .ret))))⟩
abbrev Qch:Nat:=97
/- proofmark/rv.together -/
def QxL:AT:=(zr 2 (.mov (.c (.int .u32 0)))
 .done)
def QxK:AT:=(zr 3 (.mov (.c (.int .u32 0)))
 .done)
def QxJ:AT:=(zm 6 0
 (zn 7 0 6
 (zr 8 (.mov (zi 0))
 .done)))
def QxI:AT:=(zb .lss 9 8 7
 .done)
def QxH:AT:=(zx 10 1 6 8
 (zl 11 1 10
 (zm 5 11
 .done)))
def QxG:AT:=(zm 12 3
 (zm 13 5
 (zb .or 14 12 13
 (zm 3 14
 .done))))
def QxF:AT:=(zc .add 15 8 1
 (zm 8 15
 .done))
def QxE:AT:=(zm 16 3
 (zm 2 16
 .done))
def Qbc:AF:=⟨17,[.tmp 2],
 (zg QxL []
 (zg QxK []
 (.seq (zg QxJ []
 (.block 0 (.loop (zg QxI []
 (.seq (zw 9
 .skip
 (.exit 0))
 (.seq (.block 1 (zg QxH [10,11]
 (.reg QxG [12,13,14])))
 (.reg QxF [15])))))))
 (zg QxE [16]
 .ret))))⟩
abbrev QgZ:Nat:=98
/- (proofmark/rv.form).spread -/
def zq2o_0:AT:=(.wr false (some 2) none (.box 173 (.t 0))
 (.wr false (some 3) none (.box 2 (.t 1))
 (zr 4 (.mov (.c (.int .u32 0)))
 .done)))
def zq2o_1:AT:=(.wr false (some 5) none (.new 131 [(.int .u32 0)])
 (.wr false none none (.store 1 (.t 5) (.c (.int .u32 0)))
 .done))
def zq2o_2:AT:=(zl 8 1 3
 (za 9 4 2
 (zl 10 1 9
 (zb .shr 11 8 10
 (zs 1 3 11
 .done)))))
def zq2o_3:AT:=(za 12 3 2
 (zl 13 1 12
 (zk 14 123 [.t 13]
 .done)))
def zq2o_4:AT:=(zl 33 1 5
 (zm 4 33
 .done))
def Qce:AF:=⟨34,[.tmp 4],
 (zg zq2o_0 []
 (zg zq2o_1 []
 (zg zq2o_2 [8,9,10,11]
 (.seq (zg zq2o_3 [12,13]
 (.block 0 .bad))
 (zg zq2o_4 [33]
 .ret)))))⟩
abbrev QdO:Nat:=99
def Qeu:AT:=(.wr false (some 7) none (.new 181 [(.int .i64 0),(.int .i64 0)])
 (zs 2 7 16
 .done))
def QgT:AC:=(.reg Qeu [])
def Qet:AT:=(zl 17 1 5
 (zl 18 1 3
 (za 19 1 7
 (zl 20 1 19
 (zr 21 (.bin .shl (zi 1) (.t 20))
 (zc .sub 22 21 1
 (zb .and 23 18 22
 (zr 24 (.conv .u32 (.t 23))
 (za 25 0 7
 (zl 26 1 25
 (zb .shl 27 24 26
 (zb .or 28 17 27
 (zs 1 5 28
 .done)))))))))))))
def Qes:AT:=(zl 29 1 3
 (za 30 1 7
 (zl 31 1 30
 (zb .shr 32 29 31
 (zs 1 3 32
 .done)))))
def QgS:AC:=(.block 1 (zg Qet [17,18,19,20,21,22,23,24,25,26,27,28]
 (.reg Qes [29,30,31,32])))
/- proofmark/term.bare -/
def QxD:AT:=(.wr false (some 1) none (.box 108 (.t 0))
 (.wr false (some 2) none (.new 108 [(.int .u8 0),(.int .i64 0),(.int .i64 0),(.int .u8 0),(.int .i64 0),(.int .i64 0)])
 .done))
def QxC:AT:=(za 3 0 1
 (zl 4 1 3
 .done))
def QxB:AT:=(zr 6 (.bin .eql (.t 4) (zu 1))
 (zm 5 6
 .done))
def QxA:AT:=(zr 7 (.bin .eql (.t 4) (zu 2))
 (zm 5 7
 .done))
def Qxz:AT:=(za 8 1 1
 (.wr false none none (.store 1 (.t 8) (zi 0))
 .done))
def Qxy:AT:=(zr 10 (.bin .eql (.t 4) (zu 3))
 (zm 9 10
 .done))
def Qxx:AT:=(za 11 1 1
 (.wr false none none (.store 1 (.t 11) (zi 0))
 (za 12 2 1
 (.wr false none none (.store 1 (.t 12) (zi 0))
 (za 13 5 1
 (.wr false none none (.store 1 (.t 13) (zi 0))
 .done))))))
def Qxw:AT:=(zr 15 (.bin .eql (.t 4) (zu 4))
 (zm 14 15
 .done))
def Qxv:AT:=(za 16 3 1
 (.wr false none none (.store 1 (.t 16) (zu 0))
 (za 17 4 1
 (.wr false none none (.store 1 (.t 17) (zi 0))
 (za 18 5 1
 (.wr false none none (.store 1 (.t 18) (zi 0))
 .done))))))
def Qxu:AT:=(za 19 0 1
 (.wr false none none (.store 1 (.t 19) (zu 0))
 .done))
def QsR:AT:=(zr 20 (.load true 6 (.t 1))
 (zs 6 2 20
 .done))
def Qeq:AF:=⟨21,[.cell 2 true 6],
 (zg QxD []
 (.seq (zg QxC [3]
 (.block 0 (.seq (zg QxB [6]
 (zw 5
 .skip
 (.reg QxA [7])))
 (zw 5
 (.reg Qxz [8])
 (zg Qxy [10]
 (zw 9
 (.reg Qxx [11,12,13])
 (zg Qxw [15]
 (zw 14
 (.reg Qxv [16,17,18])
 .skip))))))))
 (zg Qxu [19]
 (zg QsR [20]
 .ret))))⟩
abbrev Qkl:Nat:=100
/- strconv.FormatInt -/
def zq2q_0:AT:=(zr 4 (.mov (.c (.str [])))
 .done)
def zq2q_1:AT:=(zm 5 0
 (zm 6 1
 (zk 7 124 [.t 5,.t 6]
 (zm 4 7
 .done))))
def ZR:AF:=⟨8,[.tmp 4],
 (zg zq2q_0 []
 (zg zq2q_1 [5,6,7]
 .ret))⟩
abbrev Y3:Nat:=101
/- strconv.Itoa -/
def zq2r_0:AT:=(zr 2 (.mov (.c (.str [])))
 .done)
def zq2r_1:AT:=(zm 3 0
 (zk 4 125 [.t 3]
 (zm 2 4
 .done)))
def strconv_Itoa:AF:=⟨5,[.tmp 2],
 (zg zq2r_0 []
 (zg zq2r_1 [3,4]
 .ret))⟩
abbrev Qcf:Nat:=102
/- proofmark/term.sign -/
def Qxt:AT:=(zr 2 (.mov (.c (.str [])))
 .done)
def Qxs:AT:=(zr 3 (.build (List.replicate 17 [(.str [])]).flatten [(0,1,(.c (.str []))),(1,1,(.c (.str [43]))),(2,1,(.c (.str [45]))),(3,1,(.c (.str [42]))),(4,1,(.c (.str [47]))),(5,1,(.c (.str [37]))),(6,1,(.c (.str [47,117]))),(7,1,(.c (.str [37,117]))),(8,1,(.c (.str [38]))),(9,1,(.c (.str [124]))),(10,1,(.c (.str [94]))),(11,1,(.c (.str [60,60]))),(12,1,(.c (.str [62,62,117]))),(13,1,(.c (.str [62,62]))),(14,1,(.c (.str [60]))),(15,1,(.c (.str [60,117]))),(16,1,(.c (.str [61,61])))])
 (zm 4 0
 (zr 5 (.aidx false 1 17 (.t 3) (.t 4))
 (zm 2 5
 .done))))
def Qep:AF:=⟨6,[.tmp 2],
 (zg Qxt []
 (zg Qxs [3,4,5]
 .ret))⟩
abbrev Qkk:Nat:=103
abbrev QfN:Nat:=104
abbrev QmY:Nat:=105
abbrev QnG:Nat:=106
abbrev QdN:Nat:=107
abbrev QgB:Nat:=108
/- slices.IndexFunc[[]proofmark/image.Sym,proofmark/image.Sym] -/
def zq2y_0:AT:=(zr 4 (.mov (zi 0))
 .done)
def zq2y_1:AT:=(zm 6 0
 (zn 7 0 6
 (zr 8 (.mov (zi 0))
 .done)))
def zq2y_2:AT:=(zb .lss 9 8 7
 .done)
def zq2y_3:AT:=(zm 10 8
 (zm 5 10
 .done))
def zq2y_4:AT:=(zm 11 1
 (zm 12 0
 (zm 13 5
 (zx 14 2 12 13
 (zr 15 (.load true 2 (.t 14))
 (.cl false (some 16) none (.t 11) [(.t 15)]
 .done))))))
def zq2y_5:AT:=(zm 17 5
 (zm 4 17
 .done))
def zq2y_6:AT:=(zc .add 18 8 1
 (zm 8 18
 .done))
def zq2y_7:AT:=(zr 4 (.mov (.c (.int .i64 (-1))))
 .done)
def QQ:AF:=⟨19,[.tmp 4],
 (zg zq2y_0 []
 (.seq (zg zq2y_1 [6]
 (.block 0 (.loop (zg zq2y_2 []
 (.seq (zw 9
 .skip
 (.exit 0))
 (.seq (.block 1 (zg zq2y_3 [10]
 (zg zq2y_4 [11,12,13,14,15]
 (zw 16
 (zg zq2y_5 [17]
 .ret)
 .skip))))
 (.reg zq2y_6 [18])))))))
 (zg zq2y_7 []
 .ret)))⟩
abbrev YC:Nat:=109
/- slices.IndexFunc[[]func() bool,func() bool] -/
def zq2z_0:AT:=(zr 4 (.mov (zi 0))
 .done)
def zq2z_1:AT:=(zm 6 0
 (zn 7 0 6
 (zr 8 (.mov (zi 0))
 .done)))
def zq2z_2:AT:=(zb .lss 9 8 7
 .done)
def zq2z_3:AT:=(zm 10 8
 (zm 5 10
 .done))
def zq2z_4:AT:=(zm 11 1
 (zm 12 0
 (zm 13 5
 (zx 14 1 12 13
 (zl 15 1 14
 (.cl false (some 16) none (.t 11) [(.t 15)]
 .done))))))
def zq2z_5:AT:=(zm 17 5
 (zm 4 17
 .done))
def zq2z_6:AT:=(zc .add 18 8 1
 (zm 8 18
 .done))
def zq2z_7:AT:=(zr 4 (.mov (.c (.int .i64 (-1))))
 .done)
def QR:AF:=⟨19,[.tmp 4],
 (zg zq2z_0 []
 (.seq (zg zq2z_1 [6]
 (.block 0 (.loop (zg zq2z_2 []
 (.seq (zw 9
 .skip
 (.exit 0))
 (.seq (.block 1 (zg zq2z_3 [10]
 (zg zq2z_4 [11,12,13,14,15]
 (zw 16
 (zg zq2z_5 [17]
 .ret)
 .skip))))
 (.reg zq2z_6 [18])))))))
 (zg zq2z_7 []
 .ret)))⟩
abbrev YD:Nat:=110
/- proofmark/rv.table -/
def zq30_0:AT:=(.wr false (some 0) none (.new 195 (List.replicate 66 [(.bool false),(.bool false),(.bool false),(.lst 0 [] true),(.int .i64 0),(.bool false),(.int .u32 0),(.str []),(.int .u32 0)]).flatten)
 .done)
def zq30_1:AT:=(zr 10 (.build [(.bool false),(.bool false),(.bool false),(.lst 0 [] true),(.int .i64 0),(.bool false),(.int .u32 0)] [(0,1,(.c (.bool true))),(1,1,(.c (.bool true))),(2,1,(.c (.bool true))),(3,1,(.c (.lst 0 [] true))),(4,1,(zi 0)),(5,1,(.c (.bool false))),(6,1,(.c (.int .u32 4261441663)))])
 (.wr false (some 1) none (.new 173 [(.bool false),(.bool false),(.bool false),(.lst 0 [] true),(.int .i64 0),(.bool false),(.int .u32 0)])
 (zs 7 1 10
 .done)))
def zq30_2:AT:=(zr 11 (.build [(.int .i64 0),(.int .i64 0)] [(0,1,(zi 20)),(1,1,(zi 12))])
 (.wr false (some 12) none (.bsl false true 181 2 [(.int .i64 0),(.int .i64 0)] 1 [(0,2,(.t 11))])
 (zr 13 (.build [(.bool false),(.bool false),(.bool false),(.lst 0 [] true),(.int .i64 0),(.bool false),(.int .u32 0)] [(0,1,(.c (.bool true))),(1,1,(.c (.bool true))),(2,1,(.c (.bool false))),(3,1,(.t 12)),(4,1,(zi 0)),(5,1,(.c (.bool true))),(6,1,(.c (.int .u32 28799)))])
 (.wr false (some 2) none (.new 173 [(.bool false),(.bool false),(.bool false),(.lst 0 [] true),(.int .i64 0),(.bool false),(.int .u32 0)])
 (zs 7 2 13
 .done)))))
def zq30_3:AT:=(zr 14 (.build [(.int .i64 0),(.int .i64 0)] [(0,1,(zi 20)),(1,1,(zi 6))])
 (.wr false (some 15) none (.bsl false true 181 2 [(.int .i64 0),(.int .i64 0)] 1 [(0,2,(.t 14))])
 (zr 16 (.build [(.bool false),(.bool false),(.bool false),(.lst 0 [] true),(.int .i64 0),(.bool false),(.int .u32 0)] [(0,1,(.c (.bool true))),(1,1,(.c (.bool true))),(2,1,(.c (.bool false))),(3,1,(.t 15)),(4,1,(zi 0)),(5,1,(.c (.bool false))),(6,1,(.c (.int .u32 4227887231)))])
 (.wr false (some 3) none (.new 173 [(.bool false),(.bool false),(.bool false),(.lst 0 [] true),(.int .i64 0),(.bool false),(.int .u32 0)])
 (zs 7 3 16
 .done)))))
def zq30_4:AT:=(zr 17 (.build [(.int .i64 0),(.int .i64 0)] [(0,1,(zi 20)),(1,1,(zi 5))])
 (.wr false (some 18) none (.bsl false true 181 2 [(.int .i64 0),(.int .i64 0)] 1 [(0,2,(.t 17))])
 (zr 19 (.build [(.bool false),(.bool false),(.bool false),(.lst 0 [] true),(.int .i64 0),(.bool false),(.int .u32 0)] [(0,1,(.c (.bool true))),(1,1,(.c (.bool true))),(2,1,(.c (.bool false))),(3,1,(.t 18)),(4,1,(zi 0)),(5,1,(.c (.bool false))),(6,1,(.c (.int .u32 4261441663)))])
 (.wr false (some 4) none (.new 173 [(.bool false),(.bool false),(.bool false),(.lst 0 [] true),(.int .i64 0),(.bool false),(.int .u32 0)])
 (zs 7 4 19
 .done)))))
def zq30_5:AT:=(zr 20 (.build [(.int .i64 0),(.int .i64 0)] [(0,1,(zi 25)),(1,1,(zi 7))])
 (zr 21 (.build [(.int .i64 0),(.int .i64 0)] [(0,1,(zi 7)),(1,1,(zi 5))])
 (.wr false (some 22) none (.bsl false true 181 2 [(.int .i64 0),(.int .i64 0)] 2 [(0,2,(.t 20)),(2,2,(.t 21))])
 (zr 23 (.build [(.bool false),(.bool false),(.bool false),(.lst 0 [] true),(.int .i64 0),(.bool false),(.int .u32 0)] [(0,1,(.c (.bool false))),(1,1,(.c (.bool true))),(2,1,(.c (.bool true))),(3,1,(.t 22)),(4,1,(zi 0)),(5,1,(.c (.bool true))),(6,1,(.c (.int .u32 28799)))])
 (.wr false (some 5) none (.new 173 [(.bool false),(.bool false),(.bool false),(.lst 0 [] true),(.int .i64 0),(.bool false),(.int .u32 0)])
 (zs 7 5 23
 .done))))))
def zq30_6:AT:=(zr 24 (.build [(.int .i64 0),(.int .i64 0)] [(0,1,(zi 31)),(1,1,(zi 1))])
 (zr 25 (.build [(.int .i64 0),(.int .i64 0)] [(0,1,(zi 7)),(1,1,(zi 1))])
 (zr 26 (.build [(.int .i64 0),(.int .i64 0)] [(0,1,(zi 25)),(1,1,(zi 6))])
 (zr 27 (.build [(.int .i64 0),(.int .i64 0)] [(0,1,(zi 8)),(1,1,(zi 4))])
 (.wr false (some 28) none (.bsl false true 181 2 [(.int .i64 0),(.int .i64 0)] 4 [(0,2,(.t 24)),(2,2,(.t 25)),(4,2,(.t 26)),(6,2,(.t 27))])
 (zr 29 (.build [(.bool false),(.bool false),(.bool false),(.lst 0 [] true),(.int .i64 0),(.bool false),(.int .u32 0)] [(0,1,(.c (.bool false))),(1,1,(.c (.bool true))),(2,1,(.c (.bool true))),(3,1,(.t 28)),(4,1,(zi 1)),(5,1,(.c (.bool true))),(6,1,(.c (.int .u32 28799)))])
 (.wr false (some 6) none (.new 173 [(.bool false),(.bool false),(.bool false),(.lst 0 [] true),(.int .i64 0),(.bool false),(.int .u32 0)])
 (zs 7 6 29
 .done))))))))
def zq30_7:AT:=(zr 30 (.build [(.int .i64 0),(.int .i64 0)] [(0,1,(zi 12)),(1,1,(zi 20))])
 (.wr false (some 31) none (.bsl false true 181 2 [(.int .i64 0),(.int .i64 0)] 1 [(0,2,(.t 30))])
 (zr 32 (.build [(.bool false),(.bool false),(.bool false),(.lst 0 [] true),(.int .i64 0),(.bool false),(.int .u32 0)] [(0,1,(.c (.bool true))),(1,1,(.c (.bool false))),(2,1,(.c (.bool false))),(3,1,(.t 31)),(4,1,(zi 12)),(5,1,(.c (.bool true))),(6,1,(.c (.int .u32 127)))])
 (.wr false (some 7) none (.new 173 [(.bool false),(.bool false),(.bool false),(.lst 0 [] true),(.int .i64 0),(.bool false),(.int .u32 0)])
 (zs 7 7 32
 .done)))))
def zq30_8:AT:=(zr 33 (.build [(.int .i64 0),(.int .i64 0)] [(0,1,(zi 31)),(1,1,(zi 1))])
 (zr 34 (.build [(.int .i64 0),(.int .i64 0)] [(0,1,(zi 12)),(1,1,(zi 8))])
 (zr 35 (.build [(.int .i64 0),(.int .i64 0)] [(0,1,(zi 20)),(1,1,(zi 1))])
 (zr 36 (.build [(.int .i64 0),(.int .i64 0)] [(0,1,(zi 21)),(1,1,(zi 10))])
 (.wr false (some 37) none (.bsl false true 181 2 [(.int .i64 0),(.int .i64 0)] 4 [(0,2,(.t 33)),(2,2,(.t 34)),(4,2,(.t 35)),(6,2,(.t 36))])
 (zr 38 (.build [(.bool false),(.bool false),(.bool false),(.lst 0 [] true),(.int .i64 0),(.bool false),(.int .u32 0)] [(0,1,(.c (.bool true))),(1,1,(.c (.bool false))),(2,1,(.c (.bool false))),(3,1,(.t 37)),(4,1,(zi 1)),(5,1,(.c (.bool true))),(6,1,(.c (.int .u32 127)))])
 (.wr false (some 8) none (.new 173 [(.bool false),(.bool false),(.bool false),(.lst 0 [] true),(.int .i64 0),(.bool false),(.int .u32 0)])
 (zs 7 8 38
 .done))))))))
def zq30_9:AT:=(zr 39 (.build [(.bool false),(.bool false),(.bool false),(.lst 0 [] true),(.int .i64 0),(.bool false),(.int .u32 0)] [(6,1,(.c (.int .u32 4294967295)))])
 (.wr false (some 9) none (.new 173 [(.bool false),(.bool false),(.bool false),(.lst 0 [] true),(.int .i64 0),(.bool false),(.int .u32 0)])
 (zs 7 9 39
 .done)))
def QBb:AT:=(zr 40 (.load true 7 (.t 7))
 (zr 42 (.load true 7 (.t 7))
 (zr 44 (.load true 7 (.t 8))
 (zr 46 (.load true 7 (.t 2))
 (zr 48 (.load true 7 (.t 6))
 (zr 50 (.load true 7 (.t 6))
 (zr 52 (.load true 7 (.t 6))
 (zr 54 (.load true 7 (.t 6))
 (zr 56 (.load true 7 (.t 6))
 (zr 58 (.load true 7 (.t 6))
 (zr 60 (.load true 7 (.t 2))
 (zr 62 (.load true 7 (.t 2))
 (zr 64 (.load true 7 (.t 2))
 (zr 66 (.load true 7 (.t 2))
 (zr 68 (.load true 7 (.t 2))
 (zr 70 (.load true 7 (.t 2))
 (zr 72 (.load true 7 (.t 2))
 (zr 74 (.load true 7 (.t 5))
 (zr 76 (.load true 7 (.t 5))
 (zr 78 (.load true 7 (.t 5))
 (zr 80 (.load true 7 (.t 5))
 (zr 82 (.load true 7 (.t 2))
 (zr 84 (.load true 7 (.t 2))
 (zr 86 (.load true 7 (.t 2))
 (zr 88 (.load true 7 (.t 2))
 (zr 90 (.load true 7 (.t 2))
 (zr 92 (.load true 7 (.t 2))
 (zr 94 (.load true 7 (.t 3))
 (zr 96 (.load true 7 (.t 3))
 (zr 98 (.load true 7 (.t 3))
 (zr 100 (.load true 7 (.t 1))
 (zr 102 (.load true 7 (.t 1))
 (zr 104 (.load true 7 (.t 1))
 (zr 106 (.load true 7 (.t 1))
 (zr 108 (.load true 7 (.t 1))
 (zr 110 (.load true 7 (.t 1))
 (zr 112 (.load true 7 (.t 1))
 (zr 114 (.load true 7 (.t 1))
 (zr 116 (.load true 7 (.t 1))
 (zr 118 (.load true 7 (.t 1))
 (zr 120 (.load true 7 (.t 2))
 (zr 122 (.load true 7 (.t 4))
 (zr 124 (.load true 7 (.t 4))
 (zr 126 (.load true 7 (.t 4))
 (zr 128 (.load true 7 (.t 1))
 (zr 130 (.load true 7 (.t 1))
 (zr 132 (.load true 7 (.t 1))
 (zr 134 (.load true 7 (.t 1))
 (zr 136 (.load true 7 (.t 1))
 (zr 138 (.load true 7 (.t 1))
 (zr 140 (.load true 7 (.t 1))
 (zr 142 (.load true 7 (.t 1))
 (zr 144 (.load true 7 (.t 1))
 (zr 146 (.load true 7 (.t 1))
 (zr 148 (.load true 7 (.t 1))
 (zr 150 (.load true 7 (.t 1))
 (zr 152 (.load true 7 (.t 1))
 (zr 154 (.load true 7 (.t 1))
 (zr 156 (.load true 7 (.t 1))
 (zr 158 (.load true 7 (.t 1))
 (zr 160 (.load true 7 (.t 1))
 (zr 162 (.load true 7 (.t 1))
 (zr 164 (.load true 7 (.t 2))
 (zr 166 (.load true 7 (.t 9))
 (zr 168 (.load true 7 (.t 9))
 (.cl true (some 41) none (.c (.fn (.func 127) [] [])) [(.t 40),(.c (.str [108,117,105])),(.c (.int .u32 55)),(.c (.int .u32 0)),(.c (.int .u32 0))]
 (.cl true (some 43) none (.c (.fn (.func 127) [] [])) [(.t 42),(.c (.str [97,117,105,112,99])),(.c (.int .u32 23)),(.c (.int .u32 0)),(.c (.int .u32 0))]
 (.cl true (some 45) none (.c (.fn (.func 127) [] [])) [(.t 44),(.c (.str [106,97,108])),(.c (.int .u32 111)),(.c (.int .u32 0)),(.c (.int .u32 0))]
 (.cl true (some 47) none (.c (.fn (.func 127) [] [])) [(.t 46),(.c (.str [106,97,108,114])),(.c (.int .u32 103)),(.c (.int .u32 0)),(.c (.int .u32 0))]
 (.cl true (some 49) none (.c (.fn (.func 127) [] [])) [(.t 48),(.c (.str [98,101,113])),(.c (.int .u32 99)),(.c (.int .u32 0)),(.c (.int .u32 0))]
 (.cl true (some 51) none (.c (.fn (.func 127) [] [])) [(.t 50),(.c (.str [98,110,101])),(.c (.int .u32 99)),(.c (.int .u32 1)),(.c (.int .u32 0))]
 (.cl true (some 53) none (.c (.fn (.func 127) [] [])) [(.t 52),(.c (.str [98,108,116])),(.c (.int .u32 99)),(.c (.int .u32 4)),(.c (.int .u32 0))]
 (.cl true (some 55) none (.c (.fn (.func 127) [] [])) [(.t 54),(.c (.str [98,103,101])),(.c (.int .u32 99)),(.c (.int .u32 5)),(.c (.int .u32 0))]
 (.cl true (some 57) none (.c (.fn (.func 127) [] [])) [(.t 56),(.c (.str [98,108,116,117])),(.c (.int .u32 99)),(.c (.int .u32 6)),(.c (.int .u32 0))]
 (.cl true (some 59) none (.c (.fn (.func 127) [] [])) [(.t 58),(.c (.str [98,103,101,117])),(.c (.int .u32 99)),(.c (.int .u32 7)),(.c (.int .u32 0))]
 (.cl true (some 61) none (.c (.fn (.func 127) [] [])) [(.t 60),(.c (.str [108,98])),(.c (.int .u32 3)),(.c (.int .u32 0)),(.c (.int .u32 0))]
 (.cl true (some 63) none (.c (.fn (.func 127) [] [])) [(.t 62),(.c (.str [108,104])),(.c (.int .u32 3)),(.c (.int .u32 1)),(.c (.int .u32 0))]
 (.cl true (some 65) none (.c (.fn (.func 127) [] [])) [(.t 64),(.c (.str [108,119])),(.c (.int .u32 3)),(.c (.int .u32 2)),(.c (.int .u32 0))]
 (.cl true (some 67) none (.c (.fn (.func 127) [] [])) [(.t 66),(.c (.str [108,100])),(.c (.int .u32 3)),(.c (.int .u32 3)),(.c (.int .u32 0))]
 (.cl true (some 69) none (.c (.fn (.func 127) [] [])) [(.t 68),(.c (.str [108,98,117])),(.c (.int .u32 3)),(.c (.int .u32 4)),(.c (.int .u32 0))]
 (.cl true (some 71) none (.c (.fn (.func 127) [] [])) [(.t 70),(.c (.str [108,104,117])),(.c (.int .u32 3)),(.c (.int .u32 5)),(.c (.int .u32 0))]
 (.cl true (some 73) none (.c (.fn (.func 127) [] [])) [(.t 72),(.c (.str [108,119,117])),(.c (.int .u32 3)),(.c (.int .u32 6)),(.c (.int .u32 0))]
 (.cl true (some 75) none (.c (.fn (.func 127) [] [])) [(.t 74),(.c (.str [115,98])),(.c (.int .u32 35)),(.c (.int .u32 0)),(.c (.int .u32 0))]
 (.cl true (some 77) none (.c (.fn (.func 127) [] [])) [(.t 76),(.c (.str [115,104])),(.c (.int .u32 35)),(.c (.int .u32 1)),(.c (.int .u32 0))]
 (.cl true (some 79) none (.c (.fn (.func 127) [] [])) [(.t 78),(.c (.str [115,119])),(.c (.int .u32 35)),(.c (.int .u32 2)),(.c (.int .u32 0))]
 (.cl true (some 81) none (.c (.fn (.func 127) [] [])) [(.t 80),(.c (.str [115,100])),(.c (.int .u32 35)),(.c (.int .u32 3)),(.c (.int .u32 0))]
 (.cl true (some 83) none (.c (.fn (.func 127) [] [])) [(.t 82),(.c (.str [97,100,100,105])),(.c (.int .u32 19)),(.c (.int .u32 0)),(.c (.int .u32 0))]
 (.cl true (some 85) none (.c (.fn (.func 127) [] [])) [(.t 84),(.c (.str [115,108,116,105])),(.c (.int .u32 19)),(.c (.int .u32 2)),(.c (.int .u32 0))]
 (.cl true (some 87) none (.c (.fn (.func 127) [] [])) [(.t 86),(.c (.str [115,108,116,105,117])),(.c (.int .u32 19)),(.c (.int .u32 3)),(.c (.int .u32 0))]
 (.cl true (some 89) none (.c (.fn (.func 127) [] [])) [(.t 88),(.c (.str [120,111,114,105])),(.c (.int .u32 19)),(.c (.int .u32 4)),(.c (.int .u32 0))]
 (.cl true (some 91) none (.c (.fn (.func 127) [] [])) [(.t 90),(.c (.str [111,114,105])),(.c (.int .u32 19)),(.c (.int .u32 6)),(.c (.int .u32 0))]
 (.cl true (some 93) none (.c (.fn (.func 127) [] [])) [(.t 92),(.c (.str [97,110,100,105])),(.c (.int .u32 19)),(.c (.int .u32 7)),(.c (.int .u32 0))]
 (.cl true (some 95) none (.c (.fn (.func 127) [] [])) [(.t 94),(.c (.str [115,108,108,105])),(.c (.int .u32 19)),(.c (.int .u32 1)),(.c (.int .u32 0))]
 (.cl true (some 97) none (.c (.fn (.func 127) [] [])) [(.t 96),(.c (.str [115,114,108,105])),(.c (.int .u32 19)),(.c (.int .u32 5)),(.c (.int .u32 0))]
 (.cl true (some 99) none (.c (.fn (.func 127) [] [])) [(.t 98),(.c (.str [115,114,97,105])),(.c (.int .u32 19)),(.c (.int .u32 5)),(.c (.int .u32 32))]
 (.cl true (some 101) none (.c (.fn (.func 127) [] [])) [(.t 100),(.c (.str [97,100,100])),(.c (.int .u32 51)),(.c (.int .u32 0)),(.c (.int .u32 0))]
 (.cl true (some 103) none (.c (.fn (.func 127) [] [])) [(.t 102),(.c (.str [115,117,98])),(.c (.int .u32 51)),(.c (.int .u32 0)),(.c (.int .u32 32))]
 (.cl true (some 105) none (.c (.fn (.func 127) [] [])) [(.t 104),(.c (.str [115,108,108])),(.c (.int .u32 51)),(.c (.int .u32 1)),(.c (.int .u32 0))]
 (.cl true (some 107) none (.c (.fn (.func 127) [] [])) [(.t 106),(.c (.str [115,108,116])),(.c (.int .u32 51)),(.c (.int .u32 2)),(.c (.int .u32 0))]
 (.cl true (some 109) none (.c (.fn (.func 127) [] [])) [(.t 108),(.c (.str [115,108,116,117])),(.c (.int .u32 51)),(.c (.int .u32 3)),(.c (.int .u32 0))]
 (.cl true (some 111) none (.c (.fn (.func 127) [] [])) [(.t 110),(.c (.str [120,111,114])),(.c (.int .u32 51)),(.c (.int .u32 4)),(.c (.int .u32 0))]
 (.cl true (some 113) none (.c (.fn (.func 127) [] [])) [(.t 112),(.c (.str [115,114,108])),(.c (.int .u32 51)),(.c (.int .u32 5)),(.c (.int .u32 0))]
 (.cl true (some 115) none (.c (.fn (.func 127) [] [])) [(.t 114),(.c (.str [115,114,97])),(.c (.int .u32 51)),(.c (.int .u32 5)),(.c (.int .u32 32))]
 (.cl true (some 117) none (.c (.fn (.func 127) [] [])) [(.t 116),(.c (.str [111,114])),(.c (.int .u32 51)),(.c (.int .u32 6)),(.c (.int .u32 0))]
 (.cl true (some 119) none (.c (.fn (.func 127) [] [])) [(.t 118),(.c (.str [97,110,100])),(.c (.int .u32 51)),(.c (.int .u32 7)),(.c (.int .u32 0))]
 (.cl true (some 121) none (.c (.fn (.func 127) [] [])) [(.t 120),(.c (.str [97,100,100,105,119])),(.c (.int .u32 27)),(.c (.int .u32 0)),(.c (.int .u32 0))]
 (.cl true (some 123) none (.c (.fn (.func 127) [] [])) [(.t 122),(.c (.str [115,108,108,105,119])),(.c (.int .u32 27)),(.c (.int .u32 1)),(.c (.int .u32 0))]
 (.cl true (some 125) none (.c (.fn (.func 127) [] [])) [(.t 124),(.c (.str [115,114,108,105,119])),(.c (.int .u32 27)),(.c (.int .u32 5)),(.c (.int .u32 0))]
 (.cl true (some 127) none (.c (.fn (.func 127) [] [])) [(.t 126),(.c (.str [115,114,97,105,119])),(.c (.int .u32 27)),(.c (.int .u32 5)),(.c (.int .u32 32))]
 (.cl true (some 129) none (.c (.fn (.func 127) [] [])) [(.t 128),(.c (.str [97,100,100,119])),(.c (.int .u32 59)),(.c (.int .u32 0)),(.c (.int .u32 0))]
 (.cl true (some 131) none (.c (.fn (.func 127) [] [])) [(.t 130),(.c (.str [115,117,98,119])),(.c (.int .u32 59)),(.c (.int .u32 0)),(.c (.int .u32 32))]
 (.cl true (some 133) none (.c (.fn (.func 127) [] [])) [(.t 132),(.c (.str [115,108,108,119])),(.c (.int .u32 59)),(.c (.int .u32 1)),(.c (.int .u32 0))]
 (.cl true (some 135) none (.c (.fn (.func 127) [] [])) [(.t 134),(.c (.str [115,114,108,119])),(.c (.int .u32 59)),(.c (.int .u32 5)),(.c (.int .u32 0))]
 (.cl true (some 137) none (.c (.fn (.func 127) [] [])) [(.t 136),(.c (.str [115,114,97,119])),(.c (.int .u32 59)),(.c (.int .u32 5)),(.c (.int .u32 32))]
 (.cl true (some 139) none (.c (.fn (.func 127) [] [])) [(.t 138),(.c (.str [109,117,108])),(.c (.int .u32 51)),(.c (.int .u32 0)),(.c (.int .u32 1))]
 (.cl true (some 141) none (.c (.fn (.func 127) [] [])) [(.t 140),(.c (.str [109,117,108,104])),(.c (.int .u32 51)),(.c (.int .u32 1)),(.c (.int .u32 1))]
 (.cl true (some 143) none (.c (.fn (.func 127) [] [])) [(.t 142),(.c (.str [109,117,108,104,115,117])),(.c (.int .u32 51)),(.c (.int .u32 2)),(.c (.int .u32 1))]
 (.cl true (some 145) none (.c (.fn (.func 127) [] [])) [(.t 144),(.c (.str [109,117,108,104,117])),(.c (.int .u32 51)),(.c (.int .u32 3)),(.c (.int .u32 1))]
 (.cl true (some 147) none (.c (.fn (.func 127) [] [])) [(.t 146),(.c (.str [100,105,118])),(.c (.int .u32 51)),(.c (.int .u32 4)),(.c (.int .u32 1))]
 (.cl true (some 149) none (.c (.fn (.func 127) [] [])) [(.t 148),(.c (.str [100,105,118,117])),(.c (.int .u32 51)),(.c (.int .u32 5)),(.c (.int .u32 1))]
 (.cl true (some 151) none (.c (.fn (.func 127) [] [])) [(.t 150),(.c (.str [114,101,109])),(.c (.int .u32 51)),(.c (.int .u32 6)),(.c (.int .u32 1))]
 (.cl true (some 153) none (.c (.fn (.func 127) [] [])) [(.t 152),(.c (.str [114,101,109,117])),(.c (.int .u32 51)),(.c (.int .u32 7)),(.c (.int .u32 1))]
 (.cl true (some 155) none (.c (.fn (.func 127) [] [])) [(.t 154),(.c (.str [109,117,108,119])),(.c (.int .u32 59)),(.c (.int .u32 0)),(.c (.int .u32 1))]
 (.cl true (some 157) none (.c (.fn (.func 127) [] [])) [(.t 156),(.c (.str [100,105,118,119])),(.c (.int .u32 59)),(.c (.int .u32 4)),(.c (.int .u32 1))]
 (.cl true (some 159) none (.c (.fn (.func 127) [] [])) [(.t 158),(.c (.str [100,105,118,117,119])),(.c (.int .u32 59)),(.c (.int .u32 5)),(.c (.int .u32 1))]
 (.cl true (some 161) none (.c (.fn (.func 127) [] [])) [(.t 160),(.c (.str [114,101,109,119])),(.c (.int .u32 59)),(.c (.int .u32 6)),(.c (.int .u32 1))]
 (.cl true (some 163) none (.c (.fn (.func 127) [] [])) [(.t 162),(.c (.str [114,101,109,117,119])),(.c (.int .u32 59)),(.c (.int .u32 7)),(.c (.int .u32 1))]
 (.cl true (some 165) none (.c (.fn (.func 127) [] [])) [(.t 164),(.c (.str [102,101,110,99,101])),(.c (.int .u32 15)),(.c (.int .u32 0)),(.c (.int .u32 0))]
 (.cl true (some 167) none (.c (.fn (.func 127) [] [])) [(.t 166),(.c (.str [101,99,97,108,108])),(.c (.int .u32 115)),(.c (.int .u32 0)),(.c (.int .u32 0))]
 (zk 169 127 [.t 168,(.c (.str [101,98,114,101,97,107])),(.c (.int .u32 1048691)),(.c (.int .u32 0)),(.c (.int .u32 0))]
 (zr 170 (.build (List.replicate 66 [(.bool false),(.bool false),(.bool false),(.lst 0 [] true),(.int .i64 0),(.bool false),(.int .u32 0),(.str []),(.int .u32 0)]).flatten [(9,9,(.t 41)),(18,9,(.t 43)),(27,9,(.t 45)),(36,9,(.t 47)),(45,9,(.t 49)),(54,9,(.t 51)),(63,9,(.t 53)),(72,9,(.t 55)),(81,9,(.t 57)),(90,9,(.t 59)),(99,9,(.t 61)),(108,9,(.t 63)),(117,9,(.t 65)),(126,9,(.t 67)),(135,9,(.t 69)),(144,9,(.t 71)),(153,9,(.t 73)),(162,9,(.t 75)),(171,9,(.t 77)),(180,9,(.t 79)),(189,9,(.t 81)),(198,9,(.t 83)),(207,9,(.t 85)),(216,9,(.t 87)),(225,9,(.t 89)),(234,9,(.t 91)),(243,9,(.t 93)),(252,9,(.t 95)),(261,9,(.t 97)),(270,9,(.t 99)),(279,9,(.t 101)),(288,9,(.t 103)),(297,9,(.t 105)),(306,9,(.t 107)),(315,9,(.t 109)),(324,9,(.t 111)),(333,9,(.t 113)),(342,9,(.t 115)),(351,9,(.t 117)),(360,9,(.t 119)),(369,9,(.t 121)),(378,9,(.t 123)),(387,9,(.t 125)),(396,9,(.t 127)),(405,9,(.t 129)),(414,9,(.t 131)),(423,9,(.t 133)),(432,9,(.t 135)),(441,9,(.t 137)),(450,9,(.t 139)),(459,9,(.t 141)),(468,9,(.t 143)),(477,9,(.t 145)),(486,9,(.t 147)),(495,9,(.t 149)),(504,9,(.t 151)),(513,9,(.t 153)),(522,9,(.t 155)),(531,9,(.t 157)),(540,9,(.t 159)),(549,9,(.t 161)),(558,9,(.t 163)),(567,9,(.t 165)),(576,9,(.t 167)),(585,9,(.t 169))])
 (zs 594 0 170
 .done))))))))))))))))))))))))))))))))))))))))))))))))))))))))))))))))))))))))))))))))))))))))))))))))))))))))))))))))))))))))))))))))))))
def QmQ:AF:=⟨171,[.cell 0 true 594],
 (zg zq30_0 []
 (zg zq30_1 [10]
 (zg zq30_2 [11,12,13]
 (zg zq30_3 [14,15,16]
 (zg zq30_4 [17,18,19]
 (zg zq30_5 [20,21,22,23]
 (zg zq30_6 [24,25,26,27,28,29]
 (zg zq30_7 [30,31,32]
 (zg zq30_8 [33,34,35,36,37,38]
 (zg zq30_9 [39]
 (zg QBb [40,41,42,43,44,45,46,47,48,49,50,51,52,53,54,55,56,57,58,59,60,61,62,63,64,65,66,67,68,69,70,71,72,73,74,75,76,77,78,79,80,81,82,83,84,85,86,87,88,89,90,91,92,93,94,95,96,97,98,99,100,101,102,103,104,105,106,107,108,109,110,111,112,113,114,115,116,117,118,119,120,121,122,123,124,125,126,127,128,129,130,131,132,133,134,135,136,137,138,139,140,141,142,143,144,145,146,147,148,149,150,151,152,153,154,155,156,157,158,159,160,161,162,163,164,165,166,167,168,169,170]
 .ret)))))))))))⟩
abbrev Qmo:Nat:=111
/- slices.IndexFunc[[]proofmark/rv.row,proofmark/rv.row] -/
def Qxr:AT:=(zr 4 (.mov (zi 0))
 .done)
def Qxq:AT:=(zm 6 0
 (zn 7 0 6
 (zr 8 (.mov (zi 0))
 .done)))
def Qxp:AT:=(zb .lss 9 8 7
 .done)
def Qxo:AT:=(zm 10 8
 (zm 5 10
 .done))
def Qxn:AT:=(zm 11 1
 (zm 12 0
 (zm 13 5
 (zx 14 9 12 13
 (zr 15 (.load true 9 (.t 14))
 (.cl false (some 16) none (.t 11) [(.t 15)]
 .done))))))
def Qxm:AT:=(zm 17 5
 (zm 4 17
 .done))
def Qxl:AT:=(zc .add 18 8 1
 (zm 8 18
 .done))
def Qxk:AT:=(zr 4 (.mov (.c (.int .i64 (-1))))
 .done)
def Qy:AF:=⟨19,[.tmp 4],
 (zg Qxr []
 (.seq (zg Qxq [6]
 (.block 0 (.loop (zg Qxp []
 (.seq (zw 9
 .skip
 (.exit 0))
 (.seq (.block 1 (zg Qxo [10]
 (zg Qxn [11,12,13,14,15]
 (zw 16
 (zg Qxm [17]
 .ret)
 .skip))))
 (.reg Qxl [18])))))))
 (zg Qxk []
 .ret)))⟩
abbrev XF:Nat:=112
/- proofmark/rv.Decode$1 -/
def QsQ:AT:=(.wr false (some 2) none (.box 175 (.t 0))
 (zr 3 (.mov (.c (.bool false)))
 .done))
def QsP:AT:=(za 4 0 2
 (za 5 6 4
 (zl 6 1 5
 (zr 7 (.bin .neq (.t 6) (.c (.int .u32 0)))
 (zm 8 7
 (zlt 9 8 1 1
 (zat 10 8 0 2
 (zat 11 8 6 10
 (zlt 12 8 1 11
 (zbt .and 13 8 9 12
 (zat 14 8 8 2
 (zlt 15 8 1 14
 (zbt .eql 16 8 13 15
 (zq 17 8 16
 (zm 3 17
 .done)))))))))))))))
def Zj:AF:=⟨18,[.tmp 3],
 (zg QsQ []
 (zg QsP [4,5,6,7,8,9,10,11,12,13,14,15,16,17]
 .ret))⟩
abbrev QfS:Nat:=113
/- (proofmark/rv.form).number -/
def Qxj:AT:=(.wr false (some 2) none (.box 173 (.t 0))
 (zr 4 (.mov (zi 0))
 .done))
def Qxi:AT:=(zr 5 (.mov (zi 0))
 .done)
def Qxh:AT:=(za 8 3 2
 (zl 9 1 8
 (zn 10 0 9
 (zr 11 (.mov (zi 0))
 .done))))
def Qxg:AT:=(zb .lss 12 11 10
 .done)
def Qxf:AT:=(zx 13 2 9 11
 (zr 14 (.load true 2 (.t 13))
 (.wr false (some 7) none (.new 181 [(.int .i64 0),(.int .i64 0)])
 (zs 2 7 14
 .done))))
def Qxe:AT:=(zm 15 5
 (za 16 1 7
 (zl 17 1 16
 (zb .shl 18 15 17
 (zr 19 (.load true 2 (.t 7))
 (zm 20 1
 (.cl true (some 21) none (.c (.fn (.func 115) [] [])) [(.t 19),(.t 20)]
 (zr 22 (.conv .i64 (.t 21))
 (zb .or 23 18 22
 (zm 5 23
 .done))))))))))
def Qxd:AT:=(zc .add 24 11 1
 (zm 11 24
 .done))
def Qxc:AT:=(zm 25 5
 (za 26 4 2
 (zl 27 1 26
 (zb .shl 28 25 27
 (zm 5 28
 .done)))))
def Qxb:AT:=(za 29 5 2
 (zl 30 1 29
 .done))
def Qxa:AT:=(zm 31 5
 (zr 32 (.load true 7 (.t 2))
 (zr 36 (.load true 7 (.t 2))
 (.cl true (some 33) none (.c (.fn (.func 122) [] [])) [(.t 32)]
 (zr 34 (.bin .sub (zi 64) (.t 33))
 (zb .shl 35 31 34
 (zk 37 122 [.t 36]
 (zr 38 (.bin .sub (zi 64) (.t 37))
 (zb .shr 39 35 38
 (zm 5 39
 .done))))))))))
def QsO:AT:=(zm 40 5
 (zm 4 40
 .done))
def YX:AF:=⟨41,[.tmp 4],
 (zg Qxj []
 (zg Qxi []
 (.seq (zg Qxh [8]
 (.block 0 (.loop (zg Qxg []
 (.seq (zw 12
 .skip
 (.exit 0))
 (.seq (.block 1 (zg Qxf [13,14]
 (.reg Qxe [15,16,17,18,19,20,21,22,23])))
 (.reg Qxd [24])))))))
 (zg Qxc [25,26,27,28]
 (.seq (zg Qxb [29]
 (zw 30
 (.reg Qxa [31,32,33,34,35,36,37,38,39])
 .skip))
 (zg QsO [40]
 .ret))))))⟩
abbrev QaH:Nat:=114
/- (proofmark/rv.bits).of -/
def Qw9:AT:=(.wr false (some 2) none (.box 181 (.t 0))
 (zr 4 (.mov (.c (.int .u32 0)))
 .done))
def Qw8:AT:=(zm 5 1
 (za 6 0 2
 (zl 7 1 6
 (zb .shr 8 5 7
 (za 9 1 2
 (zl 10 1 9
 (zr 11 (.bin .shl (.c (.int .u32 1)) (.t 10))
 (zr 12 (.bin .sub (.t 11) (.c (.int .u32 1)))
 (zb .and 13 8 12
 (zm 4 13
 .done))))))))))
def QcP:AF:=⟨14,[.tmp 4],
 (zg Qw9 []
 (zg Qw8 [5,6,7,8,9,10,11,12,13]
 .ret))⟩
abbrev QeE:Nat:=115
/- (*proofmark/regions.reader).op -/
def zq35_0:AT:=(zr 4 (.mov (.c (.bool false)))
 .done)
def zq35_1:AT:=(zm 7 0
 (zr 8 (.nilc (.t 7))
 (za 9 3 8
 (za 10 2 9
 (zl 11 1 10
 (zm 12 1
 (zx 13 5 11 12
 (za 14 0 13
 (zl 15 1 14
 (.wr false (some 5) none (.new 5 [(.int .u8 0)])
 (zs 1 5 15
 .done)))))))))))
def zq35_2:AT:=(zr 16 (.mkfn (.func 128) [] [(.t 5)])
 (zm 6 16
 .done))
def zq35_3:AT:=(zm 17 6
 (.cl false (some 18) none (.t 17) [(zu 1),(zu 10)]
 (zm 19 18
 (zmf 20 19 6
 (.cl false (some 21) (some (19,false)) (.t 20) [(zu 22),(zu 49)]
 (zp 22 19 21
 (zm 23 22
 (zmf 24 23 6
 (.cl false (some 25) (some (23,false)) (.t 24) [(zu 54),(zu 62)]
 (zp 26 23 25
 (zm 27 26
 (.wr false (some 28) (some (27,false)) (.bsl false false 5 1 [(.int .u8 0)] 4 [(0,1,(zu 14)),(1,1,(zu 21)),(2,1,(zu 50)),(3,1,(zu 64))])
 (zlf 29 27 1 5
 (.cl false (some 30) (some (27,false)) (.c (.fn (.func 129) [] [])) [(.t 28),(.t 29)]
 (zp 31 27 30
 (zm 4 31
 .done))))))))))))))))
def ZU:AF:=⟨32,[.tmp 4],
 (zg zq35_0 []
 (zg zq35_1 [7,8,9,10,11,12,13,14,15]
 (zg zq35_2 [16]
 (zg zq35_3 [17,18,19,20,21,22,23,24,25,26,27,28,29,30,31]
 .ret))))⟩
abbrev Qf9:Nat:=116
/- (*proofmark/regions.reader).stack -/
def zq36_0:AT:=(zr 4 (.mov (.c (.bool false)))
 .done)
def zq36_1:AT:=(zm 8 0
 (zr 9 (.nilc (.t 8))
 (za 10 3 9
 (za 11 2 10
 (zl 12 1 11
 (zm 13 1
 (zx 14 5 12 13
 (zr 15 (.load true 5 (.t 14))
 (.wr false (some 5) none (.new 77 [(.int .u8 0),(.int .u8 0),(.int .u8 0),(.int .u8 0),(.int .i64 0)])
 (zs 5 5 15
 .done))))))))))
def zq36_2:AT:=(zm 16 1
 (zc .eql 17 16 0
 (zm 18 17
 (zmt 19 18 0
 (zt 20 18 (.nilc (.t 19))
 (zat 21 18 3 20
 (zat 22 18 3 21
 (zlt 23 18 1 22
 (zct .gtr 24 18 23 0
 (zq 25 18 24
 (zm 26 25
 (zmf 27 26 0
 (zf 28 26 (.nilc (.t 27))
 (zaf 29 26 3 28
 (zf 30 26 (.load true 5 (.t 29))
 (zmf 31 26 1
 (.cl false (some 32) (some (26,false)) (.c (.fn (.func 130) [] [])) [(.t 30),(.t 31)]
 (zp 33 26 32
 .done))))))))))))))))))
def zq36_3:AT:=(zr 4 (.mov (.c (.bool true)))
 .done)
def zq36_4:AT:=(zr 35 (.load true 5 (.t 5))
 (zk 36 131 [.t 35]
 (zm 34 36
 (ze 37 34 0
 (ze 38 34 1
 (zm 6 37
 (zm 7 38
 .done)))))))
def zq36_5:AT:=(zm 39 7
 (zm 40 39
 (zmt 41 40 6
 (zt 42 40 (.bin .eql (.t 41) (zu 2))
 (zq 43 40 42
 .done)))))
def zq36_6:AT:=(zr 4 (.mov (.c (.bool false)))
 .done)
def zq36_7:AT:=(zr 44 (.load true 5 (.t 5))
 (zk 45 132 [.t 44]
 (zk 46 129 [.t 45,(zu 2)]
 (zr 47 (.un .not (.t 46))
 .done))))
def zq36_8:AT:=(zr 4 (.mov (.c (.bool true)))
 .done)
def zq36_9:AT:=(za 48 0 5
 (zl 49 1 48
 .done))
def QBa:AT:=(zr 51 (.bin .eql (.t 49) (zu 14))
 (zm 50 51
 .done))
def QA9:AT:=(zr 4 (.mov (.c (.bool true)))
 .done)
def QA8:AT:=(zr 53 (.bin .eql (.t 49) (zu 21))
 (zm 52 53
 .done))
def QA7:AT:=(zr 54 (.bin .eql (.t 49) (zu 10))
 (zm 52 54
 .done))
def QA6:AT:=(za 55 3 5
 (zl 56 1 55
 (zr 57 (.bin .neq (.t 56) (zu 2))
 (zm 4 57
 .done))))
def QA5:AT:=(zr 4 (.mov (.c (.bool false)))
 .done)
def YP:AF:=⟨58,[.tmp 4],
 (zg zq36_0 []
 (zg zq36_1 [8,9,10,11,12,13,14,15]
 (.seq (zg zq36_2 [16,17,18,19,20,21,22,23,24,25,26,27,28,29,30,31,32]
 (zw 33
 (zg zq36_3 []
 .ret)
 .skip))
 (.seq (zg zq36_4 [35,36,34,37,38]
 (zg zq36_5 [39,40,41,42]
 (zw 43
 (zg zq36_6 []
 .ret)
 .skip)))
 (.seq (zg zq36_7 [44,45,46]
 (zw 47
 (zg zq36_8 []
 .ret)
 .skip))
 (.seq (zg zq36_9 [48]
 (.block 0 (zg QBa [51]
 (zw 50
 (zg QA9 []
 .ret)
 (.seq (zg QA8 [53]
 (zw 52
 .skip
 (.reg QA7 [54])))
 (zw 52
 (zg QA6 [55,56,57]
 .ret)
 .skip))))))
 (zg QA5 []
 .ret)))))))⟩
abbrev QdV:Nat:=117
/- (*proofmark/regions.reader).target -/
def zq37_0:AT:=(zr 4 (.mov (.c (.bool false)))
 .done)
def zq37_1:AT:=(zm 8 0
 (zr 9 (.nilc (.t 8))
 (za 10 3 9
 (za 11 2 10
 (zl 12 1 11
 (zm 13 1
 (zx 14 5 12 13
 (zr 15 (.load true 5 (.t 14))
 (.wr false (some 5) none (.new 77 [(.int .u8 0),(.int .u8 0),(.int .u8 0),(.int .u8 0),(.int .i64 0)])
 (zs 5 5 15
 .done))))))))))
def zq37_2:AT:=(zr 17 (.load true 5 (.t 5))
 (zk 18 133 [.t 17]
 (zm 16 18
 .done)))
def zq37_3:AT:=(zm 19 1
 (za 20 4 5
 (zl 21 1 20
 (zc .quo 22 21 4
 (zb .add 23 19 22
 (zm 6 23
 .done))))))
def zq37_4:AT:=(za 24 4 5
 (zl 25 1 24
 (zc .rem 26 25 4
 (zc .eql 27 26 0
 (zm 28 27
 (zmt 29 28 6
 (zct .gtr 30 28 29 0
 (zq 31 28 30
 (zm 32 31
 (zmt 33 32 6
 (zmt 34 32 0
 (zt 35 32 (.nilc (.t 34))
 (zat 36 32 3 35
 (zat 37 32 2 36
 (zlt 38 32 1 37
 (znt 39 32 0 38
 (zbt .lss 40 32 33 39
 (zq 41 32 40
 (zm 42 41
 (zmt 43 42 0
 (zt 44 42 (.nilc (.t 43))
 (zat 45 42 3 44
 (zat 46 42 3 45
 (zlt 47 42 1 46
 (zct .gtr 48 42 47 0
 (zmt 49 42 48
 (zmt 50 49 0
 (zt 51 49 (.nilc (.t 50))
 (zat 52 49 3 51
 (zt 53 49 (.load true 5 (.t 52))
 (zmt 54 49 6
 (.cl false (some 55) (some (49,true)) (.c (.fn (.func 134) [] [])) [(.t 53),(.t 54)]
 (zqt 56 42 49 55
 (zt 57 42 (.un .not (.t 56))
 (zq 58 42 57
 (zm 4 58
 .done))))))))))))))))))))))))))))))))))))
def zq37_5:AT:=(za 60 0 5
 (zl 61 1 60
 (zr 62 (.bin .eql (.t 61) (zu 3))
 (zm 59 62
 .done))))
def zq37_6:AT:=(zm 63 0
 (zr 64 (.nilc (.t 63))
 (za 65 3 64
 (za 66 1 65
 (zl 67 1 66
 (zm 68 1
 (zr 69 (.bin .mul (zi 4) (.t 68))
 (zb .add 70 67 69
 (za 71 4 5
 (zl 72 1 71
 (zb .add 73 70 72
 (.wr true (some 7) none (.new 2 [(.int .i64 0)])
 (zs 1 7 73
 .done)))))))))))))
def zq37_7:AT:=(za 74 1 5
 (zl 75 1 74
 (zr 76 (.bin .eql (.t 75) (zu 1))
 (zm 77 76
 (zmt 78 77 0
 (zt 79 77 (.nilc (.t 78))
 (zat 80 77 0 79
 (zat 81 77 1 80
 (zlt 82 77 1 81
 (zt 83 77 (.mkfn (.func 135) [] [(.t 7)])
 (.cl false (some 84) (some (77,true)) (.c (.fn (.func 87) [] [])) [(.t 82),(.t 83)]
 (zq 85 77 84
 (zm 4 85
 .done)))))))))))))
def zq37_8:AT:=(zr 4 (.mov (.c (.bool true)))
 .done)
def Yw:AF:=⟨86,[.tmp 4],
 (zg zq37_0 []
 (zg zq37_1 [8,9,10,11,12,13,14,15]
 (.seq (.block 0 (zg zq37_2 [17,18]
 (zw 16
 (zg zq37_3 [19,20,21,22,23]
 (zg zq37_4 [24,25,26,27,28,29,30,31,32,33,34,35,36,37,38,39,40,41,42,43,44,45,46,47,48,49,50,51,52,53,54,55,56,57,58]
 .ret))
 (zg zq37_5 [60,61,62]
 (zw 59
 (zg zq37_6 [63,64,65,66,67,68,69,70,71,72,73]
 (zg zq37_7 [74,75,76,77,78,79,80,81,82,83,84,85]
 .ret))
 .skip)))))
 (zg zq37_8 []
 .ret))))⟩
abbrev Qdm:Nat:=118
/- (*proofmark/regions.reader).back -/
def zq38_0:AT:=(zr 4 (.mov (.c (.bool false)))
 .done)
def zq38_1:AT:=(zm 5 0
 (zr 6 (.nilc (.t 5))
 (za 7 3 6
 (za 8 2 7
 (zl 9 1 8
 (zm 10 1
 (zx 11 5 9 10
 (za 12 0 11
 (zl 13 1 12
 (zr 14 (.bin .neq (.t 13) (zu 4))
 (zm 15 14
 (zmf 16 15 0
 (zf 17 15 (.nilc (.t 16))
 (zaf 18 15 3 17
 (zf 19 15 (.load true 5 (.t 18))
 (zmf 20 15 1
 (.cl false (some 21) (some (15,false)) (.c (.fn (.func 134) [] [])) [(.t 19),(.t 20)]
 (zp 22 15 21
 (zm 4 22
 .done)))))))))))))))))))
def Y1:AF:=⟨23,[.tmp 4],
 (zg zq38_0 []
 (zg zq38_1 [5,6,7,8,9,10,11,12,13,14,15,16,17,18,19,20,21,22]
 .ret))⟩
abbrev QeG:Nat:=119
/- (proofmark/regions.Func).Next -/
def zq39_0:AT:=(.wr false (some 2) none (.box 39 (.t 0))
 (zr 4 (.mov (.c (.lst 0 [] true)))
 .done))
def zq39_1:AT:=(zm 7 1
 (zc .lss 8 7 0
 (zm 9 8
 (zmf 10 9 1
 (zaf 11 9 2 2
 (zlf 12 9 1 11
 (znf 13 9 0 12
 (zbf .geq 14 9 10 13
 (zp 15 9 14
 (zm 16 15
 (zf 17 16 (.load true 5 (.t 2))
 (zmf 18 16 1
 (.cl false (some 19) (some (16,false)) (.c (.fn (.func 134) [] [])) [(.t 17),(.t 18)]
 (zp 20 16 19
 (zm 21 20
 (zf 22 21 (.load true 5 (.t 2))
 (zmf 23 21 1
 (.cl false (some 24) (some (21,false)) (.c (.fn (.func 136) [] [])) [(.t 22),(.t 23)]
 (zp 25 21 24
 .done)))))))))))))))))))
def zq39_2:AT:=(zr 4 (.mov (.c (.lst 0 [] true)))
 .done)
def zq39_3:AT:=(za 26 2 2
 (zl 27 1 26
 (zm 28 1
 (zx 29 5 27 28
 (zr 30 (.load true 5 (.t 29))
 (.wr false (some 5) none (.new 77 [(.int .u8 0),(.int .u8 0),(.int .u8 0),(.int .u8 0),(.int .i64 0)])
 (zs 5 5 30
 .done)))))))
def zq39_4:AT:=(zr 6 (.mov (.c (.lst 0 [] true)))
 .done)
def zq39_5:AT:=(zr 31 (.load true 5 (.t 5))
 (zk 32 133 [.t 31]
 .done))
def zq39_6:AT:=(zm 33 6
 (zm 34 1
 (za 35 4 5
 (zl 36 1 35
 (zc .quo 37 36 4
 (zb .add 38 34 37
 (.wr false (some 39) none (.bsl false false 3 1 [(.int .i64 0)] 1 [(0,1,(.t 38))])
 (.wr false (some 40) none (.app 3 1 8 false (.t 33) (.t 39))
 (zm 6 40
 .done)))))))))
def zq39_7:AT:=(zr 41 (.load true 5 (.t 5))
 (zk 42 137 [.t 41]
 (zm 43 42
 (zf 44 43 (.load true 5 (.t 5))
 (.cl false (some 45) (some (43,false)) (.c (.fn (.func 133) [] [])) [(.t 44)]
 (zf 46 43 (.un .not (.t 45))
 (zp 47 43 46
 .done)))))))
def zq39_8:AT:=(zm 48 6
 (zm 49 1
 (zc .add 50 49 1
 (.wr false (some 51) none (.bsl false false 3 1 [(.int .i64 0)] 1 [(0,1,(.t 50))])
 (.wr false (some 52) none (.app 3 1 8 false (.t 48) (.t 51))
 (zm 6 52
 .done))))))
def zq39_9:AT:=(zm 53 6
 (zk 54 121 [.t 53]
 .done))
def QA4:AT:=(zm 55 6
 (zk 56 139 [.t 55]
 (zr 57 (.mkfn (.func 140) [] [(.t 2)])
 (zk 58 138 [.t 56,.t 57]
 (zm 4 58
 .done)))))
def ZW:AF:=⟨59,[.tmp 4],
 (zg zq39_0 []
 (.seq (zg zq39_1 [7,8,9,10,11,12,13,14,15,16,17,18,19,20,21,22,23,24]
 (zw 25
 (zg zq39_2 []
 .ret)
 .skip))
 (zg zq39_3 [26,27,28,29,30]
 (zg zq39_4 []
 (.seq (zg zq39_5 [31]
 (zw 32
 (.reg zq39_6 [33,34,35,36,37,38,39,40])
 .skip))
 (.seq (zg zq39_7 [41,42,43,44,45,46]
 (zw 47
 (.reg zq39_8 [48,49,50,51,52])
 .skip))
 (zg zq39_9 [53,54]
 (zg QA4 [55,56,57,58]
 .ret))))))))⟩
abbrev Qgb:Nat:=120
/- slices.Sort[[]int,int] -/
def zq3a_0:AT:=(zm 3 0
 (zn 4 0 3
 (zm 2 4
 .done)))
def zq3a_1:AT:=(zm 5 0
 (zm 6 2
 (zm 7 2
 (zr 8 (.conv .u64 (.t 7))
 (zk 9 54 [.t 8]
 (zk 10 141 [.t 5,(zi 0),.t 6,.t 9]
 .done))))))
def Y0:AF:=⟨11,[],
 (zg zq3a_0 [3,4]
 (.reg zq3a_1 [5,6,7,8,9,10]))⟩
abbrev QeC:Nat:=121
/- (proofmark/rv.form).width -/
def Qw7:AT:=(.wr false (some 1) none (.box 173 (.t 0))
 (zr 2 (.mov (zi 0))
 .done))
def Qw6:AT:=(za 6 4 1
 (zl 7 1 6
 (zm 3 7
 .done)))
def Qw5:AT:=(za 8 3 1
 (zl 9 1 8
 (zn 10 0 9
 (zr 11 (.mov (zi 0))
 .done))))
def Qw4:AT:=(zb .lss 12 11 10
 .done)
def Qw3:AT:=(zx 13 2 9 11
 (zr 14 (.load true 2 (.t 13))
 (.wr false (some 5) none (.new 181 [(.int .i64 0),(.int .i64 0)])
 (zs 2 5 14
 .done))))
def Qw2:AT:=(zm 15 3
 (za 16 1 5
 (zl 17 1 16
 (zb .add 18 15 17
 (zm 3 18
 .done)))))
def Qw1:AT:=(zc .add 19 11 1
 (zm 11 19
 .done))
def Qw0:AT:=(zm 20 3
 (zm 2 20
 .done))
def Zt:AF:=⟨21,[.tmp 2],
 (zg Qw7 []
 (zg Qw6 [6,7]
 (.seq (zg Qw5 [8]
 (.block 0 (.loop (zg Qw4 []
 (.seq (zw 12
 .skip
 (.exit 0))
 (.seq (.block 1 (zg Qw3 [13,14]
 (.reg Qw2 [15,16,17,18])))
 (.reg Qw1 [19])))))))
 (zg Qw0 [20]
 .ret))))⟩
abbrev QeD:Nat:=122
abbrev QgY:Nat:=123
abbrev QjM:Nat:=124
abbrev Qm3:Nat:=125
abbrev QgA:Nat:=126
/- proofmark/rv.tells -/
def zq3g_0:AT:=(.wr false (some 5) none (.box 173 (.t 0))
 (.wr false (some 10) none (.new 175 [(.bool false),(.bool false),(.bool false),(.lst 0 [] true),(.int .i64 0),(.bool false),(.int .u32 0),(.str []),(.int .u32 0)])
 .done))
def zq3g_1:AT:=(zr 11 (.load true 7 (.t 5))
 (zm 12 1
 (zm 13 2
 (zm 14 3
 (zr 15 (.faddr 0 (.g 3))
 (zl 16 1 15
 (zb .shl 17 14 16
 (zm 18 4
 (zr 19 (.faddr 0 (.g 4))
 (zl 20 1 19
 (zb .shl 21 18 20
 (.wr true (some 22) none (.bsl false false 131 1 [(.int .u32 0)] 3 [(0,1,(.t 13)),(1,1,(.t 17)),(2,1,(.t 21))])
 (.cl true (some 23) none (.c (.fn (.func 98) [] [])) [(.t 22)]
 (zr 24 (.build [(.bool false),(.bool false),(.bool false),(.lst 0 [] true),(.int .i64 0),(.bool false),(.int .u32 0),(.str []),(.int .u32 0)] [(0,7,(.t 11)),(7,1,(.t 12)),(8,1,(.t 23))])
 (zs 9 10 24
 .done)))))))))))))))
def QmP:AF:=⟨25,[.cell 10 true 9],
 (zg zq3g_0 []
 (zg zq3g_1 [11,12,13,14,15,16,17,18,19,20,21,22,23,24]
 .ret))⟩
abbrev QrW:Nat:=127
/- (*proofmark/regions.reader).op$1 -/
def zq3h_0:AT:=(zr 5 (.mov (.c (.bool false)))
 .done)
def zq3h_1:AT:=(zl 6 1 2
 (zm 7 0
 (zb .geq 8 6 7
 (zm 9 8
 (zlt 10 9 1 2
 (zmt 11 9 1
 (zbt .leq 12 9 10 11
 (zq 13 9 12
 (zm 5 13
 .done)))))))))
def YQ:AF:=⟨14,[.tmp 5],
 (zg zq3h_0 []
 (zg zq3h_1 [6,7,8,9,10,11,12,13]
 .ret))⟩
abbrev QdW:Nat:=128
/- slices.Contains[[]uint8,uint8] -/
def zq3i_0:AT:=(zr 4 (.mov (.c (.bool false)))
 .done)
def zq3i_1:AT:=(zm 5 0
 (zm 6 1
 (zk 7 147 [.t 5,.t 6]
 (zc .geq 8 7 0
 (zm 4 8
 .done)))))
def Xm:AF:=⟨9,[.tmp 4],
 (zg zq3i_0 []
 (zg zq3i_1 [5,6,7,8]
 .ret))⟩
abbrev QaG:Nat:=129
/- (proofmark/regions.Func).restores -/
def zq3j_0:AT:=(.wr false (some 2) none (.box 39 (.t 0))
 (zr 4 (.mov (.c (.bool false)))
 .done))
def zq3j_1:AT:=(za 5 3 2
 (zl 6 1 5
 (zc .gtr 7 6 0
 (zm 8 7
 (zt 9 8 (.load true 5 (.t 2))
 (zmt 10 8 1
 (zat 11 8 3 2
 (zlt 12 8 1 11
 (zt 13 8 (.build [(.int .u8 0),(.int .u8 0),(.int .u8 0),(.int .u8 0),(.int .i64 0)] [(0,1,(zu 22)),(1,1,(zu 2)),(2,1,(zu 2)),(4,1,(.t 12))])
 (.cl false (some 14) (some (8,true)) (.c (.fn (.func 148) [] [])) [(.t 9),(.t 10),(.t 13)]
 (zq 15 8 14
 (zm 16 15
 (zt 17 16 (.load true 5 (.t 2))
 (zmt 18 16 1
 (zct .add 19 16 18 1
 (zt 20 16 (.build [(.int .u8 0),(.int .u8 0),(.int .u8 0),(.int .u8 0),(.int .i64 0)] [(0,1,(zu 4)),(2,1,(zu 1))])
 (.cl false (some 21) (some (16,true)) (.c (.fn (.func 148) [] [])) [(.t 17),(.t 19),(.t 20)]
 (zq 22 16 21
 (zm 4 22
 .done)))))))))))))))))))
def Yx:AF:=⟨23,[.tmp 4],
 (zg zq3j_0 []
 (zg zq3j_1 [5,6,7,8,9,10,11,12,13,14,15,16,17,18,19,20,21,22]
 .ret))⟩
abbrev Qdn:Nat:=130
/- proofmark/rv.Writes -/
def zq3k_0:AT:=(.wr false (some 1) none (.box 77 (.t 0))
 (zr 2 (.mov (zu 0))
 (zr 3 (.mov (.c (.bool false)))
 .done)))
def zq3k_1:AT:=(zr 9 (.load true 5 (.t 1))
 (zk 10 62 [.t 9]
 (zm 8 10
 (ze 11 8 0
 (ze 12 8 1
 (zm 4 11
 (zm 5 12
 .done)))))))
def zq3k_2:AT:=(za 14 0 1
 (zl 15 1 14
 (zk 16 95 [.t 15]
 (zm 13 16
 (ze 17 13 0
 (ze 18 13 1
 (.wr false (some 6) none (.new 175 [(.bool false),(.bool false),(.bool false),(.lst 0 [] true),(.int .i64 0),(.bool false),(.int .u32 0),(.str []),(.int .u32 0)])
 (zs 9 6 17
 (zm 7 18
 .done)))))))))
def zq3k_3:AT:=(zm 19 5
 (zc .neq 20 19 0
 (zm 21 20
 (zaf 22 21 0 6
 (zaf 23 21 0 22
 (zlf 24 21 1 23
 (zf 25 21 (.un .not (.t 24))
 (zp 26 21 25
 (zm 27 26
 (zaf 28 27 1 1
 (zlf 29 27 1 28
 (zf 30 27 (.bin .eql (.t 29) (zu 0))
 (zp 31 27 30
 .done)))))))))))))
def zq3k_4:AT:=(zr 2 (.mov (zu 0))
 (zr 3 (.mov (.c (.bool false)))
 .done))
def zq3k_5:AT:=(za 32 1 1
 (zl 33 1 32
 (zm 2 33
 (zr 3 (.mov (.c (.bool true)))
 .done))))
def Qke:AF:=⟨34,[.tmp 2,.tmp 3],
 (zg zq3k_0 []
 (zg zq3k_1 [9,10,8,11,12,4]
 (zg zq3k_2 [14,15,16,13,17,18,7]
 (.seq (zg zq3k_3 [19,20,21,22,23,24,25,26,27,28,29,30]
 (zw 31
 (zg zq3k_4 []
 .ret)
 .skip))
 (zg zq3k_5 [32,33]
 .ret)))))⟩
abbrev QpM:Nat:=131
/- proofmark/rv.Reads -/
def zq3l_0:AT:=(.wr false (some 1) none (.box 77 (.t 0))
 (zr 2 (.mov (.c (.lst 0 [] true)))
 .done))
def zq3l_1:AT:=(zr 7 (.load true 5 (.t 1))
 (zk 8 62 [.t 7]
 (zm 6 8
 (ze 9 6 0
 (ze 10 6 1
 (zm 3 9
 (zm 4 10
 .done)))))))
def zq3l_2:AT:=(zm 11 4
 (zc .neq 12 11 0
 .done))
def zq3l_3:AT:=(zr 2 (.mov (.c (.lst 0 [] true)))
 .done)
def zq3l_4:AT:=(za 13 2 1
 (zl 14 1 13
 (za 15 3 1
 (zl 16 1 15
 (.wr false (some 17) none (.bsl true false 5 1 [(.int .u8 0)] 2 [(0,1,(.t 14)),(1,1,(.t 16))])
 (zm 5 17
 .done))))))
def zq3l_5:AT:=(zm 18 5
 (zk 19 149 [.t 18]
 .done))
def zq3l_6:AT:=(zm 20 5
 (zk 21 150 [.t 20]
 (zm 5 21
 .done)))
def zq3l_7:AT:=(zm 22 5
 (zk 23 151 [.t 22,(.c (.fn (.func 152) [] []))]
 (zm 2 23
 .done)))
def QmR:AF:=⟨24,[.tmp 2],
 (zg zq3l_0 []
 (.seq (zg zq3l_1 [7,8,6,9,10,3]
 (zg zq3l_2 [11]
 (zw 12
 (zg zq3l_3 []
 .ret)
 .skip)))
 (zg zq3l_4 [13,14,15,16,17]
 (zg zq3l_5 [18,19]
 (zg zq3l_6 [20,21]
 (zg zq3l_7 [22,23]
 .ret))))))⟩
abbrev QrX:Nat:=132
/- proofmark/regions.jumps -/
def zq3m_0:AT:=(.wr false (some 1) none (.box 77 (.t 0))
 (zr 2 (.mov (.c (.bool false)))
 .done))
def zq3m_1:AT:=(zr 3 (.load true 5 (.t 1))
 (zk 4 137 [.t 3]
 (zm 5 4
 (zaf 6 5 0 1
 (zlf 7 5 1 6
 (zf 8 5 (.bin .eql (.t 7) (zu 3))
 (zmf 9 5 8
 (zat 10 9 1 1
 (zlt 11 9 1 10
 (zt 12 9 (.bin .eql (.t 11) (zu 0))
 (zqf 13 5 9 12
 (zp 14 5 13
 (zm 2 14
 .done)))))))))))))
def Qdh:AF:=⟨15,[.tmp 2],
 (zg zq3m_0 []
 (zg zq3m_1 [3,4,5,6,7,8,9,10,11,12,13,14]
 .ret))⟩
abbrev Qkm:Nat:=133
/- (proofmark/regions.Func).Return -/
def zq3n_0:AT:=(.wr false (some 2) none (.box 39 (.t 0))
 (zr 4 (.mov (.c (.bool false)))
 .done))
def zq3n_1:AT:=(zr 5 (.load true 5 (.t 2))
 (zm 6 1
 (zr 7 (.build [(.int .u8 0),(.int .u8 0),(.int .u8 0),(.int .u8 0),(.int .i64 0)] [(0,1,(zu 4)),(2,1,(zu 1))])
 (zk 8 148 [.t 5,.t 6,.t 7]
 (zm 9 8
 (zat 10 9 3 2
 (zlt 11 9 1 10
 (zct .eql 12 9 11 0
 (zmt 13 9 12
 (zf 14 13 (.load true 5 (.t 2))
 (zmf 15 13 1
 (zcf .sub 16 13 15 1
 (.cl false (some 17) (some (13,false)) (.c (.fn (.func 130) [] [])) [(.t 14),(.t 16)]
 (zpt 18 9 13 17
 (zq 19 9 18
 (zm 4 19
 .done))))))))))))))))
def Y2:AF:=⟨20,[.tmp 4],
 (zg zq3n_0 []
 (zg zq3n_1 [5,6,7,8,9,10,11,12,13,14,15,16,17,18,19]
 .ret))⟩
abbrev QeH:Nat:=134
/- (*proofmark/regions.reader).target$1 -/
def zq3o_0:AT:=(.wr false (some 2) none (.box 130 (.t 0))
 (zr 3 (.mov (.c (.bool false)))
 .done))
def zq3o_1:AT:=(za 4 1 2
 (zl 5 1 4
 (zl 6 1 1
 (zb .eql 7 5 6
 (zm 3 7
 .done)))))
def XJ:AF:=⟨8,[.tmp 3],
 (zg zq3o_0 []
 (zg zq3o_1 [4,5,6,7]
 .ret))⟩
abbrev QbJ:Nat:=135
/- (proofmark/regions.Func).Ends -/
def zq3p_0:AT:=(.wr false (some 2) none (.box 39 (.t 0))
 (zr 4 (.mov (.c (.bool false)))
 .done))
def zq3p_1:AT:=(zr 8 (.load true 5 (.t 2))
 (zm 9 1
 (zc .sub 10 9 1
 (zr 11 (.build [(.int .u8 0),(.int .u8 0),(.int .u8 0),(.int .u8 0),(.int .i64 0)] [(0,1,(zu 22)),(1,1,(zu 17)),(4,1,(zi 3))])
 (zk 12 148 [.t 8,.t 10,.t 11]
 (zm 13 12
 (zf 14 13 (.load true 5 (.t 2))
 (zmf 15 13 1
 (zcf .sub 16 13 15 1
 (zf 17 13 (.build [(.int .u8 0),(.int .u8 0),(.int .u8 0),(.int .u8 0),(.int .i64 0)] [(0,1,(zu 22)),(1,1,(zu 17)),(4,1,(zi 4))])
 (.cl false (some 18) (some (13,false)) (.c (.fn (.func 148) [] [])) [(.t 14),(.t 16),(.t 17)]
 (zp 19 13 18
 (zm 5 19
 .done)))))))))))))
def zq3p_2:AT:=(zm 20 5
 (zr 21 (.un .not (.t 20))
 (zm 22 21
 (zf 23 22 (.load true 5 (.t 2))
 (zmf 24 22 1
 (zf 25 22 (.build [(.int .u8 0),(.int .u8 0),(.int .u8 0),(.int .u8 0),(.int .i64 0)] [(0,1,(zu 64))])
 (.cl false (some 26) (some (22,false)) (.c (.fn (.func 148) [] [])) [(.t 23),(.t 24),(.t 25)]
 (zf 27 22 (.un .not (.t 26))
 (zp 28 22 27
 .done)))))))))
def zq3p_3:AT:=(zr 4 (.mov (.c (.bool false)))
 .done)
def zq3p_4:AT:=(za 29 2 2
 (zl 30 1 29
 (zn 31 0 30
 (zr 32 (.mov (zi 0))
 .done))))
def zq3p_5:AT:=(zb .lss 33 32 31
 .done)
def zq3p_6:AT:=(zm 34 32
 (zx 35 5 30 32
 (zr 36 (.load true 5 (.t 35))
 (.wr false (some 7) none (.new 77 [(.int .u8 0),(.int .u8 0),(.int .u8 0),(.int .u8 0),(.int .i64 0)])
 (zm 6 34
 (zs 5 7 36
 .done))))))
def zq3p_7:AT:=(zr 37 (.load true 5 (.t 7))
 (zk 38 133 [.t 37]
 (zm 39 38
 (zmt 40 39 6
 (zat 41 39 4 7
 (zlt 42 39 1 41
 (zct .quo 43 39 42 4
 (zbt .add 44 39 40 43
 (zmt 45 39 1
 (zbt .eql 46 39 44 45
 (zq 47 39 46
 .done)))))))))))
def zq3p_8:AT:=(zr 4 (.mov (.c (.bool false)))
 .done)
def zq3p_9:AT:=(zc .add 48 32 1
 (zm 32 48
 .done))
def QA3:AT:=(zr 4 (.mov (.c (.bool true)))
 .done)
def ZX:AF:=⟨49,[.tmp 4],
 (zg zq3p_0 []
 (zg zq3p_1 [8,9,10,11,12,13,14,15,16,17,18,19]
 (.seq (zg zq3p_2 [20,21,22,23,24,25,26,27]
 (zw 28
 (zg zq3p_3 []
 .ret)
 .skip))
 (.seq (zg zq3p_4 [29]
 (.block 0 (.loop (zg zq3p_5 []
 (.seq (zw 33
 .skip
 (.exit 0))
 (.seq (.block 1 (zg zq3p_6 [34,35,36]
 (zg zq3p_7 [37,38,39,40,41,42,43,44,45,46]
 (zw 47
 (zg zq3p_8 []
 .ret)
 .skip))))
 (.reg zq3p_9 [48])))))))
 (zg QA3 []
 .ret)))))⟩
abbrev Qgc:Nat:=136
/- proofmark/regions.branches -/
def zq3q_0:AT:=(.wr false (some 1) none (.box 77 (.t 0))
 (zr 2 (.mov (.c (.bool false)))
 .done))
def zq3q_1:AT:=(za 3 0 1
 (zl 4 1 3
 (zr 5 (.bin .geq (.t 4) (zu 5))
 (zm 6 5
 (zat 7 6 0 1
 (zlt 8 6 1 7
 (zt 9 6 (.bin .leq (.t 8) (zu 10))
 (zq 10 6 9
 (zm 2 10
 .done)))))))))
def QaB:AF:=⟨11,[.tmp 2],
 (zg zq3q_0 []
 (zg zq3q_1 [3,4,5,6,7,8,9,10]
 .ret))⟩
abbrev Qg1:Nat:=137
/- slices.DeleteFunc[[]int,int] -/
def zq3r_0:AT:=(zr 4 (.mov (.c (.lst 0 [] true)))
 .done)
def zq3r_1:AT:=(zm 8 0
 (zm 9 1
 (zk 10 153 [.t 8,.t 9]
 (zm 5 10
 .done))))
def zq3r_2:AT:=(zm 11 5
 (zr 12 (.bin .eql (.t 11) (.c (.int .i64 (-1))))
 .done))
def zq3r_3:AT:=(zm 13 0
 (zm 4 13
 .done))
def zq3r_4:AT:=(zm 14 5
 (zc .add 15 14 1
 (zm 6 15
 .done)))
def zq3r_5:AT:=(zm 16 6
 (zm 17 0
 (zn 18 0 17
 (zb .lss 19 16 18
 .done))))
def zq3r_6:AT:=(zm 22 0
 (zm 23 6
 (zx 24 1 22 23
 (zl 25 1 24
 (zm 7 25
 .done)))))
def zq3r_7:AT:=(zm 26 1
 (zm 27 7
 (.cl false (some 28) none (.t 26) [(.t 27)]
 (zr 29 (.un .not (.t 28))
 .done))))
def zq3r_8:AT:=(zm 30 0
 (zm 31 5
 (zm 32 7
 (zx 33 1 30 31
 (zs 1 33 32
 .done)))))
def zq3r_9:AT:=(zm 34 5
 (zc .add 35 34 1
 (zm 5 35
 .done)))
def QA2:AT:=(zm 20 6
 (zc .add 21 20 1
 (zm 6 21
 .done)))
def QA1:AT:=(zm 36 0
 (zm 37 5
 (zr 38 (.slc 1 (.t 36) (some (.t 37)) none none)
 (.wr false none none (.clr 1 [(.int .i64 0)] (.t 38))
 .done))))
def QA0:AT:=(zm 39 0
 (zm 40 5
 (zr 41 (.slc 1 (.t 39) none (some (.t 40)) none)
 (zm 4 41
 .done))))
def Xw:AF:=⟨42,[.tmp 4],
 (zg zq3r_0 []
 (zg zq3r_1 [8,9,10]
 (.seq (zg zq3r_2 [11]
 (zw 12
 (zg zq3r_3 [13]
 .ret)
 .skip))
 (.seq (zg zq3r_4 [14,15]
 (.block 0 (.loop (.seq (zg zq3r_5 [16,17,18]
 (zw 19
 .skip
 (.exit 0)))
 (.seq (.block 1 (zg zq3r_6 [22,23,24,25]
 (zg zq3r_7 [26,27,28]
 (zw 29
 (zg zq3r_8 [30,31,32,33]
 (.reg zq3r_9 [34,35]))
 .skip))))
 (.reg QA2 [20,21]))))))
 (zg QA1 [36,37,38]
 (zg QA0 [39,40,41]
 .ret))))))⟩
abbrev Qbi:Nat:=138
/- slices.Compact[[]int,int] -/
def zq3s_0:AT:=(zr 2 (.mov (.c (.lst 0 [] true)))
 .done)
def zq3s_1:AT:=(zm 6 0
 (zn 7 0 6
 (zc .lss 8 7 2
 .done)))
def zq3s_2:AT:=(zm 9 0
 (zm 2 9
 .done))
def zq3s_3:AT:=(zr 3 (.mov (zi 1))
 .done)
def zq3s_4:AT:=(zm 10 3
 (zm 11 0
 (zn 12 0 11
 (zb .lss 13 10 12
 .done))))
def zq3s_5:AT:=(zm 16 0
 (zm 17 3
 (zx 18 1 16 17
 (zl 19 1 18
 (zm 20 0
 (zm 21 3
 (zc .sub 22 21 1
 (zx 23 1 20 22
 (zl 24 1 23
 (zb .eql 25 19 24
 .done))))))))))
def zq3s_6:AT:=(zm 26 0
 (zm 27 3
 (zr 28 (.slc 1 (.t 26) (some (.t 27)) none none)
 (zm 4 28
 .done))))
def zq3s_7:AT:=(zr 5 (.mov (zi 1))
 .done)
def zq3s_8:AT:=(zm 29 5
 (zm 30 4
 (zn 31 0 30
 (zb .lss 32 29 31
 .done))))
def zq3s_9:AT:=(zm 35 4
 (zm 36 5
 (zx 37 1 35 36
 (zl 38 1 37
 (zm 39 4
 (zm 40 5
 (zc .sub 41 40 1
 (zx 42 1 39 41
 (zl 43 1 42
 (zb .neq 44 38 43
 .done))))))))))
def QAZ:AT:=(zm 45 0
 (zm 46 3
 (zm 47 4
 (zm 48 5
 (zx 49 1 47 48
 (zl 50 1 49
 (zx 51 1 45 46
 (zs 1 51 50
 .done))))))))
def QAY:AT:=(zm 52 3
 (zc .add 53 52 1
 (zm 3 53
 .done)))
def QAX:AT:=(zm 33 5
 (zc .add 34 33 1
 (zm 5 34
 .done)))
def QAW:AT:=(zm 54 0
 (zm 55 3
 (zr 56 (.slc 1 (.t 54) (some (.t 55)) none none)
 (.wr false none none (.clr 1 [(.int .i64 0)] (.t 56))
 .done))))
def QAV:AT:=(zm 57 0
 (zm 58 3
 (zr 59 (.slc 1 (.t 57) none (some (.t 58)) none)
 (zm 2 59
 .done))))
def QAU:AT:=(zm 14 3
 (zc .add 15 14 1
 (zm 3 15
 .done)))
def QAT:AT:=(zm 60 0
 (zm 2 60
 .done))
def X4:AF:=⟨61,[.tmp 2],
 (zg zq3s_0 []
 (.seq (zg zq3s_1 [6,7]
 (zw 8
 (zg zq3s_2 [9]
 .ret)
 .skip))
 (.seq (zg zq3s_3 []
 (.block 0 (.loop (.seq (zg zq3s_4 [10,11,12]
 (zw 13
 .skip
 (.exit 0)))
 (.seq (.block 1 (zg zq3s_5 [16,17,18,19,20,21,22,23,24]
 (zw 25
 (zg zq3s_6 [26,27,28]
 (.seq (zg zq3s_7 []
 (.block 2 (.loop (.seq (zg zq3s_8 [29,30,31]
 (zw 32
 .skip
 (.exit 2)))
 (.seq (.block 3 (zg zq3s_9 [35,36,37,38,39,40,41,42,43]
 (zw 44
 (zg QAZ [45,46,47,48,49,50,51]
 (.reg QAY [52,53]))
 .skip)))
 (.reg QAX [33,34]))))))
 (zg QAW [54,55,56]
 (zg QAV [57,58,59]
 .ret))))
 .skip)))
 (.reg QAU [14,15]))))))
 (zg QAT [60]
 .ret))))⟩
abbrev QcU:Nat:=139
/- (proofmark/regions.Func).Next$1 -/
def zq3t_0:AT:=(zr 3 (.mov (.c (.bool false)))
 .done)
def zq3t_1:AT:=(zm 4 0
 (zc .lss 5 4 0
 (zm 6 5
 (zmf 7 6 0
 (zaf 8 6 2 1
 (zlf 9 6 1 8
 (znf 10 6 0 9
 (zbf .geq 11 6 7 10
 (zp 12 6 11
 (zm 3 12
 .done))))))))))
def YS:AF:=⟨13,[.tmp 3],
 (zg zq3t_0 []
 (zg zq3t_1 [4,5,6,7,8,9,10,11,12]
 .ret))⟩
abbrev QdY:Nat:=140
/- slices.pdqsortOrdered[int] -/
def zq3u_0:AT:=(zr 8 (.mov (.c (.bool true)))
 .done)
def zq3u_1:AT:=(zr 9 (.mov (.c (.bool true)))
 .done)
def zq3u_2:AT:=(zm 19 2
 (zm 20 1
 (zb .sub 21 19 20
 (zm 10 21
 .done))))
def zq3u_3:AT:=(zm 22 10
 (zc .leq 23 22 12
 .done))
def zq3u_4:AT:=(zm 24 0
 (zm 25 1
 (zm 26 2
 (zk 27 154 [.t 24,.t 25,.t 26]
 .done))))
def zq3u_5:AT:=(zm 28 3
 (zc .eql 29 28 0
 .done))
def zq3u_6:AT:=(zm 30 0
 (zm 31 1
 (zm 32 2
 (zk 33 155 [.t 30,.t 31,.t 32]
 .done))))
def zq3u_7:AT:=(zm 34 8
 (zr 35 (.un .not (.t 34))
 .done))
def zq3u_8:AT:=(zm 36 0
 (zm 37 1
 (zm 38 2
 (zk 39 156 [.t 36,.t 37,.t 38]
 .done))))
def zq3u_9:AT:=(zm 40 3
 (zc .sub 41 40 1
 (zm 3 41
 .done)))
def QAS:AT:=(zm 43 0
 (zm 44 1
 (zm 45 2
 (zk 46 157 [.t 43,.t 44,.t 45]
 (zm 42 46
 (ze 47 42 0
 (ze 48 42 1
 (zm 11 47
 (zm 12 48
 .done)))))))))
def QAR:AT:=(zm 49 12
 (zc .eql 50 49 2
 .done))
def QAQ:AT:=(zm 51 0
 (zm 52 1
 (zm 53 2
 (zk 54 158 [.t 51,.t 52,.t 53]
 .done))))
def QAP:AT:=(zm 55 2
 (zc .sub 56 55 1
 (zm 57 11
 (zm 58 1
 (zb .sub 59 57 58
 (zb .sub 60 56 59
 (zm 11 60
 .done)))))))
def QAO:AT:=(zr 12 (.mov (zi 1))
 .done)
def QAN:AT:=(zm 61 8
 (zm 62 61
 (zmt 63 62 9
 (zq 64 62 63
 (zm 65 64
 (zmt 66 65 12
 (zct .eql 67 65 66 1
 (zq 68 65 67
 .done))))))))
def QAM:AT:=(zm 69 0
 (zm 70 1
 (zm 71 2
 (zk 72 159 [.t 69,.t 70,.t 71]
 .done))))
def QAL:AT:=(zm 73 1
 (zc .gtr 74 73 0
 (zm 75 74
 (zmt 76 75 0
 (zmt 77 75 1
 (zct .sub 78 75 77 1
 (zxt 79 75 1 76 78
 (zlt 80 75 1 79
 (zmt 81 75 0
 (zmt 82 75 11
 (zxt 83 75 1 81 82
 (zlt 84 75 1 83
 (.cl false (some 85) (some (75,true)) (.c (.fn (.func 160) [] [])) [(.t 80),(.t 84)]
 (zt 86 75 (.un .not (.t 85))
 (zq 87 75 86
 .done)))))))))))))))
def QAK:AT:=(zm 88 0
 (zm 89 1
 (zm 90 2
 (zm 91 11
 (zk 92 161 [.t 88,.t 89,.t 90,.t 91]
 (zm 13 92
 .done))))))
def QAJ:AT:=(zm 93 13
 (zm 1 93
 .done))
def QAI:AT:=(zm 95 0
 (zm 96 1
 (zm 97 2
 (zm 98 11
 (zk 99 162 [.t 95,.t 96,.t 97,.t 98]
 (zm 94 99
 (ze 100 94 0
 (ze 101 94 1
 (zm 14 100
 (zm 15 101
 .done))))))))))
def QAH:AT:=(zm 102 15
 (zm 9 102
 .done))
def QAG:AT:=(zm 103 14
 (zm 104 1
 (zb .sub 105 103 104
 (zm 106 2
 (zm 107 14
 (zb .sub 108 106 107
 (zm 16 105
 (zm 17 108
 .done))))))))
def QAF:AT:=(zm 109 10
 (zc .quo 110 109 8
 (zm 18 110
 .done)))
def QAE:AT:=(zm 111 16
 (zm 112 17
 (zb .lss 113 111 112
 .done)))
def QAD:AT:=(zm 114 16
 (zm 115 18
 (zb .geq 116 114 115
 (zm 8 116
 .done))))
def QAC:AT:=(zm 117 0
 (zm 118 1
 (zm 119 14
 (zm 120 3
 (zk 121 141 [.t 117,.t 118,.t 119,.t 120]
 .done)))))
def QAB:AT:=(zm 122 14
 (zc .add 123 122 1
 (zm 1 123
 .done)))
def QAA:AT:=(zm 124 17
 (zm 125 18
 (zb .geq 126 124 125
 (zm 8 126
 .done))))
def QAz:AT:=(zm 127 0
 (zm 128 14
 (zc .add 129 128 1
 (zm 130 2
 (zm 131 3
 (zk 132 141 [.t 127,.t 129,.t 130,.t 131]
 .done))))))
def QAy:AT:=(zm 133 14
 (zm 2 133
 .done))
def Xv:AF:=⟨134,[],
 (zg zq3u_0 []
 (zg zq3u_1 []
 (.block 0 (.loop (.block 1 (zg zq3u_2 [19,20,21]
 (.seq (zg zq3u_3 [22]
 (zw 23
 (zg zq3u_4 [24,25,26,27]
 .ret)
 .skip))
 (.seq (zg zq3u_5 [28]
 (zw 29
 (zg zq3u_6 [30,31,32,33]
 .ret)
 .skip))
 (.seq (zg zq3u_7 [34]
 (zw 35
 (zg zq3u_8 [36,37,38,39]
 (.reg zq3u_9 [40,41]))
 .skip))
 (zg QAS [43,44,45,46,42,47,48]
 (.seq (zg QAR [49]
 (zw 50
 (zg QAQ [51,52,53,54]
 (zg QAP [55,56,57,58,59,60]
 (.reg QAO [])))
 .skip))
 (.seq (zg QAN [61,62,63,64,65,66,67]
 (zw 68
 (zg QAM [69,70,71]
 (zw 72
 .ret
 .skip))
 .skip))
 (.seq (zg QAL [73,74,75,76,77,78,79,80,81,82,83,84,85,86]
 (zw 87
 (zg QAK [88,89,90,91,92]
 (zg QAJ [93]
 (.exit 1)))
 .skip))
 (zg QAI [95,96,97,98,99,94,100,101]
 (zg QAH [102]
 (zg QAG [103,104,105,106,107,108]
 (zg QAF [109,110]
 (zg QAE [111,112]
 (zw 113
 (zg QAD [114,115,116]
 (zg QAC [117,118,119,120,121]
 (.reg QAB [122,123])))
 (zg QAA [124,125,126]
 (zg QAz [127,128,129,130,131,132]
 (.reg QAy [133]))))))))))))))))))))))⟩
abbrev Qbh:Nat:=141
abbrev Qfq:Nat:=142
abbrev Qmq:Nat:=143
abbrev QjJ:Nat:=144
abbrev QhM:Nat:=145
abbrev QiL:Nat:=146
/- slices.Index[[]uint8,uint8] -/
def zq40_0:AT:=(zr 4 (.mov (zi 0))
 .done)
def zq40_1:AT:=(zm 6 0
 (zn 7 0 6
 (zr 8 (.mov (zi 0))
 .done)))
def zq40_2:AT:=(zb .lss 9 8 7
 .done)
def zq40_3:AT:=(zm 10 8
 (zm 5 10
 .done))
def zq40_4:AT:=(zm 11 1
 (zm 12 0
 (zm 13 5
 (zx 14 1 12 13
 (zl 15 1 14
 (zb .eql 16 11 15
 .done))))))
def zq40_5:AT:=(zm 17 5
 (zm 4 17
 .done))
def zq40_6:AT:=(zc .add 18 8 1
 (zm 8 18
 .done))
def zq40_7:AT:=(zr 4 (.mov (.c (.int .i64 (-1))))
 .done)
def XH:AF:=⟨19,[.tmp 4],
 (zg zq40_0 []
 (.seq (zg zq40_1 [6]
 (.block 0 (.loop (zg zq40_2 []
 (.seq (zw 9
 .skip
 (.exit 0))
 (.seq (.block 1 (zg zq40_3 [10]
 (zg zq40_4 [11,12,13,14,15]
 (zw 16
 (zg zq40_5 [17]
 .ret)
 .skip))))
 (.reg zq40_6 [18])))))))
 (zg zq40_7 []
 .ret)))⟩
abbrev QbH:Nat:=147
/- (proofmark/regions.Func).is -/
def zq41_0:AT:=(.wr false (some 3) none (.box 39 (.t 0))
 (.wr false (some 5) none (.box 77 (.t 2))
 (zr 6 (.mov (.c (.bool false)))
 .done)))
def zq41_1:AT:=(zm 7 1
 (zc .geq 8 7 0
 (zm 9 8
 (zmt 10 9 1
 (zat 11 9 2 3
 (zlt 12 9 1 11
 (znt 13 9 0 12
 (zbt .lss 14 9 10 13
 (zq 15 9 14
 (zm 16 15
 (zat 17 16 2 3
 (zlt 18 16 1 17
 (zmt 19 16 1
 (zxt 20 16 5 18 19
 (zt 21 16 (.load true 5 (.t 20))
 (zt 22 16 (.load true 5 (.t 5))
 (zt 23 16 (.eqs false [.i,.i,.i,.i,.i] (.t 21) (.t 22))
 (zq 24 16 23
 (zm 6 24
 .done)))))))))))))))))))
def Qbf:AF:=⟨25,[.tmp 6],
 (zg zq41_0 []
 (zg zq41_1 [7,8,9,10,11,12,13,14,15,16,17,18,19,20,21,22,23,24]
 .ret))⟩
abbrev QhI:Nat:=148
/- slices.Sort[[]uint8,uint8] -/
def zq42_0:AT:=(zm 3 0
 (zn 4 0 3
 (zm 2 4
 .done)))
def zq42_1:AT:=(zm 5 0
 (zm 6 2
 (zm 7 2
 (zr 8 (.conv .u64 (.t 7))
 (zk 9 54 [.t 8]
 (zk 10 167 [.t 5,(zi 0),.t 6,.t 9]
 .done))))))
def XQ:AF:=⟨11,[],
 (zg zq42_0 [3,4]
 (.reg zq42_1 [5,6,7,8,9,10]))⟩
abbrev Qcg:Nat:=149
/- slices.Compact[[]uint8,uint8] -/
def zq43_0:AT:=(zr 2 (.mov (.c (.lst 0 [] true)))
 .done)
def zq43_1:AT:=(zm 6 0
 (zn 7 0 6
 (zc .lss 8 7 2
 .done)))
def zq43_2:AT:=(zm 9 0
 (zm 2 9
 .done))
def zq43_3:AT:=(zr 3 (.mov (zi 1))
 .done)
def zq43_4:AT:=(zm 10 3
 (zm 11 0
 (zn 12 0 11
 (zb .lss 13 10 12
 .done))))
def zq43_5:AT:=(zm 16 0
 (zm 17 3
 (zx 18 1 16 17
 (zl 19 1 18
 (zm 20 0
 (zm 21 3
 (zc .sub 22 21 1
 (zx 23 1 20 22
 (zl 24 1 23
 (zb .eql 25 19 24
 .done))))))))))
def zq43_6:AT:=(zm 26 0
 (zm 27 3
 (zr 28 (.slc 1 (.t 26) (some (.t 27)) none none)
 (zm 4 28
 .done))))
def zq43_7:AT:=(zr 5 (.mov (zi 1))
 .done)
def zq43_8:AT:=(zm 29 5
 (zm 30 4
 (zn 31 0 30
 (zb .lss 32 29 31
 .done))))
def zq43_9:AT:=(zm 35 4
 (zm 36 5
 (zx 37 1 35 36
 (zl 38 1 37
 (zm 39 4
 (zm 40 5
 (zc .sub 41 40 1
 (zx 42 1 39 41
 (zl 43 1 42
 (zb .neq 44 38 43
 .done))))))))))
def QAx:AT:=(zm 45 0
 (zm 46 3
 (zm 47 4
 (zm 48 5
 (zx 49 1 47 48
 (zl 50 1 49
 (zx 51 1 45 46
 (zs 1 51 50
 .done))))))))
def QAw:AT:=(zm 52 3
 (zc .add 53 52 1
 (zm 3 53
 .done)))
def QAv:AT:=(zm 33 5
 (zc .add 34 33 1
 (zm 5 34
 .done)))
def QAu:AT:=(zm 54 0
 (zm 55 3
 (zr 56 (.slc 1 (.t 54) (some (.t 55)) none none)
 (.wr false none none (.clr 1 [(.int .u8 0)] (.t 56))
 .done))))
def QAt:AT:=(zm 57 0
 (zm 58 3
 (zr 59 (.slc 1 (.t 57) none (some (.t 58)) none)
 (zm 2 59
 .done))))
def QAs:AT:=(zm 14 3
 (zc .add 15 14 1
 (zm 3 15
 .done)))
def QAr:AT:=(zm 60 0
 (zm 2 60
 .done))
def Xn:AF:=⟨61,[.tmp 2],
 (zg zq43_0 []
 (.seq (zg zq43_1 [6,7]
 (zw 8
 (zg zq43_2 [9]
 .ret)
 .skip))
 (.seq (zg zq43_3 []
 (.block 0 (.loop (.seq (zg zq43_4 [10,11,12]
 (zw 13
 .skip
 (.exit 0)))
 (.seq (.block 1 (zg zq43_5 [16,17,18,19,20,21,22,23,24]
 (zw 25
 (zg zq43_6 [26,27,28]
 (.seq (zg zq43_7 []
 (.block 2 (.loop (.seq (zg zq43_8 [29,30,31]
 (zw 32
 .skip
 (.exit 2)))
 (.seq (.block 3 (zg zq43_9 [35,36,37,38,39,40,41,42,43]
 (zw 44
 (zg QAx [45,46,47,48,49,50,51]
 (.reg QAw [52,53]))
 .skip)))
 (.reg QAv [33,34]))))))
 (zg QAu [54,55,56]
 (zg QAt [57,58,59]
 .ret))))
 .skip)))
 (.reg QAs [14,15]))))))
 (zg QAr [60]
 .ret))))⟩
abbrev QaW:Nat:=150
/- slices.DeleteFunc[[]uint8,uint8] -/
def zq44_0:AT:=(zr 4 (.mov (.c (.lst 0 [] true)))
 .done)
def zq44_1:AT:=(zm 8 0
 (zm 9 1
 (zk 10 168 [.t 8,.t 9]
 (zm 5 10
 .done))))
def zq44_2:AT:=(zm 11 5
 (zr 12 (.bin .eql (.t 11) (.c (.int .i64 (-1))))
 .done))
def zq44_3:AT:=(zm 13 0
 (zm 4 13
 .done))
def zq44_4:AT:=(zm 14 5
 (zc .add 15 14 1
 (zm 6 15
 .done)))
def zq44_5:AT:=(zm 16 6
 (zm 17 0
 (zn 18 0 17
 (zb .lss 19 16 18
 .done))))
def zq44_6:AT:=(zm 22 0
 (zm 23 6
 (zx 24 1 22 23
 (zl 25 1 24
 (zm 7 25
 .done)))))
def zq44_7:AT:=(zm 26 1
 (zm 27 7
 (.cl false (some 28) none (.t 26) [(.t 27)]
 (zr 29 (.un .not (.t 28))
 .done))))
def zq44_8:AT:=(zm 30 0
 (zm 31 5
 (zm 32 7
 (zx 33 1 30 31
 (zs 1 33 32
 .done)))))
def zq44_9:AT:=(zm 34 5
 (zc .add 35 34 1
 (zm 5 35
 .done)))
def QAq:AT:=(zm 20 6
 (zc .add 21 20 1
 (zm 6 21
 .done)))
def QAp:AT:=(zm 36 0
 (zm 37 5
 (zr 38 (.slc 1 (.t 36) (some (.t 37)) none none)
 (.wr false none none (.clr 1 [(.int .u8 0)] (.t 38))
 .done))))
def QAo:AT:=(zm 39 0
 (zm 40 5
 (zr 41 (.slc 1 (.t 39) none (some (.t 40)) none)
 (zm 4 41
 .done))))
def Xg:AF:=⟨42,[.tmp 4],
 (zg zq44_0 []
 (zg zq44_1 [8,9,10]
 (.seq (zg zq44_2 [11]
 (zw 12
 (zg zq44_3 [13]
 .ret)
 .skip))
 (.seq (zg zq44_4 [14,15]
 (.block 0 (.loop (.seq (zg zq44_5 [16,17,18]
 (zw 19
 .skip
 (.exit 0)))
 (.seq (.block 1 (zg zq44_6 [22,23,24,25]
 (zg zq44_7 [26,27,28]
 (zw 29
 (zg zq44_8 [30,31,32,33]
 (.reg zq44_9 [34,35]))
 .skip))))
 (.reg QAq [20,21]))))))
 (zg QAp [36,37,38]
 (zg QAo [39,40,41]
 .ret))))))⟩
abbrev ZZ:Nat:=151
/- proofmark/rv.Reads$1 -/
def zq45_0:AT:=(zr 2 (.mov (.c (.bool false)))
 .done)
def zq45_1:AT:=(zm 3 0
 (zr 4 (.bin .eql (.t 3) (zu 0))
 (zm 2 4
 .done)))
def Qf3:AF:=⟨5,[.tmp 2],
 (zg zq45_0 []
 (zg zq45_1 [3,4]
 .ret))⟩
abbrev QmZ:Nat:=152
/- slices.IndexFunc[[]int,int] -/
def zq46_0:AT:=(zr 4 (.mov (zi 0))
 .done)
def zq46_1:AT:=(zm 6 0
 (zn 7 0 6
 (zr 8 (.mov (zi 0))
 .done)))
def zq46_2:AT:=(zb .lss 9 8 7
 .done)
def zq46_3:AT:=(zm 10 8
 (zm 5 10
 .done))
def zq46_4:AT:=(zm 11 1
 (zm 12 0
 (zm 13 5
 (zx 14 1 12 13
 (zl 15 1 14
 (.cl false (some 16) none (.t 11) [(.t 15)]
 .done))))))
def zq46_5:AT:=(zm 17 5
 (zm 4 17
 .done))
def zq46_6:AT:=(zc .add 18 8 1
 (zm 8 18
 .done))
def zq46_7:AT:=(zr 4 (.mov (.c (.int .i64 (-1))))
 .done)
def XI:AF:=⟨19,[.tmp 4],
 (zg zq46_0 []
 (.seq (zg zq46_1 [6]
 (.block 0 (.loop (zg zq46_2 []
 (.seq (zw 9
 .skip
 (.exit 0))
 (.seq (.block 1 (zg zq46_3 [10]
 (zg zq46_4 [11,12,13,14,15]
 (zw 16
 (zg zq46_5 [17]
 .ret)
 .skip))))
 (.reg zq46_6 [18])))))))
 (zg zq46_7 []
 .ret)))⟩
abbrev QbI:Nat:=153
/- slices.insertionSortOrdered[int] -/
def zq47_0:AT:=(zm 8 1
 (zc .add 9 8 1
 (zm 6 9
 .done)))
def zq47_1:AT:=(zm 10 6
 (zm 11 2
 (zb .lss 12 10 11
 .done)))
def zq47_2:AT:=(zm 15 6
 (zm 7 15
 .done))
def zq47_3:AT:=(zm 16 7
 (zm 17 1
 (zb .gtr 18 16 17
 (zm 19 18
 (zmt 20 19 0
 (zmt 21 19 7
 (zxt 22 19 1 20 21
 (zlt 23 19 1 22
 (zmt 24 19 0
 (zmt 25 19 7
 (zct .sub 26 19 25 1
 (zxt 27 19 1 24 26
 (zlt 28 19 1 27
 (.cl false (some 29) (some (19,true)) (.c (.fn (.func 160) [] [])) [(.t 23),(.t 28)]
 (zq 30 19 29
 .done)))))))))))))))
def zq47_4:AT:=(zm 33 0
 (zm 34 7
 (zm 35 0
 (zm 36 7
 (zc .sub 37 36 1
 (zm 38 0
 (zm 39 7
 (zc .sub 40 39 1
 (zx 41 1 38 40
 (zl 42 1 41
 (zm 43 0
 (zm 44 7
 (zx 45 1 43 44
 (zl 46 1 45
 (zx 47 1 33 34
 (zs 1 47 42
 (zx 48 1 35 37
 (zs 1 48 46
 .done))))))))))))))))))
def zq47_5:AT:=(zm 31 7
 (zc .sub 32 31 1
 (zm 7 32
 .done)))
def zq47_6:AT:=(zm 13 6
 (zc .add 14 13 1
 (zm 6 14
 .done)))
def Q7:AF:=⟨49,[],
 (zg zq47_0 [8,9]
 (.block 0 (.loop (.seq (zg zq47_1 [10,11]
 (zw 12
 .skip
 (.exit 0)))
 (.seq (.block 1 (zg zq47_2 [15]
 (.block 2 (.loop (.seq (zg zq47_3 [16,17,18,19,20,21,22,23,24,25,26,27,28,29]
 (zw 30
 .skip
 (.exit 2)))
 (.seq (.block 3 (.reg zq47_4 [33,34,35,36,37,38,39,40,41,42,43,44,45,46,47,48]))
 (.reg zq47_5 [31,32])))))))
 (.reg zq47_6 [13,14]))))))⟩
abbrev Zy:Nat:=154
abbrev QjG:Nat:=155
abbrev QgX:Nat:=156
abbrev QhH:Nat:=157
abbrev Qht:Nat:=158
abbrev Qek:Nat:=159
/- cmp.Less[int] -/
def zq4d_0:AT:=(zr 4 (.mov (.c (.bool false)))
 .done)
def zq4d_1:AT:=(zm 5 0
 (zk 6 79 [.t 5]
 (zm 7 6
 (zmt 8 7 1
 (.cl false (some 9) (some (7,true)) (.c (.fn (.func 79) [] [])) [(.t 8)]
 (zt 10 7 (.un .not (.t 9))
 (zq 11 7 10
 (zm 12 11
 (zmf 13 12 0
 (zmf 14 12 1
 (zbf .lss 15 12 13 14
 (zp 16 12 15
 (zm 4 16
 .done)))))))))))))
def cmp_Less_int:AF:=⟨17,[.tmp 4],
 (zg zq4d_0 []
 (zg zq4d_1 [5,6,7,8,9,10,11,12,13,14,15,16]
 .ret))⟩
abbrev QlF:Nat:=160
abbrev Qgz:Nat:=161
abbrev QiK:Nat:=162
abbrev QjK:Nat:=163
abbrev QjL:Nat:=164
abbrev QhL:Nat:=165
abbrev QlD:Nat:=166
/- slices.pdqsortOrdered[uint8] -/
def zq4k_0:AT:=(zr 8 (.mov (.c (.bool true)))
 .done)
def zq4k_1:AT:=(zr 9 (.mov (.c (.bool true)))
 .done)
def zq4k_2:AT:=(zm 19 2
 (zm 20 1
 (zb .sub 21 19 20
 (zm 10 21
 .done))))
def zq4k_3:AT:=(zm 22 10
 (zc .leq 23 22 12
 .done))
def zq4k_4:AT:=(zm 24 0
 (zm 25 1
 (zm 26 2
 (zk 27 174 [.t 24,.t 25,.t 26]
 .done))))
def zq4k_5:AT:=(zm 28 3
 (zc .eql 29 28 0
 .done))
def zq4k_6:AT:=(zm 30 0
 (zm 31 1
 (zm 32 2
 (zk 33 175 [.t 30,.t 31,.t 32]
 .done))))
def zq4k_7:AT:=(zm 34 8
 (zr 35 (.un .not (.t 34))
 .done))
def zq4k_8:AT:=(zm 36 0
 (zm 37 1
 (zm 38 2
 (zk 39 176 [.t 36,.t 37,.t 38]
 .done))))
def zq4k_9:AT:=(zm 40 3
 (zc .sub 41 40 1
 (zm 3 41
 .done)))
def QAn:AT:=(zm 43 0
 (zm 44 1
 (zm 45 2
 (zk 46 177 [.t 43,.t 44,.t 45]
 (zm 42 46
 (ze 47 42 0
 (ze 48 42 1
 (zm 11 47
 (zm 12 48
 .done)))))))))
def QAm:AT:=(zm 49 12
 (zc .eql 50 49 2
 .done))
def QAl:AT:=(zm 51 0
 (zm 52 1
 (zm 53 2
 (zk 54 178 [.t 51,.t 52,.t 53]
 .done))))
def QAk:AT:=(zm 55 2
 (zc .sub 56 55 1
 (zm 57 11
 (zm 58 1
 (zb .sub 59 57 58
 (zb .sub 60 56 59
 (zm 11 60
 .done)))))))
def QAj:AT:=(zr 12 (.mov (zi 1))
 .done)
def QAi:AT:=(zm 61 8
 (zm 62 61
 (zmt 63 62 9
 (zq 64 62 63
 (zm 65 64
 (zmt 66 65 12
 (zct .eql 67 65 66 1
 (zq 68 65 67
 .done))))))))
def QAh:AT:=(zm 69 0
 (zm 70 1
 (zm 71 2
 (zk 72 179 [.t 69,.t 70,.t 71]
 .done))))
def QAg:AT:=(zm 73 1
 (zc .gtr 74 73 0
 (zm 75 74
 (zmt 76 75 0
 (zmt 77 75 1
 (zct .sub 78 75 77 1
 (zxt 79 75 1 76 78
 (zlt 80 75 1 79
 (zmt 81 75 0
 (zmt 82 75 11
 (zxt 83 75 1 81 82
 (zlt 84 75 1 83
 (.cl false (some 85) (some (75,true)) (.c (.fn (.func 180) [] [])) [(.t 80),(.t 84)]
 (zt 86 75 (.un .not (.t 85))
 (zq 87 75 86
 .done)))))))))))))))
def QAf:AT:=(zm 88 0
 (zm 89 1
 (zm 90 2
 (zm 91 11
 (zk 92 181 [.t 88,.t 89,.t 90,.t 91]
 (zm 13 92
 .done))))))
def QAe:AT:=(zm 93 13
 (zm 1 93
 .done))
def QAd:AT:=(zm 95 0
 (zm 96 1
 (zm 97 2
 (zm 98 11
 (zk 99 182 [.t 95,.t 96,.t 97,.t 98]
 (zm 94 99
 (ze 100 94 0
 (ze 101 94 1
 (zm 14 100
 (zm 15 101
 .done))))))))))
def QAc:AT:=(zm 102 15
 (zm 9 102
 .done))
def QAb:AT:=(zm 103 14
 (zm 104 1
 (zb .sub 105 103 104
 (zm 106 2
 (zm 107 14
 (zb .sub 108 106 107
 (zm 16 105
 (zm 17 108
 .done))))))))
def QAa:AT:=(zm 109 10
 (zc .quo 110 109 8
 (zm 18 110
 .done)))
def Qz9:AT:=(zm 111 16
 (zm 112 17
 (zb .lss 113 111 112
 .done)))
def Qz8:AT:=(zm 114 16
 (zm 115 18
 (zb .geq 116 114 115
 (zm 8 116
 .done))))
def Qz7:AT:=(zm 117 0
 (zm 118 1
 (zm 119 14
 (zm 120 3
 (zk 121 167 [.t 117,.t 118,.t 119,.t 120]
 .done)))))
def Qz6:AT:=(zm 122 14
 (zc .add 123 122 1
 (zm 1 123
 .done)))
def Qz5:AT:=(zm 124 17
 (zm 125 18
 (zb .geq 126 124 125
 (zm 8 126
 .done))))
def Qz4:AT:=(zm 127 0
 (zm 128 14
 (zc .add 129 128 1
 (zm 130 2
 (zm 131 3
 (zk 132 167 [.t 127,.t 129,.t 130,.t 131]
 .done))))))
def Qz3:AT:=(zm 133 14
 (zm 2 133
 .done))
def Xl:AF:=⟨134,[],
 (zg zq4k_0 []
 (zg zq4k_1 []
 (.block 0 (.loop (.block 1 (zg zq4k_2 [19,20,21]
 (.seq (zg zq4k_3 [22]
 (zw 23
 (zg zq4k_4 [24,25,26,27]
 .ret)
 .skip))
 (.seq (zg zq4k_5 [28]
 (zw 29
 (zg zq4k_6 [30,31,32,33]
 .ret)
 .skip))
 (.seq (zg zq4k_7 [34]
 (zw 35
 (zg zq4k_8 [36,37,38,39]
 (.reg zq4k_9 [40,41]))
 .skip))
 (zg QAn [43,44,45,46,42,47,48]
 (.seq (zg QAm [49]
 (zw 50
 (zg QAl [51,52,53,54]
 (zg QAk [55,56,57,58,59,60]
 (.reg QAj [])))
 .skip))
 (.seq (zg QAi [61,62,63,64,65,66,67]
 (zw 68
 (zg QAh [69,70,71]
 (zw 72
 .ret
 .skip))
 .skip))
 (.seq (zg QAg [73,74,75,76,77,78,79,80,81,82,83,84,85,86]
 (zw 87
 (zg QAf [88,89,90,91,92]
 (zg QAe [93]
 (.exit 1)))
 .skip))
 (zg QAd [95,96,97,98,99,94,100,101]
 (zg QAc [102]
 (zg QAb [103,104,105,106,107,108]
 (zg QAa [109,110]
 (zg Qz9 [111,112]
 (zw 113
 (zg Qz8 [114,115,116]
 (zg Qz7 [117,118,119,120,121]
 (.reg Qz6 [122,123])))
 (zg Qz5 [124,125,126]
 (zg Qz4 [127,128,129,130,131,132]
 (.reg Qz3 [133]))))))))))))))))))))))⟩
abbrev QaF:Nat:=167
/- slices.IndexFunc[[]uint8,uint8] -/
def zq4l_0:AT:=(zr 4 (.mov (zi 0))
 .done)
def zq4l_1:AT:=(zm 6 0
 (zn 7 0 6
 (zr 8 (.mov (zi 0))
 .done)))
def zq4l_2:AT:=(zb .lss 9 8 7
 .done)
def zq4l_3:AT:=(zm 10 8
 (zm 5 10
 .done))
def zq4l_4:AT:=(zm 11 1
 (zm 12 0
 (zm 13 5
 (zx 14 1 12 13
 (zl 15 1 14
 (.cl false (some 16) none (.t 11) [(.t 15)]
 .done))))))
def zq4l_5:AT:=(zm 17 5
 (zm 4 17
 .done))
def zq4l_6:AT:=(zc .add 18 8 1
 (zm 8 18
 .done))
def zq4l_7:AT:=(zr 4 (.mov (.c (.int .i64 (-1))))
 .done)
def Xj:AF:=⟨19,[.tmp 4],
 (zg zq4l_0 []
 (.seq (zg zq4l_1 [6]
 (.block 0 (.loop (zg zq4l_2 []
 (.seq (zw 9
 .skip
 (.exit 0))
 (.seq (.block 1 (zg zq4l_3 [10]
 (zg zq4l_4 [11,12,13,14,15]
 (zw 16
 (zg zq4l_5 [17]
 .ret)
 .skip))))
 (.reg zq4l_6 [18])))))))
 (zg zq4l_7 []
 .ret)))⟩
abbrev Qaj:Nat:=168
abbrev QjD:Nat:=169
abbrev QgC:Nat:=170
abbrev Qls:Nat:=171
abbrev Qkq:Nat:=172
abbrev Qkp:Nat:=173
/- slices.insertionSortOrdered[uint8] -/
def zq4r_0:AT:=(zm 8 1
 (zc .add 9 8 1
 (zm 6 9
 .done)))
def zq4r_1:AT:=(zm 10 6
 (zm 11 2
 (zb .lss 12 10 11
 .done)))
def zq4r_2:AT:=(zm 15 6
 (zm 7 15
 .done))
def zq4r_3:AT:=(zm 16 7
 (zm 17 1
 (zb .gtr 18 16 17
 (zm 19 18
 (zmt 20 19 0
 (zmt 21 19 7
 (zxt 22 19 1 20 21
 (zlt 23 19 1 22
 (zmt 24 19 0
 (zmt 25 19 7
 (zct .sub 26 19 25 1
 (zxt 27 19 1 24 26
 (zlt 28 19 1 27
 (.cl false (some 29) (some (19,true)) (.c (.fn (.func 180) [] [])) [(.t 23),(.t 28)]
 (zq 30 19 29
 .done)))))))))))))))
def zq4r_4:AT:=(zm 33 0
 (zm 34 7
 (zm 35 0
 (zm 36 7
 (zc .sub 37 36 1
 (zm 38 0
 (zm 39 7
 (zc .sub 40 39 1
 (zx 41 1 38 40
 (zl 42 1 41
 (zm 43 0
 (zm 44 7
 (zx 45 1 43 44
 (zl 46 1 45
 (zx 47 1 33 34
 (zs 1 47 42
 (zx 48 1 35 37
 (zs 1 48 46
 .done))))))))))))))))))
def zq4r_5:AT:=(zm 31 7
 (zc .sub 32 31 1
 (zm 7 32
 .done)))
def zq4r_6:AT:=(zm 13 6
 (zc .add 14 13 1
 (zm 6 14
 .done)))
def QZ:AF:=⟨49,[],
 (zg zq4r_0 [8,9]
 (.block 0 (.loop (.seq (zg zq4r_1 [10,11]
 (zw 12
 .skip
 (.exit 0)))
 (.seq (.block 1 (zg zq4r_2 [15]
 (.block 2 (.loop (.seq (zg zq4r_3 [16,17,18,19,20,21,22,23,24,25,26,27,28,29]
 (zw 30
 .skip
 (.exit 2)))
 (.seq (.block 3 (.reg zq4r_4 [33,34,35,36,37,38,39,40,41,42,43,44,45,46,47,48]))
 (.reg zq4r_5 [31,32])))))))
 (.reg zq4r_6 [13,14]))))))⟩
abbrev Y4:Nat:=174
abbrev Qiw:Nat:=175
abbrev Qf6:Nat:=176
abbrev QgW:Nat:=177
abbrev Qgy:Nat:=178
abbrev QdM:Nat:=179
/- cmp.Less[uint8] -/
def zq4x_0:AT:=(zr 4 (.mov (.c (.bool false)))
 .done)
def zq4x_1:AT:=(zm 5 0
 (zk 6 80 [.t 5]
 (zm 7 6
 (zmt 8 7 1
 (.cl false (some 9) (some (7,true)) (.c (.fn (.func 80) [] [])) [(.t 8)]
 (zt 10 7 (.un .not (.t 9))
 (zq 11 7 10
 (zm 12 11
 (zmf 13 12 0
 (zmf 14 12 1
 (zbf .lss 15 12 13 14
 (zp 16 12 15
 (zm 4 16
 .done)))))))))))))
def Qct:AF:=⟨17,[.tmp 4],
 (zg zq4x_0 []
 (zg zq4x_1 [5,6,7,8,9,10,11,12,13,14,15,16]
 .ret))⟩
abbrev QiS:Nat:=180
abbrev QfO:Nat:=181
abbrev QhG:Nat:=182
abbrev Qlr:Nat:=183
abbrev Qiv:Nat:=184
abbrev QfP:Nat:=185
abbrev QjF:Nat:=186
abbrev QjE:Nat:=187
abbrev QsG:Nat:=216
def tab0:Nat→Option AF
 | 4=>some Qd
 | 8=>some proofmarklaw25_works
 | 9=>some Xh
 | 11=>some Q8
 | 12=>some Zw
 | 14=>some Qbe
 | 16=>some Zv
 | 17=>some XR
 | 18=>some QgF
 | 19=>some relate_Fresh
 | 20=>some QcT
 | 24=>some QcX
 | 25=>some QgV
 | 29=>some Qq
 | 30=>some QK
 | 32=>some Ql
 | 34=>some QcR
 | 35=>some Qh
 | 36=>some YY
 | 37=>some Qm
 | 38=>some XV
 | 39=>some QhD
 | 40=>some Zx
 | 41=>some Yv
 | 42=>some QW
 | 43=>some Qv
 | 44=>some QE
 | 45=>some Yu
 | 46=>some YW
 | 50=>some Zz
 | 54=>some Qdp
 | 59=>some Qi
 | 60=>some Qgg
 | 61=>some Qex
 | 62=>some Qbd
 | 63=>some Xo
 | 64=>some YV
 | 65=>some QcK
 | 66=>some QcL
 | 68=>some Zr
 | _=>none
def tab1:Nat→Option AF
 | 77=>some Qbl
 | 78=>some Qbk
 | 79=>some cmp_isNaN_int
 | 80=>some QbC
 | 82=>some Qco
 | 83=>some Qcn
 | 84=>some Qcm
 | 85=>some Qcl
 | 86=>some Qck
 | 87=>some QL
 | 88=>some QM
 | 89=>some Qcj
 | 90=>some QeN
 | 91=>some Qev
 | 92=>some Qdi
 | 93=>some YR
 | 94=>some ZV
 | 95=>some QtV
 | 96=>some Qah
 | 97=>some Qag
 | 98=>some Qbc
 | 99=>some Qce
 | 100=>some Qeq
 | 101=>some ZR
 | 102=>some strconv_Itoa
 | 103=>some Qep
 | 109=>some QQ
 | 110=>some QR
 | 111=>some QmQ
 | 112=>some Qy
 | 113=>some Zj
 | 114=>some YX
 | 115=>some QcP
 | 116=>some ZU
 | 117=>some YP
 | 118=>some Yw
 | 119=>some Y1
 | 120=>some ZW
 | 121=>some Y0
 | 122=>some Zt
 | 127=>some QmP
 | 128=>some YQ
 | 129=>some Xm
 | 130=>some Yx
 | 131=>some Qke
 | 132=>some QmR
 | 133=>some Qdh
 | 134=>some Y2
 | 135=>some XJ
 | 136=>some ZX
 | 137=>some QaB
 | 138=>some Xw
 | 139=>some X4
 | 140=>some YS
 | 141=>some Xv
 | _=>none
def tab2:Nat→Option AF
 | 147=>some XH
 | 148=>some Qbf
 | 149=>some XQ
 | 150=>some Xn
 | 151=>some Xg
 | 152=>some Qf3
 | 153=>some XI
 | 154=>some Q7
 | 160=>some cmp_Less_int
 | 167=>some Xl
 | 168=>some Xj
 | 174=>some QZ
 | 180=>some Qct
 | _=>none
def tab (f:Nat):Option AF:=if f<73 then tab0 f else if f<143 then tab1 f else tab2 f
theorem QaV:tab Yl=some Qd:=rfl
theorem QC:tab X7=some proofmarklaw25_works:=rfl
theorem QD:tab ZK=some Xh:=rfl
theorem Xd:tab Qak=some Q8:=rfl
theorem Xc:tab Qbj=some Zw:=rfl
theorem Xq:tab Qg0=some Qbe:=rfl
theorem QY:tab QeF=some Zv:=rfl
theorem Qcb:tab QT=some XR:=rfl
theorem Qmg:tab Qmn=some QgF:=rfl
theorem Qca:tab Qac=some relate_Fresh:=rfl
theorem QbV:tab Qiz=some QcT:=rfl
theorem Qio:tab QeJ=some QcX:=rfl
theorem Qhy:tab Qmp=some QgV:=rfl
theorem Xe:tab Xf=some Qq:=rfl
theorem X3:tab Q6=some QK:=rfl
theorem QG:tab Q9=some Ql:=rfl
theorem Qer:tab Qix=some QcR:=rfl
theorem Qz:tab Q0=some Qh:=rfl
theorem QdJ:tab QdP=some YY:=rfl
theorem QV:tab QX=some Qm:=rfl
theorem QbU:tab Qb0=some XV:=rfl
theorem Qy6:tab Qn4=some QhD:=rfl
theorem Qpi:tab Qfr=some Zx:=rfl
theorem QcM:tab QcV=some Yv:=rfl
theorem QfJ:tab QfT=some QW:=rfl
theorem XN:tab XP=some Qv:=rfl
theorem Qo:tab XO=some QE:=rfl
theorem QO:tab Z0=some Yu:=rfl
theorem Qaz:tab QaE=some YW:=rfl
theorem Qba:tab QeI=some Zz:=rfl
theorem QtI:tab Qkr=some Qdp:=rfl
theorem Qs:tab QB=some Qi:=rfl
theorem QvQ:tab Qm4=some Qgg:=rfl
theorem Qvf:tab QlC=some Qex:=rfl
theorem Qf0:tab Qf7=some Qbd:=rfl
theorem Qin:tab Qiy=some Xo:=rfl
theorem QdH:tab QdK=some YV:=rfl
theorem Qik:tab Qit=some QcK:=rfl
theorem Qil:tab Qiu=some QcL:=rfl
theorem Qa9:tab QeA=some Zr:=rfl
theorem QrI:tab QhK=some Qbl:=rfl
theorem QrH:tab QhJ=some Qbk:=rfl
theorem QtJ:tab Qks=some cmp_isNaN_int:=rfl
theorem QrJ:tab QhN=some QbC:=rfl
theorem QsD:tab QiR=some Qco:=rfl
theorem QsC:tab QiQ=some Qcn:=rfl
theorem QsB:tab QiP=some Qcm:=rfl
theorem QsA:tab QiO=some Qcl:=rfl
theorem Qsz:tab QiN=some Qck:=rfl
theorem QdR:tab X5=some QL:=rfl
theorem QdS:tab X6=some QM:=rfl
theorem Qsy:tab QiM=some Qcj:=rfl
theorem Qvg:tab QlE=some QeN:=rfl
theorem Qj4:tab Qf8=some Qev:=rfl
theorem QtH:tab Qkn=some Qdi:=rfl
theorem QnE:tab QdX=some YR:=rfl
theorem Qps:tab Qga=some ZV:=rfl
theorem Qpq:tab Qua=some QtV:=rfl
theorem Z9:tab QfR=some Qah:=rfl
theorem QfI:tab Qch=some Qag:=rfl
theorem QgI:tab QgZ=some Qbc:=rfl
theorem QiI:tab QdO=some Qce:=rfl
theorem Qj1:tab Qkl=some Qeq:=rfl
theorem QfY:tab Y3=some ZR:=rfl
theorem Qlv:tab Qcf=some strconv_Itoa:=rfl
theorem Qj0:tab Qkk=some Qep:=rfl
theorem Qfa:tab YC=some QQ:=rfl
theorem Qfb:tab YD=some QR:=rfl
theorem Qmi:tab Qmo=some QmQ:=rfl
theorem XE:tab XF=some Qy:=rfl
theorem Qb9:tab QfS=some Zj:=rfl
theorem QdI:tab QaH=some YX:=rfl
theorem Qaf:tab QeE=some QcP:=rfl
theorem Qpr:tab Qf9=some ZU:=rfl
theorem QnC:tab QdV=some YP:=rfl
theorem QmJ:tab Qdm=some Yw:=rfl
theorem QnS:tab QeG=some Y1:=rfl
theorem Qpt:tab Qgb=some ZW:=rfl
theorem QnR:tab QeC=some Y0:=rfl
theorem Zs:tab QeD=some Zt:=rfl
theorem QDk:tab QrW=some QmP:=rfl
theorem QnD:tab QdW=some YQ:=rfl
theorem QiH:tab QaG=some Xm:=rfl
theorem QmK:tab Qdn=some Yx:=rfl
theorem QBV:tab QpM=some Qke:=rfl
theorem QDl:tab QrX=some QmR:=rfl
theorem QtG:tab Qkm=some Qdh:=rfl
theorem QnT:tab QeH=some Y2:=rfl
theorem Qlq:tab QbJ=some XJ:=rfl
theorem Qpu:tab Qgc=some ZX:=rfl
theorem QqF:tab Qg1=some QaB:=rfl
theorem Qj3:tab Qbi=some Xw:=rfl
theorem Qmh:tab QcU=some X4:=rfl
theorem QnF:tab QdY=some YS:=rfl
theorem Qj2:tab Qbh=some Xv:=rfl
theorem Qlo:tab QbH=some XH:=rfl
theorem QrG:tab QhI=some Qbf:=rfl
theorem Qlw:tab Qcg=some XQ:=rfl
theorem Qjx:tab QaW=some Xn:=rfl
theorem Qhx:tab ZZ=some Xg:=rfl
theorem QvP:tab QmZ=some Qf3:=rfl
theorem Qlp:tab QbI=some XI:=rfl
theorem QgH:tab Zy=some Q7:=rfl
theorem Qvh:tab QlF=some cmp_Less_int:=rfl
theorem QiG:tab QaF=some Xl:=rfl
theorem Qim:tab Qaj=some Xj:=rfl
theorem QfZ:tab Y4=some QZ:=rfl
theorem QsE:tab QiS=some Qct:=rfl
end Go.Proofs.YtfgccihafnjalaaGreatDoor
