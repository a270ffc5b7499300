/- The translations of the functions, by a program of mine. -/
import Derived.Test.YtingdebioipemaaGreatDoorTabA
namespace Go.Proofs.YtingdebioipemaaGreatDoor
open Go Go.Am
set_option maxRecDepth 100000
set_option maxHeartbeats 4000000
def QrN:AT:=mkt 0x2f2b00e0
def QrM:AT:=mkt 0x3a4b881827f9eea59949c96980328
def XH:AF:=⟨8,[.tmp 4],
 (zg QrN []
 (zg QrM [5,6,7]
 .ret))⟩
abbrev ZW:Nat:=48
def QrL:AT:=mkt 0x2f2b00d8
def QrK:AT:=mkt 0x284082a86c7a6a33bc736e6185da843e0
def XK:AF:=⟨8,[.tmp 3],
 (zg QrL []
 (zg QrK [4,5,6,7]
 .ret))⟩
abbrev ZZ:Nat:=49
def QrJ:AT:=mkt 0x603900e0
def QrI:AT:=mkt 0x5345ec869c091ab8b117296980340
def QrH:AT:=mkt 0x5a54e024ffb81d8
def QrG:AT:=mkt 0x96709fd701e8
def QrF:AT:=mkt 0x1a8210c14a946b6382b0
def QrE:AT:=mkt 0x322304a935f48ce290380
def QrD:AT:=mkt 0x2cb1e7ead26ccbf2f70b7b006f1
def QrC:AT:=mkt 0x10da690994e11d2a85d1
def QrB:AT:=mkt 0x4f4e0234c0a963dcbde27e80731
def QrA:AT:=mkt 0x1c03550b6446b7a7084d1
def Qmm:AT:=mkt 0x251b807dc1806c5502e0
def Qml:AT:=mkt 0x15453c239aa20a87ae67e80621
def Qmk:AT:=mkt 0xf59181c3537558d5540093a
def Qx:AF:=⟨42,[.tmp 4],
 (zg QrJ []
 (zg QrI [8,9,10]
 (.seq (zg QrH [11]
 (zw 12
 (zg QrG [13]
 .ret)
 .skip))
 (.seq (zg QrF [14,15]
 (.block 0 (.loop (.seq (zg QrE [16,17,18]
 (zw 19
 .skip
 (.exit 0)))
 (.seq (.block 1 (zg QrD [22,23,24,25]
 (zg QrC [26,27,28]
 (zw 29
 (zg QrB [30,31,32,33]
 (.reg QrA [34,35]))
 .skip))))
 (.reg Qmm [20,21]))))))
 (zg Qml [36,37,38]
 (zg Qmk [39,40,41]
 .ret))))))⟩
abbrev QY:Nat:=50
def Qrz:AT:=mkt 0x2f2b00d8
def Qry:AT:=mkt 0x11a108798963f962e376619802880fbda844a0
def XJ:AF:=⟨9,[.tmp 3],
 (zg Qrz []
 (zg Qry [4,5,6,7,8]
 .ret))⟩
abbrev ZY:Nat:=51
def Qmj:AT:=mkt 0x163f8fce90248b198
def Qmi:AT:=mkt 0xbc8921e4b482f4dc4143306cbac9d413795f803e8
def Xx:AF:=⟨9,[.tmp 4],
 (zg Qmj []
 (zg Qmi [5,6,7,8]
 .ret))⟩
abbrev YM:Nat:=52
def Qrx:AT:=mkt 0x2f2b00d8
def Qrw:AT:=mkt 0xbc0b051688db6a9121010c52a20f893404a0
def XI:AF:=⟨9,[.tmp 3],
 (zg Qrx []
 (zg Qrw [4,5,6,7,8]
 .ret))⟩
abbrev Yt:Nat:=53
abbrev ZX:Nat:=54
def Qrv:AT:=mkt 0x2f2b00e0
def Qru:AT:=mkt 0xa2c25cbc9475fd7528933f6e0b1e969803e8
def QG:AF:=⟨9,[.tmp 4],
 (zg Qrv []
 (zg Qru [5,6,7,8]
 .ret))⟩
abbrev XY:Nat:=55
def Qrt:AT:=mkt 0x603900d0
def Qrs:AT:=mkt 0xc25500d8
def Qrr:AT:=mkt 0x176b4c6f133a80288
def Qrq:AT:=mkt 0x3c6fc120
def Qrp:AT:=mkt 0x157e5545a257e43802a8
def Qro:AT:=mkt 0x7aa4b0485240c47123cf6c8438
def Qrn:AT:=mkt 0x3b90856dd88218
def Qrm:AT:=(.bad false (some 21) none
 (.bad false none none
 .done))
def Qrl:AT:=mkt 0x7ba64983441284230
def Qrk:AT:=mkt 0xe71c38ce34614abb76eb7c98479
def Qmh:AT:=mkt 0x663aaa2c3d9d80489
def Qmg:AT:=mkt 0x64ba4221
def Qmf:AT:=mkt 0xcea18412cf2d8f0804a9
def Qme:AT:=mkt 0xfa2522da90dd9f0be0f7f05f9
def Qmd:AT:=mkt 0x5691f9e9106305c391
def Qmc:AT:=mkt 0x718fddf300399
def QM:AF:=⟨36,[.tmp 2],
 (zg Qrt []
 (zg Qrs []
 (.seq (zg Qrr []
 (.block 0 (.loop (zg Qrq []
 (.seq (zw 12
 .skip
 (.exit 0))
 (.seq (.block 1 (zg Qrp [13,14]
 (zg Qro [15,16,17,18]
 (zg Qrn [19]
 (zw 20
 (.reg Qrm [21])
 .skip)))))
 (.reg Qrl [22])))))))
 (zg Qrk [23,24]
 (.seq (zg Qmh []
 (.block 2 (.loop (zg Qmg []
 (.seq (zw 28
 .skip
 (.exit 2))
 (.seq (.block 3 (zg Qmf [29,30]
 (.reg Qme [31,32,33])))
 (.reg Qmd [34])))))))
 (zg Qmc [35]
 .ret))))))⟩
abbrev Yd:Nat:=56
def Qrj:AT:=mkt 0x2f2b00d8
def Qri:AT:=mkt 0x9b239a134a352165e0f4d0947f7fee8e11dab6efc06c7293407a0
def Xh:AF:=⟨13,[.tmp 3],
 (zg Qrj []
 (zg Qri [4,5,6,7,8,9,10,11,12]
 .ret))⟩
abbrev X4:Nat:=57
abbrev QcW:Nat:=58
abbrev Qih:Nat:=59
abbrev Qgd:Nat:=60
def Qrh:AT:=mkt 0x2f2b00e0
def Qrg:AT:=mkt 0x82f7f77169baba3c9cec3c44e33343930fd6787a7c2968e6c991be4b313513b183cc0aa8
def Q8:AF:=⟨18,[.tmp 4],
 (zg Qrh []
 (zg Qrg [5,6,7,8,9,10,11,12,13,14,15,16,17]
 .ret))⟩
abbrev YX:Nat:=61
def Qrf:AT:=mkt 0x60390100
def Qre:AT:=mkt 0x3b8f8e9f6881e0
def Qrd:AT:=mkt 0x60390100
def Qrc:AT:=mkt 0xe0bfb422f14c9982b0
def Qrb:AT:=mkt 0x9e3519d1f83724996f91965080388
def Qra:AT:=mkt 0x3b90856dd88220
def Qq9:AT:=mkt 0x6206867f224fb1e50e8cce8160e9f808e806f1
def Qq8:AT:=mkt 0x22b96a05ec1464ac44a045686ca0378851
def Qq7:AT:=mkt 0x49782783e484e1adcc02084b9
def Qq6:AT:=mkt 0x1b363af77fa80f49384c9
def Qmb:AT:=mkt 0xc2550110
def Qh1:AT:=mkt 0x2035349622d104d9
def Qh0:AT:=mkt 0x3cee4fa0b82a71f6b8935d23b9400932
def QhZ:AT:=mkt 0x4034470228c054a
def QhY:AT:=mkt 0x1682cc91d1e4079f64e0d5c92eb7c5a6cdb399a51a77e9e3ed6669744924195a
def QhX:AT:=mkt 0x159aef261e08f566fdd8ee40babd35860ec00fb2
def QhW:AT:=mkt 0x134a1d6e5b4a5948c807e2
def Qma:AT:=mkt 0x1609cbd7ff25b3050e0cb89b610f3
def Ql9:AT:=mkt 0x1c3b37165fefcbf632a428849720b61113
def bytes_genSplit:AF:=⟨70,[.tmp 8],
 (zg Qrf []
 (.seq (zg Qre [12]
 (zw 13
 (zg Qrd []
 .ret)
 .skip))
 (.seq (zg Qrc [14,15]
 (zw 16
 (zg Qrb [17,18,19]
 .ret)
 .skip))
 (.seq (zg Qra [20]
 (zw 21
 (.reg Qq9 [22,23,24,25])
 .skip))
 (zg Qq8 [26,27,28,29,30]
 (zg Qq7 [31,32]
 (zg Qq6 [33,34]
 (zg Qmb []
 (.seq (.block 0 (.loop (.seq (zg Qh1 [35,36]
 (zw 37
 .skip
 (.exit 0)))
 (.block 1 (zg Qh0 [38,39,40]
 (.seq (zg QhZ [41]
 (zw 42
 (.exit 0)
 .skip))
 (zg QhY [43,44,45,46,47,48,49,50,51,52,53]
 (zg QhX [54,55,56,57,58,59]
 (.reg QhW [60,61])))))))))
 (zg Qma [62,63,64,65]
 (zg Ql9 [66,67,68,69]
 .ret)))))))))))⟩
abbrev QaA:Nat:=62
abbrev Qge:Nat:=63
abbrev QjO:Nat:=64
def Qq5:AT:=mkt 0x603900e0
def Qq4:AT:=mkt 0x22615c4402d347bd10f6ff1b9853b31e8
def Qq3:AT:=mkt 0x127be400f0
def Qq2:AT:=mkt 0xc25500f8
def Ql6:AT:=mkt 0x2c3621c0be242cf1a8370
def Ql5:AT:=mkt 0x53ec8effbc1022dbd03ecea3dd98afc54577c79bddffb7231e2780bd9
def Ql4:AT:=mkt 0xe8b6543e3a728489
def Ql3:AT:=mkt 0x103a9eabe030361
def Ql2:AT:=mkt 0x2ff5b2dd53ce64ea9532e012d86a82c9e157e80a4815a70d5e52fc52ac8dc507d50c89b1
def Ql1:AT:=mkt 0x127be400f0
def QhV:AT:=mkt 0x103a606062b03a1
def QhU:AT:=mkt 0x7b4d77e7283b1
def QhT:AT:=mkt 0x827621760319c38ddc093a
def Ql8:AT:=mkt 0x4034e3a1eb80552
def Ql7:AT:=mkt 0x410722719c77e36013b792dc68f90ae40149ae6179563747ca01e6236d4dfbdf16863ccde141162
def QhS:AT:=mkt 0x736fe1cbc2698038749929d554099a
def QhR:AT:=mkt 0x194c9fb5caa55407b2
def QfY:AT:=mkt 0xa12a03ca
def QfX:AT:=mkt 0x47dcdb30b2e62892cf6491685a7b2051210624c91600dd2
def QfW:AT:=mkt 0x7a04a143a466af13c1358e08473a8ce9289543c4fd7c9a782d00ff4afc2380b417a7dc25eb
def QfV:AT:=mkt 0x16739b3ba4527c6b0843
def QhQ:AT:=mkt 0xc6f4ef64c8084b
def Xs:AF:=⟨74,[.tmp 4],
 (zg Qq5 []
 (zg Qq4 [13]
 (zg Qq3 []
 (.seq (zg Qq2 []
 (.block 0 (.loop (.seq (zg Ql6 [14,15,16]
 (zw 17
 .skip
 (.exit 0)))
 (.block 1 (zg Ql5 [19,20,21,22,18,23,24]
 (.seq (zg Ql4 [25,26]
 (zw 27
 (zg Ql3 [28]
 (zw 29
 (zg Ql2 [30,31,32,33,34,35]
 (.reg Ql1 []))
 .skip))
 (zg QhV [36]
 (zw 37
 (.reg QhU [38])
 .skip))))
 (.reg QhT [39,40,41]))))))))
 (.seq (zg Ql8 [42]
 (zw 43
 (.reg Ql7 [44,45,46,47,48,49,50])
 .skip))
 (zg QhS [51,52,53]
 (.seq (zg QhR []
 (.block 2 (.loop (zg QfY []
 (.seq (zw 57
 .skip
 (.exit 2))
 (.seq (.block 3 (zg QfX [58,59,60]
 (.reg QfW [61,62,63,64,65,66,67,68,69,70,71])))
 (.reg QfV [72])))))))
 (zg QhQ [73]
 .ret))))))))⟩
abbrev Zz:Nat:=65
def Qq1:AT:=mkt 0x2f2b00d0
def Qq0:AT:=mkt 0x71087d74c08a684bb00258
def QqZ:AT:=mkt 0xf0
def QqY:AT:=mkt 0x6eb79c8ef8c16c1c0
def QqX:AT:=mkt 0xca6314eb73b82041c8
def QqW:AT:=mkt 0xe0dbcb6e949b2041d0
def QqV:AT:=mkt 0xf75481f1b57e2041d8
def QqU:AT:=mkt 0x10dcd3874d6612041e0
def QqT:AT:=mkt 0x12445fc5e273a2041e8
def QqS:AT:=mkt 0x13abe9a3878ec800e2041f0
def Ql0:AT:=mkt 0x1513750020f3e7c4e2041f8
def QlZ:AT:=mkt 0x47b200d0
def QlY:AT:=mkt 0x2f2b00d0
def QlX:AT:=mkt 0x383083290d23a975fa230f231e8a84380
def unicode_IsSpace:AF:=⟨19,[.tmp 2],
 (zg Qq1 []
 (.seq (zg Qq0 [3,4]
 (zw 5
 (.seq (zg QqZ []
 (.block 0 (.seq (zg QqY [8]
 (zw 7
 .skip
 (zg QqX [9]
 (zw 7
 .skip
 (zg QqW [10]
 (zw 7
 .skip
 (zg QqV [11]
 (zw 7
 .skip
 (zg QqU [12]
 (zw 7
 .skip
 (zg QqT [13]
 (zw 7
 .skip
 (zg QqS [14]
 (zw 7
 .skip
 (.reg Ql0 [15])))))))))))))))
 (zw 7
 (zg QlZ []
 .ret)
 .skip))))
 (zg QlY []
 .ret))
 .skip))
 (zg QlX [16,17,18]
 .ret)))⟩
abbrev QC:Nat:=66
abbrev QhM:Nat:=67
abbrev Qga:Nat:=68
abbrev Qig:Nat:=69
abbrev QjS:Nat:=70
abbrev QhN:Nat:=71
abbrev Qjc:Nat:=72
abbrev Qjb:Nat:=73
abbrev Qja:Nat:=74
abbrev Qez:Nat:=75
abbrev QmS:Nat:=76
abbrev QmT:Nat:=77
def QlW:AT:=mkt 0x2f2b00e0
def QlV:AT:=mkt 0xa2c25cbc9475fd75288fe80b1172969803e8
def Qm:AF:=⟨9,[.tmp 4],
 (zg QlW []
 (zg QlV [5,6,7,8]
 .ret))⟩
abbrev QQ:Nat:=78
def QlU:AT:=mkt 0xc25500e0
def QlT:AT:=mkt 0x176b4c6f133a80270
def QlS:AT:=mkt 0x3c6fc108
def QlR:AT:=mkt 0x73be4e6701d0
def QlQ:AT:=mkt 0x111ea2ae7f5c4be1ea4b4d9047184d8
def QlP:AT:=mkt 0xc4b7598e8208
def QlO:AT:=mkt 0x6529ab46034d2c210
def QlN:AT:=mkt 0x127be400e0
def Qo:AF:=⟨19,[.tmp 4],
 (zg QlU []
 (.seq (zg QlT [6]
 (.block 0 (.loop (zg QlS []
 (.seq (zw 9
 .skip
 (.exit 0))
 (.seq (.block 1 (zg QlR [10]
 (zg QlQ [11,12,13,14,15]
 (zw 16
 (zg QlP [17]
 .ret)
 .skip))))
 (.reg QlO [18])))))))
 (zg QlN []
 .ret)))⟩
abbrev Q0:Nat:=79
def QqR:AT:=mkt 0x2f2b00d8
def QqQ:AT:=mkt 0x3e78281bd52ff90474eda843e0
def Xe:AF:=⟨8,[.tmp 3],
 (zg QqR []
 (zg QqQ [4,5,6,7]
 .ret))⟩
abbrev Y0:Nat:=80
def QqP:AT:=mkt 0xc25500e0
def QqO:AT:=mkt 0x176b4c6f133a80270
def QqN:AT:=mkt 0x3c6fc108
def QqM:AT:=mkt 0x73be4e6701d0
def QqL:AT:=mkt 0x32ea111974b2e22002d4d9047184d8
def QqK:AT:=mkt 0xc4b7598e8208
def QqJ:AT:=mkt 0x6529ab46034d2c210
def QqI:AT:=mkt 0x127be400e0
def QR:AF:=⟨19,[.tmp 4],
 (zg QqP []
 (.seq (zg QqO [6]
 (.block 0 (.loop (zg QqN []
 (.seq (zw 9
 .skip
 (.exit 0))
 (.seq (.block 1 (zg QqM [10]
 (zg QqL [11,12,13,14,15]
 (zw 16
 (zg QqK [17]
 .ret)
 .skip))))
 (.reg QqJ [18])))))))
 (zg QqI []
 .ret)))⟩
abbrev Yk:Nat:=81
def zq27_0:AT:=mkt 0x603900e0
def zq27_1:AT:=mkt 0x3b90856bf581a8
def zq27_2:AT:=(.bad false (some 7) none
 (.bad false none none
 .done))
def zq27_3:AT:=(.rd (some 8) none (.mov (.t 1))
 (.rd (some 9) none (.mov (.t 0))
 (.bad false (some 10) none
 (.rd (some 11) none (.mov (.t 0))
 (.rd (some 12) none (.len 0 (.t 11))
 (.rd (some 13) none (.bin .sub (.t 10) (.t 12))
 (.rd (some 14) none (.bin .sub (.t 8) (.t 13))
 (.rd (some 1) none (.mov (.t 14))
 .done))))))))
def zq27_4:AT:=mkt 0x3b917c3a6581f8
def zq27_5:AT:=(.rd (some 17) none (.mov (.t 0))
 (.rd (some 18) none (.mov (.t 0))
 (.bad false (some 19) none
 (.rd (some 20) none (.slc 1 (.t 17) none (some (.t 19)) none)
 (.rd (some 21) none (.mov (.t 1))
 (.bad false (some 22) none
 (.rd (some 23) none (.mov (.t 0))
 (.rd (some 24) none (.len 0 (.t 23))
 (.rd (some 25) none (.slc 1 (.t 22) none (some (.t 24)) none)
 (.rd (some 0) none (.mov (.t 25))
 .done))))))))))
def zq27_6:AT:=mkt 0x545d61a790351
def X3:AF:=⟨27,[.tmp 4],
 (zg zq27_0 []
 (.seq (zg zq27_1 [5]
 (zw 6
 (.reg zq27_2 [7])
 .skip))
 (.seq (zg zq27_3 [8,9,10,11,12,13,14]
 (zg zq27_4 [15]
 (zw 16
 (.reg zq27_5 [17,18,19,20,21,22,23,24,25])
 .skip)))
 (zg zq27_6 [26]
 .ret))))⟩
abbrev YC:Nat:=82
abbrev Qjd:Nat:=83
abbrev QhP:Nat:=84
abbrev QjT:Nat:=85
abbrev Qd7:Nat:=86
abbrev QmV:Nat:=87
def zq2d_0:AT:=mkt 0xc25500e0
def zq2d_1:AT:=mkt 0xe0bfb422f14c998278
def zq2d_2:AT:=mkt 0x125f935a9098ba01ab66b247728e0350
def zq2d_3:AT:=mkt 0x1c2de592cda4c9982a8
def zq2d_4:AT:=mkt 0x5a4b12128bf1b9cda4a70a4974234b8c191f380500
def zq2d_5:AT:=mkt 0xc25500e8
def zq2d_6:AT:=mkt 0xbf7c860d95baae2f9f1ce969803a8
def zq2d_7:AT:=mkt 0x188e6506be6b0341
def zq2d_8:AT:=mkt 0x545d622558351
def zq2d_9:AT:=mkt 0x16692d91ccfed7a708499
def QsO:AT:=mkt 0x81ee4e07f554680ff8e1e804ac9aba063009a9
def Qb5:AF:=⟨35,[.tmp 4],
 (zg zq2d_0 []
 (.seq (zg zq2d_1 [7,8]
 (zw 9
 (zg zq2d_2 [10,11,12]
 .ret)
 .skip))
 (.seq (zg zq2d_3 [13,14]
 (zw 15
 (zg zq2d_4 [16,17,18,19,20]
 .ret)
 .skip))
 (zg zq2d_5 []
 (.block 0 (.loop (.block 1 (zg zq2d_6 [21,22,23]
 (.seq (zg zq2d_7 [24]
 (zw 25
 (zg zq2d_8 [26]
 .ret)
 .skip))
 (zg zq2d_9 [27,28]
 (.reg QsO [29,30,31,32,33,34])))))))))))⟩
abbrev Qcp:Nat:=88
def QqH:AT:=mkt 0xc25500e0
def QqG:AT:=mkt 0x394f4b8b3b69982e0
def QqF:AT:=mkt 0x13378dd17b8d272088479
def QqE:AT:=mkt 0xc25500e0
def QqD:AT:=mkt 0x159e8699aa9919c888491
def QqC:AT:=mkt 0x1bd9d177f486945688c4b95b3835e8f86c0a45480861
def QqB:AT:=mkt 0xb88dbdb412deb5355b3a35c8751
def QqA:AT:=mkt 0xb9e378187dad22e3840732
def Qqz:AT:=mkt 0xc25500e0
def Qqy:AT:=mkt 0x127be400e0
def QlM:AT:=mkt 0x8b55d6c0ce696482054698940b52
def QlL:AT:=mkt 0x127be400e0
def QlK:AT:=mkt 0x3a7bf80b1b9d8b012fc5f4097a
def QlJ:AT:=mkt 0xf666fc0ea28a37b58c00792
def QlI:AT:=mkt 0x53c633d5bab26bbe35dd39e3b94009aa
def QlH:AT:=mkt 0x4122b94bab0e118af4fd68409c2
def QlG:AT:=mkt 0x448146d51fb451bba61d68409da
def QlF:AT:=mkt 0xc2550100
def QlE:AT:=mkt 0x8d68c5b614dcf001a24bd645ba5b72013f3
def QlD:AT:=mkt 0xc2550110
def QlC:AT:=mkt 0x1a4d968544e900b1b
def QlB:AT:=mkt 0x20b03828f9bfc05ff3da3bf33001433
def QlA:AT:=mkt 0x6df76e280dffd4bb3b69f1c06e6c45f869fd3711398e9aa6dea001a63
def Qlz:AT:=mkt 0xd47f7db98d2089b
def Qly:AT:=mkt 0x127be400e0
def Qlx:AT:=mkt 0x1320ac1dc9e345d54053614d3a75011ab
def Qlw:AT:=mke 0xd52a3c60c7020d9a4b9a209259ccc2672bc815394ad6c87f8002acc (mkt 0x291e3e81e9ef5b2362a300aae7dd818ea577ec7eb0cc08861f1c)
def Qlv:AT:=mkt 0x2a94afb5d500b54
def Qlu:AT:=mkt 0x211f9f72fc9cb6379900f5c
def Qlt:AT:=mkt 0x21bc9fae419a5a76f800f6c
def Qls:AT:=mkt 0x3dfbfb399cc2b9fc214b5ef17850137c
def Qlr:AT:=mkt 0x4be45b7980f8ae714a58731a60e65f3ed5673c001b9c
def Qlq:AT:=mkt 0x1f2c703443a00bc4
def Qlp:AT:=mkt 0x17eae1e937cb1fc4646013d4
def Qlo:AT:=mkt 0x127be400e0
def Qln:AT:=mkt 0x127be400e0
def Qlm:AT:=mkt 0x8a5538c124bd0db12c74ad0813ec
def Qll:AT:=mkt 0x2c584104132ed8b36e3a4838c1c05
def Qlk:AT:=mkt 0xc2550138
def Qlj:AT:=mkt 0xc2550140
def Qli:AT:=mkt 0x230f4470f2938a0391afe551b811bda40281d
def Qlh:AT:=mkt 0xce26f21a91bf41645
def Qlg:AT:=mkt 0x1fb2a7de5e05b0b9362e533b1340285d
def Qlf:AT:=mkt 0x5c51fe35aee508351f7e9be55604ec216440a6958ecc900405cbc140348d
def Qle:AT:=mkt 0x682c80fbc47810c5
def Qld:AT:=mkt 0x83037bc235384e7ec630cf9eeedcb422d5
def Qlc:AT:=mke 0x39e40996057df4bc6f55a3cff99eeb759d8f5e6d226492e6bc14040f5 (mkt 0x13d3cfbeed25ddca5dddb8a17aec06b13c75b04f57563bd49b2f45)
def Qlb:AT:=mkt 0xec0a31f23cc117d
def Qla:AT:=mkt 0x11002355042e749fb8141785
def Qk9:AT:=mkt 0x11315128b87ab42cbfa01795
def Qk8:AT:=mkt 0x99131c995819873ee403f29ff594e673bbbfb1bdfff7a637ac89f44813e0041a5
def Qk7:AT:=mkt 0x12d822d86f7546fed191fa32bb4f6e35102c4a724e03bf6
def Qk6:AT:=mkt 0x15d447a043f06181e
def Qk5:AT:=mkt 0x127be400e0
def Qk4:AT:=mkt 0x3c6fc465777ef4739ee2e2a2e
def Qk3:AT:=mkt 0x127be400e0
def Zk:AF:=⟨200,[.tmp 4],
 (zg QqH []
 (zg QqG [20,21]
 (.seq (.block 0 (zg QqF [23,24]
 (zw 22
 (zg QqE []
 .ret)
 (zg QqD [26,27]
 (zw 25
 (zg QqC [28,29,30,31,32]
 .ret)
 (zg QqB [34,35,36,37]
 (zw 33
 (.seq (zg QqA [38,39]
 (zw 40
 (zg Qqz []
 .ret)
 .skip))
 (zg Qqy []
 .ret))
 (zg QlM [42,43,44,45]
 (zw 41
 (zg QlL []
 .ret)
 (zg QlK [47,48,49]
 (zw 46
 (.seq (zg QlJ [50,51]
 (zw 52
 (zg QlI [53,54,55]
 .ret)
 .skip))
 (zg QlH [56,57,58]
 (zg QlG [59,60,61]
 (zg QlF []
 (zg QlE [62,63,64,65,66]
 (zg QlD []
 (.seq (.block 1 (.loop (.seq (zg QlC [67,68]
 (zw 69
 .skip
 (.exit 1)))
 (.block 2 (.seq (zg QlB [70,71,72,73,74]
 (zw 75
 (zg QlA [76,77,78,79,80,81,82]
 (.seq (zg Qlz [83]
 (zw 84
 (zg Qly []
 .ret)
 .skip))
 (.reg Qlx [85,86,87,88])))
 .skip))
 (.seq (zg Qlw [89,90,91,92,93,94,95,96,97,98,99,100,101,102,103,104]
 (zw 105
 (zg Qlv [106]
 .ret)
 .skip))
 (zg Qlu [107,108]
 (zg Qlt [109,110]
 (zg Qls [111,112,113]
 (zw 114
 (zg Qlr [115,116,117,118,119]
 (.seq (zg Qlq [120]
 (zw 121
 (zg Qlp [122,123,124]
 .ret)
 .skip))
 (zg Qlo []
 .ret)))
 .skip))))))))))
 (zg Qln []
 .ret))))))))
 .skip)))))))))))
 (zg Qlm [125,126,127]
 (zg Qll [128,129,130]
 (zg Qlk []
 (zg Qlj []
 (zg Qli [131,132,133,134,135]
 (.seq (.block 3 (.loop (.seq (zg Qlh [136,137]
 (zw 138
 .skip
 (.exit 3)))
 (.block 4 (.seq (zg Qlg [139,140,141,142,143]
 (zw 144
 (zg Qlf [145,146,147,148,149,150,151]
 (.seq (zg Qle [152]
 (zw 153
 (.exit 3)
 .skip))
 (.reg Qld [154,155,156,157])))
 .skip))
 (.seq (zg Qlc [158,159,160,161,162,163,164,165,166,167,168,169,170,171,172,173]
 (zw 174
 (zg Qlb [175]
 .ret)
 .skip))
 (zg Qla [176,177]
 (zg Qk9 [178,179]
 (zg Qk8 [180,181,182,183,184,185,186,187,188]
 (zw 189
 (zg Qk7 [190,191,192,193,194]
 (.seq (zg Qk6 [195]
 (zw 196
 (zg Qk5 []
 .ret)
 .skip))
 (zg Qk4 [197,198,199]
 .ret)))
 .skip))))))))))
 (zg Qk3 []
 .ret))))))))))⟩
abbrev Qcn:Nat:=89
abbrev QeC:Nat:=90
abbrev Qg2:Nat:=91
abbrev QhL:Nat:=92
abbrev Qie:Nat:=93
abbrev QgG:Nat:=94
def Qqx:AT:=mkt 0xc69a1e527840190
def Qqw:AT:=mkt 0x176b4c6f133a80270
def Qqv:AT:=mkt 0x3c6fc108
def Qqu:AT:=mkt 0x10e3a5506fd3a5780290
def Qqt:AT:=mkt 0x78ba18eac4fbeb81e0
def Qqs:AT:=mkt 0x6c39ab21a8a36511178370
def Qqr:AT:=mkt 0x59ed5063bb4d2c200
def Qqq:AT:=mkt 0x122a87f201ad8c03c887707d63143b4d741f3d528e05d0
def QE:AF:=⟨22,[.tmp 2,.tmp 3],
 (zg Qqx []
 (.seq (zg Qqw []
 (.block 0 (.loop (zg Qqv []
 (.seq (zw 9
 .skip
 (.exit 0))
 (.seq (.block 1 (zg Qqu [10,11]
 (.seq (zg Qqt [12]
 (zw 13
 (zg Qqs [14,15]
 .ret)
 .skip))
 (.exit 0))))
 (.reg Qqr [16])))))))
 (zg Qqq [18,19,17,20,21]
 .ret)))⟩
abbrev XW:Nat:=95
def Qqp:AT:=mkt 0x2f2b00e0
def Qqo:AT:=mkt 0xd5c340b6af1444dad55c0400
def Qqn:AT:=mkt 0x1237adf8ebe10dd16bfdc0420
def Qqm:AT:=mke 0x2ece148605b6081106fcf219a704d9a59043e1b48d01 (mkt 0x445198b4027437390519cf9ad5e1afa1f4a2fa9aae991)
def Qql:AT:=mkt 0x5332b581b85c7c6f55f35c51960560194f6eaa0c89c9
def Qqk:AT:=mkt 0x3987ea15c0794f13cf34200b3a
def Qqj:AT:=mkt 0x232b1e2e96bb5d0f47d04033232d7471d355be630ee13dc2b22ff24d584a9ea5c195a
def Qqi:AT:=mkt 0x29ab7deadebb73366b7895b400a611dc0bba
def Qqh:AT:=mkt 0x2f2b00e0
def QA:AF:=⟨59,[.tmp 4],
 (zg Qqp []
 (zg Qqo [8,9,10,11]
 (.seq (zg Qqn [12,13,14,15]
 (zg Qqm [16,17,18,19,20,21,22,23,24,25,26,27,28,29,30,31]
 (zw 32
 (zg Qql [33,34,35,36,37,38]
 .ret)
 .skip)))
 (zg Qqk [39,40,41,42]
 (.seq (zg Qqj [43,44,45,46,47,48,49,50,51,52,53]
 (zw 54
 (zg Qqi [55,56,57,58]
 .ret)
 .skip))
 (zg Qqh []
 .ret))))))⟩
abbrev XQ:Nat:=96
abbrev QcG:Nat:=97
abbrev Qgf:Nat:=98
abbrev Qck:Nat:=99
abbrev QdY:Nat:=100
abbrev Qcl:Nat:=101
abbrev QcR:Nat:=102
abbrev QcF:Nat:=103
abbrev QaT:Nat:=104
abbrev Qb8:Nat:=105
abbrev QdH:Nat:=106
abbrev QjQ:Nat:=107
abbrev QjP:Nat:=108
abbrev QhO:Nat:=109
abbrev Qfy:Nat:=110
abbrev Qd3:Nat:=111
abbrev QcU:Nat:=112
abbrev QdJ:Nat:=113
abbrev Qfw:Nat:=114
def zq34_0:AT:=mkt 0xc25500e0
def zq34_1:AT:=mkt 0x3a4b8818280017c4159ee96980328
def bytes_IndexByte:AF:=⟨8,[.tmp 4],
 (zg zq34_0 []
 (zg zq34_1 [5,6,7]
 .ret))⟩
abbrev Z1:Nat:=116
abbrev Qe1:Nat:=118
abbrev Qbq:Nat:=119
abbrev Qd6:Nat:=120
abbrev Qd2:Nat:=121
abbrev QrW:Nat:=122
def Qqg:AT:=mkt 0xc69a1e527840190
def Qqf:AT:=mkt 0x26354aeff9da802a8
def Qqe:AT:=mkt 0x777d14d04a01f8
def Qqd:AT:=mkt 0xc69a4f2d9b059840190
def Qqc:AT:=mkt 0x773b82be3857b6b0af9800388
def Qqb:AT:=mkt 0x1141e9ef18970e5e61a89fa893f83a0
def Qqa:AT:=mkt 0x3d52247b8ac5f530339
def Qp9:AT:=mkt 0x29b8709d8a4c51a419a4e4c44cbe94f0709
def Qp8:AT:=mkt 0x7387bbac9b0885c9e17c15050df5d88aeff5e3341fb9646512cd7c6a2a6ee800ea9
def Qp7:AT:=mkt 0x17dd7989c48f9484d7020780932
def Qk2:AT:=mkt 0xfe5711f0c0499b233d451783f324f77317208b66dce5b89780d4a
def Qk1:AT:=mkt 0x7f4104496e10076a
def Qk0:AT:=mkt 0x18f220a2d9b059840190
def QkZ:AT:=mkt 0x38273bdae7afa49ba61d4000982
def QkY:AT:=mkt 0x267ba61bbb6c9f94eb9e6303fdbba1f7dbec14d151b25db2b3588159a
def QkX:AT:=mkt 0x18f220a2d9b059840190
def QkW:AT:=mkt 0xc0eaea43b4005ea
def QkV:AT:=mkt 0x6cc174b168e7b38feb6eaea3d7b7826337f9bbe03ffacd23bce21db27cea97e79ee1ffb
def QkU:AT:=mkt 0x196afc51f3c035007f1d9e000e3b
def QkT:AT:=mkt 0x1a67e67fdbce3d0bfbb0056aefe9bc82eeb4eaf71844ec3921453
def QkS:AT:=mkt 0x18f220a2d9b059840190
def QkR:AT:=mkt 0x353029b019e00883
def QkQ:AT:=mke 0x453c1cb273f481ac07aa9fc0108e8e7ec45f53ae700e2551ee413178dcb242879ee2093 (mkt 0xfa3bb2e8851ebef7c4cedd83aeb6651c53a111e3)
def QkP:AT:=mkt 0x69a7fe016de8303a59e0a80012fc
def QkO:AT:=mkt 0x1539d7475fea879a7aa45ce4edba98c33afecfc420a0125b201b14
def QkN:AT:=mkt 0x18f220a2d9b059840190
def QkM:AT:=mke 0x29b3e16ba4a348517910d607d1480a2481f13cfa4fa916c8a829cadc15f35c05b3e82b44 (mkt 0x99f409d9c7144f4556ce9f1b104ba53a285956f963ecd37195ac60e4f7d7dfaff43c6b1b2c2b94)
def Qt:AF:=⟨122,[.tmp 2,.tmp 3],
 (zg Qqg []
 (zg Qqf [13,14]
 (.seq (zg Qqe [15]
 (zw 16
 (zg Qqd []
 .ret)
 .skip))
 (zg Qqc [17,18,19]
 (zg Qqb [20,21,22]
 (.seq (zg Qqa [23]
 (zw 24
 (zg Qp9 [25,26,27,28]
 (zg Qp8 [29,30,31,32,33,34,35,36,37]
 .ret))
 .skip))
 (zg Qp7 [38,39,40]
 (zg Qk2 [41,42,43,44]
 (.seq (zg Qk1 [45,46]
 (zw 47
 (zg Qk0 []
 .ret)
 .skip))
 (zg QkZ [48,49,50]
 (.seq (zg QkY [51,52,53,54,55,56,57,58,59]
 (zw 60
 (zg QkX []
 .ret)
 .skip))
 (.seq (zg QkW [61]
 (zw 62
 (zg QkV [63,64,65,66,67,68,69,70]
 .ret)
 .skip))
 (zg QkU [71,72,73]
 (.seq (zg QkT [74,75,76,77,78]
 (zw 79
 (zg QkS []
 .ret)
 .skip))
 (.seq (zg QkR [80]
 (zw 81
 (zg QkQ [82,83,84,85,86,87,88,89,90,91,92,93,94]
 .ret)
 .skip))
 (zg QkP [95,96,97]
 (.seq (zg QkO [98,99,100,101,102]
 (zw 103
 (zg QkN []
 .ret)
 .skip))
 (zg QkM [104,105,106,107,108,109,110,111,112,113,114,115,116,117,118,119,120,121]
 .ret))))))))))))))))))⟩
abbrev Xp:Nat:=123
def Qp6:AT:=mkt 0x2f2b00e0
def Qp5:AT:=mkt 0x25577b5b70c46e09010da07a2ef451d739a9bf6dd5ba80598
def Qp4:AT:=mkt 0x176b4c6f133a802d0
def Qp3:AT:=mkt 0x3c6fc168
def Qp2:AT:=mkt 0xfe9278b90230
def Qp1:AT:=mkt 0x5ec14351aa417eb46805b9
def Qp0:AT:=mkt 0x9a5ba3d387213e92c1447a4828851
def QpZ:AT:=mkt 0x2f2b00e0
def QpY:AT:=mkt 0xbcded6359c870e1108eb500828881
def QpX:AT:=mke 0xf8bad879c7d5face724df64f14c04362a4746e4b49381532 (mkt 0x4c199a7dff36c22772b537f5b9cfdbaaaa6ca1252480aa08afddf8d5d1582)
def QkL:AT:=mkt 0x3952fe0bfc1ce4205ca
def QkK:AT:=mkt 0x2f2b00e0
def QkJ:AT:=mkt 0xc25500f8
def QkI:AT:=mkt 0xb59feffb41c8c007d2
def QkH:AT:=mkt 0x7f410449759c07e2
def QkG:AT:=mkt 0x225c4a80b86d83b0d42933e66f2fde82826a16fb
def QkF:AT:=mkt 0x20f6439977204cd0d5600e2b
def QkE:AT:=mkt 0x167b5d67185d3ed6e084591aa49cc9b31471a82ef91c3ce8c787808a49ce0addec2c43
def QkD:AT:=mke 0x73397c57ad4acf4509bf19c2a571e58cf1eb268bb42e902ab4 (mkt 0x101e90d82bf446e2568840d51e7da131024910ac3aa9681d2a96ed7e35fa2b04)
def QkC:AT:=mkt 0x48ba1e9589d34f2b3c289b54e081b4c
def QkB:AT:=mkt 0x2c96efac9580b7c
def QkA:AT:=mkt 0x22a826daf2176c974880f84
def Qkz:AT:=mkt 0x2f2b00e0
def YA:AF:=⟨114,[.tmp 4],
 (zg Qp6 []
 (.seq (zg Qp5 [11,12,13,14,15,16]
 (zw 17
 (.seq (zg Qp4 [18]
 (.block 0 (.loop (zg Qp3 []
 (.seq (zw 21
 .skip
 (.exit 0))
 (.seq (.block 1 (zg Qp2 [22]
 (zg Qp1 [23,24,25]
 (.seq (zg Qp0 [26,27,28,29,30]
 (zw 31
 (zg QpZ []
 .ret)
 .skip))
 (zg QpY [32,33,34,35,36]
 (zw 37
 (zg QpX [38,39,40,41,42,43,44,45,46,47,48,49,50,51,52,53,54,55,56]
 .ret)
 .skip))))))
 (.reg QkL [57])))))))
 (zg QkK []
 .ret))
 .skip))
 (zg QkJ []
 (zg QkI [58,59]
 (.seq (.block 2 (.loop (.seq (zg QkH [60,61]
 (zw 62
 .skip
 (.exit 2)))
 (.block 3 (zg QkG [63,64,65,66,67,68]
 (zg QkF [69,70,71]
 (.seq (zg QkE [72,73,74,75,76,77,78,79,80,81,82,83,84]
 (zw 85
 (zg QkD [86,87,88,89,90,91,92,93,94,95,96,97,98,99,100,101,102,103,104]
 .ret)
 .skip))
 (zg QkC [105,106,107,108,109]
 (zw 110
 (.reg QkB [111])
 (.reg QkA [112,113]))))))))))
 (zg Qkz []
 .ret))))))⟩
abbrev QbS:Nat:=124
abbrev QnY:Nat:=125
abbrev Qdx:Nat:=126
abbrev QdX:Nat:=127
abbrev Qf9:Nat:=128
abbrev QgH:Nat:=129
abbrev Qb9:Nat:=130
abbrev Qe0:Nat:=131
abbrev Qd4:Nat:=132
abbrev Qd5:Nat:=133
abbrev QcT:Nat:=134
abbrev Qe3:Nat:=135
abbrev QcE:Nat:=136
abbrev QcV:Nat:=138
abbrev Qfz:Nat:=139
abbrev QcS:Nat:=140
abbrev QeZ:Nat:=141
abbrev QeB:Nat:=142
abbrev QeA:Nat:=143
abbrev Qkj:Nat:=180
def tab:Nat→Option AF
 | 3=>some Qy
 | 5=>some Xb
 | 6=>some QU
 | 7=>some Z7
 | 8=>some Q9
 | 9=>some QV
 | 10=>some Z8
 | 11=>some QX
 | 12=>some Xa
 | 16=>some YH
 | 17=>some YI
 | 18=>some YG
 | 19=>some X0
 | 20=>some QO
 | 22=>some strconv_Itoa
 | 23=>some QS
 | 26=>some QT
 | 27=>some bytes_Split
 | 28=>some strconv_Atoi
 | 29=>some YJ
 | 30=>some bytes_Equal
 | 31=>some QN
 | 42=>some Xm
 | 47=>some XA
 | 48=>some XH
 | 49=>some XK
 | 50=>some Qx
 | 51=>some XJ
 | 52=>some Xx
 | 53=>some XI
 | 55=>some QG
 | 56=>some QM
 | 57=>some Xh
 | 61=>some Q8
 | 62=>some bytes_genSplit
 | 65=>some Xs
 | 66=>some unicode_IsSpace
 | 78=>some Qm
 | 79=>some Qo
 | 80=>some Xe
 | 81=>some QR
 | 82=>some X3
 | 88=>some Qb5
 | 89=>some Zk
 | 95=>some QE
 | 96=>some QA
 | 116=>some bytes_IndexByte
 | 123=>some Qt
 | 124=>some YA
 | _=>none
theorem Y9:tab XG=some Qy:=rfl
theorem YV:tab YZ=some Xb:=rfl
theorem QK:tab Yn=some QU:=rfl
theorem Xj:tab YD=some Z7:=rfl
theorem Qw:tab XT=some Q9:=rfl
theorem QZ:tab Yo=some QV:=rfl
theorem Zw:tab Qdy=some Z8:=rfl
theorem Q4:tab XF=some QX:=rfl
theorem XS:tab YY=some Xa:=rfl
theorem ZD:tab QbT=some YH:=rfl
theorem Yx:tab Yy=some YI:=rfl
theorem QbP:tab ZG=some YG:=rfl
theorem Qax:tab YN=some X0:=rfl
theorem Qu:tab Xn=some QO:=rfl
theorem Xu:tab ZF=some strconv_Itoa:=rfl
theorem QJ:tab Yl=some QS:=rfl
theorem Yj:tab Ym=some QT:=rfl
theorem Qae:tab Qcm=some bytes_Split:=rfl
theorem QbO:tab XX=some strconv_Atoi:=rfl
theorem QbQ:tab QbU=some YJ:=rfl
theorem Qcc:tab Qco=some bytes_Equal:=rfl
theorem Xl:tab Ye=some QN:=rfl
theorem XV:tab Xg=some Xm:=rfl
theorem ZS:tab X7=some XA:=rfl
theorem XN:tab ZW=some XH:=rfl
theorem ZV:tab ZZ=some XK:=rfl
theorem QF:tab QY=some Qx:=rfl
theorem ZU:tab ZY=some XJ:=rfl
theorem Qaw:tab YM=some Xx:=rfl
theorem ZT:tab Yt=some XI:=rfl
theorem Qg:tab XY=some QG:=rfl
theorem Ya:tab Yd=some QM:=rfl
theorem Za:tab X4=some Xh:=rfl
theorem YU:tab YX=some Q8:=rfl
theorem Qay:tab QaA=some bytes_genSplit:=rfl
theorem Zx:tab Zz=some Xs:=rfl
theorem ZR:tab QC=some unicode_IsSpace:=rfl
theorem Qz:tab QQ=some Qm:=rfl
theorem Qv:tab Q0=some Qo:=rfl
theorem YW:tab Y0=some Xe:=rfl
theorem Yi:tab Yk=some QR:=rfl
theorem QaW:tab YC=some X3:=rfl
theorem Qf3:tab Qcp=some Qb5:=rfl
theorem Qcb:tab Qcn=some Zk:=rfl
theorem XU:tab XW=some QE:=rfl
theorem XP:tab XQ=some QA:=rfl
theorem QcL:tab Z1=some bytes_IndexByte:=rfl
theorem Xo:tab Xp=some Qt:=rfl
theorem QbN:tab QbS=some YA:=rfl
abbrev wa:AC:=.seq (zg QjG [16,17,18] (zw 19 .skip (.exit 0))) (.seq (.block 1 (zg QjF [22,23,24,25,26,27,28,29,30,31,32] (zw 33 (zg QjE [34,35,36,37,38,39,40,41] (.reg QjD [42,43])) .skip))) (.reg QjC [20,21]))
abbrev wd:AC:=.seq (zg Qko [13,14,15] (zw 16 .skip (.exit 0))) (.seq (.block 1 (zg Qkn [19,20,21,22] (zg Qkm [23,24,25] (zg Qkl [26,27,28,29] (zg Qkk [30,31,32,33,34,35] (.reg QgP [36])))))) (.reg QgO [17,18]))
abbrev we:AC:=zg Qel [] (.seq (zw 52 .skip (.exit 2)) (.seq (.block 3 (zg Qek [53,54] (zg Qej [56,57,58,55,59,60] (.seq (zg Qei [61] (zw 62 (.reg Qeh [63]) .skip)) (.reg Qeg [64,65,66,67]))))) (.reg Qef [68])))
end Go.Proofs.YtingdebioipemaaGreatDoor
