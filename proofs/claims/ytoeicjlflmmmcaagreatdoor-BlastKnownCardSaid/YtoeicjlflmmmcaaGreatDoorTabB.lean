/- The translations of the functions, by a program of mine. -/
import Derived.Test.YtoeicjlflmmmcaaGreatDoorTabA
namespace Go.Proofs.YtoeicjlflmmmcaaGreatDoor
open Go Go.Am
set_option maxRecDepth 100000
set_option maxHeartbeats 4000000
def QHi:AT:=mkt 0x2f2b00e0
def QHh:AT:=mkt 0xc25500e8
def QHg:AT:=mkt 0x1482961edee2acd378330
def QHf:AT:=mke 0xc9a11e007368e5220030292a2d47a65732c9440f5c8ff9401462 (mke 0x8ef1774705d9e211ea283e4372acd3b7403f96f522394889a1f8f7114b2 (mkt 0x1c2e95a3dcd622d8010b34004cd0b3ef0fb67083014f0a42eeb576a74eb5cdab1f5958122450f87d1d02))
def QHe:AT:=mkt 0x47b200e0
def QHd:AT:=mkt 0x1370b2bb0061cb638290
def QHc:AT:=mkt 0x2f2b00e0
def X7:AF:=⟨46,[.tmp 4],
 (zg QHi []
 (.seq (zg QHh []
 (.block 0 (.loop (.seq (zg QHg [6,7,8]
 (zw 9
 .skip
 (.exit 0)))
 (.seq (.block 1 (zg QHf [12,13,14,15,16,17,18,19,20,21,22,23,24,25,26,27,28,29,30,31,32,33,34,35,36,37,38,39,40,41,42,43,44]
 (zw 45
 (zg QHe []
 .ret)
 .skip)))
 (.reg QHd [10,11]))))))
 (zg QHc []
 .ret)))⟩
abbrev QaM:Nat:=45
def QHb:AT:=mkt 0x2f2b00e0
def QHa:AT:=mkt 0xc25500e8
def QG9:AT:=mkt 0x1482961edee2acd378330
def QG8:AT:=mkt 0x25b92900da6b2c6d66a137c1804e0
def QG7:AT:=mkt 0x47b200e0
def QG6:AT:=mkt 0x1370b2bb0061cb638290
def QG5:AT:=mkt 0x2f2b00e0
def YP:AF:=⟨18,[.tmp 4],
 (zg QHb []
 (.seq (zg QHa []
 (.block 0 (.loop (.seq (zg QG9 [6,7,8]
 (zw 9
 .skip
 (.exit 0)))
 (.seq (.block 1 (zg QG8 [12,13,14,15,16]
 (zw 17
 (zg QG7 []
 .ret)
 .skip)))
 (.reg QG6 [10,11]))))))
 (zg QG5 []
 .ret)))⟩
abbrev QbI:Nat:=46
def QG4:AT:=mkt 0x163f88431f888b188
def QG3:AT:=mkt 0x2375aa5f2ce1659167577aa453887d4aa1d11cf50202768a49e55421c22d53800ed7a565659c0a346169987841c7b4c314fa4aa8
def QG2:AT:=mkt 0x2f2b00d0
def QG1:AT:=mkt 0xc25500d8
def QG0:AT:=mkt 0x14e16ede277aad05aee389e08458
def QGZ:AT:=mkt 0xc25500e0
def QGY:AT:=mkt 0x439c47f138580df7830a5eab5c0ab5539cca7e0ad1
def QGX:AT:=mkt 0x14e0641ed0e04d624e0ea94c595dd96602abd435810d1099d4c921cda91b9662fca1922
def QGW:AT:=mkt 0x2f2b00d0
def QGV:AT:=mkt 0x1c03388a214d918de04d1
def Qwj:AT:=mkt 0x1402515b2ac92b74b8481
def Qwi:AT:=mkt 0x47b200d0
def Yg:AF:=⟨48,[.tmp 2],
 (zg QG4 []
 (.seq (zg QG3 [5,6,7,8,9,10,11,12,13,14,15,16,17]
 (zw 18
 (zg QG2 []
 .ret)
 .skip))
 (.seq (zg QG1 []
 (.block 0 (.loop (.seq (zg QG0 [19,20,21,22]
 (zw 23
 .skip
 (.exit 0)))
 (.seq (.block 1 (zg QGZ []
 (.block 2 (.loop (.seq (zg QGY [26,27,28,29,30,31,32]
 (zw 33
 .skip
 (.exit 2)))
 (.seq (.block 3 (zg QGX [36,37,38,39,40,41,42,43,44,45,46]
 (zw 47
 (zg QGW []
 .ret)
 .skip)))
 (.reg QGV [34,35])))))))
 (.reg Qwj [24,25]))))))
 (zg Qwi []
 .ret))))⟩
abbrev Qa1:Nat:=47
def QGU:AT:=mkt 0x2f2b00e0
def QGT:AT:=mkt 0x585a94c6b9d6f042b23a803f0
def QGS:AT:=mkt 0x2f2b00e0
def QGR:AT:=mkt 0xc25500e8
def Qwh:AT:=mkt 0x2352cd640a6b9cd378358
def Qwg:AT:=mkt 0x15aa47a07da0828c5d83f9925cc2d9087db247a680bc9
def Qwf:AT:=mkt 0x2f2b00e0
def Qwe:AT:=mkt 0x1c45e52d637bcb6382b8
def QGQ:AT:=mkt 0x47b200e0
def X8:AF:=⟨26,[.tmp 4],
 (zg QGU []
 (.seq (zg QGT [6,7,8,9]
 (zw 10
 (zg QGS []
 .ret)
 .skip))
 (.seq (zg QGR []
 (.block 0 (.loop (.seq (zg Qwh [11,12,13]
 (zw 14
 .skip
 (.exit 0)))
 (.seq (.block 1 (zg Qwg [17,18,19,20,21,22,23,24]
 (zw 25
 (zg Qwf []
 .ret)
 .skip)))
 (.reg Qwe [15,16]))))))
 (zg QGQ []
 .ret))))⟩
abbrev QaN:Nat:=48
def QGI:AT:=mkt 0x5af2e3dc89093b248
def QGH:AT:=mkt 0x16e24e9798280357cc290
def QGG:AT:=mkt 0xc0d1a7b90190
def QGF:AT:=mkt 0x1f61f03967a86af19e8e8fb2a8
def QGE:AT:=mkt 0x603900e8
def QGD:AT:=mkt 0x127be400f0
def QGC:AT:=mkt 0x2c3621c0be4abd2410370
def QGB:AT:=mkt 0x33daf70ac525f82d0
def QGA:AT:=mkt 0x848e53a0b3e1d0715ebc3a0
def Qv9:AT:=mkt 0x64ba4201
def QqT:AT:=mkt 0xb3158a57d12420080489
def QqS:AT:=mkt 0xa57970e6da456e572c2acc5f1c0499
def QqR:AT:=mkt 0x1ebe688319ed07f12e16e6e90d474ae4d0c5d8041caa42062ed1260871
def QqQ:AT:=mkt 0xa7b06ec5867d185df79936dc619
def QqP:AT:=mkt 0xc0d1a7b90190
def QqO:AT:=mkt 0x4646c8cc4bd4e9667eec5c71b1e2427578fdf16093a
def QqN:AT:=mkt 0x467f452e40c640ae13687182ddd874c7b1160b52
def QqM:AT:=mkt 0x132cf9749a39a584420c93e834d1e2e63b57a0f64ad8a59e93af885f40f72
def QqL:AT:=mkt 0x344c20dd070ef2605a2
def Qwb:AT:=mkt 0x93674f7cb8d04530ad46a405aa
def Qwa:AT:=mkt 0x33d9749da21d145c07ba
def Qbk:AF:=⟨56,[.tmp 2,.tmp 3],
 (zg QGI []
 (.seq (zg QGH [10,11]
 (zw 12
 (zg QGG []
 .ret)
 .skip))
 (zg QGF [13]
 (zg QGE []
 (.seq (zg QGD []
 (.block 0 (.loop (.seq (zg QGC [14,15,16]
 (zw 17
 .skip
 (.exit 0)))
 (.block 1 (zg QGB [18,19]
 (zg QGA [20]
 (.block 2 (.loop (zg Qv9 []
 (.seq (zw 24
 .skip
 (.exit 2))
 (.seq (.block 3 (zg QqT [25,26]
 (.seq (zg QqS [27,28]
 (zw 29
 (.exit 3)
 .skip))
 (zg QqR [30,31,32,33]
 (.block 4 (zg QqQ [35,36,37]
 (zw 34
 (zg QqP []
 .ret)
 (zg QqO [39,40,41]
 (zw 38
 (zg QqN [42,43,44,45]
 (.reg QqM [46,47,48,49,50,51]))
 .skip)))))))))
 (.reg QqL [52])))))))))))))
 (zg Qwb [53,54]
 (zg Qwa [55]
 .ret)))))))⟩
abbrev QcN:Nat:=49
def QGz:AT:=mkt 0x163f946e9b198
def QGy:AT:=mkt 0x2c32471e5103934dce96b5504ed7b1bd8930ccb40f988c328
def QGx:AT:=mkt 0x2f2b00e0
def QGw:AT:=mkt 0xbb207f3a41c8
def QGv:AT:=mkt 0xa614f0c1effaec1e0
def QGu:AT:=mkt 0x47b200e0
def QGt:AT:=mkt 0x13adddf6f40360241f0
def QGs:AT:=mkt 0xaa050a32bebd5b80ac802bc378
def QGr:AT:=mkt 0x1ab537ad3aa19024218
def QGq:AT:=mke 0x134affda155a58b7b69977685679483f4ff9991eb685407e917efd9e4d21 (mkt 0x807139dd7e09d9928659bd9334ee6f8ee8e731)
def Qv8:AT:=mkt 0x1647ffb3b57422c3c399
def Qv7:AT:=mke 0xb6114d7576366c4ae9b0ac4a842b00542391ff2b89a89181e51563c9fad21522 (mkt 0x81603b80108407eda4212e16c123c78bca1e0396f772e2f678404ee137aaf98cab43c7b0eb1772)
def Qv6:AT:=mkt 0x2f2b00e0
def Qai:AF:=⟨56,[.tmp 4],
 (zg QGz []
 (.seq (zg QGy [5,6,7]
 (zw 8
 (zg QGx []
 .ret)
 .skip))
 (.seq (zg QGw [9]
 (.block 0 (zg QGv [12]
 (zw 11
 (zg QGu []
 .ret)
 (zg QGt [14]
 (zw 13
 (zg QGs [15,16,17]
 .ret)
 (zg QGr [19]
 (zw 18
 (zg QGq [20,21,22,23,24,25,26,27,28,29,30,31,32,33]
 .ret)
 (zg Qv8 [35]
 (zw 34
 (zg Qv7 [36,37,38,39,40,41,42,43,44,45,46,47,48,49,50,51,52,53,54,55]
 .ret)
 .skip))))))))))
 (zg Qv6 []
 .ret))))⟩
abbrev Qed:Nat:=50
def QGp:AT:=mkt 0xa708b9faa29b198
def QGo:AT:=mkt 0x1cd4a01bd7c831ca9e9b8a40de802bc340
def QGn:AT:=mkt 0xbb207f3a41d8
def QGm:AT:=mkt 0xc1c39cbb7ffaec1f0
def QGl:AT:=mkt 0xad995e7981f8
def QGk:AT:=mkt 0x17e57a29f8f963b4208
def QGj:AT:=mke 0x69a8150 (.rd (some 19) none (.bin .add (.c (.str [115])) (.t 18))
 (.rd (some 6) none (.mov (.t 19))
 .done))
def QGi:AT:=mkt 0x1d84f524934793b4228
def QGh:AT:=mke 0x1cf19c661d4219588acff30c471 (.rd (some 25) none (.bin .add (.c (.str [97])) (.t 24))
 (.rd (some 26) none (.bin .add (.t 25) (.c (.str [118])))
 (.rd (some 27) none (.mov (.t 7))
 (.rd (some 28) none (.bin .add (.t 26) (.t 27))
 (.rd (some 29) none (.bin .add (.t 28) (.c (.str [91])))
 (.rd (some 30) none (.mov (.t 2))
 (.rd (some 31) none (.bin .add (.t 29) (.t 30))
 (.rd (some 32) none (.bin .add (.t 31) (.c (.str [93])))
 (.rd (some 6) none (.mov (.t 32))
 .done)))))))))
def QGg:AT:=mke 0x284030a (.rd (some 34) none (.bin .add (.c (.str [40])) (.t 33))
 (.rd (some 35) none (.bin .add (.t 34) (.c (.str [32])))
 (.rd (some 36) none (.faddr 3 (.t 3))
 (.rd (some 37) none (.load false 1 (.t 36))
 (.cl false (some 38) none (.c (.fn (.func 83) [] [])) [(.t 37)]
 (.rd (some 39) none (.bin .add (.t 35) (.t 38))
 (.rd (some 40) none (.bin .add (.t 39) (.c (.str [32])))
 (.rd (some 41) none (.mov (.t 2))
 (.rd (some 42) none (.bin .add (.t 40) (.t 41))
 (.rd (some 43) none (.bin .add (.t 42) (.c (.str [41])))
 (.rd (some 6) none (.mov (.t 43))
 .done)))))))))))
def Qc0:AF:=⟨44,[.tmp 6],
 (zg QGp []
 (zg QGo [8,9,10]
 (.seq (zg QGn [11]
 (.block 0 (zg QGm [14]
 (zw 13
 (zg QGl [15]
 .ret)
 (zg QGk [17]
 (zw 16
 (zg QGj [18,19]
 .ret)
 (zg QGi [21]
 (zw 20
 (zg QGh [22,23,24,25,26,27,28,29,30,31,32]
 .ret)
 .skip))))))))
 (zg QGg [33,34,35,36,37,38,39,40,41,42,43]
 .ret))))⟩
abbrev QjF:Nat:=51
def QGf:AT:=mkt 0x2d62e7629b188
def QGe:AT:=mkt 0x7329dfa4198
def QGd:AT:=mkt 0x5308edbfcaeaec1b0
def QGc:AT:=mkt 0x8b04ea26d32c5dcc92416340485619b1c338
def QGb:AT:=mkt 0xf7641dbc11db5741d8
def QGa:AT:=mkt 0xd9c618e35db4de3df7fd2a68f4504bbfb34dd750deb18c044e0
def QF9:AT:=mkt 0x603900d0
def Qc1:AF:=⟨17,[.tmp 2],
 (zg QGf []
 (.seq (zg QGe [3]
 (.block 0 (zg QGd [6]
 (zw 5
 (zg QGc [7,8,9]
 .ret)
 (zg QGb [11]
 (zw 10
 (zg QGa [12,13,14,15,16]
 .ret)
 .skip))))))
 (zg QF9 []
 .ret)))⟩
abbrev QjG:Nat:=52
def QF8:AT:=mkt 0x4414f4b64bb190
def QF7:AT:=mkt 0x261946f467a86e0efed837b290
def QF6:AT:=mkt 0x16c2e1ba30f0
def QF5:AT:=mkt 0xa626a901105430f8
def QF4:AT:=mkt 0x1e21208cced4a306014088d81d8
def QF3:AT:=mkt 0x176b4c6f1349982a0
def QF2:AT:=mkt 0x3c6fc138
def QF1:AT:=mkt 0x1a1a71a7a63c22f802c0
def QF0:AT:=mkt 0x3aabf65f4edf2842d0
def QFZ:AT:=mkt 0x760c048ad0d7dc228
def Qv5:AT:=mkt 0x1b0175e45805e84230
def Qv4:AT:=mkt 0x74d047db1adc341
def ZC:AF:=⟨25,[.tmp 4],
 (zg QF8 []
 (zg QF7 [10]
 (zg QF6 []
 (zg QF5 []
 (zg QF4 [11]
 (.seq (zg QF3 []
 (.block 0 (.loop (zg QF2 []
 (.seq (zw 15
 .skip
 (.exit 0))
 (.seq (.block 1 (zg QF1 [16,17]
 (.reg QF0 [18,19,20])))
 (.reg QFZ [21])))))))
 (zg Qv5 [22,23]
 (zg Qv4 [24]
 .ret))))))))⟩
abbrev Y2:Nat:=53
def QFY:AT:=mkt 0x2f2b00e0
def QFX:AT:=mkt 0xa2c25cbc9475fd752899ee33fe76969803e8
def QI:AF:=⟨9,[.tmp 4],
 (zg QFY []
 (zg QFX [5,6,7,8]
 .ret))⟩
abbrev Yi:Nat:=54
def QFW:AT:=mkt 0x2f2b00e0
def QFV:AT:=mkt 0x3335de73c67f33a6e685cd4edd212729a461d32dd134a96ec1e059612db1bf0298b3bfc189ad55c0940
def QFU:AT:=mkt 0x6d19e43deb32d3ead9fe6efc6500288f22c6e92471efc0497b7b6228885e97a4740
def Y8:AF:=⟨24,[.tmp 4],
 (zg QFW []
 (zg QFV [8,9,10,11,12,13,7,14,15,6]
 (zg QFU [16,17,18,19,20,21,22,23]
 .ret)))⟩
abbrev XA:Nat:=55
def QFT:AT:=mke 0x3fa32a02ac06ca88988b1b0 (.wr false (some 8) none (.new 85 (List.replicate 64 [(.int .i64 0)]).flatten)
 (.rd (some 9) none (.mov (.c (.bool false)))
 .done))
def QFS:AT:=mkt 0x10a929e00110
def QFR:AT:=mkt 0xf18118
def QFQ:AT:=mkt 0x13adddeb0af831ec1f0
def QFP:AT:=mkt 0xc53d2e3ec0f30131117e8d0e8e29189636431567012bfca30c81fc0a5254f73d783c0680
def QFO:AT:=mkt 0x2054b29002d661ec238
def QFN:AT:=mkt 0x1599135ec6dacbdd11e36d12a6104812b2b453bc54f24c4cf454e84fcee8a35fc491d7a602d4b930040c09
def QFM:AT:=mkt 0x15020d16d2237df34389
def QFL:AT:=mkt 0x192fa2f08369eac9ccf7bb14c3938ca2312d7a602d4b930040751
def QFK:AT:=mkt 0x18d3e4f3f5ac46f343b9
def Qv3:AT:=mkt 0xe0e287753bba9271c29bd8284bf32677a68342fc1d31f6140e667d851b0720d42
def Qv2:AT:=mkt 0xb916008c78fc12520572
def Qv1:AT:=mkt 0xe0e287753c195bd9a20153222c4c34518b2528a98d140e667d851b0720d7a
def Qv0:AT:=mkt 0xd5405baa48d7da5205aa
def QvZ:AT:=mkt 0xe0e287753c7825418166ce1c0ca4e671aac19e44916436140e667d851b0720db2
def QvY:AT:=mkt 0xf16ab6c818b3a25205e2
def QvX:AT:=mkt 0xd07a87d84062dc24b18c05136f47addf48ea4876f373296ea440d9d9b010eb
def QvW:AT:=mkt 0x52538b8fbb80b617b0813
def QvV:AT:=mkt 0xd07a87d84062dc1c5f6b9fc01a59c2aff99a4876f373296ea440d9d9b0111b
def QvU:AT:=mkt 0x59cf8298f88d28d7b0843
def QvT:AT:=mkt 0x5190e7e7fd81516b67acb08f4ce5edc2869e90d3c7ef834169686010c43b7167dc5296ea440d9d9b0174b
def QvS:AT:=mkt 0x63ca214f13001b97b0883
def QvR:AT:=mkt 0xdcb610b5d9d532ac5571935a1272526a9987051b0816da048e0cd93e8e031bfff86a08529c2c769de82f2c0208b
def QvQ:AT:=mkt 0x7182bb88798cce57b08db
def QvP:AT:=mkt 0x4881960d1196de0cf23e6426243b8a2ec8a055860cee85b6d8e08acfc6bbc86401ae4
def QvO:AT:=mkt 0x17e646e208431e04a40b14
def QvN:AT:=mkt 0x11198fc3550a12f6d25988bcc471ac25e41de871aff0d6d958e08acfc6bbc86401f1c
def QvM:AT:=(.rd (some 12) none (.build (List.replicate 64 [(.int .i64 0)]).flatten [])
 (.wr false none none (.store 64 (.t 8) (.t 12))
 (.rd (some 9) none (.mov (.c (.bool false)))
 .done)))
def QvL:AT:=mkt 0xa7ff405c87765793f01030a360e40f4c
def Qs:AF:=⟨106,[.cell 8 true 64,.tmp 9],
 (zg QFT []
 (zg QFS []
 (.seq (zg QFR []
 (.block 0 (zg QFQ [14]
 (zw 13
 (.reg QFP [16,17,18,19,15,20,21])
 (zg QFO [23]
 (zw 22
 (.reg QFN [25,26,27,28,29,24,30,31])
 (zg QFM [33]
 (zw 32
 (.reg QFL [34,35,36,37])
 (zg QFK [39]
 (zw 38
 (.reg Qv3 [40,41,42,43,44])
 (zg Qv2 [46]
 (zw 45
 (.reg Qv1 [47,48,49,50,51])
 (zg Qv0 [53]
 (zw 52
 (.reg QvZ [54,55,56,57,58])
 (zg QvY [60]
 (zw 59
 (.reg QvX [61,62,63,64])
 (zg QvW [66]
 (zw 65
 (.reg QvV [67,68,69,70])
 (zg QvU [72]
 (zw 71
 (.reg QvT [73,74,75,76,77,78])
 (zg QvS [80]
 (zw 79
 (.reg QvR [81,82,83,84,85,86,87,88,89])
 (zg QvQ [91]
 (zw 90
 (.reg QvP [92,93,94,95,96])
 (zg QvO [98]
 (zw 97
 (.reg QvN [99,100,101,102,103,104])
 (zg QvM [12]
 .ret)))))))))))))))))))))))))))
 (zg QvL [105]
 .ret))))⟩
abbrev Qp:Nat:=56
def QFJ:AT:=(.wr false (some 4) none (.new 85 (List.replicate 64 [(.int .i64 0)]).flatten)
 .done)
def QFI:AT:=mkt 0xc25500f0
def QFH:AT:=mkt 0x76fd4a769040f8
def QFG:AT:=mkt 0x5c9af20401c0
def QFF:AT:=mkt 0x13b5c40e37d21c396091ad6bda586101e94c65fec52bd787a234290c62649da9db0ba5884c201e8f0d6472cd2a378890
def QFE:AT:=mkt 0x6ac53dbc06c99c218
def QFD:AT:=mkt 0x50fd3465904c21ea22ac220
def YD:AF:=⟨21,[.cell 4 true 64],
 (zg QFJ []
 (.seq (zg QFI []
 (.block 0 (.loop (zg QFH []
 (.seq (zw 7
 .skip
 (.exit 0))
 (.seq (.block 1 (zg QFG [8]
 (.reg QFF [10,11,12,13,14,15,9,16,17,18])))
 (.reg QFE [19])))))))
 (zg QFD [20]
 .ret)))⟩
abbrev ZL:Nat:=57
def QFC:AT:=mkt 0x3fa32a02ac0b6a9b1b0
def QFB:AT:=mkt 0x27525b593a1452aab25b09f9c04f8
def QFA:AT:=mkt 0x3c6fc168
def QFz:AT:=mkt 0x234fd1920b44a07802f0
def QFy:AT:=mkt 0xf6977a9107379d90b20644125bcd811274c9e1df981971572b995403147cdc3ef06ea458145efa0e40fc9
def QFx:AT:=mkt 0x13db78abb7ddc24f666d94cf3401b58eaf0ff2661226d0afec03af073ec082972d4e190a
def QFw:AT:=(.rd (some 45) none (.mov (.t 0))
 (.rd (some 46) none (.mov (.t 0))
 (.rd (some 47) none (.nilc (.t 46))
 (.rd (some 48) none (.faddr 4 (.t 47))
 (.rd (some 49) none (.load false 1 (.t 48))
 (.rd (some 50) none (.faddr 5 (.t 6))
 (.rd (some 51) none (.load false 1 (.t 50))
 (.rd (some 52) none (.look false false [.i] (.agg [(.int .i64 0),(.int .i64 0),(.int .i64 0),(.int .i64 0),(.int .i64 0),(.int .i64 0),(.int .i64 0),(.int .i64 0),(.int .i64 0),(.int .i64 0),(.int .i64 0),(.int .i64 0),(.int .i64 0),(.int .i64 0),(.int .i64 0),(.int .i64 0),(.int .i64 0),(.int .i64 0),(.int .i64 0),(.int .i64 0),(.int .i64 0),(.int .i64 0),(.int .i64 0),(.int .i64 0),(.int .i64 0),(.int .i64 0),(.int .i64 0),(.int .i64 0),(.int .i64 0),(.int .i64 0),(.int .i64 0),(.int .i64 0),(.int .i64 0),(.int .i64 0),(.int .i64 0),(.int .i64 0),(.int .i64 0),(.int .i64 0),(.int .i64 0),(.int .i64 0),(.int .i64 0),(.int .i64 0),(.int .i64 0),(.int .i64 0),(.int .i64 0),(.int .i64 0),(.int .i64 0),(.int .i64 0),(.int .i64 0),(.int .i64 0),(.int .i64 0),(.int .i64 0),(.int .i64 0),(.int .i64 0),(.int .i64 0),(.int .i64 0),(.int .i64 0),(.int .i64 0),(.int .i64 0),(.int .i64 0),(.int .i64 0),(.int .i64 0),(.int .i64 0),(.int .i64 0)]) (.t 49) (.t 51))
 (.rd (some 53) none (.mov (.t 0))
 (.rd (some 54) none (.nilc (.t 53))
 (.rd (some 55) none (.faddr 4 (.t 54))
 (.rd (some 56) none (.load false 1 (.t 55))
 (.rd (some 57) none (.faddr 5 (.t 10))
 (.rd (some 58) none (.load false 1 (.t 57))
 (.rd (some 59) none (.look false false [.i] (.agg [(.int .i64 0),(.int .i64 0),(.int .i64 0),(.int .i64 0),(.int .i64 0),(.int .i64 0),(.int .i64 0),(.int .i64 0),(.int .i64 0),(.int .i64 0),(.int .i64 0),(.int .i64 0),(.int .i64 0),(.int .i64 0),(.int .i64 0),(.int .i64 0),(.int .i64 0),(.int .i64 0),(.int .i64 0),(.int .i64 0),(.int .i64 0),(.int .i64 0),(.int .i64 0),(.int .i64 0),(.int .i64 0),(.int .i64 0),(.int .i64 0),(.int .i64 0),(.int .i64 0),(.int .i64 0),(.int .i64 0),(.int .i64 0),(.int .i64 0),(.int .i64 0),(.int .i64 0),(.int .i64 0),(.int .i64 0),(.int .i64 0),(.int .i64 0),(.int .i64 0),(.int .i64 0),(.int .i64 0),(.int .i64 0),(.int .i64 0),(.int .i64 0),(.int .i64 0),(.int .i64 0),(.int .i64 0),(.int .i64 0),(.int .i64 0),(.int .i64 0),(.int .i64 0),(.int .i64 0),(.int .i64 0),(.int .i64 0),(.int .i64 0),(.int .i64 0),(.int .i64 0),(.int .i64 0),(.int .i64 0),(.int .i64 0),(.int .i64 0),(.int .i64 0),(.int .i64 0)]) (.t 56) (.t 58))
 (.rd (some 61) none (.mov (.t 0))
 (.rd (some 62) none (.nilc (.t 61))
 (.rd (some 63) none (.faddr 4 (.t 62))
 (.rd (some 65) none (.mov (.t 9))
 (.alt (.cl false (some 60) none (.c (.fn (.func 32) [] [])) [(.t 45),(.t 52),(.t 59)]
 (.alt (.rd (some 64) none (.load false 1 (.t 63))
 (.alt (.rd (some 66) none (.look false false [.i] (.agg [(.int .i64 0),(.int .i64 0),(.int .i64 0),(.int .i64 0),(.int .i64 0),(.int .i64 0),(.int .i64 0),(.int .i64 0),(.int .i64 0),(.int .i64 0),(.int .i64 0),(.int .i64 0),(.int .i64 0),(.int .i64 0),(.int .i64 0),(.int .i64 0),(.int .i64 0),(.int .i64 0),(.int .i64 0),(.int .i64 0),(.int .i64 0),(.int .i64 0),(.int .i64 0),(.int .i64 0),(.int .i64 0),(.int .i64 0),(.int .i64 0),(.int .i64 0),(.int .i64 0),(.int .i64 0),(.int .i64 0),(.int .i64 0),(.int .i64 0),(.int .i64 0),(.int .i64 0),(.int .i64 0),(.int .i64 0),(.int .i64 0),(.int .i64 0),(.int .i64 0),(.int .i64 0),(.int .i64 0),(.int .i64 0),(.int .i64 0),(.int .i64 0),(.int .i64 0),(.int .i64 0),(.int .i64 0),(.int .i64 0),(.int .i64 0),(.int .i64 0),(.int .i64 0),(.int .i64 0),(.int .i64 0),(.int .i64 0),(.int .i64 0),(.int .i64 0),(.int .i64 0),(.int .i64 0),(.int .i64 0),(.int .i64 0),(.int .i64 0),(.int .i64 0),(.int .i64 0)]) (.t 64) (.t 65))
 (.wr true (some 13) none (.new 85 (List.replicate 64 [(.int .i64 0)]).flatten)
 (.rd (some 12) none (.mov (.t 60))
 (.wr false none none (.store 64 (.t 13) (.t 66))
 .done)))) (.wr true (some 13) none (.new 85 (List.replicate 64 [(.int .i64 0)]).flatten)
 (.rd (some 12) none (.mov (.t 60))
 (.rd (some 66) none (.look false false [.i] (.agg [(.int .i64 0),(.int .i64 0),(.int .i64 0),(.int .i64 0),(.int .i64 0),(.int .i64 0),(.int .i64 0),(.int .i64 0),(.int .i64 0),(.int .i64 0),(.int .i64 0),(.int .i64 0),(.int .i64 0),(.int .i64 0),(.int .i64 0),(.int .i64 0),(.int .i64 0),(.int .i64 0),(.int .i64 0),(.int .i64 0),(.int .i64 0),(.int .i64 0),(.int .i64 0),(.int .i64 0),(.int .i64 0),(.int .i64 0),(.int .i64 0),(.int .i64 0),(.int .i64 0),(.int .i64 0),(.int .i64 0),(.int .i64 0),(.int .i64 0),(.int .i64 0),(.int .i64 0),(.int .i64 0),(.int .i64 0),(.int .i64 0),(.int .i64 0),(.int .i64 0),(.int .i64 0),(.int .i64 0),(.int .i64 0),(.int .i64 0),(.int .i64 0),(.int .i64 0),(.int .i64 0),(.int .i64 0),(.int .i64 0),(.int .i64 0),(.int .i64 0),(.int .i64 0),(.int .i64 0),(.int .i64 0),(.int .i64 0),(.int .i64 0),(.int .i64 0),(.int .i64 0),(.int .i64 0),(.int .i64 0),(.int .i64 0),(.int .i64 0),(.int .i64 0),(.int .i64 0)]) (.t 64) (.t 65))
 (.wr false none none (.store 64 (.t 13) (.t 66))
 .done)))))) (.wr true (some 13) none (.new 85 (List.replicate 64 [(.int .i64 0)]).flatten)
 (.rd (some 12) none (.mov (.t 60))
 (.rd (some 64) none (.load false 1 (.t 63))
 (.rd (some 66) none (.look false false [.i] (.agg [(.int .i64 0),(.int .i64 0),(.int .i64 0),(.int .i64 0),(.int .i64 0),(.int .i64 0),(.int .i64 0),(.int .i64 0),(.int .i64 0),(.int .i64 0),(.int .i64 0),(.int .i64 0),(.int .i64 0),(.int .i64 0),(.int .i64 0),(.int .i64 0),(.int .i64 0),(.int .i64 0),(.int .i64 0),(.int .i64 0),(.int .i64 0),(.int .i64 0),(.int .i64 0),(.int .i64 0),(.int .i64 0),(.int .i64 0),(.int .i64 0),(.int .i64 0),(.int .i64 0),(.int .i64 0),(.int .i64 0),(.int .i64 0),(.int .i64 0),(.int .i64 0),(.int .i64 0),(.int .i64 0),(.int .i64 0),(.int .i64 0),(.int .i64 0),(.int .i64 0),(.int .i64 0),(.int .i64 0),(.int .i64 0),(.int .i64 0),(.int .i64 0),(.int .i64 0),(.int .i64 0),(.int .i64 0),(.int .i64 0),(.int .i64 0),(.int .i64 0),(.int .i64 0),(.int .i64 0),(.int .i64 0),(.int .i64 0),(.int .i64 0),(.int .i64 0),(.int .i64 0),(.int .i64 0),(.int .i64 0),(.int .i64 0),(.int .i64 0),(.int .i64 0),(.int .i64 0)]) (.t 64) (.t 65))
 (.wr false none none (.store 64 (.t 13) (.t 66))
 .done))))))) (.alt (.rd (some 64) none (.load false 1 (.t 63))
 (.alt (.cl false (some 60) none (.c (.fn (.func 32) [] [])) [(.t 45),(.t 52),(.t 59)]
 (.alt (.rd (some 66) none (.look false false [.i] (.agg [(.int .i64 0),(.int .i64 0),(.int .i64 0),(.int .i64 0),(.int .i64 0),(.int .i64 0),(.int .i64 0),(.int .i64 0),(.int .i64 0),(.int .i64 0),(.int .i64 0),(.int .i64 0),(.int .i64 0),(.int .i64 0),(.int .i64 0),(.int .i64 0),(.int .i64 0),(.int .i64 0),(.int .i64 0),(.int .i64 0),(.int .i64 0),(.int .i64 0),(.int .i64 0),(.int .i64 0),(.int .i64 0),(.int .i64 0),(.int .i64 0),(.int .i64 0),(.int .i64 0),(.int .i64 0),(.int .i64 0),(.int .i64 0),(.int .i64 0),(.int .i64 0),(.int .i64 0),(.int .i64 0),(.int .i64 0),(.int .i64 0),(.int .i64 0),(.int .i64 0),(.int .i64 0),(.int .i64 0),(.int .i64 0),(.int .i64 0),(.int .i64 0),(.int .i64 0),(.int .i64 0),(.int .i64 0),(.int .i64 0),(.int .i64 0),(.int .i64 0),(.int .i64 0),(.int .i64 0),(.int .i64 0),(.int .i64 0),(.int .i64 0),(.int .i64 0),(.int .i64 0),(.int .i64 0),(.int .i64 0),(.int .i64 0),(.int .i64 0),(.int .i64 0),(.int .i64 0)]) (.t 64) (.t 65))
 (.wr true (some 13) none (.new 85 (List.replicate 64 [(.int .i64 0)]).flatten)
 (.rd (some 12) none (.mov (.t 60))
 (.wr false none none (.store 64 (.t 13) (.t 66))
 .done)))) (.wr true (some 13) none (.new 85 (List.replicate 64 [(.int .i64 0)]).flatten)
 (.rd (some 12) none (.mov (.t 60))
 (.rd (some 66) none (.look false false [.i] (.agg [(.int .i64 0),(.int .i64 0),(.int .i64 0),(.int .i64 0),(.int .i64 0),(.int .i64 0),(.int .i64 0),(.int .i64 0),(.int .i64 0),(.int .i64 0),(.int .i64 0),(.int .i64 0),(.int .i64 0),(.int .i64 0),(.int .i64 0),(.int .i64 0),(.int .i64 0),(.int .i64 0),(.int .i64 0),(.int .i64 0),(.int .i64 0),(.int .i64 0),(.int .i64 0),(.int .i64 0),(.int .i64 0),(.int .i64 0),(.int .i64 0),(.int .i64 0),(.int .i64 0),(.int .i64 0),(.int .i64 0),(.int .i64 0),(.int .i64 0),(.int .i64 0),(.int .i64 0),(.int .i64 0),(.int .i64 0),(.int .i64 0),(.int .i64 0),(.int .i64 0),(.int .i64 0),(.int .i64 0),(.int .i64 0),(.int .i64 0),(.int .i64 0),(.int .i64 0),(.int .i64 0),(.int .i64 0),(.int .i64 0),(.int .i64 0),(.int .i64 0),(.int .i64 0),(.int .i64 0),(.int .i64 0),(.int .i64 0),(.int .i64 0),(.int .i64 0),(.int .i64 0),(.int .i64 0),(.int .i64 0),(.int .i64 0),(.int .i64 0),(.int .i64 0),(.int .i64 0)]) (.t 64) (.t 65))
 (.wr false none none (.store 64 (.t 13) (.t 66))
 .done)))))) (.alt (.rd (some 66) none (.look false false [.i] (.agg [(.int .i64 0),(.int .i64 0),(.int .i64 0),(.int .i64 0),(.int .i64 0),(.int .i64 0),(.int .i64 0),(.int .i64 0),(.int .i64 0),(.int .i64 0),(.int .i64 0),(.int .i64 0),(.int .i64 0),(.int .i64 0),(.int .i64 0),(.int .i64 0),(.int .i64 0),(.int .i64 0),(.int .i64 0),(.int .i64 0),(.int .i64 0),(.int .i64 0),(.int .i64 0),(.int .i64 0),(.int .i64 0),(.int .i64 0),(.int .i64 0),(.int .i64 0),(.int .i64 0),(.int .i64 0),(.int .i64 0),(.int .i64 0),(.int .i64 0),(.int .i64 0),(.int .i64 0),(.int .i64 0),(.int .i64 0),(.int .i64 0),(.int .i64 0),(.int .i64 0),(.int .i64 0),(.int .i64 0),(.int .i64 0),(.int .i64 0),(.int .i64 0),(.int .i64 0),(.int .i64 0),(.int .i64 0),(.int .i64 0),(.int .i64 0),(.int .i64 0),(.int .i64 0),(.int .i64 0),(.int .i64 0),(.int .i64 0),(.int .i64 0),(.int .i64 0),(.int .i64 0),(.int .i64 0),(.int .i64 0),(.int .i64 0),(.int .i64 0),(.int .i64 0),(.int .i64 0)]) (.t 64) (.t 65))
 (.alt (.cl false (some 60) none (.c (.fn (.func 32) [] [])) [(.t 45),(.t 52),(.t 59)]
 (.wr true (some 13) none (.new 85 (List.replicate 64 [(.int .i64 0)]).flatten)
 (.rd (some 12) none (.mov (.t 60))
 (.wr false none none (.store 64 (.t 13) (.t 66))
 .done)))) (.wr true (some 13) none (.new 85 (List.replicate 64 [(.int .i64 0)]).flatten)
 (.cl false (some 60) none (.c (.fn (.func 32) [] [])) [(.t 45),(.t 52),(.t 59)]
 (.rd (some 12) none (.mov (.t 60))
 (.wr false none none (.store 64 (.t 13) (.t 66))
 .done)))))) (.wr true (some 13) none (.new 85 (List.replicate 64 [(.int .i64 0)]).flatten)
 (.alt (.cl false (some 60) none (.c (.fn (.func 32) [] [])) [(.t 45),(.t 52),(.t 59)]
 (.rd (some 12) none (.mov (.t 60))
 (.rd (some 66) none (.look false false [.i] (.agg [(.int .i64 0),(.int .i64 0),(.int .i64 0),(.int .i64 0),(.int .i64 0),(.int .i64 0),(.int .i64 0),(.int .i64 0),(.int .i64 0),(.int .i64 0),(.int .i64 0),(.int .i64 0),(.int .i64 0),(.int .i64 0),(.int .i64 0),(.int .i64 0),(.int .i64 0),(.int .i64 0),(.int .i64 0),(.int .i64 0),(.int .i64 0),(.int .i64 0),(.int .i64 0),(.int .i64 0),(.int .i64 0),(.int .i64 0),(.int .i64 0),(.int .i64 0),(.int .i64 0),(.int .i64 0),(.int .i64 0),(.int .i64 0),(.int .i64 0),(.int .i64 0),(.int .i64 0),(.int .i64 0),(.int .i64 0),(.int .i64 0),(.int .i64 0),(.int .i64 0),(.int .i64 0),(.int .i64 0),(.int .i64 0),(.int .i64 0),(.int .i64 0),(.int .i64 0),(.int .i64 0),(.int .i64 0),(.int .i64 0),(.int .i64 0),(.int .i64 0),(.int .i64 0),(.int .i64 0),(.int .i64 0),(.int .i64 0),(.int .i64 0),(.int .i64 0),(.int .i64 0),(.int .i64 0),(.int .i64 0),(.int .i64 0),(.int .i64 0),(.int .i64 0),(.int .i64 0)]) (.t 64) (.t 65))
 (.wr false none none (.store 64 (.t 13) (.t 66))
 .done)))) (.rd (some 66) none (.look false false [.i] (.agg [(.int .i64 0),(.int .i64 0),(.int .i64 0),(.int .i64 0),(.int .i64 0),(.int .i64 0),(.int .i64 0),(.int .i64 0),(.int .i64 0),(.int .i64 0),(.int .i64 0),(.int .i64 0),(.int .i64 0),(.int .i64 0),(.int .i64 0),(.int .i64 0),(.int .i64 0),(.int .i64 0),(.int .i64 0),(.int .i64 0),(.int .i64 0),(.int .i64 0),(.int .i64 0),(.int .i64 0),(.int .i64 0),(.int .i64 0),(.int .i64 0),(.int .i64 0),(.int .i64 0),(.int .i64 0),(.int .i64 0),(.int .i64 0),(.int .i64 0),(.int .i64 0),(.int .i64 0),(.int .i64 0),(.int .i64 0),(.int .i64 0),(.int .i64 0),(.int .i64 0),(.int .i64 0),(.int .i64 0),(.int .i64 0),(.int .i64 0),(.int .i64 0),(.int .i64 0),(.int .i64 0),(.int .i64 0),(.int .i64 0),(.int .i64 0),(.int .i64 0),(.int .i64 0),(.int .i64 0),(.int .i64 0),(.int .i64 0),(.int .i64 0),(.int .i64 0),(.int .i64 0),(.int .i64 0),(.int .i64 0),(.int .i64 0),(.int .i64 0),(.int .i64 0),(.int .i64 0)]) (.t 64) (.t 65))
 (.cl false (some 60) none (.c (.fn (.func 32) [] [])) [(.t 45),(.t 52),(.t 59)]
 (.rd (some 12) none (.mov (.t 60))
 (.wr false none none (.store 64 (.t 13) (.t 66))
 .done))))))))) (.wr true (some 13) none (.new 85 (List.replicate 64 [(.int .i64 0)]).flatten)
 (.alt (.cl false (some 60) none (.c (.fn (.func 32) [] [])) [(.t 45),(.t 52),(.t 59)]
 (.rd (some 12) none (.mov (.t 60))
 (.rd (some 64) none (.load false 1 (.t 63))
 (.rd (some 66) none (.look false false [.i] (.agg [(.int .i64 0),(.int .i64 0),(.int .i64 0),(.int .i64 0),(.int .i64 0),(.int .i64 0),(.int .i64 0),(.int .i64 0),(.int .i64 0),(.int .i64 0),(.int .i64 0),(.int .i64 0),(.int .i64 0),(.int .i64 0),(.int .i64 0),(.int .i64 0),(.int .i64 0),(.int .i64 0),(.int .i64 0),(.int .i64 0),(.int .i64 0),(.int .i64 0),(.int .i64 0),(.int .i64 0),(.int .i64 0),(.int .i64 0),(.int .i64 0),(.int .i64 0),(.int .i64 0),(.int .i64 0),(.int .i64 0),(.int .i64 0),(.int .i64 0),(.int .i64 0),(.int .i64 0),(.int .i64 0),(.int .i64 0),(.int .i64 0),(.int .i64 0),(.int .i64 0),(.int .i64 0),(.int .i64 0),(.int .i64 0),(.int .i64 0),(.int .i64 0),(.int .i64 0),(.int .i64 0),(.int .i64 0),(.int .i64 0),(.int .i64 0),(.int .i64 0),(.int .i64 0),(.int .i64 0),(.int .i64 0),(.int .i64 0),(.int .i64 0),(.int .i64 0),(.int .i64 0),(.int .i64 0),(.int .i64 0),(.int .i64 0),(.int .i64 0),(.int .i64 0),(.int .i64 0)]) (.t 64) (.t 65))
 (.wr false none none (.store 64 (.t 13) (.t 66))
 .done))))) (.rd (some 64) none (.load false 1 (.t 63))
 (.alt (.cl false (some 60) none (.c (.fn (.func 32) [] [])) [(.t 45),(.t 52),(.t 59)]
 (.rd (some 12) none (.mov (.t 60))
 (.rd (some 66) none (.look false false [.i] (.agg [(.int .i64 0),(.int .i64 0),(.int .i64 0),(.int .i64 0),(.int .i64 0),(.int .i64 0),(.int .i64 0),(.int .i64 0),(.int .i64 0),(.int .i64 0),(.int .i64 0),(.int .i64 0),(.int .i64 0),(.int .i64 0),(.int .i64 0),(.int .i64 0),(.int .i64 0),(.int .i64 0),(.int .i64 0),(.int .i64 0),(.int .i64 0),(.int .i64 0),(.int .i64 0),(.int .i64 0),(.int .i64 0),(.int .i64 0),(.int .i64 0),(.int .i64 0),(.int .i64 0),(.int .i64 0),(.int .i64 0),(.int .i64 0),(.int .i64 0),(.int .i64 0),(.int .i64 0),(.int .i64 0),(.int .i64 0),(.int .i64 0),(.int .i64 0),(.int .i64 0),(.int .i64 0),(.int .i64 0),(.int .i64 0),(.int .i64 0),(.int .i64 0),(.int .i64 0),(.int .i64 0),(.int .i64 0),(.int .i64 0),(.int .i64 0),(.int .i64 0),(.int .i64 0),(.int .i64 0),(.int .i64 0),(.int .i64 0),(.int .i64 0),(.int .i64 0),(.int .i64 0),(.int .i64 0),(.int .i64 0),(.int .i64 0),(.int .i64 0),(.int .i64 0),(.int .i64 0)]) (.t 64) (.t 65))
 (.wr false none none (.store 64 (.t 13) (.t 66))
 .done)))) (.rd (some 66) none (.look false false [.i] (.agg [(.int .i64 0),(.int .i64 0),(.int .i64 0),(.int .i64 0),(.int .i64 0),(.int .i64 0),(.int .i64 0),(.int .i64 0),(.int .i64 0),(.int .i64 0),(.int .i64 0),(.int .i64 0),(.int .i64 0),(.int .i64 0),(.int .i64 0),(.int .i64 0),(.int .i64 0),(.int .i64 0),(.int .i64 0),(.int .i64 0),(.int .i64 0),(.int .i64 0),(.int .i64 0),(.int .i64 0),(.int .i64 0),(.int .i64 0),(.int .i64 0),(.int .i64 0),(.int .i64 0),(.int .i64 0),(.int .i64 0),(.int .i64 0),(.int .i64 0),(.int .i64 0),(.int .i64 0),(.int .i64 0),(.int .i64 0),(.int .i64 0),(.int .i64 0),(.int .i64 0),(.int .i64 0),(.int .i64 0),(.int .i64 0),(.int .i64 0),(.int .i64 0),(.int .i64 0),(.int .i64 0),(.int .i64 0),(.int .i64 0),(.int .i64 0),(.int .i64 0),(.int .i64 0),(.int .i64 0),(.int .i64 0),(.int .i64 0),(.int .i64 0),(.int .i64 0),(.int .i64 0),(.int .i64 0),(.int .i64 0),(.int .i64 0),(.int .i64 0),(.int .i64 0),(.int .i64 0)]) (.t 64) (.t 65))
 (.cl false (some 60) none (.c (.fn (.func 32) [] [])) [(.t 45),(.t 52),(.t 59)]
 (.rd (some 12) none (.mov (.t 60))
 (.wr false none none (.store 64 (.t 13) (.t 66))
 .done)))))))))))))))))))))))))))))
def QFv:AT:=mkt 0xb86d4051b
def Qsw:AT:=mkt 0x701fe91da710523
def Qsv:AT:=mkt 0xbc0fb522fe082b
def QmK:AT:=mkt 0x3080482e78f888761b86f02ff31905577661628e0b3ba84383885d1a42c4d3dc9fbec25ff6bd2ef098730973c70802333
def QmJ:AT:=mkt 0x37431d58c440447c1371d7638ea8761753792bdcbd0a4a2fb2bd03dcf2deaacd723f7b950a928d7898730973c7080238b
def QmI:AT:=mkt 0x1cb014c774ebb15108e3
def QvK:AT:=mkt 0x1cff0ba5e0ce2c6308eb
def QvJ:AT:=mkt 0x9a443a7509737ccbcff7bb9bb23e0d3801a709b30b92e377249ce9fe9ac3f4a6d84002ef4
def YV:AF:=⟨104,[],
 (zg QFC []
 (.seq (zg QFB [15,16,17]
 (.block 0 (.loop (zg QFA []
 (.seq (zw 21
 .skip
 (.exit 0))
 (.seq (.block 1 (zg QFz [22,23]
 (zg QFy [25,26,27,28,29,30,24,31,32,11]
 (.seq (zg QFx [33,34,35,36,37,38,39,40,41,42,43]
 (zw 44
 (.exit 1)
 .skip))
 (zg QFw [45,46,47,48,49,50,51,52,53,54,55,56,57,58,59,60,61,62,63,64,65,66]
 (zg QFv []
 (.block 2 (.loop (zg Qsw []
 (.seq (zw 68
 .skip
 (.exit 2))
 (.seq (.block 3 (zg Qsv [69]
 (zg QmK [70,71,72,73,74,75,76,77,78,79,80]
 (.reg QmJ [81,82,83,84,85,86,87,88,89,90,91]))))
 (.reg QmI [92]))))))))))))
 (.reg QvK [93])))))))
 (.reg QvJ [94,95,96,97,98,99,100,101,102,103])))⟩
abbrev Qab:Nat:=58
def QFu:AT:=mkt 0xc25500f0
def QFt:AT:=mkt 0x12dd8c52d023dd24209d898f95c9db60c3568e5780638
def Zo:AF:=⟨14,[.tmp 6],
 (zg QFu []
 (zg QFt [7,8,9,10,11,12,13]
 .ret))⟩
abbrev QaO:Nat:=59
def QFs:AT:=mkt 0xc25500f0
def QFr:AT:=mkt 0x1868d00f8
def QFq:AT:=mkt 0x3b90856bf581d0
def QFp:AT:=mkt 0x3c82f2e765248f0c0a7dcbe584e0
def QFo:AT:=mkt 0x3b90856ce70200
def QFn:AT:=mkt 0x54b4b2ab1fd95091d522ccd70510
def QFm:AT:=mkt 0xc96c9d087655b58e285b9
def QFl:AT:=mkt 0x5671a38ce79220fdd58491
def QFk:AT:=mkt 0x18057f518fc7eb63e84a9
def QFj:AT:=mkt 0x40949f23daf2b315fbcf10739
def QvI:AT:=mkt 0x1da06e53fbdfd57d104e1
def QvH:AT:=mkt 0x1ec48b71dce41dbb227de40b32
def QvG:AT:=mkt 0x9e82502c50261e9d67c8301fe929c123cb8c4ce5d9df5c47a8ab32bfbf8c35a60c6d40b98cb8fd6ab87683c7ac11545e40401d5a
def QvF:AT:=mkt 0x16a403b2
def QvE:AT:=mkt 0x3e0b645adf51e816721a821a8f15eb5f68b52775fc71c3faf9fdf8000fba
def QvD:AT:=mkt 0x2418966c2e5a3473bee021a73596bab35e103a65d5f457f22223d2f2cbdd5644001cf3
def QvC:AT:=mkt 0x74bed6b521d25905be78d8ecde91ac9680853dd35a5f2bd3f902fe900173b
def QvB:AT:=mkt 0x30cf884140332c379e53ac5f542fdc5dc361590df2b1ed2e515f24d99001773
def QvA:AT:=mkt 0x55d3cfd524dc433fdd00eab
def XM:AF:=⟨88,[.tmp 6],
 (zg QFs []
 (zg QFr []
 (.seq (zg QFq [10]
 (zw 11
 (.reg QFp [12,13,14,15])
 .skip))
 (.seq (zg QFo [16]
 (zw 17
 (.reg QFn [18,19,20,21])
 .skip))
 (.seq (.block 0 (zg QFm [23,24,25]
 (zw 22
 (zg QFl [26,27]
 .ret)
 (zg QFk [29,30]
 (zw 28
 (zg QFj [31,32,33,34]
 .ret)
 (zg QvI [36,37]
 (zw 35
 (zg QvH [38,39,40,41]
 .ret)
 .skip)))))))
 (zg QvG [43,44,45,46,47,48,49,50,51,42,52,53]
 (.seq (zg QvF []
 (zw 54
 (zg QvE [55,56,57,58,59,60,61]
 (zg QvD [62,63,64,65,66,67,68,69,70]
 (zg QvC [71,72,73,74,75,76,77]
 (.reg QvB [78,79,80,81,82,83,84]))))
 .skip))
 (zg QvA [85,86,87]
 .ret))))))))⟩
abbrev Xz:Nat:=60
def zq1m_0:AT:=mkt 0x603900e0
def zq1m_1:AT:=mkt 0x3b90856bf581a8
def zq1m_2:AT:=(.bad false (some 7) none
 (.bad false none none
 .done))
def zq1m_3:AT:=(.rd (some 8) none (.mov (.t 1))
 (.rd (some 9) none (.mov (.t 0))
 (.bad false (some 10) none
 (.rd (some 11) none (.mov (.t 0))
 (.rd (some 12) none (.len 0 (.t 11))
 (.rd (some 13) none (.bin .sub (.t 10) (.t 12))
 (.rd (some 14) none (.bin .sub (.t 8) (.t 13))
 (.rd (some 1) none (.mov (.t 14))
 .done))))))))
def zq1m_4:AT:=mkt 0x3b917c3a6581f8
def zq1m_5:AT:=(.rd (some 17) none (.mov (.t 0))
 (.rd (some 18) none (.mov (.t 0))
 (.bad false (some 19) none
 (.rd (some 20) none (.slc 1 (.t 17) none (some (.t 19)) none)
 (.rd (some 21) none (.mov (.t 1))
 (.bad false (some 22) none
 (.rd (some 23) none (.mov (.t 0))
 (.rd (some 24) none (.len 0 (.t 23))
 (.rd (some 25) none (.slc 1 (.t 22) none (some (.t 24)) none)
 (.rd (some 0) none (.mov (.t 25))
 .done))))))))))
def zq1m_6:AT:=mkt 0x545d61a790351
def Qao:AF:=⟨27,[.tmp 4],
 (zg zq1m_0 []
 (.seq (zg zq1m_1 [5]
 (zw 6
 (.reg zq1m_2 [7])
 .skip))
 (.seq (zg zq1m_3 [8,9,10,11,12,13,14]
 (zg zq1m_4 [15]
 (zw 16
 (.reg zq1m_5 [17,18,19,20,21,22,23,24,25])
 .skip)))
 (zg zq1m_6 [26]
 .ret))))⟩
abbrev Qbj:Nat:=61
def QFi:AT:=mkt 0x2f2b00e0
def QFh:AT:=mkt 0xa2c25cbc9475fd7528ac4ed45ba8969803e8
def Xe:AF:=⟨9,[.tmp 4],
 (zg QFi []
 (zg QFh [5,6,7,8]
 .ret))⟩
abbrev Zm:Nat:=62
def QFg:AT:=mkt 0x2f2b00d8
def QFf:AT:=mkt 0x3e78281bd52ff90474eda843e0
def YR:AF:=⟨8,[.tmp 3],
 (zg QFg []
 (zg QFf [4,5,6,7]
 .ret))⟩
abbrev QbK:Nat:=63
def Qsu:AT:=mkt 0x2f2b00e0
def Qst:AT:=mkt 0xa2c25cbc9475fd7528adfa85d87e969803e8
def Qr:AF:=⟨9,[.tmp 4],
 (zg Qsu []
 (zg Qst [5,6,7,8]
 .ret))⟩
abbrev Q9:Nat:=64
abbrev QiK:Nat:=65
abbrev Qxj:Nat:=66
def QFe:AT:=mkt 0x94f397d3a9b198
def QFd:AT:=mkt 0x7329dfa41a8
def QFc:AT:=mkt 0x6eb798cecffaec1c0
def QFb:AT:=mkt 0x28f10d0954f802bc288
def QFa:AT:=mkt 0x10de207f9b5759041e0
def QE9:AT:=mkt 0x46af4c9aae19bb3d55edda138acd8af27cc428
def QE8:AT:=mkt 0x194d58f18e458904210
def QE7:AT:=mkt 0x77aaef2df170b402f13e67c00fd754d8f0e01da371c841ac91d52052e72edcc1f1076830254e59
def QE6:AT:=mkt 0x2c38f84e51da1d0ea8e611af0e069d658c47ec6e8dd72d4588ddd590fb1b70f99132cc893ffb3700c34fe9
def Qbf:AF:=⟨40,[.tmp 4],
 (zg QFe []
 (.seq (zg QFd [5]
 (.block 0 (zg QFc [8]
 (zw 7
 (zg QFb [9,10]
 .ret)
 (zg QFa [12]
 (zw 11
 (zg QE9 [13,14,15,16]
 .ret)
 (zg QE8 [18]
 (zw 17
 (zg QE7 [19,20,21,22,23,24,25,26,27,28]
 .ret)
 .skip))))))))
 (zg QE6 [29,30,31,32,33,34,35,36,37,38,39]
 .ret)))⟩
abbrev Qbc:Nat:=67
def QE5:AT:=mkt 0x897f0430a2b190
def QE4:AT:=mkt 0xd7c07dbb764ccfb6821abc0a3bc16b9b6c837d3e3cebf586e8
def QE3:AT:=mkt 0xc25500e0
def QE2:AT:=mkt 0x192144bc00286cc3d875d2f17ca1a44f0
def QaE:AF:=⟨19,[.tmp 4],
 (zg QE5 []
 (.seq (zg QE4 [5,6,7,8,9,10,11,12]
 (zw 13
 (zg QE3 []
 .ret)
 .skip))
 (zg QE2 [14,15,16,17,18]
 .ret)))⟩
abbrev Qe5:Nat:=68
def QE1:AT:=mkt 0x4312a67d8def9e46e581769761a2b3e0
def QE0:AT:=mkt 0x2aab8489428fd70bf5b847c6c817104bbfe257d9354bc410
def QEZ:AT:=mkt 0x3b9085738181f0
def QEY:AT:=mkt 0xc2550100
def QEX:AT:=mkt 0x6ea585f0036522f5eb0b96efd07d9354bc5c0
def Qah:AF:=⟨22,[.tmp 8],
 (zg QE1 []
 (zg QE0 [10,11,12,13]
 (.seq (zg QEZ [14]
 (zw 15
 (zg QEY []
 .ret)
 .skip))
 (zg QEX [16,17,18,19,20,21]
 .ret))))⟩
abbrev Qec:Nat:=69
def QEW:AT:=mkt 0xc25500f0
def QEV:AT:=mkt 0x12302436a91f8898c861aa4ea94a673248ce34ad28e0340
def QEU:AT:=mke 0xbb2353ba41d0 (.rd (some 12) none (.eqf false (.t 11))
 .done)
def QET:AT:=mkt 0xc25500f0
def QES:AT:=mkt 0xccb16e7ed311634d1e0a5681b53ba44e8
def Qix:AF:=⟨18,[.tmp 6],
 (zg QEW []
 (zg QEV [8,9]
 (.seq (zg QEU [10,11]
 (zw 12
 (zg QET []
 .ret)
 .skip))
 (zg QES [13,14,15,16,17]
 .ret))))⟩
abbrev QhX:Nat:=70
def QER:AT:=mkt 0x2f2b00e0
def QEQ:AT:=mkt 0x82f7f77169baba3c9cec3c44e33343930fd6787a7c2968e6c991be4b313513b183cc0aa8
def YO:AF:=⟨18,[.tmp 4],
 (zg QER []
 (zg QEQ [5,6,7,8,9,10,11,12,13,14,15,16,17]
 .ret))⟩
abbrev QbH:Nat:=71
def QEP:AT:=mkt 0x2f2b00d8
def QEO:AT:=mkt 0x284082a86c7a6a33bc736e6185da843e0
def ZS:AF:=⟨8,[.tmp 3],
 (zg QEP []
 (zg QEO [4,5,6,7]
 .ret))⟩
abbrev Qda:Nat:=72
def QEN:AT:=mkt 0x603900e0
def QEM:AT:=mkt 0x5345ec869c0afbe05d87e96980340
def QEL:AT:=mkt 0x5a54e024ffb81d8
def QEK:AT:=mkt 0x96709fd701e8
def QEJ:AT:=mkt 0x1a8210c14a946b6382b0
def QEI:AT:=mkt 0x322304a935f48ce290380
def QEH:AT:=mkt 0x2cb1e7ead26ccbf2f70b7b006f1
def QEG:AT:=mkt 0x10da690994e11d2a85d1
def QEF:AT:=mkt 0x4f4e0234c0a963dcbde27e80731
def QEE:AT:=mkt 0x1c03550b6446b7a7084d1
def Qvz:AT:=mkt 0x251b807dc1806c5502e0
def Qvy:AT:=mkt 0x15453c239aa20a87ae67e80621
def Qvx:AT:=mkt 0xf59181c3537558d5540093a
def Xs:AF:=⟨42,[.tmp 4],
 (zg QEN []
 (zg QEM [8,9,10]
 (.seq (zg QEL [11]
 (zw 12
 (zg QEK [13]
 .ret)
 .skip))
 (.seq (zg QEJ [14,15]
 (.block 0 (.loop (.seq (zg QEI [16,17,18]
 (zw 19
 .skip
 (.exit 0)))
 (.seq (.block 1 (zg QEH [22,23,24,25]
 (zg QEG [26,27,28]
 (zw 29
 (zg QEF [30,31,32,33]
 (.reg QEE [34,35]))
 .skip))))
 (.reg Qvz [20,21]))))))
 (zg Qvy [36,37,38]
 (zg Qvx [39,40,41]
 .ret))))))⟩
abbrev ZI:Nat:=73
def QED:AT:=mkt 0x2f2b00d8
def QEC:AT:=mkt 0x11a108798963f962e376619802880fbda844a0
def ZR:AF:=⟨9,[.tmp 3],
 (zg QED []
 (zg QEC [4,5,6,7,8]
 .ret))⟩
abbrev Qc9:Nat:=74
def Qvw:AT:=mkt 0x163f8fcea6c88b198
def Qvv:AT:=mkt 0xbc8921e4b482f4cab67b91a5baca11c7155f803e8
def Yt:AF:=⟨9,[.tmp 4],
 (zg Qvw []
 (zg Qvv [5,6,7,8]
 .ret))⟩
abbrev Qaq:Nat:=75
def QEB:AT:=mkt 0x2f2b00d8
def QEA:AT:=mkt 0xbc0b051688db6a9121010c52a20f893404a0
def ZQ:AF:=⟨9,[.tmp 3],
 (zg QEB []
 (zg QEA [4,5,6,7,8]
 .ret))⟩
abbrev Qa9:Nat:=76
abbrev QlP:Nat:=77
abbrev Qt2:Nat:=78
abbrev Qt1:Nat:=79
def QEz:AT:=mkt 0xc83be6c94d5fe6c98bd8ab069b188
def QEy:AT:=mkt 0x7329dfa4198
def QEx:AT:=mkt 0x5308ecd53ffaec1b0
def QEw:AT:=mkt 0x9d67375da7155741b8
def QEv:AT:=mkt 0x1503a912566abc1c0
def QEu:AT:=mkt 0xe0e63142bbf85741d0
def QEt:AT:=mkt 0x4146e35a628104fdd5442236bc56a8534d2566abc4d8
def QEs:AT:=mkt 0x1515bcca725db5741f8
def QEr:AT:=mkt 0x1051b8d698a0413f7551088de449ba921a3297688ec500
def QEq:AT:=mkt 0x17a87329765ba4218
def Qvu:AT:=mkt 0x2ed527f1f88c220
def QeL:AF:=⟨21,[.cell 2 true 6],
 (zg QEz []
 (.seq (zg QEy [3]
 (.block 0 (.seq (zg QEx [6]
 (zw 5
 .skip
 (.reg QEw [7])))
 (zw 5
 (.reg QEv [8])
 (zg QEu [10]
 (zw 9
 (.reg QEt [11,12,13])
 (zg QEs [15]
 (zw 14
 (.reg QEr [16,17,18])
 .skip))))))))
 (zg QEq [19]
 (zg Qvu [20]
 .ret))))⟩
abbrev Qk4:Nat:=80
def zq26_0:AT:=mkt 0x914700e0
def zq26_1:AT:=mkt 0x3a4b881827fdcbb009f8a96980328
def Qa5:AF:=⟨8,[.tmp 4],
 (zg zq26_0 []
 (zg zq26_1 [5,6,7]
 .ret))⟩
abbrev Qcb:Nat:=81
def zq27_0:AT:=mkt 0x914700d0
def zq27_1:AT:=mkt 0x281d6185f4d53c45328e0258
def strconv_Itoa:AF:=⟨5,[.tmp 2],
 (zg zq27_0 []
 (zg zq27_1 [3,4]
 .ret))⟩
abbrev QgJ:Nat:=82
def QEp:AT:=mkt 0x914700d0
def QEo:AT:=(.rd (some 3) none (.build (List.replicate 17 [(.str [])]).flatten [(0,1,(.c (.str []))),(1,1,(.c (.str [43]))),(2,1,(.c (.str [45]))),(3,1,(.c (.str [42]))),(4,1,(.c (.str [47]))),(5,1,(.c (.str [37]))),(6,1,(.c (.str [47,117]))),(7,1,(.c (.str [37,117]))),(8,1,(.c (.str [38]))),(9,1,(.c (.str [124]))),(10,1,(.c (.str [94]))),(11,1,(.c (.str [60,60]))),(12,1,(.c (.str [62,62,117]))),(13,1,(.c (.str [62,62]))),(14,1,(.c (.str [60]))),(15,1,(.c (.str [60,117]))),(16,1,(.c (.str [61,61])))])
 (.rd (some 4) none (.mov (.t 0))
 (.rd (some 5) none (.aidx false 1 17 (.t 3) (.t 4))
 (.rd (some 2) none (.mov (.t 5))
 .done))))
def QeK:AF:=⟨6,[.tmp 2],
 (zg QEp []
 (zg QEo [3,4,5]
 .ret))⟩
abbrev Qk3:Nat:=83
def QEn:AT:=mkt 0x35a701c8dc8e9345df9686b0769dab710888ee060126d8998ab24d6da847c0
def QEm:AT:=mkt 0x307b18df65a101dfe842d0
def QEl:AT:=mkt 0x23528fc8ae2f05826270ef6f5e5e78dac5f079fa284460
def QEk:AT:=mkt 0x140b85f0dc6e4c5734f028a36c4e2b7f78fa5cd3b3e775476dcd41
def QEj:AT:=mkt 0x64ba4251
def QEi:AT:=mkt 0xf7f285620e13b58804d9
def QEh:AT:=mkt 0x1fe098d354468adc4e9
def QEg:AT:=mkt 0x283be64cf58b21e0542
def YK:AF:=⟨41,[],
 (.seq (zg QEn [8,9,10,11,12,13,14,15,16]
 (zw 17
 .ret
 .skip))
 (zg QEm [18,19]
 (zg QEl [20,21,22,23]
 (zg QEk [24,25,26,27,28,29,30]
 (.block 0 (.loop (zg QEj []
 (.seq (zw 34
 .skip
 (.exit 0))
 (.seq (.block 1 (zg QEi [35,36]
 (.reg QEh [37,38,39])))
 (.reg QEg [40]))))))))))⟩
abbrev Z8:Nat:=84
def QEf:AT:=mkt 0xc25500e0
def QEe:AT:=mkt 0x176b4c6f133a80270
def QEd:AT:=mkt 0x3c6fc108
def QEc:AT:=mkt 0x73be4e6701d0
def QEb:AT:=mkt 0x111ea2ae7f5c4be1ea4b4d9047184d8
def QEa:AT:=mkt 0xc4b7598e8208
def QD9:AT:=mkt 0x6529ab46034d2c210
def QD8:AT:=mkt 0x127be400e0
def QO:AF:=⟨19,[.tmp 4],
 (zg QEf []
 (.seq (zg QEe [6]
 (.block 0 (.loop (zg QEd []
 (.seq (zw 9
 .skip
 (.exit 0))
 (.seq (.block 1 (zg QEc [10]
 (zg QEb [11,12,13,14,15]
 (zw 16
 (zg QEa [17]
 .ret)
 .skip))))
 (.reg QD9 [18])))))))
 (zg QD8 []
 .ret)))⟩
abbrev YI:Nat:=85
def QD7:AT:=mke 0x288988b0c8 (.wr false (some 2) none (.new 85 (List.replicate 64 [(.int .i64 0)]).flatten)
 .done)
def QD6:AT:=mkt 0x571471302ae7cd01a5e2b234dc5f14e2695c2c87ea8c48dea23a83d8
def QD5:AT:=mkt 0x2e482ca5900835ea22ac1b8
def X9:AF:=⟨8,[.cell 2 true 64],
 (zg QD7 []
 (zg QD6 [3,4,5,6]
 (zg QD5 [7]
 .ret)))⟩
abbrev QaP:Nat:=86
def QD4:AT:=mke 0x2e48a622abf02688988b1a8 (.wr false (some 8) none (.new 85 (List.replicate 64 [(.int .i64 0)]).flatten)
 (.rd (some 9) none (.mov (.c (.int .i64 0)))
 .done))
def QD3:AT:=mkt 0xc2550120
def QD2:AT:=mkt 0x76fd4a76904128
def QD1:AT:=mkt 0xa212710101f0
def QD0:AT:=mkt 0xb2f2c0e7c269285b0efae2ca733abccd5b61e9c4b8efc8c0d1e19fffa9ac6b00738
def QDZ:AT:=mkt 0x29d4893f2b7dbdf508886f6ba19d247b26d6296716c2c37390979
def QDY:AT:=mke 0xc08e55f1f685c3fb096bae816a6b5b9e3e56870e15e0ff6513a988ee80014ea (mkt 0x70120be0f9f7d28ca21fc8152234f03b8718ba214be32ec72f8ae40b42)
def QDX:AT:=mkt 0x2b3e56d288ecbe2055a
def QDW:AT:=mkt 0x1a0f01fe746012957b0708c1451b0720962
def Y6:AF:=⟨46,[.cell 8 true 64,.tmp 9],
 (zg QD4 []
 (.seq (zg QD3 []
 (.block 0 (.loop (zg QD2 []
 (.seq (zw 13
 .skip
 (.exit 0))
 (.seq (.block 1 (zg QD1 [14]
 (zg QD0 [15,16,17,18,19,20,21,22]
 (zg QDZ [23,24,25,26,27,28]
 (.reg QDY [29,30,31,32,33,34,35,36,37,38,39,40,41,42])))))
 (.reg QDX [43])))))))
 (zg QDW [44,45]
 .ret)))⟩
abbrev Qar:Nat:=87
def QDV:AT:=mke 0x288988b0c8 (.wr false (some 2) none (.new 85 (List.replicate 64 [(.int .i64 0)]).flatten)
 .done)
def QDU:AT:=mkt 0xc25500e0
def QDT:AT:=mkt 0x76fd4a769040e8
def QDS:AT:=mkt 0x4572381901b0
def QDR:AT:=mkt 0x5af2ddf42282379670fc0305b9ab84a5ea5bff73af6fc8578
def QDQ:AT:=mkt 0x490d921a0e460c1e8
def QDP:AT:=mkt 0x2e482ca5900835ea22ac1f0
def QfA:AF:=⟨15,[.cell 2 true 64],
 (zg QDV []
 (.seq (zg QDU []
 (.block 0 (.loop (zg QDT []
 (.seq (zw 5
 .skip
 (.exit 0))
 (.seq (.block 1 (zg QDS [6]
 (.reg QDR [7,8,9,10,11,12])))
 (.reg QDQ [13])))))))
 (zg QDP [14]
 .ret)))⟩
abbrev Qk9:Nat:=88
def QDO:AT:=mke 0x2e48a622abf02688988b1a0 (.wr false (some 6) none (.new 85 (List.replicate 64 [(.int .i64 0)]).flatten)
 .done)
def QDN:AT:=mke 0x1498ec2706118 (.wr false (some 7) none (.new 85 (List.replicate 64 [(.int .i64 0)]).flatten)
 (.wr false none none (.store 64 (.t 7) (.t 11))
 .done))
def QDM:AT:=mkt 0xc2550120
def QDL:AT:=mkt 0x76fd4a76904128
def QDK:AT:=mkt 0xa20d137901f0
def QDJ:AT:=mkt 0x187e4d06d7e98843bfa243458c140378
def QDI:AT:=mke 0x1498ec2706158 (.wr false (some 9) none (.new 85 (List.replicate 64 [(.int .i64 0)]).flatten)
 (.wr false none none (.store 64 (.t 9) (.t 19))
 .done))
def QDH:AT:=mkt 0xe77c7cbb0220
def QDG:AT:=mkt 0x3ccd4d9cb59f230228
def QDF:AT:=mkt 0x13eb52d7073d870cdf8fd319ed6de3e0c53ab226d9146b1643c34d6ea13f5bcdccb56ec84db409b80a09d5e80b91109
def Qvt:AT:=mkt 0x133637d2a0d81624d0479
def Qvs:AT:=mkt 0x50293c133c1a7cbd83f3d1d5091f1b90b2b644cbdce39d01402b7661434e1f80bd5eedf201132
def Qvr:AT:=mkt 0x2c3fc3b0a1ecbe20562
def Qvq:AT:=mkt 0x30f2caad6e37d251b072056a
def Y7:AF:=⟨46,[.cell 6 true 64],
 (zg QDO []
 (zg QDN [11]
 (.seq (zg QDM []
 (.block 0 (.loop (zg QDL []
 (.seq (zw 13
 .skip
 (.exit 0))
 (.seq (.block 1 (zg QDK [14]
 (.seq (zg QDJ [15,16,17]
 (zw 18
 (.exit 1)
 .skip))
 (zg QDI [19]
 (.seq (zg QDH [20]
 (.block 2 (.loop (.seq (zg QDG [21]
 (zw 22
 .skip
 (.exit 2)))
 (.seq (.block 3 (.reg QDF [25,26,27,28,29,30,31,32,33,34,35,36]))
 (.reg Qvt [23,24]))))))
 (.reg Qvs [38,39,40,41,37,42,43]))))))
 (.reg Qvr [44])))))))
 (zg Qvq [45]
 .ret))))⟩
abbrev Qas:Nat:=89
def QDE:AT:=mke 0x1cee2242abd98288988b198 (.wr false (some 6) none (.new 85 (List.replicate 64 [(.int .i64 0)]).flatten)
 .done)
def QDD:AT:=mkt 0xc2550100
def QDC:AT:=mkt 0x76fd4a76904108
def QDB:AT:=mkt 0x73c3abef01d0
def QDA:AT:=mkt 0x133894b4196d290d9f7bdb7d43eef815ac2e99cdce745d2140c2bfcf8242da2810b92bb8a8898
def QDz:AT:=mkt 0x760433996f4d2c228
def QDy:AT:=mkt 0x73b23c25907969ea22ac230
def Qdm:AF:=⟨23,[.cell 6 true 64],
 (zg QDE []
 (.seq (zg QDD []
 (.block 0 (.loop (zg QDC []
 (.seq (zw 9
 .skip
 (.exit 0))
 (.seq (.block 1 (zg QDB [10]
 (.reg QDA [11,12,13,14,15,16,17,18,19,20])))
 (.reg QDz [21])))))))
 (zg QDy [22]
 .ret)))⟩
abbrev Qe7:Nat:=90
def QDx:AT:=mkt 0xc25500f0
def QDw:AT:=mkt 0x1014aed9ebd9e91990b80da681df0dc45cb2971a2594b6a2a01fd7e65a75d5299524c358a10
def QDv:AT:=mkt 0x127be400f0
def QDu:AT:=mkt 0x166ef83c8e7c80d6d22990b4cb254bd252d4f68e3e8ab9
def QDt:AT:=mkt 0x6158adc960371
def QDs:AT:=mkt 0x1a6c780974f6bd7d104c1
def QDr:AT:=mkt 0x6e53128038391
def QDq:AT:=mkt 0x8992f6ae447393bcf36d54ddd9920e83cad1bfbc3a7d0d52b9519b9c2e93fd32a3d2c501b515cd6ab87683c7ac11545e40401d22
def QDp:AT:=mkt 0x1420037a
def QDo:AT:=mkt 0x359a79f42b82cf1b3c6a0b35c981721e7c942a0b4b59fc00d82
def Qvp:AT:=mkt 0x3bcba43ea4afde012b880b35c981721e8c8cd7432d71fc00db2
def Qvo:AT:=mkt 0x926a13aff571837db477b2aff9613c12e6d94acc61cb65011871bd21c35ea019e3
def Qvn:AT:=mkt 0xb954bcca160823
def Y9:AF:=⟨69,[.tmp 6],
 (zg QDx []
 (.seq (.block 0 (zg QDw [10,11,12,13,14,15,16,17,18,19,20,21]
 (zw 9
 (zg QDv []
 .ret)
 (zg QDu [23,24,25,26,27,28,29]
 (zw 22
 (zg QDt [30]
 .ret)
 (zg QDs [32,33]
 (zw 31
 (zg QDr [34]
 .ret)
 .skip)))))))
 (zg QDq [36,37,38,39,40,41,42,43,44,35,45,46]
 (.seq (zg QDp []
 (zw 47
 (zg QDo [48,49,50,51,52,53]
 (zg Qvp [54,55,56,57,58,59]
 (.reg Qvo [60,61,62,63,64,65,66,67])))
 .skip))
 (zg Qvn [68]
 .ret)))))⟩
abbrev Zg:Nat:=91
def QDn:AT:=mke 0x2e48a622abf02688988b1b0 (.wr false (some 10) none (.new 85 (List.replicate 64 [(.int .i64 0)]).flatten)
 .done)
def QDm:AT:=mkt 0xc2550148
def QDl:AT:=mkt 0x33432294150
def QDk:AT:=mkt 0xdbed86bc8218
def QDj:AT:=mkt 0x251df5620255be8c82e0
def QDi:AT:=mke 0x96f1ea22ac170 (.wr false (some 13) none (.new 85 (List.replicate 64 [(.int .i64 0)]).flatten)
 (.wr false none none (.store 64 (.t 13) (.t 22))
 .done))
def QDh:AT:=mkt 0xc2550178
def QDg:AT:=mkt 0x1405b2ba92dc201
def QDf:AT:=mkt 0x51234e53a8349
def QDe:AT:=mkt 0xe18d8eb76b43278a305d1
def Qvm:AT:=mkt 0x4b78229
def Qvl:AT:=mkt 0x101c3f1c3b505c772305f1
def Qvk:AT:=mkt 0x6b18fd3530389
def Qvj:AT:=mkt 0x18a7dff37125b523365a88773e5f5e91712ad8c298891
def Qvi:AT:=mkt 0x1795f834bd1993d977616257f7c0942
def Qvh:AT:=mkt 0x3cda48a2f874d044f71ca26b4016fc97d1bcd703307fbeb1e25ea0cd1f488d5e9ce4ea25425c40857623378f38195a
def Qvg:AT:=mkt 0x364efa99390ef2605b2
def Qvf:AT:=mkt 0x30f2caad6e4e7651b07205ba
def Qve:AT:=mkt 0x38514e065b2ad5e05c2
def Qvd:AT:=mkt 0x4e50e4ed6e340c51b07205ca
def YC:AF:=⟨58,[.cell 10 true 64],
 (zg QDn []
 (.seq (zg QDm []
 (.block 0 (.loop (zg QDl []
 (.seq (zw 18
 .skip
 (.exit 0))
 (.seq (.block 1 (zg QDk [19]
 (zg QDj [20,21]
 (zg QDi [22]
 (.seq (zg QDh []
 (.block 2 (.loop (zg QDg []
 (.seq (zw 24
 .skip
 (.exit 2))
 (.seq (.block 3 (zg QDf [25]
 (zg QDe [26,27,28]
 (.seq (zg Qvm []
 (zw 29
 (.reg Qvl [30,31,32])
 .skip))
 (zg Qvk [33]
 (.seq (zg Qvj [34,35,36,37,38]
 (zw 39
 (.reg Qvi [40,41,42])
 .skip))
 (.reg Qvh [43,44,45,46,47,48,49,50,51,52,53])))))))
 (.reg Qvg [54])))))))
 (.reg Qvf [55]))))))
 (.reg Qve [56])))))))
 (zg Qvd [57]
 .ret)))⟩
abbrev ZK:Nat:=92
def QDd:AT:=(.wr false (some 2) none (.new 85 (List.replicate 64 [(.int .i64 0)]).flatten)
 .done)
def QDc:AT:=mke 0x1498ec27060e0 (.wr false (some 3) none (.new 85 (List.replicate 64 [(.int .i64 0)]).flatten)
 (.wr false none none (.store 64 (.t 3) (.t 4))
 .done))
def QDb:AT:=mkt 0x56fa7154fc7cb08434584880268
def QDa:AT:=mkt 0x2e482ca590357dea22ac1b8
def Qfz:AF:=⟨8,[.cell 2 true 64],
 (zg QDd []
 (zg QDc [4]
 (zg QDb [5,6]
 (zg QDa [7]
 .ret))))⟩
abbrev Qk8:Nat:=93
def QC9:AT:=mkt 0x722b1779dba22abf02688988b260
def QC8:AT:=(.rd (some 10) none (.mov (.t 0))
 (.rd (some 11) none (.load true 64 (.t 4))
 (.rd (some 12) none (.load true 64 (.t 5))
 (.alt (.cl true (some 13) none (.c (.fn (.func 88) [] [])) [(.t 12)]
 (.alt (.cl false (some 14) none (.c (.fn (.func 87) [] [])) [(.t 10),(.t 11),(.t 13),(.c (.int .i64 1))]
 (.rd (some 9) none (.mov (.t 14))
 (.rd (some 15) none (.extr (.t 9) 0)
 (.rd (some 16) none (.extr (.t 9) 1)
 (.wr true (some 7) none (.new 85 (List.replicate 64 [(.int .i64 0)]).flatten)
 (.wr false none none (.store 64 (.t 7) (.t 15))
 (.rd (some 8) none (.mov (.t 16))
 .done))))))) (.wr true (some 7) none (.new 85 (List.replicate 64 [(.int .i64 0)]).flatten)
 (.cl false (some 14) none (.c (.fn (.func 87) [] [])) [(.t 10),(.t 11),(.t 13),(.c (.int .i64 1))]
 (.rd (some 9) none (.mov (.t 14))
 (.rd (some 15) none (.extr (.t 9) 0)
 (.rd (some 16) none (.extr (.t 9) 1)
 (.wr false none none (.store 64 (.t 7) (.t 15))
 (.rd (some 8) none (.mov (.t 16))
 .done))))))))) (.wr true (some 7) none (.new 85 (List.replicate 64 [(.int .i64 0)]).flatten)
 (.cl true (some 13) none (.c (.fn (.func 88) [] [])) [(.t 12)]
 (.cl false (some 14) none (.c (.fn (.func 87) [] [])) [(.t 10),(.t 11),(.t 13),(.c (.int .i64 1))]
 (.rd (some 9) none (.mov (.t 14))
 (.rd (some 15) none (.extr (.t 9) 0)
 (.rd (some 16) none (.extr (.t 9) 1)
 (.wr false none none (.store 64 (.t 7) (.t 15))
 (.rd (some 8) none (.mov (.t 16))
 .done))))))))))))
def QC7:AT:=mkt 0x31207bf0072002c8
def YE:AF:=⟨19,[.tmp 6],
 (zg QC9 []
 (zg QC8 [10,11,12,13,14,9,15,16,7]
 (zg QC7 [17,18]
 .ret)))⟩
abbrev ZN:Nat:=94
def QC6:AT:=mkt 0x5af2bc3439f4e53c48b258
def QC5:AT:=mkt 0x342bb04992c227ebb80f409f46dd0f49046872631dc683f804d6bfdc0890
def QC4:AT:=mkt 0x69a8150
def QC3:AT:=mkt 0x1bb69a210c738002d8
def QC2:AT:=mkt 0x8ddd51197030de22252aedb6d811767455153b0aba5acf398bf84f9026f8239ac0bef80e686eb8f400e61
def QC1:AT:=mkt 0x2bb03062811a90c71e00ac97a40871
def QC0:AT:=mkt 0x1c9ece617509514c24dde087798be4b3a200f1a
def QCZ:AT:=mkt 0x33d9805949138da8074a
def YU:AF:=⟨42,[.tmp 4,.tmp 5],
 (zg QC6 []
 (.seq (zg QC5 [10,11,12,13,14,15,9,16,17]
 (zg QC4 []
 (zw 18
 (zg QC3 [19]
 .ret)
 .skip)))
 (zg QC2 [20,21,22,23,24,25,26,27,28,29]
 (zg QC1 [30,31,32,33,34]
 (zg QC0 [35,36,37,38,39,40]
 (zg QCZ [41]
 .ret))))))⟩
abbrev Qaa:Nat:=95
def QCY:AT:=mkt 0xc25500e0
def QCX:AT:=mkt 0x176b4c6f133a80270
def QCW:AT:=mkt 0x3c6fc108
def QCV:AT:=mkt 0x73be4e6701d0
def QCU:AT:=mkt 0x111ea2ae7f5c4be1ea4b4d9047184d8
def QCT:AT:=mkt 0xc4b7598e8208
def QCS:AT:=mkt 0x6529ab46034d2c210
def QCR:AT:=mkt 0x127be400e0
def XG:AF:=⟨19,[.tmp 4],
 (zg QCY []
 (.seq (zg QCX [6]
 (.block 0 (.loop (zg QCW []
 (.seq (zw 9
 .skip
 (.exit 0))
 (.seq (.block 1 (zg QCV [10]
 (zg QCU [11,12,13,14,15]
 (zw 16
 (zg QCT [17]
 .ret)
 .skip))))
 (.reg QCS [18])))))))
 (zg QCR []
 .ret)))⟩
abbrev Z3:Nat:=96
def Qss:AT:=mkt 0xc25500e0
def Qsr:AT:=mkt 0x176b4c6f133a80270
def Qsq:AT:=mkt 0x3c6fc108
def Qsp:AT:=mkt 0x73be4e6701d0
def Qso:AT:=mkt 0x111ea2ae7f5c4be1ea4b4d9047184d8
def Qsn:AT:=mkt 0xc4b7598e8208
def Qsm:AT:=mkt 0x6529ab46034d2c210
def Qsl:AT:=mkt 0x127be400e0
def Qw:AF:=⟨19,[.tmp 4],
 (zg Qss []
 (.seq (zg Qsr [6]
 (.block 0 (.loop (zg Qsq []
 (.seq (zw 9
 .skip
 (.exit 0))
 (.seq (.block 1 (zg Qsp [10]
 (zg Qso [11,12,13,14,15]
 (zw 16
 (zg Qsn [17]
 .ret)
 .skip))))
 (.reg Qsm [18])))))))
 (zg Qsl []
 .ret)))⟩
abbrev Xx:Nat:=97
abbrev Qf0:Nat:=98
abbrev Qiu:Nat:=99
abbrev Qf1:Nat:=100
abbrev QgW:Nat:=101
abbrev QgK:Nat:=102
abbrev Qdr:Nat:=103
abbrev Qs3:Nat:=104
abbrev QfQ:Nat:=105
abbrev QhY:Nat:=106
abbrev Qt0:Nat:=107
abbrev QtZ:Nat:=108
def QCQ:AT:=mkt 0xc25500e0
def QCP:AT:=mkt 0x176b4c6f133a80270
def QCO:AT:=mkt 0x3c6fc108
def QCN:AT:=mkt 0x73be4e6701d0
def QCM:AT:=mkt 0x111ea2afbe85ddaa3c77ed4d47184d8
def QCL:AT:=mkt 0xc4b7598e8208
def QCK:AT:=mkt 0x6529ab46034d2c210
def QCJ:AT:=mkt 0x127be400e0
def QD:AF:=⟨19,[.tmp 4],
 (zg QCQ []
 (.seq (zg QCP [6]
 (.block 0 (.loop (zg QCO []
 (.seq (zw 9
 .skip
 (.exit 0))
 (.seq (.block 1 (zg QCN [10]
 (zg QCM [11,12,13,14,15]
 (zw 16
 (zg QCL [17]
 .ret)
 .skip))))
 (.reg QCK [18])))))))
 (zg QCJ []
 .ret)))⟩
abbrev X3:Nat:=109
def QCI:AT:=mkt 0x24273e599e2908b1a0
def QCH:AT:=mke 0x157b2b9aa62deaf67993b945c2fc57c2290fb5fe1b361d049dfa47b0 (mkt 0xd4caafdbd0a18e2903b8d1b46fe2f84f27cb085c0)
def Y0:AF:=⟨22,[.tmp 5],
 (zg QCI []
 (zg QCH [6,7,8,9,10,11,12,13,14,15,16,17,18,19,20,21]
 .ret))⟩
abbrev Qca:Nat:=110
def QCG:AT:=mkt 0xf57af61e928134dcc9430d0
def QCF:AT:=mke 0x34df40e2c21b831aaac8a994bf32fe4827aca24a7843ec92e44206c4d2183cb1b281c3f39ef376d88774bbb0efd99824f5256dceebfdbe272fcc60cd53c48bb67684822bbbf34379fc9d2e268497ef18a0d8f1e9234f14fb380a48fd6110d48cab5dd95a58290133db3806ba3ad5e5da78c1bb173646efe63e12b5b3e7d455240c903921c09765de824d1f43d91905fc98995bc2fd4bb087c172cd860f22a2aaa27b1ba5d3bd8e659908de99f1b6f95a115fb7a3824fe1c2de06472f816aa414395e682eef7b04fbc2d6a0c18322006e9f963eef6d45dc14b8d8b48c9150a13e435f4a305f01720cfb477c74eee1b1cd62f5ec3d2505007a0 (mke 0x1117716082c0a4225a61991d8ebc523cbaf4b913140cbf9f6a33afec14065f8c272bb2d1c805f9147b9ab55374b870e15169fcc3575fbf4c4114413b2549a87db63811bb019fdc496e12fded77b224d62d348644919b736dbfcc2ec138617340c52f7b04fbc2d6a0c18322006e9f9665d1f544f7acb0d8b48c9150a13e435f4a3043ae8d09a0177de4d7e1b1cd62f5ec3d2505004f0 (.rd (some 20) none (.build (List.replicate 17 [(.val .nilFunc),(.bool false),(.bool false),(.int .i64 0),(.bool false)]).flatten [(5,5,(.t 4)),(10,5,(.t 5)),(15,5,(.t 6)),(20,5,(.t 7)),(25,5,(.t 8)),(30,5,(.t 9)),(35,5,(.t 10)),(40,5,(.t 11)),(45,5,(.t 12)),(50,5,(.t 13)),(55,5,(.t 14)),(60,5,(.t 15)),(65,5,(.t 16)),(70,5,(.t 17)),(75,5,(.t 18)),(80,5,(.t 19))])
 (.wr false (some 3) none (.new 176 (List.replicate 17 [(.val .nilFunc),(.bool false),(.bool false),(.int .i64 0),(.bool false)]).flatten)
 (.wr false none none (.store 85 (.t 3) (.t 20))
 .done))))
def QCE:AT:=mkt 0x1e0b6faad110914002e8
def QCD:AT:=mkt 0x7fd791a1324489bb3db300341
def QCC:AT:=mkt 0x24bf5d69c22db058ed78c805c9
def YJ:AF:=⟨28,[.cell 2 true 5],
 (zg QCG []
 (zg QCF [4,5,6,7,8,9,10,11,12,13,14,15,16,17,18,19,20]
 (.seq (zg QCE [21,22]
 (zw 23
 (zg QCD [24]
 .ret)
 .skip))
 (zg QCC [25,26,27]
 .ret))))⟩
abbrev Xv:Nat:=111
def QCB:AT:=mkt 0x2f2b00d8
def QCA:AT:=mkt 0x3e78281bd52ff90474eda843e0
def XY:AF:=⟨8,[.tmp 3],
 (zg QCB []
 (zg QCA [4,5,6,7]
 .ret))⟩
abbrev Qaz:Nat:=112
abbrev Qk5:Nat:=113
abbrev Qxk:Nat:=114
abbrev Qks:Nat:=115
abbrev Qm8:Nat:=116
def QCz:AT:=mkt 0xc2550100
def QCy:AT:=mkt 0xb0eabac23f6fa1fb7157ee619b4fdde54964bc4a4e1257d8008b9d5937bcb7009bc609d800948
def YT:AF:=⟨20,[.tmp 8],
 (zg QCz []
 (zg QCy [9,10,11,12,13,14,15,16,17,18,19]
 .ret))⟩
abbrev Z9:Nat:=117
abbrev Qis:Nat:=118
abbrev Qm7:Nat:=119
abbrev QnK:Nat:=120
abbrev QfR:Nat:=121
abbrev QjI:Nat:=122
abbrev Qrg:Nat:=123
def QCx:AT:=mkt 0xc25500e0
def QCw:AT:=mkt 0x7c7f43dc647efbf80328
def QcY:AF:=⟨8,[.tmp 4],
 (zg QCx []
 (zg QCw [5,6,7]
 .ret))⟩
abbrev Qe4:Nat:=124
def QCv:AT:=mkt 0xc25500e0
def QCu:AT:=mkt 0x7c7f441b732d49780328
def QcX:AF:=⟨8,[.tmp 4],
 (zg QCv []
 (zg QCu [5,6,7]
 .ret))⟩
abbrev Qe3:Nat:=125
def QCt:AT:=mkt 0xc25500e0
def QCs:AT:=mkt 0x7c7f445a81db96f80328
def QcW:AF:=⟨8,[.tmp 4],
 (zg QCt []
 (zg QCs [5,6,7]
 .ret))⟩
abbrev Qe2:Nat:=126
def QCr:AT:=mkt 0xc25500e0
def QCq:AT:=mkt 0xf180e8
def QCp:AT:=mkt 0x18381109c2ffc1b8
def QCo:AT:=mkt 0x127be400e0
def QCn:AT:=mkt 0xca68445e34c5c3c1c8
def QCm:AT:=mkt 0x1e05d95d44940290
def QCl:AT:=mkt 0xf8ede1ab64a1c4780360
def QhI:AF:=⟨15,[.tmp 4],
 (zg QCr []
 (.seq (zg QCq []
 (.block 0 (zg QCp [7]
 (zw 6
 (zg QCo []
 .ret)
 (zg QCn [9]
 (zw 8
 (zg QCm [10,11]
 .ret)
 .skip))))))
 (zg QCl [12,13,14]
 .ret)))⟩
abbrev QiJ:Nat:=127
def QCk:AT:=mkt 0xc25500e0
def QCj:AT:=mkt 0xf180e8
def QCi:AT:=mkt 0x18381109c2ffc1b8
def QCh:AT:=mkt 0x5c983d9701c0
def QCg:AT:=mkt 0xe0e63018f9c5c3c1d0
def QCf:AT:=mkt 0xc25500e0
def QCe:AT:=mkt 0xe72739310bdef1f80358
def QhG:AF:=⟨14,[.tmp 4],
 (zg QCk []
 (.seq (zg QCj []
 (.block 0 (zg QCi [7]
 (zw 6
 (zg QCh [8]
 .ret)
 (zg QCg [10]
 (zw 9
 (zg QCf []
 .ret)
 .skip))))))
 (zg QCe [11,12,13]
 .ret)))⟩
abbrev QiI:Nat:=128
def QCd:AT:=mkt 0xc25500e0
def QCc:AT:=mkt 0x3b8f8e9d8581a8
def QCb:AT:=mkt 0x127be400e0
def QCa:AT:=mkt 0x2462ff49cf0dab9761bdca8e22be80578
def QeG:AF:=⟨13,[.tmp 4],
 (zg QCd []
 (.seq (zg QCc [5]
 (zw 6
 (zg QCb []
 .ret)
 .skip))
 (zg QCa [7,8,9,10,11,12]
 .ret)))⟩
abbrev QgV:Nat:=129
def QB9:AT:=mkt 0xc25500e0
def QB8:AT:=mkt 0x3b8f8e9d8581a8
def QB7:AT:=mkt 0x5106905701b8
def QB6:AT:=mkt 0x276b02b438a298ffe81af1bc22be80580
def QeF:AF:=⟨14,[.tmp 4],
 (zg QB9 []
 (.seq (zg QB8 [5]
 (zw 6
 (zg QB7 [7]
 .ret)
 .skip))
 (zg QB6 [8,9,10,11,12,13]
 .ret)))⟩
abbrev QgU:Nat:=130
def QB5:AT:=mkt 0xc25500e0
def QB4:AT:=mkt 0x7c7f4517ade67f780328
def QcV:AF:=⟨8,[.tmp 4],
 (zg QB5 []
 (zg QB4 [5,6,7]
 .ret))⟩
abbrev Qe1:Nat:=131
def QB3:AT:=mkt 0xc25500e0
def QB2:AT:=mkt 0x7c7f4556bc94ccf80328
def QcU:AF:=⟨8,[.tmp 4],
 (zg QB3 []
 (zg QB2 [5,6,7]
 .ret))⟩
abbrev Qe0:Nat:=132
def QB1:AT:=mkt 0xc25500e0
def QB0:AT:=mkt 0x7c7f4595cb431a780328
def QcT:AF:=⟨8,[.tmp 4],
 (zg QB1 []
 (zg QB0 [5,6,7]
 .ret))⟩
abbrev QeZ:Nat:=133
def QBZ:AT:=mkt 0xc25500e0
def QBY:AT:=mkt 0x8d35e2ba0be92ab80f411b0bb8057803e8
def QcS:AF:=⟨9,[.tmp 4],
 (zg QBZ []
 (zg QBY [5,6,7,8]
 .ret))⟩
abbrev QeY:Nat:=134
def QBX:AT:=mkt 0xc25500e0
def QBW:AT:=mkt 0x274470bb7c369623e9b004bc3a01c70e317be80568
def QcR:AF:=⟨11,[.tmp 4],
 (zg QBX []
 (zg QBW [5,6,7,8,9,10]
 .ret))⟩
abbrev QeX:Nat:=135
def QBV:AT:=mkt 0xc25500e0
def QBU:AT:=mkt 0x8d35e2bc74255928bbe81b0bb8057803e8
def QcQ:AF:=⟨9,[.tmp 4],
 (zg QBV []
 (zg QBU [5,6,7,8]
 .ret))⟩
abbrev QeW:Nat:=136
def QBT:AT:=mkt 0xc25500e0
def QBS:AT:=mkt 0x7b45fb38ca84aacc25a1162d74f803e8
def QbY:AF:=⟨9,[.tmp 4],
 (zg QBT []
 (zg QBS [5,6,7,8]
 .ret))⟩
abbrev QdA:Nat:=137
def QBR:AT:=mkt 0xc25500d0
def QBQ:AT:=mkt 0xd8
def QBP:AT:=mkt 0x1868d00d0
def QBO:AT:=mkt 0xc25500d0
def QhH:AF:=⟨4,[.tmp 2],
 (zg QBR []
 (.seq (zg QBQ []
 (zw 3
 (zg QBP []
 .ret)
 .skip))
 (zg QBO []
 .ret)))⟩
abbrev Qmn:Nat:=138
def QBN:AT:=mkt 0xc25500e0
def QBM:AT:=mkt 0x37b4413259ed3c9553e29b38fb0241e222be80568
def QbX:AF:=⟨11,[.tmp 4],
 (zg QBN []
 (zg QBM [5,6,7,8,9,10]
 .ret))⟩
abbrev Qdz:Nat:=139
def QBL:AT:=mkt 0xc25500e0
def QBK:AT:=mkt 0x7b45fb38ca84aacc2522f8d0d9f803e8
def QbW:AF:=⟨9,[.tmp 4],
 (zg QBL []
 (zg QBK [5,6,7,8]
 .ret))⟩
abbrev Qdy:Nat:=140
abbrev QhZ:Nat:=141
abbrev Qko:Nat:=142
abbrev Qh0:Nat:=143
abbrev QiL:Nat:=144
abbrev Qit:Nat:=145
abbrev QeB:Nat:=146
abbrev QhE:Nat:=147
abbrev QjW:Nat:=148
abbrev Qmp:Nat:=149
abbrev Qkp:Nat:=150
abbrev QiN:Nat:=151
abbrev QjX:Nat:=152
abbrev QjH:Nat:=153
abbrev Qkn:Nat:=154
abbrev QhF:Nat:=155
abbrev QlL:Nat:=156
abbrev Qkq:Nat:=157
abbrev Qkr:Nat:=158
abbrev QiM:Nat:=159
abbrev QlQ:Nat:=160
abbrev QlK:Nat:=161
abbrev Qk7:Nat:=162
abbrev Qk6:Nat:=163
abbrev QuM:Nat:=185
def tab:Nat→Option AF
 | 3=>some Xt
 | 4=>some Xu
 | 5=>some YQ
 | 6=>some Yh
 | 7=>some Yr
 | 8=>some Qcm
 | 9=>some ZD
 | 10=>some ZE
 | 11=>some Xn
 | 12=>some Y1
 | 13=>some Xg
 | 14=>some Q5
 | 15=>some XC
 | 16=>some Xi
 | 17=>some Qbl
 | 18=>some Zb
 | 19=>some QhK
 | 20=>some X6
 | 21=>some Yf
 | 22=>some XH
 | 23=>some Xh
 | 24=>some XT
 | 25=>some XI
 | 26=>some QhL
 | 27=>some Zp
 | 28=>some Za
 | 29=>some QaG
 | 30=>some XB
 | 31=>some QT
 | 32=>some Yl
 | 33=>some Qbn
 | 34=>some XZ
 | 35=>some X5
 | 36=>some ZT
 | 37=>some Qal
 | 38=>some ZU
 | 39=>some YB
 | 40=>some YS
 | 41=>some Qdi
 | 42=>some Ym
 | 43=>some Yx
 | 44=>some QeH
 | 45=>some X7
 | 46=>some YP
 | 47=>some Yg
 | 48=>some X8
 | 49=>some Qbk
 | 50=>some Qai
 | 51=>some Qc0
 | 52=>some Qc1
 | 53=>some ZC
 | 54=>some QI
 | 55=>some Y8
 | 56=>some Qs
 | 57=>some YD
 | 58=>some YV
 | 59=>some Zo
 | 60=>some XM
 | 61=>some Qao
 | 62=>some Xe
 | 63=>some YR
 | 64=>some Qr
 | 67=>some Qbf
 | 68=>some QaE
 | 69=>some Qah
 | 70=>some Qix
 | 71=>some YO
 | 72=>some ZS
 | 73=>some Xs
 | 74=>some ZR
 | 75=>some Yt
 | 76=>some ZQ
 | 80=>some QeL
 | 81=>some Qa5
 | 82=>some strconv_Itoa
 | 83=>some QeK
 | 84=>some YK
 | 85=>some QO
 | 86=>some X9
 | 87=>some Y6
 | 88=>some QfA
 | 89=>some Y7
 | 90=>some Qdm
 | 91=>some Y9
 | 92=>some YC
 | 93=>some Qfz
 | 94=>some YE
 | 95=>some YU
 | 96=>some XG
 | 97=>some Qw
 | 109=>some QD
 | 110=>some Y0
 | 111=>some YJ
 | 112=>some XY
 | 117=>some YT
 | 124=>some QcY
 | 125=>some QcX
 | 126=>some QcW
 | 127=>some QhI
 | 128=>some QhG
 | 129=>some QeG
 | 130=>some QeF
 | 131=>some QcV
 | 132=>some QcU
 | 133=>some QcT
 | 134=>some QcS
 | 135=>some QcR
 | 136=>some QcQ
 | 137=>some QbY
 | 138=>some QhH
 | 139=>some QbX
 | 140=>some QbW
 | _=>none
theorem QV:tab Yy=some Xt:=rfl
theorem Qb1:tab ZJ=some Xu:=rfl
theorem Yd:tab QbJ=some YQ:=rfl
theorem QJ:tab Qa2=some Yh:=rfl
theorem Yv:tab Qap=some Yr:=rfl
theorem Qan:tab QdC=some Qcm:=rfl
theorem QB:tab Y3=some ZD:=rfl
theorem XE:tab X1=some ZE:=rfl
theorem QR:tab Q4=some Xn:=rfl
theorem Ze:tab Qcc=some Y1:=rfl
theorem Xc:tab XJ=some Xg:=rfl
theorem QQ:tab Xq=some Q5:=rfl
theorem QM:tab Xf=some XC:=rfl
theorem Qt:tab QZ=some Xi:=rfl
theorem Qak:tab Qbd=some Qbl:=rfl
theorem Qb5:tab Yz=some Zb:=rfl
theorem QbT:tab Qc8=some QhK:=rfl
theorem Zd:tab QaL=some X6:=rfl
theorem Xp:tab Qa0=some Yf:=rfl
theorem Z2:tab Z4=some XH:=rfl
theorem QY:tab Zh=some Xh:=rfl
theorem YY:tab Yj=some XT:=rfl
theorem XV:tab Z5=some XI:=rfl
theorem Qmg:tab Qmo=some QhL:=rfl
theorem Qd9:tab Qbt=some Zp:=rfl
theorem Qk:tab Qat=some Za:=rfl
theorem ZG:tab Qe6=some QaG:=rfl
theorem Qz:tab ZM=some XB:=rfl
theorem QP:tab XX=some QT:=rfl
theorem XW:tab YG=some Yl:=rfl
theorem Zq:tab QgL=some Qbn:=rfl
theorem XF:tab XK=some XZ:=rfl
theorem QaH:tab QaK=some X5:=rfl
theorem Qaj:tab QcO=some ZT:=rfl
theorem Qea:tab Qee=some Qal:=rfl
theorem Qc5:tab Qdb=some ZU:=rfl
theorem Yq:tab Qa8=some YB:=rfl
theorem QbF:tab QbL=some YS:=rfl
theorem QeP:tab QjJ=some Qdi:=rfl
theorem YF:tab Qq=some Ym:=rfl
theorem Zj:tab Xw=some Yx:=rfl
theorem QkQ:tab QdB=some QeH:=rfl
theorem QaI:tab QaM=some X7:=rfl
theorem Yc:tab QbI=some YP:=rfl
theorem QaZ:tab Qa1=some Yg:=rfl
theorem QaJ:tab QaN=some X8:=rfl
theorem QcK:tab QcN=some Qbk:=rfl
theorem Qd8:tab Qed=some Qai:=rfl
theorem QjC:tab QjF=some Qc0:=rfl
theorem QeN:tab QjG=some Qc1:=rfl
theorem Qa4:tab Y2=some ZC:=rfl
theorem Yb:tab Yi=some QI:=rfl
theorem Qb4:tab XA=some Y8:=rfl
theorem Qu:tab Qp=some Qs:=rfl
theorem YN:tab ZL=some YD:=rfl
theorem QbG:tab Qab=some YV:=rfl
theorem YL:tab QaO=some Zo:=rfl
theorem Xa:tab Xz=some XM:=rfl
theorem QeO:tab Qbj=some Qao:=rfl
theorem Zk:tab Zm=some Xe:=rfl
theorem QbE:tab QbK=some YR:=rfl
theorem QH:tab Q9=some Qr:=rfl
theorem QgH:tab Qbc=some Qbf:=rfl
theorem QeM:tab Qe5=some QaE:=rfl
theorem Qd7:tab Qec=some Qah:=rfl
theorem QkP:tab QhX=some Qix:=rfl
theorem QbD:tab QbH=some YO:=rfl
theorem Qc4:tab Qda=some ZS:=rfl
theorem Yu:tab ZI=some Xs:=rfl
theorem Qc3:tab Qc9=some ZR:=rfl
theorem Qb2:tab Qaq=some Yt:=rfl
theorem Qc2:tab Qa9=some ZQ:=rfl
theorem QkS:tab Qk4=some QeL:=rfl
theorem QgP:tab Qcb=some Qa5:=rfl
theorem QlM:tab QgJ=some strconv_Itoa:=rfl
theorem QkR:tab Qk3=some QeK:=rfl
theorem Z7:tab Z8=some YK:=rfl
theorem YH:tab YI=some QO:=rfl
theorem Zf:tab QaP=some X9:=rfl
theorem Xy:tab Qar=some Y6:=rfl
theorem Qdu:tab Qk9=some QfA:=rfl
theorem Qb3:tab Qas=some Y7:=rfl
theorem QcC:tab Qe7=some Qdm:=rfl
theorem Xb:tab Zg=some Y9:=rfl
theorem YM:tab ZK=some YC:=rfl
theorem Qdt:tab Qk8=some Qfz:=rfl
theorem ZH:tab ZN=some YE:=rfl
theorem Xm:tab Qaa=some YU:=rfl
theorem Z1:tab Z3=some XG:=rfl
theorem QE:tab Xx=some Qw:=rfl
theorem X2:tab X3=some QD:=rfl
theorem Qb0:tab Qca=some Y0:=rfl
theorem XD:tab Xv=some YJ:=rfl
theorem Qaw:tab Qaz=some XY:=rfl
theorem Ye:tab Z9=some YT:=rfl
theorem QjB:tab Qe4=some QcY:=rfl
theorem QjA:tab Qe3=some QcX:=rfl
theorem Qjz:tab Qe2=some QcW:=rfl
theorem Qmf:tab QiJ=some QhI:=rfl
theorem Qme:tab QiI=some QhG:=rfl
theorem QkO:tab QgV=some QeG:=rfl
theorem QkN:tab QgU=some QeF:=rfl
theorem Qjy:tab Qe1=some QcV:=rfl
theorem Qjx:tab Qe0=some QcU:=rfl
theorem Qjw:tab QeZ=some QcT:=rfl
theorem Qjv:tab QeY=some QcS:=rfl
theorem Qju:tab QeX=some QcR:=rfl
theorem Qjt:tab QeW=some QcQ:=rfl
theorem QhO:tab QdA=some QbY:=rfl
theorem QfN:tab Qmn=some QhH:=rfl
theorem QhN:tab Qdz=some QbX:=rfl
theorem QhM:tab Qdy=some QbW:=rfl
abbrev wd:AC:=zg Qvb [] (.seq (zw 28 .skip (.exit 0)) (.seq (.block 1 (zg Qva [29,30,31] (zg Qu9 [32] (.block 2 (zg QoB [35] (zw 34 (.seq (zg QoA [37,38,39,40,36,41,42,10] (zg Qoz [43] (zw 44 (.reg Qoy [46,47,48,49,50,51,52,53,54,55,56,45,57,58]) .skip))) (.reg Qox [59,60,61,62,63,64,65,66,67,68,69,70])) (zg Qow [72] (zw 71 (.reg Qov [73,74,75,76,77,78,79,80,81,82,83,84,85,86,87,88,89]) (zg Qou [91] (zw 90 (.reg Qot [92,93,94,95,96,97,98,99,100,101,102,103]) .skip)))))))))) (.reg Qos [104])))
abbrev we:AC:=zg Qsk [] (.seq (zw 50 .skip (.exit 2)) (.seq (.block 3 (zg Qsj [51,52] (zg Qsi [54,55,56,57,58,59,53,60,61,11] (zg Qsh [62] (.block 4 (zg Qsg [65] (zw 64 (.seq (.block 5 (.loop (.seq (zg Qsf [66,67,68,69,70] (zw 71 .skip (.exit 5))) (.block 6 (.reg Qse [72,73,74,75,76]))))) (.reg Qsd [77,78,79,80,81,82,83,84])) (zg Qsc [86] (zw 85 (.reg Qsb [87,88,89,90,91,92,93,94,95,96,97,98,99,100,101,102,103]) .skip))))))))) (.reg Qsa [104])))
abbrev wg:AC:=.seq (zg Qwr [52,53,54] (zw 55 .skip (.exit 0))) (.seq (.block 1 (zg Qwq [59,60,61,58,62,63,14] (zg Qwp [64,65,66,67,68,69,70] (zw 71 (zg Qwo [73,74,75,72,76,77,15] (zg QoQ [78,79,80,81,82] .ret)) .skip)))) (.reg QoP [56,57]))
abbrev wh:AC:=.seq (zg QoO [83,84,85] (zw 86 .skip (.exit 2))) (.seq (.block 3 (zg QoN [90,91,92,89,93,94] (zg QoM [95,96,97,98,99,100] (zw 101 (zg QoL [] .ret) .skip)))) (.reg QoK [87,88]))
abbrev wi:AC:=.seq (zg QoJ [167,168,169] (zw 170 .skip (.exit 4))) (.seq (.block 5 (zg QoI [174,175,176,177,173,178,179,31] (zg QoH [181,182,183,184,180,185,186,33] (zg QoG [188,189,190,187,191,192,35] (zg QoF [193,194,195,196,197,198,199,200,201] (zw 202 (zg QoE [] .ret) .skip)))))) (.reg QoD [171,172]))
abbrev wj:AC:=.seq (zg Qob [165,166,167] (zw 168 .skip (.exit 8))) (.seq (.block 9 (zg Qoa [171,172,173,174,175,176,177,178,179,180] (.seq (zg Qn9 [181,182,183,184,185,186,187,188] (zw 189 (.exit 9) .skip)) (zg Qn8 [190,191,192,193,194,195,196,197,198,199] (.seq (zg Qn7 [200,201] (zw 202 (zg Qn6 [] .ret) .skip)) (.reg Qn5 [203,204,205,206,207,208,209,210,211,212])))))) (.reg Qn4 [169,170]))
abbrev wm:AC:=.seq (zg Qu8 [34,35,36] (zw 37 .skip (.exit 0))) (.seq (.block 1 (zg Qu7 [40,41,42,43,44,45,46,47,48,49,50,51,52,53,54,55,56,57,58,59,60] (zw 61 (zg Qu6 [62] .ret) .skip))) (.reg Qu5 [38,39]))
abbrev wn:AC:=.seq (zg Qor [70,71,72] (zw 73 .skip (.exit 2))) (.seq (.block 3 (zg Qoq [77,78,79,76,80,81] (.seq (zg Qop [82] (zw 83 (zg Qoo [] .ret) .skip)) (zg Qon [85,86,87,84,88,89,16] (zg Qom [90,91,92,93,94,95,96,97,98,99,100,101,102,103,104,105,106,107,108,109,110,111] (zw 112 (.reg Qol [113,114,115]) .skip)))))) (.reg Qok [74,75]))
abbrev wo:AC:=.seq (zg Qoj [118,119,120] (zw 121 .skip (.exit 4))) (.seq (.block 5 (zg Qoi [124,125,126,127,128,129,130,131,132,133,134,135,136,137,138,139,140,141,142,143,144,145] (zw 146 (zg Qoh [] .ret) .skip))) (.reg Qog [122,123]))
abbrev wq:AC:=.seq (zg Qof [147,148,149] (zw 150 .skip (.exit 6))) (.seq (.block 7 (zg Qoe [153,154,155,156,157,158] (zw 159 (zg Qod [] .ret) .skip))) (.reg Qoc [151,152]))
abbrev ws:AC:=.seq (zg Qy6 [30,31,32] (zw 33 .skip (.exit 0))) (.seq (.block 1 (zg Qy5 [36,37,38,39,40,41,42,43,44,45,46,47,48,49,50,51,52,53,54,55,56] (zw 57 (zg Qy4 [58] .ret) .skip))) (.reg Qy3 [34,35]))
abbrev wu:AC:=.seq (zg QqY [20,21,22] (zw 23 .skip (.exit 2))) (.seq (.block 3 (zg QqX [26,27,28,29,30,31,32,33,34,35,36,37,38,39,40] (zg QqW [41,42,43,44,45,46,47,48,49,50,51,52,53,54,55,56,57,58,59,60,61,62,63,64,65,66,67,68,69,70,71,72,73,74,75,76] (zw 77 (zg QqV [] .ret) .skip)))) (.reg QqU [24,25]))
abbrev wv:AC:=.seq (zg Qwd [16] (zw 17 .skip (.exit 0))) (.seq (.block 1 (zg Qwc [] (.block 2 (.loop (.seq (zg QqY [20,21,22] (zw 23 .skip (.exit 2))) (.seq (.block 3 (zg QqX [26,27,28,29,30,31,32,33,34,35,36,37,38,39,40] (zg QqW [41,42,43,44,45,46,47,48,49,50,51,52,53,54,55,56,57,58,59,60,61,62,63,64,65,66,67,68,69,70,71,72,73,74,75,76] (zw 77 (zg QqV [] .ret) .skip)))) (.reg QqU [24,25]))))))) (.reg QoC [18,19]))
abbrev ww:AC:=.seq (zg QsB [86] (zw 87 .skip (.exit 4))) (.seq (.block 5 (zg QsA [90,91,92,93,94,95,96,97,98] (zg Qsz [99,100,101,102,103,104,105,106,107,108] (zw 109 (zg Qsy [] .ret) .skip)))) (.reg Qsx [88,89]))
abbrev wz:AC:=zg Qsw [] (.seq (zw 68 .skip (.exit 2)) (.seq (.block 3 (zg Qsv [69] (zg QmK [70,71,72,73,74,75,76,77,78,79,80] (.reg QmJ [81,82,83,84,85,86,87,88,89,90,91])))) (.reg QmI [92])))
abbrev wA:AC:=zg QuV [] (.seq (zw 38 .skip (.exit 0)) (.seq (.block 1 (zg QuU [39,40] (.seq (zg QuT [42,43,44,45,46,47,41,48,49,8] (zg Qn3 [] (zw 50 (.exit 1) .skip))) (zg Qn2 [52,53,54,55,56,57,51,58,59,11] (zg Qn1 [] (.seq (zg Qn0 [60] (.block 2 (zg QnZ [66] (zw 65 (.reg QnY [67,68,69]) (zg QnX [71] (zw 70 (zg QnW [] (zg QnV [73,74,75,76,77,78,79,80,81,82,83,84,85,86,87,88,89,90,72,91,92] (zg QnU [93] (zw 94 (.reg QnT [95,96,97]) .skip)))) (.reg QnS [62,63,64]))))))) (zg QnR [98,99,100,101,102,103] (zg QnQ [104,105] (zw 106 (.reg QnP [107,108,109,110,111]) .skip))))))))) (.reg QnO [112])))
end Go.Proofs.YtoeicjlflmmmcaaGreatDoor
