/- The translations of the functions, by a program of mine. -/
import Derived.Test.YtoeicjlflmmmcaaGreatDoorTabA
namespace Go.Proofs.YtoeicjlflmmmcaaGreatDoor
open Go Go.Am
set_option maxRecDepth 100000
set_option maxHeartbeats 4000000
def QAd:AT:=mkt 0x4414f4b64bb190
def QAc:AT:=mkt 0x261946f467a86e0efed837b290
def QAb:AT:=mkt 0x16c2e1ba30f0
def QAa:AT:=mkt 0xa626a901105430f8
def Qz9:AT:=mkt 0x1e21208cced4a306014088d81d8
def Qz8:AT:=mkt 0x176b4c6f1349982a0
def Qz7:AT:=mkt 0x3c6fc138
def Qz6:AT:=mkt 0x1a1a71a7a63c22f802c0
def Qz5:AT:=mkt 0x3aabf65f4edf2842d0
def Qz4:AT:=mkt 0x760c048ad0d7dc228
def QrB:AT:=mkt 0x1b0175e45805e84230
def QrA:AT:=mkt 0x74d047db1adc341
def YZ:AF:=⟨25,[.tmp 4],
 (zg QAd []
 (zg QAc [10]
 (zg QAb []
 (zg QAa []
 (zg Qz9 [11]
 (.seq (zg Qz8 []
 (.block 0 (.loop (zg Qz7 []
 (.seq (zw 15
 .skip
 (.exit 0))
 (.seq (.block 1 (zg Qz6 [16,17]
 (.reg Qz5 [18,19,20])))
 (.reg Qz4 [21])))))))
 (zg QrB [22,23]
 (zg QrA [24]
 .ret))))))))⟩
abbrev Ys:Nat:=53
def Qz3:AT:=mkt 0x2f2b00e0
def Qz2:AT:=mkt 0xa2c25cbc9475fd752899ee33fe76969803e8
def Qz:AF:=⟨9,[.tmp 4],
 (zg Qz3 []
 (zg Qz2 [5,6,7,8]
 .ret))⟩
abbrev XH:Nat:=54
def Qz1:AT:=mkt 0x2f2b00e0
def Qz0:AT:=mkt 0x3335de73c67f33a6e685cd4edd212729a461d32dd134a96ec1e059612db1bf0298b3bfc189ad55c0940
def QzZ:AT:=mkt 0x6d19e43deb32d3ead9fe6efc6500288f22c6e92471efc0497b7b6228885e97a4740
def Yw:AF:=⟨24,[.tmp 4],
 (zg Qz1 []
 (zg Qz0 [8,9,10,11,12,13,7,14,15,6]
 (zg QzZ [16,17,18,19,20,21,22,23]
 .ret)))⟩
abbrev Q4:Nat:=55
def QzY:AT:=mke 0x3fa32a02ac06ca88988b1b0 (.wr false (some 8) none (.new 85 (List.replicate 64 [(.int .i64 0)]).flatten)
 (.rd (some 9) none (.mov (.c (.bool false)))
 .done))
def QzX:AT:=mkt 0x10a929e00110
def QzW:AT:=mkt 0xf18118
def QzV:AT:=mkt 0x13adddeb0af831ec1f0
def QzU:AT:=mkt 0xc53d2e3ec0f30131117e8d0e8e29189636431567012bfca30c81fc0a5254f73d783c0680
def QzT:AT:=mkt 0x2054b29002d661ec238
def QzS:AT:=mkt 0x1599135ec6dacbdd11e36d12a6104812b2b453bc54f24c4cf454e84fcee8a35fc491d7a602d4b930040c09
def QzR:AT:=mkt 0x15020d16d2237df34389
def QzQ:AT:=mkt 0x192fa2f08369eac9ccf7bb14c3938ca2312d7a602d4b930040751
def QzP:AT:=mkt 0x18d3e4f3f5ac46f343b9
def Qrz:AT:=mkt 0xe0e287753bba9271c29bd8284bf32677a68342fc1d31f6140e667d851b0720d42
def Qry:AT:=mkt 0xb916008c78fc12520572
def Qrx:AT:=mkt 0xe0e287753c195bd9a20153222c4c34518b2528a98d140e667d851b0720d7a
def Qrw:AT:=mkt 0xd5405baa48d7da5205aa
def Qrv:AT:=mkt 0xe0e287753c7825418166ce1c0ca4e671aac19e44916436140e667d851b0720db2
def Qru:AT:=mkt 0xf16ab6c818b3a25205e2
def Qrt:AT:=mkt 0xd07a87d84062dc24b18c05136f47addf48ea4876f373296ea440d9d9b010eb
def Qrs:AT:=mkt 0x52538b8fbb80b617b0813
def Qrr:AT:=mkt 0xd07a87d84062dc1c5f6b9fc01a59c2aff99a4876f373296ea440d9d9b0111b
def Qrq:AT:=mkt 0x59cf8298f88d28d7b0843
def Qrp:AT:=mkt 0x5190e7e7fd81516b67acb08f4ce5edc2869e90d3c7ef834169686010c43b7167dc5296ea440d9d9b0174b
def Qro:AT:=mkt 0x63ca214f13001b97b0883
def Qrn:AT:=mkt 0xdcb610b5d9d532ac5571935a1272526a9987051b0816da048e0cd93e8e031bfff86a08529c2c769de82f2c0208b
def Qrm:AT:=mkt 0x7182bb88798cce57b08db
def Qrl:AT:=mkt 0x4881960d1196de0cf23e6426243b8a2ec8a055860cee85b6d8e08acfc6bbc86401ae4
def Qrk:AT:=mkt 0x17e646e208431e04a40b14
def Qrj:AT:=mkt 0x11198fc3550a12f6d25988bcc471ac25e41de871aff0d6d958e08acfc6bbc86401f1c
def Qri:AT:=(.rd (some 12) none (.build (List.replicate 64 [(.int .i64 0)]).flatten [])
 (.wr false none none (.store 64 (.t 8) (.t 12))
 (.rd (some 9) none (.mov (.c (.bool false)))
 .done)))
def Qrh:AT:=mkt 0xa7ff405c87765793f01030a360e40f4c
def Qp:AF:=⟨106,[.cell 8 true 64,.tmp 9],
 (zg QzY []
 (zg QzX []
 (.seq (zg QzW []
 (.block 0 (zg QzV [14]
 (zw 13
 (.reg QzU [16,17,18,19,15,20,21])
 (zg QzT [23]
 (zw 22
 (.reg QzS [25,26,27,28,29,24,30,31])
 (zg QzR [33]
 (zw 32
 (.reg QzQ [34,35,36,37])
 (zg QzP [39]
 (zw 38
 (.reg Qrz [40,41,42,43,44])
 (zg Qry [46]
 (zw 45
 (.reg Qrx [47,48,49,50,51])
 (zg Qrw [53]
 (zw 52
 (.reg Qrv [54,55,56,57,58])
 (zg Qru [60]
 (zw 59
 (.reg Qrt [61,62,63,64])
 (zg Qrs [66]
 (zw 65
 (.reg Qrr [67,68,69,70])
 (zg Qrq [72]
 (zw 71
 (.reg Qrp [73,74,75,76,77,78])
 (zg Qro [80]
 (zw 79
 (.reg Qrn [81,82,83,84,85,86,87,88,89])
 (zg Qrm [91]
 (zw 90
 (.reg Qrl [92,93,94,95,96])
 (zg Qrk [98]
 (zw 97
 (.reg Qrj [99,100,101,102,103,104])
 (zg Qri [12]
 .ret)))))))))))))))))))))))))))
 (zg Qrh [105]
 .ret))))⟩
abbrev Qk:Nat:=56
def QzO:AT:=(.wr false (some 4) none (.new 85 (List.replicate 64 [(.int .i64 0)]).flatten)
 .done)
def QzN:AT:=mkt 0xc25500f0
def QzM:AT:=mkt 0x76fd4a769040f8
def QzL:AT:=mkt 0x5c9af20401c0
def QzK:AT:=mkt 0x13b5c40e37d21c396091ad6bda586101e94c65fec52bd787a234290c62649da9db0ba5884c201e8f0d6472cd2a378890
def QzJ:AT:=mkt 0x6ac53dbc06c99c218
def QzI:AT:=mkt 0x50fd3465904c21ea22ac220
def XW:AF:=⟨21,[.cell 4 true 64],
 (zg QzO []
 (.seq (zg QzN []
 (.block 0 (.loop (zg QzM []
 (.seq (zw 7
 .skip
 (.exit 0))
 (.seq (.block 1 (zg QzL [8]
 (.reg QzK [10,11,12,13,14,15,9,16,17,18])))
 (.reg QzJ [19])))))))
 (zg QzI [20]
 .ret)))⟩
abbrev Y6:Nat:=57
def QzH:AT:=mkt 0x3fa32a02ac0b6a9b1b0
def QzG:AT:=mkt 0x27525b593a1452aab25b09f9c04f8
def QzF:AT:=mkt 0x3c6fc168
def QzE:AT:=mkt 0x234fd1920b44a07802f0
def QzD:AT:=mkt 0xf6977a9107379d90b20644125bcd811274c9e1df981971572b995403147cdc3ef06ea458145efa0e40fc9
def QzC:AT:=mkt 0x13db78abb7ddc24f666d94cf3401b58eaf0ff2661226d0afec03af073ec082972d4e190a
def QzB:AT:=(.rd (some 45) none (.mov (.t 0))
 (.rd (some 46) none (.mov (.t 0))
 (.rd (some 47) none (.nilc (.t 46))
 (.rd (some 48) none (.faddr 4 (.t 47))
 (.rd (some 49) none (.load false 1 (.t 48))
 (.rd (some 50) none (.faddr 5 (.t 6))
 (.rd (some 51) none (.load false 1 (.t 50))
 (.rd (some 52) none (.look false false [.i] (.agg [(.int .i64 0),(.int .i64 0),(.int .i64 0),(.int .i64 0),(.int .i64 0),(.int .i64 0),(.int .i64 0),(.int .i64 0),(.int .i64 0),(.int .i64 0),(.int .i64 0),(.int .i64 0),(.int .i64 0),(.int .i64 0),(.int .i64 0),(.int .i64 0),(.int .i64 0),(.int .i64 0),(.int .i64 0),(.int .i64 0),(.int .i64 0),(.int .i64 0),(.int .i64 0),(.int .i64 0),(.int .i64 0),(.int .i64 0),(.int .i64 0),(.int .i64 0),(.int .i64 0),(.int .i64 0),(.int .i64 0),(.int .i64 0),(.int .i64 0),(.int .i64 0),(.int .i64 0),(.int .i64 0),(.int .i64 0),(.int .i64 0),(.int .i64 0),(.int .i64 0),(.int .i64 0),(.int .i64 0),(.int .i64 0),(.int .i64 0),(.int .i64 0),(.int .i64 0),(.int .i64 0),(.int .i64 0),(.int .i64 0),(.int .i64 0),(.int .i64 0),(.int .i64 0),(.int .i64 0),(.int .i64 0),(.int .i64 0),(.int .i64 0),(.int .i64 0),(.int .i64 0),(.int .i64 0),(.int .i64 0),(.int .i64 0),(.int .i64 0),(.int .i64 0),(.int .i64 0)]) (.t 49) (.t 51))
 (.rd (some 53) none (.mov (.t 0))
 (.rd (some 54) none (.nilc (.t 53))
 (.rd (some 55) none (.faddr 4 (.t 54))
 (.rd (some 56) none (.load false 1 (.t 55))
 (.rd (some 57) none (.faddr 5 (.t 10))
 (.rd (some 58) none (.load false 1 (.t 57))
 (.rd (some 59) none (.look false false [.i] (.agg [(.int .i64 0),(.int .i64 0),(.int .i64 0),(.int .i64 0),(.int .i64 0),(.int .i64 0),(.int .i64 0),(.int .i64 0),(.int .i64 0),(.int .i64 0),(.int .i64 0),(.int .i64 0),(.int .i64 0),(.int .i64 0),(.int .i64 0),(.int .i64 0),(.int .i64 0),(.int .i64 0),(.int .i64 0),(.int .i64 0),(.int .i64 0),(.int .i64 0),(.int .i64 0),(.int .i64 0),(.int .i64 0),(.int .i64 0),(.int .i64 0),(.int .i64 0),(.int .i64 0),(.int .i64 0),(.int .i64 0),(.int .i64 0),(.int .i64 0),(.int .i64 0),(.int .i64 0),(.int .i64 0),(.int .i64 0),(.int .i64 0),(.int .i64 0),(.int .i64 0),(.int .i64 0),(.int .i64 0),(.int .i64 0),(.int .i64 0),(.int .i64 0),(.int .i64 0),(.int .i64 0),(.int .i64 0),(.int .i64 0),(.int .i64 0),(.int .i64 0),(.int .i64 0),(.int .i64 0),(.int .i64 0),(.int .i64 0),(.int .i64 0),(.int .i64 0),(.int .i64 0),(.int .i64 0),(.int .i64 0),(.int .i64 0),(.int .i64 0),(.int .i64 0),(.int .i64 0)]) (.t 56) (.t 58))
 (.rd (some 61) none (.mov (.t 0))
 (.rd (some 62) none (.nilc (.t 61))
 (.rd (some 63) none (.faddr 4 (.t 62))
 (.rd (some 65) none (.mov (.t 9))
 (.alt (.cl false (some 60) none (.c (.fn (.func 32) [] [])) [(.t 45),(.t 52),(.t 59)]
 (.alt (.rd (some 64) none (.load false 1 (.t 63))
 (.alt (.rd (some 66) none (.look false false [.i] (.agg [(.int .i64 0),(.int .i64 0),(.int .i64 0),(.int .i64 0),(.int .i64 0),(.int .i64 0),(.int .i64 0),(.int .i64 0),(.int .i64 0),(.int .i64 0),(.int .i64 0),(.int .i64 0),(.int .i64 0),(.int .i64 0),(.int .i64 0),(.int .i64 0),(.int .i64 0),(.int .i64 0),(.int .i64 0),(.int .i64 0),(.int .i64 0),(.int .i64 0),(.int .i64 0),(.int .i64 0),(.int .i64 0),(.int .i64 0),(.int .i64 0),(.int .i64 0),(.int .i64 0),(.int .i64 0),(.int .i64 0),(.int .i64 0),(.int .i64 0),(.int .i64 0),(.int .i64 0),(.int .i64 0),(.int .i64 0),(.int .i64 0),(.int .i64 0),(.int .i64 0),(.int .i64 0),(.int .i64 0),(.int .i64 0),(.int .i64 0),(.int .i64 0),(.int .i64 0),(.int .i64 0),(.int .i64 0),(.int .i64 0),(.int .i64 0),(.int .i64 0),(.int .i64 0),(.int .i64 0),(.int .i64 0),(.int .i64 0),(.int .i64 0),(.int .i64 0),(.int .i64 0),(.int .i64 0),(.int .i64 0),(.int .i64 0),(.int .i64 0),(.int .i64 0),(.int .i64 0)]) (.t 64) (.t 65))
 (.wr true (some 13) none (.new 85 (List.replicate 64 [(.int .i64 0)]).flatten)
 (.rd (some 12) none (.mov (.t 60))
 (.wr false none none (.store 64 (.t 13) (.t 66))
 .done)))) (.wr true (some 13) none (.new 85 (List.replicate 64 [(.int .i64 0)]).flatten)
 (.rd (some 12) none (.mov (.t 60))
 (.rd (some 66) none (.look false false [.i] (.agg [(.int .i64 0),(.int .i64 0),(.int .i64 0),(.int .i64 0),(.int .i64 0),(.int .i64 0),(.int .i64 0),(.int .i64 0),(.int .i64 0),(.int .i64 0),(.int .i64 0),(.int .i64 0),(.int .i64 0),(.int .i64 0),(.int .i64 0),(.int .i64 0),(.int .i64 0),(.int .i64 0),(.int .i64 0),(.int .i64 0),(.int .i64 0),(.int .i64 0),(.int .i64 0),(.int .i64 0),(.int .i64 0),(.int .i64 0),(.int .i64 0),(.int .i64 0),(.int .i64 0),(.int .i64 0),(.int .i64 0),(.int .i64 0),(.int .i64 0),(.int .i64 0),(.int .i64 0),(.int .i64 0),(.int .i64 0),(.int .i64 0),(.int .i64 0),(.int .i64 0),(.int .i64 0),(.int .i64 0),(.int .i64 0),(.int .i64 0),(.int .i64 0),(.int .i64 0),(.int .i64 0),(.int .i64 0),(.int .i64 0),(.int .i64 0),(.int .i64 0),(.int .i64 0),(.int .i64 0),(.int .i64 0),(.int .i64 0),(.int .i64 0),(.int .i64 0),(.int .i64 0),(.int .i64 0),(.int .i64 0),(.int .i64 0),(.int .i64 0),(.int .i64 0),(.int .i64 0)]) (.t 64) (.t 65))
 (.wr false none none (.store 64 (.t 13) (.t 66))
 .done)))))) (.wr true (some 13) none (.new 85 (List.replicate 64 [(.int .i64 0)]).flatten)
 (.rd (some 12) none (.mov (.t 60))
 (.rd (some 64) none (.load false 1 (.t 63))
 (.rd (some 66) none (.look false false [.i] (.agg [(.int .i64 0),(.int .i64 0),(.int .i64 0),(.int .i64 0),(.int .i64 0),(.int .i64 0),(.int .i64 0),(.int .i64 0),(.int .i64 0),(.int .i64 0),(.int .i64 0),(.int .i64 0),(.int .i64 0),(.int .i64 0),(.int .i64 0),(.int .i64 0),(.int .i64 0),(.int .i64 0),(.int .i64 0),(.int .i64 0),(.int .i64 0),(.int .i64 0),(.int .i64 0),(.int .i64 0),(.int .i64 0),(.int .i64 0),(.int .i64 0),(.int .i64 0),(.int .i64 0),(.int .i64 0),(.int .i64 0),(.int .i64 0),(.int .i64 0),(.int .i64 0),(.int .i64 0),(.int .i64 0),(.int .i64 0),(.int .i64 0),(.int .i64 0),(.int .i64 0),(.int .i64 0),(.int .i64 0),(.int .i64 0),(.int .i64 0),(.int .i64 0),(.int .i64 0),(.int .i64 0),(.int .i64 0),(.int .i64 0),(.int .i64 0),(.int .i64 0),(.int .i64 0),(.int .i64 0),(.int .i64 0),(.int .i64 0),(.int .i64 0),(.int .i64 0),(.int .i64 0),(.int .i64 0),(.int .i64 0),(.int .i64 0),(.int .i64 0),(.int .i64 0),(.int .i64 0)]) (.t 64) (.t 65))
 (.wr false none none (.store 64 (.t 13) (.t 66))
 .done))))))) (.alt (.rd (some 64) none (.load false 1 (.t 63))
 (.alt (.cl false (some 60) none (.c (.fn (.func 32) [] [])) [(.t 45),(.t 52),(.t 59)]
 (.alt (.rd (some 66) none (.look false false [.i] (.agg [(.int .i64 0),(.int .i64 0),(.int .i64 0),(.int .i64 0),(.int .i64 0),(.int .i64 0),(.int .i64 0),(.int .i64 0),(.int .i64 0),(.int .i64 0),(.int .i64 0),(.int .i64 0),(.int .i64 0),(.int .i64 0),(.int .i64 0),(.int .i64 0),(.int .i64 0),(.int .i64 0),(.int .i64 0),(.int .i64 0),(.int .i64 0),(.int .i64 0),(.int .i64 0),(.int .i64 0),(.int .i64 0),(.int .i64 0),(.int .i64 0),(.int .i64 0),(.int .i64 0),(.int .i64 0),(.int .i64 0),(.int .i64 0),(.int .i64 0),(.int .i64 0),(.int .i64 0),(.int .i64 0),(.int .i64 0),(.int .i64 0),(.int .i64 0),(.int .i64 0),(.int .i64 0),(.int .i64 0),(.int .i64 0),(.int .i64 0),(.int .i64 0),(.int .i64 0),(.int .i64 0),(.int .i64 0),(.int .i64 0),(.int .i64 0),(.int .i64 0),(.int .i64 0),(.int .i64 0),(.int .i64 0),(.int .i64 0),(.int .i64 0),(.int .i64 0),(.int .i64 0),(.int .i64 0),(.int .i64 0),(.int .i64 0),(.int .i64 0),(.int .i64 0),(.int .i64 0)]) (.t 64) (.t 65))
 (.wr true (some 13) none (.new 85 (List.replicate 64 [(.int .i64 0)]).flatten)
 (.rd (some 12) none (.mov (.t 60))
 (.wr false none none (.store 64 (.t 13) (.t 66))
 .done)))) (.wr true (some 13) none (.new 85 (List.replicate 64 [(.int .i64 0)]).flatten)
 (.rd (some 12) none (.mov (.t 60))
 (.rd (some 66) none (.look false false [.i] (.agg [(.int .i64 0),(.int .i64 0),(.int .i64 0),(.int .i64 0),(.int .i64 0),(.int .i64 0),(.int .i64 0),(.int .i64 0),(.int .i64 0),(.int .i64 0),(.int .i64 0),(.int .i64 0),(.int .i64 0),(.int .i64 0),(.int .i64 0),(.int .i64 0),(.int .i64 0),(.int .i64 0),(.int .i64 0),(.int .i64 0),(.int .i64 0),(.int .i64 0),(.int .i64 0),(.int .i64 0),(.int .i64 0),(.int .i64 0),(.int .i64 0),(.int .i64 0),(.int .i64 0),(.int .i64 0),(.int .i64 0),(.int .i64 0),(.int .i64 0),(.int .i64 0),(.int .i64 0),(.int .i64 0),(.int .i64 0),(.int .i64 0),(.int .i64 0),(.int .i64 0),(.int .i64 0),(.int .i64 0),(.int .i64 0),(.int .i64 0),(.int .i64 0),(.int .i64 0),(.int .i64 0),(.int .i64 0),(.int .i64 0),(.int .i64 0),(.int .i64 0),(.int .i64 0),(.int .i64 0),(.int .i64 0),(.int .i64 0),(.int .i64 0),(.int .i64 0),(.int .i64 0),(.int .i64 0),(.int .i64 0),(.int .i64 0),(.int .i64 0),(.int .i64 0),(.int .i64 0)]) (.t 64) (.t 65))
 (.wr false none none (.store 64 (.t 13) (.t 66))
 .done)))))) (.alt (.rd (some 66) none (.look false false [.i] (.agg [(.int .i64 0),(.int .i64 0),(.int .i64 0),(.int .i64 0),(.int .i64 0),(.int .i64 0),(.int .i64 0),(.int .i64 0),(.int .i64 0),(.int .i64 0),(.int .i64 0),(.int .i64 0),(.int .i64 0),(.int .i64 0),(.int .i64 0),(.int .i64 0),(.int .i64 0),(.int .i64 0),(.int .i64 0),(.int .i64 0),(.int .i64 0),(.int .i64 0),(.int .i64 0),(.int .i64 0),(.int .i64 0),(.int .i64 0),(.int .i64 0),(.int .i64 0),(.int .i64 0),(.int .i64 0),(.int .i64 0),(.int .i64 0),(.int .i64 0),(.int .i64 0),(.int .i64 0),(.int .i64 0),(.int .i64 0),(.int .i64 0),(.int .i64 0),(.int .i64 0),(.int .i64 0),(.int .i64 0),(.int .i64 0),(.int .i64 0),(.int .i64 0),(.int .i64 0),(.int .i64 0),(.int .i64 0),(.int .i64 0),(.int .i64 0),(.int .i64 0),(.int .i64 0),(.int .i64 0),(.int .i64 0),(.int .i64 0),(.int .i64 0),(.int .i64 0),(.int .i64 0),(.int .i64 0),(.int .i64 0),(.int .i64 0),(.int .i64 0),(.int .i64 0),(.int .i64 0)]) (.t 64) (.t 65))
 (.alt (.cl false (some 60) none (.c (.fn (.func 32) [] [])) [(.t 45),(.t 52),(.t 59)]
 (.wr true (some 13) none (.new 85 (List.replicate 64 [(.int .i64 0)]).flatten)
 (.rd (some 12) none (.mov (.t 60))
 (.wr false none none (.store 64 (.t 13) (.t 66))
 .done)))) (.wr true (some 13) none (.new 85 (List.replicate 64 [(.int .i64 0)]).flatten)
 (.cl false (some 60) none (.c (.fn (.func 32) [] [])) [(.t 45),(.t 52),(.t 59)]
 (.rd (some 12) none (.mov (.t 60))
 (.wr false none none (.store 64 (.t 13) (.t 66))
 .done)))))) (.wr true (some 13) none (.new 85 (List.replicate 64 [(.int .i64 0)]).flatten)
 (.alt (.cl false (some 60) none (.c (.fn (.func 32) [] [])) [(.t 45),(.t 52),(.t 59)]
 (.rd (some 12) none (.mov (.t 60))
 (.rd (some 66) none (.look false false [.i] (.agg [(.int .i64 0),(.int .i64 0),(.int .i64 0),(.int .i64 0),(.int .i64 0),(.int .i64 0),(.int .i64 0),(.int .i64 0),(.int .i64 0),(.int .i64 0),(.int .i64 0),(.int .i64 0),(.int .i64 0),(.int .i64 0),(.int .i64 0),(.int .i64 0),(.int .i64 0),(.int .i64 0),(.int .i64 0),(.int .i64 0),(.int .i64 0),(.int .i64 0),(.int .i64 0),(.int .i64 0),(.int .i64 0),(.int .i64 0),(.int .i64 0),(.int .i64 0),(.int .i64 0),(.int .i64 0),(.int .i64 0),(.int .i64 0),(.int .i64 0),(.int .i64 0),(.int .i64 0),(.int .i64 0),(.int .i64 0),(.int .i64 0),(.int .i64 0),(.int .i64 0),(.int .i64 0),(.int .i64 0),(.int .i64 0),(.int .i64 0),(.int .i64 0),(.int .i64 0),(.int .i64 0),(.int .i64 0),(.int .i64 0),(.int .i64 0),(.int .i64 0),(.int .i64 0),(.int .i64 0),(.int .i64 0),(.int .i64 0),(.int .i64 0),(.int .i64 0),(.int .i64 0),(.int .i64 0),(.int .i64 0),(.int .i64 0),(.int .i64 0),(.int .i64 0),(.int .i64 0)]) (.t 64) (.t 65))
 (.wr false none none (.store 64 (.t 13) (.t 66))
 .done)))) (.rd (some 66) none (.look false false [.i] (.agg [(.int .i64 0),(.int .i64 0),(.int .i64 0),(.int .i64 0),(.int .i64 0),(.int .i64 0),(.int .i64 0),(.int .i64 0),(.int .i64 0),(.int .i64 0),(.int .i64 0),(.int .i64 0),(.int .i64 0),(.int .i64 0),(.int .i64 0),(.int .i64 0),(.int .i64 0),(.int .i64 0),(.int .i64 0),(.int .i64 0),(.int .i64 0),(.int .i64 0),(.int .i64 0),(.int .i64 0),(.int .i64 0),(.int .i64 0),(.int .i64 0),(.int .i64 0),(.int .i64 0),(.int .i64 0),(.int .i64 0),(.int .i64 0),(.int .i64 0),(.int .i64 0),(.int .i64 0),(.int .i64 0),(.int .i64 0),(.int .i64 0),(.int .i64 0),(.int .i64 0),(.int .i64 0),(.int .i64 0),(.int .i64 0),(.int .i64 0),(.int .i64 0),(.int .i64 0),(.int .i64 0),(.int .i64 0),(.int .i64 0),(.int .i64 0),(.int .i64 0),(.int .i64 0),(.int .i64 0),(.int .i64 0),(.int .i64 0),(.int .i64 0),(.int .i64 0),(.int .i64 0),(.int .i64 0),(.int .i64 0),(.int .i64 0),(.int .i64 0),(.int .i64 0),(.int .i64 0)]) (.t 64) (.t 65))
 (.cl false (some 60) none (.c (.fn (.func 32) [] [])) [(.t 45),(.t 52),(.t 59)]
 (.rd (some 12) none (.mov (.t 60))
 (.wr false none none (.store 64 (.t 13) (.t 66))
 .done))))))))) (.wr true (some 13) none (.new 85 (List.replicate 64 [(.int .i64 0)]).flatten)
 (.alt (.cl false (some 60) none (.c (.fn (.func 32) [] [])) [(.t 45),(.t 52),(.t 59)]
 (.rd (some 12) none (.mov (.t 60))
 (.rd (some 64) none (.load false 1 (.t 63))
 (.rd (some 66) none (.look false false [.i] (.agg [(.int .i64 0),(.int .i64 0),(.int .i64 0),(.int .i64 0),(.int .i64 0),(.int .i64 0),(.int .i64 0),(.int .i64 0),(.int .i64 0),(.int .i64 0),(.int .i64 0),(.int .i64 0),(.int .i64 0),(.int .i64 0),(.int .i64 0),(.int .i64 0),(.int .i64 0),(.int .i64 0),(.int .i64 0),(.int .i64 0),(.int .i64 0),(.int .i64 0),(.int .i64 0),(.int .i64 0),(.int .i64 0),(.int .i64 0),(.int .i64 0),(.int .i64 0),(.int .i64 0),(.int .i64 0),(.int .i64 0),(.int .i64 0),(.int .i64 0),(.int .i64 0),(.int .i64 0),(.int .i64 0),(.int .i64 0),(.int .i64 0),(.int .i64 0),(.int .i64 0),(.int .i64 0),(.int .i64 0),(.int .i64 0),(.int .i64 0),(.int .i64 0),(.int .i64 0),(.int .i64 0),(.int .i64 0),(.int .i64 0),(.int .i64 0),(.int .i64 0),(.int .i64 0),(.int .i64 0),(.int .i64 0),(.int .i64 0),(.int .i64 0),(.int .i64 0),(.int .i64 0),(.int .i64 0),(.int .i64 0),(.int .i64 0),(.int .i64 0),(.int .i64 0),(.int .i64 0)]) (.t 64) (.t 65))
 (.wr false none none (.store 64 (.t 13) (.t 66))
 .done))))) (.rd (some 64) none (.load false 1 (.t 63))
 (.alt (.cl false (some 60) none (.c (.fn (.func 32) [] [])) [(.t 45),(.t 52),(.t 59)]
 (.rd (some 12) none (.mov (.t 60))
 (.rd (some 66) none (.look false false [.i] (.agg [(.int .i64 0),(.int .i64 0),(.int .i64 0),(.int .i64 0),(.int .i64 0),(.int .i64 0),(.int .i64 0),(.int .i64 0),(.int .i64 0),(.int .i64 0),(.int .i64 0),(.int .i64 0),(.int .i64 0),(.int .i64 0),(.int .i64 0),(.int .i64 0),(.int .i64 0),(.int .i64 0),(.int .i64 0),(.int .i64 0),(.int .i64 0),(.int .i64 0),(.int .i64 0),(.int .i64 0),(.int .i64 0),(.int .i64 0),(.int .i64 0),(.int .i64 0),(.int .i64 0),(.int .i64 0),(.int .i64 0),(.int .i64 0),(.int .i64 0),(.int .i64 0),(.int .i64 0),(.int .i64 0),(.int .i64 0),(.int .i64 0),(.int .i64 0),(.int .i64 0),(.int .i64 0),(.int .i64 0),(.int .i64 0),(.int .i64 0),(.int .i64 0),(.int .i64 0),(.int .i64 0),(.int .i64 0),(.int .i64 0),(.int .i64 0),(.int .i64 0),(.int .i64 0),(.int .i64 0),(.int .i64 0),(.int .i64 0),(.int .i64 0),(.int .i64 0),(.int .i64 0),(.int .i64 0),(.int .i64 0),(.int .i64 0),(.int .i64 0),(.int .i64 0),(.int .i64 0)]) (.t 64) (.t 65))
 (.wr false none none (.store 64 (.t 13) (.t 66))
 .done)))) (.rd (some 66) none (.look false false [.i] (.agg [(.int .i64 0),(.int .i64 0),(.int .i64 0),(.int .i64 0),(.int .i64 0),(.int .i64 0),(.int .i64 0),(.int .i64 0),(.int .i64 0),(.int .i64 0),(.int .i64 0),(.int .i64 0),(.int .i64 0),(.int .i64 0),(.int .i64 0),(.int .i64 0),(.int .i64 0),(.int .i64 0),(.int .i64 0),(.int .i64 0),(.int .i64 0),(.int .i64 0),(.int .i64 0),(.int .i64 0),(.int .i64 0),(.int .i64 0),(.int .i64 0),(.int .i64 0),(.int .i64 0),(.int .i64 0),(.int .i64 0),(.int .i64 0),(.int .i64 0),(.int .i64 0),(.int .i64 0),(.int .i64 0),(.int .i64 0),(.int .i64 0),(.int .i64 0),(.int .i64 0),(.int .i64 0),(.int .i64 0),(.int .i64 0),(.int .i64 0),(.int .i64 0),(.int .i64 0),(.int .i64 0),(.int .i64 0),(.int .i64 0),(.int .i64 0),(.int .i64 0),(.int .i64 0),(.int .i64 0),(.int .i64 0),(.int .i64 0),(.int .i64 0),(.int .i64 0),(.int .i64 0),(.int .i64 0),(.int .i64 0),(.int .i64 0),(.int .i64 0),(.int .i64 0),(.int .i64 0)]) (.t 64) (.t 65))
 (.cl false (some 60) none (.c (.fn (.func 32) [] [])) [(.t 45),(.t 52),(.t 59)]
 (.rd (some 12) none (.mov (.t 60))
 (.wr false none none (.store 64 (.t 13) (.t 66))
 .done)))))))))))))))))))))))))))))
def QzA:AT:=mkt 0xb86d4051b
def QoB:AT:=mkt 0x701fe91da710523
def QoA:AT:=mkt 0xbc0fb522fe082b
def QjZ:AT:=mkt 0x3080482e78f888761b86f02ff31905577661628e0b3ba84383885d1a42c4d3dc9fbec25ff6bd2ef098730973c70802333
def QjY:AT:=mkt 0x37431d58c440447c1371d7638ea8761753792bdcbd0a4a2fb2bd03dcf2deaacd723f7b950a928d7898730973c7080238b
def QjX:AT:=mkt 0x1cb014c774ebb15108e3
def Qrg:AT:=mkt 0x1cff0ba5e0ce2c6308eb
def Qrf:AT:=mkt 0x9a443a7509737ccbcff7bb9bb23e0d3801a709b30b92e377249ce9fe9ac3f4a6d84002ef4
def Yl:AF:=⟨104,[],
 (zg QzH []
 (.seq (zg QzG [15,16,17]
 (.block 0 (.loop (zg QzF []
 (.seq (zw 21
 .skip
 (.exit 0))
 (.seq (.block 1 (zg QzE [22,23]
 (zg QzD [25,26,27,28,29,30,24,31,32,11]
 (.seq (zg QzC [33,34,35,36,37,38,39,40,41,42,43]
 (zw 44
 (.exit 1)
 .skip))
 (zg QzB [45,46,47,48,49,50,51,52,53,54,55,56,57,58,59,60,61,62,63,64,65,66]
 (zg QzA []
 (.block 2 (.loop (zg QoB []
 (.seq (zw 68
 .skip
 (.exit 2))
 (.seq (.block 3 (zg QoA [69]
 (zg QjZ [70,71,72,73,74,75,76,77,78,79,80]
 (.reg QjY [81,82,83,84,85,86,87,88,89,90,91]))))
 (.reg QjX [92]))))))))))))
 (.reg Qrg [93])))))))
 (.reg Qrf [94,95,96,97,98,99,100,101,102,103])))⟩
abbrev Zs:Nat:=58
def Qzz:AT:=mkt 0xc25500f0
def Qzy:AT:=mkt 0x12dd8c52d023dd24209d898f95c9db60c3568e5780638
def YL:AF:=⟨14,[.tmp 6],
 (zg Qzz []
 (zg Qzy [7,8,9,10,11,12,13]
 .ret))⟩
abbrev ZY:Nat:=59
def Qzx:AT:=mkt 0xc25500f0
def Qzw:AT:=mkt 0x1868d00f8
def Qzv:AT:=mkt 0x3b90856bf581d0
def Qzu:AT:=mkt 0x3c82f2e765248f0c0a7dcbe584e0
def Qzt:AT:=mkt 0x3b90856ce70200
def Qzs:AT:=mkt 0x54b4b2ab1fd95091d522ccd70510
def Qzr:AT:=mkt 0xc96c9d087655b58e285b9
def Qzq:AT:=mkt 0x5671a38ce79220fdd58491
def Qzp:AT:=mkt 0x18057f518fc7eb63e84a9
def Qzo:AT:=mkt 0x40949f23daf2b315fbcf10739
def Qre:AT:=mkt 0x1da06e53fbdfd57d104e1
def Qrd:AT:=mkt 0x1ec48b71dce41dbb227de40b32
def Qrc:AT:=mkt 0x9e82502c50261e9d67c8301fe929c123cb8c4ce5d9df5c47a8ab32bfbf8c35a60c6d40b98cb8fd6ab87683c7ac11545e40401d5a
def Qrb:AT:=mkt 0x16a403b2
def Qra:AT:=mkt 0x3e0b645adf51e816721a821a8f15eb5f68b52775fc71c3faf9fdf8000fba
def Qq9:AT:=mkt 0x2418966c2e5a3473bee021a73596bab35e103a65d5f457f22223d2f2cbdd5644001cf3
def Qq8:AT:=mkt 0x74bed6b521d25905be78d8ecde91ac9680853dd35a5f2bd3f902fe900173b
def Qq7:AT:=mkt 0x30cf884140332c379e53ac5f542fdc5dc361590df2b1ed2e515f24d99001773
def Qq6:AT:=mkt 0x55d3cfd524dc433fdd00eab
def Q9:AF:=⟨88,[.tmp 6],
 (zg Qzx []
 (zg Qzw []
 (.seq (zg Qzv [10]
 (zw 11
 (.reg Qzu [12,13,14,15])
 .skip))
 (.seq (zg Qzt [16]
 (zw 17
 (.reg Qzs [18,19,20,21])
 .skip))
 (.seq (.block 0 (zg Qzr [23,24,25]
 (zw 22
 (zg Qzq [26,27]
 .ret)
 (zg Qzp [29,30]
 (zw 28
 (zg Qzo [31,32,33,34]
 .ret)
 (zg Qre [36,37]
 (zw 35
 (zg Qrd [38,39,40,41]
 .ret)
 .skip)))))))
 (zg Qrc [43,44,45,46,47,48,49,50,51,42,52,53]
 (.seq (zg Qrb []
 (zw 54
 (zg Qra [55,56,57,58,59,60,61]
 (zg Qq9 [62,63,64,65,66,67,68,69,70]
 (zg Qq8 [71,72,73,74,75,76,77]
 (.reg Qq7 [78,79,80,81,82,83,84]))))
 .skip))
 (zg Qq6 [85,86,87]
 .ret))))))))⟩
abbrev Q3:Nat:=60
def zq1m_0:AT:=mkt 0x603900e0
def zq1m_1:AT:=mkt 0x3b90856bf581a8
def zq1m_2:AT:=(.bad false (some 7) none
 (.bad false none none
 .done))
def zq1m_3:AT:=(.rd (some 8) none (.mov (.t 1))
 (.rd (some 9) none (.mov (.t 0))
 (.bad false (some 10) none
 (.rd (some 11) none (.mov (.t 0))
 (.rd (some 12) none (.len 0 (.t 11))
 (.rd (some 13) none (.bin .sub (.t 10) (.t 12))
 (.rd (some 14) none (.bin .sub (.t 8) (.t 13))
 (.rd (some 1) none (.mov (.t 14))
 .done))))))))
def zq1m_4:AT:=mkt 0x3b917c3a6581f8
def zq1m_5:AT:=(.rd (some 17) none (.mov (.t 0))
 (.rd (some 18) none (.mov (.t 0))
 (.bad false (some 19) none
 (.rd (some 20) none (.slc 1 (.t 17) none (some (.t 19)) none)
 (.rd (some 21) none (.mov (.t 1))
 (.bad false (some 22) none
 (.rd (some 23) none (.mov (.t 0))
 (.rd (some 24) none (.len 0 (.t 23))
 (.rd (some 25) none (.slc 1 (.t 22) none (some (.t 24)) none)
 (.rd (some 0) none (.mov (.t 25))
 .done))))))))))
def zq1m_6:AT:=mkt 0x545d61a790351
def ZE:AF:=⟨27,[.tmp 4],
 (zg zq1m_0 []
 (.seq (zg zq1m_1 [5]
 (zw 6
 (.reg zq1m_2 [7])
 .skip))
 (.seq (zg zq1m_3 [8,9,10,11,12,13,14]
 (zg zq1m_4 [15]
 (zw 16
 (.reg zq1m_5 [17,18,19,20,21,22,23,24,25])
 .skip)))
 (zg zq1m_6 [26]
 .ret))))⟩
abbrev Qak:Nat:=61
def Qzn:AT:=mkt 0x2f2b00e0
def Qzm:AT:=mkt 0xa2c25cbc9475fd7528ac4ed45ba8969803e8
def QO:AF:=⟨9,[.tmp 4],
 (zg Qzn []
 (zg Qzm [5,6,7,8]
 .ret))⟩
abbrev YJ:Nat:=62
def Qzl:AT:=mkt 0x2f2b00d8
def Qzk:AT:=mkt 0x3e78281bd52ff90474eda843e0
def Yh:AF:=⟨8,[.tmp 3],
 (zg Qzl []
 (zg Qzk [4,5,6,7]
 .ret))⟩
abbrev QaI:Nat:=63
def Qzj:AT:=mkt 0x2f2b00e0
def Qzi:AT:=mkt 0xa2c25cbc9475fd7528adfa85d87e969803e8
def QG:AF:=⟨9,[.tmp 4],
 (zg Qzj []
 (zg Qzi [5,6,7,8]
 .ret))⟩
abbrev Yo:Nat:=64
abbrev Qgz:Nat:=65
abbrev Qsn:Nat:=66
def Qzh:AT:=mkt 0x94f397d3a9b198
def Qzg:AT:=mkt 0x7329dfa41a8
def Qzf:AT:=mkt 0x6eb798cecffaec1c0
def Qze:AT:=mkt 0x28f10d0954f802bc288
def Qzd:AT:=mkt 0x10de207f9b5759041e0
def Qzc:AT:=mkt 0x46af4c9aae19bb3d55edda138acd8af27cc428
def Qzb:AT:=mkt 0x194d58f18e458904210
def Qza:AT:=mkt 0x77aaef2df170b402f13e67c00fd754d8f0e01da371c841ac91d52052e72edcc1f1076830254e59
def Qy9:AT:=mkt 0x2c38f84e51da1d0ea8e611af0e069d658c47ec6e8dd72d4588ddd590fb1b70f99132cc893ffb3700c34fe9
def Qag:AF:=⟨40,[.tmp 4],
 (zg Qzh []
 (.seq (zg Qzg [5]
 (.block 0 (zg Qzf [8]
 (zw 7
 (zg Qze [9,10]
 .ret)
 (zg Qzd [12]
 (zw 11
 (zg Qzc [13,14,15,16]
 .ret)
 (zg Qzb [18]
 (zw 17
 (zg Qza [19,20,21,22,23,24,25,26,27,28]
 .ret)
 .skip))))))))
 (zg Qy9 [29,30,31,32,33,34,35,36,37,38,39]
 .ret)))⟩
abbrev Qae:Nat:=67
def Qy8:AT:=mkt 0x897f0430a2b190
def Qy7:AT:=mkt 0xd7c07dbb764ccfb6821abc0a3bc16b9b6c837d3e3cebf586e8
def Qy6:AT:=mkt 0xc25500e0
def Qy5:AT:=mkt 0x192144bc00286cc3d875d2f17ca1a44f0
def ZQ:AF:=⟨19,[.tmp 4],
 (zg Qy8 []
 (.seq (zg Qy7 [5,6,7,8,9,10,11,12]
 (zw 13
 (zg Qy6 []
 .ret)
 .skip))
 (zg Qy5 [14,15,16,17,18]
 .ret)))⟩
abbrev Qdk:Nat:=68
def Qy4:AT:=mkt 0x4312a67d8def9e46e581769761a2b3e0
def Qy3:AT:=mkt 0x2aab8489428fd70bf5b847c6c817104bbfe257d9354bc410
def Qy2:AT:=mkt 0x3b9085738181f0
def Qy1:AT:=mkt 0xc2550100
def Qy0:AT:=mkt 0x6ea585f0036522f5eb0b96efd07d9354bc5c0
def Zx:AF:=⟨22,[.tmp 8],
 (zg Qy4 []
 (zg Qy3 [10,11,12,13]
 (.seq (zg Qy2 [14]
 (zw 15
 (zg Qy1 []
 .ret)
 .skip))
 (zg Qy0 [16,17,18,19,20,21]
 .ret))))⟩
abbrev Qcz:Nat:=69
def QyZ:AT:=mkt 0xc25500f0
def QyY:AT:=mkt 0x12302436a91f8898c861aa4ea94a673248ce34ad28e0340
def QyX:AT:=mke 0xbb2353ba41d0 (.rd (some 12) none (.eqf false (.t 11))
 .done)
def QyW:AT:=mkt 0xc25500f0
def QyV:AT:=mkt 0xccb16e7ed311634d1e0a5681b53ba44e8
def Qgk:AF:=⟨18,[.tmp 6],
 (zg QyZ []
 (zg QyY [8,9]
 (.seq (zg QyX [10,11]
 (zw 12
 (zg QyW []
 .ret)
 .skip))
 (zg QyV [13,14,15,16,17]
 .ret))))⟩
abbrev QfT:Nat:=70
abbrev QmR:Nat:=71
abbrev QpV:Nat:=72
abbrev Qis:Nat:=73
abbrev QpU:Nat:=74
abbrev Qm9:Nat:=75
abbrev QpT:Nat:=76
abbrev Qi8:Nat:=77
abbrev QpS:Nat:=78
abbrev QpR:Nat:=79
def QyU:AT:=mkt 0xc83be6c94d5fe6c98bd8ab069b188
def QyT:AT:=mkt 0x7329dfa4198
def QyS:AT:=mkt 0x5308ecd53ffaec1b0
def QyR:AT:=mkt 0x9d67375da7155741b8
def QyQ:AT:=mkt 0x1503a912566abc1c0
def QyP:AT:=mkt 0xe0e63142bbf85741d0
def QyO:AT:=mkt 0x4146e35a628104fdd5442236bc56a8534d2566abc4d8
def QyN:AT:=mkt 0x1515bcca725db5741f8
def QyM:AT:=mkt 0x1051b8d698a0413f7551088de449ba921a3297688ec500
def QyL:AT:=mkt 0x17a87329765ba4218
def Qq5:AT:=mkt 0x2ed527f1f88c220
def Qc3:AF:=⟨21,[.cell 2 true 6],
 (zg QyU []
 (.seq (zg QyT [3]
 (.block 0 (.seq (zg QyS [6]
 (zw 5
 .skip
 (.reg QyR [7])))
 (zw 5
 (.reg QyQ [8])
 (zg QyP [10]
 (zw 9
 (.reg QyO [11,12,13])
 (zg QyN [15]
 (zw 14
 (.reg QyM [16,17,18])
 .skip))))))))
 (zg QyL [19]
 (zg Qq5 [20]
 .ret))))⟩
abbrev Qiq:Nat:=80
def zq26_0:AT:=mkt 0x914700e0
def zq26_1:AT:=mkt 0x3a4b881827fdcbb009f8a96980328
def Qab:AF:=⟨8,[.tmp 4],
 (zg zq26_0 []
 (zg zq26_1 [5,6,7]
 .ret))⟩
abbrev Qa4:Nat:=81
def zq27_0:AT:=mkt 0x914700d0
def zq27_1:AT:=mkt 0x281d6185f4d53c45328e0258
def strconv_Itoa:AF:=⟨5,[.tmp 2],
 (zg zq27_0 []
 (zg zq27_1 [3,4]
 .ret))⟩
abbrev QeJ:Nat:=82
def QyK:AT:=mkt 0x914700d0
def QyJ:AT:=(.rd (some 3) none (.build (List.replicate 17 [(.str [])]).flatten [(0,1,(.c (.str []))),(1,1,(.c (.str [43]))),(2,1,(.c (.str [45]))),(3,1,(.c (.str [42]))),(4,1,(.c (.str [47]))),(5,1,(.c (.str [37]))),(6,1,(.c (.str [47,117]))),(7,1,(.c (.str [37,117]))),(8,1,(.c (.str [38]))),(9,1,(.c (.str [124]))),(10,1,(.c (.str [94]))),(11,1,(.c (.str [60,60]))),(12,1,(.c (.str [62,62,117]))),(13,1,(.c (.str [62,62]))),(14,1,(.c (.str [60]))),(15,1,(.c (.str [60,117]))),(16,1,(.c (.str [61,61])))])
 (.rd (some 4) none (.mov (.t 0))
 (.rd (some 5) none (.aidx false 1 17 (.t 3) (.t 4))
 (.rd (some 2) none (.mov (.t 5))
 .done))))
def Qc2:AF:=⟨6,[.tmp 2],
 (zg QyK []
 (zg QyJ [3,4,5]
 .ret))⟩
abbrev Qip:Nat:=83
def QyI:AT:=mkt 0x35a701c8dc8e9345df9686b0769dab710888ee060126d8998ab24d6da847c0
def QyH:AT:=mkt 0x307b18df65a101dfe842d0
def QyG:AT:=mkt 0x23528fc8ae2f05826270ef6f5e5e78dac5f079fa284460
def QyF:AT:=mkt 0x140b85f0dc6e4c5734f028a36c4e2b7f78fa5cd3b3e775476dcd41
def QyE:AT:=mkt 0x64ba4251
def QyD:AT:=mkt 0xf7f285620e13b58804d9
def QyC:AT:=mkt 0x1fe098d354468adc4e9
def QyB:AT:=mkt 0x283be64cf58b21e0542
def X9:AF:=⟨41,[],
 (.seq (zg QyI [8,9,10,11,12,13,14,15,16]
 (zw 17
 .ret
 .skip))
 (zg QyH [18,19]
 (zg QyG [20,21,22,23]
 (zg QyF [24,25,26,27,28,29,30]
 (.block 0 (.loop (zg QyE []
 (.seq (zw 34
 .skip
 (.exit 0))
 (.seq (.block 1 (zg QyD [35,36]
 (.reg QyC [37,38,39])))
 (.reg QyB [40]))))))))))⟩
abbrev Zp:Nat:=84
def QyA:AT:=mkt 0xc25500e0
def Qyz:AT:=mkt 0x176b4c6f133a80270
def Qyy:AT:=mkt 0x3c6fc108
def Qyx:AT:=mkt 0x73be4e6701d0
def Qyw:AT:=mkt 0x111ea2ae7f5c4be1ea4b4d9047184d8
def Qyv:AT:=mkt 0xc4b7598e8208
def Qyu:AT:=mkt 0x6529ab46034d2c210
def Qyt:AT:=mkt 0x127be400e0
def QC:AF:=⟨19,[.tmp 4],
 (zg QyA []
 (.seq (zg Qyz [6]
 (.block 0 (.loop (zg Qyy []
 (.seq (zw 9
 .skip
 (.exit 0))
 (.seq (.block 1 (zg Qyx [10]
 (zg Qyw [11,12,13,14,15]
 (zw 16
 (zg Qyv [17]
 .ret)
 .skip))))
 (.reg Qyu [18])))))))
 (zg Qyt []
 .ret)))⟩
abbrev X5:Nat:=85
def Qys:AT:=mke 0x288988b0c8 (.wr false (some 2) none (.new 85 (List.replicate 64 [(.int .i64 0)]).flatten)
 .done)
def Qyr:AT:=mkt 0x571471302ae7cd01a5e2b234dc5f14e2695c2c87ea8c48dea23a83d8
def Qyq:AT:=mkt 0x2e482ca5900835ea22ac1b8
def Xz:AF:=⟨8,[.cell 2 true 64],
 (zg Qys []
 (zg Qyr [3,4,5,6]
 (zg Qyq [7]
 .ret)))⟩
abbrev ZZ:Nat:=86
def Qyp:AT:=mke 0x2e48a622abf02688988b1a8 (.wr false (some 8) none (.new 85 (List.replicate 64 [(.int .i64 0)]).flatten)
 (.rd (some 9) none (.mov (.c (.int .i64 0)))
 .done))
def Qyo:AT:=mkt 0xc2550120
def Qyn:AT:=mkt 0x76fd4a76904128
def Qym:AT:=mkt 0xa212710101f0
def Qyl:AT:=mkt 0xb2f2c0e7c269285b0efae2ca733abccd5b61e9c4b8efc8c0d1e19fffa9ac6b00738
def Qyk:AT:=mkt 0x29d4893f2b7dbdf508886f6ba19d247b26d6296716c2c37390979
def Qyj:AT:=mke 0xc08e55f1f685c3fb096bae816a6b5b9e3e56870e15e0ff6513a988ee80014ea (mkt 0x70120be0f9f7d28ca21fc8152234f03b8718ba214be32ec72f8ae40b42)
def Qyi:AT:=mkt 0x2b3e56d288ecbe2055a
def Qyh:AT:=mkt 0x1a0f01fe746012957b0708c1451b0720962
def Yu:AF:=⟨46,[.cell 8 true 64,.tmp 9],
 (zg Qyp []
 (.seq (zg Qyo []
 (.block 0 (.loop (zg Qyn []
 (.seq (zw 13
 .skip
 (.exit 0))
 (.seq (.block 1 (zg Qym [14]
 (zg Qyl [15,16,17,18,19,20,21,22]
 (zg Qyk [23,24,25,26,27,28]
 (.reg Qyj [29,30,31,32,33,34,35,36,37,38,39,40,41,42])))))
 (.reg Qyi [43])))))))
 (zg Qyh [44,45]
 .ret)))⟩
abbrev ZH:Nat:=87
def Qyg:AT:=mke 0x288988b0c8 (.wr false (some 2) none (.new 85 (List.replicate 64 [(.int .i64 0)]).flatten)
 .done)
def Qyf:AT:=mkt 0xc25500e0
def Qye:AT:=mkt 0x76fd4a769040e8
def Qyd:AT:=mkt 0x4572381901b0
def Qyc:AT:=mkt 0x5af2ddf42282379670fc0305b9ab84a5ea5bff73af6fc8578
def Qyb:AT:=mkt 0x490d921a0e460c1e8
def Qya:AT:=mkt 0x2e482ca5900835ea22ac1f0
def QdG:AF:=⟨15,[.cell 2 true 64],
 (zg Qyg []
 (.seq (zg Qyf []
 (.block 0 (.loop (zg Qye []
 (.seq (zw 5
 .skip
 (.exit 0))
 (.seq (.block 1 (zg Qyd [6]
 (.reg Qyc [7,8,9,10,11,12])))
 (.reg Qyb [13])))))))
 (zg Qya [14]
 .ret)))⟩
abbrev Qix:Nat:=88
def Qx9:AT:=mke 0x2e48a622abf02688988b1a0 (.wr false (some 6) none (.new 85 (List.replicate 64 [(.int .i64 0)]).flatten)
 .done)
def Qx8:AT:=mke 0x1498ec2706118 (.wr false (some 7) none (.new 85 (List.replicate 64 [(.int .i64 0)]).flatten)
 (.wr false none none (.store 64 (.t 7) (.t 11))
 .done))
def Qx7:AT:=mkt 0xc2550120
def Qx6:AT:=mkt 0x76fd4a76904128
def Qx5:AT:=mkt 0xa20d137901f0
def Qx4:AT:=mkt 0x187e4d06d7e98843bfa243458c140378
def Qx3:AT:=mke 0x1498ec2706158 (.wr false (some 9) none (.new 85 (List.replicate 64 [(.int .i64 0)]).flatten)
 (.wr false none none (.store 64 (.t 9) (.t 19))
 .done))
def Qx2:AT:=mkt 0xe77c7cbb0220
def Qx1:AT:=mkt 0x3ccd4d9cb59f230228
def Qx0:AT:=mkt 0x13eb52d7073d870cdf8fd319ed6de3e0c53ab226d9146b1643c34d6ea13f5bcdccb56ec84db409b80a09d5e80b91109
def Qq4:AT:=mkt 0x133637d2a0d81624d0479
def Qq3:AT:=mkt 0x50293c133c1a7cbd83f3d1d5091f1b90b2b644cbdce39d01402b7661434e1f80bd5eedf201132
def Qq2:AT:=mkt 0x2c3fc3b0a1ecbe20562
def Qq1:AT:=mkt 0x30f2caad6e37d251b072056a
def Yv:AF:=⟨46,[.cell 6 true 64],
 (zg Qx9 []
 (zg Qx8 [11]
 (.seq (zg Qx7 []
 (.block 0 (.loop (zg Qx6 []
 (.seq (zw 13
 .skip
 (.exit 0))
 (.seq (.block 1 (zg Qx5 [14]
 (.seq (zg Qx4 [15,16,17]
 (zw 18
 (.exit 1)
 .skip))
 (zg Qx3 [19]
 (.seq (zg Qx2 [20]
 (.block 2 (.loop (.seq (zg Qx1 [21]
 (zw 22
 .skip
 (.exit 2)))
 (.seq (.block 3 (.reg Qx0 [25,26,27,28,29,30,31,32,33,34,35,36]))
 (.reg Qq4 [23,24]))))))
 (.reg Qq3 [38,39,40,41,37,42,43]))))))
 (.reg Qq2 [44])))))))
 (zg Qq1 [45]
 .ret))))⟩
abbrev ZI:Nat:=89
def QxZ:AT:=mke 0x1cee2242abd98288988b198 (.wr false (some 6) none (.new 85 (List.replicate 64 [(.int .i64 0)]).flatten)
 .done)
def QxY:AT:=mkt 0xc2550100
def QxX:AT:=mkt 0x76fd4a76904108
def QxW:AT:=mkt 0x73c3abef01d0
def QxV:AT:=mkt 0x133894b4196d290d9f7bdb7d43eef815ac2e99cdce745d2140c2bfcf8242da2810b92bb8a8898
def QxU:AT:=mkt 0x760433996f4d2c228
def QxT:AT:=mkt 0x73b23c25907969ea22ac230
def QbR:AF:=⟨23,[.cell 6 true 64],
 (zg QxZ []
 (.seq (zg QxY []
 (.block 0 (.loop (zg QxX []
 (.seq (zw 9
 .skip
 (.exit 0))
 (.seq (.block 1 (zg QxW [10]
 (.reg QxV [11,12,13,14,15,16,17,18,19,20])))
 (.reg QxU [21])))))))
 (zg QxT [22]
 .ret)))⟩
abbrev Qdm:Nat:=90
def QxS:AT:=mkt 0xc25500f0
def QxR:AT:=mkt 0x1014aed9ebd9e91990b80da681df0dc45cb2971a2594b6a2a01fd7e65a75d5299524c358a10
def QxQ:AT:=mkt 0x127be400f0
def QxP:AT:=mkt 0x166ef83c8e7c80d6d22990b4cb254bd252d4f68e3e8ab9
def QxO:AT:=mkt 0x6158adc960371
def QxN:AT:=mkt 0x1a6c780974f6bd7d104c1
def QxM:AT:=mkt 0x6e53128038391
def QxL:AT:=mkt 0x8992f6ae447393bcf36d54ddd9920e83cad1bfbc3a7d0d52b9519b9c2e93fd32a3d2c501b515cd6ab87683c7ac11545e40401d22
def QxK:AT:=mkt 0x1420037a
def QxJ:AT:=mkt 0x359a79f42b82cf1b3c6a0b35c981721e7c942a0b4b59fc00d82
def Qq0:AT:=mkt 0x3bcba43ea4afde012b880b35c981721e8c8cd7432d71fc00db2
def QqZ:AT:=mkt 0x926a13aff571837db477b2aff9613c12e6d94acc61cb65011871bd21c35ea019e3
def QqY:AT:=mkt 0xb954bcca160823
def Yx:AF:=⟨69,[.tmp 6],
 (zg QxS []
 (.seq (.block 0 (zg QxR [10,11,12,13,14,15,16,17,18,19,20,21]
 (zw 9
 (zg QxQ []
 .ret)
 (zg QxP [23,24,25,26,27,28,29]
 (zw 22
 (zg QxO [30]
 .ret)
 (zg QxN [32,33]
 (zw 31
 (zg QxM [34]
 .ret)
 .skip)))))))
 (zg QxL [36,37,38,39,40,41,42,43,44,35,45,46]
 (.seq (zg QxK []
 (zw 47
 (zg QxJ [48,49,50,51,52,53]
 (zg Qq0 [54,55,56,57,58,59]
 (.reg QqZ [60,61,62,63,64,65,66,67])))
 .skip))
 (zg QqY [68]
 .ret)))))⟩
abbrev YE:Nat:=91
def QxI:AT:=mke 0x2e48a622abf02688988b1b0 (.wr false (some 10) none (.new 85 (List.replicate 64 [(.int .i64 0)]).flatten)
 .done)
def QxH:AT:=mkt 0xc2550148
def QxG:AT:=mkt 0x33432294150
def QxF:AT:=mkt 0xdbed86bc8218
def QxE:AT:=mkt 0x251df5620255be8c82e0
def QxD:AT:=mke 0x96f1ea22ac170 (.wr false (some 13) none (.new 85 (List.replicate 64 [(.int .i64 0)]).flatten)
 (.wr false none none (.store 64 (.t 13) (.t 22))
 .done))
def QxC:AT:=mkt 0xc2550178
def QxB:AT:=mkt 0x1405b2ba92dc201
def QxA:AT:=mkt 0x51234e53a8349
def Qxz:AT:=mkt 0xe18d8eb76b43278a305d1
def QqX:AT:=mkt 0x4b78229
def QqW:AT:=mkt 0x101c3f1c3b505c772305f1
def QqV:AT:=mkt 0x6b18fd3530389
def QqU:AT:=mkt 0x18a7dff37125b523365a88773e5f5e91712ad8c298891
def QqT:AT:=mkt 0x1795f834bd1993d977616257f7c0942
def QqS:AT:=mkt 0x3cda48a2f874d044f71ca26b4016fc97d1bcd703307fbeb1e25ea0cd1f488d5e9ce4ea25425c40857623378f38195a
def QqR:AT:=mkt 0x364efa99390ef2605b2
def QqQ:AT:=mkt 0x30f2caad6e4e7651b07205ba
def QqP:AT:=mkt 0x38514e065b2ad5e05c2
def QqO:AT:=mkt 0x4e50e4ed6e340c51b07205ca
def XV:AF:=⟨58,[.cell 10 true 64],
 (zg QxI []
 (.seq (zg QxH []
 (.block 0 (.loop (zg QxG []
 (.seq (zw 18
 .skip
 (.exit 0))
 (.seq (.block 1 (zg QxF [19]
 (zg QxE [20,21]
 (zg QxD [22]
 (.seq (zg QxC []
 (.block 2 (.loop (zg QxB []
 (.seq (zw 24
 .skip
 (.exit 2))
 (.seq (.block 3 (zg QxA [25]
 (zg Qxz [26,27,28]
 (.seq (zg QqX []
 (zw 29
 (.reg QqW [30,31,32])
 .skip))
 (zg QqV [33]
 (.seq (zg QqU [34,35,36,37,38]
 (zw 39
 (.reg QqT [40,41,42])
 .skip))
 (.reg QqS [43,44,45,46,47,48,49,50,51,52,53])))))))
 (.reg QqR [54])))))))
 (.reg QqQ [55]))))))
 (.reg QqP [56])))))))
 (zg QqO [57]
 .ret)))⟩
abbrev Y5:Nat:=92
def Qxy:AT:=(.wr false (some 2) none (.new 85 (List.replicate 64 [(.int .i64 0)]).flatten)
 .done)
def Qxx:AT:=mke 0x1498ec27060e0 (.wr false (some 3) none (.new 85 (List.replicate 64 [(.int .i64 0)]).flatten)
 (.wr false none none (.store 64 (.t 3) (.t 4))
 .done))
def Qxw:AT:=mkt 0x56fa7154fc7cb08434584880268
def Qxv:AT:=mkt 0x2e482ca590357dea22ac1b8
def QdF:AF:=⟨8,[.cell 2 true 64],
 (zg Qxy []
 (zg Qxx [4]
 (zg Qxw [5,6]
 (zg Qxv [7]
 .ret))))⟩
abbrev Qiw:Nat:=93
def Qxu:AT:=mkt 0x722b1779dba22abf02688988b260
def Qxt:AT:=(.rd (some 10) none (.mov (.t 0))
 (.rd (some 11) none (.load true 64 (.t 4))
 (.rd (some 12) none (.load true 64 (.t 5))
 (.alt (.cl true (some 13) none (.c (.fn (.func 88) [] [])) [(.t 12)]
 (.alt (.cl false (some 14) none (.c (.fn (.func 87) [] [])) [(.t 10),(.t 11),(.t 13),(.c (.int .i64 1))]
 (.rd (some 9) none (.mov (.t 14))
 (.rd (some 15) none (.extr (.t 9) 0)
 (.rd (some 16) none (.extr (.t 9) 1)
 (.wr true (some 7) none (.new 85 (List.replicate 64 [(.int .i64 0)]).flatten)
 (.wr false none none (.store 64 (.t 7) (.t 15))
 (.rd (some 8) none (.mov (.t 16))
 .done))))))) (.wr true (some 7) none (.new 85 (List.replicate 64 [(.int .i64 0)]).flatten)
 (.cl false (some 14) none (.c (.fn (.func 87) [] [])) [(.t 10),(.t 11),(.t 13),(.c (.int .i64 1))]
 (.rd (some 9) none (.mov (.t 14))
 (.rd (some 15) none (.extr (.t 9) 0)
 (.rd (some 16) none (.extr (.t 9) 1)
 (.wr false none none (.store 64 (.t 7) (.t 15))
 (.rd (some 8) none (.mov (.t 16))
 .done))))))))) (.wr true (some 7) none (.new 85 (List.replicate 64 [(.int .i64 0)]).flatten)
 (.cl true (some 13) none (.c (.fn (.func 88) [] [])) [(.t 12)]
 (.cl false (some 14) none (.c (.fn (.func 87) [] [])) [(.t 10),(.t 11),(.t 13),(.c (.int .i64 1))]
 (.rd (some 9) none (.mov (.t 14))
 (.rd (some 15) none (.extr (.t 9) 0)
 (.rd (some 16) none (.extr (.t 9) 1)
 (.wr false none none (.store 64 (.t 7) (.t 15))
 (.rd (some 8) none (.mov (.t 16))
 .done))))))))))))
def Qxs:AT:=mkt 0x31207bf0072002c8
def XY:AF:=⟨19,[.tmp 6],
 (zg Qxu []
 (zg Qxt [10,11,12,13,14,9,15,16,7]
 (zg Qxs [17,18]
 .ret)))⟩
abbrev Y7:Nat:=94
def Qxr:AT:=mkt 0x5af2bc3439f4e53c48b258
def Qxq:AT:=mkt 0x342bb04992c227ebb80f409f46dd0f49046872631dc683f804d6bfdc0890
def Qxp:AT:=mkt 0x69a8150
def Qxo:AT:=mkt 0x1bb69a210c738002d8
def Qxn:AT:=mkt 0x8ddd51197030de22252aedb6d811767455153b0aba5acf398bf84f9026f8239ac0bef80e686eb8f400e61
def Qxm:AT:=mkt 0x2bb03062811a90c71e00ac97a40871
def Qxl:AT:=mkt 0x1c9ece617509514c24dde087798be4b3a200f1a
def Qxk:AT:=mkt 0x33d9805949138da8074a
def Yk:AF:=⟨42,[.tmp 4,.tmp 5],
 (zg Qxr []
 (.seq (zg Qxq [10,11,12,13,14,15,9,16,17]
 (zg Qxp []
 (zw 18
 (zg Qxo [19]
 .ret)
 .skip)))
 (zg Qxn [20,21,22,23,24,25,26,27,28,29]
 (zg Qxm [30,31,32,33,34]
 (zg Qxl [35,36,37,38,39,40]
 (zg Qxk [41]
 .ret))))))⟩
abbrev Zr:Nat:=95
def Qxj:AT:=mkt 0xc25500e0
def Qxi:AT:=mkt 0x176b4c6f133a80270
def Qxh:AT:=mkt 0x3c6fc108
def Qxg:AT:=mkt 0x73be4e6701d0
def Qxf:AT:=mkt 0x111ea2ae7f5c4be1ea4b4d9047184d8
def Qxe:AT:=mkt 0xc4b7598e8208
def Qxd:AT:=mkt 0x6529ab46034d2c210
def Qxc:AT:=mkt 0x127be400e0
def Q7:AF:=⟨19,[.tmp 4],
 (zg Qxj []
 (.seq (zg Qxi [6]
 (.block 0 (.loop (zg Qxh []
 (.seq (zw 9
 .skip
 (.exit 0))
 (.seq (.block 1 (zg Qxg [10]
 (zg Qxf [11,12,13,14,15]
 (zw 16
 (zg Qxe [17]
 .ret)
 .skip))))
 (.reg Qxd [18])))))))
 (zg Qxc []
 .ret)))⟩
abbrev Zl:Nat:=96
def Qxb:AT:=mkt 0xc25500e0
def Qxa:AT:=mkt 0x176b4c6f133a80270
def Qw9:AT:=mkt 0x3c6fc108
def Qw8:AT:=mkt 0x73be4e6701d0
def Qw7:AT:=mkt 0x111ea2ae7f5c4be1ea4b4d9047184d8
def Qw6:AT:=mkt 0xc4b7598e8208
def Qw5:AT:=mkt 0x6529ab46034d2c210
def Qw4:AT:=mkt 0x127be400e0
def QN:AF:=⟨19,[.tmp 4],
 (zg Qxb []
 (.seq (zg Qxa [6]
 (.block 0 (.loop (zg Qw9 []
 (.seq (zw 9
 .skip
 (.exit 0))
 (.seq (.block 1 (zg Qw8 [10]
 (zg Qw7 [11,12,13,14,15]
 (zw 16
 (zg Qw6 [17]
 .ret)
 .skip))))
 (.reg Qw5 [18])))))))
 (zg Qw4 []
 .ret)))⟩
abbrev YI:Nat:=97
abbrev Qea:Nat:=98
abbrev Qgi:Nat:=99
abbrev Qeb:Nat:=100
abbrev QeW:Nat:=101
abbrev QeK:Nat:=102
abbrev QbW:Nat:=103
abbrev Qo1:Nat:=104
abbrev Qd0:Nat:=105
abbrev QfU:Nat:=106
abbrev QpQ:Nat:=107
abbrev QpP:Nat:=108
def Qw3:AT:=mkt 0xc25500e0
def Qw2:AT:=mkt 0x176b4c6f133a80270
def Qw1:AT:=mkt 0x3c6fc108
def Qw0:AT:=mkt 0x73be4e6701d0
def QwZ:AT:=mkt 0x111ea2afbe85ddaa3c77ed4d47184d8
def QwY:AT:=mkt 0xc4b7598e8208
def QwX:AT:=mkt 0x6529ab46034d2c210
def QwW:AT:=mkt 0x127be400e0
def Qv:AF:=⟨19,[.tmp 4],
 (zg Qw3 []
 (.seq (zg Qw2 [6]
 (.block 0 (.loop (zg Qw1 []
 (.seq (zw 9
 .skip
 (.exit 0))
 (.seq (.block 1 (zg Qw0 [10]
 (zg QwZ [11,12,13,14,15]
 (zw 16
 (zg QwY [17]
 .ret)
 .skip))))
 (.reg QwX [18])))))))
 (zg QwW []
 .ret)))⟩
abbrev Xt:Nat:=109
def QwV:AT:=mkt 0x24273e599e2908b1a0
def QwU:AT:=mke 0x157b2b9aa62deaf67993b945c2fc57c2290fb5fe1b361d049dfa47b0 (mkt 0xd4caafdbd0a18e2903b8d1b46fe2f84f27cb085c0)
def Yq:AF:=⟨22,[.tmp 5],
 (zg QwV []
 (zg QwU [6,7,8,9,10,11,12,13,14,15,16,17,18,19,20,21]
 .ret))⟩
abbrev Qa3:Nat:=110
def QwT:AT:=mkt 0xf57af61e928134dcc9430d0
def QwS:AT:=mke 0x34df40e2c21b831aaac8a994bf32fe4827aca24a7843ec92e44206c4d2183cb1b281c3f39ef376d88774bbb0efd99824f5256dceebfdbe272fcc60cd53c48bb67684822bbbf34379fc9d2e268497ef18a0d8f1e9234f14fb380a48fd6110d48cab5dd95a58290133db3806ba3ad5e5da78c1bb173646efe63e12b5b3e7d455240c903921c09765de824d1f43d91905fc98995bc2fd4bb087c172cd860f22a2aaa27b1ba5d3bd8e659908de99f1b6f95a115fb7a3824fe1c2de06472f816aa414395e682eef7b04fbc2d6a0c18322006e9f963eef6d45dc14b8d8b48c9150a13e435f4a305f01720cfb477c74eee1b1cd62f5ec3d2505007a0 (mke 0x1117716082c0a4225a61991d8ebc523cbaf4b913140cbf9f6a33afec14065f8c272bb2d1c805f9147b9ab55374b870e15169fcc3575fbf4c4114413b2549a87db63811bb019fdc496e12fded77b224d62d348644919b736dbfcc2ec138617340c52f7b04fbc2d6a0c18322006e9f9665d1f544f7acb0d8b48c9150a13e435f4a3043ae8d09a0177de4d7e1b1cd62f5ec3d2505004f0 (.rd (some 20) none (.build (List.replicate 17 [(.val .nilFunc),(.bool false),(.bool false),(.int .i64 0),(.bool false)]).flatten [(5,5,(.t 4)),(10,5,(.t 5)),(15,5,(.t 6)),(20,5,(.t 7)),(25,5,(.t 8)),(30,5,(.t 9)),(35,5,(.t 10)),(40,5,(.t 11)),(45,5,(.t 12)),(50,5,(.t 13)),(55,5,(.t 14)),(60,5,(.t 15)),(65,5,(.t 16)),(70,5,(.t 17)),(75,5,(.t 18)),(80,5,(.t 19))])
 (.wr false (some 3) none (.new 176 (List.replicate 17 [(.val .nilFunc),(.bool false),(.bool false),(.int .i64 0),(.bool false)]).flatten)
 (.wr false none none (.store 85 (.t 3) (.t 20))
 .done))))
def QwR:AT:=mkt 0x1e0b6faad110914002e8
def QwQ:AT:=mkt 0x7fd791a1324489bb3db300341
def QwP:AT:=mkt 0x24bf5d69c22db058ed78c805c9
def X6:AF:=⟨28,[.cell 2 true 5],
 (zg QwT []
 (zg QwS [4,5,6,7,8,9,10,11,12,13,14,15,16,17,18,19,20]
 (.seq (zg QwR [21,22]
 (zw 23
 (zg QwQ [24]
 .ret)
 .skip))
 (zg QwP [25,26,27]
 .ret))))⟩
abbrev QX:Nat:=111
abbrev QjD:Nat:=112
abbrev Qir:Nat:=113
abbrev Qso:Nat:=114
abbrev QhZ:Nat:=115
abbrev Qki:Nat:=116
def QwO:AT:=mkt 0xc2550100
def QwN:AT:=mkt 0xb0eabac23f6fa1fb7157ee619b4fdde54964bc4a4e1257d8008b9d5937bcb7009bc609d800948
def Yj:AF:=⟨20,[.tmp 8],
 (zg QwO []
 (zg QwN [9,10,11,12,13,14,15,16,17,18,19]
 .ret))⟩
abbrev Zq:Nat:=117
abbrev Qgg:Nat:=118
abbrev Qkg:Nat:=119
abbrev QkS:Nat:=120
abbrev Qd1:Nat:=121
abbrev Qhm:Nat:=122
abbrev Qm8:Nat:=123
def QwM:AT:=mkt 0xc25500e0
def QwL:AT:=mkt 0x7c7f43dc647efbf80328
def Qbz:AF:=⟨8,[.tmp 4],
 (zg QwM []
 (zg QwL [5,6,7]
 .ret))⟩
abbrev Qdj:Nat:=124
def QwK:AT:=mkt 0xc25500e0
def QwJ:AT:=mkt 0x7c7f441b732d49780328
def Qby:AF:=⟨8,[.tmp 4],
 (zg QwK []
 (zg QwJ [5,6,7]
 .ret))⟩
abbrev Qdi:Nat:=125
def QwI:AT:=mkt 0xc25500e0
def QwH:AT:=mkt 0x7c7f445a81db96f80328
def Qbx:AF:=⟨8,[.tmp 4],
 (zg QwI []
 (zg QwH [5,6,7]
 .ret))⟩
abbrev Qdh:Nat:=126
def QwG:AT:=mkt 0xc25500e0
def QwF:AT:=mkt 0xf180e8
def QwE:AT:=mkt 0x18381109c2ffc1b8
def QwD:AT:=mkt 0x127be400e0
def QwC:AT:=mkt 0xca68445e34c5c3c1c8
def QwB:AT:=mkt 0x1e05d95d44940290
def QwA:AT:=mkt 0xf8ede1ab64a1c4780360
def QfG:AF:=⟨15,[.tmp 4],
 (zg QwG []
 (.seq (zg QwF []
 (.block 0 (zg QwE [7]
 (zw 6
 (zg QwD []
 .ret)
 (zg QwC [9]
 (zw 8
 (zg QwB [10,11]
 .ret)
 .skip))))))
 (zg QwA [12,13,14]
 .ret)))⟩
abbrev Qgy:Nat:=127
def Qwz:AT:=mkt 0xc25500e0
def Qwy:AT:=mkt 0xf180e8
def Qwx:AT:=mkt 0x18381109c2ffc1b8
def Qww:AT:=mkt 0x5c983d9701c0
def Qwv:AT:=mkt 0xe0e63018f9c5c3c1d0
def Qwu:AT:=mkt 0xc25500e0
def Qwt:AT:=mkt 0xe72739310bdef1f80358
def QfE:AF:=⟨14,[.tmp 4],
 (zg Qwz []
 (.seq (zg Qwy []
 (.block 0 (zg Qwx [7]
 (zw 6
 (zg Qww [8]
 .ret)
 (zg Qwv [10]
 (zw 9
 (zg Qwu []
 .ret)
 .skip))))))
 (zg Qwt [11,12,13]
 .ret)))⟩
abbrev Qgx:Nat:=128
def Qws:AT:=mkt 0xc25500e0
def Qwr:AT:=mkt 0x3b8f8e9d8581a8
def Qwq:AT:=mkt 0x127be400e0
def Qwp:AT:=mkt 0x2462ff49cf0dab9761bdca8e22be80578
def Qc0:AF:=⟨13,[.tmp 4],
 (zg Qws []
 (.seq (zg Qwr [5]
 (zw 6
 (zg Qwq []
 .ret)
 .skip))
 (zg Qwp [7,8,9,10,11,12]
 .ret)))⟩
abbrev QeV:Nat:=129
def Qwo:AT:=mkt 0xc25500e0
def Qwn:AT:=mkt 0x3b8f8e9d8581a8
def Qwm:AT:=mkt 0x5106905701b8
def Qwl:AT:=mkt 0x276b02b438a298ffe81af1bc22be80580
def QcZ:AF:=⟨14,[.tmp 4],
 (zg Qwo []
 (.seq (zg Qwn [5]
 (zw 6
 (zg Qwm [7]
 .ret)
 .skip))
 (zg Qwl [8,9,10,11,12,13]
 .ret)))⟩
abbrev QeU:Nat:=130
def Qwk:AT:=mkt 0xc25500e0
def Qwj:AT:=mkt 0x7c7f4517ade67f780328
def Qbw:AF:=⟨8,[.tmp 4],
 (zg Qwk []
 (zg Qwj [5,6,7]
 .ret))⟩
abbrev Qdg:Nat:=131
def Qwi:AT:=mkt 0xc25500e0
def Qwh:AT:=mkt 0x7c7f4556bc94ccf80328
def Qbv:AF:=⟨8,[.tmp 4],
 (zg Qwi []
 (zg Qwh [5,6,7]
 .ret))⟩
abbrev Qdf:Nat:=132
def Qwg:AT:=mkt 0xc25500e0
def Qwf:AT:=mkt 0x7c7f4595cb431a780328
def Qbu:AF:=⟨8,[.tmp 4],
 (zg Qwg []
 (zg Qwf [5,6,7]
 .ret))⟩
abbrev Qde:Nat:=133
def Qwe:AT:=mkt 0xc25500e0
def Qwd:AT:=mkt 0x8d35e2ba0be92ab80f411b0bb8057803e8
def Qbt:AF:=⟨9,[.tmp 4],
 (zg Qwe []
 (zg Qwd [5,6,7,8]
 .ret))⟩
abbrev Qdd:Nat:=134
def Qwc:AT:=mkt 0xc25500e0
def Qwb:AT:=mkt 0x274470bb7c369623e9b004bc3a01c70e317be80568
def Qbs:AF:=⟨11,[.tmp 4],
 (zg Qwc []
 (zg Qwb [5,6,7,8,9,10]
 .ret))⟩
abbrev Qdc:Nat:=135
def Qwa:AT:=mkt 0xc25500e0
def Qv9:AT:=mkt 0x8d35e2bc74255928bbe81b0bb8057803e8
def Qbr:AF:=⟨9,[.tmp 4],
 (zg Qwa []
 (zg Qv9 [5,6,7,8]
 .ret))⟩
abbrev Qdb:Nat:=136
def Qv8:AT:=mkt 0xc25500e0
def Qv7:AT:=mkt 0x7b45fb38ca84aacc25a1162d74f803e8
def QaW:AF:=⟨9,[.tmp 4],
 (zg Qv8 []
 (zg Qv7 [5,6,7,8]
 .ret))⟩
abbrev Qb7:Nat:=137
def Qv6:AT:=mkt 0xc25500d0
def Qv5:AT:=mkt 0xd8
def Qv4:AT:=mkt 0x1868d00d0
def Qv3:AT:=mkt 0xc25500d0
def QfF:AF:=⟨4,[.tmp 2],
 (zg Qv6 []
 (.seq (zg Qv5 []
 (zw 3
 (zg Qv4 []
 .ret)
 .skip))
 (zg Qv3 []
 .ret)))⟩
abbrev QjA:Nat:=138
def Qv2:AT:=mkt 0xc25500e0
def Qv1:AT:=mkt 0x37b4413259ed3c9553e29b38fb0241e222be80568
def QaV:AF:=⟨11,[.tmp 4],
 (zg Qv2 []
 (zg Qv1 [5,6,7,8,9,10]
 .ret))⟩
abbrev Qb6:Nat:=139
def Qv0:AT:=mkt 0xc25500e0
def QvZ:AT:=mkt 0x7b45fb38ca84aacc2522f8d0d9f803e8
def QaU:AF:=⟨9,[.tmp 4],
 (zg Qv0 []
 (zg QvZ [5,6,7,8]
 .ret))⟩
abbrev Qb5:Nat:=140
abbrev QfV:Nat:=141
abbrev QhV:Nat:=142
abbrev QfW:Nat:=143
abbrev QgA:Nat:=144
abbrev Qgh:Nat:=145
abbrev QcW:Nat:=146
abbrev QfB:Nat:=147
abbrev Qhx:Nat:=148
abbrev QjC:Nat:=149
abbrev QhW:Nat:=150
abbrev QgC:Nat:=151
abbrev Qhy:Nat:=152
abbrev Qhl:Nat:=153
abbrev QhU:Nat:=154
abbrev QfC:Nat:=155
abbrev Qi3:Nat:=156
abbrev QhX:Nat:=157
abbrev QhY:Nat:=158
abbrev QgB:Nat:=159
abbrev Qi9:Nat:=160
abbrev Qi2:Nat:=161
abbrev Qiv:Nat:=162
abbrev Qiu:Nat:=163
abbrev QqG:Nat:=185
def tab:Nat→Option AF
 | 3=>some QW
 | 5=>some Yf
 | 6=>some XG
 | 7=>some XP
 | 8=>some QdH
 | 9=>some Y0
 | 10=>some Y1
 | 11=>some XC
 | 12=>some Yr
 | 13=>some Xr
 | 14=>some Xh
 | 15=>some XZ
 | 16=>some XA
 | 17=>some Qao
 | 18=>some Yz
 | 19=>some QfH
 | 20=>some Xw
 | 21=>some XF
 | 26=>some QfJ
 | 27=>some YM
 | 28=>some Yy
 | 29=>some ZR
 | 30=>some XX
 | 31=>some QR
 | 32=>some XI
 | 33=>some Qap
 | 34=>some Xo
 | 35=>some Xv
 | 36=>some Qan
 | 37=>some Zz
 | 38=>some Zd
 | 39=>some Zc
 | 40=>some Yi
 | 41=>some QbN
 | 42=>some XJ
 | 43=>some XS
 | 44=>some Qc1
 | 45=>some Xx
 | 50=>some Zy
 | 51=>some QbB
 | 52=>some QbC
 | 53=>some YZ
 | 54=>some Qz
 | 55=>some Yw
 | 56=>some Qp
 | 57=>some XW
 | 58=>some Yl
 | 59=>some YL
 | 60=>some Q9
 | 61=>some ZE
 | 62=>some QO
 | 63=>some Yh
 | 64=>some QG
 | 67=>some Qag
 | 68=>some ZQ
 | 69=>some Zx
 | 70=>some Qgk
 | 80=>some Qc3
 | 81=>some Qab
 | 82=>some strconv_Itoa
 | 83=>some Qc2
 | 84=>some X9
 | 85=>some QC
 | 86=>some Xz
 | 87=>some Yu
 | 88=>some QdG
 | 89=>some Yv
 | 90=>some QbR
 | 91=>some Yx
 | 92=>some XV
 | 93=>some QdF
 | 94=>some XY
 | 95=>some Yk
 | 96=>some Q7
 | 97=>some QN
 | 109=>some Qv
 | 110=>some Yq
 | 111=>some X6
 | 117=>some Yj
 | 124=>some Qbz
 | 125=>some Qby
 | 126=>some Qbx
 | 127=>some QfG
 | 128=>some QfE
 | 129=>some Qc0
 | 130=>some QcZ
 | 131=>some Qbw
 | 132=>some Qbv
 | 133=>some Qbu
 | 134=>some Qbt
 | 135=>some Qbs
 | 136=>some Qbr
 | 137=>some QaW
 | 138=>some QfF
 | 139=>some QaV
 | 140=>some QaU
 | _=>none
theorem QaZ:tab Y4=some QW:=rfl
theorem Zo:tab QaH=some Yf:=rfl
theorem Xk:tab Z8=some XG:=rfl
theorem ZD:tab ZG=some XP:=rfl
theorem QeS:tab QeX=some QdH:=rfl
theorem QE:tab Zg=some Y0:=rfl
theorem Xp:tab XR=some Y1:=rfl
theorem Xe:tab Xg=some XC:=rfl
theorem ZC:tab Qa5=some Yr:=rfl
theorem Xu:tab Xy=some Xr:=rfl
theorem Xm:tab Xn=some Xh:=rfl
theorem Yd:tab Yg=some XZ:=rfl
theorem YD:tab XM=some XA:=rfl
theorem Qbm:tab Qbp=some Qao:=rfl
theorem Qa2:tab XU=some Yz:=rfl
theorem QaQ:tab QbF=some QfH:=rfl
theorem YB:tab ZW=some Xw:=rfl
theorem QU:tab Z7=some XF:=rfl
theorem Qjw:tab QjB=some QfJ:=rfl
theorem Qcv:tab Qat=some YM:=rfl
theorem Qg:tab ZJ=some Yy:=rfl
theorem Y2:tab Qdl=some ZR:=rfl
theorem QF:tab Qal=some XX:=rfl
theorem X0:tab X2=some QR:=rfl
theorem Xl:tab X3=some XI:=rfl
theorem YN:tab QeM=some Qap:=rfl
theorem Q6:tab Q8=some Xo:=rfl
theorem ZS:tab ZV=some Xv:=rfl
theorem QeG:tab QeL=some Qan:=rfl
theorem Qcw:tab QcB=some Zz:=rfl
theorem QbE:tab QbH=some Zd:=rfl
theorem QbD:tab QbG=some Zc:=rfl
theorem QaF:tab QaJ=some Yi:=rfl
theorem Qc7:tab Qhn=some QbN:=rfl
theorem X1:tab Ql=some XJ:=rfl
theorem YF:tab QZ=some XS:=rfl
theorem Qif:tab Qb8=some Qc1:=rfl
theorem ZT:tab ZX=some Xx:=rfl
theorem Qcu:tab QcA=some Zy:=rfl
theorem Qhf:tab Qhj=some QbB:=rfl
theorem Qc5:tab Qhk=some QbC:=rfl
theorem Qaa:tab Ys=some YZ:=rfl
theorem XD:tab XH=some Qz:=rfl
theorem Qa1:tab Q4=some Yw:=rfl
theorem Qr:tab Qk=some Qp:=rfl
theorem Yc:tab Y6=some XW:=rfl
theorem QaG:tab Zs=some Yl:=rfl
theorem Ya:tab ZY=some YL:=rfl
theorem QL:tab Q3=some Q9:=rfl
theorem Qc6:tab Qak=some ZE:=rfl
theorem YH:tab YJ=some QO:=rfl
theorem QaE:tab QaI=some Yh:=rfl
theorem Yn:tab Yo=some QG:=rfl
theorem QeF:tab Qae=some Qag:=rfl
theorem Qc4:tab Qdk=some ZQ:=rfl
theorem Qct:tab Qcz=some Zx:=rfl
theorem Qie:tab QfT=some Qgk:=rfl
theorem Qih:tab Qiq=some Qc3:=rfl
theorem QeR:tab Qa4=some Qab:=rfl
theorem Qi6:tab QeJ=some strconv_Itoa:=rfl
theorem Qig:tab Qip=some Qc2:=rfl
theorem Zn:tab Zp=some X9:=rfl
theorem X4:tab X5=some QC:=rfl
theorem YC:tab ZZ=some Xz:=rfl
theorem Q1:tab ZH=some Yu:=rfl
theorem Qb1:tab Qix=some QdG:=rfl
theorem Qa0:tab ZI=some Yv:=rfl
theorem Qbf:tab Qdm=some QbR:=rfl
theorem QM:tab YE=some Yx:=rfl
theorem Yb:tab Y5=some XV:=rfl
theorem Qb0:tab Qiw=some QdF:=rfl
theorem Y3:tab Y7=some XY:=rfl
theorem QQ:tab Zr=some Yk:=rfl
theorem Zk:tab Zl=some Q7:=rfl
theorem YG:tab YI=some QN:=rfl
theorem Xs:tab Xt=some Qv:=rfl
theorem QaY:tab Qa3=some Yq:=rfl
theorem Q5:tab QX=some X6:=rfl
theorem XE:tab Zq=some Yj:=rfl
theorem Qhe:tab Qdj=some Qbz:=rfl
theorem Qhd:tab Qdi=some Qby:=rfl
theorem Qhc:tab Qdh=some Qbx:=rfl
theorem Qjv:tab Qgy=some QfG:=rfl
theorem Qju:tab Qgx=some QfE:=rfl
theorem Qid:tab QeV=some Qc0:=rfl
theorem Qic:tab QeU=some QcZ:=rfl
theorem Qhb:tab Qdg=some Qbw:=rfl
theorem Qha:tab Qdf=some Qbv:=rfl
theorem Qg9:tab Qde=some Qbu:=rfl
theorem Qg8:tab Qdd=some Qbt:=rfl
theorem Qg7:tab Qdc=some Qbs:=rfl
theorem Qg6:tab Qdb=some Qbr:=rfl
theorem QfM:tab Qb7=some QaW:=rfl
theorem QdV:tab QjA=some QfF:=rfl
theorem QfL:tab Qb6=some QaV:=rfl
theorem QfK:tab Qb5=some QaU:=rfl
abbrev wd:AC:=zg Qt0 [] (.seq (zw 28 .skip (.exit 0)) (.seq (.block 1 (zg QtZ [29,30,31] (zg QtY [32] (.block 2 (zg Qoz [35] (zw 34 (.seq (zg Qoy [37,38,39,40,36,41,42,10] (zg Qox [43] (zw 44 (.reg Qow [46,47,48,49,50,51,52,53,54,55,56,45,57,58]) .skip))) (.reg Qov [59,60,61,62,63,64,65,66,67,68,69,70])) (zg Qou [72] (zw 71 (.reg Qot [73,74,75,76,77,78,79,80,81,82,83,84,85,86,87,88,89]) (zg Qos [91] (zw 90 (.reg Qor [92,93,94,95,96,97,98,99,100,101,102,103]) .skip)))))))))) (.reg Qoq [104])))
abbrev we:AC:=zg Qop [] (.seq (zw 50 .skip (.exit 2)) (.seq (.block 3 (zg Qoo [51,52] (zg Qon [54,55,56,57,58,59,53,60,61,11] (zg Qom [62] (.block 4 (zg Qol [65] (zw 64 (.seq (.block 5 (.loop (.seq (zg Qok [66,67,68,69,70] (zw 71 .skip (.exit 5))) (.block 6 (.reg Qoj [72,73,74,75,76]))))) (.reg Qoi [77,78,79,80,81,82,83,84])) (zg Qoh [86] (zw 85 (.reg Qog [87,88,89,90,91,92,93,94,95,96,97,98,99,100,101,102,103]) .skip))))))))) (.reg Qof [104])))
abbrev wg:AC:=.seq (zg QrK [52,53,54] (zw 55 .skip (.exit 0))) (.seq (.block 1 (zg QrJ [59,60,61,58,62,63,14] (zg QrI [64,65,66,67,68,69,70] (zw 71 (zg QrH [73,74,75,72,76,77,15] (zg Qlb [78,79,80,81,82] .ret)) .skip)))) (.reg Qla [56,57]))
abbrev wh:AC:=.seq (zg Qk9 [83,84,85] (zw 86 .skip (.exit 2))) (.seq (.block 3 (zg Qk8 [90,91,92,89,93,94] (zg Qk7 [95,96,97,98,99,100] (zw 101 (zg Qk6 [] .ret) .skip)))) (.reg Qk5 [87,88]))
abbrev wi:AC:=.seq (zg Qk4 [167,168,169] (zw 170 .skip (.exit 4))) (.seq (.block 5 (zg Qk3 [174,175,176,177,173,178,179,31] (zg Qk2 [181,182,183,184,180,185,186,33] (zg Qk1 [188,189,190,187,191,192,35] (zg Qk0 [193,194,195,196,197,198,199,200,201] (zw 202 (zg QkZ [] .ret) .skip)))))) (.reg QkY [171,172]))
abbrev wj:AC:=zg QoB [] (.seq (zw 68 .skip (.exit 2)) (.seq (.block 3 (zg QoA [69] (zg QjZ [70,71,72,73,74,75,76,77,78,79,80] (.reg QjY [81,82,83,84,85,86,87,88,89,90,91])))) (.reg QjX [92])))
abbrev wm:AC:=zg QtX [] (.seq (zw 38 .skip (.exit 0)) (.seq (.block 1 (zg QtW [39,40] (.seq (zg QtV [42,43,44,45,46,47,41,48,49,8] (zg Qoe [] (zw 50 (.exit 1) .skip))) (zg Qod [52,53,54,55,56,57,51,58,59,11] (zg Qoc [] (.seq (zg Qob [60] (.block 2 (zg Qoa [66] (zw 65 (.reg Qn9 [67,68,69]) (zg Qn8 [71] (zw 70 (zg Qn7 [] (zg Qn6 [73,74,75,76,77,78,79,80,81,82,83,84,85,86,87,88,89,90,72,91,92] (zg Qn5 [93] (zw 94 (.reg Qn4 [95,96,97]) .skip)))) (.reg Qn3 [62,63,64]))))))) (zg Qn2 [98,99,100,101,102,103] (zg Qn1 [104,105] (zw 106 (.reg Qn0 [107,108,109,110,111]) .skip))))))))) (.reg QnZ [112])))
end Go.Proofs.YtoeicjlflmmmcaaGreatDoor
