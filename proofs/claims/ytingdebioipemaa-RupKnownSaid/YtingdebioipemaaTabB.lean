/- The translations of the functions, by a program of mine. -/
import Derived.Test.YtingdebioipemaaTabA
namespace Go.Proofs.Ytingdebioipemaa
open Go Go.Am
set_option maxRecDepth 100000
set_option maxHeartbeats 4000000
def zq1c_0:AT:=mkt 0x603900d0
def zq1c_1:AT:=mkt 0x2a500a185bdeba80270
def zq1c_2:AT:=mkt 0x68248d4f01c8
def zq1c_3:AT:=mkt 0x1868d00d8
def zq1c_4:AT:=mkt 0x205c5befce836cb548350
def zq1c_5:AT:=mkt 0xd580414492d817ec0a2e470d3bf7565809ec2f1b5608bffd80d01
def zq1c_6:AT:=mkt 0x1a87ac96cc1ca4bed5805d1
def zq1c_7:AT:=mkt 0x1868d00e8
def zq1c_8:AT:=mkt 0x1818e25d14a62b987c85e9
def zq1c_9:AT:=mkt 0x27502aa2700bb52d3381cc384f308caa46b753aa4ef3c900350151a
def Qwy:AT:=mkt 0xacb3b0f89a790aff91ad224072efc27604558c0116a
def Qwx:AT:=mkt 0x10c25649cde390372c07a2
def Qww:AT:=mkt 0x1b3673fa058597a7084c9
def Qwv:AT:=mkt 0x540a3bfa62f5419333a4c009b2
def Qwu:AT:=mkt 0x1615f08556a1e746a4c009ca
def Qwt:AT:=mkt 0x1a80d62759d4898082b0
def Qws:AT:=mkt 0x30f250b7c805e2
def Yo:AF:=⟨61,[.tmp 2],
 (zg zq1c_0 []
 (.seq (zg zq1c_1 [6,7]
 (zw 8
 (zg zq1c_2 [9]
 .ret)
 .skip))
 (.seq (zg zq1c_3 []
 (.block 0 (.loop (.seq (zg zq1c_4 [10,11,12]
 (zw 13
 .skip
 (.exit 0)))
 (.seq (.block 1 (zg zq1c_5 [16,17,18,19,20,21,22,23,24]
 (zw 25
 (zg zq1c_6 [26,27,28]
 (.seq (zg zq1c_7 []
 (.block 2 (.loop (.seq (zg zq1c_8 [29,30,31]
 (zw 32
 .skip
 (.exit 2)))
 (.seq (.block 3 (zg zq1c_9 [35,36,37,38,39,40,41,42,43]
 (zw 44
 (zg Qwy [45,46,47,48,49,50,51]
 (.reg Qwx [52,53]))
 .skip)))
 (.reg Qww [33,34]))))))
 (zg Qwv [54,55,56]
 (zg Qwu [57,58,59]
 .ret))))
 .skip)))
 (.reg Qwt [14,15]))))))
 (zg Qws [60]
 .ret))))⟩
abbrev Y2:Nat:=51
def QuC:AT:=mkt 0x2f2b00d8
def QuB:AT:=mkt 0x11a108798963f962e376619802880fbda844a0
def Yd:AF:=⟨9,[.tmp 3],
 (zg QuC []
 (zg QuB [4,5,6,7,8]
 .ret))⟩
abbrev QaV:Nat:=52
def QuA:AT:=mkt 0x2f2b00d8
def Quz:AT:=mkt 0x284082a86c7a6a33bc736e6185da843e0
def Yc:AF:=⟨8,[.tmp 3],
 (zg QuA []
 (zg Quz [4,5,6,7]
 .ret))⟩
abbrev QaU:Nat:=53
def Quy:AT:=mkt 0x2f2b00d8
def Qux:AT:=mkt 0x11a108798963f962e376619802880fbda844a0
def Yb:AF:=⟨9,[.tmp 3],
 (zg Quy []
 (zg Qux [4,5,6,7,8]
 .ret))⟩
abbrev Zd:Nat:=54
def Quw:AT:=mkt 0x2f2b00e0
def Quv:AT:=mkt 0x82f7f77169baba3c9cec3c44e33343930fd6787a7c2968e6c991be4b313513b183cc0aa8
def XE:AF:=⟨18,[.tmp 4],
 (zg Quw []
 (zg Quv [5,6,7,8,9,10,11,12,13,14,15,16,17]
 .ret))⟩
abbrev Z5:Nat:=55
def Quu:AT:=mkt 0xc0d1a7b90190
def Qut:AT:=mkt 0x603900e0
def Qus:AT:=mkt 0xc25500e8
def Qo9:AT:=mkt 0x177907931acadcd378338
def Qo8:AT:=mkt 0x467ca92a94d2025691050c87af96a60fdc99b7c7adb6ad438cbd40b28e72fcfb1891d7247a6811e9
def Qo7:AT:=mkt 0xc0d1a7b90190
def Qo6:AT:=mkt 0x8648c5738297eebc5dd114122516c49feca0859
def Qo5:AT:=mkt 0x64d3605ae2266e6e74ab42d2176e7f3e411f87a5a7737f3c49feca0b09
def Qo4:AT:=mkt 0x321da5f0a3700a416ce2d00942
def Qmj:AT:=mkt 0x876de1e27d73d3cf71ba6a13845c8439032d2e73b8a5efd1ba74bf678fb229022020274788054316c6781d5a
def QiD:AT:=mke 0x45e2e965a04561d2d91232f4afd9f7d623c31d08ab5d38ca5581fdb (mkt 0x472a7d01bb9a850c4b7ca362ea65285083b2b614bd5362d581a2b)
def QiC:AT:=mkt 0x12572912ee6d6096f807ca
def Qk4:AT:=mkt 0x1534f0051433cb638298
def Qpa:AT:=mkt 0x23ec9b1f7addf19840b5b
def Xm:AF:=⟨76,[.tmp 2,.tmp 3],
 (zg Quu []
 (zg Qut []
 (.seq (zg Qus []
 (.block 0 (.loop (.seq (zg Qo9 [7,8,9]
 (zw 10
 .skip
 (.exit 0)))
 (.seq (.block 1 (.seq (zg Qo8 [13,14,15,16,17,18,19,20,21,22,23,24,25]
 (zw 26
 (zg Qo7 []
 .ret)
 .skip))
 (.seq (zg Qo6 [27,28,29,30,31]
 (zw 32
 (.exit 1)
 .skip))
 (zg Qo5 [33,34,35,36,37,38,39]
 (zg Qo4 [40,41,42]
 (.block 2 (.loop (.seq (zg Qmj [43,44,45,46,47,48,49,50,51,52,53,54,55]
 (zw 56
 .skip
 (.exit 2)))
 (.seq (.block 3 (.reg QiD [59,60,61,62,63,64,65,66,67,68,69,70,71,72,73,74]))
 (.reg QiC [57,58]))))))))))
 (.reg Qk4 [11,12]))))))
 (zg Qpa [75]
 .ret))))⟩
abbrev Zt:Nat:=56
def Qur:AT:=mkt 0x5af2e3dc86168b248
def Quq:AT:=mkt 0x16e2896f1028db57cc2a8
def Qup:AT:=mkt 0xc0d1a7b90190
def Quo:AT:=mkt 0x603900e0
def Qun:AT:=mkt 0x47b200e8
def Qo1:AT:=mkt 0x4b78140
def Qo0:AT:=mkt 0x2f2b00e8
def QoZ:AT:=mkt 0xc25500f0
def Qjt:AT:=mkt 0x12c8d1d8ca98060faee38cb50448
def Qjs:AT:=mkt 0x2f2b00f8
def QgP:AT:=mkt 0x60390100
def QgO:AT:=mkt 0xc2550108
def Qd7:AT:=mkt 0x3e96831561000ab8874901262480705b1cd25a8ac1
def Qd6:AT:=mkt 0x8de84cb1f02dafc9950677fecf3c9e84031d40262fca1312
def Qd5:AT:=mkt 0x10fe596a91e5d7edbbe1a796c011588d76847ebc06691c0f52
def Qd4:AT:=mke 0xd3ba17f6ebe0c5eca1b6edfa9988e879aeb79285a14967fcf7e87e1b99b7d81f83 (mkt 0x6dea06974f2a0908fbe541a77e8f2ac985c86d05c2f8e06416d3)
def Qd3:AT:=mkt 0x5b34449affa12fa251aa111c0296ba4561bf3fccb0110b
def Qd2:AT:=mkt 0x1a6a04edb2a9100ba84c1
def QgN:AT:=mkt 0x516f129f25e27f85f1585fbaab4111afe7253a172b
def QgM:AT:=mkt 0xc0d1a7b90190
def QgL:AT:=mkt 0x516fec1d01e2fcbf9b7c7faddf151f9b37013a1763
def QgK:AT:=mkt 0xf140d09d233a72b051d0b8fd0ca75a230a1b3e02547f47717e44218179b
def QgJ:AT:=mkt 0x47b200e8
def QgI:AT:=mkt 0x28a3fb11e9246c5502f0
def Qo3:AT:=mkt 0xc2550118
def Qk3:AT:=mkt 0x3b23beea56b45a465020ecb
def Qk2:AT:=mkt 0x102eba8930e08fb
def QiB:AT:=mkt 0x6de314f97c5550d9d22d65e2e9e528c14ee14356f86cb846d8b2b5d00045f20f00fbd8fca6c983c46b2d83203b04
def QiA:AT:=mke 0x4a1394b626e783dfa14fa70a754e5a3febf020c8a4f2418f3a202b84 (mkt 0x4a212fb9aa480d790a7e46fc819c607807d84d5e45185f9a2023d4)
def Qiz:AT:=mkt 0x220b30dd5a9b7fa44200f74
def Qk1:AT:=mkt 0x9373f143fc5fb2c7f20beb
def Qo2:AT:=mkt 0x8bd099e600b42dbb881605
def Xj:AF:=⟨129,[.tmp 2,.tmp 3],
 (zg Qur []
 (.seq (zg Quq [13,14]
 (zw 15
 (zg Qup []
 .ret)
 .skip))
 (zg Quo []
 (.seq (zg Qun []
 (.block 0 (.loop (.seq (zg Qo1 []
 (zw 16
 .skip
 (.exit 0)))
 (.block 1 (zg Qo0 []
 (zg QoZ []
 (.block 2 (.loop (.seq (zg Qjt [17,18,19,20]
 (zw 21
 .skip
 (.exit 2)))
 (.seq (.block 3 (zg Qjs []
 (zg QgP []
 (.seq (zg QgO []
 (.block 4 (.loop (.seq (zg Qd7 [24,25,26,27,28,29,30]
 (zw 31
 .skip
 (.exit 4)))
 (.seq (.block 5 (zg Qd6 [34,35,36,37,38,39,40,41]
 (zg Qd5 [42,43,44,45,46,47]
 (zg Qd4 [48,49,50,51,52,53,54,55,56,57,58,59,60,61,62,63]
 (zw 64
 (.reg Qd3 [65,66,67,68])
 .skip)))))
 (.reg Qd2 [32,33]))))))
 (.seq (zg QgN [69,70,71,72,73,74]
 (zw 75
 (zg QgM []
 .ret)
 .skip))
 (zg QgL [76,77,78,79,80,81]
 (zw 82
 (zg QgK [83,84,85,86,87,88]
 (.reg QgJ []))
 .skip)))))))
 (.reg QgI [22,23]))))))))))))
 (.seq (zg Qo3 []
 (.block 6 (.loop (.seq (zg Qk3 [89,90,91]
 (zw 92
 .skip
 (.exit 6)))
 (.seq (.block 7 (zg Qk2 [95]
 (.block 8 (.loop (.seq (zg QiB [96,97,98,99,100,101,102,103,104,105,106,107,108]
 (zw 109
 .skip
 (.exit 8)))
 (.seq (.block 9 (.reg QiA [112,113,114,115,116,117,118,119,120,121,122,123,124,125,126,127]))
 (.reg Qiz [110,111])))))))
 (.reg Qk1 [93,94]))))))
 (zg Qo2 [128]
 .ret))))))⟩
abbrev Zq:Nat:=57
def QoY:AT:=mkt 0x2f2b00e0
def QoX:AT:=mkt 0xa2c25cbc9475fd76b6751ca13e9803e8
def Qq:AF:=⟨9,[.tmp 4],
 (zg QoY []
 (zg QoX [5,6,7,8]
 .ret))⟩
abbrev Xd:Nat:=58
def QoW:AT:=mkt 0xc25500e0
def QoV:AT:=mkt 0x176b4c6f133a80270
def QoU:AT:=mkt 0x3c6fc108
def QoT:AT:=mkt 0x73be4e6701d0
def QoS:AT:=mkt 0x111ea2ae7f5c4be1ea4b4d9047184d8
def QoR:AT:=mkt 0xc4b7598e8208
def QoQ:AT:=mkt 0x6529ab46034d2c210
def QoP:AT:=mkt 0x127be400e0
def Qv:AF:=⟨19,[.tmp 4],
 (zg QoW []
 (.seq (zg QoV [6]
 (.block 0 (.loop (zg QoU []
 (.seq (zw 9
 .skip
 (.exit 0))
 (.seq (.block 1 (zg QoT [10]
 (zg QoS [11,12,13,14,15]
 (zw 16
 (zg QoR [17]
 .ret)
 .skip))))
 (.reg QoQ [18])))))))
 (zg QoP []
 .ret)))⟩
abbrev XB:Nat:=59
def Qum:AT:=mkt 0x2f2b00d8
def Qul:AT:=mkt 0x3e78281bd52ff90474eda843e0
def XK:AF:=⟨8,[.tmp 3],
 (zg Qum []
 (zg Qul [4,5,6,7]
 .ret))⟩
abbrev Z8:Nat:=60
abbrev Qg8:Nat:=61
abbrev QpV:Nat:=62
abbrev QpW:Nat:=63
def Quk:AT:=mkt 0x16bcada4dbb4f69cb258
def Quj:AT:=mkt 0x848e53a0b3e1d08802bc350
def QoN:AT:=mkt 0x3c6fc130
def QoM:AT:=mkt 0x1890d61f820ab8b802b8
def QoL:AT:=mkt 0x122bbc03c5a30e215ba7a8a567143cf677172885d0
def QoK:AT:=mkt 0x125fa9e680be28479
def QoJ:AT:=mkt 0x5499492f6683e00400e6c05d1
def QoI:AT:=mkt 0xec671b7a6c254b4e9b5e004a9
def QoH:AT:=mkt 0x308bbbb3ee909c25ae04e50735a3f14419fb9c3f4b65294252638ade0640c67dd74032c310a3ece0190a
def QoG:AT:=mkt 0x7ff2341975d69b8f5ad736a5fa824f93354ab6968e67794e163255270cfc2001562
def Qk0:AT:=mkt 0x49454ad61dc01a0
def QkZ:AT:=mkt 0xbfdd0d682d2f8aeb90efe9b3079e7b54d86bf9c6fe960802000fb2
def QkY:AT:=mkt 0xeba2cd90df810379e26eb2b73f0e7c84135b17e4330013e3
def QkX:AT:=mkt 0x4945494dadc01a0
def QkW:AT:=mkt 0x1493f2481ebf39450813
def QoO:AT:=mkt 0x303451edadc01a0
def X8:AF:=⟨67,[.tmp 4,.tmp 5],
 (zg Quk []
 (.seq (zg Quj [10]
 (.block 0 (.loop (zg QoN []
 (.seq (zw 14
 .skip
 (.exit 0))
 (.seq (.block 1 (zg QoM [15,16]
 (zg QoL [18,19,17,20,21]
 (.block 2 (zg QoK [23,24]
 (zw 22
 .skip
 (zg QoJ [26,27,28]
 (zw 25
 (.reg QoI [29,30,31])
 (zg QoH [33,34,35,36,37,38,39,40,41,42,43]
 (zw 32
 (zg QoG [44,45,46,47,48,49,50,51,52]
 (zg Qk0 []
 .ret))
 (zg QkZ [54,55,56,57,58,59]
 (zw 53
 (zg QkY [60,61,62,63,64]
 (zw 65
 (zg QkX []
 .ret)
 .skip))
 .skip))))))))))))
 (.reg QkW [66])))))))
 (zg QoO []
 .ret)))⟩
abbrev Yq:Nat:=64
def Qui:AT:=mkt 0xdadc00d0
def QoF:AT:=mkt 0x8a70ed4fff427189d2afa4f3fac79f042cd6c928e0578
def QoE:AT:=mkt 0x8af1bdb901e0
def QoD:AT:=mkt 0xdadc00d0
def QoC:AT:=mkt 0x15956a6a2a6aae5cffd270cb014415ddee46957985f72dcbc9ffe38088b0
def QoB:AT:=mkt 0x7f0004935791bef154e422cc61068cf5bdcef610ec0ccfbb2939d7c6566f400d41
def QoA:AT:=mkt 0x1961dc00d0
def Qoz:AT:=mkt 0x1c06731e6ef5fc14b84d1
def Qoy:AT:=mkt 0x13774de8ea1d6aae6e0cf3c6f2a9e3199fc60c9213c6a9dfc26ddf704cc9c7a17ed5a121217bf3a918f63a101b22
def Qox:AT:=mkt 0xdadc00d0
def QkV:AT:=mkt 0xe3bd4180fda311a4553a10078a
def QkU:AT:=mkt 0x4033de962f4059a
def QkT:AT:=mkt 0xd1e5c00d0
def QkS:AT:=mke 0x1085f65859d39aeed0172bc12b5b7bc8bed473001fab (mkt 0x17e56267b9db2763a8556cfe3dd88463d5ebcaaae8a3d0fb)
def QkR:AT:=mkt 0x1b2ff6c700fe01476055e11cfa7ed42f4e0111b
def QkQ:AT:=mkt 0xdadc00d0
def YJ:AF:=⟨72,[.tmp 2],
 (zg Qui []
 (.block 0 (.loop (.block 1 (zg QoF [7,8,6,9,10]
 (.seq (.block 2 (zg QoE [12]
 (zw 11
 (zg QoD []
 .ret)
 (zg QoC [14,15,16,17,18,19,20,21,22,23]
 (zw 13
 (zg QoB [24,25,26,27,28,29,30,31,32]
 (zg QoA []
 .ret))
 (zg Qoz [34,35]
 (zw 33
 (.seq (zg Qoy [36,37,38,39,40,41,42,43,44,45,46,47]
 (zw 48
 (zg Qox []
 .ret)
 .skip))
 (.exit 1))
 .skip)))))))
 (zg QkV [49,50]
 (.seq (zg QkU [51]
 (zw 52
 (zg QkT []
 .ret)
 .skip))
 (zg QkS [53,54,55,56,57,58,59,60,61,62,63,64,65,66]
 (zg QkR [67,68,69,70]
 (zw 71
 (zg QkQ []
 .ret)
 .skip)))))))))))⟩
abbrev YS:Nat:=65
def Quh:AT:=mkt 0x2f2b00e0
def Qug:AT:=mkt 0xc25500e8
def Quf:AT:=mkt 0x1482961edee2acd378330
def Que:AT:=mkt 0x25b92900da6b2c6d66a137c1804e0
def Qud:AT:=mkt 0x47b200e0
def Quc:AT:=mkt 0x1370b2bb0061cb638290
def Qub:AT:=mkt 0x2f2b00e0
def XF:AF:=⟨18,[.tmp 4],
 (zg Quh []
 (.seq (zg Qug []
 (.block 0 (.loop (.seq (zg Quf [6,7,8]
 (zw 9
 .skip
 (.exit 0)))
 (.seq (.block 1 (zg Que [12,13,14,15,16]
 (zw 17
 (zg Qud []
 .ret)
 .skip)))
 (.reg Quc [10,11]))))))
 (zg Qub []
 .ret)))⟩
abbrev Z6:Nat:=66
def Qua:AT:=mkt 0x2f2b00e0
def Qt9:AT:=mkt 0x735fde4c5e064e4a280dfb095fe2f41c2be719e4007a8
def Q6:AF:=⟨14,[.tmp 4],
 (zg Qua []
 (zg Qt9 [5,6,7,8,9,10,11,12,13]
 .ret))⟩
abbrev Za:Nat:=67
abbrev Qew:Nat:=68
abbrev Qgy:Nat:=69
abbrev Qex:Nat:=70
abbrev Qfk:Nat:=71
abbrev Qe2:Nat:=72
abbrev Qc3:Nat:=73
abbrev Qej:Nat:=74
abbrev Qgb:Nat:=75
abbrev Qnl:Nat:=76
abbrev Qnk:Nat:=77
def Qt8:AT:=mkt 0xc25500e0
def Qt7:AT:=mkt 0x36feb3e1a22309d24449ad55c04c0
def Qt6:AT:=mkt 0x7b518ac7657feb093a1c90143a0724d8c1717045bb6b47a5e9fc6fef5e2612c008a8
def Qt5:AT:=mkt 0x2f774b154cc5ba1480be8a85b9
def Qow:AT:=mkt 0x64ba4219
def Qov:AT:=mkt 0xc7bd905ad183334804a1
def Qou:AT:=mke 0x6c58302ae61c1d90f0218d7737aafe3095cf342014f2 (mkt 0x242041cfb1e5023f8254378b425efe72694801ccee80f600b42)
def Qot:AT:=mkt 0x2c40fd13c70100a0562
def Qt4:AT:=mkt 0x24b5ea261c056a
def YK:AF:=⟨46,[.tmp 4],
 (zg Qt8 []
 (zg Qt7 [8,9,10,11,12]
 (zg Qt6 [13,14,15,16,17,18,19,20,21,22]
 (.seq (zg Qt5 [23]
 (.block 0 (.loop (zg Qow []
 (.seq (zw 27
 .skip
 (.exit 0))
 (.seq (.block 1 (zg Qov [28,29]
 (.reg Qou [30,31,32,33,34,35,36,37,38,39,40,41,42,43])))
 (.reg Qot [44])))))))
 (zg Qt4 [45]
 .ret)))))⟩
abbrev Qcu:Nat:=78
def Qt3:AT:=mkt 0x5742c00e0
def Qt2:AT:=mkt 0x3b90856bf581a8
def Qt1:AT:=mkt 0x8fbe64b19472432c134c3dad3706284a0e0dd6bfdc07b8
def Qt0:AT:=mkt 0x91c60b924b22cb7b8b9799ad81ddd6bfdc0680
def YC:AF:=⟨23,[.tmp 4],
 (zg Qt3 []
 (.seq (zg Qt2 [5]
 (zw 6
 (zg Qt1 [7,8,9,10,11,12,13,14,15]
 .ret)
 .skip))
 (zg Qt0 [16,17,18,19,20,21,22]
 .ret)))⟩
abbrev Qap:Nat:=79
def QtZ:AT:=mkt 0x2f2b00f0
def QtY:AT:=mkt 0xf416f7490e126b728e0280
def QtX:AT:=mkt 0x2f2b00f0
def QtW:AT:=mkt 0x785a4eba12837f61537f8298
def QtV:AT:=mke 0x117346d82c1d023424b565232d8c7a062f698e640ce9 (mke 0x8abce26e98b470aa23fb4de226897d5ce37be40d39 (mkt 0x4cbfe871fa25fa08ebc65dca4f9f9ea3d5750fe416d3dd31a509c9))
def QtU:AT:=mkt 0x103a605fe4e83a9
def QtT:AT:=mkt 0xb58ccc568bfe6bc9689ebd6cf9d64b3a200f3a
def QtS:AT:=mkt 0x159063de891d4f1c1d922a366234adba241e5974d3da5657cb9e6cdd619e7236a200176a
def QtR:AT:=mkt 0x47b200f0
def Ye:AF:=⟨55,[.tmp 6],
 (zg QtZ []
 (.seq (zg QtY [8,9]
 (zw 10
 (zg QtX []
 .ret)
 .skip))
 (zg QtW [11,12]
 (zg QtV [13,14,15,16,17,18,19,20,21,22,23,24,25,26,27,28,29,30,31,32,33,34,35,36]
 (.seq (zg QtU [37]
 (zw 38
 (.reg QtT [39,40,41,42,43,44])
 .skip))
 (zg QtS [45,46,47,48,49,50,51,52,53,54]
 (zg QtR []
 .ret)))))))⟩
abbrev X9:Nat:=80
def QtQ:AT:=mkt 0xc0d153a550190
def Qmi:AT:=mkt 0x84fe0e071b2bc586df1ccd97ca0557c3d54ec8a1c07e0
def Qmh:AT:=mkt 0x63d6d7c8efec571ca06596a2407458b16d4af26d5d06305d69640fb1
def Qmg:AT:=mkt 0x3535d756f8ed789abbc3f194ea161ef5e1a60240b09
def Qmf:AT:=mkt 0x15369354f6f2b151cf6e706e785cf34200f42
def Qme:AT:=mkt 0xad19eb42b88eff7ff3f6540772
def Qmd:AT:=mkt 0x194c9fb5caa5540782
def QgH:AT:=mkt 0xa12a039a
def QgG:AT:=mkt 0xa23e1c605412985c38b9e3f211c80ba2
def QgF:AT:=mkt 0xfdd748ec9c6a59a8ecec0842632e4076fffc71619cc77bfd2e6a60625f94bf8ee20017c2
def Qd1:AT:=mkt 0xae76eeb5720803
def Qd0:AT:=mkt 0x3526b6f027c91cb79675a7a05fc1113
def QdZ:AT:=mkt 0xc2aadeadf8e15a0691d2939e0183741083c8ed08369e9d94ccd89351302333
def QdY:AT:=mkt 0x13318a16a0984bb0ff3100e83
def QdX:AT:=mkt 0x720105f6b228bf399196111c0296ba4561b0b6b0641193
def QdW:AT:=mkt 0x1ad0e4207e9119bf08b3
def Qiy:AT:=mkt 0x12c40c74f15a43bda5a8ee837d893513017bb
def Qos:AT:=mkt 0x30345307be40190
def XQ:AF:=⟨93,[.tmp 2,.tmp 3],
 (zg QtQ []
 (.seq (.block 0 (.loop (.seq (zg Qmi [12,13,14,15,16,17,18,19,20]
 (zw 21
 .skip
 (.exit 0)))
 (.block 1 (.cond (.c (.bool true))
 (zg Qmh [22,23,24,25,26,27,28,29,30,31,32]
 (zg Qmg [33,34,35,36,37,38,39]
 (zg Qmf [40,41,42,43,44,45]
 (zg Qme [46,47]
 (.seq .skip
 (.seq (zg Qmd []
 (.block 2 (.loop (zg QgH []
 (.seq (zw 51
 .skip
 (.exit 2))
 (.seq (.block 3 (zg QgG [52,53,54]
 (zg QgF [56,57,58,59,55,60,61,62]
 (.seq (.block 4 (zg Qd1 [64]
 (zw 63
 (.exit 3)
 (zg Qd0 [66,67,68,69]
 (zw 65
 (zg QdZ [70,71,72,73,74,75,76,77,78,79]
 (zg QdY [80,81]
 .ret))
 .skip)))))
 (.reg QdX [82,83,84,85])))))
 (.reg QdW [86])))))))
 (.reg Qiy [87,88,89,90,91,92])))))))
 .bad)))))
 (zg Qos []
 .ret)))⟩
abbrev Qao:Nat:=81
def QtP:AT:=mkt 0x2f2b00d0
def QtO:AT:=mkt 0xf3c8e5e0cd86e3da3902f71c3e866f645f1c06d8
def QtN:AT:=mkt 0x2f2b00d0
def QtM:AT:=mkt 0x359fc4b7ad64f2beb24052b1b2cb33c8645f1c0660
def QtL:AT:=mkt 0x47b200d0
def XR:AF:=⟨19,[.tmp 2],
 (zg QtP []
 (.seq (zg QtO [3,4,5,6,7,8,9,10]
 (zw 11
 (zg QtN []
 .ret)
 .skip))
 (zg QtM [12,13,14,15,16,17,18]
 (zg QtL []
 .ret))))⟩
abbrev Zy:Nat:=82
def QtK:AT:=mkt 0x2f2b00f0
def QtJ:AT:=mkt 0xcfafc0e678e3591b5614a345a7e8daca7117f85a0
def QtI:AT:=mkt 0xa1ceab27e303748279deda81e655dcfd1640e69cd8704a95e4fbdc1398a566f400e41
def QtH:AT:=mkt 0xd4bea60db37270a5646300491
def QtG:AT:=mkt 0x7ab2635cd19436a84a9
def QtF:AT:=mkt 0xa47f6bc197ce9dbc3a6ed0c6d1b9375868f86c0a45480881
def QtE:AT:=mkt 0x1868d0108
def QtD:AT:=mkt 0x663aaa2c3db6a84e9
def Qop:AT:=mkt 0xa12a0342
def Qoo:AT:=mkt 0x2172ff30e4054a
def QkP:AT:=mke 0x24d5a48e3ed734d3ce2cc87c5844f3194ed71f5f6ae1a9cc1f53 (mke 0x1f3aee7c8aa67b07f07b14041e1043b8b1651c06130180c886d8d8c4409fa3 (mkt 0x7b7d80d9c67a72ccec3dd6b85a6330724168e12c1fa58c2a5f38096b3))
def QkO:AT:=mkt 0xbc0eea1058082b
def QkN:AT:=mkt 0x15d3abe92e07e4d90833
def Qor:AT:=mkt 0x45710da69bea91302f8b825700be99453cd9c95ba5b3e3a96cf8ad6387155c980d6a6931f48e0a4262c3b
def Qoq:AT:=mkt 0x51b09e7fdcc4966a3bb5d0e41e9f5d382c81ed315cd24ca916c00bef23b49b4918be7813cbc5deb688fad554949b5198046a60149b
def X6:AF:=⟨91,[.tmp 6],
 (zg QtK []
 (zg QtJ [12,13,11,14,15,8]
 (zg QtI [16,17,18,19,20,21,22,23,24,25]
 (zg QtH [26,27,28]
 (.seq (zg QtG [29,30]
 (zw 31
 (zg QtF [32,33,34,35,36]
 .ret)
 .skip))
 (zg QtE []
 (.seq (zg QtD [37]
 (.block 0 (.loop (zg Qop []
 (.seq (zw 40
 .skip
 (.exit 0))
 (.seq (.block 1 (zg Qoo [41]
 (zg QkP [42,43,44,45,46,47,48,49,50,51,52,53,54,55,56,57,58,59,60,61,62,63,64,65,66,67]
 (zw 68
 (.reg QkO [69])
 .skip))))
 (.reg QkN [70])))))))
 (zg Qor [71,72,73,74,75,76,77,78,79,80,81,82]
 (zg Qoq [83,84,85,86,87,88,89,90]
 .ret)))))))))⟩
abbrev QaS:Nat:=83
def QtC:AT:=mkt 0x31a68d8b901a0
def QtB:AT:=mkt 0xe3e642cb200
def QtA:AT:=mkt 0x49c7c4ff59718f57af2aabc06b208
def Qtz:AT:=mkt 0x31a6884a5501c0
def Qty:AT:=mkt 0x101877fa6ddb39df41016643c6c4e94dc05d0
def Qtx:AT:=mkt 0x5a0ecefb49b8d7780de8a5d391c9defa0e40ac1
def Qon:AT:=mkt 0x663aaa2c3eb2384b9
def Qh5:AT:=mkt 0x64ba4251
def Qh4:AT:=mkt 0xf7f845198303b58804d9
def Qh3:AT:=mkt 0x116d1489830e43911fe78284e9
def Qfa:AT:=mkt 0x5e42a84edff5c4a37eb2c598cb298900c2de929c4b494c58b11b1284a58794d7290c9e42981d3a
def Qe9:AT:=mkt 0x5847a02854e51bc1807aa
def Qe8:AT:=mkt 0x42cdbe8a25c6b2c36bb90d101c1c417d9d59546bb3d67bf4c2015ba
def Qe7:AT:=mkt 0xa8f2e57de9cd8e66d1b0079bef4978c052a5e0dc2a00857678da483302903
def Qe6:AT:=mkt 0x7a5aa8a920a1af3ca00b6b
def Qe5:AT:=mkt 0x6dfb0ed6a5b64a1215b2111c0296ba4561d50d680a117b
def Qe4:AT:=mkt 0x45d094734a3df61be6ca666d9c4ed5d4d7e23eaaebc4f6209b
def Qe3:AT:=mkt 0x1caf77770866822d08e3
def QgE:AT:=mkt 0x29987cca6a12f70b8698d606bd704ed917300604efd3368c6217050428aae62302eec
def QgD:AT:=mkt 0x203414dc67a023e3a100f44
def QkM:AT:=mkt 0x2202ac77d1d0dcb6f3ed4ce7767016ef7b7deab192da2c402754
def QkL:AT:=mkt 0x22f6b4a0269843e3a100f8c
def QkK:AT:=mkt 0x2393b4db6b95e8230000f9c
def QkJ:AT:=mkt 0x1f2c2fee6d000bac
def QkI:AT:=mkt 0x332e4b4f81ff4b4c50ebf13c4aedf817bc
def QkH:AT:=mkt 0xa293a6e4c9dc7ec1f18b813dc
def QkG:AT:=mke 0x3ce94b9509563d5a5cce06d23f947c1c7ebafbb9844ce1d006922603fed (mkt 0xc6c5eb9ef1217c2b9b8434f5090a38780aa72fc938dcf268156d6a88ea792e1acd3435)
def X7:AF:=⟨142,[.tmp 4,.tmp 5],
 (zg QtC []
 (zg QtB [16]
 (zg QtA [17]
 (zg Qtz []
 (zg Qty [18,19,20,21,22,23]
 (zg Qtx [24,25,26,27,28,29,30]
 (.block 0 (.loop (.block 1 (.seq (zg Qon []
 (.block 2 (.loop (zg Qh5 []
 (.seq (zw 34
 .skip
 (.exit 2))
 (.seq (.block 3 (zg Qh4 [35,36]
 (zg Qh3 [37,38]
 (.seq (zg Qfa [39,40,41,42,43,44,45,46,47,48,49,50,51]
 (zw 52
 (.exit 3)
 .skip))
 (zg Qe9 [53,54]
 (zg Qe8 [55,56,57,58,59,60,61,62,63]
 (.seq (zg Qe7 [64,65,66,67,68,69,70,71,72,73,74,75]
 (zw 76
 (zg Qe6 [77,78]
 (.exit 3))
 .skip))
 (zg Qe5 [79,80,81,82]
 (.reg Qe4 [83,84,85,86,87,88,89,90,91])))))))))
 (.reg Qe3 [92])))))))
 (.seq (.block 4 (.loop (.seq (zg QgE [93,94,95,96,97,98,99,100,101,102]
 (zw 103
 .skip
 (.exit 4)))
 (.block 5 (.reg QgD [104,105])))))
 (zg QkM [106,107,108,109,110,111,112]
 (zg QkL [113,114]
 (.seq (zg QkK [115,116]
 (zg QkJ [117]
 (zw 118
 (zg QkI [119,120,121,122]
 (zg QkH [123,124]
 .ret))
 .skip)))
 (.reg QkG [125,126,127,128,129,130,131,132,133,134,135,136,137,138,139,140,141])))))))))))))))⟩
abbrev QaT:Nat:=84
def Qtw:AT:=mkt 0xc25500d0
def Qtv:AT:=mkt 0xc25500d8
def Qtu:AT:=mkt 0x1868d00e0
def Qtt:AT:=mkt 0x1d767f06df209daa255c18be99e860568
def Qts:AT:=mke 0xe61090d88d64cc2fd3f9aaf381499a22f41bc140c64b3a201472 (mke 0x5b2b81a80f524abd01c92bfc8113e120e0a1d18bce77b714c2 (mkt 0xb5f0fd3406c24cc66841539668c4f1acaa429c6b1d92a4f4611312))
def Qtr:AT:=mkt 0x23142bdab8055a
def Qtq:AT:=mkt 0x16f8c4712d1b2a7202a0
def Qtp:AT:=mkt 0x23e4efbf540562
def Yu:AF:=⟨45,[.tmp 2],
 (zg Qtw []
 (zg Qtv []
 (.seq (zg Qtu []
 (.block 0 (.loop (.seq (zg Qtt [5,6,7,8,9,10]
 (zw 11
 .skip
 (.exit 0)))
 (.seq (.block 1 (zg Qts [14,15,16,17,18,19,20,21,22,23,24,25,26,27,28,29,30,31,32,33,34,35,36,37,38,39,40,41]
 (zw 42
 (.reg Qtr [43])
 .skip)))
 (.reg Qtq [12,13]))))))
 (zg Qtp [44]
 .ret))))⟩
abbrev Qbq:Nat:=85
abbrev Qgx:Nat:=86
abbrev Qi2:Nat:=87
abbrev Qjp:Nat:=88
abbrev Qek:Nat:=89
abbrev QhL:Nat:=90
def Qto:AT:=mkt 0xc25500d0
def Qtn:AT:=mkt 0x267b767833cc06b9de4003d8
def Qg2:AF:=⟨7,[.tmp 2],
 (zg Qto []
 (zg Qtn [3,4,5,6]
 .ret))⟩
abbrev QjV:Nat:=91
def Qtm:AT:=mkt 0x31438439a36ab0270
def Qtl:AT:=mkt 0x70adc2f32a0dadcf843bd2ad73509ad55c0658
def Qtk:AT:=mkt 0x3bfb803675cf93e41b0b01fd8450
def Qtj:AT:=mkt 0x1aa8e53315a302fc151f6acaf2eaccd49ff02fb878d9f6d4460fe5d0156fe3b512dfea282e8fb9
def Qti:AT:=mkt 0x6504b6eb0e7001cd281ea3aded1bc408f8766c2f880889
def Qth:AT:=mkt 0x31438439a36ab0270
def Qtg:AT:=mkt 0x24ac50110
def Ql6:AT:=mkt 0x7f06cc487d4a2cbf68093a
def Ql5:AT:=mkt 0xca5ae127589a0305df127b46ea46fe68f37352e742400f6a
def Ql4:AT:=mkt 0x4ee0259038f3c1d59034224746fc0c23ab6b5ff2d70c1b5d7aa54747f5e585641273280709598e41da2
def Qix:AT:=mke 0x60c870f39a1084aa82735f0f89a1a16003a3009351302003 (mkt 0x100a557ef58174af29ac2231fedc857be6152f405057bab170b3926141bd5b1640b48fa11d53)
def Qiw:AT:=mkt 0x31438439a4f320270
def Qiv:AT:=mkt 0xde9fef516a5d948c8075a
def Qol:AT:=mkt 0x1e00c616cf210faddf3960128c73ada11935b1f28bd601493
def Qok:AT:=mkt 0x31438a7de142b0270
def Qoj:AT:=mkt 0x6bc86c8b7108831641b9631458cdfc56ea333dc9ee790c8affa5ac5f31f28bd6020c3
def X5:AF:=⟨95,[.tmp 6,.tmp 7,.tmp 8],
 (zg Qtm []
 (zg Qtl [11,12,13,14,15,16,17]
 (.seq (zg Qtk [18,19,20,21]
 (zw 22
 (.reg Qtj [23,24,25,26,27,28,29,30,31,32])
 .skip))
 (.seq (zg Qti [33,34,35,36,37]
 (zw 38
 (zg Qth []
 .ret)
 .skip))
 (.seq (zg Qtg []
 (.block 0 (.loop (.seq (zg Ql6 [39,40,41]
 (zw 42
 .skip
 (.exit 0)))
 (.seq (.block 1 (zg Ql5 [45,46,47,48,49,50]
 (zw 51
 (zg Ql4 [52,53,54,55,56,57,58,59,60,61,62,63]
 (zg Qix [64,65,66,67,68,69,70,71,72,73,74,75,76,77,78,79,80,81]
 (zg Qiw []
 .ret)))
 .skip)))
 (.reg Qiv [43,44]))))))
 (.seq (zg Qol [82,83,84,85,86]
 (zw 87
 (zg Qok []
 .ret)
 .skip))
 (zg Qoj [88,89,90,91,92,93,94]
 .ret)))))))⟩
abbrev QaR:Nat:=92
def Qtf:AT:=mkt 0x22badcff7a78a6b07f8e3153433b18570
def Qte:AT:=mkt 0x79b56cc9e22486583dc92b11332b2a59017f7591993156a5d90f93305d696411e9
def Qtd:AT:=mkt 0x64ba4219
def Qtc:AT:=mkt 0xc7bba5c85533334804a1
def Qtb:AT:=mkt 0x27b57f5bc5f71b0bf48c9cb17b9cbacf6580f716b698e640af1
def Qta:AT:=mkt 0x5e343eea2c06d643a9
def Qs9:AT:=mke 0xf7a5393f959fc040f987eb26b8d04f57236a2001532 (mkt 0x200b37b8e77e88b6495cf8a70da675f400d82)
def Qs8:AT:=mkt 0x323962764d4d92cf93af6e626d5413d76135f23147620015aa
def Qs7:AT:=mkt 0x8fc11261e5a2de5180bfa4809895b6675d07753001cf3
def Yv:AF:=⟨70,[],
 (.seq (zg Qtf [6,7,8,9,10,11]
 (zw 12
 .ret
 .skip))
 (.seq (zg Qte [13,14,15,16,17,18,19,20,21,22,23]
 (.block 0 (.loop (zg Qtd []
 (.seq (zw 27
 .skip
 (.exit 0))
 (.seq (.block 1 (zg Qtc [28,29]
 (.reg Qtb [30,31,32,33,34,35,36])))
 (.reg Qta [37])))))))
 (zg Qs9 [38,39,40,41,42,43,44,45,46,47,48,49,50,51,52]
 (zg Qs8 [53,54,55,56,57,58,59,60,61]
 (.reg Qs7 [62,63,64,65,66,67,68,69])))))⟩
abbrev Qbr:Nat:=93
def Qs6:AT:=mkt 0x2f2b00d8
def Qs5:AT:=mkt 0xa00ebdee6b07ca69340320
def Xu:AF:=⟨7,[.tmp 3],
 (zg Qs6 []
 (zg Qs5 [4,5,6]
 .ret))⟩
abbrev Yw:Nat:=94
abbrev QhK:Nat:=95
def tab:Nat→Option AF
 | 3=>some QU
 | 4=>some QZ
 | 5=>some Q0
 | 7=>some QT
 | 8=>some XG
 | 9=>some Xn
 | 10=>some Xo
 | 11=>some Qg3
 | 12=>some Xf
 | 13=>some Qan
 | 14=>some QX
 | 15=>some Qda
 | 16=>some Xg
 | 17=>some Qdb
 | 18=>some Xh
 | 19=>some QR
 | 20=>some ZT
 | 21=>some Xi
 | 22=>some Xl
 | 23=>some Q7
 | 24=>some ZS
 | 25=>some Q8
 | 26=>some QI
 | 27=>some ZM
 | 28=>some Yt
 | 29=>some Qw
 | 30=>some Qer
 | 31=>some QW
 | 32=>some ZU
 | 33=>some Zh
 | 34=>some Xk
 | 35=>some QY
 | 36=>some Q9
 | 37=>some Yy
 | 38=>some YB
 | 39=>some QK
 | 40=>some YA
 | 41=>some Yi
 | 42=>some Yz
 | 43=>some XY
 | 47=>some Qc9
 | 51=>some Yo
 | 52=>some Yd
 | 53=>some Yc
 | 54=>some Yb
 | 55=>some XE
 | 56=>some Xm
 | 57=>some Xj
 | 58=>some Qq
 | 59=>some Qv
 | 60=>some XK
 | 64=>some X8
 | 65=>some YJ
 | 66=>some XF
 | 67=>some Q6
 | 78=>some YK
 | 79=>some YC
 | 80=>some Ye
 | 81=>some XQ
 | 82=>some XR
 | 83=>some X6
 | 84=>some X7
 | 85=>some Yu
 | 91=>some Qg2
 | 92=>some X5
 | 93=>some Yv
 | 94=>some Xu
 | _=>none
theorem Qz:tab Qr=some QU:=rfl
theorem YZ:tab XS=some QZ:=rfl
theorem Y0:tab XT=some Q0:=rfl
theorem QaZ:tab YL=some QT:=rfl
theorem QA:tab Z7=some XG:=rfl
theorem Qh:tab Zu=some Xn:=rfl
theorem Ym:tab Zv=some Xo:=rfl
theorem Qd9:tab Qb1=some Qg3:=rfl
theorem Zj:tab Zm=some Xf:=rfl
theorem QG:tab Qad=some Qan:=rfl
theorem Xa:tab Y4=some QX:=rfl
theorem QbU:tab Qg9=some Qda:=rfl
theorem Yj:tab Zn=some Xg:=rfl
theorem Q4:tab Qb2=some Qdb:=rfl
theorem Xx:tab Zo=some Xh:=rfl
theorem XL:tab XO=some QR:=rfl
theorem Ql:tab ZG=some ZT:=rfl
theorem Zk:tab Zp=some Xi:=rfl
theorem Yl:tab Zs=some Xl:=rfl
theorem XW:tab Zb=some Q7:=rfl
theorem Qa0:tab QdU=some ZS:=rfl
theorem Y7:tab X2=some Q8:=rfl
theorem Qu:tab Q1=some QI:=rfl
theorem QdR:tab Qa3=some ZM:=rfl
theorem Xp:tab X1=some Yt:=rfl
theorem Qy:tab XN=some Qw:=rfl
theorem Qia:tab Qif=some Qer:=rfl
theorem YX:tab Y3=some QW:=rfl
theorem YI:tab YM=some ZU:=rfl
theorem Qc6:tab Qde=some Zh:=rfl
theorem Xy:tab Zr=some Xk:=rfl
theorem YY:tab Y5=some QY:=rfl
theorem XX:tab Zc=some Q9:=rfl
theorem Q5:tab Qbs=some Yy:=rfl
theorem Qbo:tab Qbv=some YB:=rfl
theorem QD:tab Xv=some QK:=rfl
theorem Qbn:tab Qbu=some YA:=rfl
theorem Qcq:tab ZZ=some Yi:=rfl
theorem Qbm:tab Zz=some Yz:=rfl
theorem YH:tab XM=some XY:=rfl
theorem QgV:tab Qea=some Qc9:=rfl
theorem Qbj:tab Y2=some Yo:=rfl
theorem QaM:tab QaV=some Yd:=rfl
theorem QaL:tab QaU=some Yc:=rfl
theorem QaK:tab Zd=some Yb:=rfl
theorem Z3:tab Z5=some XE:=rfl
theorem Zl:tab Zt=some Xm:=rfl
theorem Yk:tab Zq=some Xj:=rfl
theorem QM:tab Xd=some Qq:=rfl
theorem QH:tab XB=some Qv:=rfl
theorem Z4:tab Z8=some XK:=rfl
theorem QaJ:tab Yq=some X8:=rfl
theorem Qcp:tab YS=some YJ:=rfl
theorem Qk:tab Z6=some XF:=rfl
theorem QP:tab Za=some Q6:=rfl
theorem YQ:tab Qcu=some YK:=rfl
theorem Xs:tab Qap=some YC:=rfl
theorem Qp:tab X9=some Ye:=rfl
theorem Qaj:tab Qao=some XQ:=rfl
theorem Xr:tab Zy=some XR:=rfl
theorem QaH:tab QaS=some X6:=rfl
theorem QaI:tab QaT=some X7:=rfl
theorem Qbk:tab Qbq=some Yu:=rfl
theorem X4:tab QjV=some Qg2:=rfl
theorem QaG:tab QaR=some X5:=rfl
theorem Qbl:tab Qbr=some Yv:=rfl
theorem ZI:tab Yw=some Xu:=rfl
abbrev wd:AC:=zg QgH [] (.seq (zw 51 .skip (.exit 2)) (.seq (.block 3 (zg QgG [52,53,54] (zg QgF [56,57,58,59,55,60,61,62] (.seq (.block 4 (zg Qd1 [64] (zw 63 (.exit 3) (zg Qd0 [66,67,68,69] (zw 65 (zg QdZ [70,71,72,73,74,75,76,77,78,79] (zg QdY [80,81] .ret)) .skip))))) (.reg QdX [82,83,84,85]))))) (.reg QdW [86])))
abbrev we:AC:=zg Qh5 [] (.seq (zw 34 .skip (.exit 2)) (.seq (.block 3 (zg Qh4 [35,36] (zg Qh3 [37,38] (.seq (zg Qfa [39,40,41,42,43,44,45,46,47,48,49,50,51] (zw 52 (.exit 3) .skip)) (zg Qe9 [53,54] (zg Qe8 [55,56,57,58,59,60,61,62,63] (.seq (zg Qe7 [64,65,66,67,68,69,70,71,72,73,74,75] (zw 76 (zg Qe6 [77,78] (.exit 3)) .skip)) (zg Qe5 [79,80,81,82] (.reg Qe4 [83,84,85,86,87,88,89,90,91]))))))))) (.reg Qe3 [92])))
abbrev wg:AC:=.seq (zg Qmc [63,64,65,66] (zw 67 .skip (.exit 0))) (.seq (.block 1 (zg Qmb [] (zg Qma [70,71,72,73,74,75,76] (zg Ql9 [77,78,79,80,81,82,83,84,85,86,87,88,89,90,91,92,93,94,95] (zw 96 (zg Ql8 [] .ret) .skip))))) (.reg Ql7 [68,69]))
abbrev wh:AC:=.seq (zg Qrp [39,40,41] (zw 42 .skip (.exit 0))) (.seq (.block 1 (.seq (zg Qro [45,46,47,48,49,50] (zw 51 (.exit 1) .skip)) (zg Qrn [] (.block 2 (.loop (.seq (zg Qjz [52,53,54,55] (zw 56 .skip (.exit 2))) (.seq (.block 3 (zg Qjy [59,60,61] (.seq (zg Qjx [] (.block 4 (.loop (.seq (zg Qh8 [62,63,64] (zw 65 .skip (.exit 4))) (.seq (.block 5 (.reg Qh7 [68,69,70,71,72,73,74,75])) (.reg Qh6 [66,67])))))) (zg Qjw [76,77,78,79,80,81,82,83,84,85,86] (zw 87 (zg Qjv [] .ret) .skip))))) (.reg Qju [57,58])))))))) (.reg Qmk [43,44]))
end Go.Proofs.Ytingdebioipemaa
