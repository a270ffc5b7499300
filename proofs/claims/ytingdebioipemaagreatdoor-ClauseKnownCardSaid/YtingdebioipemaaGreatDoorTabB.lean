/- The translations of the functions, by a program of mine. -/
import Derived.Test.YtingdebioipemaaGreatDoorTabA
namespace Go.Proofs.YtingdebioipemaaGreatDoor
open Go Go.Am
set_option maxRecDepth 100000
set_option maxHeartbeats 4000000
def zqx_0:AT:=mkt 0x53f3dc581fd656169151cb250
def zqx_1:AT:=mkt 0x14d9ed00c28e95233af9935e16ae922d1c948f1716cc10ec5507f39b633220d139cee7e9b25a98b16053089fbcc960
def zqx_2:AT:=mkt 0x5e1f0dd4e7a77c77c44800b0481
def zqx_3:AT:=mkt 0x7c7c60ae58d39c1cc6d1f4d489
def zqx_4:AT:=mkt 0x663aaa2c3db6a8491
def Qzo:AT:=mkt 0x64ba4229
def Qzn:AT:=mkt 0xd58482818eafeac804b1
def Qzm:AT:=mkt 0x15501d75616ba47c42dc4c1
def Qzl:AT:=mkt 0x5692548f437f354391
def zqx_9:AT:=mkt 0xd4ca6fa4d3c576f5ec2acc541a84d9
def Qu4:AT:=mkt 0x5e1f0dd4e7a77c77c44800b04f1
def Qu3:AT:=mkt 0x27c482dc737932db315ffcd988d21a001d49662810460b3a
def Qu2:AT:=mkt 0x8f32b3fbf7bf896812ca0952
def Qpk:AT:=mkt 0xa12a0372
def Qpj:AT:=mkt 0x531e7aaaff4e00740077a
def Qpi:AT:=mkt 0xa6ecf820295052fa1055c05262ddec098a
def Qph:AT:=mkt 0x2e17285f0ad4064e2290eba98cab17c6591b553da455635c821b758ee619f547152bb724a87e346a0669f300445ddd07fda629f53427082a6ad054f6d5091d1cc959e1c008715ca600bdfa60be0d90bb4daf375064fed1334929f04d6f4efaf075292ecd41b693115588725fca43a080d35357ef64e5a13fe85faa0eced60ddca09aa
def Qpg:AT:=mkt 0x3e5c4e013b535ae05f2
def Qu1:AT:=mkt 0x577f08605f7e6c3eaa207fa
def Zw:AF:=⟨64,[.cell 4 true 2,.tmp 5],
 (zg zqx_0 []
 (.seq (zg zqx_1 [12,13,14,15,16,17,18,19,20,21,22]
 (zw 23
 (zg zqx_2 [24]
 .ret)
 .skip))
 (zg zqx_3 [25]
 (.seq (zg zqx_4 []
 (.block 0 (.loop (zg Qzo []
 (.seq (zw 29
 .skip
 (.exit 0))
 (.seq (.block 1 (zg Qzn [30,31]
 (.reg Qzm [32,33])))
 (.reg Qzl [34])))))))
 (.seq (zg zqx_9 [35,36]
 (zw 37
 (zg Qu4 [38]
 .ret)
 .skip))
 (zg Qu3 [39,40,41]
 (.seq (zg Qu2 [42]
 (.block 2 (.loop (zg Qpk []
 (.seq (zw 46
 .skip
 (.exit 2))
 (.seq (.block 3 (zg Qpj [47,48]
 (zg Qpi [49,50,51]
 (zw 52
 (.reg Qph [53,54,55,56,57,58,59,60,61])
 .skip))))
 (.reg Qpg [62])))))))
 (zg Qu1 [63]
 .ret))))))))⟩
abbrev Qdu:Nat:=36
def zqy_0:AT:=mkt 0x53f3dc581fd7164ff8617b250
def zqy_1:AT:=mkt 0x16e28965412c51fbcc2a8
def zqy_2:AT:=mkt 0xcca6e284306177b0f5e66d02c0
def zqy_3:AT:=mkt 0xc25500f0
def Qty:AT:=mkt 0x3519761d71e4735610388
def Qtx:AT:=mke 0x13766008ec8bbd2e1322f86154f083446fc372df40d7c91870b9428d39 (mkt 0x39b017ad384ced1b903aada04b38131b3d57b10c14929c9)
def Qtw:AT:=mkt 0x25843ed39e28593f2d3a66780742
def Qtv:AT:=mkt 0x26dfbdc7d5526c5502e8
def zqy_8:AT:=mkt 0x1f8ca4a39adcac14ca0e4b4b8bd21a001d49662810460b4a
def zqy_9:AT:=mkt 0xc2550100
def Qm6:AT:=mkt 0x32909a02b29f4263f8edf38c00b62
def Qm5:AT:=mkt 0x60390108
def Qm4:AT:=mkt 0x2f2b0110
def Qm3:AT:=mkt 0xc2550118
def Qi6:AT:=mkt 0x32992652267d1c2e3ff5c932c89c8ae42df404c119a
def Qi5:AT:=mkt 0x6c590ea0cf032009600ef948e719b53787542b02cdc2f1ceb
def Qi4:AT:=mkt 0xc604559f3d51e53a708280ad5b5c828db9f253f0177441c172b
def Qi3:AT:=mkt 0x2384f228f4c21d16ab9a5c9722c146115b
def Qi2:AT:=mkt 0x6f528fa81d219a657a5e111c0296ba4561cdc8e5361183
def Qi1:AT:=mkt 0x12f931bc7e80884b4c07da
def Qm2:AT:=mkt 0x1097088c08a3
def Qm1:AT:=mkt 0x2c20c232c5757933d0908e11e30a8528071da578aef469e5b02af17b3
def Qm0:AT:=mkt 0xfcfa1482bab7b43c0078a
def Qu0:AT:=mkt 0x286a3291016f3d5fedf30be3
def Xr:AF:=⟨93,[.cell 4 true 2,.tmp 5],
 (zg zqy_0 []
 (.seq (zg zqy_1 [13,14]
 (zw 15
 (zg zqy_2 [16]
 .ret)
 .skip))
 (.seq (zg zqy_3 []
 (.block 0 (.loop (.seq (zg Qty [17,18,19]
 (zw 20
 .skip
 (.exit 0)))
 (.seq (.block 1 (zg Qtx [23,24,25,26,27,28,29,30,31,32,33,34,35,36,37,38]
 (zw 39
 (zg Qtw [40]
 .ret)
 .skip)))
 (.reg Qtv [21,22]))))))
 (zg zqy_8 [41,42,43]
 (.seq (zg zqy_9 []
 (.block 2 (.loop (.seq (zg Qm6 [44,45,46,47]
 (zw 48
 .skip
 (.exit 2)))
 (.seq (.block 3 (zg Qm5 []
 (zg Qm4 []
 (.seq (zg Qm3 []
 (.block 4 (.loop (.seq (zg Qi6 [51,52,53,54,55,56,57]
 (zw 58
 .skip
 (.exit 4)))
 (.seq (.block 5 (zg Qi5 [61,62,63,64,65,66,67,68]
 (zg Qi4 [69,70,71,72,73,74]
 (zg Qi3 [75,76,77,78]
 (zw 79
 (.reg Qi2 [80,81,82,83])
 .skip)))))
 (.reg Qi1 [59,60]))))))
 (zg Qm2 [84]
 (zw 85
 (.reg Qm1 [86,87,88,89,90,91])
 .skip))))))
 (.reg Qm0 [49,50]))))))
 (zg Qu0 [92]
 .ret))))))⟩
abbrev Zq:Nat:=37
def zqz_0:AT:=mkt 0x5af2e3dc86ad7b248
def zqz_1:AT:=mkt 0x16e28965412c3b57cc2a8
def zqz_2:AT:=mkt 0xc0d1a7b90190
def zqz_3:AT:=mkt 0x603900e0
def zqz_4:AT:=mkt 0x47b200e8
def Qzk:AT:=mkt 0x4b78140
def Qzj:AT:=mkt 0x2f2b00e8
def Qzi:AT:=mkt 0xc25500f0
def Qpc:AT:=mkt 0x12c8d1d8ca98060faee38cb50448
def Qpb:AT:=mkt 0x2f2b00f8
def QkF:AT:=mkt 0x60390100
def QkE:AT:=mkt 0xc2550108
def Qhn:AT:=mkt 0x3e96831561000ab8874901262480705b1cd25a8ac1
def Qhm:AT:=mkt 0x8de84cb1f02dafc9950677fecf3c9e84031d40262fca1312
def Qhl:AT:=mkt 0x10fe596a91e5d7edbbe1a7d40e6505ea331226bc06691c0f52
def Qhk:AT:=mke 0xd3ba17f6ebe2bc886ff698e837064b0bf5bf6cc73149bc62a45a5c8899b7d81f83 (mkt 0x6dea06974f2a0908fbe6833d440595e5f8d756e5c2f8e06416d3)
def Qhj:AT:=mkt 0x5b34449affa12fa251aa111c0296ba4561bf3fccb0110b
def Qhi:AT:=mkt 0x1a6a04edb2a9100ba84c1
def QkD:AT:=mkt 0x516f129f25e27f85f1585fbaab4111afe7253a172b
def QkC:AT:=mkt 0xc0d1a7b90190
def QkB:AT:=mkt 0x516fec1d01e2fcbf9b7c7faddf151f9b37013a1763
def QkA:AT:=mkt 0xf140d09d233a72b051d0b8fd0ca75a230a1b3e02547f47717e44218179b
def Qkz:AT:=mkt 0x47b200e8
def Qky:AT:=mkt 0x28a3fb11e9246c5502f0
def QuZ:AT:=mkt 0xc2550118
def Qpf:AT:=mkt 0x3b23beea56b45a465020ecb
def Qpe:AT:=mkt 0x102eba8930e08fb
def QmZ:AT:=mkt 0x6de314f97c5550d9ea9fabaa5bf0dbf57d58b951bbf146b3fa9572ed122dc20f00fbd8fca6c983c46b2d83203b04
def QmY:AT:=mke 0x4a1394b626e783dfa14fa70a754e5a3febf020c8a4f2418f3a202b84 (mkt 0x4a212fb9aa480d790a7e46fc819c607807d84d5e45185f9a2023d4)
def QmX:AT:=mkt 0x220b30dd5a9b7fa44200f74
def Qpd:AT:=mkt 0x9373f143fc5fb2c7f20beb
def QuY:AT:=mkt 0x8bd099e600b42dbb881605
def XB:AF:=⟨129,[.tmp 2,.tmp 3],
 (zg zqz_0 []
 (.seq (zg zqz_1 [13,14]
 (zw 15
 (zg zqz_2 []
 .ret)
 .skip))
 (zg zqz_3 []
 (.seq (zg zqz_4 []
 (.block 0 (.loop (.seq (zg Qzk []
 (zw 16
 .skip
 (.exit 0)))
 (.block 1 (zg Qzj []
 (zg Qzi []
 (.block 2 (.loop (.seq (zg Qpc [17,18,19,20]
 (zw 21
 .skip
 (.exit 2)))
 (.seq (.block 3 (zg Qpb []
 (zg QkF []
 (.seq (zg QkE []
 (.block 4 (.loop (.seq (zg Qhn [24,25,26,27,28,29,30]
 (zw 31
 .skip
 (.exit 4)))
 (.seq (.block 5 (zg Qhm [34,35,36,37,38,39,40,41]
 (zg Qhl [42,43,44,45,46,47]
 (zg Qhk [48,49,50,51,52,53,54,55,56,57,58,59,60,61,62,63]
 (zw 64
 (.reg Qhj [65,66,67,68])
 .skip)))))
 (.reg Qhi [32,33]))))))
 (.seq (zg QkD [69,70,71,72,73,74]
 (zw 75
 (zg QkC []
 .ret)
 .skip))
 (zg QkB [76,77,78,79,80,81]
 (zw 82
 (zg QkA [83,84,85,86,87,88]
 (.reg Qkz []))
 .skip)))))))
 (.reg Qky [22,23]))))))))))))
 (.seq (zg QuZ []
 (.block 6 (.loop (.seq (zg Qpf [89,90,91]
 (zw 92
 .skip
 (.exit 6)))
 (.seq (.block 7 (zg Qpe [95]
 (.block 8 (.loop (.seq (zg QmZ [96,97,98,99,100,101,102,103,104,105,106,107,108]
 (zw 109
 .skip
 (.exit 8)))
 (.seq (.block 9 (.reg QmY [112,113,114,115,116,117,118,119,120,121,122,123,124,125,126,127]))
 (.reg QmX [110,111])))))))
 (.reg Qpd [93,94]))))))
 (zg QuY [128]
 .ret))))))⟩
abbrev YC:Nat:=38
def QyB:AT:=mkt 0xc25500e0
def QyA:AT:=mkt 0x3b9100d32d81a8
def Qyz:AT:=mkt 0xc25500e0
def Qyy:AT:=mkt 0x221b9666bc80ea0ea7b21e7fc1f6c84780638
def XI:AF:=⟨14,[.tmp 4],
 (zg QyB []
 (.seq (zg QyA [5]
 (zw 6
 (zg Qyz []
 .ret)
 .skip))
 (zg Qyy [7,8,9,10,11,12,13]
 .ret)))⟩
abbrev QaV:Nat:=39
def Qyx:AT:=mkt 0x2f2b00e0
def Qyw:AT:=mkt 0xc25500e8
def Qyv:AT:=mkt 0x1482961edee2acd378330
def Qyu:AT:=mkt 0x16a6305a4590953648377055e2a9fe02474875f13980660
def Qyt:AT:=mkt 0x2f2b00e0
def Qys:AT:=mkt 0x1370b2bb0061cb638290
def Qyr:AT:=mkt 0x47b200e0
def XL:AF:=⟨20,[.tmp 4],
 (zg Qyx []
 (.seq (zg Qyw []
 (.block 0 (.loop (.seq (zg Qyv [6,7,8]
 (zw 9
 .skip
 (.exit 0)))
 (.seq (.block 1 (zg Qyu [12,13,14,15,16,17,18]
 (zw 19
 (zg Qyt []
 .ret)
 .skip)))
 (.reg Qys [10,11]))))))
 (zg Qyr []
 .ret)))⟩
abbrev Q9:Nat:=40
def Qyq:AT:=mkt 0x2f2b00e0
def Qyp:AT:=mkt 0xc25500e8
def Qyo:AT:=mkt 0x1482961edee2acd378330
def Qyn:AT:=mke 0xc9a11e007368e5220030292a2d47a65732c9440f5c8ff9401462 (mke 0x8ef1774705d9e211ea283e4372acd3b7403f96f522394889a1f8f7114b2 (mkt 0x1c2e95a3dcd622d8010b34004cd0b3ef0fb67083014f0a42eeb576a74eb5cdab1f5958122450f87d1d02))
def Qym:AT:=mkt 0x47b200e0
def Qyl:AT:=mkt 0x1370b2bb0061cb638290
def Qyk:AT:=mkt 0x2f2b00e0
def Xq:AF:=⟨46,[.tmp 4],
 (zg Qyq []
 (.seq (zg Qyp []
 (.block 0 (.loop (.seq (zg Qyo [6,7,8]
 (zw 9
 .skip
 (.exit 0)))
 (.seq (.block 1 (zg Qyn [12,13,14,15,16,17,18,19,20,21,22,23,24,25,26,27,28,29,30,31,32,33,34,35,36,37,38,39,40,41,42,43,44]
 (zw 45
 (zg Qym []
 .ret)
 .skip)))
 (.reg Qyl [10,11]))))))
 (zg Qyk []
 .ret)))⟩
abbrev QP:Nat:=41
def zq13_0:AT:=mkt 0x1061711039da80268
def zq13_1:AT:=mkt 0x1eeaaf2a7a0fc6ffaa3da080d39c86bf888a3aa82f3597ae00578
def Yd:AF:=⟨14,[],
 (zg zq13_0 [5,6]
 (.reg zq13_1 [7,8,9,10,11,12,13]))⟩
abbrev X0:Nat:=42
abbrev Qb1:Nat:=43
abbrev QyK:Nat:=44
abbrev QoG:Nat:=45
def Qyj:AT:=mkt 0xc25500d0
def Qyi:AT:=mkt 0x267b767833cc06b9de4003d8
def Qb9:AF:=⟨7,[.tmp 2],
 (zg Qyj []
 (zg Qyi [3,4,5,6]
 .ret))⟩
abbrev QgE:Nat:=46
def zq18_0:AT:=mkt 0x603900d0
def zq18_1:AT:=mkt 0x2a500a185bdeba80270
def zq18_2:AT:=mkt 0x68248d4f01c8
def zq18_3:AT:=mkt 0x1868d00d8
def zq18_4:AT:=mkt 0x205c5befce836cb548350
def zq18_5:AT:=mkt 0xd580414492d817ec0a2e470d3bf7565809ec2f1b5608bffd80d01
def zq18_6:AT:=mkt 0x1a87ac96cc1ca4bed5805d1
def zq18_7:AT:=mkt 0x1868d00e8
def zq18_8:AT:=mkt 0x1818e25d14a62b987c85e9
def zq18_9:AT:=mkt 0x27502aa2700bb52d3381cc384f308caa46b753aa4ef3c900350151a
def Qz6:AT:=mkt 0xacb3b0f89a790aff91ad224072efc27604558c0116a
def Qz5:AT:=mkt 0x10c25649cde390372c07a2
def Qz4:AT:=mkt 0x1b3673fa058597a7084c9
def Qz3:AT:=mkt 0x540a3bfa62f5419333a4c009b2
def Qz2:AT:=mkt 0x1615f08556a1e746a4c009ca
def Qz1:AT:=mkt 0x1a80d62759d4898082b0
def Qz0:AT:=mkt 0x30f250b7c805e2
def YB:AF:=⟨61,[.tmp 2],
 (zg zq18_0 []
 (.seq (zg zq18_1 [6,7]
 (zw 8
 (zg zq18_2 [9]
 .ret)
 .skip))
 (.seq (zg zq18_3 []
 (.block 0 (.loop (.seq (zg zq18_4 [10,11,12]
 (zw 13
 .skip
 (.exit 0)))
 (.seq (.block 1 (zg zq18_5 [16,17,18,19,20,21,22,23,24]
 (zw 25
 (zg zq18_6 [26,27,28]
 (.seq (zg zq18_7 []
 (.block 2 (.loop (.seq (zg zq18_8 [29,30,31]
 (zw 32
 .skip
 (.exit 2)))
 (.seq (.block 3 (zg zq18_9 [35,36,37,38,39,40,41,42,43]
 (zw 44
 (zg Qz6 [45,46,47,48,49,50,51]
 (.reg Qz5 [52,53]))
 .skip)))
 (.reg Qz4 [33,34]))))))
 (zg Qz3 [54,55,56]
 (zg Qz2 [57,58,59]
 .ret))))
 .skip)))
 (.reg Qz1 [14,15]))))))
 (zg Qz0 [60]
 .ret))))⟩
abbrev Ze:Nat:=47
def Qyh:AT:=mkt 0x2f2b00e0
def Qyg:AT:=mkt 0x3a4b881827f9eea59949c96980328
def YH:AF:=⟨8,[.tmp 4],
 (zg Qyh []
 (zg Qyg [5,6,7]
 .ret))⟩
abbrev QbW:Nat:=48
def Qyb:AT:=mkt 0x2f2b00d8
def Qya:AT:=mkt 0x284082a86c7a6a33bc736e6185da843e0
def YK:AF:=⟨8,[.tmp 3],
 (zg Qyb []
 (zg Qya [4,5,6,7]
 .ret))⟩
abbrev QbZ:Nat:=49
def Qx9:AT:=mkt 0x603900e0
def Qx8:AT:=mkt 0x5345ec869c091ab8b117296980340
def Qx7:AT:=mkt 0x5a54e024ffb81d8
def Qx6:AT:=mkt 0x96709fd701e8
def Qx5:AT:=mkt 0x1a8210c14a946b6382b0
def Qx4:AT:=mkt 0x322304a935f48ce290380
def Qx3:AT:=mkt 0x2cb1e7ead26ccbf2f70b7b006f1
def Qx2:AT:=mkt 0x10da690994e11d2a85d1
def Qx1:AT:=mkt 0x4f4e0234c0a963dcbde27e80731
def Qx0:AT:=mkt 0x1c03550b6446b7a7084d1
def Qrq:AT:=mkt 0x251b807dc1806c5502e0
def Qrp:AT:=mkt 0x15453c239aa20a87ae67e80621
def Qro:AT:=mkt 0xf59181c3537558d5540093a
def Q0:AF:=⟨42,[.tmp 4],
 (zg Qx9 []
 (zg Qx8 [8,9,10]
 (.seq (zg Qx7 [11]
 (zw 12
 (zg Qx6 [13]
 .ret)
 .skip))
 (.seq (zg Qx5 [14,15]
 (.block 0 (.loop (.seq (zg Qx4 [16,17,18]
 (zw 19
 .skip
 (.exit 0)))
 (.seq (.block 1 (zg Qx3 [22,23,24,25]
 (zg Qx2 [26,27,28]
 (zw 29
 (zg Qx1 [30,31,32,33]
 (.reg Qx0 [34,35]))
 .skip))))
 (.reg Qrq [20,21]))))))
 (zg Qrp [36,37,38]
 (zg Qro [39,40,41]
 .ret))))))⟩
abbrev Xi:Nat:=50
def QxZ:AT:=mkt 0x2f2b00d8
def QxY:AT:=mkt 0x11a108798963f962e376619802880fbda844a0
def YJ:AF:=⟨9,[.tmp 3],
 (zg QxZ []
 (zg QxY [4,5,6,7,8]
 .ret))⟩
abbrev QbY:Nat:=51
def Qrn:AT:=mkt 0x163f8fce90248b198
def Qrm:AT:=mkt 0xbc8921e4b482f4dc4143306cbac9d413795f803e8
def Yy:AF:=⟨9,[.tmp 4],
 (zg Qrn []
 (zg Qrm [5,6,7,8]
 .ret))⟩
abbrev Qah:Nat:=52
def QxX:AT:=mkt 0x2f2b00d8
def QxW:AT:=mkt 0xbc0b051688db6a9121010c52a20f893404a0
def YI:AF:=⟨9,[.tmp 3],
 (zg QxX []
 (zg QxW [4,5,6,7,8]
 .ret))⟩
abbrev ZT:Nat:=53
abbrev QbX:Nat:=54
def QxV:AT:=mkt 0x2f2b00e0
def QxU:AT:=mkt 0xa2c25cbc9475fd7528933f6e0b1e969803e8
def Xg:AF:=⟨9,[.tmp 4],
 (zg QxV []
 (zg QxU [5,6,7,8]
 .ret))⟩
abbrev Y2:Nat:=55
def QxT:AT:=mkt 0x603900d0
def QxS:AT:=mkt 0xc25500d8
def QxR:AT:=mkt 0x176b4c6f133a80288
def QxQ:AT:=mkt 0x3c6fc120
def QxP:AT:=mkt 0x157e5545a257e43802a8
def QxO:AT:=mkt 0x7aa4b0485240c47123cf6c8438
def QxN:AT:=mkt 0x3b90856dd88218
def QxM:AT:=(.bad false (some 21) none
 (.bad false none none
 .done))
def QxL:AT:=mkt 0x7ba64983441284230
def QxK:AT:=mkt 0xe71c38ce34614abb76eb7c98479
def Qrl:AT:=mkt 0x663aaa2c3d9d80489
def Qrk:AT:=mkt 0x64ba4221
def Qrj:AT:=mkt 0xcea18412cf2d8f0804a9
def Qri:AT:=mkt 0xfa2522da90dd9f0be0f7f05f9
def Qrh:AT:=mkt 0x5691f9e9106305c391
def Qrg:AT:=mkt 0x718fddf300399
def Xn:AF:=⟨36,[.tmp 2],
 (zg QxT []
 (zg QxS []
 (.seq (zg QxR []
 (.block 0 (.loop (zg QxQ []
 (.seq (zw 12
 .skip
 (.exit 0))
 (.seq (.block 1 (zg QxP [13,14]
 (zg QxO [15,16,17,18]
 (zg QxN [19]
 (zw 20
 (.reg QxM [21])
 .skip)))))
 (.reg QxL [22])))))))
 (zg QxK [23,24]
 (.seq (zg Qrl []
 (.block 2 (.loop (zg Qrk []
 (.seq (zw 28
 .skip
 (.exit 2))
 (.seq (.block 3 (zg Qrj [29,30]
 (.reg Qri [31,32,33])))
 (.reg Qrh [34])))))))
 (zg Qrg [35]
 .ret))))))⟩
abbrev Zn:Nat:=56
def QxJ:AT:=mkt 0x2f2b00d8
def QxI:AT:=mkt 0x9b239a134a352165e0f4d0947f7fee8e11dab6efc06c7293407a0
def X6:AF:=⟨13,[.tmp 3],
 (zg QxJ []
 (zg QxI [4,5,6,7,8,9,10,11,12]
 .ret))⟩
abbrev Za:Nat:=57
abbrev QfX:Nat:=58
abbrev Qmu:Nat:=59
abbrev QjX:Nat:=60
def QxH:AT:=mkt 0x2f2b00e0
def QxG:AT:=mkt 0x82f7f77169baba3c9cec3c44e33343930fd6787a7c2968e6c991be4b313513b183cc0aa8
def XR:AF:=⟨18,[.tmp 4],
 (zg QxH []
 (zg QxG [5,6,7,8,9,10,11,12,13,14,15,16,17]
 .ret))⟩
abbrev Qav:Nat:=61
def QxF:AT:=mkt 0x60390100
def QxE:AT:=mkt 0x3b8f8e9f6881e0
def QxD:AT:=mkt 0x60390100
def QxC:AT:=mkt 0xe0bfb422f14c9982b0
def QxB:AT:=mkt 0x9e3519d1f83724996f91965080388
def QxA:AT:=mkt 0x3b90856dd88220
def Qxz:AT:=mkt 0x6206867f224fb1e50e8cce8160e9f808e806f1
def Qxy:AT:=mkt 0x22b96a05ec1464ac44a045686ca0378851
def Qxx:AT:=mkt 0x49782783e484e1adcc02084b9
def Qxw:AT:=mkt 0x1b363af77fa80f49384c9
def Qrf:AT:=mkt 0xc2550110
def Qme:AT:=mkt 0x2035349622d104d9
def Qmd:AT:=mkt 0x3cee4fa0b82a71f6b8935d23b9400932
def Qmc:AT:=mkt 0x4034470228c054a
def Qmb:AT:=mkt 0x1682cc91d1e4079f64e0d5c92eb7c5a6cdb399a51a77e9e3ed6669744924195a
def Qma:AT:=mkt 0x159aef261e08f566fdd8ee40babd35860ec00fb2
def Ql9:AT:=mkt 0x134a1d6e5b4a5948c807e2
def Qre:AT:=mkt 0x1609cbd7ff25b3050e0cb89b610f3
def Qrd:AT:=mkt 0x1c3b37165fefcbf632a428849720b61113
def bytes_genSplit:AF:=⟨70,[.tmp 8],
 (zg QxF []
 (.seq (zg QxE [12]
 (zw 13
 (zg QxD []
 .ret)
 .skip))
 (.seq (zg QxC [14,15]
 (zw 16
 (zg QxB [17,18,19]
 .ret)
 .skip))
 (.seq (zg QxA [20]
 (zw 21
 (.reg Qxz [22,23,24,25])
 .skip))
 (zg Qxy [26,27,28,29,30]
 (zg Qxx [31,32]
 (zg Qxw [33,34]
 (zg Qrf []
 (.seq (.block 0 (.loop (.seq (zg Qme [35,36]
 (zw 37
 .skip
 (.exit 0)))
 (.block 1 (zg Qmd [38,39,40]
 (.seq (zg Qmc [41]
 (zw 42
 (.exit 0)
 .skip))
 (zg Qmb [43,44,45,46,47,48,49,50,51,52,53]
 (zg Qma [54,55,56,57,58,59]
 (.reg Ql9 [60,61])))))))))
 (zg Qre [62,63,64,65]
 (zg Qrd [66,67,68,69]
 .ret)))))))))))⟩
abbrev QcQ:Nat:=62
abbrev QjY:Nat:=63
abbrev QoD:Nat:=64
def Qxv:AT:=mkt 0x603900e0
def Qxu:AT:=mkt 0x22615c4402d347bd10f6ff1b9853b31e8
def Qxt:AT:=mkt 0x127be400f0
def Qxs:AT:=mkt 0xc25500f8
def Qra:AT:=mkt 0x2c3621c0be242cf1a8370
def Qq9:AT:=mkt 0x53ec8effbc1022dbd03ecea3dd98afc54577c79bddffb7231e2780bd9
def Qq8:AT:=mkt 0xe8b6543e3a728489
def Qq7:AT:=mkt 0x103a9eabe030361
def Qq6:AT:=mkt 0x2ff5b2dd53ce64ea9532e012d86a82c9e157e80a4815a70d5e52fc52ac8dc507d50c89b1
def Qq5:AT:=mkt 0x127be400f0
def Ql8:AT:=mkt 0x103a606062b03a1
def Ql7:AT:=mkt 0x7b4d77e7283b1
def Ql6:AT:=mkt 0x827621760319c38ddc093a
def Qrc:AT:=mkt 0x4034e3a1eb80552
def Qrb:AT:=mkt 0x410722719c77e36013b792dc68f90ae40149ae6179563747ca01e6236d4dfbdf16863ccde141162
def Ql5:AT:=mkt 0x736fe1cbc2698038749929d554099a
def Ql4:AT:=mkt 0x194c9fb5caa55407b2
def QjJ:AT:=mkt 0xa12a03ca
def QjI:AT:=mkt 0x47dcdb30b2e62892cf6491685a7b2051210624c91600dd2
def QjH:AT:=mkt 0x7a04a143a466af13c1358e08473a8ce9289543c4fd7c9a782d00ff4afc2380b417a7dc25eb
def QjG:AT:=mkt 0x16739b3ba4527c6b0843
def Ql3:AT:=mkt 0xc6f4ef64c8084b
def Yt:AF:=⟨74,[.tmp 4],
 (zg Qxv []
 (zg Qxu [13]
 (zg Qxt []
 (.seq (zg Qxs []
 (.block 0 (.loop (.seq (zg Qra [14,15,16]
 (zw 17
 .skip
 (.exit 0)))
 (.block 1 (zg Qq9 [19,20,21,22,18,23,24]
 (.seq (zg Qq8 [25,26]
 (zw 27
 (zg Qq7 [28]
 (zw 29
 (zg Qq6 [30,31,32,33,34,35]
 (.reg Qq5 []))
 .skip))
 (zg Ql8 [36]
 (zw 37
 (.reg Ql7 [38])
 .skip))))
 (.reg Ql6 [39,40,41]))))))))
 (.seq (zg Qrc [42]
 (zw 43
 (.reg Qrb [44,45,46,47,48,49,50])
 .skip))
 (zg Ql5 [51,52,53]
 (.seq (zg Ql4 []
 (.block 2 (.loop (zg QjJ []
 (.seq (zw 57
 .skip
 (.exit 2))
 (.seq (.block 3 (zg QjI [58,59,60]
 (.reg QjH [61,62,63,64,65,66,67,68,69,70,71])))
 (.reg QjG [72])))))))
 (zg Ql3 [73]
 .ret))))))))⟩
abbrev Qbu:Nat:=65
def Qxr:AT:=mkt 0x2f2b00d0
def Qxq:AT:=mkt 0x71087d74c08a684bb00258
def Qxp:AT:=mkt 0xf0
def Qxo:AT:=mkt 0x6eb79c8ef8c16c1c0
def Qxn:AT:=mkt 0xca6314eb73b82041c8
def Qxm:AT:=mkt 0xe0dbcb6e949b2041d0
def Qxl:AT:=mkt 0xf75481f1b57e2041d8
def Qxk:AT:=mkt 0x10dcd3874d6612041e0
def Qxj:AT:=mkt 0x12445fc5e273a2041e8
def Qxi:AT:=mkt 0x13abe9a3878ec800e2041f0
def Qq4:AT:=mkt 0x1513750020f3e7c4e2041f8
def Qq3:AT:=mkt 0x47b200d0
def Qq2:AT:=mkt 0x2f2b00d0
def Qq1:AT:=mkt 0x383083290d23a975fa230f231e8a84380
def unicode_IsSpace:AF:=⟨19,[.tmp 2],
 (zg Qxr []
 (.seq (zg Qxq [3,4]
 (zw 5
 (.seq (zg Qxp []
 (.block 0 (.seq (zg Qxo [8]
 (zw 7
 .skip
 (zg Qxn [9]
 (zw 7
 .skip
 (zg Qxm [10]
 (zw 7
 .skip
 (zg Qxl [11]
 (zw 7
 .skip
 (zg Qxk [12]
 (zw 7
 .skip
 (zg Qxj [13]
 (zw 7
 .skip
 (zg Qxi [14]
 (zw 7
 .skip
 (.reg Qq4 [15])))))))))))))))
 (zw 7
 (zg Qq3 []
 .ret)
 .skip))))
 (zg Qq2 []
 .ret))
 .skip))
 (zg Qq1 [16,17,18]
 .ret)))⟩
abbrev Q8:Nat:=66
def Qxh:AT:=mkt 0x2f2b00e0
def Qxg:AT:=mkt 0xc25500e8
def Qxf:AT:=mkt 0x1482961edee2acd378330
def Qxe:AT:=mkt 0x25b92900da6b2c6d66a137c1804e0
def Qxd:AT:=mkt 0x47b200e0
def Qxc:AT:=mkt 0x1370b2bb0061cb638290
def Qxb:AT:=mkt 0x2f2b00e0
def XS:AF:=⟨18,[.tmp 4],
 (zg Qxh []
 (.seq (zg Qxg []
 (.block 0 (.loop (.seq (zg Qxf [6,7,8]
 (zw 9
 .skip
 (.exit 0)))
 (.seq (.block 1 (zg Qxe [12,13,14,15,16]
 (zw 17
 (zg Qxd []
 .ret)
 .skip)))
 (.reg Qxc [10,11]))))))
 (zg Qxb []
 .ret)))⟩
abbrev Qaw:Nat:=67
def Qxa:AT:=mkt 0x2f2b00e0
def Qw9:AT:=mkt 0x735fde4c5e064e4a280dfb095fe2f41c2be719e4007a8
def Xp:AF:=⟨14,[.tmp 4],
 (zg Qxa []
 (zg Qw9 [5,6,7,8,9,10,11,12,13]
 .ret))⟩
abbrev Zp:Nat:=68
def Qw8:AT:=mkt 0x163f8fcef2408b198
def Qw7:AT:=mkt 0xbc8921e4b482f4f40fe463563ac9f6c8811f803e8
def X5:AF:=⟨9,[.tmp 4],
 (zg Qw8 []
 (zg Qw7 [5,6,7,8]
 .ret))⟩
abbrev QaW:Nat:=69
def Qw6:AT:=mkt 0x2f2b00d8
def Qw5:AT:=mkt 0x257915e96a3045dbf87f5c2b8f57f80320
def YL:AF:=⟨7,[.tmp 3],
 (zg Qw6 []
 (zg Qw5 [4,5,6]
 .ret))⟩
abbrev Qb0:Nat:=70
def Qw4:AT:=mkt 0x2f2b00d8
def Qw3:AT:=mkt 0x1652905748ad59647b51b6e5d6557ac28d81546815aaba35114c52d7120478a5a847a0
def XY:AF:=⟨13,[.tmp 3],
 (zg Qw4 []
 (zg Qw3 [4,5,6,7,8,9,10,11,12]
 .ret))⟩
abbrev QaA:Nat:=71
def Qw2:AT:=mkt 0x2f2b00d8
def Qw1:AT:=mkt 0x11a108798963f962e376619802880fbda844a0
def Ys:AF:=⟨9,[.tmp 3],
 (zg Qw2 []
 (zg Qw1 [4,5,6,7,8]
 .ret))⟩
abbrev Qbt:Nat:=72
def Qw0:AT:=mkt 0x2f2b00d8
def QwZ:AT:=mkt 0x284082a86c7a6a33bc736e6185da843e0
def Yr:AF:=⟨8,[.tmp 3],
 (zg Qw0 []
 (zg QwZ [4,5,6,7]
 .ret))⟩
abbrev Qbs:Nat:=73
def QwY:AT:=mkt 0x2f2b00d8
def QwX:AT:=mkt 0x11a108798963f962e376619802880fbda844a0
def Yq:AF:=⟨9,[.tmp 3],
 (zg QwY []
 (zg QwX [4,5,6,7,8]
 .ret))⟩
abbrev Zs:Nat:=74
abbrev QhQ:Nat:=75
abbrev Qsh:Nat:=76
abbrev Qsi:Nat:=77
def Qq0:AT:=mkt 0x2f2b00e0
def QqZ:AT:=mkt 0xa2c25cbc9475fd75288fe80b1172969803e8
def Qv:AF:=⟨9,[.tmp 4],
 (zg Qq0 []
 (zg QqZ [5,6,7,8]
 .ret))⟩
abbrev Xv:Nat:=78
def QqY:AT:=mkt 0xc25500e0
def QqX:AT:=mkt 0x176b4c6f133a80270
def QqW:AT:=mkt 0x3c6fc108
def QqV:AT:=mkt 0x73be4e6701d0
def QqU:AT:=mkt 0x111ea2ae7f5c4be1ea4b4d9047184d8
def QqT:AT:=mkt 0xc4b7598e8208
def QqS:AT:=mkt 0x6529ab46034d2c210
def QqR:AT:=mkt 0x127be400e0
def Qz:AF:=⟨19,[.tmp 4],
 (zg QqY []
 (.seq (zg QqX [6]
 (.block 0 (.loop (zg QqW []
 (.seq (zw 9
 .skip
 (.exit 0))
 (.seq (.block 1 (zg QqV [10]
 (zg QqU [11,12,13,14,15]
 (zw 16
 (zg QqT [17]
 .ret)
 .skip))))
 (.reg QqS [18])))))))
 (zg QqR []
 .ret)))⟩
abbrev XN:Nat:=79
def QwW:AT:=mkt 0x2f2b00d8
def QwV:AT:=mkt 0x3e78281bd52ff90474eda843e0
def XX:AF:=⟨8,[.tmp 3],
 (zg QwW []
 (zg QwV [4,5,6,7]
 .ret))⟩
abbrev Qaz:Nat:=80
def QwU:AT:=mkt 0xc25500e0
def QwT:AT:=mkt 0x176b4c6f133a80270
def QwS:AT:=mkt 0x3c6fc108
def QwR:AT:=mkt 0x73be4e6701d0
def QwQ:AT:=mkt 0x32ea111974b2e22002d4d9047184d8
def QwP:AT:=mkt 0xc4b7598e8208
def QwO:AT:=mkt 0x6529ab46034d2c210
def QwN:AT:=mkt 0x127be400e0
def Xz:AF:=⟨19,[.tmp 4],
 (zg QwU []
 (.seq (zg QwT [6]
 (.block 0 (.loop (zg QwS []
 (.seq (zw 9
 .skip
 (.exit 0))
 (.seq (.block 1 (zg QwR [10]
 (zg QwQ [11,12,13,14,15]
 (zw 16
 (zg QwP [17]
 .ret)
 .skip))))
 (.reg QwO [18])))))))
 (zg QwN []
 .ret)))⟩
abbrev ZI:Nat:=81
def zq27_0:AT:=mkt 0x603900e0
def zq27_1:AT:=mkt 0x3b90856bf581a8
def zq27_2:AT:=(.bad false (some 7) none
 (.bad false none none
 .done))
def zq27_3:AT:=(.rd (some 8) none (.mov (.t 1))
 (.rd (some 9) none (.mov (.t 0))
 (.bad false (some 10) none
 (.rd (some 11) none (.mov (.t 0))
 (.rd (some 12) none (.len 0 (.t 11))
 (.rd (some 13) none (.bin .sub (.t 10) (.t 12))
 (.rd (some 14) none (.bin .sub (.t 8) (.t 13))
 (.rd (some 1) none (.mov (.t 14))
 .done))))))))
def zq27_4:AT:=mkt 0x3b917c3a6581f8
def zq27_5:AT:=(.rd (some 17) none (.mov (.t 0))
 (.rd (some 18) none (.mov (.t 0))
 (.bad false (some 19) none
 (.rd (some 20) none (.slc 1 (.t 17) none (some (.t 19)) none)
 (.rd (some 21) none (.mov (.t 1))
 (.bad false (some 22) none
 (.rd (some 23) none (.mov (.t 0))
 (.rd (some 24) none (.len 0 (.t 23))
 (.rd (some 25) none (.slc 1 (.t 22) none (some (.t 24)) none)
 (.rd (some 0) none (.mov (.t 25))
 .done))))))))))
def zq27_6:AT:=mkt 0x545d61a790351
def Y9:AF:=⟨27,[.tmp 4],
 (zg zq27_0 []
 (.seq (zg zq27_1 [5]
 (zw 6
 (.reg zq27_2 [7])
 .skip))
 (.seq (zg zq27_3 [8,9,10,11,12,13,14]
 (zg zq27_4 [15]
 (zw 16
 (.reg zq27_5 [17,18,19,20,21,22,23,24,25])
 .skip)))
 (zg zq27_6 [26]
 .ret))))⟩
abbrev Z5:Nat:=82
abbrev QnQ:Nat:=83
abbrev Ql2:Nat:=84
abbrev QoH:Nat:=85
abbrev Qg9:Nat:=86
abbrev Qsj:Nat:=87
def zq2d_0:AT:=mkt 0xc25500e0
def zq2d_1:AT:=mkt 0xe0bfb422f14c998278
def zq2d_2:AT:=mkt 0x125f935a9098ba01ab66b247728e0350
def zq2d_3:AT:=mkt 0x1c2de592cda4c9982a8
def zq2d_4:AT:=mkt 0x5a4b12128bf1b9cda4a70a4974234b8c191f380500
def zq2d_5:AT:=mkt 0xc25500e8
def zq2d_6:AT:=mkt 0xbf7c860d95baae2f9f1ce969803a8
def zq2d_7:AT:=mkt 0x188e6506be6b0341
def zq2d_8:AT:=mkt 0x545d622558351
def zq2d_9:AT:=mkt 0x16692d91ccfed7a708499
def QzZ:AT:=mkt 0x81ee4e07f554680ff8e1e804ac9aba063009a9
def QeM:AF:=⟨35,[.tmp 4],
 (zg zq2d_0 []
 (.seq (zg zq2d_1 [7,8]
 (zw 9
 (zg zq2d_2 [10,11,12]
 .ret)
 .skip))
 (.seq (zg zq2d_3 [13,14]
 (zw 15
 (zg zq2d_4 [16,17,18,19,20]
 .ret)
 .skip))
 (zg zq2d_5 []
 (.block 0 (.loop (.block 1 (zg zq2d_6 [21,22,23]
 (.seq (zg zq2d_7 [24]
 (zw 25
 (zg zq2d_8 [26]
 .ret)
 .skip))
 (zg zq2d_9 [27,28]
 (.reg QzZ [29,30,31,32,33,34])))))))))))⟩
abbrev Qfa:Nat:=88
def QwM:AT:=mkt 0xc25500e0
def QwL:AT:=mkt 0x394f4b8b3b69982e0
def QwK:AT:=mkt 0x13378dd17b8d272088479
def QwJ:AT:=mkt 0xc25500e0
def QwI:AT:=mkt 0x159e8699aa9919c888491
def QwH:AT:=mkt 0x1bd9d177f486945688c4b95b3835e8f86c0a45480861
def QwG:AT:=mkt 0xb88dbdb412deb5355b3a35c8751
def QwF:AT:=mkt 0xb9e378187dad22e3840732
def QwE:AT:=mkt 0xc25500e0
def QwD:AT:=mkt 0x127be400e0
def QqQ:AT:=mkt 0x8b55d6c0ce696482054698940b52
def QqP:AT:=mkt 0x127be400e0
def QqO:AT:=mkt 0x3a7bf80b1b9d8b012fc5f4097a
def QqN:AT:=mkt 0xf666fc0ea28a37b58c00792
def QqM:AT:=mkt 0x53c633d5bab26bbe35dd39e3b94009aa
def QqL:AT:=mkt 0x4122b94bab0e118af4fd68409c2
def QqK:AT:=mkt 0x448146d51fb451bba61d68409da
def QqJ:AT:=mkt 0xc2550100
def QqI:AT:=mkt 0x8d68c5b614dcf001a24bd645ba5b72013f3
def QqH:AT:=mkt 0xc2550110
def QqG:AT:=mkt 0x1a4d968544e900b1b
def QqF:AT:=mkt 0x20b03828f9bfc05ff3da3bf33001433
def QqE:AT:=mkt 0x6df76e280dffd4bb3b69f1c06e6c45f869fd3711398e9aa6dea001a63
def QqD:AT:=mkt 0xd47f7db98d2089b
def QqC:AT:=mkt 0x127be400e0
def QqB:AT:=mkt 0x1320ac1dc9e345d54053614d3a75011ab
def QqA:AT:=mke 0xd52a3c60c7020d9a4b9a209259ccc2672bc815394ad6c87f8002acc (mkt 0x291e3e81e9ef5b2362a300aae7dd818ea577ec7eb0cc08861f1c)
def Qqz:AT:=mkt 0x2a94afb5d500b54
def Qqy:AT:=mkt 0x211f9f72fc9cb6379900f5c
def Qqx:AT:=mkt 0x21bc9fae419a5a76f800f6c
def Qqw:AT:=mkt 0x3dfbfb399cc2b9fc214b5ef17850137c
def Qqv:AT:=mkt 0x4be45b7980f8ae714a58731a60e65f3ed5673c001b9c
def Qqu:AT:=mkt 0x1f2c703443a00bc4
def Qqt:AT:=mkt 0x17eae1e937cb1fc4646013d4
def Qqs:AT:=mkt 0x127be400e0
def Qqr:AT:=mkt 0x127be400e0
def Qqq:AT:=mkt 0x8a5538c124bd0db12c74ad0813ec
def Qqp:AT:=mkt 0x2c584104132ed8b36e3a4838c1c05
def Qqo:AT:=mkt 0xc2550138
def Qqn:AT:=mkt 0xc2550140
def Qqm:AT:=mkt 0x230f4470f2938a0391afe551b811bda40281d
def Qql:AT:=mkt 0xce26f21a91bf41645
def Qqk:AT:=mkt 0x1fb2a7de5e05b0b9362e533b1340285d
def Qqj:AT:=mkt 0x5c51fe35aee508351f7e9be55604ec216440a6958ecc900405cbc140348d
def Qqi:AT:=mkt 0x682c80fbc47810c5
def Qqh:AT:=mkt 0x83037bc235384e7ec630cf9eeedcb422d5
def Qqg:AT:=mke 0x39e40996057df4bc6f55a3cff99eeb759d8f5e6d226492e6bc14040f5 (mkt 0x13d3cfbeed25ddca5dddb8a17aec06b13c75b04f57563bd49b2f45)
def Qqf:AT:=mkt 0xec0a31f23cc117d
def Qqe:AT:=mkt 0x11002355042e749fb8141785
def Qqd:AT:=mkt 0x11315128b87ab42cbfa01795
def Qqc:AT:=mkt 0x99131c995819873ee403f29ff594e673bbbfb1bdfff7a637ac89f44813e0041a5
def Qqb:AT:=mkt 0x12d822d86f7546fed191fa32bb4f6e35102c4a724e03bf6
def Qqa:AT:=mkt 0x15d447a043f06181e
def Qp9:AT:=mkt 0x127be400e0
def Qp8:AT:=mkt 0x3c6fc465777ef4739ee2e2a2e
def Qp7:AT:=mkt 0x127be400e0
def Qa7:AF:=⟨200,[.tmp 4],
 (zg QwM []
 (zg QwL [20,21]
 (.seq (.block 0 (zg QwK [23,24]
 (zw 22
 (zg QwJ []
 .ret)
 (zg QwI [26,27]
 (zw 25
 (zg QwH [28,29,30,31,32]
 .ret)
 (zg QwG [34,35,36,37]
 (zw 33
 (.seq (zg QwF [38,39]
 (zw 40
 (zg QwE []
 .ret)
 .skip))
 (zg QwD []
 .ret))
 (zg QqQ [42,43,44,45]
 (zw 41
 (zg QqP []
 .ret)
 (zg QqO [47,48,49]
 (zw 46
 (.seq (zg QqN [50,51]
 (zw 52
 (zg QqM [53,54,55]
 .ret)
 .skip))
 (zg QqL [56,57,58]
 (zg QqK [59,60,61]
 (zg QqJ []
 (zg QqI [62,63,64,65,66]
 (zg QqH []
 (.seq (.block 1 (.loop (.seq (zg QqG [67,68]
 (zw 69
 .skip
 (.exit 1)))
 (.block 2 (.seq (zg QqF [70,71,72,73,74]
 (zw 75
 (zg QqE [76,77,78,79,80,81,82]
 (.seq (zg QqD [83]
 (zw 84
 (zg QqC []
 .ret)
 .skip))
 (.reg QqB [85,86,87,88])))
 .skip))
 (.seq (zg QqA [89,90,91,92,93,94,95,96,97,98,99,100,101,102,103,104]
 (zw 105
 (zg Qqz [106]
 .ret)
 .skip))
 (zg Qqy [107,108]
 (zg Qqx [109,110]
 (zg Qqw [111,112,113]
 (zw 114
 (zg Qqv [115,116,117,118,119]
 (.seq (zg Qqu [120]
 (zw 121
 (zg Qqt [122,123,124]
 .ret)
 .skip))
 (zg Qqs []
 .ret)))
 .skip))))))))))
 (zg Qqr []
 .ret))))))))
 .skip)))))))))))
 (zg Qqq [125,126,127]
 (zg Qqp [128,129,130]
 (zg Qqo []
 (zg Qqn []
 (zg Qqm [131,132,133,134,135]
 (.seq (.block 3 (.loop (.seq (zg Qql [136,137]
 (zw 138
 .skip
 (.exit 3)))
 (.block 4 (.seq (zg Qqk [139,140,141,142,143]
 (zw 144
 (zg Qqj [145,146,147,148,149,150,151]
 (.seq (zg Qqi [152]
 (zw 153
 (.exit 3)
 .skip))
 (.reg Qqh [154,155,156,157])))
 .skip))
 (.seq (zg Qqg [158,159,160,161,162,163,164,165,166,167,168,169,170,171,172,173]
 (zw 174
 (zg Qqf [175]
 .ret)
 .skip))
 (zg Qqe [176,177]
 (zg Qqd [178,179]
 (zg Qqc [180,181,182,183,184,185,186,187,188]
 (zw 189
 (zg Qqb [190,191,192,193,194]
 (.seq (zg Qqa [195]
 (zw 196
 (zg Qp9 []
 .ret)
 .skip))
 (zg Qp8 [197,198,199]
 .ret)))
 .skip))))))))))
 (zg Qp7 []
 .ret))))))))))⟩
abbrev Qe8:Nat:=89
abbrev QhT:Nat:=90
abbrev Qk8:Nat:=91
abbrev Ql0:Nat:=92
abbrev Qmt:Nat:=93
abbrev Qkw:Nat:=94
def QwC:AT:=mkt 0xc69a1e527840190
def QwB:AT:=mkt 0x176b4c6f133a80270
def QwA:AT:=mkt 0x3c6fc108
def Qwz:AT:=mkt 0x10e3a5506fd3a5780290
def Qwy:AT:=mkt 0x78ba18eac4fbeb81e0
def Qwx:AT:=mkt 0x6c39ab21a8a36511178370
def Qww:AT:=mkt 0x59ed5063bb4d2c200
def Qwv:AT:=mkt 0x122a87f201ad8c03c887707d63143b4d741f3d528e05d0
def Xe:AF:=⟨22,[.tmp 2,.tmp 3],
 (zg QwC []
 (.seq (zg QwB []
 (.block 0 (.loop (zg QwA []
 (.seq (zw 9
 .skip
 (.exit 0))
 (.seq (.block 1 (zg Qwz [10,11]
 (.seq (zg Qwy [12]
 (zw 13
 (zg Qwx [14,15]
 .ret)
 .skip))
 (.exit 0))))
 (.reg Qww [16])))))))
 (zg Qwv [18,19,17,20,21]
 .ret)))⟩
abbrev Y0:Nat:=95
def Qwu:AT:=mkt 0x2f2b00e0
def Qwt:AT:=mkt 0xd5c340b6af1444dad55c0400
def Qws:AT:=mkt 0x1237adf8ebe10dd16bfdc0420
def Qwr:AT:=mke 0x2ece148605b6081106fcf219a704d9a59043e1b48d01 (mkt 0x445198b4027437390519cf9ad5e1afa1f4a2fa9aae991)
def Qwq:AT:=mkt 0x5332b581b85c7c6f55f35c51960560194f6eaa0c89c9
def Qwp:AT:=mkt 0x3987ea15c0794f13cf34200b3a
def Qwo:AT:=mkt 0x232b1e2e96bb5d0f47d04033232d7471d355be630ee13dc2b22ff24d584a9ea5c195a
def Qwn:AT:=mkt 0x29ab7deadebb73366b7895b400a611dc0bba
def Qwm:AT:=mkt 0x2f2b00e0
def Q6:AF:=⟨59,[.tmp 4],
 (zg Qwu []
 (zg Qwt [8,9,10,11]
 (.seq (zg Qws [12,13,14,15]
 (zg Qwr [16,17,18,19,20,21,22,23,24,25,26,27,28,29,30,31]
 (zw 32
 (zg Qwq [33,34,35,36,37,38]
 .ret)
 .skip)))
 (zg Qwp [39,40,41,42]
 (.seq (zg Qwo [43,44,45,46,47,48,49,50,51,52,53]
 (zw 54
 (zg Qwn [55,56,57,58]
 .ret)
 .skip))
 (zg Qwm []
 .ret))))))⟩
abbrev YQ:Nat:=96
def Qwl:AT:=mkt 0x2f2b00e0
def Qwk:AT:=mkt 0xa2c25cbc9475fd7528de6da0fcbc969803e8
def QC:AF:=⟨9,[.tmp 4],
 (zg Qwl []
 (zg Qwk [5,6,7,8]
 .ret))⟩
abbrev X2:Nat:=97
def Qwj:AT:=mkt 0x2f2b00d8
def Qwi:AT:=mkt 0x3e78281bd52ff90474eda843e0
def Xt:AF:=⟨8,[.tmp 3],
 (zg Qwj []
 (zg Qwi [4,5,6,7]
 .ret))⟩
abbrev Zr:Nat:=98
abbrev Qe5:Nat:=99
abbrev Qg3:Nat:=100
abbrev Qe6:Nat:=101
abbrev QfS:Nat:=102
abbrev QfI:Nat:=103
abbrev Qdi:Nat:=104
abbrev QeS:Nat:=105
abbrev QgM:Nat:=106
abbrev QoF:Nat:=107
abbrev QoE:Nat:=108
abbrev Ql1:Nat:=109
abbrev Qjh:Nat:=110
abbrev Qg5:Nat:=111
abbrev QfV:Nat:=112
abbrev QgN:Nat:=113
abbrev Qjg:Nat:=114
def zq34_0:AT:=mkt 0xc25500e0
def zq34_1:AT:=mkt 0x3a4b8818280017c4159ee96980328
def bytes_IndexByte:AF:=⟨8,[.tmp 4],
 (zg zq34_0 []
 (zg zq34_1 [5,6,7]
 .ret))⟩
abbrev Qb2:Nat:=116
abbrev Qis:Nat:=118
abbrev QdV:Nat:=119
abbrev Qg8:Nat:=120
abbrev Qg4:Nat:=121
abbrev QyJ:Nat:=122
def Qwh:AT:=mkt 0xc69a1e527840190
def Qwg:AT:=mkt 0x26354aeff9da802a8
def Qwf:AT:=mkt 0x777d14d04a01f8
def Qwe:AT:=mkt 0xc69a4f2d9b059840190
def Qwd:AT:=mkt 0x773b82be3857b6b0af9800388
def Qwc:AT:=mkt 0x1141e9ef18970e5e61a89fa893f83a0
def Qwb:AT:=mkt 0x3d52247b8ac5f530339
def Qwa:AT:=mkt 0x29b8709d8a4c51a419a4e4c44cbe94f0709
def Qv9:AT:=mkt 0x7387bbac9b0885c9e17c15050df5d88aeff5e3341fb9646512cd7c6a2a6ee800ea9
def Qv8:AT:=mkt 0x17dd7989c48f9484d7020780932
def Qp6:AT:=mkt 0xfe5711f0c0499b233d451783f324f77317208b66dce5b89780d4a
def Qp5:AT:=mkt 0x7f4104496e10076a
def Qp4:AT:=mkt 0x18f220a2d9b059840190
def Qp3:AT:=mkt 0x38273bdae7afa49ba61d4000982
def Qp2:AT:=mkt 0x267ba61bbb6c9f94eb9e6303fdbba1f7dbec14d151b25db2b3588159a
def Qp1:AT:=mkt 0x18f220a2d9b059840190
def Qp0:AT:=mkt 0xc0eaea43b4005ea
def QpZ:AT:=mkt 0x6cc174b168e7b38feb6eaea3d7b7826337f9bbe03ffacd23bce21db27cea97e79ee1ffb
def QpY:AT:=mkt 0x196afc51f3c035007f1d9e000e3b
def QpX:AT:=mkt 0x1a67e67fdbce3d0bfbb0056aefe9bc82eeb4eaf71844ec3921453
def QpW:AT:=mkt 0x18f220a2d9b059840190
def QpV:AT:=mkt 0x353029b019e00883
def QpU:AT:=mke 0x453c1cb273f481ac07aa9fc0108e8e7ec45f53ae700e2551ee413178dcb242879ee2093 (mkt 0xfa3bb2e8851ebef7c4cedd83aeb6651c53a111e3)
def QpT:AT:=mkt 0x69a7fe016de8303a59e0a80012fc
def QpS:AT:=mkt 0x1539d7475fea879a7aa45ce4edba98c33afecfc420a0125b201b14
def QpR:AT:=mkt 0x18f220a2d9b059840190
def QpQ:AT:=mke 0x29b3e16ba4a348517910d607d1480a2481f13cfa4fa916c8a829cadc15f35c05b3e82b44 (mkt 0x99f409d9c7144f4556ce9f1b104ba53a285956f963ecd37195ac60e4f7d7dfaff43c6b1b2c2b94)
def QJ:AF:=⟨122,[.tmp 2,.tmp 3],
 (zg Qwh []
 (zg Qwg [13,14]
 (.seq (zg Qwf [15]
 (zw 16
 (zg Qwe []
 .ret)
 .skip))
 (zg Qwd [17,18,19]
 (zg Qwc [20,21,22]
 (.seq (zg Qwb [23]
 (zw 24
 (zg Qwa [25,26,27,28]
 (zg Qv9 [29,30,31,32,33,34,35,36,37]
 .ret))
 .skip))
 (zg Qv8 [38,39,40]
 (zg Qp6 [41,42,43,44]
 (.seq (zg Qp5 [45,46]
 (zw 47
 (zg Qp4 []
 .ret)
 .skip))
 (zg Qp3 [48,49,50]
 (.seq (zg Qp2 [51,52,53,54,55,56,57,58,59]
 (zw 60
 (zg Qp1 []
 .ret)
 .skip))
 (.seq (zg Qp0 [61]
 (zw 62
 (zg QpZ [63,64,65,66,67,68,69,70]
 .ret)
 .skip))
 (zg QpY [71,72,73]
 (.seq (zg QpX [74,75,76,77,78]
 (zw 79
 (zg QpW []
 .ret)
 .skip))
 (.seq (zg QpV [80]
 (zw 81
 (zg QpU [82,83,84,85,86,87,88,89,90,91,92,93,94]
 .ret)
 .skip))
 (zg QpT [95,96,97]
 (.seq (zg QpS [98,99,100,101,102]
 (zw 103
 (zg QpR []
 .ret)
 .skip))
 (zg QpQ [104,105,106,107,108,109,110,111,112,113,114,115,116,117,118,119,120,121]
 .ret))))))))))))))))))⟩
abbrev Ym:Nat:=123
def Qv7:AT:=mkt 0x2f2b00e0
def Qv6:AT:=mkt 0x25577b5b70c46e09010da07a2ef451d739a9bf6dd5ba80598
def Qv5:AT:=mkt 0x176b4c6f133a802d0
def Qv4:AT:=mkt 0x3c6fc168
def Qv3:AT:=mkt 0xfe9278b90230
def Qv2:AT:=mkt 0x5ec14351aa417eb46805b9
def Qv1:AT:=mkt 0x9a5ba3d387213e92c1447a4828851
def Qv0:AT:=mkt 0x2f2b00e0
def QvZ:AT:=mkt 0xbcded6359c870e1108eb500828881
def QvY:AT:=mke 0xf8bad879c7d5face724df64f14c04362a4746e4b49381532 (mkt 0x4c199a7dff36c22772b537f5b9cfdbaaaa6ca1252480aa08afddf8d5d1582)
def QpP:AT:=mkt 0x3952fe0bfc1ce4205ca
def QpO:AT:=mkt 0x2f2b00e0
def QpN:AT:=mkt 0xc25500f8
def QpM:AT:=mkt 0xb59feffb41c8c007d2
def QpL:AT:=mkt 0x7f410449759c07e2
def QpK:AT:=mkt 0x225c4a80b86d83b0d42933e66f2fde82826a16fb
def QpJ:AT:=mkt 0x20f6439977204cd0d5600e2b
def QpI:AT:=mkt 0x167b5d67185d3ed6e084591aa49cc9b31471a82ef91c3ce8c787808a49ce0addec2c43
def QpH:AT:=mke 0x73397c57ad4acf4509bf19c2a571e58cf1eb268bb42e902ab4 (mkt 0x101e90d82bf446e2568840d51e7da131024910ac3aa9681d2a96ed7e35fa2b04)
def QpG:AT:=mkt 0x48ba1e9589d34f2b3c289b54e081b4c
def QpF:AT:=mkt 0x2c96efac9580b7c
def QpE:AT:=mkt 0x22a826daf2176c974880f84
def QpD:AT:=mkt 0x2f2b00e0
def Z2:AF:=⟨114,[.tmp 4],
 (zg Qv7 []
 (.seq (zg Qv6 [11,12,13,14,15,16]
 (zw 17
 (.seq (zg Qv5 [18]
 (.block 0 (.loop (zg Qv4 []
 (.seq (zw 21
 .skip
 (.exit 0))
 (.seq (.block 1 (zg Qv3 [22]
 (zg Qv2 [23,24,25]
 (.seq (zg Qv1 [26,27,28,29,30]
 (zw 31
 (zg Qv0 []
 .ret)
 .skip))
 (zg QvZ [32,33,34,35,36]
 (zw 37
 (zg QvY [38,39,40,41,42,43,44,45,46,47,48,49,50,51,52,53,54,55,56]
 .ret)
 .skip))))))
 (.reg QpP [57])))))))
 (zg QpO []
 .ret))
 .skip))
 (zg QpN []
 (zg QpM [58,59]
 (.seq (.block 2 (.loop (.seq (zg QpL [60,61]
 (zw 62
 .skip
 (.exit 2)))
 (.block 3 (zg QpK [63,64,65,66,67,68]
 (zg QpJ [69,70,71]
 (.seq (zg QpI [72,73,74,75,76,77,78,79,80,81,82,83,84]
 (zw 85
 (zg QpH [86,87,88,89,90,91,92,93,94,95,96,97,98,99,100,101,102,103,104]
 .ret)
 .skip))
 (zg QpG [105,106,107,108,109]
 (zw 110
 (.reg QpF [111])
 (.reg QpE [112,113]))))))))))
 (zg QpD []
 .ret))))))⟩
abbrev Qev:Nat:=124
abbrev Qtq:Nat:=125
def QvX:AT:=mkt 0xc25500e0
def QvW:AT:=mkt 0x176b4c6f133a80270
def QvV:AT:=mkt 0x3c6fc108
def QvU:AT:=mkt 0x73be4e6701d0
def QvT:AT:=mkt 0x111ea2ae7f5c4be1ea4b4d9047184d8
def QvS:AT:=mkt 0xc4b7598e8208
def QvR:AT:=mkt 0x6529ab46034d2c210
def QvQ:AT:=mkt 0x127be400e0
def QG:AF:=⟨19,[.tmp 4],
 (zg QvX []
 (.seq (zg QvW [6]
 (.block 0 (.loop (zg QvV []
 (.seq (zw 9
 .skip
 (.exit 0))
 (.seq (.block 1 (zg QvU [10]
 (zg QvT [11,12,13,14,15]
 (zw 16
 (zg QvS [17]
 .ret)
 .skip))))
 (.reg QvR [18])))))))
 (zg QvQ []
 .ret)))⟩
abbrev X9:Nat:=126
abbrev Qg2:Nat:=127
abbrev QjW:Nat:=128
abbrev Qkx:Nat:=129
abbrev QeT:Nat:=130
abbrev Qir:Nat:=131
abbrev Qg6:Nat:=132
abbrev Qg7:Nat:=133
abbrev QfU:Nat:=134
abbrev Qiv:Nat:=135
abbrev QfH:Nat:=136
abbrev QfW:Nat:=138
abbrev Qji:Nat:=139
abbrev QfT:Nat:=140
abbrev Qiq:Nat:=141
abbrev QhS:Nat:=142
abbrev QhR:Nat:=143
abbrev Qo9:Nat:=180
def tab:Nat→Option AF
 | 3=>some Q1
 | 4=>some QU
 | 5=>some XV
 | 6=>some XF
 | 7=>some Qca
 | 8=>some XT
 | 9=>some XG
 | 10=>some Qcb
 | 11=>some XK
 | 12=>some XU
 | 13=>some QV
 | 14=>some QT
 | 15=>some QA
 | 16=>some Qaa
 | 17=>some Qac
 | 18=>some Z9
 | 19=>some Y5
 | 20=>some Xs
 | 22=>some strconv_Itoa
 | 23=>some XA
 | 26=>some XC
 | 27=>some bytes_Split
 | 28=>some strconv_Atoi
 | 29=>some Qad
 | 30=>some bytes_Equal
 | 31=>some Xo
 | 32=>some XE
 | 33=>some Xl
 | 34=>some Qab
 | 35=>some XD
 | 36=>some Zw
 | 37=>some Xr
 | 38=>some XB
 | 39=>some XI
 | 40=>some XL
 | 41=>some Xq
 | 42=>some Yd
 | 46=>some Qb9
 | 47=>some YB
 | 48=>some YH
 | 49=>some YK
 | 50=>some Q0
 | 51=>some YJ
 | 52=>some Yy
 | 53=>some YI
 | 55=>some Xg
 | 56=>some Xn
 | 57=>some X6
 | 61=>some XR
 | 62=>some bytes_genSplit
 | 65=>some Yt
 | 66=>some unicode_IsSpace
 | 67=>some XS
 | 68=>some Xp
 | 69=>some X5
 | 70=>some YL
 | 71=>some XY
 | 72=>some Ys
 | 73=>some Yr
 | 74=>some Yq
 | 78=>some Qv
 | 79=>some Qz
 | 80=>some XX
 | 81=>some Xz
 | 82=>some Y9
 | 88=>some QeM
 | 89=>some Qa7
 | 95=>some Xe
 | 96=>some Q6
 | 97=>some QC
 | 98=>some Xt
 | 116=>some bytes_IndexByte
 | 123=>some QJ
 | 124=>some Z2
 | 126=>some QG
 | _=>none
theorem Qy:tab QL=some Q1:=rfl
theorem QaB:tab YD=some QU:=rfl
theorem Xy:tab Qay=some XV:=rfl
theorem Qm:tab ZN=some XF:=rfl
theorem XP:tab Zg=some Qca:=rfl
theorem QW:tab YU=some XT:=rfl
theorem QZ:tab ZO=some XG:=rfl
theorem Qbl:tab QgF=some Qcb:=rfl
theorem Xm:tab YG=some XK:=rfl
theorem YT:tab Qax=some XU:=rfl
theorem QF:tab QH=some QV:=rfl
theorem Xb:tab Xc=some QT:=rfl
theorem Yj:tab Xw=some QA:=rfl
theorem QN:tab ZZ=some Qaa:=rfl
theorem YZ:tab Z0=some Qac:=rfl
theorem ZY:tab Y3=some Z9:=rfl
theorem Yk:tab Qai=some Y5:=rfl
theorem Qu:tab Ye=some Xs:=rfl
theorem Yv:tab QbB=some strconv_Itoa:=rfl
theorem QY:tab ZJ=some XA:=rfl
theorem QE:tab ZK=some XC:=rfl
theorem Qci:tab Qe7=some bytes_Split:=rfl
theorem Qer:tab Y1=some strconv_Atoi:=rfl
theorem Qes:tab Qew=some Qad:=rfl
theorem QeW:tab Qe9=some bytes_Equal:=rfl
theorem Yb:tab Zo=some Xo:=rfl
theorem Yz:tab ZM=some XE:=rfl
theorem Zd:tab Zf=some Xl:=rfl
theorem YY:tab QbC=some Qab:=rfl
theorem ZH:tab ZL=some XD:=rfl
theorem QaU:tab Qdu=some Zw:=rfl
theorem Zj:tab Zq=some Xr:=rfl
theorem ZG:tab YC=some XB:=rfl
theorem Yc:tab QaV=some XI:=rfl
theorem QB:tab Q9=some XL:=rfl
theorem Qq:tab QP=some Xq:=rfl
theorem YX:tab X0=some Yd:=rfl
theorem QgB:tab QgE=some Qb9:=rfl
theorem QbO:tab Ze=some YB:=rfl
theorem Q7:tab QbW=some YH:=rfl
theorem QbR:tab QbZ=some YK:=rfl
theorem QK:tab Xi=some Q0:=rfl
theorem QbQ:tab QbY=some YJ:=rfl
theorem QcN:tab Qah=some Yy:=rfl
theorem QbP:tab ZT=some YI:=rfl
theorem Ql:tab Y2=some Xg:=rfl
theorem Zi:tab Zn=some Xn:=rfl
theorem QaT:tab Za=some X6:=rfl
theorem Xx:tab Qav=some XR:=rfl
theorem QcO:tab QcQ=some bytes_genSplit:=rfl
theorem Qbp:tab Qbu=some Yt:=rfl
theorem QbN:tab Q8=some unicode_IsSpace:=rfl
theorem Qk:tab Qaw=some XS:=rfl
theorem Xf:tab Zp=some Xp:=rfl
theorem QaS:tab QaW=some X5:=rfl
theorem QbS:tab Qb0=some YL:=rfl
theorem Qau:tab QaA=some XY:=rfl
theorem Qbo:tab Qbt=some Ys:=rfl
theorem Qbn:tab Qbs=some Yr:=rfl
theorem Qbm:tab Zs=some Yq:=rfl
theorem Q3:tab Xv=some Qv:=rfl
theorem QS:tab XN=some Qz:=rfl
theorem Qat:tab Qaz=some XX:=rfl
theorem ZF:tab ZI=some Xz:=rfl
theorem Qdl:tab Z5=some Y9:=rfl
theorem QjO:tab Qfa=some QeM:=rfl
theorem QeV:tab Qe8=some Qa7:=rfl
theorem YW:tab Y0=some Xe:=rfl
theorem YP:tab YQ=some Q6:=rfl
theorem X1:tab X2=some QC:=rfl
theorem Zk:tab Zr=some Xt:=rfl
theorem QfM:tab Qb2=some bytes_IndexByte:=rfl
theorem Yi:tab Ym=some QJ:=rfl
theorem Qeq:tab Qev=some Z2:=rfl
theorem X8:tab X9=some QG:=rfl
abbrev wa:AC:=.seq (zg Qot [16,17,18] (zw 19 .skip (.exit 0))) (.seq (.block 1 (zg Qos [22,23,24,25,26,27,28,29,30,31,32] (zw 33 (zg Qor [34,35,36,37,38,39,40,41] (.reg Qoq [42,43])) .skip))) (.reg Qop [20,21]))
abbrev wd:AC:=.seq (zg Qru [31,32,33] (zw 34 .skip (.exit 0))) (.seq (.block 1 (zg Qrt [37,38,39] (zg Qrs [40,41,42,43,44,45,46,47,48] (zg Qrr [49,50,51,52,53,54,55,56,57,58,59] (zw 60 (zg QkS [] .ret) .skip))))) (.reg QkR [35,36]))
abbrev we:AC:=.seq (zg Qhz [65] (zw 66 .skip (.exit 4))) (.seq (.block 5 (zg Qhy [69,70,71,72,73,74,75,76,77,78,79,80,81,82,83,84] (zg Qhx [85,86,87,88,89,90,91,92,93,94,95,96,97,98,99,100,101,102,103,104,105,106,107,108,109,110,111,112,113,114,115,116,117,118,119,120,121,122,123,124,125,126] (zw 127 (zg Qhw [] .ret) .skip)))) (.reg Qhv [67,68]))
abbrev wg:AC:=.seq (zg QkQ [61] (zw 62 .skip (.exit 2))) (.seq (.block 3 (zg QkP [] (.block 4 (.loop (.seq (zg Qhz [65] (zw 66 .skip (.exit 4))) (.seq (.block 5 (zg Qhy [69,70,71,72,73,74,75,76,77,78,79,80,81,82,83,84] (zg Qhx [85,86,87,88,89,90,91,92,93,94,95,96,97,98,99,100,101,102,103,104,105,106,107,108,109,110,111,112,113,114,115,116,117,118,119,120,121,122,123,124,125,126] (zw 127 (zg Qhw [] .ret) .skip)))) (.reg Qhv [67,68]))))))) (.reg QkO [63,64]))
abbrev wh:AC:=.seq (zg Qpq [13,14,15] (zw 16 .skip (.exit 0))) (.seq (.block 1 (zg Qpp [19,20,21,22] (zg Qpo [23,24,25] (zg Qpn [26,27,28,29] (zg Qpm [30,31,32,33,34,35] (.reg QkJ [36])))))) (.reg QkI [17,18]))
abbrev wi:AC:=zg Qhu [] (.seq (zw 52 .skip (.exit 2)) (.seq (.block 3 (zg Qht [53,54] (zg Qhs [56,57,58,55,59,60] (.seq (zg Qhr [61] (zw 62 (.reg Qhq [63]) .skip)) (.reg Qhp [64,65,66,67]))))) (.reg Qho [68])))
end Go.Proofs.YtingdebioipemaaGreatDoor
