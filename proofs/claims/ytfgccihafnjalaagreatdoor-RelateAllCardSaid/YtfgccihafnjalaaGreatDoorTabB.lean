/- The translations of the functions, by a program of mine. -/
import Derived.Test.YtfgccihafnjalaaGreatDoorTabA
namespace Go.Proofs.YtfgccihafnjalaaGreatDoor
open Go Go.Am
set_option maxRecDepth 100000
set_option maxHeartbeats 4000000
def zq1m_0:AT:=mkt 0xbd518b180180f3fef094fbbe67e4deb3eb8769f3c8b250
def zq1m_1:AT:=mkt 0x16a15f0f52860dd26bf12050e8080d098bcd30125f6e5b09fc688
def zq1m_2:AT:=mkt 0x306006893462015ef2d8524690e150db951120422f9efd4417b4f96921299fd121e3406f524e7c3e1edb897a23a601fd11a4b63743b01da30a4fb1
def zq1m_3:AT:=mkt 0x5196bc03d389
def zq1m_4:AT:=mkt 0x28db2ae8d7e0d4adbc564852382c022d17b15c7479bbab628154e1312
def zq1m_5:AT:=mkt 0xa12a035a
def zq1m_6:AT:=mkt 0x8a36010298e1197f4f5968bcfda80b62
def zq1m_7:AT:=mkt 0x416e4062e884bae28a7d2bf6b1e6ee4a2d1128f31a8bf06fa688414322bb1355bc1182
def zq1m_8:AT:=mkt 0x403412ccf5405a2
def zq1m_9:AT:=mkt 0x29c80297c1354fd773404b06f45291a919f01240bb2
def QHq:AT:=mkt 0xc24a8ef4905abf17b09145ed83f89b7dac0ee2b848d7d92be46b3b8d0107af8820e10dd5dcaec480aab28c50143028cb
def QHp:AT:=mkt 0x1583e9758100962f082b
def QHo:AT:=mkt 0x3dfbbd0b77445b8a3a5e0d7304e51c9978ef73797d9be9e5a0469eb968d2df328c5014302933
def QHn:AT:=mkt 0x212c3afa1eba2845db5cf1f05d8a1601793
def QHm:AT:=mkt 0xf1bf05cb
def QHl:AT:=mkt 0xf54b77263c08d3
def QHk:AT:=mkt 0x6c974bca3ef2441cfd8c3360edb
def QHj:AT:=mkt 0x115029ea37f22bb00d2b5b7f117d9bfc5a34518d13441e6603e423cb4ea76d3a6293dc081afc
def QHi:AT:=mkt 0x474442fd8dc0e84b81de11aa71f140131c
def QHh:AT:=mkt 0x1f2c3cc950b80b34
def QHg:AT:=mkt 0x161df014a06ed3cd2801870378352eec17ff14c8aa4e8542423cb4ea76d3a6293dc081f44
def QHf:AT:=mkt 0x6a533ec8c7beace40b6c
def QHe:AT:=mkt 0x40b649d5942c55f37dc2948188cc06ae1cc4a1981e735cfa94230402b74
def QHd:AT:=mkt 0x5325dfb74f9826c2e403ef05a9363a5a05b0801fbc
def Qfc:AF:=⟨124,[.cell 4 true 5,.cell 5 true 3],
 (zg zq1m_0 []
 (zg zq1m_1 [17,18,19,16,20,21]
 (zg zq1m_2 [22,23,24,25,26,27,28,29,30,31,32]
 (zg zq1m_3 [33]
 (.seq (zg zq1m_4 [34,35,36,37,38,39]
 (.block 0 (.loop (zg zq1m_5 []
 (.seq (zw 43
 .skip
 (.exit 0))
 (.seq (.block 1 (zg zq1m_6 [44,45,46]
 (zg zq1m_7 [48,49,47,50,51]
 (.seq (zg zq1m_8 [52]
 (zw 53
 (.reg zq1m_9 [54,55,56])
 .skip))
 (.reg QHq [57,58,59,60,61,62,63,64,65,66,67,68])))))
 (.reg QHp [69])))))))
 (zg QHo [70,71,72,73,74,75,76,77,78,79,80,81]
 (.seq (zg QHn [82,83,84,85,86]
 (.block 2 (.loop (zg QHm []
 (.seq (zw 89
 .skip
 (.exit 2))
 (.seq (.block 3 (zg QHl [90]
 (.seq (zg QHk [91,92,93]
 (zw 94
 (zg QHj [95,96,97,98]
 .ret)
 .skip))
 (zg QHi [99,100,101]
 (zg QHh [102]
 (zw 103
 (zg QHg [104,105,106,107,108]
 .ret)
 .skip))))))
 (.reg QHf [109])))))))
 (zg QHe [110,111,112,113,114,115,116,117,118]
 (zg QHd [119,120,121,122,123]
 .ret)))))))))⟩
abbrev Qnq:Nat:=61
def QDK:AT:=mkt 0x5dad31c1d48af024c388b248
def QDJ:AT:=mkt 0x14ca6c9afd595ec65f3dc84f822e55e91469d8746c3499b63a54dd0a769ea7fc38fb5b62186480dd14fa4700
def QDI:AT:=mkt 0x1293b5e000f0
def QDH:AT:=mke 0x6136e991795d2bf2c62fa6bf25af1c259316c08a03ce2a00074146a (mke 0xf9d955b522efbe7e70d2928f76c28c263ec2b7774d605798531cdfd514ba (mke 0x14a859bf39d2bd901e5c138714970dcd11a0d56de6d21b11b9fd36061150a (mkt 0x105af4b06fb5ea5c3225a7ecea1a8a3cbd4bd83735d29f4eada7877566e4906d758f710822cd929ec89e0ed1d5a)))
def QDG:AT:=mkt 0x13c4428509a99f140190
def QDF:AT:=mkt 0x1bdad9db06f32295e6719e109cb97d4e7a846460dca
def QDE:AT:=mkt 0x13f66473c9a99f140190
def QDD:AT:=mke 0x792078244115a21e5d5211d147cfb72ea9e6ed3a47d1fd8a29f991ffb (mke 0x4dc699c68f7b95685233cad9613d4071ce77b32a06875ca17fdef9c204b (mkt 0x89f6c36bc7237db39c4fb164521b5414a19c482dc6875894ce3707676dc4e0fcbc815a264672993c408d1bc2b1c6c68c06107a9691d9b))
def Qc1:AF:=⟨90,[.tmp 2,.tmp 3],
 (zg QDK []
 (zg QDJ [8,9,10,7,11,12]
 (zg QDI []
 (.seq (zg QDH [13,14,15,16,17,18,19,20,21,22,23,24,25,26,27,28,29,30,31,32,33,34,35,36,37,38,39,40,41,42,43,44,45,46,47,48,49,50,51,52,53,54,55]
 (zw 56
 (zg QDG []
 .ret)
 .skip))
 (.seq (zg QDF [57,58,59,60,61]
 (zw 62
 (zg QDE []
 .ret)
 .skip))
 (zg QDD [63,64,65,66,67,68,69,70,71,72,73,74,75,76,77,78,79,80,81,82,83,84,85,86,87,88,89]
 .ret))))))⟩
abbrev QgT:Nat:=62
def QDC:AT:=mkt 0x2f2b00d0
def QDB:AT:=mkt 0x987715a610cb4eade1a41fd62ce008a0dd0a0f96c3f741d6ba869f3ac19022c0858
def Qc3:AF:=⟨13,[.tmp 2],
 (zg QDC []
 (zg QDB [3,4,5,6,7,8,9,10,11,12]
 .ret))⟩
abbrev QjN:Nat:=63
def QDA:AT:=mkt 0x163f8fcf362c8b198
def QDz:AT:=mkt 0x2c32471e5103934dce96b5504ed7b1bd896d28ee0f988c328
def QDy:AT:=mkt 0x2f2b00e0
def QDx:AT:=mkt 0xbb207f3a41c8
def QDw:AT:=mkt 0xa614f0c1effaec1e0
def QDv:AT:=mkt 0x47b200e0
def QDu:AT:=mkt 0x13adddf6f40360241f0
def QDt:AT:=mkt 0xaa050a32bebd5b80ac802bc378
def QDs:AT:=mkt 0x1ab537ad3aa19024218
def QDr:AT:=mke 0x134affda155a58b7b69977685679483f4ff9991eb685407e917efd9e4d21 (mkt 0x807139dd7e09d9927abc6f394122b7866f8ee8e731)
def QwU:AT:=mkt 0x1647ffb3b57422c3c399
def QwT:AT:=mke 0xb6114d7576366c4ae9b0ac4a842b00542391ff2b89a89181e51563c9fad21522 (mkt 0x81603b80108407eda368fc7ae591c42720d71de7dd309952aae192404ee0ee3dfe94fcb07143c7b0eb1772)
def QwS:AT:=mkt 0x2f2b00e0
def Zf:AF:=⟨56,[.tmp 4],
 (zg QDA []
 (.seq (zg QDz [5,6,7]
 (zw 8
 (zg QDy []
 .ret)
 .skip))
 (.seq (zg QDx [9]
 (.block 0 (zg QDw [12]
 (zw 11
 (zg QDv []
 .ret)
 (zg QDu [14]
 (zw 13
 (zg QDt [15,16,17]
 .ret)
 (zg QDs [19]
 (zw 18
 (zg QDr [20,21,22,23,24,25,26,27,28,29,30,31,32,33]
 .ret)
 (zg QwU [35]
 (zw 34
 (zg QwT [36,37,38,39,40,41,42,43,44,45,46,47,48,49,50,51,52,53,54,55]
 .ret)
 .skip))))))))))
 (zg QwS []
 .ret))))⟩
abbrev Qd5:Nat:=64
def QDq:AT:=mkt 0xa708b9f603362c8b198
def QDp:AT:=mkt 0x1cd4a01bd7c8333cbd202fc0de802bc340
def QDo:AT:=mkt 0xbb207f3a41d8
def QDn:AT:=mkt 0xc1c39cbb7ffaec1f0
def QDm:AT:=mkt 0xad995e7981f8
def QDl:AT:=mkt 0x17e57a29f8f963b4208
def QDk:AT:=mkt 0x21930572b3c9067a6920e682d0
def QDj:AT:=mkt 0x1d84f524934793b4228
def QDi:AT:=mkt 0x1e4e40a47103b565069cae709fb6c43dc8a5a872c35e82a8c959ec9b9408f3380071ce4083a5cf7bce9c3c4c97c08acff30cfb1
def QDh:AT:=mkt 0x6226a3cb9bf55cf69d9e5db340e67403d75e16f4e80cec2ecfb15dcf4b10fda5a326f9f47c5c45f3fbf124190a
def QcV:AF:=⟨44,[.tmp 6],
 (zg QDq []
 (zg QDp [8,9,10]
 (.seq (zg QDo [11]
 (.block 0 (zg QDn [14]
 (zw 13
 (zg QDm [15]
 .ret)
 (zg QDl [17]
 (zw 16
 (zg QDk [18,19]
 .ret)
 (zg QDj [21]
 (zw 20
 (zg QDi [22,23,24,25,26,27,28,29,30,31,32]
 .ret)
 .skip))))))))
 (zg QDh [33,34,35,36,37,38,39,40,41,42,43]
 .ret))))⟩
abbrev QjI:Nat:=65
def QDg:AT:=mkt 0x2d62e2c3362c8b188
def QDf:AT:=mkt 0x7329dfa4198
def QDe:AT:=mkt 0x5308edbfcaeaec1b0
def QDd:AT:=mkt 0x8b04ea26d32c5dcc92da2e35669619b1c338
def QDc:AT:=mkt 0xf7641dbc11db5741d8
def QDb:AT:=mkt 0xd9c618e35db4de3df7fd2a8492fbddb4c7311750deb18c044e0
def QDa:AT:=mkt 0x603900d0
def QcW:AF:=⟨17,[.tmp 2],
 (zg QDg []
 (.seq (zg QDf [3]
 (.block 0 (zg QDe [6]
 (zw 5
 (zg QDd [7,8,9]
 .ret)
 (zg QDc [11]
 (zw 10
 (zg QDb [12,13,14,15,16]
 .ret)
 .skip))))))
 (zg QDa []
 .ret)))⟩
abbrev QjJ:Nat:=66
def QC9:AT:=mkt 0x2f2b00e0
def QC8:AT:=mkt 0xc25500e8
def QC7:AT:=mkt 0x1482961edee2acd378330
def QC6:AT:=mkt 0x25b92900da6b2c6d66a137c1804e0
def QC5:AT:=mkt 0x47b200e0
def QC4:AT:=mkt 0x1370b2bb0061cb638290
def QC3:AT:=mkt 0x2f2b00e0
def XN:AF:=⟨18,[.tmp 4],
 (zg QC9 []
 (.seq (zg QC8 []
 (.block 0 (.loop (.seq (zg QC7 [6,7,8]
 (zw 9
 .skip
 (.exit 0)))
 (.seq (.block 1 (zg QC6 [12,13,14,15,16]
 (zw 17
 (zg QC5 []
 .ret)
 .skip)))
 (.reg QC4 [10,11]))))))
 (zg QC3 []
 .ret)))⟩
abbrev Qba:Nat:=67
def QC2:AT:=mkt 0x2f2b00e0
def QC1:AT:=mke 0x1901c0897bcea951d823684ab259e154d27ddf33a03ea46007a8 (mkt 0x73ed62f12e3a0d322afd5479c4302fa4e4f8)
def Zz:AF:=⟨20,[.tmp 4],
 (zg QC2 []
 (zg QC1 [5,6,7,8,9,10,11,12,13,14,15,16,17,18,19]
 .ret))⟩
abbrev Qfh:Nat:=68
abbrev Qee:Nat:=69
abbrev Qgx:Nat:=70
abbrev Qef:Nat:=71
abbrev Qfi:Nat:=72
abbrev QeI:Nat:=73
abbrev Qcq:Nat:=74
abbrev Qd6:Nat:=75
abbrev Qga:Nat:=76
def zq22_0:AT:=mkt 0xc25500d0
def zq22_1:AT:=mkt 0xefb3227adebca65c0198
def zq22_2:AT:=mkt 0x2a65d1b776d2ffd540268
def zq22_3:AT:=mkt 0xc44ea400d0
def zq22_4:AT:=mkt 0xf093739bc68e5c01b8
def zq22_5:AT:=mkt 0x46a9a4794f77f3d540288
def zq22_6:AT:=mkt 0x1533b70e9b5f930f0298
def zq22_7:AT:=mkt 0x42818ac09f05d14d2e9e88af03ffffffffffffffffffffffffffffffffffffffffffffffffffffffffffffffffffffffffffffffffffffffffffffffffffffffffffffffffffffffffffffffffffffffffffffffffffffffffffffffffffffffffffffffffffffffb659da6b7b7fffffffffffffffffffffffffffffffffffffffffffffffffffffffffffffffffffffffffffffffffffffb659da6b7b7fffffffffffffffffffffffffffffffffffffb659da6b7b7fffffffffffffb659da6b7b7fb659da21d0adb1c9e9b1bd996158f36305a8
def QbL:AF:=⟨19,[.tmp 2],
 (zg zq22_0 []
 (.seq (zg zq22_1 [3]
 (zw 4
 (zg zq22_2 [5,6]
 (.reg zq22_3 []))
 .skip))
 (.seq (zg zq22_4 [7]
 (zw 8
 (zg zq22_5 [9,10]
 (.reg zq22_6 [11,12]))
 .skip))
 (zg zq22_7 [13,14,15,16,17,18]
 .ret))))⟩
abbrev QiF:Nat:=77
def zq23_0:AT:=mkt 0xc25500d0
def zq23_1:AT:=mkt 0xefb23d86e8ef94421fdc0198
def zq23_2:AT:=mkt 0x2a65d5763fc917d540268
def zq23_3:AT:=mkt 0x18886a400d0
def zq23_4:AT:=mkt 0xefb322b6cb4c07dc01b8
def zq23_5:AT:=mkt 0x46a9a658b3f2ffd540288
def zq23_6:AT:=mkt 0x54ced78ded37b39bf0298
def zq23_7:AT:=mkt 0xf093af8855efdc01e8
def zq23_8:AT:=mkt 0x710f636b2b27f3d5402b8
def zq23_9:AT:=mkt 0x1fcd26cb124b930f02c8
def QHc:AT:=mkt 0x68d2ae10ce5b422dd296473787bfffffffffffffffffffffffffffffffffffffffffffffffffffffffffffffffffffffffffffffffffffffffffffffffffffffffffffffffffffffffffffffffffffffffffffffffffffffffffffffffffffffffffffffffffffffdfa9464b2547ffffffffffffffffffffffffffffffffffffffffffffffffffffffffffffffffffffffffffffffffffffdfa9464b2547ffffffffffffffffffffffffffffffffffffdfa9464b2547ffffffffffffdfa9464b2547dfa9462acc80d1d87296ed6fab5f4fda50959
def QbK:AF:=⟨25,[.tmp 2],
 (zg zq23_0 []
 (.seq (zg zq23_1 [3]
 (zw 4
 (zg zq23_2 [5,6]
 (.reg zq23_3 []))
 .skip))
 (.seq (zg zq23_4 [7]
 (zw 8
 (zg zq23_5 [9,10]
 (.reg zq23_6 [11,12]))
 .skip))
 (.seq (zg zq23_7 [13]
 (zw 14
 (zg zq23_8 [15,16]
 (.reg zq23_9 [17,18]))
 .skip))
 (zg QHc [19,20,21,22,23,24]
 .ret)))))⟩
abbrev QiE:Nat:=78
def zq24_0:AT:=mkt 0x2f2b00d0
def zq24_1:AT:=mkt 0x58e9b6eaeb9b22c00318
def cmp_isNaN_int:AF:=⟨6,[.tmp 2],
 (zg zq24_0 []
 (zg zq24_1 [3,4,5]
 .ret))⟩
abbrev Ql6:Nat:=79
def zq25_0:AT:=mkt 0x2f2b00d0
def zq25_1:AT:=mkt 0x58e9b6eaeb9b22c00318
def QbW:AF:=⟨6,[.tmp 2],
 (zg zq25_0 []
 (zg zq25_1 [3,4,5]
 .ret))⟩
abbrev QiI:Nat:=80
abbrev Qvx:Nat:=81
def zq27_0:AT:=mkt 0x24273e59bdc348b1a0
def zq27_1:AT:=mkt 0x3b0122704a7339b9591a1dc705827d61588f1ba844b8
def zq27_2:AT:=mke 0x53e1027c1820f2ba9fd8be4c5410df87d91b03a42fc6a548e83859ac4babd6461462 (mke 0x39015fca5b77ced770cb99c893794b5a24f828467769c3f7c3ddc121f04c4414b2 (mke 0x10c41dc82a56e7f8b6d4b4e6225ce4c6725567571dfd82288ac50f4cd5648c991502 (mkt 0x109bd039ad180a2ef0c369bd6d747e0f89d410a4673966eecb567411352)))
def zq27_3:AT:=mkt 0x4a0b71cf6183d8ca0792
def zq27_4:AT:=mkt 0x2a6bd6c18005a2
def QcD:AF:=⟨53,[.tmp 5],
 (zg zq27_0 []
 (zg zq27_1 [7,8,9,10,11]
 (zg zq27_2 [12,13,14,15,16,17,18,19,20,21,22,23,24,25,26,27,28,29,30,31,32,33,34,35,36,37,38,39,40,41,42,43,44,45,46,47,48,49]
 (zg zq27_3 [50,51]
 (zg zq27_4 [52]
 .ret)))))⟩
abbrev Qke:Nat:=82
def zq28_0:AT:=mkt 0x2f2b00c8
def zq28_1:AT:=mke 0x5f8a78cfa95de9ccb670397ce4f91f22c840329616a660598b65ea00d81909dfa4790 (mkt 0x7d9cd71e6bec4f5faf5b679e1750903fa420)
def QcC:AF:=⟨16,[.tmp 1],
 (zg zq28_0 []
 (zg zq28_1 [2,3,4,5,6,7,8,9,10,11,12,13,14,15]
 .ret))⟩
abbrev Qkd:Nat:=83
def zq29_0:AT:=mkt 0x2f2b00c8
def zq29_1:AT:=mkt 0x724b40f25d4144e52b10fb55c9e30d329c9340cd4c0b92d0438d4c304cdc04ef69fdd4850
def QcB:AF:=⟨12,[.tmp 1],
 (zg zq29_0 []
 (zg zq29_1 [2,3,4,5,6,7,8,9,10,11]
 .ret))⟩
abbrev Qkc:Nat:=84
def zq2a_0:AT:=mkt 0x2f2b00c8
def zq2a_1:AT:=mke 0x55e54442a6ed619e610e24049bf0b87259c52c90e0f862380dc04ef69eebc790 (mkt 0x1a18e72e79e47e07a15078801af47d4acd85ce192312c7b4e35a8720)
def QcA:AF:=⟨20,[.tmp 1],
 (zg zq2a_0 []
 (zg zq2a_1 [2,3,4,5,6,7,8,9,10,11,12,13,14,15,16,17,18,19]
 .ret))⟩
abbrev Qkb:Nat:=85
def zq2b_0:AT:=mkt 0x2f2b00d0
def zq2b_1:AT:=mkt 0x74b22e8f502b77c219b188679a8f5e27260cbc498
def Qcz:AF:=⟨8,[.tmp 2],
 (zg zq2b_0 []
 (zg zq2b_1 [3,4,5,6,7]
 .ret))⟩
abbrev Qka:Nat:=86
def zq2c_0:AT:=mkt 0x2f2b00e0
def zq2c_1:AT:=mkt 0xa2c25cbc9475fd7528c206d7b286969803e8
def QO:AF:=⟨9,[.tmp 4],
 (zg zq2c_0 []
 (zg zq2c_1 [5,6,7,8]
 .ret))⟩
abbrev Yo:Nat:=87
/- slices.ContainsFunc[[]func() bool,func() bool] -/
def zq2d_0:AT:=mkt 0x2f2b00e0
def zq2d_1:AT:=mkt 0xa2c25cbc9475fd7528c3b2892f5c969803e8
def QP:AF:=⟨9,[.tmp 4],
 (zg zq2d_0 []
 (zg zq2d_1 [5,6,7,8]
 .ret))⟩
abbrev Yp:Nat:=88
def zq2e_0:AT:=mkt 0x2f2b00d0
def zq2e_1:AT:=mkt 0x23d2f5d8f22617e0318
def Qcy:AF:=⟨6,[.tmp 2],
 (zg zq2e_0 []
 (zg zq2e_1 [3,4,5]
 .ret))⟩
abbrev Qj9:Nat:=89
def zq2f_0:AT:=mkt 0x2320f32d9803ff29f3c8b250
def zq2f_1:AT:=mkt 0x2455ec8ee4fa09bbb2d7f81015b09588c5f4c6b32aa2b0ab544a6994e7c9f0692c059536c64fa19fcab8
def zq2f_2:AT:=mkt 0x31a6884a5501a0
def zq2f_3:AT:=mkt 0x19a4afef4e42937bc0597761d150c6e9
def zq2f_4:AT:=mkt 0x1e45409b678c2ba2c715775a44220c268849
def zq2f_5:AT:=mkt 0x392bb5844e916f771eaca87f729621b983e1891cfbe4af9
def zq2f_6:AT:=mkt 0x117300a3c03d4c1105154c8f9720e0130f5aafce812ca1332
def Qfq:AF:=⟨45,[.tmp 4,.tmp 5],
 (zg zq2f_0 []
 (.seq (zg zq2f_1 [7,8,9,10,11,12,13,14,15,16,17,18,19]
 (zw 20
 (zg zq2f_2 []
 .ret)
 .skip))
 (zg zq2f_3 [21,22,23,24]
 (.seq (zg zq2f_4 [25,26,27,28,29]
 (zw 30
 (.reg zq2f_5 [31,32,33,34,35,36,37])
 .skip))
 (zg zq2f_6 [38,39,40,41,42,43,44]
 .ret)))))⟩
abbrev Qns:Nat:=90
def QC0:AT:=mkt 0x39a5a93789fdd3ae8a7721f5a7e3c08b248
def QCZ:AT:=mke 0x2cc49786110 (.wr false (some 4) none (.new 195 (List.replicate 66 [(.bool false),(.bool false),(.bool false),(.lst 0 [] true),(.int .i64 0),(.bool false),(.int .u32 0),(.str []),(.int .u32 0)]).flatten)
 (.wr false none none (.store 594 (.t 4) (.t 10))
 .done))
def QCY:AT:=mkt 0x3ce3179b0e53e8124d74377f88ec785bcf6f6fc9f78358
def QCX:AT:=mkt 0x3b90856fbb81f0
def QCW:AT:=mkt 0x14fa59589c36c9e4ea4b4f2379b38d02c0
def QCV:AT:=mkt 0x27bd36df448d5c38027d099e0270c204e84797e82e7d6d2f60ba9eacc13f8448
def QCU:AT:=mkt 0xb10fed16c873cd8521a5088c9897ecd41614f1f8de51e730886d90fa9f41e92145756c49b993a45625e48be1
def QCT:AT:=mke 0x59f808358d8ab52681893b62b8175dc50340b7fb475a603fa2482df6c2426a5b11d3455dc4614da (mkt 0x15049f96face7efbca7476637396f66f5b2b217c95794ec0d15c17c831a409f84ad7ffde8c186aa34a55a8f808fdd29abdebceb028d577212f173d215218d005d8e2a2172a)
def QCS:AT:=mkt 0xa12a0382
def QCR:AT:=mkt 0x1fa6889ee30aab35a850f381a3edea2338258098a
def QwR:AT:=mkt 0x4f2b54546059a
def QwQ:AT:=mkt 0x41be5882fd0d93c1e434ffde3ec380d3028e2175b8ede76929547ca13aa
def QwP:AT:=mkt 0x3d5b0de8279f64605ea
def QwO:AT:=mkt 0xeacf4874a957ab6adba07f2
def Qfb:AF:=⟨63,[.cell 2 true 5,.tmp 3],
 (zg QC0 []
 (zg QCZ [10]
 (zg QCY [11,12,13]
 (.seq (zg QCX [14]
 (zw 15
 (zg QCW [16]
 .ret)
 .skip))
 (zg QCV [17,18,19]
 (zg QCU [20,21,22,23,24,25,26]
 (.seq (zg QCT [27,28,29,30,31,32,33,34,35,36,37,38,39,40,41,42,43,44]
 (.block 0 (.loop (zg QCS []
 (.seq (zw 48
 .skip
 (.exit 0))
 (.seq (.block 1 (zg QCR [49,50]
 (zg QwR [51]
 (zw 52
 (.reg QwQ [53,54,55,56,57,58,59,60])
 .skip))))
 (.reg QwP [61])))))))
 (zg QwO [62]
 .ret))))))))⟩
abbrev QgU:Nat:=91
def zq2h_0:AT:=mkt 0x5ba997c24c388b188
def zq2h_1:AT:=mkt 0x5cb3f4ef01975318c04320
def zq2h_2:AT:=mke 0x51d297be1fb1c219f3acac826fabd074ceccd643f0a539a16ea3223d2ca04bccb9 (mke 0x353abaeb845942d9ddeb6cd2c1f42384c455f3c3e201e51f9451f7f49fc775f932d12d09 (mkt 0x6de049422a575a44316bf947983894d34d9c7f8859))
def zq2h_3:AT:=mkt 0xc25500d0
def zq2h_4:AT:=mkt 0x6b12ab3f88389
def Qdp:AF:=⟨34,[.tmp 2],
 (zg zq2h_0 []
 (zg zq2h_1 [4,5,6]
 (.seq (zg zq2h_2 [7,8,9,10,11,12,13,14,15,16,17,18,19,20,21,22,23,24,25,26,27,28,29,30,31]
 (zw 32
 (zg zq2h_3 []
 .ret)
 .skip))
 (zg zq2h_4 [33]
 .ret))))⟩
abbrev Ql1:Nat:=92
def zq2i_0:AT:=mkt 0xc25500e0
def zq2i_1:AT:=mkt 0x247c505baa04e91d05691f61e778b28def086ec05538fce54cd2a4e40d766e3617dfdf94ecdb2608b17ccc55efa2dc93b7036f74ec60dc1f5276fa530e189e712f00418b45df91a1f75ab6cc68997d58809c05e2fb37c3d01d3b7a8092011cecec3d180d4e7e5d88df80ac0
def zq2i_2:AT:=mkt 0x176b4c6f1385f82e8
def zq2i_3:AT:=mkt 0x64ba4201
def zq2i_4:AT:=mkt 0x31e16528f2841f3f948eb5bb4e37a56f2d05c9
def zq2i_5:AT:=mkt 0x5f64a1c3122a303bf7b38bc719
def zq2i_6:AT:=mkt 0x25e11c5f0370b51e44c1
def zq2i_7:AT:=mkt 0x56908f5043f247c391
def zq2i_8:AT:=mkt 0xc25500e0
def Zd:AF:=⟨35,[.tmp 4],
 (zg zq2i_0 []
 (zg zq2i_1 [8,9,10,11,12,13,14,15,16,17,18,19,20]
 (.seq (zg zq2i_2 []
 (.block 0 (.loop (zg zq2i_3 []
 (.seq (zw 24
 .skip
 (.exit 0))
 (.seq (.block 1 (zg zq2i_4 [25,26]
 (zg zq2i_5 [27,28,29,30]
 (zw 31
 (zg zq2i_6 [32,33]
 .ret)
 .skip))))
 (.reg zq2i_7 [34])))))))
 (zg zq2i_8 []
 .ret))))⟩
abbrev Qei:Nat:=93
def zq2j_0:AT:=mkt 0x2d62e7629b188
def zq2j_1:AT:=mkt 0x8e6d830b1d0
def zq2j_2:AT:=mkt 0x848e53a0b3e1d0716dd4358
def zq2j_3:AT:=mkt 0x3c6fc138
def zq2j_4:AT:=mkt 0xb925b4cc0200
def zq2j_5:AT:=mkt 0x194618c2066fbe452af03419c034c625c448
def zq2j_6:AT:=mkt 0x3c6fc170
def zq2j_7:AT:=mkt 0xa54da2e7d5cf68880479
def zq2j_8:AT:=mkt 0x85849a82e0c5d46297387468aa430678709
def zq2j_9:AT:=mkt 0x49d625425a79e8c369
def QHb:AT:=mkt 0x4c5f35440ef49c4371
def QHa:AT:=mkt 0x603900f8
def QG9:AT:=mkt 0x218cfe08379
def QG8:AT:=mkt 0xb5c27d389
def QG7:AT:=mkt 0x52af1b7695b53358e20637cf5759
def QG6:AT:=mkt 0x20846708ff283b1
def QG5:AT:=mkt 0x7d4763e0a3a78d7b9bb56501ea312e62c12ab481c0b42
def QG4:AT:=mkt 0x26a3750382cc94bac0562
def QG3:AT:=mkt 0x25869be9640572
def Qab:AF:=⟨47,[.tmp 2],
 (zg zq2j_0 []
 (zg zq2j_1 [10]
 (.seq (zg zq2j_2 [11,12]
 (.block 0 (.loop (zg zq2j_3 []
 (.seq (zw 15
 .skip
 (.exit 0))
 (.seq (.block 1 (zg zq2j_4 [16]
 (zg zq2j_5 [17,18]
 (.block 2 (.loop (zg zq2j_6 []
 (.seq (zw 22
 .skip
 (.exit 2))
 (.seq (.block 3 (zg zq2j_7 [23,24]
 (.reg zq2j_8 [25,26,27,28])))
 (.reg zq2j_9 [29])))))))))
 (.reg QHb [30])))))))
 (zg QHa []
 (.seq (zg QG9 [31]
 (.block 4 (.loop (zg QG8 [33]
 (.seq (zw 34
 .skip
 (.exit 4))
 (.block 5 (zg QG7 [35,36,37]
 (zg QG6 [38]
 (zw 39
 (.reg QG5 [40,41,42,43])
 .skip)))))))))
 (zg QG4 [44,45]
 (zg QG3 [46]
 .ret)))))))⟩
abbrev QgW:Nat:=94
def QCQ:AT:=mkt 0x3b54161e379eed1f8e205ebf64c49dd92fcd43190
def QCP:AT:=mke 0x2cc497860e8 (.wr false (some 4) none (.new 195 (List.replicate 66 [(.bool false),(.bool false),(.bool false),(.lst 0 [] true),(.int .i64 0),(.bool false),(.int .u32 0),(.str []),(.int .u32 0)]).flatten)
 (.wr false none none (.store 594 (.t 4) (.t 5))
 .done))
def QCO:AT:=mkt 0x4a9bd3f0a9a90e7e317e2e6ec8581fbfc2baf79d6f340570
def QCN:AT:=mkt 0x66527e32ec8e0903c6f3dda3f1c40bd7ec9893e482a8
def QCM:AT:=mkt 0x2243941c39a4ae3d395468ba9eacbc880430
def QxL:AF:=⟨17,[.cell 2 true 9,.tmp 3],
 (zg QCQ []
 (zg QCP [5]
 (.seq (zg QCO [6,7,8,9,10,11]
 (zw 12
 (zg QCN [13]
 .ret)
 .skip))
 (zg QCM [14,15,16]
 .ret))))⟩
abbrev Qx9:Nat:=95
def QCL:AT:=mkt 0x2f2b00e0
def QCK:AT:=mkt 0x32b5e9132ea5747889ef6e23d15186b6bdb39524f62fb99178216ba582587a8
def Qaz:AF:=⟨14,[.tmp 4],
 (zg QCL []
 (zg QCK [5,6,7,8,9,10,11,12,13]
 .ret))⟩
abbrev Qgy:Nat:=96
def QCJ:AT:=mkt 0x215fecbf520b88b190
def QCI:AT:=mkt 0x7ec8913da8e9d830b53e579685475dafa92bc3f8
def QCH:AT:=mkt 0xbb1fced1c1d0
def QCG:AT:=mkt 0x6617bfb375adcd6a652d6b9fc3c193ec51d05a0
def QCF:AT:=mke 0xd12a8cb991e9205f6184278ef91806a482c8ac06b76ba8d09 (mkt 0x2904ae7d81afe2f54068981ebf34f123475130d0330ca2fb0bb06aad9)
def Qay:AF:=⟨34,[.tmp 4],
 (zg QCJ []
 (zg QCI [7,8,9]
 (.seq (zg QCH [10]
 (zw 11
 (.reg QCG [12,13,14,15,16])
 .skip))
 (zg QCF [17,18,19,20,21,22,23,24,25,26,27,28,29,30,31,32,33]
 .ret))))⟩
abbrev Qcx:Nat:=97
def QCE:AT:=mkt 0x19f1400d0
def QCD:AT:=mkt 0x19f1400d8
def QCC:AT:=mkt 0x176b4c6f133a80270
def QCB:AT:=mkt 0x3c6fc108
def QCA:AT:=mkt 0x10e3a5506fd3a5780290
def QCz:AT:=mkt 0xf8e9c32ee5c162ac8360
def QCy:AT:=mkt 0x544f22f2974d2c1f8
def QCx:AT:=mkt 0xb9204ce38200
def QbA:AF:=⟨17,[.tmp 2],
 (zg QCE []
 (zg QCD []
 (.seq (zg QCC []
 (.block 0 (.loop (zg QCB []
 (.seq (zw 9
 .skip
 (.exit 0))
 (.seq (.block 1 (zg QCA [10,11]
 (.reg QCz [12,13,14])))
 (.reg QCy [15])))))))
 (zg QCx [16]
 .ret))))⟩
abbrev QhX:Nat:=98
def zq2o_0:AT:=mkt 0x5c58ec3b65e1520b88b250
def zq2o_1:AT:=mkt 0x24c3e8ee44f8dea8fe3bd431a8
def zq2o_2:AT:=mkt 0x384b94d8e34e65a799874bf40284400
def zq2o_3:AT:=mkt 0x3c37800a7cd21900ddcceec2a0
def zq2o_4:AT:=mkt 0xa09d5bf35edc389
def Qcu:AF:=⟨34,[.tmp 4],
 (zg zq2o_0 []
 (zg zq2o_1 []
 (zg zq2o_2 [8,9,10,11]
 (.seq (zg zq2o_3 [12,13]
 (.block 0 .bad))
 (zg zq2o_4 [33]
 .ret)))))⟩
abbrev Qd9:Nat:=99
def Qfa:AT:=mkt 0x59033f1a710d915d15431b8
def QhR:AC:=(.reg Qfa [])
def Qe9:AT:=mkt 0x18ae8b6e40617065b5c1b877999fe9524471ab72e40330dd687aa4a575d88e2566f1cbcb26dd0c9
def Qe8:AT:=mkt 0x18b806b08734a6175b6028d4f6edc729
def QhQ:AC:=(.block 1 (zg Qe9 [17,18,19,20,21,22,23,24,25,26,27,28]
 (.reg Qe8 [29,30,31,32])))
def QCw:AT:=mkt 0xc83be6c94d5fe6c9690e7cbf65a7362c8b188
def QCv:AT:=mkt 0x7329dfa4198
def QCu:AT:=mkt 0x5308ecd53ffaec1b0
def QCt:AT:=mkt 0x9d67375da7155741b8
def QCs:AT:=mkt 0x1503a912566abc1c0
def QCr:AT:=mkt 0xe0e63142bbf85741d0
def QCq:AT:=mkt 0x4146e35a628104fdd5442236bc56a8534d2566abc4d8
def QCp:AT:=mkt 0x1515bcca725db5741f8
def QCo:AT:=mkt 0x1051b8d698a0413f7551088de449ba921a3297688ec500
def QCn:AT:=mkt 0x17a87329765ba4218
def QwN:AT:=mkt 0x2ed527f1f88c220
def Qe4:AF:=⟨21,[.cell 2 true 6],
 (zg QCw []
 (.seq (zg QCv [3]
 (.block 0 (.seq (zg QCu [6]
 (zw 5
 .skip
 (.reg QCt [7])))
 (zw 5
 (.reg QCs [8])
 (zg QCr [10]
 (zw 9
 (.reg QCq [11,12,13])
 (zg QCp [15]
 (zw 14
 (.reg QCo [16,17,18])
 .skip))))))))
 (zg QCn [19]
 (zg QwN [20]
 .ret))))⟩
abbrev QlZ:Nat:=100
def zq2q_0:AT:=mkt 0x914700e0
def zq2q_1:AT:=mkt 0x3a4b881827febc43e031096980328
def Z7:AF:=⟨8,[.tmp 4],
 (zg zq2q_0 []
 (zg zq2q_1 [5,6,7]
 .ret))⟩
abbrev Zp:Nat:=101
def zq2r_0:AT:=mkt 0x914700d0
def zq2r_1:AT:=mkt 0x281d6185f4f2a93b128e0258
def strconv_Itoa:AF:=⟨5,[.tmp 2],
 (zg zq2r_0 []
 (zg zq2r_1 [3,4]
 .ret))⟩
abbrev Qcv:Nat:=102
def QCm:AT:=mkt 0x914700d0
def QCl:AT:=(.rd (some 3) none (.build (List.replicate 17 [(.str [])]).flatten [(0,1,(.c (.str []))),(1,1,(.c (.str [43]))),(2,1,(.c (.str [45]))),(3,1,(.c (.str [42]))),(4,1,(.c (.str [47]))),(5,1,(.c (.str [37]))),(6,1,(.c (.str [47,117]))),(7,1,(.c (.str [37,117]))),(8,1,(.c (.str [38]))),(9,1,(.c (.str [124]))),(10,1,(.c (.str [94]))),(11,1,(.c (.str [60,60]))),(12,1,(.c (.str [62,62,117]))),(13,1,(.c (.str [62,62]))),(14,1,(.c (.str [60]))),(15,1,(.c (.str [60,117]))),(16,1,(.c (.str [61,61])))])
 (.rd (some 4) none (.mov (.t 0))
 (.rd (some 5) none (.aidx false 1 17 (.t 3) (.t 4))
 (.rd (some 2) none (.mov (.t 5))
 .done))))
def Qe3:AF:=⟨6,[.tmp 2],
 (zg QCm []
 (zg QCl [3,4,5]
 .ret))⟩
abbrev QlY:Nat:=103
abbrev Qgu:Nat:=104
abbrev Qpr:Nat:=105
abbrev Qqd:Nat:=106
abbrev Qd8:Nat:=107
abbrev Qhq:Nat:=108
def zq2y_0:AT:=mkt 0xc25500e0
def zq2y_1:AT:=mkt 0x176b4c6f133a80270
def zq2y_2:AT:=mkt 0x3c6fc108
def zq2y_3:AT:=mkt 0x73be4e6701d0
def zq2y_4:AT:=mkt 0x111ea2af0824f6ec997ef6cf47184d8
def zq2y_5:AT:=mkt 0xc4b7598e8208
def zq2y_6:AT:=mkt 0x6529ab46034d2c210
def zq2y_7:AT:=mkt 0x127be400e0
def QY:AF:=⟨19,[.tmp 4],
 (zg zq2y_0 []
 (.seq (zg zq2y_1 [6]
 (.block 0 (.loop (zg zq2y_2 []
 (.seq (zw 9
 .skip
 (.exit 0))
 (.seq (.block 1 (zg zq2y_3 [10]
 (zg zq2y_4 [11,12,13,14,15]
 (zw 16
 (zg zq2y_5 [17]
 .ret)
 .skip))))
 (.reg zq2y_6 [18])))))))
 (zg zq2y_7 []
 .ret)))⟩
abbrev YW:Nat:=109
/- slices.IndexFunc[[]func() bool,func() bool] -/
def zq2z_0:AT:=mkt 0xc25500e0
def zq2z_1:AT:=mkt 0x176b4c6f133a80270
def zq2z_2:AT:=mkt 0x3c6fc108
def zq2z_3:AT:=mkt 0x73be4e6701d0
def zq2z_4:AT:=mkt 0x111ea2ae7f5c4be1ea4b4d9047184d8
def zq2z_5:AT:=mkt 0xc4b7598e8208
def zq2z_6:AT:=mkt 0x6529ab46034d2c210
def zq2z_7:AT:=mkt 0x127be400e0
def QZ:AF:=⟨19,[.tmp 4],
 (zg zq2z_0 []
 (.seq (zg zq2z_1 [6]
 (.block 0 (.loop (zg zq2z_2 []
 (.seq (zw 9
 .skip
 (.exit 0))
 (.seq (.block 1 (zg zq2z_3 [10]
 (zg zq2z_4 [11,12,13,14,15]
 (zw 16
 (zg zq2z_5 [17]
 .ret)
 .skip))))
 (.reg zq2z_6 [18])))))))
 (zg zq2z_7 []
 .ret)))⟩
abbrev YX:Nat:=110
def zq30_0:AT:=(.wr false (some 0) none (.new 195 (List.replicate 66 [(.bool false),(.bool false),(.bool false),(.lst 0 [] true),(.int .i64 0),(.bool false),(.int .u32 0),(.str []),(.int .u32 0)]).flatten)
 .done)
def zq30_1:AT:=mkt 0x16da6f38a9892bc8651a077be23be4392120ecdc79af20e05453e543a4e1cbf02220b9067daa7d263d35f1c40bd7ec9892018290
def zq30_2:AT:=mkt 0x9d5540e02338f56eded2f8290b9d1bb2b41f40ca3e42aecdd108352d1c57144573423af02255d119ad4493239c999346426df9ca76b0594a66858cc1d21756fa58cf8221db8418
def zq30_3:AT:=mkt 0xd78504d778304d0e979dc1a90b9d1f4efb0fddfc78083c78e6b1ca33dd285c23144573423af02255d119ad4493239c999346426df9ca76b0594a66847fb90a1756fa58cf8221db8430
def zq30_4:AT:=mkt 0x111b4c8cecd27a4ae50688b290b9d22e27a6909918011e23ee1b1ca33dd285c23144573423af02255d119ad4493239c999346426df9ca76b0594a668452e23e1756fa58cf8221db8448
def zq30_5:AT:=mkt 0xe88706e76eaef1d40f7acb2aeb15b4e83562ca2329bd067e4efde24afbf428c6e0fed8bf53c8a26de4fd1abf0fbeb9ee4bc9697da25891072f6c69fa3677d2d1f8a1dfa5dfc94e3bb162e558a58cf8221db8520
def zq30_6:AT:=mkt 0x811dd0be3b6a83adb5ffbcd2528b18e6628b0e4c746be7a6958ffebcbb072eea845fcbe1a6a11468d735cb6f822a3b73950b123d74344843ee41406e26d99542312570619149e6784803af669f62037ce3f33b676bfbede8b222fd1a7528c372dcec921de1d7b3584ae959d8e3188ac1
def zq30_7:AT:=mkt 0xe18736d49d24575c25487c89dea293ed738e70234cae80516035f9f364d60d0aeb9bf1e03eec020038f31384780a046fd9b55c06523dc0daad9c87720e900cdc468959d8e3188731
def zq30_8:AT:=mkt 0x29e8b4f3bbc259da33cf6c18f9e730b13fe7d32709407ce00d6417505b184ca635a4a843ea3fa38315ad90b755d9407c6c15c4923ec46a891608b56b74237e250f91e901e390dff9f70d2f5b074b0f505b4dcb587b338ad1ebf204fc769678810edcec921de1d7b3584ae959d8e3188b09
def zq30_9:AT:=mkt 0x2c8d5306cd218dae9afc50b49060e3b9c890fffff71fc83f0aa692f169128a539e0284f9
def QG2:AT:=mke 0x2394cb729b3562d448b090b10216ed101496047e1aaf4fac0e2676973a3c815e5d6d7aa07e3d20cbf5e3d45 (mke 0x1e467524f5918431b940dc09bad9f0c74f5bc23ad5d0745310a77243aff21be0859dfc49c0141e2e55e3de5 (mke 0x13a9c67cb36d403cd628e591a568bceed8353c0af0b86d60772dff03129d26c5278fea8a89d86139b5e3e85 (mke 0x90d17d47148fc47f310ef198fe652bb58e113114691af89992eefa7e2b23507caa09b85eba05f5135e3f25 (mke 0x90d19e1682582f7b7497c43176740da87002b08ca61b6ec5bd623e8cb675c1c69364196ed5960f255e3fc5 (mke 0x90d1bee5f0209a77b82096c9ee82ef9b51f43004e31be4f1e7c0926a8084ad10e8478077f28e12935e4065 (mke 0x1639bd832d811614f2c45b48b4d52936dfdb3186ed78d5430e264124b3f1b445abb8cefe13ea392374ec29765d550a2d57796571b3931487ed4987e4bab0fafe0d3af519c9a488db266f0056d88a13899dc4a346294074d006e6fef963a6c56b7e497ba0b7d68934ebae59f96d63d6eec088d1f1ea1921090ab343fe00e2c1aa2dc039a8fb29cd0e30955cb84f4027540a7960344d14ef2a9ec41ea084c8ed221535e4105 (mke 0xe763f6ab7d3386dcf256ce64e6674aee31770c32a3d38d9263a0b68e1023c3aa6021160517fa0279bb80cac3b8f3f7ca5f2250a52a31f9811e5089c976850366749840f84200537ba8a855c9ad17d2760a52044bc41a7f1d0f9bdc6653a2879df48d90e1a89afaf7c485e66b162365a57e60fc5ae1fa5ad858a07e63fd2fc75282385450da0a17ea22607d721dcff649e4a3ad4601bcf793fb8957e283affbaf9133f6a1be488628c0eca54d98d40c992e060d20d46b295ad325bfd935a3f7ee48a67d463330afe178c5a349056ddd56b1c3cf1e3449d38490976e05e87f1528a07869f5697c67aea3c9e543b060607e0334541483dbf4c6f6416c1a6e54fde6ee3dacd3d9d (mke 0x39d8fdaaeb286f847e4317498a386db1fd470bb86855878129f4176cc7a5c4410e14938fc08922523b2aaff19e48d5ee3a5b76330fbec54d6d656b42fa2b5bbf6090a0dacccd9db9fbd4fa439be8f45943150b1dc78011e84376b486d268ef61eb650aafdb35a201cc38830225b3599f474dbefc9a6cb15e2c6814704f73031faaa57589bc53dc8485cfff69c785d21aee4b12e578de6d560f0c3461679229f4eb6fc58d3247a2ddcf177d6872c4fad91581ffe10ccf9dca2887669c828b822ed4a7ba15060437f2740adab5823cb7875cbff0cf8dc966548b2b6e2e5bb6b5477718cb432bd486fd762ad1d59f7869078e098028981b4f1fb4ee209cc58e6ee3dacd3e3d (mke 0x39d8ebb23ff45001d445dfa3bddc60b7e7ddbfb2a5b270276dd0503b6619bca556b2531731160bc888134d457f5fac375d6c505e95e327646057390ef0841d5358ae4a731fa8b4ac910d932bd7a458eb7651d6ea80926efbb4a0e0b914b3c8c2e02bb89d9b89e99e3e71590943af115484d2a9bd2a86e6e1d3845503bc02c82997a2577a9fb86684eef6f4fa930c05cdd9097721a330a60be2c7564a278dc24a79d8840a398559a500dd54db896fbe2bd2b95ef4994a1a7852ddedb7b5356c987a3defcc516f6441e03e0abccf4d3ac52a298fdfb2b8338eab8b98ae849d3144d4abde0e79d9ca522cac4155d57a163dcce39172990556d4ae7bacd61f639875a5da3e732eab8c3b3e6ee3dacd3edd (mke 0xe762d71ff4819640a5f6617a9a1a06777033e36bf587df217937b9badf3cd8162648442f2efc99bc6c5cb40926865c38f36770259fed2c1d8c6415b4fe4746187b524411fa8b736ad5f9eac42c224eaded1bb3f29f67a22a1255844b604783f09599e95dd61f98a4b63de1be681596a1e78f2dc27aba5b47fba276ffd38359cd4358dc666a09a28597e715baa33c96575269f9517b3886487bc2aef6a534b424d95ad9caf780e6fe805bd4f84eeef1d52b929d8fb688be526ce15b46bc1c2d232485df0312d684a02c648c9533e065b03b5879cf4e6f85e1742b29e36cfdc89929cea7fcbb543775d63b547dba243528d730a4583cb1c230875c9a8e0738d7daa83ff036cb63048f9cca1caff04c4bb0ee6ee3dacd3f7d (mke 0x1eda9866c1f54fd52516b5658412bd66577dcdd5a0cbbec876f984f0ba1b90c0bdc23c29b2589ba0a235c81cd5df23b768859c0d49d075e1cb02c311a03100c7ebd06908682e7ebb93ab2797b37d9601af28e1b60c19860c69d24797ad74561f3efb1258e1fdfd06ba444c7746941ae87bccba2f0da5c050ebc2de2a2267947ff89926afe0c4c0763e092a1155855a02157f4fa29ad5374eece7063d276beee2d1ee766c6bbeb217345a4d89c385433227fef6653362c7679d7c93dc636bc4d9bd8635fbb2126d1fcdf23069263bad3053f6dddc453d44c9fcbad69f3a93b48a4cac39d5ff25333de8f94fcd4221f12e769d86d7940ee404c23047ced1f613cda1a2a949a9f22598c6b15999e57cc44bb6cdea619adbc628b61e6ee3dacd401d (mke 0x39d8b5c7d15092ff0c70f3bcdd3ff10f0001a7552d02970a5a3dfaee82a3daa46abe2c616ba303aecbd1c1385c89b943e98686acae2edcd9cbb9dd9fd7fef13f3937f3b1ddfba8a64bd347572e21177a0506d53379df029fd0dc94bdd17cf3d5d0bc691f35a7df7a95cccb959832f6e300a86c9cd451ec11d87e65f4a83f983d1478558e49bb57304ad8a0ddac7b4f1d0d9a3f5b98bbb5424def8c033686b301ada221524167988904dd0b81403fb7c8be2fc761e878011b702d7c57e5eb9df82d8b91023d350ebba5e6aa5bed90d6d0daf93449ce466be228e3876e15ec9c6c2137e3468d833cd5e53f65827eeb437be6a60d0d141d32578c0e3bc9bdec95916cc9307c1672145f5a8c85445ae3f35c2b9bc79b116651dacbd4fe06bce8b5a732b8abefd9f6f368a9c4e6ee3dacd40bd (.rd (some 170) none (.build (List.replicate 66 [(.bool false),(.bool false),(.bool false),(.lst 0 [] true),(.int .i64 0),(.bool false),(.int .u32 0),(.str []),(.int .u32 0)]).flatten [(9,9,(.t 41)),(18,9,(.t 43)),(27,9,(.t 45)),(36,9,(.t 47)),(45,9,(.t 49)),(54,9,(.t 51)),(63,9,(.t 53)),(72,9,(.t 55)),(81,9,(.t 57)),(90,9,(.t 59)),(99,9,(.t 61)),(108,9,(.t 63)),(117,9,(.t 65)),(126,9,(.t 67)),(135,9,(.t 69)),(144,9,(.t 71)),(153,9,(.t 73)),(162,9,(.t 75)),(171,9,(.t 77)),(180,9,(.t 79)),(189,9,(.t 81)),(198,9,(.t 83)),(207,9,(.t 85)),(216,9,(.t 87)),(225,9,(.t 89)),(234,9,(.t 91)),(243,9,(.t 93)),(252,9,(.t 95)),(261,9,(.t 97)),(270,9,(.t 99)),(279,9,(.t 101)),(288,9,(.t 103)),(297,9,(.t 105)),(306,9,(.t 107)),(315,9,(.t 109)),(324,9,(.t 111)),(333,9,(.t 113)),(342,9,(.t 115)),(351,9,(.t 117)),(360,9,(.t 119)),(369,9,(.t 121)),(378,9,(.t 123)),(387,9,(.t 125)),(396,9,(.t 127)),(405,9,(.t 129)),(414,9,(.t 131)),(423,9,(.t 133)),(432,9,(.t 135)),(441,9,(.t 137)),(450,9,(.t 139)),(459,9,(.t 141)),(468,9,(.t 143)),(477,9,(.t 145)),(486,9,(.t 147)),(495,9,(.t 149)),(504,9,(.t 151)),(513,9,(.t 153)),(522,9,(.t 155)),(531,9,(.t 157)),(540,9,(.t 159)),(549,9,(.t 161)),(558,9,(.t 163)),(567,9,(.t 165)),(576,9,(.t 167)),(585,9,(.t 169))])
 (.wr false none none (.store 594 (.t 0) (.t 170))
 .done))))))))))))))
def Qpi:AF:=⟨171,[.cell 0 true 594],
 (zg zq30_0 []
 (zg zq30_1 [10]
 (zg zq30_2 [11,12,13]
 (zg zq30_3 [14,15,16]
 (zg zq30_4 [17,18,19]
 (zg zq30_5 [20,21,22,23]
 (zg zq30_6 [24,25,26,27,28,29]
 (zg zq30_7 [30,31,32]
 (zg zq30_8 [33,34,35,36,37,38]
 (zg zq30_9 [39]
 (zg QG2 [40,41,42,43,44,45,46,47,48,49,50,51,52,53,54,55,56,57,58,59,60,61,62,63,64,65,66,67,68,69,70,71,72,73,74,75,76,77,78,79,80,81,82,83,84,85,86,87,88,89,90,91,92,93,94,95,96,97,98,99,100,101,102,103,104,105,106,107,108,109,110,111,112,113,114,115,116,117,118,119,120,121,122,123,124,125,126,127,128,129,130,131,132,133,134,135,136,137,138,139,140,141,142,143,144,145,146,147,148,149,150,151,152,153,154,155,156,157,158,159,160,161,162,163,164,165,166,167,168,169,170]
 .ret)))))))))))⟩
abbrev Qot:Nat:=111
def QCk:AT:=mkt 0xc25500e0
def QCj:AT:=mkt 0x176b4c6f133a80270
def QCi:AT:=mkt 0x3c6fc108
def QCh:AT:=mkt 0x73be4e6701d0
def QCg:AT:=mkt 0x111ea2b186781e8453e6558847184d8
def QCf:AT:=mkt 0xc4b7598e8208
def QCe:AT:=mkt 0x6529ab46034d2c210
def QCd:AT:=mkt 0x127be400e0
def QB:AF:=⟨19,[.tmp 4],
 (zg QCk []
 (.seq (zg QCj [6]
 (.block 0 (.loop (zg QCi []
 (.seq (zw 9
 .skip
 (.exit 0))
 (.seq (.block 1 (zg QCh [10]
 (zg QCg [11,12,13,14,15]
 (zw 16
 (zg QCf [17]
 .ret)
 .skip))))
 (.reg QCe [18])))))))
 (zg QCd []
 .ret)))⟩
abbrev XU:Nat:=112
def QCc:AT:=mkt 0x163f8fd12fd08b190
def QCb:AT:=mke 0x608c4ec0b582839a136c358ba6b693b544ca446e1459495a7fffa47a0 (mkt 0x2caaad3d96aa424870c70ac0043d52430)
def QaA:AF:=⟨18,[.tmp 3],
 (zg QCc []
 (zg QCb [4,5,6,7,8,9,10,11,12,13,14,15,16,17]
 .ret))⟩
abbrev Qgz:Nat:=113
def QCa:AT:=mkt 0x897f03ff520b88b190
def QB9:AT:=mkt 0xc25500e8
def QB8:AT:=mkt 0x848e53a0b3e1d07cceec340
def QB7:AT:=mkt 0x3c6fc120
def QB6:AT:=mkt 0x163b8078a79ce9db9997d12716b5a1b0368
def QB5:AT:=mkt 0x12ac6f3536a1a2fbaf8d61947fd5fd730a65fc76230249f0427f407c387f8
def QB4:AT:=mkt 0x3d18e602d8200dc341
def QB3:AT:=mkt 0xd169874be7978409724ef79e88709
def QB2:AT:=mkt 0x1f7c9d6084369
def QB1:AT:=mkt 0xf70c2c91e79ee3cb211102d0a4753a265610f4aad8a965d03d4c1bc74244fef609b654f19477fcee89d827c30108d79
def QwM:AT:=mkt 0x20a1bbd61c0542
def Zh:AF:=⟨41,[.tmp 4],
 (zg QCa []
 (zg QB9 []
 (.seq (zg QB8 [8]
 (.block 0 (.loop (zg QB7 []
 (.seq (zw 12
 .skip
 (.exit 0))
 (.seq (.block 1 (zg QB6 [13,14]
 (.reg QB5 [15,16,17,18,19,20,21,22,23])))
 (.reg QB4 [24])))))))
 (zg QB3 [25,26,27,28]
 (.seq (zg QB2 [29]
 (zw 30
 (.reg QB1 [31,32,33,34,35,36,37,38,39])
 .skip))
 (zg QwM [40]
 .ret))))))⟩
abbrev Qa1:Nat:=114
def QB0:AT:=mkt 0x125ada6df55d188b190
def QBZ:AT:=mkt 0x2bc96167fc9025ace3689b858d2101acb77d7e4871fd4328d305358ac587a8
def Qc0:AF:=⟨14,[.tmp 4],
 (zg QB0 []
 (zg QBZ [5,6,7,8,9,10,11,12,13]
 .ret))⟩
abbrev Qfl:Nat:=115
def zq35_0:AT:=mkt 0x2f2b00e0
def zq35_1:AT:=mkt 0xfc672ed8ab1cc70afac45541457afffbd29ec3f9f7d20971e6db51c0878
def zq35_2:AT:=mkt 0x8ae047da9181e690d8200
def zq35_3:AT:=mke 0x729abc601db91363438afffbec194e33e6bd14942cf5d19d29cec43cad4f814b10b6f728e889e10d09 (mkt 0x7cb0123733446de4dabecae3358b2708748d6170b6d0fb42f866af92373050d60fcaca70c8d1bf8ce7a4072900859)
def Qaa:AF:=⟨32,[.tmp 4],
 (zg zq35_0 []
 (zg zq35_1 [7,8,9,10,11,12,13,14,15]
 (zg zq35_2 [16]
 (zg zq35_3 [17,18,19,20,21,22,23,24,25,26,27,28,29,30,31]
 .ret))))⟩
abbrev QgV:Nat:=116
def zq36_0:AT:=mkt 0x2f2b00e0
def zq36_1:AT:=mkt 0x8645294778defcd26f6ba344f4d65651da8584cc35ef7420971e6db51c07c0
def zq36_2:AT:=mke 0x2707e0a7718edae6262c800dde9cf1ec6104b14b4447ce65c3be8d01 (mkt 0x1fbc322167350d2502e8ee7a06a576f8ccdac0fe447c1c8ad1)
def zq36_3:AT:=mkt 0x47b200e0
def zq36_4:AT:=mkt 0x2aa83776f918b3831fcea243690dff35c72284f74a099449d9
def zq36_5:AT:=mkt 0xf21439fc617a56992ebd9b8884b65c0b3a
def zq36_6:AT:=mkt 0x2f2b00e0
def zq36_7:AT:=mkt 0xb394dfdbdeb4081135242e20f2b7341b86c95ba0962
def zq36_8:AT:=mkt 0x47b200e0
def zq36_9:AT:=mkt 0x4f2adb9460582
def QG1:AT:=mkt 0x31bf17b8627ce72059a
def QG0:AT:=mkt 0x47b200e0
def QGZ:AT:=mkt 0xd5405c36fd447d9a05aa
def QGY:AT:=mkt 0xd9460f22aceae59a05b2
def QGX:AT:=mkt 0x19813670947d0c6d4b9acdc0d209ba
def QGW:AT:=mkt 0x2f2b00e0
def Zb:AF:=⟨58,[.tmp 4],
 (zg zq36_0 []
 (zg zq36_1 [8,9,10,11,12,13,14,15]
 (.seq (zg zq36_2 [16,17,18,19,20,21,22,23,24,25,26,27,28,29,30,31,32]
 (zw 33
 (zg zq36_3 []
 .ret)
 .skip))
 (.seq (zg zq36_4 [35,36,34,37,38]
 (zg zq36_5 [39,40,41,42]
 (zw 43
 (zg zq36_6 []
 .ret)
 .skip)))
 (.seq (zg zq36_7 [44,45,46]
 (zw 47
 (zg zq36_8 []
 .ret)
 .skip))
 (.seq (zg zq36_9 [48]
 (.block 0 (zg QG1 [51]
 (zw 50
 (zg QG0 []
 .ret)
 (.seq (zg QGZ [53]
 (zw 52
 .skip
 (.reg QGY [54])))
 (zw 52
 (zg QGX [55,56,57]
 .ret)
 .skip))))))
 (zg QGW []
 .ret)))))))⟩
abbrev Qeg:Nat:=117
def zq37_0:AT:=mkt 0x2f2b00e0
def zq37_1:AT:=mkt 0x8645294778defcd26f6ba344f4d65651da8584cc35ef7420971e6db51c07c0
def zq37_2:AT:=mkt 0x10ede4ef9b1eb39cb23e425c2c8
def zq37_3:AT:=mkt 0x23e5a17c852a975cf8cc1e8aa44b65a58518
def zq37_4:AT:=mke 0xff0a334a028f8efc2674daa7974db70ac0795241e8119c87b924584dc35614c2 (mke 0x198f4a5c840412d50dbf0ebf07d37fe1b164a7a1166641431512 (mke 0x65fa1ed9b8b5c5a511fced0725a2ee5f4e50491e18c98cf1562 (mkt 0x51d81a621df54c75304ddc20db63db74fae3c45e1da6310db2)))
def zq37_5:AT:=mkt 0x1bc013a838e8731c3d588db94609e2
def zq37_6:AT:=mkt 0xfa2a46bc2a0785f1daab0f6b44adf4740e5393a3e0ee659fe5d1ac5c116e4c8f9482833028fb
def zq37_7:AT:=mkt 0x37039158cb98c4f49b88894c123bf1c89b04ad585f80dc92d83c119c8efc9f98967f4c7d46bbd3c20770559af2953
def zq37_8:AT:=mkt 0x47b200e0
def YO:AF:=⟨86,[.tmp 4],
 (zg zq37_0 []
 (zg zq37_1 [8,9,10,11,12,13,14,15]
 (.seq (.block 0 (zg zq37_2 [17,18]
 (zw 16
 (zg zq37_3 [19,20,21,22,23]
 (zg zq37_4 [24,25,26,27,28,29,30,31,32,33,34,35,36,37,38,39,40,41,42,43,44,45,46,47,48,49,50,51,52,53,54,55,56,57,58]
 .ret))
 (zg zq37_5 [60,61,62]
 (zw 59
 (zg zq37_6 [63,64,65,66,67,68,69,70,71,72,73]
 (zg zq37_7 [74,75,76,77,78,79,80,81,82,83,84,85]
 .ret))
 .skip)))))
 (zg zq37_8 []
 .ret))))⟩
abbrev Qdv:Nat:=118
def zq38_0:AT:=mkt 0x2f2b00e0
def zq38_1:AT:=mke 0x7c49c034f136eef04bb002d7a55f759f7d20971e6db51c07a8 (mkt 0x14a453f214cd965fa4c649731831f3d42d205806600862fcdb0738)
def Zn:AF:=⟨23,[.tmp 4],
 (zg zq38_0 []
 (zg zq38_1 [5,6,7,8,9,10,11,12,13,14,15,16,17,18,19,20,21,22]
 .ret))⟩
abbrev Qfm:Nat:=119
def zq39_0:AT:=mkt 0x4414f4c929b190
def zq39_1:AT:=mke 0x1041ddc13e0473b2e9512faa906aa3558984041c9362a3508fe4e8cb9 (mkt 0x62384a825443bfea34f76b63ba8212951b523af9de4d72ba75962cb82051267272e1ebc9)
def zq39_2:AT:=mkt 0x603900e0
def zq39_3:AT:=mkt 0x3657a64d4f81fd0e17d17c47b91d179f8cf9526117051d150c991
def zq39_4:AT:=mkt 0x603900f0
def zq39_5:AT:=mkt 0xa5628ee52d87aa09944379
def zq39_6:AT:=mkt 0x1011a9043a5b38eda282f0788944b51af566eef4a6853ac52a043e24e98fd7bd58130a
def zq39_7:AT:=mkt 0x510813c0601da3ef734498bf08eed4ef31782e73fdf89e25ec95ba0f4a
def zq39_8:AT:=mkt 0x3ab90bdd73fab25229a8a84e56e9930b1f5547303a1d9e1580d82
def zq39_9:AT:=mkt 0x2e89fd7782cc9492805aa
def QGV:AT:=mkt 0x171eefa61edfda1baeb9e5f3a3ed8ec0fd15c209eb710349280bba
def Qac:AF:=⟨59,[.tmp 4],
 (zg zq39_0 []
 (.seq (zg zq39_1 [7,8,9,10,11,12,13,14,15,16,17,18,19,20,21,22,23,24]
 (zw 25
 (zg zq39_2 []
 .ret)
 .skip))
 (zg zq39_3 [26,27,28,29,30]
 (zg zq39_4 []
 (.seq (zg zq39_5 [31]
 (zw 32
 (.reg zq39_6 [33,34,35,36,37,38,39,40])
 .skip))
 (.seq (zg zq39_7 [41,42,43,44,45,46]
 (zw 47
 (.reg zq39_8 [48,49,50,51,52])
 .skip))
 (zg zq39_9 [53,54]
 (zg QGV [55,56,57,58]
 .ret))))))))⟩
abbrev QgX:Nat:=120
def zq3a_0:AT:=mkt 0xaeb36a956da80258
def zq3a_1:AT:=mkt 0x1ba56bdc848415e5f67e8c3a4cb111c97346117004a8
def Zm:AF:=⟨11,[],
 (zg zq3a_0 [3,4]
 (.reg zq3a_1 [5,6,7,8,9,10]))⟩
abbrev Qfj:Nat:=121
def QBY:AT:=mkt 0x5ba997c520b88b188
def QBX:AT:=mkt 0x1ca8ef8842a18c04270
def QBW:AT:=mkt 0x848e53a0b3e1d0717cec340
def QBV:AT:=mkt 0x3c6fc120
def QBU:AT:=mkt 0x1070ef263e17e9db99810a5a00b5a1b0368
def QBT:AT:=mkt 0xb7f7086c7b6171b571d931e08438
def QBS:AT:=mkt 0x6acbc12fd81284218
def QBR:AT:=mkt 0xe76701e38220
def ZE:AF:=⟨21,[.tmp 2],
 (zg QBY []
 (zg QBX [6,7]
 (.seq (zg QBW [8]
 (.block 0 (.loop (zg QBV []
 (.seq (zw 12
 .skip
 (.exit 0))
 (.seq (.block 1 (zg QBU [13,14]
 (.reg QBT [15,16,17,18])))
 (.reg QBS [19])))))))
 (zg QBR [20]
 .ret))))⟩
abbrev Qfk:Nat:=122
abbrev QhW:Nat:=123
abbrev Qlb:Nat:=124
abbrev Qpt:Nat:=125
abbrev Qhp:Nat:=126
def zq3g_0:AT:=mkt 0x22bdcac4780b93cf6ee486ddcb38299d2cf2d20b88b1a8
def zq3g_1:AT:=mke 0x29b72fd2a0ae1da66fdf22deb69d6db759b6acc2573c28e0de4cd9 (mkt 0x2f1a418549f3244cd08d0277fc2e1553c6dce047fbe0ee6f619a5b7482c39054d8c938ceb33af8ad479eee3ef0d047c41f46e9)
def Qph:AF:=⟨25,[.cell 10 true 9],
 (zg zq3g_0 []
 (zg zq3g_1 [11,12,13,14,15,16,17,18,19,20,21,22,23,24]
 .ret))⟩
abbrev Qvv:Nat:=127
def zq3h_0:AT:=mkt 0x2f2b00e8
def zq3h_1:AT:=mkt 0x1b698d8d5b67c204f6e6066cd5ead7383620c3e98a7e846f0
def Zc:AF:=⟨14,[.tmp 5],
 (zg zq3h_0 []
 (zg zq3h_1 [6,7,8,9,10,11,12,13]
 .ret))⟩
abbrev Qeh:Nat:=128
def zq3i_0:AT:=mkt 0x2f2b00e0
def zq3i_1:AT:=mkt 0xa2c25cbc9475fd75290183303a4a969803e8
def XF:AF:=⟨9,[.tmp 4],
 (zg zq3i_0 []
 (zg zq3i_1 [5,6,7,8]
 .ret))⟩
abbrev Qa0:Nat:=129
def zq3j_0:AT:=mkt 0x215fed0929b190
def zq3j_1:AT:=mke 0x943cce53cb636a252fb3f8421c8dfacddda85686cbb96fa0f4f02a2e5c8d878bcf55a767f60843274d04e5dae2cb3cceec7a8 (mkt 0x5fd4b2464670cf0b524a85b5a203fd40901151156a264e7919fcc12c542d473c2965b6b2110f0cf7938e8738)
def YP:AF:=⟨23,[.tmp 4],
 (zg zq3j_0 []
 (zg zq3j_1 [5,6,7,8,9,10,11,12,13,14,15,16,17,18,19,20,21,22]
 .ret))⟩
abbrev Qdw:Nat:=130
def zq3k_0:AT:=mkt 0x16bcada4dbb45024c388b248
def zq3k_1:AT:=mkt 0xf9329927a4c3c9c57690560bbcd8e8cef05c2ee3b25c588
def zq3k_2:AT:=mkt 0x1f2f6d09e75d71bf37fcd4b633c0a9e91469d8746c34f8815e47819cb05ad049762425b2186480dd14fa4730
def zq3k_3:AT:=mkt 0x89a2dc2fc13d99b0fa6ec5d126da2ee180e0a91142acafca61ae54286df37d2b01cde3c75090d9
def zq3k_4:AT:=mkt 0x303451edadc0190
def zq3k_5:AT:=mkt 0x125b4a70ee8c948531a1de4601
def QlR:AF:=⟨34,[.tmp 2,.tmp 3],
 (zg zq3k_0 []
 (zg zq3k_1 [9,10,8,11,12,4]
 (zg zq3k_2 [14,15,16,13,17,18,7]
 (.seq (zg zq3k_3 [19,20,21,22,23,24,25,26,27,28,29,30]
 (zw 31
 (zg zq3k_4 []
 .ret)
 .skip))
 (zg zq3k_5 [32,33]
 .ret)))))⟩
abbrev Qs5:Nat:=131
def zq3l_0:AT:=mkt 0x2d62e2c24c388b188
def zq3l_1:AT:=mkt 0xcfa963f7fee3aa4ebc07776df82b6e80705c2ee3b25c578
def zq3l_2:AT:=mkt 0x3b900a079201d8
def zq3l_3:AT:=mkt 0x603900d0
def zq3l_4:AT:=mkt 0x39dae2d22a83814e1404e145d330cd0d0cab0b37e95fb16dd44e8
def zq3l_5:AT:=mkt 0xeb9c1d9212017458210
def zq3l_6:AT:=mkt 0xd28d20500e3c661ef74582e0
def zq3l_7:AT:=mkt 0x2ed5bd4458430773e1be8b1dd74582f0
def Qpj:AF:=⟨24,[.tmp 2],
 (zg zq3l_0 []
 (.seq (zg zq3l_1 [7,8,6,9,10,3]
 (zg zq3l_2 [11]
 (zw 12
 (zg zq3l_3 []
 .ret)
 .skip)))
 (zg zq3l_4 [13,14,15,16,17]
 (zg zq3l_5 [18,19]
 (zg zq3l_6 [20,21]
 (zg zq3l_7 [22,23]
 .ret))))))⟩
abbrev Qvw:Nat:=132
def zq3m_0:AT:=mkt 0x163f88424c388b188
def zq3m_1:AT:=mkt 0x577221a1aa43b735287530fc64bd58043a8439471c2b464293c9f6778f9cf20552a5a4d3eb9cd38c8f7a5c9d8
def Qdo:AF:=⟨15,[.tmp 2],
 (zg zq3m_0 []
 (zg zq3m_1 [3,4,5,6,7,8,9,10,11,12,13,14]
 .ret))⟩
abbrev Ql0:Nat:=133
def zq3n_0:AT:=mkt 0x215fed0929b190
def zq3n_1:AT:=mke 0x6a08c94265bc29f5775000ff02dfd3d21b3399578d059d39aedcd3963bdf3d8f1ea31e28ec2edf7a9e2465c7a8 (mkt 0xd0d080315fa36ec63903ad352cae6465aae74a842943d64f8)
def Zo:AF:=⟨20,[.tmp 4],
 (zg zq3n_0 []
 (zg zq3n_1 [5,6,7,8,9,10,11,12,13,14,15,16,17,18,19]
 .ret))⟩
abbrev Qfn:Nat:=134
def zq3o_0:AT:=mkt 0x163f8fcfdc348b190
def zq3o_1:AT:=mkt 0x28a6237b8fd43b9c3d049eebc3e0
def XY:AF:=⟨8,[.tmp 3],
 (zg zq3o_0 []
 (zg zq3o_1 [4,5,6,7]
 .ret))⟩
abbrev Qb5:Nat:=135
def zq3p_0:AT:=mkt 0x215fed0929b190
def zq3p_1:AT:=mkt 0xb370ad020d11a584029e362ced53cb8e77c298696eb6394d308ba0df29054c82b1568e529519e1b36366f3d32aa958bc7a2357d5d1ef01c530a7d8c01125d37b1761bbe862157205788465ca00
def zq3p_2:AT:=mkt 0x10eaf8107dc2a9c7699cb78b36e7d785cdc83837d398f25558d776c3b86f1c5803e13b22388be1
def zq3p_3:AT:=mkt 0x2f2b00e0
def zq3p_4:AT:=mkt 0x242a20d3468dff61d150c5e9
def zq3p_5:AT:=mkt 0x64ba4249
def zq3p_6:AT:=mkt 0xdf7cc9196f85a45932fb655377f94dbc464c3bfb621b100891
def zq3p_7:AT:=mkt 0x2bf3aadfc62ea409b00ff76c8d0978efb0bb210e534bab9cc17746715278767f421ba172a
def zq3p_8:AT:=mkt 0x2f2b00e0
def zq3p_9:AT:=mkt 0x304736db3ae51d20582
def QGU:AT:=mkt 0x47b200e0
def Qad:AF:=⟨49,[.tmp 4],
 (zg zq3p_0 []
 (zg zq3p_1 [8,9,10,11,12,13,14,15,16,17,18,19]
 (.seq (zg zq3p_2 [20,21,22,23,24,25,26,27]
 (zw 28
 (zg zq3p_3 []
 .ret)
 .skip))
 (.seq (zg zq3p_4 [29]
 (.block 0 (.loop (zg zq3p_5 []
 (.seq (zw 33
 .skip
 (.exit 0))
 (.seq (.block 1 (zg zq3p_6 [34,35,36]
 (zg zq3p_7 [37,38,39,40,41,42,43,44,45,46]
 (zw 47
 (zg zq3p_8 []
 .ret)
 .skip))))
 (.reg zq3p_9 [48])))))))
 (zg QGU []
 .ret)))))⟩
abbrev QgY:Nat:=136
def zq3q_0:AT:=mkt 0x163f88424c388b188
def zq3q_1:AT:=mkt 0x1d311300a429768908d63bda293d58dbdfcca681754be164c89dfa46d8
def QaV:AF:=⟨11,[.tmp 2],
 (zg zq3q_0 []
 (zg zq3q_1 [3,4,5,6,7,8,9,10]
 .ret))⟩
abbrev QhZ:Nat:=137
def zq3r_0:AT:=mkt 0x603900e0
def zq3r_1:AT:=mkt 0x5345ec869c10d4cd9274e96980340
def zq3r_2:AT:=mkt 0x5a54e024ffb81d8
def zq3r_3:AT:=mkt 0x96709fd701e8
def zq3r_4:AT:=mkt 0x1a8210c14a946b6382b0
def zq3r_5:AT:=mkt 0x322304a935f48ce290380
def zq3r_6:AT:=mkt 0x2cb1e7ead26ccbf2f70b7b006f1
def zq3r_7:AT:=mkt 0x10da690994e11d2a85d1
def zq3r_8:AT:=mkt 0x4f4e0234c0a963dcbde27e80731
def zq3r_9:AT:=mkt 0x1c03550b6446b7a7084d1
def QGT:AT:=mkt 0x251b807dc1806c5502e0
def QGS:AT:=mkt 0x15453c239aa20a87ae67e80621
def QGR:AT:=mkt 0xf59181c3537558d5540093a
def XR:AF:=⟨42,[.tmp 4],
 (zg zq3r_0 []
 (zg zq3r_1 [8,9,10]
 (.seq (zg zq3r_2 [11]
 (zw 12
 (zg zq3r_3 [13]
 .ret)
 .skip))
 (.seq (zg zq3r_4 [14,15]
 (.block 0 (.loop (.seq (zg zq3r_5 [16,17,18]
 (zw 19
 .skip
 (.exit 0)))
 (.seq (.block 1 (zg zq3r_6 [22,23,24,25]
 (zg zq3r_7 [26,27,28]
 (zw 29
 (zg zq3r_8 [30,31,32,33]
 (.reg zq3r_9 [34,35]))
 .skip))))
 (.reg QGT [20,21]))))))
 (zg QGS [36,37,38]
 (zg QGR [39,40,41]
 .ret))))))⟩
abbrev QbG:Nat:=138
def zq3s_0:AT:=mkt 0x603900d0
def zq3s_1:AT:=mkt 0x2a500a185bdeba80270
def zq3s_2:AT:=mkt 0x68248d4f01c8
def zq3s_3:AT:=mkt 0x1868d00d8
def zq3s_4:AT:=mkt 0x205c5befce836cb548350
def zq3s_5:AT:=mkt 0xd580414492d817ec0a2e470d3bf7565809ec2f1b5608bffd80d01
def zq3s_6:AT:=mkt 0x1a87ac96cc1ca4bed5805d1
def zq3s_7:AT:=mkt 0x1868d00e8
def zq3s_8:AT:=mkt 0x1818e25d14a62b987c85e9
def zq3s_9:AT:=mkt 0x27502aa2700bb52d3381cc384f308caa46b753aa4ef3c900350151a
def QGQ:AT:=mkt 0xacb3b0f89a790aff91ad224072efc27604558c0116a
def QGP:AT:=mkt 0x10c25649cde390372c07a2
def QGO:AT:=mkt 0x1b3673fa058597a7084c9
def QGN:AT:=mkt 0x540a3bfa62f5419333a4c009b2
def QGM:AT:=mkt 0x1615f08556a1e746a4c009ca
def QGL:AT:=mkt 0x1a80d62759d4898082b0
def QGK:AT:=mkt 0x30f250b7c805e2
def Ym:AF:=⟨61,[.tmp 2],
 (zg zq3s_0 []
 (.seq (zg zq3s_1 [6,7]
 (zw 8
 (zg zq3s_2 [9]
 .ret)
 .skip))
 (.seq (zg zq3s_3 []
 (.block 0 (.loop (.seq (zg zq3s_4 [10,11,12]
 (zw 13
 .skip
 (.exit 0)))
 (.seq (.block 1 (zg zq3s_5 [16,17,18,19,20,21,22,23,24]
 (zw 25
 (zg zq3s_6 [26,27,28]
 (.seq (zg zq3s_7 []
 (.block 2 (.loop (.seq (zg zq3s_8 [29,30,31]
 (zw 32
 .skip
 (.exit 2)))
 (.seq (.block 3 (zg zq3s_9 [35,36,37,38,39,40,41,42,43]
 (zw 44
 (zg QGQ [45,46,47,48,49,50,51]
 (.reg QGP [52,53]))
 .skip)))
 (.reg QGO [33,34]))))))
 (zg QGN [54,55,56]
 (zg QGM [57,58,59]
 .ret))))
 .skip)))
 (.reg QGL [14,15]))))))
 (zg QGK [60]
 .ret))))⟩
abbrev Qc8:Nat:=139
def zq3t_0:AT:=mkt 0x2f2b00d8
def zq3t_1:AT:=mkt 0x26c8e684c953da336101d3535c6b8c08fc8331bda2bf2ef22b0407a0
def Ze:AF:=⟨13,[.tmp 3],
 (zg zq3t_0 []
 (zg zq3t_1 [4,5,6,7,8,9,10,11,12]
 .ret))⟩
abbrev Qej:Nat:=140
def zq3u_0:AT:=mkt 0x47b20100
def zq3u_1:AT:=mkt 0x47b20108
def zq3u_2:AT:=mkt 0x1757539992872875b0398
def zq3u_3:AT:=mkt 0x30aa7b96dab0230
def zq3u_4:AT:=mkt 0x1bc193a43d3ebc9b9cf32bbbc4805c1
def zq3u_5:AT:=mkt 0x103a36d86e38361
def zq3u_6:AT:=mkt 0x222adc54ec5b3cc488381dbbc4805f1
def zq3u_7:AT:=mkt 0x2f66bf00391
def zq3u_8:AT:=mkt 0x289425059b77bced737d0fbbc480621
def zq3u_9:AT:=mkt 0xcf6f57bbb90d38f6c0742
def QGJ:AT:=mkt 0x26ef60e2da3760a7c749abea649e463f6357e2c8faa2cfc90c8667040135a
def QGI:AT:=mkt 0xc0ea4da3c90058a
def QGH:AT:=mkt 0x548126da57b780376486bd667040099a
def QGG:AT:=mkt 0x4a6a64694032c6eea7ed2df1292f56c64ce80fba
def QGF:AT:=mkt 0x1868d0120
def QGE:AT:=mkt 0x19db5ebd881d67390b937608caf8a579100a6da34a6219019eb
def QGD:AT:=mkt 0x71310b9d142768343be985f7f2e600e2b
def QGC:AT:=mke 0x45d968afb5cba1db8016a6ee588d2b1747344edb615f1221ce87d6204b (mkt 0x1081bae6047ef0d3ceda9b81187b39717ff60b919b)
def QGB:AT:=mkt 0x4d52a958783e99aeeb9eaa10c4b4a5e21adc3366014c3
def QGA:AT:=mkt 0xfd7683e92a08eb
def QGz:AT:=mkt 0x2ced6a9a4c7d95346382b005b0afde64c2e8f9edcef046c5f91826e05fe1c6850802afc
def QGy:AT:=mkt 0x28f96e031480b34
def QGx:AT:=mkt 0x20a59e0ac7183c9a3762e19b4b941fac0b96af0233c
def QGw:AT:=mkt 0x21bcc1ded631cf733100f6c
def QGv:AT:=mkt 0x3db6a91255d000f7c
def QGu:AT:=mkt 0x165fe4bfc8e52267fd801394
def QGt:AT:=mkt 0x706db954a65172791446eb7124f910c8b08017ac
def QGs:AT:=mkt 0x25b935aadd0cd958db00fd4
def QGr:AT:=mkt 0x184dabf21fe5a1a8028813e4
def QGq:AT:=mkt 0x141a3111a7de95e4e62a4d41c6206f458e7e12c865888027fd
def QGp:AT:=mkt 0xb363de33700102d
def XQ:AF:=⟨134,[],
 (zg zq3u_0 []
 (zg zq3u_1 []
 (.block 0 (.loop (.block 1 (zg zq3u_2 [19,20,21]
 (.seq (zg zq3u_3 [22]
 (zw 23
 (zg zq3u_4 [24,25,26,27]
 .ret)
 .skip))
 (.seq (zg zq3u_5 [28]
 (zw 29
 (zg zq3u_6 [30,31,32,33]
 .ret)
 .skip))
 (.seq (zg zq3u_7 [34]
 (zw 35
 (zg zq3u_8 [36,37,38,39]
 (.reg zq3u_9 [40,41]))
 .skip))
 (zg QGJ [43,44,45,46,42,47,48]
 (.seq (zg QGI [49]
 (zw 50
 (zg QGH [51,52,53,54]
 (zg QGG [55,56,57,58,59,60]
 (.reg QGF [])))
 .skip))
 (.seq (zg QGE [61,62,63,64,65,66,67]
 (zw 68
 (zg QGD [69,70,71]
 (zw 72
 .ret
 .skip))
 .skip))
 (.seq (zg QGC [73,74,75,76,77,78,79,80,81,82,83,84,85,86]
 (zw 87
 (zg QGB [88,89,90,91,92]
 (zg QGA [93]
 (.exit 1)))
 .skip))
 (zg QGz [95,96,97,98,99,94,100,101]
 (zg QGy [102]
 (zg QGx [103,104,105,106,107,108]
 (zg QGw [109,110]
 (zg QGv [111,112]
 (zw 113
 (zg QGu [114,115,116]
 (zg QGt [117,118,119,120,121]
 (.reg QGs [122,123])))
 (zg QGr [124,125,126]
 (zg QGq [127,128,129,130,131,132]
 (.reg QGp [133]))))))))))))))))))))))⟩
abbrev QbF:Nat:=141
abbrev Qgb:Nat:=142
abbrev Qov:Nat:=143
abbrev Qk8:Nat:=144
abbrev QiH:Nat:=145
abbrev Qj8:Nat:=146
def zq40_0:AT:=mkt 0xc25500e0
def zq40_1:AT:=mkt 0x176b4c6f133a80270
def zq40_2:AT:=mkt 0x3c6fc108
def zq40_3:AT:=mkt 0x73be4e6701d0
def zq40_4:AT:=mkt 0x32ea111974b2e22002d4d9047184d8
def zq40_5:AT:=mkt 0xc4b7598e8208
def zq40_6:AT:=mkt 0x6529ab46034d2c210
def zq40_7:AT:=mkt 0x127be400e0
def XW:AF:=⟨19,[.tmp 4],
 (zg zq40_0 []
 (.seq (zg zq40_1 [6]
 (.block 0 (.loop (zg zq40_2 []
 (.seq (zw 9
 .skip
 (.exit 0))
 (.seq (.block 1 (zg zq40_3 [10]
 (zg zq40_4 [11,12,13,14,15]
 (zw 16
 (zg zq40_5 [17]
 .ret)
 .skip))))
 (.reg zq40_6 [18])))))))
 (zg zq40_7 []
 .ret)))⟩
abbrev Qb3:Nat:=147
def zq41_0:AT:=mkt 0x19944c021b39fcd360a9b258
def zq41_1:AT:=mke 0x1041e480955017a1e1e62d9053fafe0c72d354d210321ab9db6268cb9 (mkt 0xe6bfdaa1bb7e9a545384614a7e96da2c5be577df493554e1527ebc9)
def QbC:AF:=⟨25,[.tmp 6],
 (zg zq41_0 []
 (zg zq41_1 [7,8,9,10,11,12,13,14,15,16,17,18,19,20,21,22,23,24]
 .ret))⟩
abbrev QiD:Nat:=148
def zq42_0:AT:=mkt 0xaeb36a956da80258
def zq42_1:AT:=mkt 0x1ba56bdc848d28250f5dbed1561611c97346117004a8
def X6:AF:=⟨11,[],
 (zg zq42_0 [3,4]
 (.reg zq42_1 [5,6,7,8,9,10]))⟩
abbrev Qcw:Nat:=149
def zq43_0:AT:=mkt 0x603900d0
def zq43_1:AT:=mkt 0x2a500a185bdeba80270
def zq43_2:AT:=mkt 0x68248d4f01c8
def zq43_3:AT:=mkt 0x1868d00d8
def zq43_4:AT:=mkt 0x205c5befce836cb548350
def zq43_5:AT:=mkt 0xd580414492d817ec0a2e470d3bf7565809ec2f1b5608bffd80d01
def zq43_6:AT:=mkt 0x1a87ac96cc1ca4bed5805d1
def zq43_7:AT:=mkt 0x1868d00e8
def zq43_8:AT:=mkt 0x1818e25d14a62b987c85e9
def zq43_9:AT:=mkt 0x27502aa2700bb52d3381cc384f308caa46b753aa4ef3c900350151a
def QGo:AT:=mkt 0xacb3b0f89a790aff91ad224072efc27604558c0116a
def QGn:AT:=mkt 0x10c25649cde390372c07a2
def QGm:AT:=mkt 0x1b3673fa058597a7084c9
def QGl:AT:=mkt 0x6004bde44c87419333a4c009b2
def QGk:AT:=mkt 0x1615f08556a1e746a4c009ca
def QGj:AT:=mkt 0x1a80d62759d4898082b0
def QGi:AT:=mkt 0x30f250b7c805e2
def XL:AF:=⟨61,[.tmp 2],
 (zg zq43_0 []
 (.seq (zg zq43_1 [6,7]
 (zw 8
 (zg zq43_2 [9]
 .ret)
 .skip))
 (.seq (zg zq43_3 []
 (.block 0 (.loop (.seq (zg zq43_4 [10,11,12]
 (zw 13
 .skip
 (.exit 0)))
 (.seq (.block 1 (zg zq43_5 [16,17,18,19,20,21,22,23,24]
 (zw 25
 (zg zq43_6 [26,27,28]
 (.seq (zg zq43_7 []
 (.block 2 (.loop (.seq (zg zq43_8 [29,30,31]
 (zw 32
 .skip
 (.exit 2)))
 (.seq (.block 3 (zg zq43_9 [35,36,37,38,39,40,41,42,43]
 (zw 44
 (zg QGo [45,46,47,48,49,50,51]
 (.reg QGn [52,53]))
 .skip)))
 (.reg QGm [33,34]))))))
 (zg QGl [54,55,56]
 (zg QGk [57,58,59]
 .ret))))
 .skip)))
 (.reg QGj [14,15]))))))
 (zg QGi [60]
 .ret))))⟩
abbrev Qbg:Nat:=150
def zq44_0:AT:=mkt 0x603900e0
def zq44_1:AT:=mkt 0x5345ec869c1265c3f77d896980340
def zq44_2:AT:=mkt 0x5a54e024ffb81d8
def zq44_3:AT:=mkt 0x96709fd701e8
def zq44_4:AT:=mkt 0x1a8210c14a946b6382b0
def zq44_5:AT:=mkt 0x322304a935f48ce290380
def zq44_6:AT:=mkt 0x2cb1e7ead26ccbf2f70b7b006f1
def zq44_7:AT:=mkt 0x10da690994e11d2a85d1
def zq44_8:AT:=mkt 0x4f4e0234c0a963dcbde27e80731
def zq44_9:AT:=mkt 0x1c03550b6446b7a7084d1
def QGh:AT:=mkt 0x251b807dc1806c5502e0
def QGg:AT:=mkt 0x184d5d8c8f234a87ae67e80621
def QGf:AT:=mkt 0xf59181c3537558d5540093a
def Xu:AF:=⟨42,[.tmp 4],
 (zg zq44_0 []
 (zg zq44_1 [8,9,10]
 (.seq (zg zq44_2 [11]
 (zw 12
 (zg zq44_3 [13]
 .ret)
 .skip))
 (.seq (zg zq44_4 [14,15]
 (.block 0 (.loop (.seq (zg zq44_5 [16,17,18]
 (zw 19
 .skip
 (.exit 0)))
 (.seq (.block 1 (zg zq44_6 [22,23,24,25]
 (zg zq44_7 [26,27,28]
 (zw 29
 (zg zq44_8 [30,31,32,33]
 (.reg zq44_9 [34,35]))
 .skip))))
 (.reg QGh [20,21]))))))
 (zg QGg [36,37,38]
 (zg QGf [39,40,41]
 .ret))))))⟩
abbrev Qag:Nat:=151
def zq45_0:AT:=mkt 0x2f2b00d0
def zq45_1:AT:=mkt 0x1c472a90691f688c40258
def QgO:AF:=⟨5,[.tmp 2],
 (zg zq45_0 []
 (zg zq45_1 [3,4]
 .ret))⟩
abbrev Qps:Nat:=152
def zq46_0:AT:=mkt 0xc25500e0
def zq46_1:AT:=mkt 0x176b4c6f133a80270
def zq46_2:AT:=mkt 0x3c6fc108
def zq46_3:AT:=mkt 0x73be4e6701d0
def zq46_4:AT:=mkt 0x111ea2ae7f5c4be1ea4b4d9047184d8
def zq46_5:AT:=mkt 0xc4b7598e8208
def zq46_6:AT:=mkt 0x6529ab46034d2c210
def zq46_7:AT:=mkt 0x127be400e0
def XX:AF:=⟨19,[.tmp 4],
 (zg zq46_0 []
 (.seq (zg zq46_1 [6]
 (.block 0 (.loop (zg zq46_2 []
 (.seq (zw 9
 .skip
 (.exit 0))
 (.seq (.block 1 (zg zq46_3 [10]
 (zg zq46_4 [11,12,13,14,15]
 (zw 16
 (zg zq46_5 [17]
 .ret)
 .skip))))
 (.reg zq46_6 [18])))))))
 (zg zq46_7 []
 .ret)))⟩
abbrev Qb4:Nat:=153
def zq47_0:AT:=mkt 0xfe8a104d3a8679d8280
def zq47_1:AT:=mkt 0x767d62c7ed90290
def zq47_2:AT:=mkt 0xad9c0c4c01f8
def zq47_3:AT:=mke 0x22f2142b4c08d8b031267643ff06b3ebe6a068dd8898d01 (mkt 0x1cdc6dfb07b33d5031791cb1753b5b3102e0aa9a22711)
def zq47_4:AT:=mke 0x153efc092151f63527f7626a48bb362456f2d86aa8d6df29c0150a (mkt 0x1ea250c303cc3eb292baebcd050b34d3b27e38b44316a9c0115a)
def zq47_5:AT:=mkt 0x199cead9ce0a67add84b9
def zq47_6:AT:=mkt 0x18bdd37736c26c5502a8
def Xi:AF:=⟨49,[],
 (zg zq47_0 [8,9]
 (.block 0 (.loop (.seq (zg zq47_1 [10,11]
 (zw 12
 .skip
 (.exit 0)))
 (.seq (.block 1 (zg zq47_2 [15]
 (.block 2 (.loop (.seq (zg zq47_3 [16,17,18,19,20,21,22,23,24,25,26,27,28,29]
 (zw 30
 .skip
 (.exit 2)))
 (.seq (.block 3 (.reg zq47_4 [33,34,35,36,37,38,39,40,41,42,43,44,45,46,47,48]))
 (.reg zq47_5 [31,32])))))))
 (.reg zq47_6 [13,14]))))))⟩
abbrev ZK:Nat:=154
abbrev Qk5:Nat:=155
abbrev QhV:Nat:=156
abbrev QiC:Nat:=157
abbrev Qin:Nat:=158
abbrev QeJ:Nat:=159
def zq4d_0:AT:=mkt 0x2f2b00e0
def zq4d_1:AT:=mkt 0xf2b9ba13db5a84b06b55e6b3b88f461a3d43183e4f73c9de43f5233464e0f013b9c436ed28e09e8
def cmp_Less_int:AF:=⟨17,[.tmp 4],
 (zg zq4d_0 []
 (zg zq4d_1 [5,6,7,8,9,10,11,12,13,14,15,16]
 .ret))⟩
abbrev Qnt:Nat:=160
abbrev Qho:Nat:=161
abbrev Qj7:Nat:=162
abbrev Qk9:Nat:=163
abbrev Qla:Nat:=164
abbrev QiG:Nat:=165
abbrev Qnr:Nat:=166
def zq4k_0:AT:=mkt 0x47b20100
def zq4k_1:AT:=mkt 0x47b20108
def zq4k_2:AT:=mkt 0x1757539992872875b0398
def zq4k_3:AT:=mkt 0x30aa7b96dab0230
def zq4k_4:AT:=mkt 0x1bc193a4495b0a69fe5613bbc4805c1
def zq4k_5:AT:=mkt 0x103a36d86e38361
def zq4k_6:AT:=mkt 0x222adc54f8778a92e99b05bbc4805f1
def zq4k_7:AT:=mkt 0x2f66bf00391
def zq4k_8:AT:=mkt 0x28942505a7940abbd4dff7bbc480621
def zq4k_9:AT:=mkt 0xcf6f57bbb90d38f6c0742
def QGe:AT:=mkt 0x26ef60e2da3760a7c749abea649e463f6357e33f2310d1bc7ec667040135a
def QGd:AT:=mkt 0xc0ea4da3c90058a
def QGc:AT:=mkt 0x548126da5f1a071783bde1667040099a
def QGb:AT:=mkt 0x4a6a64694032c6eea7ed2df1292f56c64ce80fba
def QGa:AT:=mkt 0x1868d0120
def QF9:AT:=mkt 0x19db5ebd881d67390b937608caf8a579100a6da34a6219019eb
def QF8:AT:=mkt 0x71310b9d1784f61f4652c957f2e600e2b
def QF7:AT:=mke 0x45d968afb5cba1db8016a6ee588d2b1747344edb615f1221ce87d6204b (mkt 0x1081bae6047ef0d3cede61517d38b9717ff60b919b)
def QF6:AT:=mkt 0x4d52a958783e99aef21a0a374672033630dc3366014c3
def QF5:AT:=mkt 0xfd7683e92a08eb
def QF4:AT:=mkt 0x2ced6a9a4c7d95346382b005b0afde64c2e8f9edcf13c6cdff40e06b7129c6850802afc
def QF3:AT:=mkt 0x28f96e031480b34
def QF2:AT:=mkt 0x20a59e0ac7183c9a3762e19b4b941fac0b96af0233c
def QF1:AT:=mkt 0x21bcc1ded631cf733100f6c
def QF0:AT:=mkt 0x3db6a91255d000f7c
def QFZ:AT:=mkt 0x165fe4bfc8e52267fd801394
def QFY:AT:=mkt 0x706db954a65454e02193d41e0b2d50c8b08017ac
def QFX:AT:=mkt 0x25b935aadd0cd958db00fd4
def QFW:AT:=mkt 0x184dabf21fe5a1a8028813e4
def QFV:AT:=mkt 0x141a3111a7deba60a7578682ac8044fcb11912c865888027fd
def QFU:AT:=mkt 0xb363de33700102d
def XE:AF:=⟨134,[],
 (zg zq4k_0 []
 (zg zq4k_1 []
 (.block 0 (.loop (.block 1 (zg zq4k_2 [19,20,21]
 (.seq (zg zq4k_3 [22]
 (zw 23
 (zg zq4k_4 [24,25,26,27]
 .ret)
 .skip))
 (.seq (zg zq4k_5 [28]
 (zw 29
 (zg zq4k_6 [30,31,32,33]
 .ret)
 .skip))
 (.seq (zg zq4k_7 [34]
 (zw 35
 (zg zq4k_8 [36,37,38,39]
 (.reg zq4k_9 [40,41]))
 .skip))
 (zg QGe [43,44,45,46,42,47,48]
 (.seq (zg QGd [49]
 (zw 50
 (zg QGc [51,52,53,54]
 (zg QGb [55,56,57,58,59,60]
 (.reg QGa [])))
 .skip))
 (.seq (zg QF9 [61,62,63,64,65,66,67]
 (zw 68
 (zg QF8 [69,70,71]
 (zw 72
 .ret
 .skip))
 .skip))
 (.seq (zg QF7 [73,74,75,76,77,78,79,80,81,82,83,84,85,86]
 (zw 87
 (zg QF6 [88,89,90,91,92]
 (zg QF5 [93]
 (.exit 1)))
 .skip))
 (zg QF4 [95,96,97,98,99,94,100,101]
 (zg QF3 [102]
 (zg QF2 [103,104,105,106,107,108]
 (zg QF1 [109,110]
 (zg QF0 [111,112]
 (zw 113
 (zg QFZ [114,115,116]
 (zg QFY [117,118,119,120,121]
 (.reg QFX [122,123])))
 (zg QFW [124,125,126]
 (zg QFV [127,128,129,130,131,132]
 (.reg QFU [133]))))))))))))))))))))))⟩
abbrev QaZ:Nat:=167
def zq4l_0:AT:=mkt 0xc25500e0
def zq4l_1:AT:=mkt 0x176b4c6f133a80270
def zq4l_2:AT:=mkt 0x3c6fc108
def zq4l_3:AT:=mkt 0x73be4e6701d0
def zq4l_4:AT:=mkt 0x111ea2ae7f5c4be1ea4b4d9047184d8
def zq4l_5:AT:=mkt 0xc4b7598e8208
def zq4l_6:AT:=mkt 0x6529ab46034d2c210
def zq4l_7:AT:=mkt 0x127be400e0
def XB:AF:=⟨19,[.tmp 4],
 (zg zq4l_0 []
 (.seq (zg zq4l_1 [6]
 (.block 0 (.loop (zg zq4l_2 []
 (.seq (zw 9
 .skip
 (.exit 0))
 (.seq (.block 1 (zg zq4l_3 [10]
 (zg zq4l_4 [11,12,13,14,15]
 (zw 16
 (zg zq4l_5 [17]
 .ret)
 .skip))))
 (.reg zq4l_6 [18])))))))
 (zg zq4l_7 []
 .ret)))⟩
abbrev QaD:Nat:=168
abbrev Qk2:Nat:=169
abbrev Qhr:Nat:=170
abbrev Qne:Nat:=171
abbrev Ql4:Nat:=172
abbrev Ql3:Nat:=173
def zq4r_0:AT:=mkt 0xfe8a104d3a8679d8280
def zq4r_1:AT:=mkt 0x767d62c7ed90290
def zq4r_2:AT:=mkt 0xad9c0c4c01f8
def zq4r_3:AT:=mke 0x22f2142b4c08d8b031267643ff06b3ebe6a068dd8898d01 (mkt 0x1cdc6dfb07b33d7eb9137a5631f3933102e0aa9a22711)
def zq4r_4:AT:=mke 0x153efc092151f63527f7626a48bb362456f2d86aa8d6df29c0150a (mkt 0x1ea250c303cc3eb292baebcd050b34d3b27e38b44316a9c0115a)
def zq4r_5:AT:=mkt 0x199cead9ce0a67add84b9
def zq4r_6:AT:=mkt 0x18bdd37736c26c5502a8
def Q4:AF:=⟨49,[],
 (zg zq4r_0 [8,9]
 (.block 0 (.loop (.seq (zg zq4r_1 [10,11]
 (zw 12
 .skip
 (.exit 0)))
 (.seq (.block 1 (zg zq4r_2 [15]
 (.block 2 (.loop (.seq (zg zq4r_3 [16,17,18,19,20,21,22,23,24,25,26,27,28,29]
 (zw 30
 .skip
 (.exit 2)))
 (.seq (.block 3 (.reg zq4r_4 [33,34,35,36,37,38,39,40,41,42,43,44,45,46,47,48]))
 (.reg zq4r_5 [31,32])))))))
 (.reg zq4r_6 [13,14]))))))⟩
abbrev Zq:Nat:=174
abbrev QjL:Nat:=175
abbrev QgS:Nat:=176
abbrev QhU:Nat:=177
abbrev Qhn:Nat:=178
abbrev Qd7:Nat:=179
def zq4x_0:AT:=mkt 0x2f2b00e0
def zq4x_1:AT:=mkt 0xf2b9ba13db5a84b06b55e6b3b88f461a3d43183e4f73cc16584903350712f013b9f886db28e09e8
def QcI:AF:=⟨17,[.tmp 4],
 (zg zq4x_0 []
 (zg zq4x_1 [5,6,7,8,9,10,11,12,13,14,15,16]
 .ret))⟩
abbrev Qkf:Nat:=180
abbrev Qgv:Nat:=181
abbrev QiB:Nat:=182
abbrev Qnd:Nat:=183
abbrev QjK:Nat:=184
abbrev Qgw:Nat:=185
abbrev Qk4:Nat:=186
abbrev Qk3:Nat:=187
abbrev Qwh:Nat:=216
def tab0:Nat→Option AF
 | 5=>some proofmarklaw25_RelateFresh
 | 6=>some proofmarklaw25_RelateAll
 | 8=>some proofmarklaw25_works
 | 9=>some Xy
 | 10=>some XO
 | 11=>some XH
 | 12=>some ZH
 | 13=>some Xn
 | 14=>some QbB
 | 17=>some proofmarklaw25_function
 | 18=>some QhG
 | 19=>some relate_Fresh
 | 20=>some Qc6
 | 21=>some Xx
 | 22=>some proofmarklaw25_holds
 | 23=>some Xz
 | 24=>some Qdb
 | 25=>some QhT
 | 26=>some Qc4
 | 27=>some Xj
 | 28=>some XI
 | 29=>some Qu
 | 30=>some QN
 | 32=>some Qn
 | 33=>some Xo
 | 34=>some Qc2
 | 35=>some Qo
 | 36=>some Zi
 | 38=>some Yd
 | 39=>some Qix
 | 40=>some ZI
 | 41=>some YN
 | 42=>some QaC
 | 43=>some QJ
 | 44=>some QI
 | 45=>some YM
 | 46=>some Yi
 | 47=>some XG
 | 48=>some YK
 | 49=>some Xp
 | 50=>some ZO
 | 51=>some ZG
 | 52=>some QbE
 | 54=>some Qdy
 | 59=>some Qq
 | 60=>some Qg1
 | 61=>some Qfc
 | 62=>some Qc1
 | 63=>some Qc3
 | 64=>some Zf
 | 65=>some QcV
 | 66=>some QcW
 | 67=>some XN
 | 68=>some Zz
 | _=>none
def tab1:Nat→Option AF
 | 77=>some QbL
 | 78=>some QbK
 | 79=>some cmp_isNaN_int
 | 80=>some QbW
 | 82=>some QcD
 | 83=>some QcC
 | 84=>some QcB
 | 85=>some QcA
 | 86=>some Qcz
 | 87=>some QO
 | 88=>some QP
 | 89=>some Qcy
 | 90=>some Qfq
 | 91=>some Qfb
 | 92=>some Qdp
 | 93=>some Zd
 | 94=>some Qab
 | 95=>some QxL
 | 96=>some Qaz
 | 97=>some Qay
 | 98=>some QbA
 | 99=>some Qcu
 | 100=>some Qe4
 | 101=>some Z7
 | 102=>some strconv_Itoa
 | 103=>some Qe3
 | 109=>some QY
 | 110=>some QZ
 | 111=>some Qpi
 | 112=>some QB
 | 113=>some QaA
 | 114=>some Zh
 | 115=>some Qc0
 | 116=>some Qaa
 | 117=>some Zb
 | 118=>some YO
 | 119=>some Zn
 | 120=>some Qac
 | 121=>some Zm
 | 122=>some ZE
 | 127=>some Qph
 | 128=>some Zc
 | 129=>some XF
 | 130=>some YP
 | 131=>some QlR
 | 132=>some Qpj
 | 133=>some Qdo
 | 134=>some Zo
 | 135=>some XY
 | 136=>some Qad
 | 137=>some QaV
 | 138=>some XR
 | 139=>some Ym
 | 140=>some Ze
 | 141=>some XQ
 | _=>none
def tab2:Nat→Option AF
 | 147=>some XW
 | 148=>some QbC
 | 149=>some X6
 | 150=>some XL
 | 151=>some Xu
 | 152=>some QgO
 | 153=>some XX
 | 154=>some Xi
 | 160=>some cmp_Less_int
 | 167=>some XE
 | 168=>some XB
 | 174=>some Q4
 | 180=>some QcI
 | _=>none
def tab (f:Nat):Option AF:=if f<73 then tab0 f else if f<143 then tab1 f else tab2 f
theorem Qbd:tab YC=some proofmarklaw25_RelateFresh:=rfl
theorem Qb1:tab Y9=some proofmarklaw25_RelateAll:=rfl
theorem Xe:tab Xh=some proofmarklaw25_works:=rfl
theorem Qw:tab Z2=some Xy:=rfl
theorem XV:tab Qbb=some XO:=rfl
theorem YL:tab QaF=some XH:=rfl
theorem ZC:tab QbI=some ZH:=rfl
theorem X3:tab ZL=some Xn:=rfl
theorem QhK:tab QhY=some QbB:=rfl
theorem QG:tab Qr=some proofmarklaw25_function:=rfl
theorem QfX:tab Qos=some QhG:=rfl
theorem Zg:tab Qar=some relate_Fresh:=rfl
theorem XD:tab QjP=some Qc6:=rfl
theorem Xd:tab Z1=some Xx:=rfl
theorem t_proofmarklaw25_holds:tab n_proofmarklaw25_holds=some proofmarklaw25_holds:=rfl
theorem Z0:tab Z3=some Xz:=rfl
theorem Qe7:tab Qfp=some Qdb:=rfl
theorem Qbr:tab Qou=some QhT:=rfl
theorem Qe6:tab QjO=some Qc4:=rfl
theorem X5:tab X7=some Xj:=rfl
theorem QM:tab QaG=some XI:=rfl
theorem Xr:tab Xt=some Qu:=rfl
theorem Yl:tab Xg=some QN:=rfl
theorem QL:tab Xk=some Qn:=rfl
theorem X4:tab ZM=some Xo:=rfl
theorem QjC:tab QjM=some Qc2:=rfl
theorem QD:tab Q6=some Qo:=rfl
theorem Qd2:tab Qea=some Zi:=rfl
theorem Qcn:tab Qcr=some Yd:=rfl
theorem QEO:tab QqY=some Qix:=rfl
theorem Qsk:tab Qgc=some ZI:=rfl
theorem QcX:tab Qc9=some YN:=rfl
theorem Qgr:tab QgA=some QaC:=rfl
theorem X0:tab X2=some QJ:=rfl
theorem Qs:tab X1=some QI:=rfl
theorem QT:tab Qah=some YM:=rfl
theorem QaT:tab QaY=some Yi:=rfl
theorem Qaw:tab QaE=some XG:=rfl
theorem QR:tab Qaf=some YK:=rfl
theorem Q3:tab ZN=some Xp:=rfl
theorem Qby:tab Qfo=some ZO:=rfl
theorem Qe5:tab QbH=some ZG:=rfl
theorem ZD:tab Qdx=some QbE:=rfl
theorem Qxw:tab Ql5=some Qdy:=rfl
theorem Q9:tab Xa=some Qq:=rfl
theorem QzT:tab Qpu=some Qg1:=rfl
theorem Qzm:tab Qnq=some Qfc:=rfl
theorem QgL:tab QgT=some Qc1:=rfl
theorem Qcm:tab QjN=some Qc3:=rfl
theorem Qd0:tab Qd5=some Zf:=rfl
theorem Qjz:tab QjI=some QcV:=rfl
theorem QjA:tab QjJ=some QcW:=rfl
theorem Q7:tab Qba=some XN:=rfl
theorem ZA:tab Qfh=some Zz:=rfl
theorem Qvh:tab QiF=some QbL:=rfl
theorem Qvg:tab QiE=some QbK:=rfl
theorem Qxx:tab Ql6=some cmp_isNaN_int:=rfl
theorem Qvi:tab QiI=some QbW:=rfl
theorem Qwf:tab Qke=some QcD:=rfl
theorem Qwe:tab Qkd=some QcC:=rfl
theorem Qwd:tab Qkc=some QcB:=rfl
theorem Qwc:tab Qkb=some QcA:=rfl
theorem Qwb:tab Qka=some Qcz:=rfl
theorem Qec:tab Yo=some QO:=rfl
theorem Qed:tab Yp=some QP:=rfl
theorem Qwa:tab Qj9=some Qcy:=rfl
theorem Qzn:tab Qns=some Qfq:=rfl
theorem QlH:tab QgU=some Qfb:=rfl
theorem Qxv:tab Ql1=some Qdp:=rfl
theorem Qqa:tab Qei=some Zd:=rfl
theorem QsH:tab QgW=some Qab:=rfl
theorem QsF:tab Qx9=some QxL:=rfl
theorem Qao:tab Qgy=some Qaz:=rfl
theorem Qgq:tab Qcx=some Qay:=rfl
theorem QhJ:tab QhX=some QbA:=rfl
theorem Qj5:tab Qd9=some Qcu:=rfl
theorem QlE:tab QlZ=some Qe4:=rfl
theorem QgJ:tab Zp=some Z7:=rfl
theorem Qnj:tab Qcv=some strconv_Itoa:=rfl
theorem QlD:tab QlY=some Qe3:=rfl
theorem QfY:tab YW=some QY:=rfl
theorem QfZ:tab YX=some QZ:=rfl
theorem Qok:tab Qot=some Qpi:=rfl
theorem XT:tab XU=some QB:=rfl
theorem Qcs:tab Qgz=some QaA:=rfl
theorem Qd1:tab Qa1=some Zh:=rfl
theorem Qav:tab Qfl=some Qc0:=rfl
theorem QsG:tab QgV=some Qaa:=rfl
theorem Qp8:tab Qeg=some Zb:=rfl
theorem Qpa:tab Qdv=some YO:=rfl
theorem QqK:tab Qfm=some Zn:=rfl
theorem QsI:tab QgX=some Qac:=rfl
theorem QqJ:tab Qfj=some Zm:=rfl
theorem ZB:tab Qfk=some ZE:=rfl
theorem QJC:tab Qvv=some Qph:=rfl
theorem Qp9:tab Qeh=some Zc:=rfl
theorem Qj4:tab Qa0=some XF:=rfl
theorem Qpb:tab Qdw=some YP:=rfl
theorem QHQ:tab Qs5=some QlR:=rfl
theorem QJD:tab Qvw=some Qpj:=rfl
theorem Qxu:tab Ql0=some Qdo:=rfl
theorem QqL:tab Qfn=some Zo:=rfl
theorem Qnc:tab Qb5=some XY:=rfl
theorem QsJ:tab QgY=some Qad:=rfl
theorem Qt7:tab QhZ=some QaV:=rfl
theorem QlG:tab QbG=some XR:=rfl
theorem Qoj:tab Qc8=some Ym:=rfl
theorem Qqb:tab Qej=some Ze:=rfl
theorem QlF:tab QbF=some XQ:=rfl
theorem Qna:tab Qb3=some XW:=rfl
theorem Qvf:tab QiD=some QbC:=rfl
theorem Qnk:tab Qcw=some X6:=rfl
theorem QkU:tab Qbg=some XL:=rfl
theorem Qit:tab Qag=some Xu:=rfl
theorem QzS:tab Qps=some QgO:=rfl
theorem Qnb:tab Qb4=some XX:=rfl
theorem QhI:tab ZK=some Xi:=rfl
theorem Qzo:tab Qnt=some cmp_Less_int:=rfl
theorem Qj3:tab QaZ=some XE:=rfl
theorem QjB:tab QaD=some XB:=rfl
theorem QgK:tab Zq=some Q4:=rfl
theorem Qwg:tab Qkf=some QcI:=rfl
abbrev wd:AC:=zg Qci [] (.seq (zw 121 .skip (.exit 6)) (.seq (.block 7 (zg QcT [122,123] (zg QcS [124,125] (.block 8 (zg QcR [128] (zw 127 (.reg QcQ [129,130,131,132,133,134,135,136,137,138,139]) (zg QcP [141] (zw 140 (.reg QcO [142,143,144,145,146,147,148,149,150,151,152,153]) .skip)))))))) (.reg QcN [154])))
abbrev we:AC:=zg QdZ [] (.seq (zw 107 .skip (.exit 4)) (.seq (.block 5 (zg QeM [108] (.reg QeL [109,110,111,112,113,114,115,116]))) (.reg QeK [117])))
abbrev wi:AC:=.seq (zg Qlo [59,60,61,62,63,64,65] (zw 66 .skip (.exit 0))) (.seq (.block 1 (zg Qln [69,70,71,72,73,74,75,76,77,78,79,80] (.block 2 (zg QeZ [82,83,84] (zw 81 (.reg QeY [85,86,87,88,89]) (zg QeX [91,92,93] (zw 90 (.reg QeW [94,95]) (zg QeV [97,98,99,100,101,102,103,104,105,106,107,108] (zw 96 (.reg QeU [109,110,111,112,113,114,115,116,117,118,119]) (zg QeT [121,122,123,124,125,126,127,128,129,130] (zw 120 (.reg QeS [131,132,133,134,135]) .skip))))))))))) (.reg QeR [67,68]))
abbrev wj:AC:=.seq (zg Qqr [141,142,143,144,145,146] (zw 147 .skip (.exit 4))) (.seq (.block 5 (zg Qqq [] (.seq (zg Qqp [] (.block 6 (.loop (.seq (zg Qjm [150,151,152] (zw 153 .skip (.exit 6))) (.seq (.block 7 (.reg Qjl [156,157,158,159,160,161,162,163,164])) (.reg Qjk [154,155])))))) (zg Qqo [165,166,167,168,169,170,171,172] (zw 173 (zg Qqn [] .ret) .skip))))) (.reg Qqm [148,149]))
abbrev wq:AC:=.seq (zg Qjt [113,114] (zw 115 .skip (.exit 2))) (.seq (.block 3 (zg Qjs [118,119,120,121,122,123,124,125,126] (zw 127 (zg Qjr [] .ret) .skip))) (.reg Qjq [116,117]))
abbrev ww:AC:=.seq (zg Qjx [93,94,95] (zw 96 .skip (.exit 0))) (.seq (.block 1 (zg Qjw [99,100,101,102,103,104] (zw 105 (.reg Qjv [106,107,108,109,110,111,112]) .skip))) (.reg Qju [97,98]))
abbrev wy:AC:=.seq (zg QhF [139,140] (zw 141 .skip (.exit 3))) (.seq (.block 4 (zg QhE [] (.block 5 (.loop (.seq (zg QeQ [144] (zw 145 .skip (.exit 5))) (.seq (.block 6 (zg QeP [] (.block 7 (.loop (.seq (zg Qcl [148] (zw 149 .skip (.exit 7))) (.seq (.block 8 (zg Qck [152,153,154,155,156] (zg Qbx [157,158,159,160,161,162,163,164,165,166,167] (zg Qbw [168,169,170,171,172,173,174,175,176,177,178,179,180,181,182,183,184,185,186,187] (zw 188 (zg Qbv [] .ret) .skip))))) (.reg Qcj [150,151]))))))) (.reg QeO [146,147]))))))) (.reg QhD [142,143]))
abbrev wB:AC:=zg Qgp [] (.seq (zw 68 .skip (.exit 2)) (.seq (.block 3 (zg QhA [69,70] (zg Qhz [71,72,73,74,75] (zg Qhy [77,78,79,76,80,81,24] (zg Qhx [82,83,84,85,86,87,88] (zw 89 (.reg Qhw [90,91,92,93,94,95,96]) .skip)))))) (.reg Qhv [97])))
abbrev wC:AC:=zg Qni [] (.seq (zw 52 .skip (.exit 0)) (.seq (.block 1 (zg QoS [53,54] (.reg QoR [55,56,57,58,59,60,61,62]))) (.reg QoQ [63])))
abbrev wD:AC:=.seq (zg Qlt [18,19,20] (zw 21 .skip (.exit 4))) (.seq (.block 5 (.seq (zg Qls [24,25,26,27,28,29,30,31,32,33,34,35,36,37,38,39,40,41,42,43,44,45,46,47,48,49,50,51,52,53,54,55,56,57,58,59,60,61,62,63,64,65] (zw 66 (.exit 5) .skip)) (zg QgF [67,68,69,70,71,72,73,74] (.reg QgE [])))) (.reg QgD [22,23]))
abbrev wE:AC:=.seq (zg QqC [12,13,14] (zw 15 .skip (.exit 2))) (.seq (.block 3 (zg QqB [] (.block 4 (.loop (.seq (zg Qlt [18,19,20] (zw 21 .skip (.exit 4))) (.seq (.block 5 (.seq (zg Qls [24,25,26,27,28,29,30,31,32,33,34,35,36,37,38,39,40,41,42,43,44,45,46,47,48,49,50,51,52,53,54,55,56,57,58,59,60,61,62,63,64,65] (zw 66 (.exit 5) .skip)) (zg QgF [67,68,69,70,71,72,73,74] (.reg QgE [])))) (.reg QgD [22,23]))))))) (.reg Qlu [16,17]))
abbrev wF:AC:=.seq (zg Qql [38,39,40] (zw 41 .skip (.exit 2))) (.seq (.block 3 (.reg Qqk [44,45,46,47,48,49,50,51,52,53,54,55,56])) (.reg Qjn [42,43]))
abbrev wG:AC:=.seq (zg Qjm [150,151,152] (zw 153 .skip (.exit 6))) (.seq (.block 7 (.reg Qjl [156,157,158,159,160,161,162,163,164])) (.reg Qjk [154,155]))
abbrev wH:AC:=.seq (zg QwJ [32,33,34] (zw 35 .skip (.exit 0))) (.seq (.block 1 (zg QwI [] (.seq (zg QwH [] (.block 2 (.loop (.seq (zg Qql [38,39,40] (zw 41 .skip (.exit 2))) (.seq (.block 3 (.reg Qqk [44,45,46,47,48,49,50,51,52,53,54,55,56])) (.reg Qjn [42,43])))))) (.seq (zg Qqz [57] (zw 58 (.exit 1) .skip)) (.seq (zg Qqy [59,60,61,62,63,64,65,66,67] (zw 68 (zg Qqx [] (zg Qqw [69,70,71,72,73,74,75,76] (zw 77 (zg Qqv [] .ret) .skip))) .skip)) (zg Qqu [78,79,80,81,82,83,84,85,86,87,88,89,90,91,92,93,94,95,96,97,98,99,100,101,102,103,104,105,106,107,108,109,110] (zw 111 (zg Qqt [] .ret) .skip))))))) (.reg Qqs [36,37]))
abbrev wI:AC:=.seq (zg QwG [19] (zw 20 .skip (.exit 0))) (.seq (.block 1 (zg QwF [23,24,25,26,27,28,29] (zw 30 (.reg QwE [31,32,33,34,35,36,37,38]) .skip))) (.reg QwD [21,22]))
abbrev wJ:AC:=.seq (zg QwC [39,40,41,42,43] (zw 44 .skip (.exit 2))) (.seq (.block 3 (zg QwB [47,48,49] (zw 50 (.reg Qqj [51,52,53,54,55,56,57,58,59]) .skip))) (.reg Qqi [45,46]))
abbrev wK:AC:=.seq (zg Qoc [103,104] (zw 105 .skip (.exit 6))) (.seq (.block 7 (zg Qob [108,109,110,111,112,113,114,115] (zw 116 (zg Qoa [] .ret) .skip))) (.reg Qn9 [106,107]))
abbrev wL:AC:=.seq (zg Qn8 [117,118,119,120] (zw 121 .skip (.exit 8))) (.seq (.block 9 (zg Qn7 [124,125,126,127,128,129,130,131,132] (zw 133 (zg Qn6 [] .ret) .skip))) (.reg Qn5 [122,123]))
abbrev wM:AC:=.seq (zg QtW [60,61,62] (zw 63 .skip (.exit 4))) (.seq (.block 5 (zg QtV [67,68,69,70,71,72,66,73,74] (.seq (zg QtU [75,76,77,78,79,80,81,82,83,84,85,86,87,88,89,90,91,92,93,94,95,96,97,98,99,100,101] (zw 102 (zg QtT [] .ret) .skip)) (.seq (zg QtS [] (.block 6 (.loop (.seq (zg Qoc [103,104] (zw 105 .skip (.exit 6))) (.seq (.block 7 (zg Qob [108,109,110,111,112,113,114,115] (zw 116 (zg Qoa [] .ret) .skip))) (.reg Qn9 [106,107])))))) (zg QtR [] (.block 8 (.loop (.seq (zg Qn8 [117,118,119,120] (zw 121 .skip (.exit 8))) (.seq (.block 9 (zg Qn7 [124,125,126,127,128,129,130,131,132] (zw 133 (zg Qn6 [] .ret) .skip))) (.reg Qn5 [122,123])))))))))) (.reg QtQ [64,65]))
abbrev wN:AC:=zg Qt2 [] (.seq (zw 12 .skip (.exit 0)) (.seq (.block 1 (zg Qt1 [13,14] (zg Qt0 [15] (zw 16 (.reg QtZ [17,18,19,20]) .skip)))) (.reg QtY [21])))
abbrev wO:AC:=zg QtX [] (.seq (zw 26 .skip (.exit 2)) (.seq (.block 3 (zg Qo1 [27,28,29] (.reg Qo0 [30,31,32,33]))) (.reg QoZ [34])))
abbrev wP:AC:=zg Qlm [58] (.seq (zw 59 .skip (.exit 2)) (.block 3 (zg Qll [60,61,62] (zg Qlk [63,64] (zw 65 (.reg Qlj [66,67,68,69,70,71]) .skip)))))
abbrev wQ:AC:=.seq (zg Qwt [18,19,20,21] (zw 22 .skip (.exit 0))) (.seq (.block 1 (zg Qws [25,26] (.seq (zg Qwr [27] (zw 28 (.reg Qwq [29,30,31,32,33]) .skip)) (.seq (zg Qwp [35,36,37,34,38,39,9] (zg Qwo [40] (zw 41 (.exit 1) .skip))) (.seq (zg Qqh [43,44,45,42,46,47] (zg Qqg [] (zw 48 (.reg Qqf [49,50,51,52,53,54,55]) .skip))) (zg Qqe [56] (.block 2 (.loop (zg Qlm [58] (.seq (zw 59 .skip (.exit 2)) (.block 3 (zg Qll [60,61,62] (zg Qlk [63,64] (zw 65 (.reg Qlj [66,67,68,69,70,71]) .skip)))))))))))))) (.reg Qn4 [23,24]))
abbrev wR:AC:=.seq (zg Qcl [148] (zw 149 .skip (.exit 7))) (.seq (.block 8 (zg Qck [152,153,154,155,156] (zg Qbx [157,158,159,160,161,162,163,164,165,166,167] (zg Qbw [168,169,170,171,172,173,174,175,176,177,178,179,180,181,182,183,184,185,186,187] (zw 188 (zg Qbv [] .ret) .skip))))) (.reg Qcj [150,151]))
abbrev wS:AC:=.seq (zg QeQ [144] (zw 145 .skip (.exit 5))) (.seq (.block 6 (zg QeP [] (.block 7 (.loop (.seq (zg Qcl [148] (zw 149 .skip (.exit 7))) (.seq (.block 8 (zg Qck [152,153,154,155,156] (zg Qbx [157,158,159,160,161,162,163,164,165,166,167] (zg Qbw [168,169,170,171,172,173,174,175,176,177,178,179,180,181,182,183,184,185,186,187] (zw 188 (zg Qbv [] .ret) .skip))))) (.reg Qcj [150,151]))))))) (.reg QeO [146,147]))
end Go.Proofs.YtfgccihafnjalaaGreatDoor
