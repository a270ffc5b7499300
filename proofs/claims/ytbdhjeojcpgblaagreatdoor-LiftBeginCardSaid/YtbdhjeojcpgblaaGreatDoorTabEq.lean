/- Ours. -/
import Derived.Test.YtbdhjeojcpgblaaGreatDoorTabB
import Derived.Test.YtbdhjeojcpgblaaGreatDoorProg
namespace Go.Proofs.YtbdhjeojcpgblaaGreatDoor
open Go Go.Am
set_option maxRecDepth 100000
def Qb0:Nat→List Nat:=fun i=>[[],[],[],[],[8,9,10,11],[],[12,13],[],[],[],[17,18,19,20,21,22,23,24,25,26,27,28],[0,0,3,0,3,3,3,3,3,0,3,3,2],[29,30,31,32],[],[33],[]].getD i []
theorem QuX:(rngOf Tryz.prog 111 0).map (fun r=>(Xn Tryz.prog 34 (fun _=>false) Qb0 (rngA r),Qt2 (rngA r)))=some (some Qip,true):=by kernel_rfl
theorem QuW:(rngOf Tryz.prog 111 0).map (fun r=>(Xn Tryz.prog 34 (fun _=>false) Qb0 (rngB r),Qt2 (rngB r)))=some (some Qio,true):=by kernel_rfl
def uC (N:Nat):List (List Nat):=(uli (fun N=>match N%4 with
 | 0=>([],N/4)
 | 1=>ubd unt (fun a=>ump (List.range' a) unt) (N/4)
 | 2=>uli (udg 4) (N/4)
 | _=>uli unt (N/4)) N).1
theorem czm {α β:Type} (g k:α→β):∀ l:List α,l.foldr (fun c r=>g c::r) []=l.map k→∀ c∈l,g c=k c
 | [],_,c,h=>by cases h
 | a::r,e,c,h=>by
  simp only [List.foldr_cons,List.map_cons,List.cons.injEq] at e
  rcases List.mem_cons.1 h with rfl | h
  ·exact e.1
  ·exact czm g k r e.2 c h
abbrev czP (c:Nat×List Nat×List (List Nat)×AF):Prop:=Qe Tryz.prog c.1=true∧Qm Tryz.prog (fun d=>c.2.1.contains d) (fun i=>c.2.2.1.getD i []) c.1=some c.2.2.2
abbrev czQ (l:List (Nat×List Nat×List (List Nat)×AF)):Prop:=l.all (fun c=>Qe Tryz.prog c.1)=true∧l.foldr (fun c l=>Qm Tryz.prog (fun d=>c.2.1.contains d) (fun i=>c.2.2.1.getD i []) c.1::l) []=l.map fun c=>some c.2.2.2
theorem czo {l:List (Nat×List Nat×List (List Nat)×AF)} (h:czQ l):∀ c∈l,czP c:=fun c hc=>⟨List.all_eq_true.1 h.1 c hc,czm _ _ _ h.2 c hc⟩
theorem czp {l m:List (Nat×List Nat×List (List Nat)×AF)} (h:∀ c∈l,czP c) (k:∀ c∈m,czP c):∀ c∈l++m,czP c:=fun c hc=>(List.mem_append.1 hc).elim (h c) (k c)
def cza0:List (Nat×List Nat×List (List Nat)×AF):=[(3,[53,94,129],uC 0x10096f10020093f1020091f100c0084f10020fc0082f001efc0081f00203c007ff001fbc007df001f3c27020079f1030075f10040071f104006df1060067f100050061f100183c005ff00167c005ef00177c005cf0016fc005af08c3cfff3fcffff3ff37e7ba40b84df6b75d33cb1c2fb8bc06c40aa40e64006542d94617516545c3a,QY),
 (7,[],uC 0x28501810471b03816d0261175925544c6c0514008c4004b408841a,Qd3),
 (8,[],uC 0x283404,Yn),
 (9,[46,58,67,76,85,93,106,107,122,123,156],uC 0x3fb3f7fcff3fffff3febf7ff3febf7fcc0103c800ffc0060f10017fc005ef00163c005df00173c005bf0016bc0059f08e97f83f3638015fc0056f0013fc0055f00153c0053f0014bc0051f00143c2ba5fe0fcd8013bc004df0011bc004cf0012fc004af00127c0048f0011fc27a5fe0fcd80117c0044f000f7c0043f0010bc0041f00103c003ff000fbc27a5fe0fcd800f3cef4eb9e37db52703c506c2fa6eb6caea2701a1007811f79a75c6c6c21241c,proofmarklaw23_works),
 (10,[],uC 0xc1404,Qib),
 (11,[26,33,54],uC 0x10042ed01e9b9b7221f3401aa406940e64065415f405e415840056400110404f408d426,Qee)]
theorem czb0:czQ cza0:=⟨by kernel_rfl,by kernel_rfl⟩
def cza1:List (Nat×List Nat×List (List Nat)×AF):=[(12,[],uC 0x255006390d3082ca246c0a,QcH),
 (13,[],uC 0x1cb404a40c6408,Zd),
 (14,[93,108,121,122,160],uC 0x700a5f1a41208028fc4040287c78f33cffccd493008ef1a412080233c6b7f08860086f108007df1001f3c007bf001cfc007af001e7c0078f001dfc0076f001d7c0074f0ac0c01c3c41801a7c4200187c41c0167c40c015bc6904820053f1030050f1a4c1a10012fc420010fc6904820040f108e1a4120b540f2690482bd089d04890575a41209b430e438,Qed),
 (18,[],uC 0x40113c41800fbc40400f3c4efac79e37db5d33c8bc0af41a840592409040cc4008a41a,XJ),
 (19,[13],uC 0xce414940484004740c,Qab),
 (20,[],uC 0x1401dfc42401bbc40401b7c41401a3c404019bc40c018fc410017fc40c016fc404016bc4014014bc430011bc4040117c6fe43ff3633940f640744cf2bf1c05c0ec401a240617bf3f30c8b59155104d2446c30,Qak)]
theorem czb1:czQ cza1:=⟨by kernel_rfl,by kernel_rfl⟩
def cza2:List (Nat×List Nat×List (List Nat)×AF):=[(21,[],uC 0x1a44029942d85d3595507c25244d40f387c0c,QiA),
 (22,[],uC 0x105404,Qd5),
 (23,[18],uC 0x14f4004d414c2c7289207c0a,Qiz),
 (24,[],uC 0x1054083406,QaG),
 (25,[],uC 0x105404,Qiy),
 (26,[],uC 0x3c5404,Qav)]
theorem czb2:czQ cza2:=⟨by kernel_rfl,by kernel_rfl⟩
def cza3:List (Nat×List Nat×List (List Nat)×AF):=[(27,[],uC 0x83404,Qgj),
 (28,[],uC 0xc540043408,QV),
 (29,[],uC 0x3c5404,Yg),
 (30,[],uC 0x54420c408a408,Qgk),
 (31,[],uC 0x207404,Qbv),
 (32,[30,40,41],uC 0xa4c1a134690482c905b12baa0a689e69648e284ce98f33ccdd4e44f408c40e,QcR)]
theorem czb3:czQ cza3:=⟨by kernel_rfl,by kernel_rfl⟩
def cza4:List (Nat×List Nat×List (List Nat)×AF):=[(34,[],uC 0xc0123c404011fc43b94078432b406a40e6406442e389e8607c7c09c400d5405440052415140c3ce347c22,QmT),
 (35,[32,40,51,54,66,81,109,112,113,114],uC 0x3abefd4c8b0068f1010067f1010066f1010065f1030061f1010060f1fcc1a10016fc404016bc4040167c4004015bc7f306840052f105004df1090043f104003ff107dd06c5001bd2eb69b2ba86c1a34062411d405c405940153409143a,Qco),
 (36,[],uC 0xa412092410e4148408,QiM),
 (37,[],uC 0x1e641df415941154034740e,Qbx),
 (42,[],uC 0x13740b5417041a94221405f4015a40487416,Yv),
 (46,[32,35,36,44],uC 0x6d40ea4125425c4157402cb410,Qgl)]
theorem czb4:czQ cza4:=⟨by kernel_rfl,by kernel_rfl⟩
def cza5:List (Nat×List Nat×List (List Nat)×AF):=[(52,[],uC 0x1d3d001350c2c7289206c0a,QfW),
 (53,[],uC 0xfa4cf3cf3cf3ccdd9b003ff1005e502b3500c2c7289206c10,Qd0),
 (54,[],uC 0x7440b2498c414740a,Z2),
 (55,[],uC 0x382404,Z1),
 (56,[],uC 0x282404,Z0),
 (57,[],uC 0x482404,ZZ)]
theorem czb5:czQ cza5:=⟨by kernel_rfl,by kernel_rfl⟩
def cza6:List (Nat×List Nat×List (List Nat)×AF):=[(58,[],uC 0x143404,ZY),
 (59,[],uC 0x105404,Qn),
 (60,[],uC 0x105404,Qo),
 (61,[],uC 0xc3404,ZX),
 (62,[45],uC 0x400fbc40400f7c6f43326235407340b14049b41d440d14050404e40cb404a41c,QfS),
 (63,[],uC 0x614064740c440a,QaD)]
theorem czb6:czQ cza6:=⟨by kernel_rfl,by kernel_rfl⟩
def cza7:List (Nat×List Nat×List (List Nat)×AF):=[(64,[20],uC 0x6240a0411b4099400348412,XX),
 (65,[],uC 0x6e40ac4128406640e34061405f4005e405d411940974009140504008b404a426,Yu),
 (66,[],uC 0x103404,Qcm),
 (67,[37,87],uC 0x7005df101005cf101005af1eef1221c014fc424012bc4140113c404010fc41000fbc40fb401b4436679fc1e1a040dc46da559617587c5133924503c7c22,ZT),
 (68,[],uC 0x10069f1bef9f3f5f3ff6258014fc6ebf50fd3fd4920041f1010040f1fcf3ff3cff524ae40ac4006740e4415f405e43ff03f2e71b51a6585d6549c01cc420,YR),
 (69,[],uC 0x3f0f3ff3ff4e487404,Zh)]
theorem czb7:czQ cza7:=⟨by kernel_rfl,by kernel_rfl⟩
def cza8:List (Nat×List Nat×List (List Nat)×AF):=[(70,[],uC 0x485404,XF),
 (72,[],uC 0x584096405540d2409040004b40004a418,Zc),
 (74,[],uC 0x105404,Qnc),
 (75,[],uC 0x105404,ZV),
 (76,[],uC 0x23d0e34930b286c087408,Qp1),
 (77,[],uC 0x189404,ZW)]
theorem czb8:czQ cza8:=⟨by kernel_rfl,by kernel_rfl⟩
def cza9:List (Nat×List Nat×List (List Nat)×AF):=[(88,[],uC 0x70402a540e24005d402144308416,Yw),
 (89,[],uC 0x303404,QaC),
 (90,[],uC 0x203404,YJ),
 (91,[],uC 0x185408344,Z8),
 (92,[],uC 0xe740e440a2411e40da4116409440d0408e404d404b40c841a,Xc),
 (93,[],uC 0x400f3c40f940f640b441ed73fcfca898d0285037500369cff3f2a250408e40ca400494086422,YV)]
theorem czb9:czQ cza9:=⟨by kernel_rfl,by kernel_rfl⟩
def cza10:List (Nat×List Nat×List (List Nat)×AF):=[(94,[],uC 0x244404,XY),
 (106,[],uC 0x504008d408b40010,QmS),
 (107,[],uC 0xce404d4186404540a,QBK),
 (108,[],uC 0x245404,Qbq),
 (109,[],uC 0x451414c404a7f8160c740a,Qbp),
 (110,[],uC 0x50404f40cc408a400010,QcE)]
theorem czb10:czQ cza10:=⟨by kernel_rfl,by kernel_rfl⟩
def cza11:List (Nat×List Nat×List (List Nat)×AF):=[(111,[],uC 0x61411d6f3ff30363114008c41084010,Qdz),
 (112,[],uC 0x524051414b404a40046410,Qy),
 (113,[],uC 0x524051414b404a40046410,Qq),
 (114,[],uC 0xb844444444444444444444444444444444444444444444444444444444444444440084f20083f28406741a140de4198411440d140ce40cb404a416,QpJ),
 (115,[],uC 0x524051414b404a40046410,QP),
 (116,[],uC 0x384404,Qbr)]
theorem czb11:czQ cza11:=⟨by kernel_rfl,by kernel_rfl⟩
def cza12:List (Nat×List Nat×List (List Nat)×AF):=[(117,[],uC 0x687f8f4ca897d017504650161fdccf2a24f408d400484016,ZR),
 (118,[],uC 0xff3cf2a245404,QdZ),
 (119,[],uC 0x3d140504247408,Yt),
 (120,[],uC 0xf740764075400734070400ec4012749a58a48c5c04504208420,XV),
 (121,[],uC 0x30012bc673fcff362c00ffc40c00f3c48d8415340914208412,XE),
 (122,[],uC 0x485404,Yf)]
theorem czb12:czQ cza12:=⟨by kernel_rfl,by kernel_rfl⟩
def cza13:List (Nat×List Nat×List (List Nat)×AF):=[(123,[],uC 0xd940584095444440a,Yk),
 (124,[],uC 0x105404,ZS),
 (125,[],uC 0x14d4008a408840a,Qjl),
 (126,[],uC 0xc3404,QdO),
 (127,[],uC 0x564055405440914050408d404c404b404a4049401a,Zj),
 (128,[24,34],uC 0x6640654063415e409c40210404f404e416,Yx)]
theorem czb13:czQ cza13:=⟨by kernel_rfl,by kernel_rfl⟩
def cza14:List (Nat×List Nat×List (List Nat)×AF):=[(129,[],uC 0x52440634394405340cf404e4004c4049400c541a,ZP),
 (130,[],uC 0x2e142d6405540924051404f404e404b40c8414,QdR),
 (131,[],uC 0x14c404b40c74046404340e,QdS),
 (132,[],uC 0x6840e540a3401d841144092424850,Yl),
 (133,[],uC 0x185408344,Ye),
 (134,[],uC 0x105404,QB)]
theorem czb14:czQ cza14:=⟨by kernel_rfl,by kernel_rfl⟩
def cza15:List (Nat×List Nat×List (List Nat)×AF):=[(135,[],uC 0x8c410b2862481c7c06,Qec),
 (144,[],uC 0x8640c3406,QeA),
 (145,[],uC 0x524051414b404a40046410,Xj),
 (154,[],uC 0x544053410f408d400484086410,QaA),
 (156,[],uC 0x2d73f3fc3e38b404,QpI),
 (157,[],uC 0x206404,XW)]
theorem czb15:czQ cza15:=⟨by kernel_rfl,by kernel_rfl⟩
def cza16:List (Nat×List Nat×List (List Nat)×AF):=[(158,[],uC 0x105404,Q0),
 (159,[],uC 0x28100c4d074913503ce1f0430b20a246c0c,QfR),
 (160,[17,19,21,23],uC 0x2590251024905350012d032891881c6c10,Qiq),
 (161,[],uC 0x104404,Xk),
 (162,[],uC 0xc5404,QdN),
 (163,[],uC 0xc5404,QdM)]
theorem czb16:czQ cza16:=⟨by kernel_rfl,by kernel_rfl⟩
def cza17:List (Nat×List Nat×List (List Nat)×AF):=[(164,[],uC 0xc5404,QdL),
 (165,[],uC 0xcc408a404940047400e,Qia),
 (166,[],uC 0xcb4004a40484047400e,Qh8),
 (167,[],uC 0x18740045408,QfD),
 (168,[],uC 0x18840474045408,QfC),
 (169,[],uC 0xc5404,QdK)]
theorem czb17:czQ cza17:=⟨by kernel_rfl,by kernel_rfl⟩
def cza18:List (Nat×List Nat×List (List Nat)×AF):=[(170,[],uC 0xc5404,QdJ),
 (171,[],uC 0xc5404,QdI),
 (172,[],uC 0x105404,QdH),
 (173,[],uC 0x185404,QdG),
 (174,[],uC 0x105404,QdF),
 (175,[],uC 0x105404,Qct)]
theorem czb18:czQ cza18:=⟨by kernel_rfl,by kernel_rfl⟩
def cza19:List (Nat×List Nat×List (List Nat)×AF):=[(176,[],uC 0x8,Qh9),
 (177,[],uC 0x185404,Qcs),
 (178,[],uC 0x105404,Qcr),
 (179,[32],uC 0xe9fcf4b8a61044d124502cf38d308c0a,X0),
 (180,[],uC 0x36d1a6546175951f001491140f28e34c2c8c0c,Zi),
 (181,[],uC 0xc3404,Qcu)]
theorem czb19:czQ cza19:=⟨by kernel_rfl,by kernel_rfl⟩
def cza20:List (Nat×List Nat×List (List Nat)×AF):=[(182,[],uC 0x10a40048408,XZ),
 (183,[32,48],uC 0x10049f1040045f1040040f1000ffc003ef000f7ce000f3cefae48c0b6403afcd2622a40a279a29648c7fafcd2621a406175925544c7c1e,YN),
 (184,[],uC 0xb4422c40a941a340a042184056415043ce2cd305c16,YM),
 (185,[24,35,56,68,81,93],uC 0xe8d1a14016bc4180153c7af34887004cf1050047f1eb347860040f105edebcf4988c90c99ebf3498875026debcd221d3409143ce2cd305c1e,YL),
 (186,[56,57,61],uC 0x10055f10e0046f100117c0044f0010fc003ff0010bc0041f00103c1febda35322f441ed40aa41a440a24060419a41d34014d41e,YK),
 (187,[],uC 0x54405340d0404f40cb404a4048404740464043416,QfF)]
theorem czb20:czQ cza20:=⟨by kernel_rfl,by kernel_rfl⟩
def cza21:List (Nat×List Nat×List (List Nat)×AF):=[(188,[],uC 0xc5404,Qa4),
 (189,[],uC 0x83404,strconv_Itoa),
 (190,[],uC 0xc3404,QfE),
 (192,[],uC 0x524051414b404a40046410,QL),
 (205,[],uC 0x18d408b40894047400854043410,QcO),
 (206,[],uC 0x1934091408f404d408b40894047400854043416,QcN)]
theorem czb21:czQ cza21:=⟨by kernel_rfl,by kernel_rfl⟩
def cza22:List (Nat×List Nat×List (List Nat)×AF):=[(210,[],uC 0x524051414b404a40046410,Xi),
 (211,[10],uC 0x185408344,Xq),
 (212,[],uC 0x400f3c40f940f640b441ed73fcfca898d0285037500369cff3f2a250408e40ca400494086422,Q6),
 (213,[],uC 0xe740e440a2411e40da4116409440d0408e404d404b40c841a,QG),
 (214,[],uC 0x83404,QcF),
 (215,[],uC 0xfccc7846d008490a4502cf38d308c0a,QaE)]
theorem czb22:czQ cza22:=⟨by kernel_rfl,by kernel_rfl⟩
def cza23:List (Nat×List Nat×List (List Nat)×AF):=[(216,[],uC 0x184404,QdQ),
 (217,[],uC 0xc8400c4408,QdP),
 (235,[27],uC 0x10085f106007ff103007cf102007af1050075f1030072f102006ff102006df1060067f1010066f100197c0064f0017bc0063f0018bc0061f00183c005ff08c040177c4140163c7e3f3fff3e380127c40c0117c41c00f7c401b7413340714c2faaeb6cac7c0a841244062411e405c4118405640d340000fbc,QZ),
 (236,[],uC 0x524051414b404a40046410,QK),
 (237,[],uC 0xe0411c41184114414f41894183410,XH),
 (238,[],uC 0x24540043408,Xd)]
theorem czb23:czQ cza23:=⟨by kernel_rfl,by kernel_rfl⟩
def cza24:List (Nat×List Nat×List (List Nat)×AF):=[(248,[],uC 0xbb3f3ffff4a421409f78ff3fff3e390404f408d408a40884e,QI),
 (254,[],uC 0x305404,Z3),
 (265,[],uC 0xc3404,Zo)]
theorem czb24:czQ cza24:=⟨by kernel_rfl,by kernel_rfl⟩
def czs:List (Nat×List Nat×List (List Nat)×AF):=cza0++(cza1++(cza2++(cza3++(cza4++(cza5++(cza6++(cza7++(cza8++(cza9++(cza10++(cza11++(cza12++(cza13++(cza14++(cza15++(cza16++(cza17++(cza18++(cza19++(cza20++(cza21++(cza22++(cza23++cza24)))))))))))))))))))))))
theorem czc:∀ c∈czs,czP c:=czp (czo czb0) (czp (czo czb1) (czp (czo czb2) (czp (czo czb3) (czp (czo czb4) (czp (czo czb5) (czp (czo czb6) (czp (czo czb7) (czp (czo czb8) (czp (czo czb9) (czp (czo czb10) (czp (czo czb11) (czp (czo czb12) (czp (czo czb13) (czp (czo czb14) (czp (czo czb15) (czp (czo czb16) (czp (czo czb17) (czp (czo czb18) (czp (czo czb19) (czp (czo czb20) (czp (czo czb21) (czp (czo czb22) (czp (czo czb23) (czo czb24))))))))))))))))))))))))
theorem cz_tab0:∀ f A,tab0 f=some A→(czs.find? fun c=>c.1==f).map (·.2.2.2)=some A:=fun f A h=>by
 unfold tab0 at h
 split at h <;> (cases h <;> rfl)
theorem cz_tab1:∀ f A,tab1 f=some A→(czs.find? fun c=>c.1==f).map (·.2.2.2)=some A:=fun f A h=>by
 unfold tab1 at h
 split at h <;> (cases h <;> rfl)
theorem cz_tab2:∀ f A,tab2 f=some A→(czs.find? fun c=>c.1==f).map (·.2.2.2)=some A:=fun f A h=>by
 unfold tab2 at h
 split at h <;> (cases h <;> rfl)
theorem cz_tab3:∀ f A,tab3 f=some A→(czs.find? fun c=>c.1==f).map (·.2.2.2)=some A:=fun f A h=>by
 unfold tab3 at h
 split at h <;> (cases h <;> rfl)
theorem czt:∀ f A,tab f=some A→(czs.find? fun c=>c.1==f).map (·.2.2.2)=some A:=fun f A h=>by
 unfold tab at h
 split at h
 ·exact cz_tab0 f A h
 split at h
 ·exact cz_tab1 f A h
 split at h
 ·exact cz_tab2 f A h
 exact cz_tab3 f A h
theorem QBy:Qf Tryz.prog tab:=fun f A h=>by
 have h:=czt f A h
 rw [Option.map_eq_some_iff] at h
 obtain ⟨c,h1,h2⟩:=h
 have hf:=List.find?_some h1
 have hm:=List.mem_of_find?_eq_some h1
 simp only [beq_iff_eq] at hf
 subst hf h2
 exact ⟨(czc c hm).1,_,_,(czc c hm).2⟩
end Go.Proofs.YtbdhjeojcpgblaaGreatDoor
