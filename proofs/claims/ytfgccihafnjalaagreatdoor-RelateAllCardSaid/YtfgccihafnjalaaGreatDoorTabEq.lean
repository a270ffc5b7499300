/- The translations are so. -/
import Derived.Test.YtfgccihafnjalaaGreatDoorTabB
import Derived.Test.YtfgccihafnjalaaGreatDoorProg
namespace Go.Proofs.YtfgccihafnjalaaGreatDoor
open Go Go.Am
set_option maxRecDepth 100000
def Qa6:Nat→List Nat:=fun i=>[[],[],[],[],[8,9,10,11],[],[12,13],[],[],[],[17,18,19,20,21,22,23,24,25,26,27,28],[0,0,3,0,3,3,3,3,3,0,3,3,2],[29,30,31,32],[],[33],[]].getD i []
theorem Qtm:(rngOf Tryz.prog 99 0).map (fun r=>(Q1 Tryz.prog 34 (fun _=>false) Qa6 (rngA r),Qsm (rngA r)))=some (some QhR,true):=by kernel_rfl
theorem Qtl:(rngOf Tryz.prog 99 0).map (fun r=>(Q1 Tryz.prog 34 (fun _=>false) Qa6 (rngB r),Qsm (rngB r)))=some (some QhQ,true):=by kernel_rfl
def uC (N:Nat):List (List Nat):=(uli (fun N=>match N%4 with
 | 0=>([],N/4)
 | 1=>ubd unt (fun a=>ump (List.range' a) unt) (N/4)
 | 2=>uli (udg 4) (N/4)
 | _=>uli unt (N/4)) N).1
theorem czm {α β:Type} (g k:α→β):∀ l:List α,l.foldr (fun c r=>g c::r) []=l.map k→∀ c∈l,g c=k c
 | [],_,c,h=>by cases h
 | a::r,e,c,h=>by
  simp only [List.foldr_cons,List.map_cons,List.cons.injEq] at e
  rcases List.mem_cons.1 h with rfl | h
  ·exact e.1
  ·exact czm g k r e.2 c h
abbrev czP (c:Nat×List Nat×List (List Nat)×AF):Prop:=Qg Tryz.prog c.1=true∧Qm Tryz.prog (fun d=>c.2.1.contains d) (fun i=>c.2.2.1.getD i []) c.1=some c.2.2.2
abbrev czQ (l:List (Nat×List Nat×List (List Nat)×AF)):Prop:=l.all (fun c=>Qg Tryz.prog c.1)=true∧l.foldr (fun c l=>Qm Tryz.prog (fun d=>c.2.1.contains d) (fun i=>c.2.2.1.getD i []) c.1::l) []=l.map fun c=>some c.2.2.2
theorem czo {l:List (Nat×List Nat×List (List Nat)×AF)} (h:czQ l):∀ c∈l,czP c:=fun c hc=>⟨List.all_eq_true.1 h.1 c hc,czm _ _ _ h.2 c hc⟩
theorem czp {l m:List (Nat×List Nat×List (List Nat)×AF)} (h:∀ c∈l,czP c) (k:∀ c∈m,czP c):∀ c∈l++m,czP c:=fun c hc=>(List.mem_append.1 hc).elim (h c) (k c)
def cza0:List (Nat×List Nat×List (List Nat)×AF):=[(5,[42,87,126],uC 0x280203c402401dbc40801d3c40801c7c401c01abc418018fc4080187c40c0177c400c016bc403edfff3fff33fff3ffce6a5d107b52cae3aa9a279a590ac0624061419a409840d542e,proofmarklaw25_RelateFresh),
 (6,[36,40,42,44,46,48,50,174,195],uC 0x40031bc4640317c00c4f002f7c00c3f0030bc00c1f00303c00bff002fbc2b0f8e57ddbcfd59400a8f1ecfcd4322c0277c4140263c408025bc4040253c4008024bc4040243c4008023bc408022fc400c0223c414020fc42801e7c6ff3f3cc8b006df10c0061f102005ef103005bf1050055f1030052f10c0045f1020043f107ed09c3dc987d10d9d0d9a58248e2848c05f409d40da40011bc,proofmarklaw25_RelateAll),
 (8,[35,102],uC 0xfccccffeddff33ccff3f33fccccffcfff3ff0fff0050f2004ff2679fe6ccccd2879645e38a181f79d71b699610c05642cb40c840c,proofmarklaw25_works),
 (9,[],uC 0x181eb3ff3ff3ff5a54b408940c54000e,Xy),
 (10,[],uC 0xc3f1a14c408a40c6400e,XO),
 (11,[],uC 0x33f3f26214409240ce4001094087414,XH)]
theorem czb0:czQ cza0:=⟨by kernel_rfl,by kernel_rfl⟩
def cza1:List (Nat×List Nat×List (List Nat)×AF):=[(12,[],uC 0x8840864084408,ZH),
 (13,[],uC 0x400f3c6ecfcffffd290b102a9e3fcfff3a35c40d941d2414c408a40c640018,Xn),
 (14,[],uC 0x1084086406,QbB),
 (17,[],uC 0xe24061409e419d7186da647c24f404d40ca40c7412,proofmarklaw25_function),
 (18,[],uC 0xc1404,QhG),
 (19,[35,62,96,101,115,136,152],uC 0x10042009bf101009af1bb3df7cd8c008ef101008df1bfb3df322c0207c4040203c40801f3c40801ebc4000401d7c6eff7262001b7c40401b3c4008019fc410018fc404018bc4040187c68f14887005af1070052f1180051f00143c004cf0013fc004ef00137c1f050047f1020045f100010040f101003ff108dd02d50004b502ad9c70785992591e8e28607c8c00123c,relate_Fresh)]
theorem czb1:czQ cza1:=⟨by kernel_rfl,by kernel_rfl⟩
def cza2:List (Nat×List Nat×List (List Nat)×AF):=[(20,[],uC 0x105404,Qc6),
 (21,[],uC 0x1b3432740664415405440514248410,Xx),
 (22,[76,107],uC 0x800a5f109009cf102009af1030096f100020094f106008df100160076f1001d7c0074f001c3c0073f001cbc0071f06c3fe3fcff3f3fff8ff22a1004ef10080045f1009ed01e5fcff3ff3a36c40aa40e64000a440e04000dd40da40010bc,proofmarklaw25_holds),
 (23,[],uC 0x33ccfca89007cf102007af1040075f100cfcfc988006cf102006af1020067f100f33fff3ff3fcff726c012fc4004af00127c0042f00123c0047f0011bc0045f00113c0043f09c080103c40c00f3c4027340ef40ad41674021f41d7409540534003a,Xz),
 (24,[26,33,54],uC 0x10042ed01e9b9b7221f3401aa406940e64065415f405e415840056400110404f408d426,Qdb),
 (25,[],uC 0x105404,QhT)]
theorem czb2:czQ cza2:=⟨by kernel_rfl,by kernel_rfl⟩
def cza3:List (Nat×List Nat×List (List Nat)×AF):=[(26,[],uC 0x20048f1060042f102003ff103003cf101e901e107c502fbaab6cac6c06842679a29648c7c15d405b409940974112400cf4028,Qc4),
 (27,[27],uC 0xd941934052414c404b400e,Xj),
 (28,[],uC 0x14940874045408,XI),
 (29,[],uC 0xc540043408,Qu),
 (30,[],uC 0x1c7408544,QN),
 (32,[],uC 0x400f3c40f940f640b441ed73fcfca898d0285037500369cff3f2a250408e40ca400494086422,Qn)]
theorem czb3:czQ cza3:=⟨by kernel_rfl,by kernel_rfl⟩
def cza4:List (Nat×List Nat×List (List Nat)×AF):=[(33,[],uC 0x1594154410f414a410540c,Xo),
 (34,[],uC 0x50404f408d408b400046410,Qc2),
 (35,[],uC 0xe740e440a2411e40da4116409440d0408e404d404b40c841a,Qo),
 (36,[],uC 0x104404,Zi),
 (38,[],uC 0x104404,Yd),
 (39,[30],uC 0x28501810471b03816d0261175925544c6c0514008c4004b408841a,Qix)]
theorem czb4:czQ cza4:=⟨by kernel_rfl,by kernel_rfl⟩
def cza5:List (Nat×List Nat×List (List Nat)×AF):=[(40,[],uC 0x40113c41800fbc40400f3c4efac79e37db5d33c8bc0af41a840592409040cc4008a41a,ZI),
 (41,[],uC 0x1c5404,YN),
 (42,[],uC 0x12642db405a41154054409040207412,QaC),
 (43,[],uC 0x4450239a58102a188408,QJ),
 (44,[],uC 0x514050404e434c1cb289207c0a,QI),
 (45,[25],uC 0x3710269a051a1554053421244d40f387c0ca40e,YM)]
theorem czb5:czQ cza5:=⟨by kernel_rfl,by kernel_rfl⟩
def cza6:List (Nat×List Nat×List (List Nat)×AF):=[(46,[],uC 0x10069f1bef9f3f5f3ff6258014fc6ebf50fd3fd4920041f1010040f1fcf3ff3cff524ae40ac4006740e4415f405e43ff03f2e71b51a6585d6549c01cc420,Yi),
 (47,[10],uC 0x4012fc4020010fc78ffff8ffff3fcfff3fcffaea98409640d24009040cc4000008941e,XG),
 (48,[],uC 0x1cb404a40c6408,YK),
 (49,[],uC 0x3ce408c40c8400e,Xp),
 (50,[],uC 0x1054083406,ZO),
 (51,[],uC 0x634062411e40db4005640554111404f408d40049404841c,ZG)]
theorem czb6:czQ cza6:=⟨by kernel_rfl,by kernel_rfl⟩
def cza7:List (Nat×List Nat×List (List Nat)×AF):=[(52,[],uC 0x255006390d3082ca246c0a,QbE),
 (54,[],uC 0x8640c3406,Qdy),
 (59,[],uC 0x524051414b404a40046410,Qq),
 (60,[13],uC 0xce414940484004740c,Qg1),
 (61,[],uC 0x1401dfc42401bbc40401b7c41401a3c404019bc40c018fc410017fc40c016fc404016bc4014014bc430011bc4040117c6fe43ff3633940f640744cf2bf1c05c0ec401a240617bf3f30c8b59155104d2446c30,Qfc),
 (62,[],uC 0xfa4cf3cf3cf3ccdd9b003ff1005e502b3500c2c7289206c10,Qc1)]
theorem czb7:czQ cza7:=⟨by kernel_rfl,by kernel_rfl⟩
def cza8:List (Nat×List Nat×List (List Nat)×AF):=[(63,[],uC 0x283404,Qc3),
 (64,[],uC 0x52440634394405340cf404e4004c4049400c541a,Zf),
 (65,[],uC 0x2e142d6405540924051404f404e404b40c8414,QcV),
 (66,[],uC 0x14c404b40c74046404340e,QcW),
 (67,[],uC 0x14c408a40c6400e,XN),
 (68,[],uC 0x3c5404,Zz)]
theorem czb8:czQ cza8:=⟨by kernel_rfl,by kernel_rfl⟩
def cza9:List (Nat×List Nat×List (List Nat)×AF):=[(77,[],uC 0x18d408b40894047400854043410,QbL),
 (78,[],uC 0x1934091408f404d408b40894047400854043416,QbK),
 (79,[],uC 0xc3404,cmp_isNaN_int),
 (80,[],uC 0xc3404,QbW),
 (82,[],uC 0x7440b2498c414740a,QcD),
 (83,[],uC 0x382404,QcC)]
theorem czb9:czQ cza9:=⟨by kernel_rfl,by kernel_rfl⟩
def cza10:List (Nat×List Nat×List (List Nat)×AF):=[(84,[],uC 0x282404,QcB),
 (85,[],uC 0x482404,QcA),
 (86,[],uC 0x143404,Qcz),
 (87,[],uC 0x105404,QO),
 (88,[],uC 0x105404,QP),
 (89,[],uC 0xc3404,Qcy)]
theorem czb10:czQ cza10:=⟨by kernel_rfl,by kernel_rfl⟩
def cza11:List (Nat×List Nat×List (List Nat)×AF):=[(90,[],uC 0x1e641df415941154034740e,Qfq),
 (91,[45],uC 0x400fbc40400f7c6f43326235407340b14049b41d440d14050404e40cb404a41c,Qfb),
 (92,[],uC 0x614064740c440a,Qdp),
 (93,[20],uC 0x6240a0411b4099400348412,Zd),
 (94,[],uC 0x6e40ac4128406640e34061405f4005e405d411940974009140504008b404a426,Qab),
 (95,[],uC 0xce404d4186404540a,QxL)]
theorem czb11:czQ cza11:=⟨by kernel_rfl,by kernel_rfl⟩
def cza12:List (Nat×List Nat×List (List Nat)×AF):=[(96,[],uC 0x245404,Qaz),
 (97,[],uC 0x451414c404a7f8160c740a,Qay),
 (98,[],uC 0x50404f40cc408a400010,QbA),
 (99,[],uC 0x61411d6f3ff30363114008c41084010,Qcu),
 (100,[],uC 0x54405340d0404f40cb404a4048404740464043416,Qe4),
 (101,[],uC 0xc5404,Z7)]
theorem czb12:czQ cza12:=⟨by kernel_rfl,by kernel_rfl⟩
def cza13:List (Nat×List Nat×List (List Nat)×AF):=[(102,[],uC 0x83404,strconv_Itoa),
 (103,[],uC 0xc3404,Qe3),
 (109,[],uC 0x524051414b404a40046410,QY),
 (110,[],uC 0x524051414b404a40046410,QZ),
 (111,[],uC 0xb844444444444444444444444444444444444444444444444444444444444444440084f20083f28406741a140de4198411440d140ce40cb404a416,Qpi),
 (112,[],uC 0x524051414b404a40046410,QB)]
theorem czb13:czQ cza13:=⟨by kernel_rfl,by kernel_rfl⟩
def cza14:List (Nat×List Nat×List (List Nat)×AF):=[(113,[],uC 0x384404,QaA),
 (114,[],uC 0x687f8f4ca897d017504650161fdccf2a24f408d400484016,Zh),
 (115,[],uC 0xff3cf2a245404,Qc0),
 (116,[],uC 0x3d140504247408,Qaa),
 (117,[],uC 0xf740764075400734070400ec4012749a58a48c5c04504208420,Zb),
 (118,[],uC 0x30012bc673fcff362c00ffc40c00f3c48d8415340914208412,YO)]
theorem czb14:czQ cza14:=⟨by kernel_rfl,by kernel_rfl⟩
def cza15:List (Nat×List Nat×List (List Nat)×AF):=[(119,[],uC 0x485404,Zn),
 (120,[],uC 0x13740b5417041a94221405f4015a40487416,Qac),
 (121,[],uC 0x185408344,Zm),
 (122,[],uC 0x544053410f408d400484086410,ZE),
 (127,[],uC 0x2d73f3fc3e38b404,Qph),
 (128,[],uC 0x206404,Zc)]
theorem czb15:czQ cza15:=⟨by kernel_rfl,by kernel_rfl⟩
def cza16:List (Nat×List Nat×List (List Nat)×AF):=[(129,[],uC 0x105404,XF),
 (130,[],uC 0x485404,YP),
 (131,[],uC 0x28100c4d074913503ce1f0430b20a246c0c,QlR),
 (132,[17,19,21,23],uC 0x2590251024905350012d032891881c6c10,Qpj),
 (133,[],uC 0x303404,Qdo),
 (134,[],uC 0x3c5404,Zo)]
theorem czb16:czQ cza16:=⟨by kernel_rfl,by kernel_rfl⟩
def cza17:List (Nat×List Nat×List (List Nat)×AF):=[(135,[],uC 0x104404,XY),
 (136,[],uC 0x70402a540e24005d402144308416,Qad),
 (137,[],uC 0x203404,QaV),
 (138,[],uC 0xe740e440a2411e40da4116409440d0408e404d404b40c841a,XR),
 (139,[],uC 0x400f3c40f940f640b441ed73fcfca898d0285037500369cff3f2a250408e40ca400494086422,Ym),
 (140,[],uC 0x244404,Ze)]
theorem czb17:czQ cza17:=⟨by kernel_rfl,by kernel_rfl⟩
def cza18:List (Nat×List Nat×List (List Nat)×AF):=[(141,[],uC 0x10085f106007ff103007cf102007af1050075f1030072f102006ff102006df1060067f1010066f100197c0064f0017bc0063f0018bc0061f00183c005ff08c040177c4140163c7e3f3fff3e380127c40c0117c41c00f7c401b7413340714c2faaeb6cac7c0a841244062411e405c4118405640d340000fbc,XQ),
 (147,[],uC 0x524051414b404a40046410,XW),
 (148,[],uC 0x3f0f3ff3ff4e487404,QbC),
 (149,[10],uC 0x185408344,X6),
 (150,[],uC 0x400f3c40f940f640b441ed73fcfca898d0285037500369cff3f2a250408e40ca400494086422,XL),
 (151,[],uC 0xe740e440a2411e40da4116409440d0408e404d404b40c841a,Xu)]
theorem czb18:czQ cza18:=⟨by kernel_rfl,by kernel_rfl⟩
def cza19:List (Nat×List Nat×List (List Nat)×AF):=[(152,[],uC 0x83404,QgO),
 (153,[],uC 0x524051414b404a40046410,XX),
 (154,[],uC 0xbb3f3ffff4a421409f78ff3fff3e390404f408d408a40884e,Xi),
 (160,[],uC 0x305404,cmp_Less_int),
 (167,[27],uC 0x10085f106007ff103007cf102007af1050075f1030072f102006ff102006df1060067f1010066f100197c0064f0017bc0063f0018bc0061f00183c005ff08c040177c4140163c7e3f3fff3e380127c40c0117c41c00f7c401b7413340714c2faaeb6cac7c0a841244062411e405c4118405640d340000fbc,XE),
 (168,[],uC 0x524051414b404a40046410,XB)]
theorem czb19:czQ cza19:=⟨by kernel_rfl,by kernel_rfl⟩
def cza20:List (Nat×List Nat×List (List Nat)×AF):=[(174,[],uC 0xbb3f3ffff4a421409f78ff3fff3e390404f408d408a40884e,Q4),
 (180,[],uC 0x305404,QcI)]
theorem czb20:czQ cza20:=⟨by kernel_rfl,by kernel_rfl⟩
def czs:List (Nat×List Nat×List (List Nat)×AF):=cza0++(cza1++(cza2++(cza3++(cza4++(cza5++(cza6++(cza7++(cza8++(cza9++(cza10++(cza11++(cza12++(cza13++(cza14++(cza15++(cza16++(cza17++(cza18++(cza19++cza20)))))))))))))))))))
theorem czc:∀ c∈czs,czP c:=czp (czo czb0) (czp (czo czb1) (czp (czo czb2) (czp (czo czb3) (czp (czo czb4) (czp (czo czb5) (czp (czo czb6) (czp (czo czb7) (czp (czo czb8) (czp (czo czb9) (czp (czo czb10) (czp (czo czb11) (czp (czo czb12) (czp (czo czb13) (czp (czo czb14) (czp (czo czb15) (czp (czo czb16) (czp (czo czb17) (czp (czo czb18) (czp (czo czb19) (czo czb20))))))))))))))))))))
theorem cz_tab0:∀ f A,tab0 f=some A→(czs.find? fun c=>c.1==f).map (·.2.2.2)=some A:=fun f A h=>by
 unfold tab0 at h
 split at h <;> (cases h <;> rfl)
theorem cz_tab1:∀ f A,tab1 f=some A→(czs.find? fun c=>c.1==f).map (·.2.2.2)=some A:=fun f A h=>by
 unfold tab1 at h
 split at h <;> (cases h <;> rfl)
theorem cz_tab2:∀ f A,tab2 f=some A→(czs.find? fun c=>c.1==f).map (·.2.2.2)=some A:=fun f A h=>by
 unfold tab2 at h
 split at h <;> (cases h <;> rfl)
theorem czt:∀ f A,tab f=some A→(czs.find? fun c=>c.1==f).map (·.2.2.2)=some A:=fun f A h=>by
 unfold tab at h
 split at h
 ·exact cz_tab0 f A h
 split at h
 ·exact cz_tab1 f A h
 exact cz_tab2 f A h
theorem Qjy:Qh Tryz.prog tab:=fun f A h=>by
 have h:=czt f A h
 rw [Option.map_eq_some_iff] at h
 obtain ⟨c,h1,h2⟩:=h
 have hf:=List.find?_some h1
 have hm:=List.mem_of_find?_eq_some h1
 simp only [beq_iff_eq] at hf
 subst hf h2
 exact ⟨(czc c hm).1,_,_,(czc c hm).2⟩
end Go.Proofs.YtfgccihafnjalaaGreatDoor
