/- The translations are so. -/
import Derived.Test.YtoeicjlflmmmcaaGreatDoorTabB
import Derived.Test.YtoeicjlflmmmcaaGreatDoorProg
namespace Go.Proofs.YtoeicjlflmmmcaaGreatDoor
open Go Go.Am
set_option maxRecDepth 100000
def uC (N:Nat):List (List Nat):=(uli (fun N=>match N%4 with
 | 0=>([],N/4)
 | 1=>ubd unt (fun a=>ump (List.range' a) unt) (N/4)
 | 2=>uli (udg 4) (N/4)
 | _=>uli unt (N/4)) N).1
theorem czm {α β:Type} (g k:α→β):∀ l:List α,l.foldr (fun c r=>g c::r) []=l.map k→∀ c∈l,g c=k c
 | [],_,c,h=>by cases h
 | a::r,e,c,h=>by
  simp only [List.foldr_cons,List.map_cons,List.cons.injEq] at e
  rcases List.mem_cons.1 h with rfl | h
  ·exact e.1
  ·exact czm g k r e.2 c h
abbrev czP (c:Nat×List Nat×List (List Nat)×AF):Prop:=Qn Tryz.prog c.1=true∧QA Tryz.prog (fun d=>c.2.1.contains d) (fun i=>c.2.2.1.getD i []) c.1=some c.2.2.2
abbrev czQ (l:List (Nat×List Nat×List (List Nat)×AF)):Prop:=l.all (fun c=>Qn Tryz.prog c.1)=true∧l.foldr (fun c l=>QA Tryz.prog (fun d=>c.2.1.contains d) (fun i=>c.2.2.1.getD i []) c.1::l) []=l.map fun c=>some c.2.2.2
theorem czo {l:List (Nat×List Nat×List (List Nat)×AF)} (h:czQ l):∀ c∈l,czP c:=fun c hc=>⟨List.all_eq_true.1 h.1 c hc,czm _ _ _ h.2 c hc⟩
theorem czp {l m:List (Nat×List Nat×List (List Nat)×AF)} (h:∀ c∈l,czP c) (k:∀ c∈m,czP c):∀ c∈l++m,czP c:=fun c hc=>(List.mem_append.1 hc).elim (h c) (k c)
def cza0:List (Nat×List Nat×List (List Nat)×AF):=[(3,[],uC 0x1200d9f12700d8f0035fc00d2f0035bc00d5f00353c00d3f08c940347c00d0f0032fc00cff0033bc00cdf00333c2300900c1f12300c0f002ffc00bbf002fbc00bdf002f3c1f2100baf002e7c00b4f002e3c00b7f002dbc00b5f08c7c02cfc00b2f002b7c00b1f002c3c00aff002bbc230200abf10300a7f100300a4f10120091f10e0083f1020080f102007ef103007bf1001ebc0079f001d3c0078f001dfc0076f001d7c1f001cfc0072f001bbc0071f001c3c006ff06c20019bc4018017fc4005ef00177c0059f00173c005bf0016bc1b020057f1030053f1005004ef10f004df00133c0048f0012fc004af00127c1f070040f10e003ff000fbce800f7c003cf3b1f02e103d1002c90ac70b6fb86c06c40e840013bc,Xt),
 (4,[],uC 0xfbc007df10d007cf001efc0078f001ebc0079f06c2c01dfc0076f001cfc0075f001d3c1b090072f001c7c006ef001c3c006ff06c0028018fc424016bc4080163c404015bc4020013bc43fb1fcfffffffec7fff96929678ffff3f463da409840d44009240504004f42e,Xu),
 (5,[],uC 0x5174095414f408d40c940010,YQ),
 (6,[],uC 0x63541314c2fa6eb6caea23ffe3cfcda89de9a59238a181f2f1d7166da6585c8c09444d22d140f38d309c10,Yh),
 (7,[],uC 0x97424e408c40c8400047410,Yr),
 (8,[],uC 0x5840d5428b41464004440e,Qcm)]
theorem czb0:czQ cza0:=⟨by kernel_rfl,by kernel_rfl⟩
def cza1:List (Nat×List Nat×List (List Nat)×AF):=[(9,[],uC 0x14540043408,ZD),
 (10,[],uC 0x1cb404a40c6408,ZE),
 (11,[],uC 0x91418b400c740a,Xn),
 (12,[],uC 0x1c740045408,Y1),
 (13,[],uC 0x16100351e4cff2a24b400c740e,Xg),
 (14,[],uC 0x65400e178cfccff3e3934024940e,Q5)]
theorem czb1:czQ cza1:=⟨by kernel_rfl,by kernel_rfl⟩
def cza2:List (Nat×List Nat×List (List Nat)×AF):=[(15,[],uC 0x10069f1010068f1bd3d3f0d8c005cf101005bf1bf4fd3ffc4a440127c4040123c6ff30fc3633b6fd30fcf3eeb9b78df6d74cf2c70bee3b01ad0aaa99289e6948c063406040dd400d640554054418e4004c42a,XC),
 (16,[23],uC 0x6640656e5cc8877902710fa3f3f3224f418940484046414,Xi),
 (17,[],uC 0x10f40245408,Qbl),
 (18,[],uC 0x10069f1010068f1b9df4f3334a44015fc404015bc6df3326200137c4140123c414010bc4040107c40400fbc42c00f7c003cf35efae78df62b02cd0002b504a5029d01950481066901650161fcf33c322cc42e,Zb),
 (19,[],uC 0x351001491140a3ce34c2c8c0a,QhK),
 (20,[],uC 0x9b41174151408f41c740010,X6)]
theorem czb2:czQ cza2:=⟨by kernel_rfl,by kernel_rfl⟩
def cza3:List (Nat×List Nat×List (List Nat)×AF):=[(21,[],uC 0x445404,Yf),
 (22,[],uC 0x600d5f10a00cbf100200c8f10a00bef10800b5f1ff3cfcb8a00abf10200a9f10300a5f10e63722140283c40180267c408025fc40c024fc403f3fcffff8ff5e5801f3c40801ebc40c01dbc400801d3c40c01c7c458016bc4400167c0058f00153c0057f0015bc0055f07c004014bc40051f00143c004cf0013fc004ef00137c1b02004af1030046f100020044f1090043f0010bc003ff00107c0040f06c0400fbc456840a640e2400614218400153c,XH),
 (23,[],uC 0x2f973fcc8b9d0fb7cffff3fcffcfff8a84540a,Xh),
 (24,[],uC 0x5b405a4155409240cf400c8400046416,XT),
 (25,[],uC 0x5008ff112008ef00237c0089f00233c008bf0022bc1f040085f101f0065f1000020062f10080059f1060053f1020051f100143c004ff0012bc004ef00137c004cf0012fc1f040046f1020044f1010043f1020040f109003ff000fbcec00f7c003cf06c07a456440a240de4005d4214436,XI),
 (26,[],uC 0xc1404,QhL)]
theorem czb3:czQ cza3:=⟨by kernel_rfl,by kernel_rfl⟩
def cza4:List (Nat×List Nat×List (List Nat)×AF):=[(27,[],uC 0x10069f1bef9f3f5f3ff6258014fc6ebf50fd3fd4920041f1010040f1fcf3ff3cff524ae40ac4006740e4415f405e43ff03f2e71b51a6585d6549c01cc420,Zp),
 (28,[],uC 0x28d40ca414446,Za),
 (29,[],uC 0x3c5404,QaG),
 (30,[],uC 0x8007af10e0079f001e3c0071f001dfc0076f001d7c0074f001cfc0072f0ac0401c3c41401afc40801a3c633f1e18018bc40c017fc4040177c7bf833f0cfcf5e005cf0016fc0048f0016bc0059f00163c0057f0015bc0055f00153c0053f0014bc0051f00143c004ff0013bc004df00133c004bf0012bc0049f15c004011fc40c010fc404010bc40c00fbc40400f3c402fbeb3e78df6d742b008c70a6fbadb2ba8ac0a740000df41d8401d0438,XB),
 (31,[],uC 0xc540043408,QT),
 (32,[],uC 0x161015de8f3ff322cc404b400010,Yl)]
theorem czb4:czQ cza4:=⟨by kernel_rfl,by kernel_rfl⟩
def cza5:List (Nat×List Nat×List (List Nat)×AF):=[(33,[],uC 0x514050408e41094087404640012,Qbn),
 (34,[],uC 0x14d41c64044408,XZ),
 (35,[],uC 0x63406240df409d400097405640554053410f408d400020,X5),
 (36,[],uC 0x724071403a240a040009a400554034741c,ZT),
 (37,[],uC 0x105404,Qal),
 (38,[],uC 0xc4404,ZU)]
theorem czb5:czQ cza5:=⟨by kernel_rfl,by kernel_rfl⟩
def cza6:List (Nat×List Nat×List (List Nat)×AF):=[(39,[],uC 0xc5404,YB),
 (40,[],uC 0xff3dc2a244404,YS),
 (41,[],uC 0x103404,Qdi),
 (42,[],uC 0x614060411c4291408f40147410,Ym),
 (43,[],uC 0x185408344,Yx),
 (44,[],uC 0x40103c40400ffc413b400794e37cf6d741b03c10003a501a193c1a163436285d81f787c09b4009540544053426,QeH)]
theorem czb6:czQ cza6:=⟨by kernel_rfl,by kernel_rfl⟩
def cza7:List (Nat×List Nat×List (List Nat)×AF):=[(45,[],uC 0x84c408a40c6400e,X7),
 (46,[],uC 0x14c408a40c6400e,YP),
 (47,[],uC 0xe33cf3322e440a241da400984113400345418,Yg),
 (48,[],uC 0x33f3f26211408f40cb400106412,X8),
 (49,[],uC 0x7740b5407441ae6301612a40e7400e3411e409b409940054409240ce40004d4008a42a,Qbk),
 (50,[],uC 0x52440634394405340cf404e4004c4049400c541a,Qai)]
theorem czb7:czQ cza7:=⟨by kernel_rfl,by kernel_rfl⟩
def cza8:List (Nat×List Nat×List (List Nat)×AF):=[(51,[],uC 0x2e142d6405540924051404f404e404b40c8414,Qc0),
 (52,[],uC 0x14c404b40c74046404340e,Qc1),
 (53,[],uC 0x584096405540d2409040004b40004a418,ZC),
 (54,[],uC 0x105404,QI),
 (55,[],uC 0x841063ce1cd30b28920ac06,Y8),
 (56,[],uC 0x401a7c418018fc404018bc4140173c404016fc6a8d3ca890051f1010050f1060049f1010048f1040043f1010042f104003df101003cf105d901d505bd01b905a1019d04890185bf90c99f79875c6da648c05745543d3491407c04e404c4003a,Qs)]
theorem czb8:czQ cza8:=⟨by kernel_rfl,by kernel_rfl⟩
def cza9:List (Nat×List Nat×List (List Nat)×AF):=[(57,[],uC 0x151014d1245024f38d30b28ac0484000e,YD),
 (58,[60],uC 0xa005ef101005df101005cf1acf3fcb8b0051f1a3f3fcb8b0046f1010045f100b5dfe0cfc33fd996b50b850b81f61e75c6da64ac096400cf41e,YV),
 (59,[],uC 0x1c7404,Zo),
 (60,[],uC 0x30055f107004ef1070047f109003ef107dd035d2acf2c70beeb6caccc12640a4411f409d409a40d741124050410c404a4026,XM),
 (61,[],uC 0x5a4251404f41c84047404540e,Qao),
 (62,[],uC 0x105404,Xe)]
theorem czb9:czQ cza9:=⟨by kernel_rfl,by kernel_rfl⟩
def cza10:List (Nat×List Nat×List (List Nat)×AF):=[(63,[],uC 0x104404,YR),
 (64,[],uC 0x105404,Qr),
 (67,[],uC 0x2dd42934052410d404c408940484045412,Qbf),
 (68,[],uC 0x14e40205408,QaE),
 (69,[],uC 0x1904004e410a40a,Qah),
 (70,[],uC 0x14d4008a408840a,Qix)]
theorem czb10:czQ cza10:=⟨by kernel_rfl,by kernel_rfl⟩
def cza11:List (Nat×List Nat×List (List Nat)×AF):=[(71,[],uC 0x345404,YO),
 (72,[],uC 0x104404,ZS),
 (73,[],uC 0xe740e440a2411e40da4116409440d0408e404d404b40c841a,Xs),
 (74,[],uC 0x144404,ZR),
 (75,[],uC 0x105404,Yt),
 (76,[],uC 0x144404,ZQ)]
theorem czb11:czQ cza11:=⟨by kernel_rfl,by kernel_rfl⟩
def cza12:List (Nat×List Nat×List (List Nat)×AF):=[(80,[],uC 0x54405340d0404f40cb404a4048404740464043416,QeL),
 (81,[],uC 0xc5404,Qa5),
 (82,[],uC 0x83404,strconv_Itoa),
 (83,[],uC 0xc3404,QeK),
 (84,[],uC 0x6840e540a3401d841144092424850,YK),
 (85,[],uC 0x524051414b404a40046410,QO)]
theorem czb12:czQ cza12:=⟨by kernel_rfl,by kernel_rfl⟩
def cza13:List (Nat×List Nat×List (List Nat)×AF):=[(86,[],uC 0x474103406,X9),
 (87,[],uC 0xac406b7afe3cff3e39d419778f3f2620f404e40012,Y6),
 (88,[],uC 0x4e404d418740464000e,QfA),
 (89,[],uC 0x6d406c4aea969a27987ee3cfff36319409740554054405340cf404e40004b41c,Y7),
 (90,[],uC 0x5640556e3cff2e28b404a4000e,Qdm),
 (91,[],uC 0x10044f108003cf106d906c102eb63b2baa9a279a590cc06240a0405e41d74030a41a,Y9)]
theorem czb13:czQ cza13:=⟨by kernel_rfl,by kernel_rfl⟩
def cza14:List (Nat×List Nat×List (List Nat)×AF):=[(92,[],uC 0x1e501e101dd01d9b8fcff322eb40e84162406140de400da40594000564094405340028,YC),
 (93,[],uC 0x4740854044408,Qfz),
 (94,[],uC 0x9179fe432e1d03c938d30b289c06,YE),
 (95,[],uC 0x696c3f1e1a3415e6f90ff2e294405343ff03f2e45024f38d30b289c10,YU),
 (96,[],uC 0x524051414b404a40046410,XG),
 (97,[],uC 0x524051414b404a40046410,Qw)]
theorem czb14:czQ cza14:=⟨by kernel_rfl,by kernel_rfl⟩
def cza15:List (Nat×List Nat×List (List Nat)×AF):=[(109,[],uC 0x524051414b404a40046410,QD),
 (110,[],uC 0x406404,Y0),
 (111,[],uC 0xd940584095444440a,YJ),
 (112,[],uC 0x104404,XY),
 (117,[],uC 0x2c9404,YT),
 (124,[],uC 0xc5404,QcY)]
theorem czb15:czQ cza15:=⟨by kernel_rfl,by kernel_rfl⟩
def cza16:List (Nat×List Nat×List (List Nat)×AF):=[(125,[],uC 0xc5404,QcX),
 (126,[],uC 0xc5404,QcW),
 (127,[],uC 0xcc408a404940047400e,QhI),
 (128,[],uC 0xcb4004a40484047400e,QhG),
 (129,[],uC 0x18740045408,QeG),
 (130,[],uC 0x18840474045408,QeF)]
theorem czb16:czQ cza16:=⟨by kernel_rfl,by kernel_rfl⟩
def cza17:List (Nat×List Nat×List (List Nat)×AF):=[(131,[],uC 0xc5404,QcV),
 (132,[],uC 0xc5404,QcU),
 (133,[],uC 0xc5404,QcT),
 (134,[],uC 0x105404,QcS),
 (135,[],uC 0x185404,QcR),
 (136,[],uC 0x105404,QcQ)]
theorem czb17:czQ cza17:=⟨by kernel_rfl,by kernel_rfl⟩
def cza18:List (Nat×List Nat×List (List Nat)×AF):=[(137,[],uC 0x105404,QbY),
 (138,[],uC 0x8,QhH),
 (139,[],uC 0x185404,QbX),
 (140,[],uC 0x105404,QbW)]
theorem czb18:czQ cza18:=⟨by kernel_rfl,by kernel_rfl⟩
def czs:List (Nat×List Nat×List (List Nat)×AF):=cza0++(cza1++(cza2++(cza3++(cza4++(cza5++(cza6++(cza7++(cza8++(cza9++(cza10++(cza11++(cza12++(cza13++(cza14++(cza15++(cza16++(cza17++cza18)))))))))))))))))
theorem czc:∀ c∈czs,czP c:=czp (czo czb0) (czp (czo czb1) (czp (czo czb2) (czp (czo czb3) (czp (czo czb4) (czp (czo czb5) (czp (czo czb6) (czp (czo czb7) (czp (czo czb8) (czp (czo czb9) (czp (czo czb10) (czp (czo czb11) (czp (czo czb12) (czp (czo czb13) (czp (czo czb14) (czp (czo czb15) (czp (czo czb16) (czp (czo czb17) (czo czb18))))))))))))))))))
theorem czt:∀ f A,tab f=some A→(czs.find? fun c=>c.1==f).map (·.2.2.2)=some A:=fun f A h=>by
 unfold tab at h
 split at h <;> (cases h <;> rfl)
theorem tab_ok:Qe Tryz.prog tab:=fun f A h=>by
 have h:=czt f A h
 rw [Option.map_eq_some_iff] at h
 obtain ⟨c,h1,h2⟩:=h
 have hf:=List.find?_some h1
 have hm:=List.mem_of_find?_eq_some h1
 simp only [beq_iff_eq] at hf
 subst hf h2
 exact ⟨(czc c hm).1,_,_,(czc c hm).2⟩
end Go.Proofs.YtoeicjlflmmmcaaGreatDoor
