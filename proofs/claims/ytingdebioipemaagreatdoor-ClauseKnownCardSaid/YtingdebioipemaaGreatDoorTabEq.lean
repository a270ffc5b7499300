/- The translations are so. -/
import Derived.Test.YtingdebioipemaaGreatDoorTabB
import Derived.Test.YtingdebioipemaaGreatDoorProg
namespace Go.Proofs.YtingdebioipemaaGreatDoor
open Go Go.Am
set_option maxRecDepth 100000
def uC (N:Nat):List (List Nat):=(uli (fun N=>match N%4 with
 | 0=>([],N/4)
 | 1=>ubd unt (fun a=>ump (List.range' a) unt) (N/4)
 | 2=>uli (udg 4) (N/4)
 | _=>uli unt (N/4)) N).1
theorem czm {α β:Type} (g k:α→β):∀ l:List α,l.foldr (fun c r=>g c::r) []=l.map k→∀ c∈l,g c=k c
 | [],_,c,h=>by cases h
 | a::r,e,c,h=>by
  simp only [List.foldr_cons,List.map_cons,List.cons.injEq] at e
  rcases List.mem_cons.1 h with rfl | h
  ·exact e.1
  ·exact czm g k r e.2 c h
abbrev czP (c:Nat×List Nat×List (List Nat)×AF):Prop:=Qo Tryz.prog c.1=true∧QD Tryz.prog (fun d=>c.2.1.contains d) (fun i=>c.2.2.1.getD i []) c.1=some c.2.2.2
abbrev czQ (l:List (Nat×List Nat×List (List Nat)×AF)):Prop:=l.all (fun c=>Qo Tryz.prog c.1)=true∧l.foldr (fun c l=>QD Tryz.prog (fun d=>c.2.1.contains d) (fun i=>c.2.2.1.getD i []) c.1::l) []=l.map fun c=>some c.2.2.2
theorem czo {l:List (Nat×List Nat×List (List Nat)×AF)} (h:czQ l):∀ c∈l,czP c:=fun c hc=>⟨List.all_eq_true.1 h.1 c hc,czm _ _ _ h.2 c hc⟩
theorem czp {l m:List (Nat×List Nat×List (List Nat)×AF)} (h:∀ c∈l,czP c) (k:∀ c∈m,czP c):∀ c∈l++m,czP c:=fun c hc=>(List.mem_append.1 hc).elim (h c) (k c)
def cza0:List (Nat×List Nat×List (List Nat)×AF):=[(3,[],uC 0xb0046f100117c0044f00107c0043f0010bc1700103c003ff000f3c003ef000f7c170f90fc988cd32c6ec2f1701b10088d2285d81f786c71b61a645c05741cf41c,Q1),
 (4,[42,157],uC 0x270083f1030080f1002a0055f1100045f1020043f1010041f1002003ff101003df100fbf3ec322f1426840e540a340df4001d745954944c5c1cb430,QU),
 (5,[],uC 0x1924090410b400106412,XV),
 (6,[],uC 0x8eb4aa99289e6947c8e27a181f1b1d7156da6585d62703513412446c3ce2cd305c0e,XF),
 (7,[],uC 0x1c501c101bd01b901b501ad03a102990037d027500161becfd33230c400089424,Qca),
 (8,[],uC 0x1d102c90c99029107710026904550fecfd3322ca4008741a,XT)]
theorem czb0:czQ cza0:=⟨by kernel_rfl,by kernel_rfl⟩
def cza1:List (Nat×List Nat×List (List Nat)×AF):=[(9,[],uC 0x143404,XG),
 (10,[],uC 0x1006ff101006ef10b0062f100187c0060f00177c005ff0017bc1701005cf1b9fff3322c0147c424011fc4080117c4040113c4100103c40400ffc40400f7c4003cf3bdfae781b02d5001c1002b9001a5029d2695f9238a1808c05e409b415640d3436,Qcb),
 (11,[],uC 0xe3ccf3322db40994114400346412,XK),
 (12,[],uC 0x10075f1010074f10b0068f10019fc0066f0018fc0065f00193c17006005df1040059f1010057f1040053f10014bc0051f0012fc0050f0013fc004ef00137c004cf08c080127c40c0117c40008010fc40042f00107c003cf00103c003ff000fbc003df07c07b43ac40aa422242d6409440d0400036,XU),
 (13,[],uC 0xfbeffffefffffb1cf849a940107c40040f000ffce800fbc003df000f3cec7ce78cf7db5d07ccb1bb0bc5cb6ca6ba85c0a740664454412,QV),
 (14,[],uC 0x56f4badaacac5ca68967985c9237e28601b1e75971b686c097405641ce412,QT)]
theorem czb1:czQ cza1:=⟨by kernel_rfl,by kernel_rfl⟩
def cza2:List (Nat×List Nat×List (List Nat)×AF):=[(15,[],uC 0x10098f10100087f1019006df103006af1080062f1020060f103005cf10030059f1020057f1040052f1000147c0050f0012fc004ff0013bc004df00133c1fcdcf32a24010bc7373cca89e503d5034cf0cb1172fbaab6cac6c0694457430,QA),
 (16,[],uC 0x724071403a240a040009a400554034741c,Qaa),
 (17,[],uC 0x6f406e4065440d140008b40894087416,Qac),
 (18,[],uC 0x7740b5407441ae6301612a40e7400e3411e409b409940054409240ce40004d4008a42a,Z9),
 (19,[],uC 0x26240648408,Y5),
 (20,[],uC 0x33f3f26211408f40cb400106412,Xs)]
theorem czb2:czQ cza2:=⟨by kernel_rfl,by kernel_rfl⟩
def cza3:List (Nat×List Nat×List (List Nat)×AF):=[(22,[],uC 0x83404,strconv_Itoa),
 (23,[],uC 0xc540043408,XA),
 (26,[],uC 0xe33cf3322e440a241da400984113400345418,XC),
 (27,[],uC 0xc5404,bytes_Split),
 (28,[],uC 0x51410d404b42891881c5c0a,strconv_Atoi),
 (29,[],uC 0x401cbc42801a3c40c0193c404018fc4080187c4300153c408014bc4080143c4200123c408011bc41800ffc40fb407a40b8432b40000a940a740654064419e411a40d74113409140cd400000010bc,Qad)]
theorem czb3:czQ cza3:=⟨by kernel_rfl,by kernel_rfl⟩
def cza4:List (Nat×List Nat×List (List Nat)×AF):=[(30,[],uC 0x145404,bytes_Equal),
 (31,[],uC 0x17440b241ea42224035441cc408a40c640018,Xo),
 (32,[],uC 0x4012fc6ecfcffffd290ed02e5e3fcfff3a36b40e841e1415b4034d408b40c74001c,XE),
 (33,[],uC 0x100133c41c0117c41800fbc40800f3c40f8401f1416b40a940e5400064b41e,Xl),
 (34,[],uC 0x10f40245408,Qab),
 (35,[],uC 0x1d740954110400246412,XD)]
theorem czb4:czQ cza4:=⟨by kernel_rfl,by kernel_rfl⟩
def cza5:List (Nat×List Nat×List (List Nat)×AF):=[(36,[58],uC 0x1003ff101003ef1b9b772a27540f140af4006a40e7406640a3406240a0409e400059405842cc426,Zw),
 (37,[],uC 0x40173c418015bc4040153c4100143c410012fc4180117c42000f7c40bb41f340000b1412c400e940687b3ffe33f46417409540d140050408d430,Xr),
 (38,[],uC 0x40203c6ecfcffffd2900070f102006ef1e3fcfff3a340183c404017fc4080177c40c0167c40018014fc4180133c40180117c4100107c443041aa422240a041d840000964111400000008d400103c,XB),
 (39,[],uC 0x1c740045408,XI),
 (40,[],uC 0x1cc408a40c6400e,XL),
 (41,[],uC 0x84c408a40c6400e,Xq)]
theorem czb5:czQ cza5:=⟨by kernel_rfl,by kernel_rfl⟩
def cza6:List (Nat×List Nat×List (List Nat)×AF):=[(42,[],uC 0x1c7408544,Yd),
 (46,[],uC 0x103404,Qb9),
 (47,[],uC 0x400f3c40f940f640b441ed73fcfca898d0285037500369cff3f2a250408e40ca400494086422,YB),
 (48,[],uC 0xc5404,YH),
 (49,[],uC 0x104404,YK),
 (50,[],uC 0xe740e440a2411e40da4116409440d0408e404d404b40c841a,Q0)]
theorem czb6:czQ cza6:=⟨by kernel_rfl,by kernel_rfl⟩
def cza7:List (Nat×List Nat×List (List Nat)×AF):=[(51,[],uC 0x144404,YJ),
 (52,[],uC 0x105404,Yy),
 (53,[],uC 0x144404,YI),
 (55,[],uC 0x105404,Xg),
 (56,[],uC 0x63406240df409d400097405640554053410f408d400020,Xn),
 (57,[],uC 0x244404,X6)]
theorem czb7:czQ cza7:=⟨by kernel_rfl,by kernel_rfl⟩
def cza8:List (Nat×List Nat×List (List Nat)×AF):=[(61,[],uC 0x345404,XR),
 (62,[],uC 0x10010bc41000fbc40800f3c41b642eb406940e640a3400a1409f415a4116405440d1408e4004c426,bytes_genSplit),
 (65,[],uC 0x40127c4040123c42c00f7c40fa4000f341ec406a40e7406640644019e405c409946174965544c7c0ce40004d42c,Yt),
 (66,[],uC 0xd040004f404e404d404c404b404a404940484008341c,unicode_IsSpace),
 (67,[],uC 0x14c408a40c6400e,XS),
 (68,[],uC 0x245404,Xp)]
theorem czb8:czQ cza8:=⟨by kernel_rfl,by kernel_rfl⟩
def cza9:List (Nat×List Nat×List (List Nat)×AF):=[(69,[],uC 0x105404,X5),
 (70,[],uC 0xc4404,YL),
 (71,[],uC 0xff3dc2a244404,XY),
 (72,[],uC 0x144404,Ys),
 (73,[],uC 0x104404,Yr),
 (74,[],uC 0x144404,Yq)]
theorem czb9:czQ cza9:=⟨by kernel_rfl,by kernel_rfl⟩
def cza10:List (Nat×List Nat×List (List Nat)×AF):=[(78,[],uC 0x105404,Qv),
 (79,[],uC 0x524051414b404a40046410,Qz),
 (80,[],uC 0x104404,XX),
 (81,[],uC 0x524051414b404a40046410,Xz),
 (82,[],uC 0x5a4251404f41c84047404540e,Y9),
 (88,[],uC 0x19d409b405a405840d540150408d40ca4087416,QeM)]
theorem czb10:czQ cza10:=⟨by kernel_rfl,by kernel_rfl⟩
def cza11:List (Nat×List Nat×List (List Nat)×AF):=[(89,[],uC 0xc0317c4004030fc41402fbc42402d3c40802cbc40802c3c40402bfc440027bc410026bc4040263c41c0247c414022fc4080223c414020fc4000c0203c40c01f7c4000c01ebc40401e3c41401cfc40c01bfc40801b7c40801afc40401abc4400167c4100157c4004014fc41c0133c414011bc408010fc401400fbc400fb40f840f540b240ef4012a4000a64122415c409a4009740944001c3c,Qa7),
 (95,[],uC 0x554453485c050408e404c408a40010,Xe),
 (96,[],uC 0x13742eb412741a14410410c4108412,Q6),
 (97,[],uC 0x105404,QC),
 (98,[],uC 0x104404,Xt),
 (116,[],uC 0xc5404,bytes_IndexByte)]
theorem czb11:czQ cza11:=⟨by kernel_rfl,by kernel_rfl⟩
def cza12:List (Nat×List Nat×List (List Nat)×AF):=[(123,[],uC 0x4801a3c4014018bc40c017fc434014bc4040143c4014012bc40c011fc42000ffc40400f7c4027340f0400ad412940e6425d4119405740d440d14004f408d436,QJ),
 (124,[],uC 0x801c3c40401bfc41401a7c7fcff3ffcfd4930056f10d0048f1030045f106003ff102003cf102e90001e5ff3fcfff3f524e641604015a40d7405640052418b42e,Z2),
 (126,[],uC 0x524051414b404a40046410,QG)]
theorem czb12:czQ cza12:=⟨by kernel_rfl,by kernel_rfl⟩
def czs:List (Nat×List Nat×List (List Nat)×AF):=cza0++(cza1++(cza2++(cza3++(cza4++(cza5++(cza6++(cza7++(cza8++(cza9++(cza10++(cza11++cza12)))))))))))
theorem czc:∀ c∈czs,czP c:=czp (czo czb0) (czp (czo czb1) (czp (czo czb2) (czp (czo czb3) (czp (czo czb4) (czp (czo czb5) (czp (czo czb6) (czp (czo czb7) (czp (czo czb8) (czp (czo czb9) (czp (czo czb10) (czp (czo czb11) (czo czb12))))))))))))
theorem czt:∀ f A,tab f=some A→(czs.find? fun c=>c.1==f).map (·.2.2.2)=some A:=fun f A h=>by
 unfold tab at h
 split at h <;> (cases h <;> rfl)
theorem tab_ok:Qn Tryz.prog tab:=fun f A h=>by
 have h:=czt f A h
 rw [Option.map_eq_some_iff] at h
 obtain ⟨c,h1,h2⟩:=h
 have hf:=List.find?_some h1
 have hm:=List.mem_of_find?_eq_some h1
 simp only [beq_iff_eq] at hf
 subst hf h2
 exact ⟨(czc c hm).1,_,_,(czc c hm).2⟩
end Go.Proofs.YtingdebioipemaaGreatDoor
