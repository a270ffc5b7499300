/- The translations are so. -/
import Derived.Test.YtaidbdgndljaeaaGreatDoorTabB
import Derived.Test.YtaidbdgndljaeaaGreatDoorProg
namespace Go.Proofs.YtaidbdgndljaeaaGreatDoor
open Go Go.Am
set_option maxRecDepth 100000
def Qcp:Nat→List Nat:=fun i=>[[],[],[],[],[8,9,10,11],[],[12,13],[],[],[],[17,18,19,20,21,22,23,24,25,26,27,28],[0,0,3,0,3,3,3,3,3,0,3,3,2],[29,30,31,32],[],[33],[]].getD i []
theorem Qp3:(rngOf Tryz.prog 35 0).map (fun r=>(XL Tryz.prog 34 (fun _=>false) Qcp (rngA r),Qpi (rngA r)))=some (some Qib,true):=by kernel_rfl
theorem Qp2:(rngOf Tryz.prog 35 0).map (fun r=>(XL Tryz.prog 34 (fun _=>false) Qcp (rngB r),Qpi (rngB r)))=some (some Qia,true):=by kernel_rfl
def uC (N:Nat):List (List Nat):=(uli (fun N=>match N%4 with
 | 0=>([],N/4)
 | 1=>ubd unt (fun a=>ump (List.range' a) unt) (N/4)
 | 2=>uli (udg 4) (N/4)
 | _=>uli unt (N/4)) N).1
theorem czm {α β:Type} (g k:α→β):∀ l:List α,l.foldr (fun c r=>g c::r) []=l.map k→∀ c∈l,g c=k c
 | [],_,c,h=>by cases h
 | a::r,e,c,h=>by
  simp only [List.foldr_cons,List.map_cons,List.cons.injEq] at e
  rcases List.mem_cons.1 h with rfl | h
  ·exact e.1
  ·exact czm g k r e.2 c h
abbrev czP (c:Nat×List Nat×List (List Nat)×AF):Prop:=Ql Tryz.prog c.1=true∧QA Tryz.prog (fun d=>c.2.1.contains d) (fun i=>c.2.2.1.getD i []) c.1=some c.2.2.2
abbrev czQ (l:List (Nat×List Nat×List (List Nat)×AF)):Prop:=l.all (fun c=>Ql Tryz.prog c.1)=true∧l.foldr (fun c l=>QA Tryz.prog (fun d=>c.2.1.contains d) (fun i=>c.2.2.1.getD i []) c.1::l) []=l.map fun c=>some c.2.2.2
theorem czo {l:List (Nat×List Nat×List (List Nat)×AF)} (h:czQ l):∀ c∈l,czP c:=fun c hc=>⟨List.all_eq_true.1 h.1 c hc,czm _ _ _ h.2 c hc⟩
theorem czp {l m:List (Nat×List Nat×List (List Nat)×AF)} (h:∀ c∈l,czP c) (k:∀ c∈m,czP c):∀ c∈l++m,czP c:=fun c hc=>(List.mem_append.1 hc).elim (h c) (k c)
def cza0:List (Nat×List Nat×List (List Nat)×AF):=[(3,[],uC 0x401abc4008019fc4020017bc42c014fc4080143c40c0137c40c012bc400c011bc410010bc40c00fbc40800f3c40f8400134400f0412c40aa40e64006540a2486075f785c05c438d4000f3c,Xs),
 (5,[],uC 0x24023bc43ff3f3fff3fcffffffffffffff2b1005cf124e137daed74cf2c70bcac0ac41e4400a240de4005d409a4658557585c054424a422,Xj),
 (6,[],uC 0x3402f3c41002e3c402002bfc66a7fdff108e00a1f102009ff101009df1002009bf1010099f10010098f10220075f1020073f10001006ef100d0060f19a505413a300153c408014bc4020011bc4080113c404010bc40040107c43e6a507ea9005e5aa40a840414409240504004f400133c,QE),
 (7,[],uC 0x10fc0042f100107c0040f39003ff000fbc003df000f3cefa2738df1db5d33c88c270beabadb2b2307a689279a51f058e276181f788c71b55a6585d623144cf491406c12,Yy),
 (8,[],uC 0x28501810471b03816d0261175925544c6c0514008c4004b408841a,Qea),
 (9,[],uC 0x14c408a40c6400e,YZ)]
theorem czb0:czQ cza0:=⟨by kernel_rfl,by kernel_rfl⟩
def cza1:List (Nat×List Nat×List (List Nat)×AF):=[(10,[],uC 0x13740b5417041a94221405f4015a40487416,Y9),
 (11,[],uC 0xfccff3fff3ec625c010fc43fcff33f3ef3ffccfcfffffb6b16455435349140f389c08b41064014,YY),
 (12,[],uC 0xfa4cf3cf3cf3ccdd9b003ff1005e502b3500c2c7289206c10,Qd9),
 (13,[],uC 0x40113c41800fbc40400f3c4efac79e37db5d33c8bc0af41a840592409040cc4008a41a,Yl),
 (14,[],uC 0x33f3f26211408f40cb400106412,Yf),
 (15,[],uC 0x3c5404,YL)]
theorem czb1:czQ cza1:=⟨by kernel_rfl,by kernel_rfl⟩
def cza2:List (Nat×List Nat×List (List Nat)×AF):=[(16,[],uC 0x70402a540e24005d402144308416,Za),
 (17,[],uC 0x1d9001d103c59cfcff33a3254068a410,Qay),
 (18,[],uC 0x107404,YP),
 (19,[],uC 0x403b3c43f3ccf3fffcffffb1cfffb1cffeb1cfc00fbc800f7c00aef10200acf10400a7f100f90ffff3cfffccfffcfccfff3f33ffbba006cf1040068f1020066f1030062f1000a0057f10e0049f1010047f1ecfcd0322c00f3c40ba41354013140af412a402df409c46da5d9605c056424c4000f3c,Q0),
 (20,[],uC 0x41404,YO),
 (21,[],uC 0x293c68449a712090408d430b18a2481c7c0a,Zc)]
theorem czb2:czQ cza2:=⟨by kernel_rfl,by kernel_rfl⟩
def cza3:List (Nat×List Nat×List (List Nat)×AF):=[(22,[13],uC 0xce414940484004740c,Qde),
 (23,[],uC 0x1401dfc42401bbc40401b7c41401a3c404019bc40c018fc410017fc40c016fc404016bc4014014bc430011bc4040117c6fe43ff3633940f640744cf2bf1c05c0ec401a240617bf3f30c8b59155104d2446c30,QaV),
 (24,[],uC 0x303404,Qa6),
 (25,[],uC 0x203404,Zu),
 (26,[],uC 0x185408344,QaI),
 (27,[],uC 0xe740e440a2411e40da4116409440d0408e404d404b40c841a,Xx)]
theorem czb3:czQ cza3:=⟨by kernel_rfl,by kernel_rfl⟩
def cza4:List (Nat×List Nat×List (List Nat)×AF):=[(28,[],uC 0x400f3c40f940f640b441ed73fcfca898d0285037500369cff3f2a250408e40ca400494086422,ZC),
 (29,[],uC 0x244404,Yv),
 (30,[],uC 0x28100c4d074913503ce1f0430b20a246c0c,Qgb),
 (31,[],uC 0xce404d4186404540a,Qvk),
 (32,[],uC 0x245404,QbS),
 (33,[],uC 0x451414c404a7f8160c740a,QbR)]
theorem czb4:czQ cza4:=⟨by kernel_rfl,by kernel_rfl⟩
def cza5:List (Nat×List Nat×List (List Nat)×AF):=[(34,[],uC 0x50404f40cc408a400010,Qc1),
 (35,[],uC 0x61411d6f3ff30363114008c41084010,QdW),
 (36,[],uC 0x3f0f3ff3ff4e487404,Z1),
 (37,[],uC 0x485404,Ya),
 (38,[],uC 0x524051414b404a40046410,Qx),
 (39,[],uC 0x104404,Zb)]
theorem czb5:czQ cza5:=⟨by kernel_rfl,by kernel_rfl⟩
def cza6:List (Nat×List Nat×List (List Nat)×AF):=[(40,[],uC 0x10051f102004ff119d503c904b9089507790661175905544d2448c08e40ca4004941c,YM),
 (41,[],uC 0x77100e350c2c7289206c0a,Yz),
 (42,[],uC 0x367401a04011b4040a414,Xz),
 (43,[],uC 0x5b6e4f332e291408f410a4014540e,YA),
 (44,[],uC 0x754131412c40aa40e640025d409b40d7400d44092410d40109422,XJ),
 (45,[],uC 0x4012bc410011bc4474432840a6412140015c40489418,XG)]
theorem czb6:czQ cza6:=⟨by kernel_rfl,by kernel_rfl⟩
def cza7:List (Nat×List Nat×List (List Nat)×AF):=[(46,[],uC 0x385404,Xi),
 (47,[],uC 0x3c00f7c40bb413640059f419940447418,XI),
 (48,[],uC 0x7440b2498c414740a,QaF),
 (49,[],uC 0x382404,QaE),
 (50,[],uC 0x282404,QaD),
 (51,[],uC 0x482404,QaC)]
theorem czb7:czQ cza7:=⟨by kernel_rfl,by kernel_rfl⟩
def cza8:List (Nat×List Nat×List (List Nat)×AF):=[(52,[],uC 0x143404,QaB),
 (53,[],uC 0x105404,Qo),
 (54,[],uC 0x105404,QD),
 (55,[],uC 0xc3404,QaA),
 (56,[],uC 0x1e641df415941154034740e,Qb1),
 (57,[45],uC 0x400fbc40400f7c6f43326235407340b14049b41d440d14050404e40cb404a41c,Qgc)]
theorem czb8:czQ cza8:=⟨by kernel_rfl,by kernel_rfl⟩
def cza9:List (Nat×List Nat×List (List Nat)×AF):=[(58,[],uC 0x614064740c440a,Qa7),
 (59,[20],uC 0x6240a0411b4099400348412,Yu),
 (60,[],uC 0x6e40ac4128406640e34061405f4005e405d411940974009140504008b404a426,Y8),
 (62,[],uC 0x8640c3406,Qew),
 (63,[],uC 0x524051414b404a40046410,XD),
 (64,[],uC 0xb844444444444444444444444444444444444444444444444444444444444444440084f20083f28406741a140de4198411440d140ce40cb404a416,Qm6)]
theorem czb9:czQ cza9:=⟨by kernel_rfl,by kernel_rfl⟩
def cza10:List (Nat×List Nat×List (List Nat)×AF):=[(65,[],uC 0x544053410f408d400484086410,Qa4),
 (67,[],uC 0x1003df101003cf104e1004cd004b902caea8e9a279a590ac2d84191408f40cb4004a420,Ye),
 (68,[],uC 0x983404,XV),
 (69,[],uC 0x140153c477740132422a40a840e44000a2486075f785c02d1414c41e,Xy),
 (70,[],uC 0x90051f1014003cf105dd00f3ff3f33a36940a74122401da40211414c41e,Xr),
 (71,[],uC 0x50b4146406,XH)]
theorem czb10:czQ cza10:=⟨by kernel_rfl,by kernel_rfl⟩
def cza11:List (Nat×List Nat×List (List Nat)×AF):=[(72,[],uC 0xd05404,XF),
 (73,[],uC 0x52841634070640a,Xc),
 (74,[],uC 0x524051414b404a40046410,QK),
 (75,[],uC 0x524051414b404a40046410,QL),
 (76,[],uC 0x524051414b404a40046410,Q4),
 (77,[],uC 0x384404,QbT)]
theorem czb11:czQ cza11:=⟨by kernel_rfl,by kernel_rfl⟩
def cza12:List (Nat×List Nat×List (List Nat)×AF):=[(78,[],uC 0x687f8f4ca897d017504650161fdccf2a24f408d400484016,Qax),
 (79,[],uC 0xff3cf2a245404,Qd8),
 (80,[],uC 0x3d140504247408,Y7),
 (81,[],uC 0xf740764075400734070400ec4012749a58a48c5c04504208420,Ys),
 (82,[],uC 0x30012bc673fcff362c00ffc40c00f3c48d8415340914208412,X9),
 (83,[],uC 0x485404,YK)]
theorem czb12:czQ cza12:=⟨by kernel_rfl,by kernel_rfl⟩
def cza13:List (Nat×List Nat×List (List Nat)×AF):=[(93,[],uC 0x18d408b40894047400854043410,Qc9),
 (94,[],uC 0x1934091408f404d408b40894047400854043416,Qc8),
 (95,[],uC 0x2d73f3fc3e38b404,Qm5),
 (97,[],uC 0x42f01404,QaK),
 (98,[],uC 0x3f37f373630013fc7f37fcdfcdd493003cf101ed01e9ff37fcdfcdd594950191f371a15e405d405c44894048404541a,QM),
 (99,[],uC 0x4400f3c407b41754074446240614218405740d3405240ce404d410840474022,Qr)]
theorem czb13:czQ cza13:=⟨by kernel_rfl,by kernel_rfl⟩
def cza14:List (Nat×List Nat×List (List Nat)×AF):=[(100,[],uC 0x5140504004e404d4004b404a404940047401e,YX),
 (101,[],uC 0xffff221c7404,Yw),
 (102,[],uC 0x28900a5d081d655439349140f2f0434c24b286c0c,Yd),
 (103,[],uC 0x664122409f411b405943f33cccc8a3d001350330b20a246c16,Yx),
 (104,[],uC 0x183404,Yb),
 (105,[],uC 0x206404,Yt)]
theorem czb14:czQ cza14:=⟨by kernel_rfl,by kernel_rfl⟩
def cza15:List (Nat×List Nat×List (List Nat)×AF):=[(106,[],uC 0x105404,Xh),
 (107,[17,19,21,23],uC 0x2590251024905350012d032891881c6c10,Qic),
 (108,[],uC 0x104404,XE),
 (115,[],uC 0x4e410a4105408,Yc),
 (116,[],uC 0x402dfc444029bc4040297c40c0287c4040283c444023bc4040237c424020fc404020bc41001f7c40401f3c40401efc40401ebc40401dfc40c01d3c464016fc40080163c4014014bc40d1d4215451348e4503c7c0cb434,Qj),
 (117,[],uC 0x14f404e4205404440a,YW)]
theorem czb15:czQ cza15:=⟨by kernel_rfl,by kernel_rfl⟩
def cza16:List (Nat×List Nat×List (List Nat)×AF):=[(118,[],uC 0x524051414b404a40046410,XC),
 (119,[10],uC 0x185408344,XO),
 (120,[],uC 0x400f3c40f940f640b441ed73fcfca898d0285037500369cff3f2a250408e40ca400494086422,Xq),
 (121,[],uC 0xe740e440a2411e40da4116409440d0408e404d404b40c841a,QS),
 (122,[],uC 0x83404,Qc2),
 (124,[],uC 0x8011bc42fb407a42ee406d42e1406041994058419140504189404840474020,YN)]
theorem czb16:czQ cza16:=⟨by kernel_rfl,by kernel_rfl⟩
def cza17:List (Nat×List Nat×List (List Nat)×AF):=[(125,[27],uC 0x10085f106007ff103007cf102007af1050075f1030072f102006ff102006df1060067f1010066f100197c0064f0017bc0063f0018bc0061f00183c005ff08c040177c4140163c7e3f3fff3e380127c40c0117c41c00f7c401b7413340714c2faaeb6cac7c0a841244062411e405c4118405640d340000fbc,Xg),
 (126,[],uC 0x524051414b404a40046410,QX),
 (127,[],uC 0xbb3f3ffff4a421409f78ff3fff3e390404f408d408a40884e,QT),
 (133,[],uC 0x305404,QaG),
 (139,[],uC 0xc3404,Z9)]
theorem czb17:czQ cza17:=⟨by kernel_rfl,by kernel_rfl⟩
def czs:List (Nat×List Nat×List (List Nat)×AF):=cza0++(cza1++(cza2++(cza3++(cza4++(cza5++(cza6++(cza7++(cza8++(cza9++(cza10++(cza11++(cza12++(cza13++(cza14++(cza15++(cza16++cza17))))))))))))))))
theorem czc:∀ c∈czs,czP c:=czp (czo czb0) (czp (czo czb1) (czp (czo czb2) (czp (czo czb3) (czp (czo czb4) (czp (czo czb5) (czp (czo czb6) (czp (czo czb7) (czp (czo czb8) (czp (czo czb9) (czp (czo czb10) (czp (czo czb11) (czp (czo czb12) (czp (czo czb13) (czp (czo czb14) (czp (czo czb15) (czp (czo czb16) (czo czb17)))))))))))))))))
theorem czt:∀ f A,tab f=some A→(czs.find? fun c=>c.1==f).map (·.2.2.2)=some A:=fun f A h=>by
 unfold tab at h
 split at h <;> (cases h <;> rfl)
theorem tab_ok:Qk Tryz.prog tab:=fun f A h=>by
 have h:=czt f A h
 rw [Option.map_eq_some_iff] at h
 obtain ⟨c,h1,h2⟩:=h
 have hf:=List.find?_some h1
 have hm:=List.mem_of_find?_eq_some h1
 simp only [beq_iff_eq] at hf
 subst hf h2
 exact ⟨(czc c hm).1,_,_,(czc c hm).2⟩
end Go.Proofs.YtaidbdgndljaeaaGreatDoor
