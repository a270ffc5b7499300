/- The translations are so. -/
import Derived.Test.YtingdebioipemaaTabB
import Derived.Test.YtingdebioipemaaProg
namespace Go.Proofs.Ytingdebioipemaa
open Go Go.Am
set_option maxRecDepth 100000
def ZE:Nat→List Nat:=fun i=>[[],[],[11,12,13],[],[],[],[15,16,17],[],[],[],[],[],[22,23,24],[],[25,26,27,28,29],[0,3,3,1,3,2],[30],[],[31],[],[32,33],[],[],[],[36,37,38],[],[40,41,42,43,44],[],[45],[]].getD i []
theorem Qq6:(rngOf Try.prog 11 0).map (fun r=>(QL Try.prog 46 (fun _=>false) ZE (rngA r),calm (rngA r)))=some (some Qab,true):=by kernel_rfl
theorem Qq5:(rngOf Try.prog 11 0).map (fun r=>(QL Try.prog 46 (fun _=>false) ZE (rngB r),calm (rngB r)))=some (some Qaa,true):=by kernel_rfl
def uC (N:Nat):List (List Nat):=(uli (fun N=>match N%4 with
 | 0=>([],N/4)
 | 1=>ubd unt (fun a=>ump (List.range' a) unt) (N/4)
 | 2=>uli (udg 4) (N/4)
 | _=>uli unt (N/4)) N).1
theorem czm {α β:Type} (g k:α→β):∀ l:List α,l.foldr (fun c r=>g c::r) []=l.map k→∀ c∈l,g c=k c
 | [],_,c,h=>by cases h
 | a::r,e,c,h=>by
  simp only [List.foldr_cons,List.map_cons,List.cons.injEq] at e
  rcases List.mem_cons.1 h with rfl | h
  ·exact e.1
  ·exact czm g k r e.2 c h
abbrev czP (c:Nat×List Nat×List (List Nat)×AF):Prop:=Qm Try.prog c.1=true∧QE Try.prog (fun d=>c.2.1.contains d) (fun i=>c.2.2.1.getD i []) c.1=some c.2.2.2
abbrev czQ (l:List (Nat×List Nat×List (List Nat)×AF)):Prop:=l.all (fun c=>Qm Try.prog c.1)=true∧l.foldr (fun c l=>QE Try.prog (fun d=>c.2.1.contains d) (fun i=>c.2.2.1.getD i []) c.1::l) []=l.map fun c=>some c.2.2.2
theorem czo {l:List (Nat×List Nat×List (List Nat)×AF)} (h:czQ l):∀ c∈l,czP c:=fun c hc=>⟨List.all_eq_true.1 h.1 c hc,czm _ _ _ h.2 c hc⟩
theorem czp {l m:List (Nat×List Nat×List (List Nat)×AF)} (h:∀ c∈l,czP c) (k:∀ c∈m,czP c):∀ c∈l++m,czP c:=fun c hc=>(List.mem_append.1 hc).elim (h c) (k c)
def cza0:List (Nat×List Nat×List (List Nat)×AF):=[(3,[],uC 0x3efbffffec73fb1cfb1c9e9a94a278e69641b2285d81f786c09b405a434c40e,QU),
 (4,[],uC 0x40163c402c0133c4200113c408010bc40c00fbc400fb40b94134438fc1e1ad40ab40e74001a0409e405d448a42a,QZ),
 (5,[],uC 0x10061f10fe7ce3e3cc524c0137c41c011bc40080113c41000ffc4017a4032d416841a240df405e448b422,Q0),
 (7,[],uC 0x600167c40c015bc40e1d42934091404f40207414,QT),
 (8,[],uC 0x150408e40ca4000c6412,XG),
 (9,[],uC 0x20511348a4503ce34c2cac184408,Xn)]
theorem czb0:czQ cza0:=⟨by kernel_rfl,by kernel_rfl⟩
def cza1:List (Nat×List Nat×List (List Nat)×AF):=[(10,[],uC 0x143404,Xo),
 (11,[],uC 0x1b505a1039100281017d0179b7c1a15940d64000cf400cb41e,Qg3),
 (12,[],uC 0x5c405b409840d54093405140ce404d400c9416,Xf),
 (13,[],uC 0x2003cf10cefadf9e06c2f6d71d33c87c070416b40e84000e14005f479d69c6c5c02ce41e,Qan),
 (14,[],uC 0x1c5404,QX),
 (15,[],uC 0x28501810669016503550349009d3322188414,Qda)]
theorem czb1:czQ cza1:=⟨by kernel_rfl,by kernel_rfl⟩
def cza2:List (Nat×List Nat×List (List Nat)×AF):=[(16,[],uC 0x29db93f32a25e405d78fc1e196409440d04018a40c7414,Xg),
 (17,[],uC 0x4884086406,Qdb),
 (18,[],uC 0x4884086406,Xh),
 (19,[],uC 0xe3f3f2a251408f40cb400106412,QR),
 (20,[],uC 0x724071403a240a040009a400554034741c,ZT),
 (21,[],uC 0x9e4216409440d0400cd408b41064018,Xi)]
theorem czb2:czQ cza2:=⟨by kernel_rfl,by kernel_rfl⟩
def cza3:List (Nat×List Nat×List (List Nat)×AF):=[(22,[],uC 0x1d740954110400246412,Xl),
 (23,[],uC 0x84c408a40c6400e,Q7),
 (24,[],uC 0x7740b5407441ae6301612a40e7400e3411e409b409940054409240ce40004d4008a42a,ZS),
 (25,[],uC 0x40197c427ff0887005df1050058f10020056f1030052f10023b92db27aeaa681f019908750471b61a646c0574349422,Q8),
 (26,[],uC 0xc540043408,QI),
 (27,[11],uC 0xfafd12a245404,ZM)]
theorem czb3:czQ cza3:=⟨by kernel_rfl,by kernel_rfl⟩
def cza4:List (Nat×List Nat×List (List Nat)×AF):=[(28,[],uC 0x181056defff221d440924051408e4188410,Yt),
 (29,[],uC 0xc540043408,Qw),
 (30,[],uC 0x43404,Qer),
 (31,[],uC 0x18b41464008,QW),
 (32,[],uC 0x6f406e4065440d140008b40894087416,ZU),
 (33,[58],uC 0x1003ff101003ef1b9b772a27540f140af4006a40e7406640a3406240a0409e400059405842cc426,Zh)]
theorem czb4:czQ cza4:=⟨by kernel_rfl,by kernel_rfl⟩
def cza5:List (Nat×List Nat×List (List Nat)×AF):=[(34,[],uC 0xe33cf3322e440a241da400984113400345418,Xk),
 (35,[],uC 0x80143c428013fc004ef0012fc004df00133c1bb973f3322c0103c40800fbc40fa401b440f14006f41aeb6ab2b1b0fccfff33ff3f625d2409040cc4022,QY),
 (36,[],uC 0x33f3f26211408f40cb400106412,Q9),
 (37,[],uC 0xc5404,Yy),
 (38,[],uC 0x104404,YB),
 (39,[],uC 0xe740e440a2411e40da4116409440d0408e404d404b40c841a,QK)]
theorem czb5:czQ cza5:=⟨by kernel_rfl,by kernel_rfl⟩
def cza6:List (Nat×List Nat×List (List Nat)×AF):=[(40,[],uC 0x144404,YA),
 (41,[],uC 0x105404,Yi),
 (42,[],uC 0x144404,Yz),
 (43,[],uC 0x1c7408544,XY),
 (47,[38,44],uC 0x40167c408015fc404015bc4140143c404013fc4040137c6f3f3fcce8d0040f101003ff1002e904d901d5006b502ad01a5289e39a5906fbeeeee3631740d44053418c42c,Qc9),
 (51,[],uC 0x400f3c40f940f640b441ed73fcfca898d0285037500369cff3f2a250408e40ca400494086422,Yo)]
theorem czb6:czQ cza6:=⟨by kernel_rfl,by kernel_rfl⟩
def cza7:List (Nat×List Nat×List (List Nat)×AF):=[(52,[],uC 0x144404,Yd),
 (53,[],uC 0x104404,Yc),
 (54,[],uC 0x144404,Yb),
 (55,[],uC 0x345404,XE),
 (56,[],uC 0x4012fc6ecfcffffd290ed02e5e3fcfff3a36b40e841e1415b4034d408b40c74001c,Xm),
 (57,[],uC 0x40203c6ecfcffffd2900070f102006ef1e3fcfff3a340183c404017fc4080177c40c0167c40018014fc4180133c40180117c4100107c443041aa422240a041d840000964111400000008d400103c,Xj)]
theorem czb7:czQ cza7:=⟨by kernel_rfl,by kernel_rfl⟩
def cza8:List (Nat×List Nat×List (List Nat)×AF):=[(58,[],uC 0x105404,Qq),
 (59,[],uC 0x524051414b404a40046410,Qv),
 (60,[],uC 0x104404,XK),
 (64,[31,64],uC 0x4010bc401400f3c41b64026c42e140dd40da40974554453485c08f4004a420,X8),
 (65,[8,37,43,46,70],uC 0x10010fc6f9cfcff3e3b54007340b14032440a240258428e4004c42891881c5c20,YJ),
 (66,[],uC 0x14c408a40c6400e,XF)]
theorem czb8:czQ cza8:=⟨by kernel_rfl,by kernel_rfl⟩
def cza9:List (Nat×List Nat×List (List Nat)×AF):=[(67,[],uC 0x245404,Q6),
 (78,[19],uC 0x6d406c65ccff3f3e39e409c40057428d4148412,YK),
 (79,[],uC 0x1d042474045408,YC),
 (80,[9],uC 0x2ad41a740656eefcff3fcff3f6e60d408b40088412,Ye),
 (81,[59],uC 0x60057f1010056f1040052f1020050f19ffcfcb8a0046f1040042f1010040f1000fbc003df000f3cdfbeb9e08c0f44000ae41a841e17ccfcfcc8b59f3f3f2a24c424,XQ),
 (82,[],uC 0x1cc433f3f2620340a,XR)]
theorem czb9:czQ cza9:=⟨by kernel_rfl,by kernel_rfl⟩
def cza10:List (Nat×List Nat×List (List Nat)×AF):=[(83,[28,36,89,90],uC 0x3af7f2620014fc6ecf3ffce8c0047f1010046f1010045f1f34fcfcd3f3ffdb9aa901a50019500581027503690a41083ce2cd306c1e,X6),
 (84,[17,141],uC 0xee3343f3f4a4401f7c40801efc41001dfc40401d7c40801cfc40801c7c41c01abc40801a3c4280177c4040173c424014fc410013fc4080137c7cfcf3f36300103c427740b5436740a540a34001d84192400514050436,X7),
 (85,[],uC 0x6c406b7f3cfcf3fffcf3f7670e408c418540010,Yu),
 (91,[],uC 0x103404,Qg2),
 (92,[93],uC 0x1c0163c4014014bc425c3cfcf3f4e480103c6ecf3ffce8cd106b502ad039d000585bb3cff32297411241cb420,X5),
 (93,[],uC 0x8003ef109d5bf3cfcff423e640656dcfc8877902710fcf3f3f3a2cd418652,Yv)]
theorem czb10:czQ cza10:=⟨by kernel_rfl,by kernel_rfl⟩
def cza11:List (Nat×List Nat×List (List Nat)×AF):=[(94,[],uC 0xc4404,Xu)]
theorem czb11:czQ cza11:=⟨by kernel_rfl,by kernel_rfl⟩
def czs:List (Nat×List Nat×List (List Nat)×AF):=cza0++(cza1++(cza2++(cza3++(cza4++(cza5++(cza6++(cza7++(cza8++(cza9++(cza10++cza11))))))))))
theorem czc:∀ c∈czs,czP c:=czp (czo czb0) (czp (czo czb1) (czp (czo czb2) (czp (czo czb3) (czp (czo czb4) (czp (czo czb5) (czp (czo czb6) (czp (czo czb7) (czp (czo czb8) (czp (czo czb9) (czp (czo czb10) (czo czb11)))))))))))
theorem czt:∀ f A,tab f=some A→(czs.find? fun c=>c.1==f).map (·.2.2.2)=some A:=fun f A h=>by
 unfold tab at h
 split at h <;> (cases h <;> rfl)
theorem tab_ok:Qj Try.prog tab:=fun f A h=>by
 have h:=czt f A h
 rw [Option.map_eq_some_iff] at h
 obtain ⟨c,h1,h2⟩:=h
 have hf:=List.find?_some h1
 have hm:=List.mem_of_find?_eq_some h1
 simp only [beq_iff_eq] at hf
 subst hf h2
 exact ⟨(czc c hm).1,_,_,(czc c hm).2⟩
end Go.Proofs.Ytingdebioipemaa
