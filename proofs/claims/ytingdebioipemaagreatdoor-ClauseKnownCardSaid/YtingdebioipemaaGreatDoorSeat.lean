/- What the seat's laws share: the variables that are read, a world for the witness, numbers as text. -/
import Derived.Test.YtingdebioipemaaGreatDoorCards
import Derived.Test.YtingdebioipemaaGreatDoorTie
import Derived.WalkKit
import Derived.ProofKit
import Derived.OpenShut
import Derived.LaidLaws
import Derived.Deep.DeepHandedRow
import Derived.Lib.LaidTab
import Derived.Lib.LaidU8T
import Derived.Stop.LaidErr
import Derived.Lay
import Derived.Test.YtingdebioipemaaGreatDoorAmD
import Derived.Test.YtingdebioipemaaGreatDoorTabEq
import Derived.Test.YtingdebioipemaaGreatDoorShelf
import Derived.Test.YtingdebioipemaaGreatDoorShA
import Derived.Test.YtingdebioipemaaGreatDoorShB
import Derived.Test.YtingdebioipemaaGreatDoorShW
import Derived.Test.YtingdebioipemaaGreatDoorJ10
namespace Go.Proofs.YtingdebioipemaaGreatDoor
open Go Go.Am Go.ChangeShapes Go.WideShapes Go.ChangeAt Go.RowKit
set_option maxRecDepth 100000
theorem own:ownKnob Tryz.prog.godebug=none:=by kernel_rfl
theorem QAP:laidOutB Tryz.prog=true:=by kernel_rfl
abbrev tBool:TypeId:=4
def whR:List (Int × Int × Int):=(List.range 7).map fun i=>((Lib.whiteT.getD (3 * i) 0:Nat),(Lib.whiteT.getD (3 * i+1) 0:Nat),(Lib.whiteT.getD (3 * i+2) 0:Nat))
def whV:V:=.ref (.agg [.lst 3 (whR.map rgV) false,.lst 3 [] false,.int .i64 (2:Nat)]) 0
def errV:V:=.iface 174 .any
def G0:Nat→Option V:=fun g =>
 if g=6 then some (Qdk .u64 Lib.pow10Tab) else
 if g=0 then some (Qdk .u8 spT) else
 if g=7 then some (Qdk .u8 u8T) else
 if g=8 then some (Qdk .u8 accT) else
 if g=4 then some errV else
 if g=5 then some errV else
 if g=2 then some whV else none
theorem QeB {P:Program} {W:World} {name:String} {k:IntKind} {zs:List Int} {g:Nat} {t e:TypeId} {n:Nat}
 (hg:P.globalNamed name=some g) (hty:(P.globals[g]?).map (·.type)=some t) (ht:P.underlying t=some (.array n e)) (he:P.underlying e=some (.int k)) (hce:P.cellsOf e=1) (hct:P.cellsOf t=n)
 (h:Lib.VarReads P W name (Lib.tabData k zs)):Lib.TabIs P W name k zs:=by
 obtain ⟨g',t',cs,fuel,p,hg',ht',hvar,hd⟩:=h
 obtain rfl:=Option.some.inj (hg.symm.trans hg')
 obtain rfl:=Option.some.inj (hty.symm.trans ht')
 unfold Lib.TabIs
 rw [hvar,← Lib.cells_of_tab ht he hce hct hd]
theorem QyP {P:Program} {W:World} {name:String} {g:Nat} {cs:Array Value} {x:V} (hg:P.globalNamed name=some g) (h:W.var? P name=some cs) (hx:0<x.cells.length) (hc:cs.size=x.cells.length):Gv W g x:=by
 unfold World.var? at h
 rw [hg] at h
 simp only [Option.bind_some] at h
 split at h
 ·rename_i c T m hc2
  injection h with h
  subst h
  exact ⟨hx,_,T,m,hc2,hc⟩
 ·cases h
theorem gPow : Tryz.prog.globalNamed "internal/strconv.uint64pow10" = some 6 := by kernel_rfl
theorem Qun:(Tryz.prog.globals[6]?).map (·.type)=some 166:=by kernel_rfl
theorem gSp : Tryz.prog.globalNamed "bytes.asciiSpace" = some 0 := by kernel_rfl
theorem QAT:(Tryz.prog.globals[0]?).map (·.type)=some 95:=by kernel_rfl
theorem QsB : Tryz.prog.globalNamed "unicode/utf8.first" = some 7 := by kernel_rfl
theorem Qjo:(Tryz.prog.globals[7]?).map (·.type)=some 95:=by kernel_rfl
theorem gAcc : Tryz.prog.globalNamed "unicode/utf8.acceptRanges" = some 8 := by kernel_rfl
theorem gAccType:(Tryz.prog.globals[8]?).map (·.type)=some 179:=by kernel_rfl
theorem gSyn : Tryz.prog.globalNamed "strconv.ErrSyntax" = some 4 := by kernel_rfl
theorem Qul:(Tryz.prog.globals[4]?).map (·.type)=some 57:=by kernel_rfl
theorem gRng : Tryz.prog.globalNamed "strconv.ErrRange" = some 5 := by kernel_rfl
theorem Qum:(Tryz.prog.globals[5]?).map (·.type)=some 57:=by kernel_rfl
theorem gWh : Tryz.prog.globalNamed "unicode.White_Space" = some 2 := by kernel_rfl
theorem QBc:Tryz.prog.cellsOf 166=20:=by kernel_rfl
theorem QuH:Tryz.prog.cellsOf 134=1:=by kernel_rfl
theorem Qkl:Tryz.prog.cellsOf 95=256:=by kernel_rfl
theorem QmO:Tryz.prog.cellsOf 5=1:=by kernel_rfl
theorem QsZ:Tryz.prog.cellsOf 176=1:=by kernel_rfl
theorem Qoc:Tryz.prog.cellsOf 9=1:=by kernel_rfl
theorem star : "*" ++ "errors.errorString" = "*errors.errorString" := by decide
theorem rowES (u : TypeId) (h : Tryz.prog.typeName? 3 u = some "*errors.errorString") : u = 174 :=
 typeName_ptr_named (nm := "errors.errorString") (by rw [star]; kernel_rfl) (by kernel_rfl) (by decide) u (by rw [star]; exact h)
theorem ePow:Rows.laid_internal_strconv_uint64pow10 (H:=Unit)=Lib.tabData .u64 Lib.pow10Tab:=by kernel_rfl
theorem eSp:Rows.laid_bytes_asciiSpace (H:=Unit)=Lib.tabData .u8 spT:=by kernel_rfl
theorem eFirst:Rows.laid_unicode_utf8_first=Lib.tabData .u8 u8T:=by kernel_rfl
theorem QA4:Rows.laid_unicode_utf8_first=Lib.firstData:=by kernel_rfl
theorem eAcc:Rows.laid_unicode_utf8_acceptRanges (H:=Unit)=Lib.acceptData:=by kernel_rfl
theorem eWh:Rows.laid_unicode_White_Space (H:=Unit)=Lib.whiteData:=by kernel_rfl
def u8Ren:Go.Shelf.Ren:=⟨fun n=>n,fun | 5=>5 | 119=>95 | 138=>178 | 139=>179 | n=>n,fun | 3=>7 | 4=>8 | n=>n⟩
theorem QAe:U8Types Tryz.prog u8Ren:=⟨Tryz.underlying5,Tryz.underlying95,Tryz.underlying178,Tryz.underlying179⟩
theorem QAf:U8Extra Tryz.prog u8Ren:=⟨QsB,gAcc,Qjo,gAccType,QmO,Qkl,by kernel_rfl⟩
theorem Qy6 {W:World} {name:String} {g:Nat} {T:TypeId} {a:Option Addr} (hg:Tryz.prog.globalNamed name=some g) (h:W.var? Tryz.prog name=some #[.iface T (.pointer a)]) :
 VR (X4 W) noNames (.ref (.iface T .any) 0) (.pointer (some ⟨g,0,none⟩))∧Gv W g (.iface T .any):=by
 refine ⟨?_,QyP hg h (by simp [V.cells]) rfl⟩
 have hc:=World.var?_cell hg h 0
 have:=VR.ref (I:=X4 W) noNames (.iface T .any) 0 g 0 (fun _=>.iface T (.pointer a)) (fun j c hj=>?_) (fun j c hj=>?_)
 ·simpa using this
 ·have hj0:j=0:=by have:=(List.getElem?_eq_some_iff.1 hj).1; simp [V.cells] at this; omega
  subst hj0
  simp only [X4,Nat.zero_add,hc]
  rfl
 ·have hj0:j=0:=by have:=(List.getElem?_eq_some_iff.1 hj).1; simp [V.cells] at this; omega
  subst hj0
  cases hj
  exact .iface _ _ _ _ (.any _ _)
theorem QBo {W : World} (h3 : Lib.VarReads Tryz.prog W "unicode/utf8.first" Lib.firstData) (h4 : Lib.VarReads Tryz.prog W "unicode/utf8.acceptRanges" Lib.acceptData) : Lib.TabIs Tryz.prog W "unicode/utf8.acceptRanges" .u8 accT := by
 have hU:=(utf8Tabs_of_readsT QAe QAf h3 h4).2
 obtain ⟨g,t,cs,fuel,p,hg,hty,hvar,hd⟩:=h4
 obtain rfl:=Option.some.inj (gAcc.symm.trans hg)
 obtain rfl:=Option.some.inj (gAccType.symm.trans hty)
 have hsz:cs.size=32:=by
  cases fuel with
  | zero=>simp [DataW.trod] at hd
  | succ fuel =>
    simp only [DataW.trod,Tryz.underlying179] at hd
    split at hd
    ·rename_i hlen
     rw [show Tryz.prog.cellsOf 179=32 by kernel_rfl] at hlen
     simpa using hlen
    ·cases hd
 unfold Lib.TabIs
 rw [hvar]
 congr 1
 apply Array.ext
 ·simp [hsz,accT]
 ·intro i h1 h2
  have hi:i<32:=by omega
  have hc:=World.var?_cell gAcc hvar i
  have key:∀ i,i<32→accT.getD i 0=if i % 2=0 then (Lib.accLo (i / 2):Int) else (Lib.accHi (i / 2):Int):=by decide
  have hk:=key i hi
  have hu:=hU (i / 2) (by omega)
  change World.cell? W ⟨8,_,none⟩=_∧World.cell? W ⟨8,_,none⟩=_ at hu
  have he:cs[i]?=some (.int .u8 (accT.getD i 0)):=by
   rw [← hc,hk]
   split
   ·rename_i h0
    have:=hu.1
    rwa [show 2 * (i / 2)=i by omega] at this
   ·rename_i h0
    have:=hu.2
    rwa [show 2 * (i / 2)+1=i by omega] at this
  rw [Array.getElem?_eq_getElem h1] at he
  injection he with he
  rw [he]
  have hl:i<accT.length:=by show i<32; exact hi
  simp [List.getD_eq_getElem?_getD,List.getElem?_eq_getElem hl]
theorem wh_hG {W : World} (h : Lib.VarReads Tryz.prog W "unicode.White_Space" Lib.whiteData) : VR (X4 W) noNames (.ref whV 0) (.pointer (some ⟨2, 0, none⟩)) ∧ Gv W 2 whV := by
 obtain ⟨T,oT,R,oR,h1,h2,h3,h4,h5⟩:=whiteTab_of_reads Tryz.lays199 ⟨gWh,by kernel_rfl,by kernel_rfl,by kernel_rfl,by kernel_rfl,by kernel_rfl,by kernel_rfl,by kernel_rfl⟩ h
 change World.cell? W ⟨2,0,none⟩=_ at h1
 constructor
 ·have hin:VR (X4 W) noNames whV (.pointer (some ⟨T,oT+0,none⟩)):=by
   refine VR.ref noNames _ 0 T oT (fun j=>match j with | 0=>.slice (some ⟨R,oR,none⟩) 7 7 | 1=>.slice none 0 0 | _=>.int .i64 2) (fun j c hj=>?_) (fun j c hj=>?_)
   ·match j,hj with
    | 0,hj=>simp only [X4,Nat.add_zero,h2]; rfl
    | 1,hj=>simp only [X4,h3]; rfl
    | 2,hj=>simp only [X4,h4]; rfl
    | j+3,hj=>simp [V.cells] at hj
   ·match j,hj with
    | 0,hj =>
      cases hj
      have hel:∀ (j:Nat) (v:V),(whR.map rgV)[j]?=some v→j<7∧v=.agg [.int .u16 ((Lib.whiteT.getD (3 * j) 0:Nat):Int),.int .u16 ((Lib.whiteT.getD (3 * j+1) 0:Nat):Int),.int .u16 ((Lib.whiteT.getD (3 * j+2) 0:Nat):Int)]:=fun j v hv=>by
       simp only [whR,List.getElem?_map,Option.map_eq_some_iff] at hv
       obtain ⟨_,⟨k,hk,rfl⟩,rfl⟩:=hv
       have hk2:=List.getElem?_eq_some_iff.1 hk
       obtain ⟨hlt,hk2⟩:=hk2
       simp at hlt hk2
       subst hk2
       exact ⟨hlt,rfl⟩
      refine VR.lst noNames 3 (whR.map rgV) false R oR 7 (fun j i=>.int .u16 ((Lib.whiteT.getD (3 * j+i) 0:Nat):Int)) (by decide) (by decide) (fun h=>by cases h) (fun j v hv=>?_) (fun j v hv i c hc=>?_) (fun j v hv i c hc=>?_)
      ·obtain ⟨_,rfl⟩:=hel j v hv; rfl
      ·obtain ⟨hj,rfl⟩:=hel j v hv
       have hi:i<3:=(List.getElem?_eq_some_iff.1 hc).1
       have:=h5 (3 * j+i) (by omega)
       simp only [X4]
       rw [show oR+j * 3+i=oR+(3 * j+i) by omega,this]
       rfl
      ·obtain ⟨_,rfl⟩:=hel j v hv
       match i,hc with
       | 0,hc=>cases hc; exact .int _ _ _
       | 1,hc=>cases hc; exact .int _ _ _
       | 2,hc=>cases hc; exact .int _ _ _
       | i+3,hc=>simp [V.cells] at hc
    | 1,hj=>cases hj; exact .lstN _ _ _ none 0 (fun h=>by cases h)
    | 2,hj=>cases hj; exact .int _ _ _
    | j+3,hj=>simp [V.cells] at hj
  have:=VR.ref (I:=X4 W) noNames whV 0 2 0 (fun _=>.pointer (some ⟨T,oT,none⟩)) (fun j c hj=>?_) (fun j c hj=>?_)
  ·simpa using this
  ·have hj0:j=0:=by have:=(List.getElem?_eq_some_iff.1 hj).1; simp [whV,V.cells] at this; omega
   subst hj0
   simp only [X4,Nat.zero_add,h1]
   rfl
  ·have hj0:j=0:=by have:=(List.getElem?_eq_some_iff.1 hj).1; simp [whV,V.cells] at this; omega
   subst hj0
   cases hj
   exact hin
 ·obtain ⟨g,t,cs,fuel,p,hg,hty,hvar,hd⟩:=h
  obtain rfl:=Option.some.inj (gWh.symm.trans hg)
  obtain rfl:=Option.some.inj ((show (Tryz.prog.globals[2]?).map (·.type)=some 124 by kernel_rfl).symm.trans hty)
  refine QyP gWh hvar (by simp [whV,V.cells]) ?_
  have:cs.toList.length=1:=by
   rcases DataW.trod_pointer Tryz.underlying124 hd with ⟨hcs,_⟩ | ⟨a,cs',y,n,_,hcs,_⟩
   ·rw [hcs]; rfl
   ·rw [hcs]; rfl
  simpa [whV,V.cells] using this
theorem hG0 {W:World} (h:laidMetH Tryz.prog Rows.clauseTextRow.laid W):∀ g x,G0 g=some x→VR (X4 W) noNames (.ref x 0) (.pointer (some ⟨g,0,none⟩))∧Gv W g x:=by
 have h0:laidMet Tryz.prog Rows.clauseTextRow.laid W:=h
 have rPow:=Lib.laidMet.reads h0 (.tail _ (.tail _ (.head _)))
 have rAcc:=Lib.laidMet.reads h0 (.tail _ (.tail _ (.tail _ (.head _))))
 have rWh:=Lib.laidMet.reads h0 (.tail _ (.tail _ (.tail _ (.tail _ (.tail _ (.tail _ (.head _)))))))
 have rSp:=Lib.laidMet.reads h0 (.tail _ (.tail _ (.tail _ (.tail _ (.tail _ (.tail _ (.tail _ (.tail _ (.head _)))))))))
 have rFi:=Lib.laidMet.reads h0 (.tail _ (.tail _ (.tail _ (.tail _ (.tail _ (.tail _ (.tail _ (.tail _ (.tail _ (.head _))))))))))
 have hRg:=laid_sentinel h0.tail.tail.tail.tail gRng Qum Tryz.underlying57 rowES Tryz.underlying174 Tryz.underlying176 rfl rfl Tryz.underlying9 QsZ Qoc
 have hSy:=laid_sentinel h0.tail.tail.tail.tail.tail gSyn Qul Tryz.underlying57 rowES Tryz.underlying174 Tryz.underlying176 rfl rfl Tryz.underlying9 QsZ Qoc
 rw [ePow] at rPow
 rw [eAcc] at rAcc
 rw [eWh] at rWh
 rw [eSp] at rSp
 have rFi2:=rFi
 rw [eFirst] at rFi
 rw [QA4] at rFi2
 intro g x hg
 unfold G0 at hg
 split at hg
 ·rename_i e; subst e; cases hg
  exact QnI gPow (QeB gPow Qun Tryz.underlying166 Tryz.underlying134 QuH QBc rPow) (by decide +kernel)
 split at hg
 ·rename_i e; subst e; cases hg
  exact QnI gSp (QeB gSp QAT Tryz.underlying95 Tryz.underlying5 QmO Qkl rSp) (by decide +kernel)
 split at hg
 ·rename_i e; subst e; cases hg
  exact QnI QsB (QeB QsB Qjo Tryz.underlying95 Tryz.underlying5 QmO Qkl rFi) (by decide +kernel)
 split at hg
 ·rename_i e; subst e; cases hg
  exact QnI gAcc (QBo rFi2 rAcc) (by decide +kernel)
 split at hg
 ·rename_i e; subst e; cases hg
  obtain ⟨a,_,hv,_⟩:=hSy
  exact Qy6 gSyn hv
 split at hg
 ·rename_i e; subst e; cases hg
  obtain ⟨a,_,hv,_⟩:=hRg
  exact Qy6 gRng hv
 split at hg
 ·rename_i e; subst e; cases hg
  exact wh_hG rWh
 ·cases hg
noncomputable def Qh1 (os:Os):World:=World.laidAll Tryz.prog os Rows.clauseTextRow.laid
theorem Qmf {H:Type} {enc:TypeId × Value→H} {C:Checked} {os:Os} {f:FuncId} {fn:Func} {s:OpenSpec} {conds:List PathCond} {apart:Bool} {laid:List (String × DataW Unit)} (modest:Bool) (w0:World) (args:Array Value) (hos:w0.os=os)
 (hsh:(w0.forCall (fun _ _=>0) ⟨#[],args,[]⟩).Shaped C.prog) (hok:Input.okWideB C.prog (w0.forCall (fun _ _=>0) ⟨#[],args,[]⟩) f ⟨#[],args,[]⟩=true)
 (hrow:s.preRow enc C.prog fn conds apart laid (w0.forCall (fun _ _=>0) ⟨#[],args,[]⟩).memory args) :
 ∃ (w:World) (tape:Tape) (i:Input),w.os=os∧(w.forCall tape i).Shaped C.prog∧i.vars=[]∧Input.okWide C.prog (w.forCall tape i) .any w.heap.size f i ∧
   s.preRow enc C.prog fn conds apart laid (w.forCall tape i).memory i.args∧({ modest:=modest }:Assume).holds C.prog (lone (Frame.enter C.prog f i.args .normal) [] (w.forCall tape i)) :=
 ⟨w0,fun _ _=>0,⟨#[],args,[]⟩,hos,hsh,(Input.okWide_of_okWideB (base:=0) hok).1,(Input.okWide_of_okWideB hok).2,hrow,by
  simp only [Assume.holds]
  exact ⟨by simp,by simp,fun _=>Modest.zero,by simp,by simp⟩⟩
theorem It0:QeR Tryz.prog G0:=fun i h=>by
 have e:Qw i=Lib.itoa i:=by unfold Qw; rw [if_pos h]
 rw [e]
 exact QtY (restX:=[]) gPow (by unfold G0; rfl) (Lib.itoa i) (fun I xs hc=>Qo0 hc) rfl fun w hw=>Tryz.strconv_Itoa i h.1 h.2 w hw
theorem K0:QmW G0 where
 buf:=⟨Tryz.Buffer_WriteString_k,Tryz.Buffer_WriteByte_k,Tryz.Buffer_Bytes⟩
 ito:=It0
 ato:=⟨fun s v w h1 h2=>Tryz.strconv_Atoi_ok s h1 v h2 w,fun s t p w h1 h2 h2' h3=>(Tryz.strconv_Atoi_bad s h1 h2 h2' _ w h3 (.inr ⟨_,_,rfl⟩)).mono fun e w' ⟨N,he,_,_,hb⟩=>⟨_,_,he,hb⟩,fun s t p w h1 h2 h3=>(Tryz.strconv_Atoi_range s h1 h2 _ w h3 (.inr ⟨_,_,rfl⟩)).mono fun e w' ⟨N,he,_,_,hb⟩=>⟨_,_,he,hb⟩⟩
 err:=⟨⟨_,rfl⟩,⟨_,rfl⟩⟩
 txt:=⟨rfl,rfl,rfl,⟨whR,false,false,2,rfl,by decide,by decide⟩⟩
end Go.Proofs.YtingdebioipemaaGreatDoor
