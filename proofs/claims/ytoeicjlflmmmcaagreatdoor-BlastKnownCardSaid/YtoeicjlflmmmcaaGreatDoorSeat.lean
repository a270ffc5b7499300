/- What the seat's laws share: the variables that are read, a world for the witness, numbers as text. -/
import Derived.Test.YtoeicjlflmmmcaaGreatDoorCards
import Derived.Test.YtoeicjlflmmmcaaGreatDoorTie
import Derived.WalkKit
import Derived.ProofKit
import Derived.OpenShut
import Derived.LaidLaws
import Derived.Deep.DeepHandedRow
import Derived.Lib.LaidTab
import Derived.Stop.LaidErr
import Derived.Lay
import Derived.Test.YtoeicjlflmmmcaaGreatDoorAmD
import Derived.Test.YtoeicjlflmmmcaaGreatDoorTabEq
import Derived.Test.YtoeicjlflmmmcaaGreatDoorShelf
import Derived.Test.YtoeicjlflmmmcaaGreatDoorShelf2
import Derived.Test.YtoeicjlflmmmcaaGreatDoorJ14
namespace Go.Proofs.YtoeicjlflmmmcaaGreatDoor
open Go Go.Am Go.ChangeShapes Go.WideShapes Go.ChangeAt Go.RowKit
set_option maxRecDepth 100000
theorem own:ownKnob Tryz.prog.godebug=none:=by kernel_rfl
theorem QLC:laidOutB Tryz.prog=true:=by kernel_rfl
abbrev tBool:TypeId:=4
def G0:Nat→Option V:=fun g=>if g=0 then some (QsM .u64 Lib.pow10Tab) else none
theorem gPow : Tryz.prog.globalNamed "internal/strconv.uint64pow10" = some 0 := by kernel_rfl
theorem QAp:(Tryz.prog.globals[0]?).map (·.type)=some 193:=by kernel_rfl
theorem QL5:Tryz.prog.cellsOf 193=20:=by kernel_rfl
theorem QAK:Tryz.prog.cellsOf 101=1:=by kernel_rfl
theorem hG0 {W:World} (h:laidMetH Tryz.prog Rows.blastModelRow.laid W):∀ g x,G0 g=some x→VR (QaA W) noNames (.ref x 0) (.pointer (some ⟨g,0,none⟩))∧Gv W g x:=by
 have h0:laidMet Tryz.prog Rows.blastModelRow.laid W:=h
 have h1 : laidMet Tryz.prog [("internal/strconv.uint64pow10", Lib.tabData .u64 Lib.pow10Tab)] W := h0.tail.tail
 have ht:=Lib.tabIs_of_head (rest:=[]) gPow QAp Tryz.underlying193 Tryz.underlying101 QAK QL5 h1
 intro g x hg
 unfold G0 at hg
 split at hg
 ·rename_i e
  subst e
  cases hg
  exact tab_hG gPow ht (by decide +kernel)
 ·cases hg
noncomputable def Qlg (os:Os):World:=World.laidAll Tryz.prog os Rows.blastModelRow.laid
theorem Qq0 {H:Type} {enc:TypeId × Value→H} {C:Checked} {os:Os} {f:FuncId} {fn:Func} {s:OpenSpec} {conds:List PathCond} {apart:Bool} {laid:List (String × DataW Unit)} (modest:Bool) (w0:World) (args:Array Value) (hos:w0.os=os)
 (hsh:(w0.forCall (fun _ _=>0) ⟨#[],args,[]⟩).Shaped C.prog) (hok:Input.okWideB C.prog (w0.forCall (fun _ _=>0) ⟨#[],args,[]⟩) f ⟨#[],args,[]⟩=true)
 (hrow:s.preRow enc C.prog fn conds apart laid (w0.forCall (fun _ _=>0) ⟨#[],args,[]⟩).memory args) :
 ∃ (w:World) (tape:Tape) (i:Input),w.os=os∧(w.forCall tape i).Shaped C.prog∧i.vars=[]∧Input.okWide C.prog (w.forCall tape i) .any w.heap.size f i ∧
   s.preRow enc C.prog fn conds apart laid (w.forCall tape i).memory i.args∧({ modest:=modest }:Assume).holds C.prog (lone (Frame.enter C.prog f i.args .normal) [] (w.forCall tape i)) :=
 ⟨w0,fun _ _=>0,⟨#[],args,[]⟩,hos,hsh,(Input.okWide_of_okWideB (base:=0) hok).1,(Input.okWide_of_okWideB hok).2,hrow,by
  simp only [Assume.holds]
  exact ⟨by simp,by simp,fun _=>Modest.zero,by simp,by simp⟩⟩
def F0:Fmt Tryz.prog G0 where
 fmt:=Qru
 le:=QAv
 int:=fun i h0 h1=>by
  have e:Qru i=Lib.itoa i:=by unfold Qru; rw [if_pos ⟨h0,h1⟩]
  rw [e]
  exact QsY (restX:=[.int .i64 10]) gPow (by unfold G0; rfl) (Lib.itoa i) (fun I xs hc=>Qux hc) rfl fun w hw=>Tryz.strconv_FormatInt_10 i h0 h1 w hw
 itoa:=fun i h0 h1=>by
  have e:Qru i=Lib.itoa i:=by unfold Qru; rw [if_pos ⟨h0,h1⟩]
  rw [e]
  exact QsY (restX:=[]) gPow (by unfold G0; rfl) (Lib.itoa i) (fun I xs hc=>Quy hc) rfl fun w hw=>Tryz.strconv_Itoa i h0 h1 w hw
theorem SO0:Q1 Tryz.prog:=⟨fun blk off cap zs w h1 h2 h3=>Tryz.slices_Sort_ids blk off cap zs w h1 h2 h3,fun p cap w=>Tryz.slices_Sort_ids_none p cap w⟩
end Go.Proofs.YtoeicjlflmmmcaaGreatDoor
