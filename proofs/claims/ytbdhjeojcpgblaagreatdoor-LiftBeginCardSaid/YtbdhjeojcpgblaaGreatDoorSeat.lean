/- What the seat's laws share: the package variables, numbers as text, a world for the witness. -/
import Derived.Test.YtbdhjeojcpgblaaGreatDoorCards
import Derived.Test.YtbdhjeojcpgblaaGreatDoorTie
import Derived.WalkKit
import Derived.ProofKit
import Derived.OpenShut
import Derived.Deep.DeepHandedRow
import Derived.Lib.LaidTab
import Derived.Stop.LaidErr
import Derived.Test.YtbdhjeojcpgblaaGreatDoorShelf
import Derived.Test.YtbdhjeojcpgblaaGreatDoorTabEq
import Derived.Test.YtbdhjeojcpgblaaGreatDoorJ1
import Derived.Test.YtbdhjeojcpgblaaGreatDoorJ9
import Derived.Test.YtbdhjeojcpgblaaGreatDoorAmD
namespace Go.Proofs.YtbdhjeojcpgblaaGreatDoor
open Go Go.Am Go.Rv Go.ChangeShapes Go.WideShapes Go.ChangeAt Go.RowKit
set_option maxRecDepth 100000
theorem gPow : Tryz.prog.globalNamed "internal/strconv.uint64pow10" = some 6 := by kernel_rfl
theorem own:ownKnob Tryz.prog.godebug=none:=by kernel_rfl
theorem QSs:laidOutB Tryz.prog=true:=by kernel_rfl
theorem QmO {W:World} {name:String} {a b:Int} {rest:List (String × DataW Unit)} {g:Nat} (hg:Tryz.prog.globalNamed name=some g) (hty:(Tryz.prog.globals[g]?).map (·.type)=some 192)
 (h:laidMet Tryz.prog ((name,Lib.tabData .i64 [a,b])::rest) W):VR (Qbb W) noNames (.ref (QoH .i64 [a,b]) 0) (.pointer (some ⟨g,0,none⟩))∧Gv W g (QoH .i64 [a,b]):=by
 have ht:=Qpy hg hty Tryz.underlying192 rfl rfl rfl rfl Tryz.underlying3 (by kernel_rfl) (by kernel_rfl) h
 exact QBz hg ht (by simp)
theorem QFu:(Tryz.prog.globals[6]?).map (·.type)=some 316:=by kernel_rfl
theorem gDeB : Tryz.prog.globalNamed "math/bits.deBruijn64tab" = some 5 := by kernel_rfl
theorem QFv:(Tryz.prog.globals[5]?).map (·.type)=some 313:=by kernel_rfl
theorem hG0 {W:World} (h:laidMetH Tryz.prog Rows.liftBeginRow.laid W):∀ g x,G0 g=some x→VR (Qbb W) noNames (.ref x 0) (.pointer (some ⟨g,0,none⟩))∧Gv W g x:=by
 have h0:laidMet Tryz.prog Rows.liftBeginRow.laid W:=h
 have h1:=h0.tail.tail
 have h2:=h1.tail
 have h3:=h2.tail
 have h4:=h3.tail
 have h5:=h4.tail
 have h6:=h5.tail
 have ht:=Lib.tabIs_of_head gPow QFu Tryz.underlying316 Tryz.underlying233 (k:=.u64) (zs:=Lib.pow10Tab) (by kernel_rfl) (by kernel_rfl) h1
 have ht2:=Lib.tabIs_of_head gDeB QFv Tryz.underlying313 Tryz.underlying5 (k:=.u8) (zs:=deBr) (by kernel_rfl) (by kernel_rfl) h0.tail
 intro g x hg
 unfold G0 at hg
 split at hg
 ·cases hg; exact QmO (name := "proofmark/rv.rd") (by kernel_rfl) (by kernel_rfl) h2
 ·cases hg; exact QmO (name := "proofmark/rv.rs1") (by kernel_rfl) (by kernel_rfl) h4
 ·cases hg; exact QmO (name := "proofmark/rv.rs2") (by kernel_rfl) (by kernel_rfl) h5
 ·cases hg; exact QmO (name := "proofmark/rv.f3") (by kernel_rfl) (by kernel_rfl) h3
 ·cases hg; exact QmO (name := "proofmark/rv.f7") (by kernel_rfl) (by kernel_rfl) h6
 ·cases hg; exact QBz gPow ht (by decide +kernel)
 ·cases hg; exact QBz gDeB ht2 (by decide +kernel)
 ·cases hg
def QPF (cs:Array Value):Obj→Obj
 | .cells _ t frozen=>.cells cs t frozen
 | o=>o
abbrev tBool:TypeId:=4
noncomputable def Qnd (os:Os):World :=
 { World.holding Tryz.prog os ⟨#[],#[],[]⟩ with heap:=(((((((((World.holding Tryz.prog os ⟨#[],#[],[]⟩).heap.modify 0 (QPF #[.int .i64 7,.int .i64 5])).modify 1 (QPF #[.int .i64 15,.int .i64 5])).modify 2 (QPF #[.int .i64 20,.int .i64 5])).modify 3 (QPF #[.int .i64 12,.int .i64 3])).modify 4 (QPF #[.int .i64 25,.int .i64 7])).modify 6 (QPF (((List.range 20).map fun i=>Value.int .u64 ((10 ^ i:Nat):Int)).toArray))).modify 7 (QPF #[.int .u8 0,.int .u8 1,.int .u8 28,.int .u8 2,.int .u8 29,.int .u8 14,.int .u8 24,.int .u8 3,.int .u8 30,.int .u8 22,.int .u8 20,.int .u8 15,.int .u8 25,.int .u8 17,.int .u8 4,.int .u8 8,.int .u8 31,.int .u8 27,.int .u8 13,.int .u8 23,.int .u8 21,.int .u8 19,.int .u8 16,.int .u8 7,.int .u8 26,.int .u8 12,.int .u8 18,.int .u8 6,.int .u8 11,.int .u8 5,.int .u8 10,.int .u8 9])).modify 5 (QPF #[.int .u8 0,.int .u8 1,.int .u8 56,.int .u8 2,.int .u8 57,.int .u8 49,.int .u8 28,.int .u8 3,.int .u8 61,.int .u8 58,.int .u8 42,.int .u8 50,.int .u8 38,.int .u8 29,.int .u8 17,.int .u8 4,.int .u8 62,.int .u8 47,.int .u8 59,.int .u8 36,.int .u8 45,.int .u8 43,.int .u8 51,.int .u8 22,.int .u8 53,.int .u8 39,.int .u8 33,.int .u8 30,.int .u8 24,.int .u8 18,.int .u8 12,.int .u8 5,.int .u8 63,.int .u8 55,.int .u8 48,.int .u8 27,.int .u8 60,.int .u8 41,.int .u8 37,.int .u8 16,.int .u8 46,.int .u8 35,.int .u8 44,.int .u8 21,.int .u8 52,.int .u8 32,.int .u8 23,.int .u8 11,.int .u8 54,.int .u8 26,.int .u8 40,.int .u8 15,.int .u8 34,.int .u8 20,.int .u8 31,.int .u8 10,.int .u8 25,.int .u8 14,.int .u8 19,.int .u8 9,.int .u8 13,.int .u8 8,.int .u8 7,.int .u8 6])) }
theorem B0:Bits Tryz.prog G0:=QTd QBy (by unfold G0; rfl)
theorem itoa_len (i:Int):(Qsb i).length≤24:=QwN i
def F0:Fmt Tryz.prog G0 where
 fmt:=Qsb
 le:=QwN
 int:=fun i h0 h1=>by
  have e:Qsb i=Lib.itoa i:=by unfold Qsb; rw [if_pos ⟨h0,h1⟩]
  rw [e]
  exact Qwk (restX:=[.int .i64 10]) gPow (by unfold G0; rfl) (Lib.itoa i) (fun I xs hc=>Qyd hc) rfl fun w hw=>Tryz.strconv_FormatInt_10 i h0 h1 w hw
 itoa:=fun i h0 h1=>by
  have e:Qsb i=Lib.itoa i:=by unfold Qsb; rw [if_pos ⟨h0,h1⟩]
  rw [e]
  exact Qwk (restX:=[]) gPow (by unfold G0; rfl) (Lib.itoa i) (fun I xs hc=>Qye hc) rfl fun w hw=>Tryz.strconv_Itoa i h0 h1 w hw
end Go.Proofs.YtbdhjeojcpgblaaGreatDoor
