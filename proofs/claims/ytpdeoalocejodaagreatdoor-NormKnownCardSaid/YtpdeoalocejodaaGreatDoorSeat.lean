/- What the seat's laws share: the variables that are read, a world for the witness, numbers as text. -/
import Derived.Test.YtpdeoalocejodaaGreatDoorCards
import Derived.Test.YtpdeoalocejodaaGreatDoorTie
import Derived.WalkKit
import Derived.ProofKit
import Derived.OpenShut
import Derived.Deep.DeepHandedRow
import Derived.Lib.LaidTab
import Derived.Stop.LaidErr
import Derived.Test.YtpdeoalocejodaaGreatDoorAmD
import Derived.Test.YtpdeoalocejodaaGreatDoorTabEq
import Derived.Test.YtpdeoalocejodaaGreatDoorShelf
import Derived.Test.YtpdeoalocejodaaGreatDoorJ9
namespace Go.Proofs.YtpdeoalocejodaaGreatDoor
open Go Go.Am Go.ChangeShapes Go.WideShapes Go.ChangeAt Go.RowKit
set_option maxRecDepth 100000
theorem own : ownKnob Tryz.prog.godebug = none := by kernel_rfl
theorem QGx : laidOutB Tryz.prog = true := by kernel_rfl
abbrev tBool : TypeId := 4
def G0 : Nat → Option V := fun g => if g = 0 then some (Qm1 .u64 Lib.pow10Tab) else if g = 1 then some (Qm1 .u8 deBr) else none
theorem gPow : Tryz.prog.globalNamed "internal/strconv.uint64pow10" = some 0 := by kernel_rfl
theorem QyQ : (Tryz.prog.globals[0]?).map (·.type) = some 159 := by kernel_rfl
theorem Qy8 : Tryz.prog.cellsOf 159 = 20 := by kernel_rfl
theorem QGV : Tryz.prog.cellsOf 90 = 1 := by kernel_rfl
theorem gDeB : Tryz.prog.globalNamed "math/bits.deBruijn64tab" = some 1 := by kernel_rfl
theorem QyR : (Tryz.prog.globals[1]?).map (·.type) = some 162 := by kernel_rfl
theorem Qy7 : Tryz.prog.cellsOf 162 = 64 := by kernel_rfl
theorem cells5 : Tryz.prog.cellsOf 5 = 1 := by kernel_rfl
theorem hG0 {W : World} (h : laidMetH Tryz.prog Rows.normBinRow.laid W) : ∀ g x, G0 g = some x → VR (Qbc W) noNames (.ref x 0) (.pointer (some ⟨g, 0, none⟩)) ∧ Gv W g x := by
 have h0 : laidMet Tryz.prog Rows.normBinRow.laid W := h
 have h1 : laidMet Tryz.prog [("internal/strconv.uint64pow10", Lib.tabData .u64 Lib.pow10Tab)] W := h0.tail.tail
 have h2 : laidMet Tryz.prog [("math/bits.deBruijn64tab", Lib.tabData .u8 deBr), ("internal/strconv.uint64pow10", Lib.tabData .u64 Lib.pow10Tab)] W := h0.tail
 have ht := Lib.tabIs_of_head (rest := []) gPow QyQ Tryz.underlying159 Tryz.underlying90 QGV Qy8 h1
 have ht2 := Lib.tabIs_of_head (rest := [("internal/strconv.uint64pow10", Lib.tabData .u64 Lib.pow10Tab)]) gDeB QyR Tryz.underlying162 Tryz.underlying5 cells5 Qy7 h2
 intro g x hg
 unfold G0 at hg
 split at hg
 ·rename_i e
  subst e
  cases hg
  exact QDO gPow ht (by decide +kernel)
 ·split at hg
  ·rename_i e
   subst e
   cases hg
   exact QDO gDeB ht2 (by decide +kernel)
  ·cases hg
theorem B0 : Bits Tryz.prog G0 := QG4 QrS (by unfold G0; rfl)
def setC (cs : Array Value) : Obj → Obj
 | .cells _ t frozen => .cells cs t frozen
 | o => o
noncomputable def Qkz (os : Os) : World :=
 { World.holding Tryz.prog os ⟨#[], #[], []⟩ with heap := (((World.holding Tryz.prog os ⟨#[], #[], []⟩).heap.modify 0 (setC (((List.range 20).map fun i => Value.int .u64 ((10 ^ i : Nat) : Int)).toArray))).modify 2 (setC #[.int .u8 0, .int .u8 1, .int .u8 28, .int .u8 2, .int .u8 29, .int .u8 14, .int .u8 24, .int .u8 3, .int .u8 30, .int .u8 22, .int .u8 20, .int .u8 15, .int .u8 25, .int .u8 17, .int .u8 4, .int .u8 8, .int .u8 31, .int .u8 27, .int .u8 13, .int .u8 23, .int .u8 21, .int .u8 19, .int .u8 16, .int .u8 7, .int .u8 26, .int .u8 12, .int .u8 18, .int .u8 6, .int .u8 11, .int .u8 5, .int .u8 10, .int .u8 9])).modify 1 (setC #[.int .u8 0, .int .u8 1, .int .u8 56, .int .u8 2, .int .u8 57, .int .u8 49, .int .u8 28, .int .u8 3, .int .u8 61, .int .u8 58, .int .u8 42, .int .u8 50, .int .u8 38, .int .u8 29, .int .u8 17, .int .u8 4, .int .u8 62, .int .u8 47, .int .u8 59, .int .u8 36, .int .u8 45, .int .u8 43, .int .u8 51, .int .u8 22, .int .u8 53, .int .u8 39, .int .u8 33, .int .u8 30, .int .u8 24, .int .u8 18, .int .u8 12, .int .u8 5, .int .u8 63, .int .u8 55, .int .u8 48, .int .u8 27, .int .u8 60, .int .u8 41, .int .u8 37, .int .u8 16, .int .u8 46, .int .u8 35, .int .u8 44, .int .u8 21, .int .u8 52, .int .u8 32, .int .u8 23, .int .u8 11, .int .u8 54, .int .u8 26, .int .u8 40, .int .u8 15, .int .u8 34, .int .u8 20, .int .u8 31, .int .u8 10, .int .u8 25, .int .u8 14, .int .u8 19, .int .u8 9, .int .u8 13, .int .u8 8, .int .u8 7, .int .u8 6]) }
theorem itoa_len (i : Int) : (Qmu i).length ≤ 24 := Qsn i
def F0 : Fmt Tryz.prog G0 where
 fmt := Qmu
 le := Qsn
 int := fun i h0 h1 => by
  have e : Qmu i = Lib.itoa i := by unfold Qmu; rw [if_pos ⟨h0, h1⟩]
  rw [e]
  exact QrY (restX := [.int .i64 10]) gPow (by unfold G0; rfl) (Lib.itoa i) (fun I xs hc => QtC hc) rfl fun w hw => Tryz.strconv_FormatInt_10 i h0 h1 w hw
 itoa := fun i h0 h1 => by
  have e : Qmu i = Lib.itoa i := by unfold Qmu; rw [if_pos ⟨h0, h1⟩]
  rw [e]
  exact QrY (restX := []) gPow (by unfold G0; rfl) (Lib.itoa i) (fun I xs hc => QtD hc) rfl fun w hw => Tryz.strconv_Itoa i h0 h1 w hw
end Go.Proofs.YtpdeoalocejodaaGreatDoor
