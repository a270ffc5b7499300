/- What the seat's laws share: the variables that are read, a world for the witness, numbers as text. -/
import Derived.Test.YtingdebioipemaaDoorCards
import Derived.Test.YtingdebioipemaaDoorTie
import Derived.WalkKit
import Derived.ProofKit
import Derived.OpenShut
import Derived.Deep.DeepHandedRow
import Derived.Lib.LaidTab
import Derived.Stop.LaidErr
import Derived.Test.YtingdebioipemaaDoorAmD
import Derived.Test.YtingdebioipemaaDoorTabEq
import Derived.Test.YtingdebioipemaaDoorShelf
import Derived.Test.YtingdebioipemaaDoorShB
import Derived.Test.YtingdebioipemaaDoorJ8
namespace Go.Proofs.YtingdebioipemaaDoor
open Go Go.Am Go.ChangeShapes Go.WideShapes Go.ChangeAt Go.RowKit
set_option maxRecDepth 100000

theorem own : ownKnob Tryd.prog.godebug = none := by kernel_rfl
theorem hlaid : laidOutB Tryd.prog = true := by kernel_rfl
abbrev tBool : TypeId := 4
def G0 : Nat → Option V := fun g => if g = 1 then some (tabV .u64 Lib.pow10Tab) else none
theorem gPow : Tryd.prog.globalNamed "internal/strconv.uint64pow10" = some 1 := by kernel_rfl
theorem gPowType : (Tryd.prog.globals[1]?).map (·.type) = some 116 := by kernel_rfl
theorem cells116 : Tryd.prog.cellsOf 116 = 20 := by kernel_rfl
theorem cells97 : Tryd.prog.cellsOf 97 = 1 := by kernel_rfl
abbrev errD : DataW Unit := .iface "*errors.errorString" (.ptr (.agg [.lit (.string [98, 121, 116, 101, 115, 46, 66, 117, 102, 102, 101, 114, 58, 32, 116, 111, 111, 32, 108, 97, 114, 103, 101])]))
theorem hG0 {W : World} (h : laidMetH Tryd.prog Rows.clauseUnitsRow.laid W) : ∀ g x, G0 g = some x → VR (immOf W) noNames (.ref x 0) (.pointer (some ⟨g, 0, none⟩)) ∧ Gv W g x := by
  have h0 : laidMet Tryd.prog Rows.clauseUnitsRow.laid W := h
  have h1 : laidMet Tryd.prog [("internal/strconv.uint64pow10", Lib.tabData .u64 Lib.pow10Tab), ("bytes.ErrTooLarge", errD)] W := h0.tail.tail
  have ht := Lib.tabIs_of_head (rest := [("bytes.ErrTooLarge", errD)]) gPow gPowType Tryd.underlying116 Tryd.underlying97 cells97 cells116 h1
  intro g x hg
  unfold G0 at hg
  split at hg
  · rename_i e
    subst e
    cases hg
    exact tab_hG gPow ht (by decide +kernel)
  · cases hg

def setC (cs : Array Value) : Obj → Obj
  | .cells _ t frozen => .cells cs t frozen
  | o => o
abbrev lowB : Nat := 9
noncomputable def laidWorld (os : Os) : World :=
  { World.holding Tryd.prog os ⟨#[.cells #[.string ⟨#[98, 121, 116, 101, 115, 46, 66, 117, 102, 102, 101, 114, 58, 32, 116, 111, 111, 32, 108, 97, 114, 103, 101]⟩] 136], #[], []⟩ with heap := ( (((World.holding Tryd.prog os ⟨#[.cells #[.string ⟨#[98, 121, 116, 101, 115, 46, 66, 117, 102, 102, 101, 114, 58, 32, 116, 111, 111, 32, 108, 97, 114, 103, 101]⟩] 136], #[], []⟩).heap.modify 1 (setC (((List.range 20).map fun i => Value.int .u64 ((10 ^ i : Nat) : Int)).toArray))).modify 2 (setC #[.int .u8 0, .int .u8 1, .int .u8 28, .int .u8 2, .int .u8 29, .int .u8 14, .int .u8 24, .int .u8 3, .int .u8 30, .int .u8 22, .int .u8 20, .int .u8 15, .int .u8 25, .int .u8 17, .int .u8 4, .int .u8 8, .int .u8 31, .int .u8 27, .int .u8 13, .int .u8 23, .int .u8 21, .int .u8 19, .int .u8 16, .int .u8 7, .int .u8 26, .int .u8 12, .int .u8 18, .int .u8 6, .int .u8 11, .int .u8 5, .int .u8 10, .int .u8 9])).modify 3 (setC #[.int .u8 0, .int .u8 1, .int .u8 56, .int .u8 2, .int .u8 57, .int .u8 49, .int .u8 28, .int .u8 3, .int .u8 61, .int .u8 58, .int .u8 42, .int .u8 50, .int .u8 38, .int .u8 29, .int .u8 17, .int .u8 4, .int .u8 62, .int .u8 47, .int .u8 59, .int .u8 36, .int .u8 45, .int .u8 43, .int .u8 51, .int .u8 22, .int .u8 53, .int .u8 39, .int .u8 33, .int .u8 30, .int .u8 24, .int .u8 18, .int .u8 12, .int .u8 5, .int .u8 63, .int .u8 55, .int .u8 48, .int .u8 27, .int .u8 60, .int .u8 41, .int .u8 37, .int .u8 16, .int .u8 46, .int .u8 35, .int .u8 44, .int .u8 21, .int .u8 52, .int .u8 32, .int .u8 23, .int .u8 11, .int .u8 54, .int .u8 26, .int .u8 40, .int .u8 15, .int .u8 34, .int .u8 20, .int .u8 31, .int .u8 10, .int .u8 25, .int .u8 14, .int .u8 19, .int .u8 9, .int .u8 13, .int .u8 8, .int .u8 7, .int .u8 6])).modify 0 (setC #[.iface 120 (.pointer (some ⟨lowB, 0, none⟩))]) }
theorem It0 : ItoaK Tryd.prog G0 := fun i h => by
  have e : fmt10 i = Lib.itoa i := by unfold fmt10; rw [if_pos h]
  rw [e]
  exact pure_fmt (restX := []) gPow (by unfold G0; rfl) (Lib.itoa i) (fun I xs hc => cells_int1 hc) rfl fun w hw => Tryd.strconv_Itoa i h.1 h.2 w hw
theorem K0 : BufK Tryd.prog := ⟨Tryd.Buffer_WriteString_k, Tryd.Buffer_WriteByte_k, Tryd.Buffer_Bytes⟩
end Go.Proofs.YtingdebioipemaaDoor
