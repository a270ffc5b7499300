/- The package-level variables, as the row's condition lays them. -/
import Derived.Test.YtkhdfbokkneeaaaDoorSeat
namespace Go.Proofs.YtkhdfbokkneeaaaDoor
open Go Go.Am Go.Rv Go.ChangeShapes Go.WideShapes Go.ChangeAt Go.RowKit
set_option maxRecDepth 100000

theorem own : ownKnob Tryd.prog.godebug = none := by kernel_rfl
theorem hlaid : laidOutB Tryd.prog = true := by kernel_rfl
theorem pair_ok {W : World} {name : String} {a b : Int} {rest : List (String × DataW Unit)} {g : Nat} (hg : Tryd.prog.globalNamed name = some g) (hty : (Tryd.prog.globals[g]?).map (·.type) = some 57)
    (h : laidMet Tryd.prog ((name, Lib.tabData .i64 [a, b]) :: rest) W) : VR (immOf W) noNames (.ref (tabV .i64 [a, b]) 0) (.pointer (some ⟨g, 0, none⟩)) ∧ Gv W g (tabV .i64 [a, b]) := by
  have ht := tabIs_of_pair hg hty Tryd.underlying57 rfl rfl rfl rfl Tryd.underlying3 (by kernel_rfl) (by kernel_rfl) h
  exact tab_hG hg ht (by simp)
theorem gPowType : (Tryd.prog.globals[5]?).map (·.type) = some 125 := by kernel_rfl
theorem hG0 {W : World} (h : laidMetH Tryd.prog Rows.rvDecodesRow.laid W) : ∀ g x, G0 g = some x → VR (immOf W) noNames (.ref x 0) (.pointer (some ⟨g, 0, none⟩)) ∧ Gv W g x := by
  have h0 : laidMet Tryd.prog Rows.rvDecodesRow.laid W := h
  have h1 := h0.tail.tail
  have h2 := h1.tail
  have h3 := h2.tail
  have h4 := h3.tail
  have h5 := h4.tail
  have h6 := h5.tail
  have ht := Lib.tabIs_of_head gPow gPowType Tryd.underlying125 Tryd.underlying114 (k := .u64) (zs := Lib.pow10Tab) (by kernel_rfl) (by kernel_rfl) h1
  intro g x hg
  unfold G0 at hg
  split at hg
  · cases hg; exact pair_ok (name := "proofmark/rv.rd") (by kernel_rfl) (by kernel_rfl) h2
  · cases hg; exact pair_ok (name := "proofmark/rv.rs1") (by kernel_rfl) (by kernel_rfl) h4
  · cases hg; exact pair_ok (name := "proofmark/rv.rs2") (by kernel_rfl) (by kernel_rfl) h5
  · cases hg; exact pair_ok (name := "proofmark/rv.f3") (by kernel_rfl) (by kernel_rfl) h3
  · cases hg; exact pair_ok (name := "proofmark/rv.f7") (by kernel_rfl) (by kernel_rfl) h6
  · cases hg; exact tab_hG gPow ht (by decide +kernel)
  · cases hg
-- 125 114
def setC (cs : Array Value) : Obj → Obj
  | .cells _ t frozen => .cells cs t frozen
  | o => o
abbrev tBool : TypeId := 4
noncomputable def laidWorld (os : Os) : World :=
  { World.holding Tryd.prog os ⟨#[], #[], []⟩ with heap := (((((((((World.holding Tryd.prog os ⟨#[], #[], []⟩).heap.modify 0 (setC #[.int .i64 7, .int .i64 5])).modify 1 (setC #[.int .i64 15, .int .i64 5])).modify 2 (setC #[.int .i64 20, .int .i64 5])).modify 3 (setC #[.int .i64 12, .int .i64 3])).modify 4 (setC #[.int .i64 25, .int .i64 7])).modify 5 (setC (((List.range 20).map fun i => Value.int .u64 ((10 ^ i : Nat) : Int)).toArray))).modify 7 (setC #[.int .u8 0, .int .u8 1, .int .u8 28, .int .u8 2, .int .u8 29, .int .u8 14, .int .u8 24, .int .u8 3, .int .u8 30, .int .u8 22, .int .u8 20, .int .u8 15, .int .u8 25, .int .u8 17, .int .u8 4, .int .u8 8, .int .u8 31, .int .u8 27, .int .u8 13, .int .u8 23, .int .u8 21, .int .u8 19, .int .u8 16, .int .u8 7, .int .u8 26, .int .u8 12, .int .u8 18, .int .u8 6, .int .u8 11, .int .u8 5, .int .u8 10, .int .u8 9])).modify 8 (setC #[.int .u8 0, .int .u8 1, .int .u8 56, .int .u8 2, .int .u8 57, .int .u8 49, .int .u8 28, .int .u8 3, .int .u8 61, .int .u8 58, .int .u8 42, .int .u8 50, .int .u8 38, .int .u8 29, .int .u8 17, .int .u8 4, .int .u8 62, .int .u8 47, .int .u8 59, .int .u8 36, .int .u8 45, .int .u8 43, .int .u8 51, .int .u8 22, .int .u8 53, .int .u8 39, .int .u8 33, .int .u8 30, .int .u8 24, .int .u8 18, .int .u8 12, .int .u8 5, .int .u8 63, .int .u8 55, .int .u8 48, .int .u8 27, .int .u8 60, .int .u8 41, .int .u8 37, .int .u8 16, .int .u8 46, .int .u8 35, .int .u8 44, .int .u8 21, .int .u8 52, .int .u8 32, .int .u8 23, .int .u8 11, .int .u8 54, .int .u8 26, .int .u8 40, .int .u8 15, .int .u8 34, .int .u8 20, .int .u8 31, .int .u8 10, .int .u8 25, .int .u8 14, .int .u8 19, .int .u8 9, .int .u8 13, .int .u8 8, .int .u8 7, .int .u8 6])) }
end Go.Proofs.YtkhdfbokkneeaaaDoor
