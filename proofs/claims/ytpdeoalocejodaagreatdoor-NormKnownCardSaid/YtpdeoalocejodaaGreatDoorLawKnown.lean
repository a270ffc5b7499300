/- The law NormKnown, at the arguments as they read. -/
import Derived.Test.YtpdeoalocejodaaGreatDoorLawN
import Derived.Test.YtpdeoalocejodaaGreatDoorJ16
namespace Go.Proofs.YtpdeoalocejodaaGreatDoor
open Go Go.Am
set_option maxRecDepth 100000
theorem QFZ : Tryz.f8.params.toList = [] := by kernel_rfl
theorem hC_normKnown : ∀ l : List V, Qzm Tryz.prog 10 Tryz.f8.params.toList l → C Tryz.prog G0 0 8 l ⟨0, []⟩ fun v _ => v = .bool true := by
 intro l hl
 rw [QFZ] at hl
 obtain rfl := hl
 exact Qq7 QrS (asked QrS F0 SO0 B0 W0)
end Go.Proofs.YtpdeoalocejodaaGreatDoor
