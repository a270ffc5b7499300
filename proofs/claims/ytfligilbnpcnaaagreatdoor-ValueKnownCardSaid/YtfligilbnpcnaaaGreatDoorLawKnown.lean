/- The law ValueKnown, at no arguments. -/
import Derived.Test.YtfligilbnpcnaaaGreatDoorLawEnv
import Derived.Test.YtfligilbnpcnaaaGreatDoorBK
import Derived.Test.YtfligilbnpcnaaaGreatDoorTW
namespace Go.Proofs.YtfligilbnpcnaaaGreatDoor
open Go Go.Am
set_option maxRecDepth 100000
theorem ofNil (hT : TabOk Tryz.prog tab) : Pure Tryz.prog G0 n_value_Of [.val (.pointer none), envK, .int .i64 0] fun v => v = .tup [.int .i64 0, .bool false] :=
  run_pure hT 300 60 _ (fun v => veq v (.tup [.int .i64 0, .bool false])) (veq_ok _) rfl (by kernel_rfl)
theorem params4 : Tryz.f4.params.toList = [] := by kernel_rfl
theorem hC_valueKnown : ∀ l : List V, VArgs Tryz.prog 10 Tryz.f4.params.toList l → C Tryz.prog G0 0 4 l ⟨0, []⟩ fun v _ => v = .bool true := by
  intro l hl
  rw [params4] at hl
  obtain rfl := hl
  exact c_ValueKnown tab_ok F0 SO0 SI0 (c_works tab_ok) (ofNil tab_ok)
end Go.Proofs.YtfligilbnpcnaaaGreatDoor
