/- Remainders. -/
import Derived.Test.YtkhdfbokkneeaaaDoorRw6
namespace Go.Proofs.YtkhdfbokkneeaaaDoor
open Go Go.Am Go.Rv

theorem u32_mod (x : Int) : IntKind.u32.wrap x = x % 4294967296 := by
  unfold IntKind.wrap; simp [IntKind.bits, IntKind.signed]
theorem fld_mod (n : Int) (a m : Nat) (h : a + m ≤ 32) : fld (n % 4294967296) a m = n / 2 ^ a % 2 ^ m := by
  unfold fld
  obtain ⟨c, hc⟩ : ∃ c, 32 = (a + m) + c := ⟨32 - (a + m), by omega⟩
  have e : (4294967296 : Int) = 2 ^ a * (2 ^ m * 2 ^ c) := by
    rw [← Int.pow_add, ← Int.pow_add, ← Nat.add_assoc, ← hc]; rfl
  have ha : (0 : Int) < 2 ^ a := Int.pow_pos (by omega)
  rw [e, Int.emod_def n, Int.sub_eq_add_neg, ← Int.mul_neg, Int.mul_assoc, Int.add_mul_ediv_left _ _ (by omega), Int.mul_assoc, Int.add_mul_emod_self_left]

end Go.Proofs.YtkhdfbokkneeaaaDoor
