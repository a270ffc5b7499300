/- Numbers bit by bit: plain lemmas. -/
import Derived.Test.YtpdeoalocejodaaGreatDoorAmD
import Derived.Test.YtpdeoalocejodaaGreatDoorJ3
/- Numbers bit by bit: plain lemmas. -/
namespace Go.Proofs.YtpdeoalocejodaaGreatDoor
open Go Go.Am
set_option maxRecDepth 100000
theorem pow_pos2 (k : Nat) : (0 : Int) < 2 ^ k := Int.pow_pos (by omega)
theorem pow_cast (k : Nat) : ((2 ^ k : Nat) : Int) = 2 ^ k := by simp
theorem pow_le64 {k : Nat} (h : k ≤ 64) : (2 : Int) ^ k ≤ 18446744073709551616 := by
  have h1 := Nat.pow_le_pow_right (n := 2) (by omega) h
  have h3 : (2 : Nat) ^ 64 = 18446744073709551616 := rfl
  rw [h3] at h1
  rw [← pow_cast]
  omega
theorem wrapU_id {x : Int} (h0 : 0 ≤ x) (h1 : x < 18446744073709551616) : IntKind.u64.wrap x = x := by
  apply wrap_id
  · have : IntKind.u64.min = 0 := by decide
    omega
  · have : IntKind.u64.max = 18446744073709551615 := by decide
    omega
theorem wrapU_eq (x : Int) : IntKind.u64.wrap x = x % 18446744073709551616 := by
  simp [IntKind.wrap, IntKind.bits, IntKind.signed]
theorem wrapI_mod {x y : Int} (h : x % 18446744073709551616 = y % 18446744073709551616) : IntKind.i64.wrap x = IntKind.i64.wrap y := by
  rw [IntKind.wrap_i64, IntKind.wrap_i64]
  omega
theorem wrapI_emod (x : Int) : IntKind.i64.wrap x % 18446744073709551616 = x % 18446744073709551616 := by
  rw [IntKind.wrap_i64]
  omega
def cg (x y : Int) : Prop := x % 18446744073709551616 = y % 18446744073709551616
theorem cg.refl (x : Int) : cg x x := rfl
theorem cg.symm {x y : Int} (h : cg x y) : cg y x := Eq.symm h
theorem cg.trans {x y z : Int} (h : cg x y) (k : cg y z) : cg x z := Eq.trans h k
theorem cg.add {x y u v : Int} (h : cg x y) (k : cg u v) : cg (x + u) (y + v) := by unfold cg at *; omega
theorem cg.neg {x y : Int} (h : cg x y) : cg (-x) (-y) := by unfold cg at *; omega
theorem cg.mul {x y u v : Int} (h : cg x y) (k : cg u v) : cg (x * u) (y * v) := by
  unfold cg at *
  rw [Int.mul_emod, h, k, ← Int.mul_emod]
theorem cg_wI (x : Int) : cg (IntKind.i64.wrap x) x := wrapI_emod x
theorem cg_wU (x : Int) : cg (IntKind.u64.wrap x) x := by unfold cg; rw [wrapU_eq]; omega
theorem wI_cg {x y : Int} (h : cg x y) : IntKind.i64.wrap x = IntKind.i64.wrap y := wrapI_mod h
theorem wU_rg (a : Int) : 0 ≤ IntKind.u64.wrap a ∧ IntKind.u64.wrap a < 18446744073709551616 := by rw [wrapU_eq]; omega
theorem xor_split (k x y m n : Nat) (hx : x < 2 ^ k) (hm : m < 2 ^ k) : (x + 2 ^ k * y) ^^^ (m + 2 ^ k * n) = (x ^^^ m) + 2 ^ k * (y ^^^ n) := by
  apply Nat.eq_of_testBit_eq
  intro i
  have hxm : x ^^^ m < 2 ^ k := Nat.xor_lt_two_pow hx hm
  rw [Nat.testBit_xor, Nat.add_comm x, Nat.add_comm m, Nat.add_comm (x ^^^ m), Nat.testBit_two_pow_mul_add _ hx, Nat.testBit_two_pow_mul_add _ hm, Nat.testBit_two_pow_mul_add _ hxm]
  split <;> simp [Nat.testBit_xor]
end Go.Proofs.YtpdeoalocejodaaGreatDoor
/- The document's words, bit by bit. -/
namespace Go.Proofs.YtpdeoalocejodaaGreatDoor
open Go Go.Am
set_option maxRecDepth 100000
set_option maxHeartbeats 1000000
variable {P : Program} {G : Nat → Option V}
end Go.Proofs.YtpdeoalocejodaaGreatDoor
/- The document's words, bit by bit. -/
namespace Go.Proofs.YtpdeoalocejodaaGreatDoor
open Go Go.Am
set_option maxRecDepth 100000
set_option maxHeartbeats 1000000
variable {P : Program} {G : Nat → Option V}
end Go.Proofs.YtpdeoalocejodaaGreatDoor
/- The document's long division. -/
namespace Go.Proofs.YtpdeoalocejodaaGreatDoor
open Go Go.Am
set_option maxRecDepth 100000
set_option maxHeartbeats 1000000
variable {P : Program} {G : Nat → Option V}
end Go.Proofs.YtpdeoalocejodaaGreatDoor
/- The document's shifts and quotients. -/
namespace Go.Proofs.YtpdeoalocejodaaGreatDoor
open Go Go.Am
set_option maxRecDepth 100000
set_option maxHeartbeats 1000000
variable {P : Program} {G : Nat → Option V}
end Go.Proofs.YtpdeoalocejodaaGreatDoor
