/- The law SatFuel. -/
import Derived.Test.YtpepmhmgfpkdmaaSq4
import Derived.Test.YtpepmhmgfpkdmaaSA
namespace Go.Proofs.Ytpepmhmgfpkdmaa
open Go Go.Am Go.Cl Go.Sat
set_option maxRecDepth 100000
variable {G : Nat → Option V}

theorem wself {n : Int} (h : -9223372036854775808 ≤ n ∧ n ≤ 9223372036854775807) : IntKind.i64.wrap n = n := by
  rw [wrap_id]
  · simp [IntKind.min, IntKind.signed, IntKind.bits]; omega
  · simp [IntKind.max, IntKind.signed, IntKind.bits]; omega
/-- What is known of an answer that is known. -/
structure AnsOk (vars fu : Nat) (q : S × Bool) (k : Int) (z1 : Nat) (m : List Bool) (t1 : Bool) (z2 : Nat) (p : List (List Int)) (t2 : Bool) : Prop where
  eq : ansV vars fu (some q) = .agg (ansC k z1 m t1 z2 p t2 ((fu - q.1.lf : Nat) : Int))
  k0 : k ≠ 0
  z1 : m = [] ∨ z1 = 1
  z2 : p = [] ∨ z2 = 1
  ml : m.length ≤ 8388608
  pl : p.length ≤ 8388608
  pc : ∀ c ∈ p, c.length ≤ 8388608

theorem few_le {v : Int} {F : List (List Int)} {k m : Nat} (h : few3 v F k m = true) : F.length ≤ k ∧ v ≤ m ∧ ∀ c ∈ F, c.length ≤ 20 := by
  simp only [few3, Bool.and_eq_true, decide_eq_true_eq, List.all_eq_true] at h
  exact ⟨by omega, h.1.2, fun c hc => h.2 c hc⟩

end Go.Proofs.Ytpepmhmgfpkdmaa

