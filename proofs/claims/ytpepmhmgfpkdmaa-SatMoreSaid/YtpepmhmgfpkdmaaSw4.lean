/- Contracts: a clause is visited. -/
import Derived.Test.YtpepmhmgfpkdmaaSw3
import Derived.Test.YtpepmhmgfpkdmaaSA
namespace Go.Proofs.Ytpepmhmgfpkdmaa
open Go Go.Am Go.Cl Go.Sat
set_option maxRecDepth 100000
variable {P : Program} {G : Nat → Option V}

theorem find_of {s : S} {c : List Int} {k : Nat} {x : Int} (h2 : 2 ≤ k) (hk : c[k]? = some x) (hx : s.is x ≠ -1) (hb : ∀ j y, 2 ≤ j → j < k → c[j]? = some y → s.is y = -1) : s.find c 2 = some k := by
  cases hf : s.find c 2 with
  | none => exact absurd (find_none hf k x h2 hk) hx
  | some i =>
    obtain ⟨i1, i2, i3, i4⟩ := find_some hf
    have hi : c[i]? = some (c.getD i 0) := some_getD i2
    rcases Nat.lt_trichotomy i k with q | q | q
    · exact absurd (hb i _ i1 q hi) i3
    · rw [q]
    · exact absurd (by rw [← getD_some (d := 0) hk]; exact i4 k h2 q) hx
theorem find_no {s : S} {c : List Int} (hb : ∀ j y, 2 ≤ j → c[j]? = some y → s.is y = -1) : s.find c 2 = none := by
  cases hf : s.find c 2 with
  | none => rfl
  | some i =>
    obtain ⟨i1, i2, i3, _⟩ := find_some hf
    exact absurd (hb i _ i1 (some_getD i2)) i3

/-- What stays of a state's rows in a visit of a literal's clause. -/
structure Fm (l : Int) (rest rest' : List (Option Ob)) (ow ow' : Nat → Own) : Prop where
  wt : ∀ j, j < rest.length → ow j = .wt l → rest'[j]? = rest[j]? ∧ ow' j = .wt l
  no : ∀ j, j < rest.length → ow j = .no → rest'[j]? = rest[j]? ∧ ow' j = .no

theorem Fm.refl (l : Int) (rest : List (Option Ob)) (ow : Nat → Own) : Fm l rest rest ow ow := ⟨fun _ _ h => ⟨rfl, h⟩, fun _ _ h => ⟨rfl, h⟩⟩

/-- The solver, with its rows, as a visit leaves it. -/
def Left (K : Vs) (fu t : Nat) (ps : List V) (l : Int) (rest : List (Option Ob)) (ow : Nat → Own) (s' : S) (σ : H) : Prop :=
  ∃ w es cs rest' ow' t', t ≤ t' ∧ RW s' es cs rest' ow' ∧ Fm l rest rest' ow ow' ∧ σ = hp { K with t := w } s' fu t' es cs ps rest'

def VisQ (K : Vs) (fu t : Nat) (ps : List V) (l : Int) (rest : List (Option Ob)) (ow : Nat → Own) : Vis → V → H → Prop
  | .moved s', v, σ => v = .tup [.bool true, .bool false, .bool false] ∧ Left K fu t ps l rest ow s' σ
  | .kept s', v, σ => v = .tup [.bool false, .bool false, .bool false] ∧ Left K fu t ps l rest ow s' σ
  | .bad s', v, σ => v = .tup [.bool false, .bool true, .bool false] ∧ Left K fu t ps l rest ow s' σ
  | .out, v, σ => v = .tup [.bool false, .bool false, .bool true] ∧ ∃ s', Left K fu t ps l rest ow s' σ

end Go.Proofs.Ytpepmhmgfpkdmaa

