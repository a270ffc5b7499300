/- What only looks at a small heap, anywhere in a great one; all that roots reach. -/
import Derived.Test.YtfligilbnpcnaaaDoorTerm16
namespace Go.Am
open Go
variable {P : Program} {G : Nat → Option V}
end Go.Am

namespace Go.Proofs.YtfligilbnpcnaaaDoor
open Go Go.Am
set_option maxRecDepth 100000
set_option maxHeartbeats 1000000
variable {P : Program} {G : Nat → Option V}

theorem take_snoc2 {α : Type} {L : List α} {i : Nat} {d : α} (h : L[i]? = some d) : L.take (i + 1) = L.take i ++ [d] := by rw [List.take_add_one, h]; rfl
theorem mem_walks {L : List Nd} (hwf : gwf L) : ∀ (roots S : List Int), (∀ x ∈ S, ∀ p ∈ pts L x, p ∈ S) → ∀ x, x ∈ walks L roots S ↔ x ∈ S ∨ ∃ r ∈ roots, (0 ≤ r ∧ r < L.length) ∧ x ∈ usesL L [r]
  | [], S, _, x => by simp [walks]
  | r :: roots, S, hS, x => by
    have hw : walks L (r :: roots) S = walks L roots (walkN L (r.toNat + 1) r S) := rfl
    obtain ⟨w1, w2, w3⟩ := walk_closed hwf (r.toNat + 1) r S (by omega)
    have hc : ∀ x ∈ walkN L (r.toNat + 1) r S, ∀ p ∈ pts L x, p ∈ walkN L (r.toNat + 1) r S := fun x hx p hp => by
      by_cases h : x ∈ S
      · exact w1 p (hS x h p hp)
      · exact w3 x hx h p hp
    have hm : ∀ x, x ∈ walkN L (r.toNat + 1) r S ↔ x ∈ S ∨ ((0 ≤ r ∧ r < L.length) ∧ x ∈ usesL L [r]) := fun x => by
      constructor
      · intro hx
        exact walk_pred (Q := fun x => x ∈ S ∨ ((0 ≤ r ∧ r < L.length) ∧ x ∈ usesL L [r])) (fun z _ _ hz p hp => by
          rcases hz with hz | ⟨hr, hz⟩
          · exact .inl (hS z hz p hp)
          · exact .inr ⟨hr, uses_closed hwf hz hp⟩) (r.toNat + 1) r S (fun h0 h1 => .inr ⟨⟨h0, h1⟩, uses_self hwf h0 h1⟩) (fun z hz => .inl hz) x hx
      · rintro (hx | ⟨hr, hx⟩)
        · exact w1 x hx
        · exact uses_pred (Q := fun x => x ∈ walkN L (r.toNat + 1) r S) (fun z _ _ hz p hp => hc z hz p hp) (w2 hr.1 hr.2) x hx
    rw [hw, mem_walks hwf roots _ hc x, hm x]
    simp only [List.mem_cons, exists_eq_or_imp, or_assoc]

end Go.Proofs.YtfligilbnpcnaaaDoor

