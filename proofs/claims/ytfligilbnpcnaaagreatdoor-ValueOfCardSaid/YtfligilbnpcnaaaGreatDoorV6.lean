/- The law ValueNeeds. -/
import Derived.Test.YtfligilbnpcnaaaGreatDoorV4
namespace Go.Proofs.YtfligilbnpcnaaaGreatDoor
open Go Go.Am
set_option maxRecDepth 100000
set_option maxHeartbeats 1000000
variable {P : Program} {G : Nat → Option V}

theorem nints_get {l : List Int} {i : Nat} {x : Int} (h : l[i]? = some x) : (nints l).getD i .any = .int .i64 x := by simp [nints, List.getD_eq_getElem?_getD, h]
theorem frzV_int {k w : Nat} {cs l : List V} (h : ∀ u ∈ l, ∃ t i, u = V.int t i) : l.map (frzV k w cs) = l := by
  induction l with
  | nil => rfl
  | cons u l ih =>
    obtain ⟨t, i, rfl⟩ := h u (by simp)
    rw [List.map_cons, ih fun u hu => h u (by simp [hu])]
    rfl
theorem ndC_int (L : List Nd) : ∀ u ∈ ndC L, ∃ t i, u = V.int t i := by
  intro u hu
  simp only [ndC, List.mem_flatten, List.mem_map] at hu
  obtain ⟨_, ⟨d, _, rfl⟩, hu⟩ := hu
  simp only [Nd.cells, List.mem_cons, List.not_mem_nil, or_false] at hu
  rcases hu with rfl | rfl | rfl | rfl | rfl | rfl <;> exact ⟨_, _, rfl⟩
theorem kfrz_ents {k w : Nat} {cs : List V} : ∀ (j : Nat) (L : List Nd), (ents j L).map (fun p => (p.1, frzV k w cs p.2)) = ents j L
  | _, [] => rfl
  | j, d :: l => by simp only [ents, List.map_cons, kfrz_ents (j + 1) l]; rfl
end Go.Proofs.YtfligilbnpcnaaaGreatDoor

