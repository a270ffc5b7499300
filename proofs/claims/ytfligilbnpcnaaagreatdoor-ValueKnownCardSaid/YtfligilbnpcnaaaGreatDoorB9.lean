/- The values of terms, told of a row of ours. -/
import Derived.Test.YtfligilbnpcnaaaGreatDoorBN
import Derived.Test.YtfligilbnpcnaaaGreatDoorAmD
namespace Go.Proofs.YtfligilbnpcnaaaGreatDoor
open Go Go.Am
set_option maxRecDepth 100000
set_option maxHeartbeats 1000000
variable {P : Program} {G : Nat → Option V}

theorem c_AllO (hT : TabOk P tab) (SO : SortOk P) {fmt : Int → List UInt8} {v0 v1 v2 v3 v4 t : Nat} {L : List Nd} (hL : L.length ≤ 1000000) (hok : okN L) (S : List Int) (hS : ∀ x ∈ S, i64 x) (tS : Bool) (C' : List Cl) (hC : C'.length ≤ 1000000) (hCn : ∀ c ∈ C', i64 c.n) (tC : Bool) (ids : List Int) (tr : Bool) (hil : ids.length ≤ 1000000) :
    C P G 5 n_value_All [.ptr 1 v0 0, envV S tS 4 C' tC, .lst 1 (nints ids) tr] ⟨t, kG fmt v0 v1 v2 v3 v4 L⟩ fun v σ => (¬ inL L ids ∧ v = .tup [.lst 0 [] true, .bool false] ∧ ∃ t', t ≤ t' ∧ σ = ⟨t', kG fmt v0 v1 v2 v3 v4 L⟩) ∨ (inL L ids ∧ ∃ vo t', t ≤ t' ∧ v = .tup [.sl 8 vo 0 1 ids.length none, .bool true] ∧ σ = ⟨t', kG fmt v0 v1 v2 v3 v4 L ++ [none, none, none, some (.arr vo 2 (nints (ids.map (val S C' L))))]⟩) := by
  have hku := fun x hx => knows_uses (S := S) (C := C') hok.wf (fit_ok hok) ids (x := x) hx
  refine C_drop (c_All0 hT SO hL hok S hS tS C' hC hCn tC ids tr hil) fun v σ hv => ?_
  rcases hv with ⟨rfl, ⟨x, hx, hn⟩, t', ex, ht, rfl⟩ | ⟨vo, t', ve, vm, vk, ht, rfl, hall, rfl⟩
  · refine ⟨kG fmt v0 v1 v2 v3 v4 L, t', by simp [subObs, kG], Nat.le_refl _, by rw [kG_len0]; exact Nat.le_refl _, .inl ⟨fun hin => ?_, rfl, t', ht, rfl⟩⟩
    rw [hku x hx, if_pos (hin x hx)] at hn
    cases hn
  · have hin : inL L ids := fun x hx => by
      have h1 := hall x hx
      rw [hku x hx] at h1
      by_cases hr : 0 ≤ x ∧ x < L.length
      · exact hr
      · rw [if_neg hr] at h1; cases h1
    have ho : outs (knows S C' L (usesL L ids)) ids ids.length ids.length = nints (ids.map (val S C' L)) := by
      rw [outs, List.take_length, Nat.sub_self, List.replicate_zero, List.append_nil]
      congr 1
      refine map_congr' fun x hx => ?_
      rw [hku x hx, if_pos (hin x hx)]
      rfl
    rw [ho]
    exact ⟨_, t', by simp [subObs, kG, allH], Nat.le_refl _, by rw [kG_len]; omega, .inr ⟨hin, vo, t', ht, rfl, rfl⟩⟩
theorem nints_cells (l : List Int) : ∀ u ∈ nints l, u.cells = [u] := by
  intro u hu
  obtain ⟨x, _, rfl⟩ := List.mem_map.1 hu
  rfl
theorem bare_nints : ∀ l : List Int, bareL (nints l) = true
  | [] => rfl
  | x :: l => by
    have h : nints (x :: l) = .int .i64 x :: nints l := rfl
    rw [h, bareL, bare_nints l]
    rfl
theorem envV_nl (S : List Int) (tS : Bool) (z : Nat) (C' : List Cl) (tC : Bool) : nameless (envV S tS z C' tC) = true := by simp [envV, nameless, namelessL]
theorem c_AllB (hT : TabOk P tab) (SO : SortOk P) {base : Nat} {fmt : Int → List UInt8} {v0 v1 v2 v3 v4 t r : Nat} {L : List Nd} (hL : L.length ≤ 1000000) (hok : okN L) (S : List Int) (hS : ∀ x ∈ S, i64 x) (tS : Bool) (C' : List Cl) (hC : C'.length ≤ 1000000) (hCn : ∀ c ∈ C', i64 c.n) (tC : Bool) (ids : List Int) (hil : ids.length ≤ 1000000) :
    C P G base n_value_All [.ptr 1 v0 0, envV S tS 4 C' tC, .sl 5 r 0 1 ids.length none] ⟨t, kG fmt v0 v1 v2 v3 v4 L ++ [some (.arr r 44 (nints ids))]⟩ fun v σ => (¬ inL L ids ∧ v = .tup [.lst 0 [] true, .bool false] ∧ ∃ t', t ≤ t' ∧ σ = ⟨t', kG fmt v0 v1 v2 v3 v4 L ++ [some (.arr r 44 (nints ids))]⟩) ∨ (inL L ids ∧ ∃ vo t', t ≤ t' ∧ v = .tup [.sl 9 vo 0 1 ids.length none, .bool true] ∧ σ = ⟨t', kG fmt v0 v1 v2 v3 v4 L ++ [some (.arr r 44 (nints ids)), none, none, none, some (.arr vo 2 (nints (ids.map (val S C' L))))]⟩) := by
  have e : frzL 5 r (nints ids) [.ptr 1 v0 0, envV S tS 4 C' tC, .sl 5 r 0 1 ids.length none] = [.ptr 1 v0 0, envV S tS 4 C' tC, .lst 1 (nints ids) false] := by
    have h1 := frz_n (k := 5) (w := r) ids
    simp only [frzL, fy_ptr (show 1 ≠ 5 by omega), h1]
    rfl
  refine C_borrow (k := 5) (v := r) (T := 44) (cs := nints ids) rfl (nints_nameless _) (nints_cells _) (Q := fun v σ => (¬ inL L ids ∧ v = .tup [.lst 0 [] true, .bool false] ∧ ∃ t', t ≤ t' ∧ σ = ⟨t', kG fmt v0 v1 v2 v3 v4 L ++ [none]⟩) ∨ (inL L ids ∧ ∃ vo t', t ≤ t' ∧ v = .tup [.sl 9 vo 0 1 ids.length none, .bool true] ∧ σ = ⟨t', kG fmt v0 v1 v2 v3 v4 L ++ [none] ++ [none, none, none, some (.arr vo 2 (nints (ids.map (val S C' L))))]⟩)) ?_ fun u σ hu => ?_
  · rw [e]
    refine C_extN (oS := kG fmt v0 v1 v2 v3 v4 L) (ex := [none]) rfl (c_AllO hT SO hL hok S hS tS C' hC hCn tC ids false hil) kG_und ?_ fun v σ hv => ?_
    · rw [kG_len0]
      simp [underL, V.under, under_nameless _ (envV_nl S tS 4 C' tC)]
    · rcases hv with ⟨h1, rfl, t', ht, rfl⟩ | ⟨h1, vo, t', ht, rfl, rfl⟩
      · exact ⟨[], by simp, .inl ⟨h1, by simp [V.ren, renL], t', ht, by simp⟩⟩
      · refine ⟨_, rfl, .inr ⟨h1, vo, t', ht, ?_, ?_⟩⟩
        · simp only [V.ren, renL]
          rfl
        · have hr : renL (rOf (List.range (kG fmt v0 v1 v2 v3 v4 L).length) (kG fmt v0 v1 v2 v3 v4 L ++ [none]).length) (nints (ids.map (val S C' L))) = nints (ids.map (val S C' L)) := renL_nameless _ (nints_nameless _)
          simp only [List.map_cons, List.map_nil, Option.map_none, Option.map_some, Ob.ren, hr]
  · rcases hu with ⟨h1, rfl, t', ht, rfl⟩ | ⟨h1, vo, t', ht, rfl, rfl⟩
    · exact ⟨rfl, [], by simp [kG], rfl, .inl ⟨h1, rfl, t', ht, by simp⟩⟩
    · refine ⟨rfl, [none, none, none, some (.arr vo 2 (nints (ids.map (val S C' L))))], by simp [kG], ?_, .inr ⟨h1, vo, t', ht, rfl, by simp⟩⟩
      simp only [List.all_cons, List.all_nil, bareO, bare_nints, Bool.and_self]
end Go.Proofs.YtfligilbnpcnaaaGreatDoor

