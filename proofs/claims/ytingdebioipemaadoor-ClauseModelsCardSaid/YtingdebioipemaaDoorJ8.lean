/- Contracts: the document's side of clauses: Units. -/
import Derived.Test.YtingdebioipemaaDoorJ7
import Derived.Test.YtingdebioipemaaDoorJ4
/- Contracts: the document's side of clauses: Units. -/
namespace Go.Proofs.YtingdebioipemaaDoor
open Go Go.Am Go.Cl
set_option maxRecDepth 100000
variable {P : Program} {G : Nat → Option V}
end Go.Proofs.YtingdebioipemaaDoor
/- The law ClauseUnits. -/
namespace Go.Proofs.YtingdebioipemaaDoor
open Go Go.Am Go.Cl
set_option maxRecDepth 100000
variable {G : Nat → Option V}
theorem srt_len {V : Int} : ∀ {l : List Int} {lo : Int}, Srt l → (∀ n ∈ l, lo < av n ∧ av n ≤ V) → lo ≤ V → (l.length : Int) ≤ V - lo
  | [], _, _, _, h => by simp; omega
  | a :: l, lo, hs, hb, _ => by
    have hs' := List.pairwise_cons.1 hs
    have ha := hb a (by simp)
    have := srt_len (l := l) (lo := av a) hs'.2 (fun n hn => ⟨hs'.1 n hn, (hb n (by simp [hn])).2⟩) ha.2
    simp only [List.length_cons]
    omega
theorem units_len {v : Int} {F : List (List Int)} (hr : right v F = true) {l : List Int} (h : units F = some l) : l.length ≤ 16777216 := by
  obtain ⟨hs, hm⟩ := units_some (right_nz hr) h
  obtain ⟨h1, h2⟩ := right_iff.1 hr
  have := srt_len (V := v) (lo := 0) hs (fun n hn => by
    obtain ⟨c, hc, hnc⟩ := ((hm n).1 hn).in
    have := h2 c hc n hnc
    unfold av; split <;> omega) (by omega)
  omega
theorem units_form (v : Int) (F : List (List Int)) : ∃ l b, ((right v F = false ∧ l = [] ∧ b = false) ∨ (right v F = true ∧ units F = none ∧ l = [] ∧ b = false) ∨ (right v F = true ∧ units F = some l ∧ b = true)) ∧ l.length ≤ 16777216 := by
  cases hr : right v F with
  | false => exact ⟨[], false, .inl ⟨rfl, rfl, rfl⟩, by simp⟩
  | true =>
    cases hu : units F with
    | none => exact ⟨[], false, .inr (.inl ⟨rfl, rfl, rfl, rfl⟩), by simp⟩
    | some l => exact ⟨l, true, .inr (.inr ⟨rfl, rfl, rfl⟩), units_len hr hu⟩
theorem assign_form (v : Int) (F : List (List Int)) (L : List Int) (hF : F.length ≤ 1000) (hc : ∀ c ∈ F, c.length ≤ 1000) : ∃ w A b, assignV v F L = .tup [fml w A, .bool b] ∧ A.length ≤ 1000 ∧ ∀ c ∈ A, c.length ≤ 1000 := by
  unfold assignV
  split
  · refine ⟨v, assign F L, true, rfl, ?_, fun c h => ?_⟩
    · unfold assign
      have := List.length_filter_le (fun c : List Int => !c.any fun n => decide (n ∈ L)) F
      simp only [List.length_map]; omega
    · unfold assign at h
      obtain ⟨d, hd, rfl⟩ := List.mem_map.1 h
      have h1 := hc d (List.mem_filter.1 hd).1
      unfold assignC
      have := List.length_filter_le (fun n => !decide (-n ∈ L)) d
      omega
  · exact ⟨0, [], false, rfl, by simp, by simp⟩
end Go.Proofs.YtingdebioipemaaDoor
