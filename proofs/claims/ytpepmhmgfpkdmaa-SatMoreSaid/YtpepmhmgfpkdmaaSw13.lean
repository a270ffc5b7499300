/- Contracts: what was learned is added. -/
import Derived.Test.YtpepmhmgfpkdmaaSw12
import Derived.Test.YtpepmhmgfpkdmaaCw7
import Derived.Test.YtpepmhmgfpkdmaaAmD
namespace Go.Proofs.Ytpepmhmgfpkdmaa
open Go Go.Am Go.Cl Go.Sat
set_option maxRecDepth 100000
variable {G : Nat → Option V}

/-- A row that is frozen, as it may be read. -/
def PfOk (ps : List V) (pf : List (List Int)) : Prop := ps.length = pf.length ∧ ∀ (i : Nat) (p : List Int), pf[i]? = some p → ∃ z b, ps[i]? = some (.lst z (ints p) b) ∧ (p = [] ∨ z = 1)

theorem PfOk.snoc {ps : List V} {pf : List (List Int)} (h : PfOk ps pf) {p : List Int} {z : Nat} {b : Bool} (hp : p = [] ∨ z = 1) : PfOk (ps ++ [.lst z (ints p) b]) (pf ++ [p]) := by
  refine ⟨by simp [h.1], fun i q hq => ?_⟩
  rw [List.getElem?_append] at hq
  split at hq
  · rename_i hi
    obtain ⟨z', b', h1, h2⟩ := h.2 i q hq
    exact ⟨z', b', by rw [List.getElem?_append_left (by rw [h.1]; exact hi)]; exact h1, h2⟩
  · have hi0 : i - pf.length = 0 := by
      rcases Nat.eq_zero_or_pos (i - pf.length) with e | e
      · exact e
      · rw [List.getElem?_eq_none (by simp; omega)] at hq; cases hq
    rw [hi0] at hq
    simp at hq
    subst hq
    have : i = ps.length := by rw [h.1]; omega
    subst this
    exact ⟨z, b, by simp, hp⟩

theorem mapFrom_end (g : V → V) (o : List (Option Ob)) : mapFrom g o.length (o ++ [none]) = o ++ [none] := by
  refine List.ext_getElem? fun i => ?_
  rw [mapFrom_get]
  split
  · rfl
  · rename_i h
    rw [List.getElem?_append_right (by omega)]
    cases hk : i - o.length with
    | zero => rfl
    | succ n => simp

/-- A clean copy of a row that lies in a cell. -/
theorem c_CleanS (hT : TabOk Try.prog tab) (c : List Int) (hne : c ≠ []) (hb : ∀ n ∈ c, -9223372036854775808 ≤ n ∧ n ≤ 9223372036854775807) (hl : c.length ≤ 1000000) {t k w0 T : Nat} {o : List (Option Ob)} (ho : o[k]? = some (some (.arr w0 T (ints c)))) :
    C Try.prog G o.length n_clause_Clean [.sl k w0 0 1 c.length none] ⟨t, o⟩ fun u σ => ∃ t' z b, t ≤ t' ∧ u = .tup [.lst z (ints (cleanS c).1) b, .bool (cleanS c).2] ∧ ((cleanS c).1 = [] ∨ z = 1) ∧ σ = ⟨t', o ++ [none]⟩ := by
  refine C_freeze (c_CleanO hT c hb hl (Nat.le_refl _) fun b => (c_CloneS (cells := []) hT hne hl (by rw [List.append_nil]; exact ho)).conseq fun v σ ⟨h1, h2⟩ => ⟨t + 1, t, by omega, h1, h2⟩) fun u σ ⟨t', w, x, ht, hσ, hn, hu⟩ => ?_
  subst hσ
  refine ⟨o.length, w, 3, x, Nat.le_refl _, by simp, hn, ?_⟩
  rw [show (o ++ [some (Ob.arr w 3 x)]).set o.length none = o ++ [none] from set_snoc _ _ _, mapFrom_end]
  rcases hu with ⟨rfl, hu⟩ | ⟨q, cells, hcl, rfl, rfl⟩
  · refine ⟨t', 0, true, ht, ?_, .inl (by rw [hu]), rfl⟩
    rw [hu]; simp [frzV, frzL, ints]
  · rw [hcl]
    refine ⟨t', 1, false, ht, ?_, .inr rfl, rfl⟩
    simp [frzV, frzL, rowsV, ints_length]
end Go.Proofs.Ytpepmhmgfpkdmaa

