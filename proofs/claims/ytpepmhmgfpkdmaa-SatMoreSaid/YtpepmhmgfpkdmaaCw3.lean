/- Contracts: all of a row; what is known of literals; copies. -/
import Derived.Test.YtpepmhmgfpkdmaaCw2
namespace Go.Proofs.Ytpepmhmgfpkdmaa
open Go Go.Am Go.Cl
set_option maxRecDepth 100000
variable {P : Program} {G : Nat → Option V}

theorem c_Clone (hT : TabOk P tab) {base t : Nat} {o : List (Option Ob)} (c : List Int) (hl : c.length ≤ 1000000) :
    C P G base n_slices_Clone_int_int [.lst 1 (ints c) false] ⟨t, o⟩ fun v σ => ∃ t' w, t ≤ t' ∧ v = .sl o.length w 0 1 c.length none ∧ σ = ⟨t', o ++ [some (.arr w 3 (ints c))]⟩ := by
  refine C_own 1 3 (Q := fun v σ => (v = .sl o.length t 0 1 c.length none ∧ σ = ⟨t + 1, o ++ [some (.arr t 3 (ints c))]⟩) ∨ (c = [] ∧ v = .lst 0 [] true ∧ σ = ⟨t, o⟩)) ?_ fun v σ hv => ?_
  · refine C_tab hT t_slices_Clone_int_int (by simp [slices_Clone_int_int]) (W_run 1000 ?_)
    have hfl : ((ints c).map V.cells).flatten = ints c := by
      clear hl
      induction c with
      | nil => rfl
      | cons n c ih => simp only [ints, List.map_cons, List.flatten_cons] at ih ⊢; rw [ih]; rfl
    simp -implicitDefEqProofs (disch := omega) only [go_sem, need_of, ↓reduceIte, reduceCtorEq, Nat.reduceEqDiff, Nat.zero_add, Bool.not_false, slices_Clone_int_int, slices_Clone_int_int_r0, slices_Clone_int_int_r1, slices_Clone_int_int_r2, slices_Clone_int_int_r3, hfl, ints_length]
    cases c with
    | nil => exact rfl
    | cons n c => exact trivial
  · rcases hv with ⟨rfl, rfl⟩ | ⟨rfl, rfl, rfl⟩
    · exact .inl ⟨_, _, by omega, rfl, rfl⟩
    · exact .inr ⟨0, rfl, _, _, Nat.le_succ _, rfl, rfl⟩

/-- What is known of literals. -/
def kn (S : List Int) : List (V × V) := im .i64 (fun _ => .int .i64 1) S
theorem kn_get (S : List Int) (n : Int) : (mget [Kd.i] (V.int .i64 n) (im .i64 (fun _ => V.int .i64 1) S)).getD (V.int .i64 0) = .int .i64 (if n ∈ S then 1 else 0) := by
  rw [mget_im]; split <;> rfl
theorem wneg64 {n : Int} (h : -9223372036854775808 ≤ n ∧ n ≤ 9223372036854775807) : IntKind.i64.wrap (0 - n) = neg n := by
  unfold neg
  split
  · rename_i e; subst e; decide
  · rw [wrap_id] <;> (try omega)
    all_goals (first | (simp [IntKind.min, IntKind.signed, IntKind.bits]; omega) | (simp [IntKind.max, IntKind.signed, IntKind.bits]; omega))
end Go.Proofs.Ytpepmhmgfpkdmaa

