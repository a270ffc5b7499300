/- Contracts: what is left of a clause. -/
import Derived.Test.YtingdebioipemaaCw4
namespace Go.Proofs.Ytingdebioipemaa
open Go Go.Am Go.Cl
set_option maxRecDepth 100000
variable {P : Program} {G : Nat → Option V}

theorem c_ContainsFuncS (hT : TabOk P tab) {base t : Nat} {o : List (Option Ob)} {f : V} {p : Int → Bool} {c : List Int} (hp : Tells P G base f o p c) (hl : c.length ≤ 9223372036854775807) {k w T : Nat} {lim : Option Nat} {cs : List V} (ho : o[k]? = some (some (.arr w T (ints c ++ cs)))) :
    C P G base n_slices_ContainsFunc_int_int [.sl k w 0 1 c.length lim, f] ⟨t, o⟩ fun v σ => v = .bool (c.any p) ∧ ∃ t', t ≤ t' ∧ σ = ⟨t', o⟩ := by
  refine C_tab hT t_slices_ContainsFunc_int_int (by simp [slices_ContainsFunc_int_int]) (W_run 1000 ?_)
  simp -implicitDefEqProofs (disch := omega) only [go_sem, ↓reduceIte, reduceCtorEq, Nat.reduceEqDiff, Nat.zero_add, slices_ContainsFunc_int_int, slices_ContainsFunc_int_int_r0, slices_ContainsFunc_int_int_r1]
  refine call hT t_slices_IndexFunc_int_int (c_IndexFuncS hT hp hl ho) 1000 fun v σ hv => ?_
  obtain ⟨rfl, t', ht, rfl⟩ := hv
  simp -implicitDefEqProofs (disch := omega) only [go_sem, ↓reduceIte, reduceCtorEq, Nat.reduceEqDiff, ge_iff_le]
  rw [fstIdx_any]
  exact ⟨rfl, t', ht, rfl⟩

theorem c_allS (hT : TabOk P tab) {base t g : Nat} {o : List (Option Ob)} {cap : List V} {p : Int → Bool} {c : List Int} (hb : base ≤ o.length) (hp : ∀ ex, Tells P G base (.fn (.func g) [] cap) (o ++ ex) p c) (hl : c.length ≤ 9223372036854775807) {k w T : Nat} {lim : Option Nat} {cs : List V} (ho : o[k]? = some (some (.arr w T (ints c ++ cs)))) :
    C P G base n_clause_all_int [.sl k w 0 1 c.length lim, .fn (.func g) [] cap] ⟨t, o⟩ fun v σ => v = .bool (c.all p) ∧ ∃ t', t ≤ t' ∧ σ = ⟨t', o⟩ := by
  refine C_keep o.length hb (C_tab hT t_clause_all_int (by simp [clause_all_int]) (W_run 1000 ?_))
  simp -implicitDefEqProofs (disch := omega) only [go_sem, ↓reduceIte, reduceCtorEq, Nat.reduceEqDiff, Nat.zero_add, clause_all_int, clause_all_int_r0, clause_all_int_r1]
  have hn := c_not (P := P) (G := G) (base := base) (k := o.length) (tb := t) (T := 51) hT (by simp) (hp [some (.arr t 51 [.fn (.func g) [] cap])])
  refine call hT t_slices_ContainsFunc_int_int (c_ContainsFuncS hT hn hl (get_ext ho)) 1000 fun v σ hv => ?_
  obtain ⟨rfl, t', ht, rfl⟩ := hv
  simp -implicitDefEqProofs (disch := omega) only [go_sem, ↓reduceIte, reduceCtorEq, Nat.reduceEqDiff]
  exact ⟨by simp, by rw [List.all_eq_not_any_not], t', by omega, rfl, by simp⟩


/-- Is it the first one of a row? -/
theorem k_clause_Units_S3 (hT : TabOk P tab) {base kb tb T k w T2 : Nat} {lim : Option Nat} {o : List (Option Ob)} {a : Int} {c l : List Int} {cs : List V} (h1 : o[kb]? = some (some (.arr tb T [.sl k w 0 1 (l.length + 1) lim]))) (h2 : o[k]? = some (some (.arr w T2 (ints (a :: l) ++ cs)))) :
    Tells P G base (.fn (.func n_clause_Units_S3) [] [.ptr kb tb 0]) o (fun n => n == a) c := fun t n hn => by
  refine CV.of hT t_clause_Units_S3 (C_tab hT t_clause_Units_S3 (by simp [clause_Units_S3]) (W_run 1000 ?_))
  have hD := ints_getDA (c := a :: l) (i := 0) cs rfl
  simp -implicitDefEqProofs (disch := omega) only [go_sem, need_of, ↓reduceIte, reduceCtorEq, Nat.reduceEqDiff, Int.reduceToNat, Int.reduceLE, Nat.zero_add, Nat.add_zero, Nat.mul_one, Nat.le_refl, clause_Units_S3, clause_Units_S3_r0, clause_Units_S3_r1, h1, h2, hD, List.length_append, ints_length, List.length_cons]
  exact ⟨t, Nat.le_refl _, rfl⟩
end Go.Proofs.Ytingdebioipemaa
