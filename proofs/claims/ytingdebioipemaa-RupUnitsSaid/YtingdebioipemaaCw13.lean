/- Contracts: the rounds of Short. -/
import Derived.Test.YtingdebioipemaaCw12
namespace Go.Proofs.Ytingdebioipemaa
open Go Go.Am Go.Cl
set_option maxRecDepth 100000
variable {G : Nat → Option V}

theorem dropAt_len {R : List (List Int)} {i : Nat} (h : i < R.length) : (dropAt R i).length = R.length - 1 := by simp [dropAt]; omega
theorem dropAt_mem {R : List (List Int)} {i : Nat} {c : List Int} (h : c ∈ dropAt R i) : c ∈ R := by
  simp only [dropAt, List.mem_append] at h
  rcases h with h | h
  · exact List.mem_of_mem_take h
  · exact List.mem_of_mem_drop h
abbrev rjJ (t : Nat) (v : Int) (F p : List (List Int)) : Nat → H → Prop := fun k σ => ∃ t' R ys, k ≤ p.length - 1 ∧ t + 5 ≤ t' ∧ shortS v F (p.length - 1 - k) R = shortS v F (p.length - 1) p ∧ p.length - 1 - k < R.length ∧ R.length ≤ p.length ∧ (∀ c ∈ R, c ∈ p) ∧ namelessL ys = true ∧
  σ = ⟨t', shG t v F (R.map row ++ ys) R.length ++ [some (.arr (t + 4) 3 [.int .i64 p.length])]⟩
set_option maxHeartbeats 1000000 in
theorem rj_round (hT : TabOk Try.prog tab) {t k : Nat} {v : Int} {F p : List (List Int)} (hF : F.length + p.length ≤ 1000) (hc : ∀ c ∈ F, c.length ≤ 1000) (hp : ∀ c ∈ p, c.length ≤ 1000) (hb : ∀ c ∈ p, ∀ n ∈ c, -9223372036854775808 ≤ n ∧ n ≤ 9223372036854775807)
    (hk : k < p.length - 1) {fr : Fr} (f6 : fget fr 6 = .ptr 2 (t + 2) 0) (f9 : fget fr 9 = .ptr 3 (t + 3) 0) {σ : H} (hJ : rjJ t v F p k σ) :
    W Try.prog G 46 0 rup_Short_g0a (putAll [35] [.int .i64 ((p.length - 2 - k : Nat) : Int)] fr) σ (seqK Try.prog G 46 0 rup_Short_g0b fun e _ σ' => e = .nrm ∧ rjJ t v F p (k + 1) σ') := by
  obtain ⟨t', R, ys, h1, h2, h3, h4, h5, h6, h7, rfl⟩ := hJ
  obtain ⟨i, hi⟩ : ∃ i, i = p.length - 2 - k := ⟨_, rfl⟩
  have hi1 : p.length - 1 - k = i + 1 := by omega
  have hi2 : p.length - 1 - (k + 1) = i := by omega
  have hi3 : i + 1 < R.length := by omega
  have e2 : IntKind.i64.wrap ((i : Int) + 1) = (i : Int) + 1 := by rw [IntKind.wrap_i64]; omega
  have e3 := dropAt_len (R := R) (i := i) (by omega)
  rw [← hi]
  rw [hi1, shortS] at h3
  simp only [putAll]
  refine W_round [(6, .ptr 2 (t + 2) 0), (9, .ptr 3 (t + 3) 0), (35, .int .i64 (i : Int))] ⟨by rw [fget_fset]; exact f6, by rw [fget_fset]; exact f9, by rw [fget_fset]; rfl, trivial⟩ 1000 ?_
  simp -implicitDefEqProofs (disch := omega) only [go_sem, ↓reduceIte, Nat.reduceEqDiff, rup_Short_g0a_r0, rup_Short_g0a, rup_Short_g0b_r0, rup_Short_g0b_r1, rup_Short_g0b]
  simp only [seqK]
  refine W_run 1000 ?_
  simp -implicitDefEqProofs (disch := omega) only [go_sem, ↓reduceIte, Nat.reduceEqDiff, Nat.zero_add, Nat.le_refl, List.length_cons, List.length_nil, List.cons_append, List.nil_append, shG]
  refine CV.use 1000 (k_Short_S1 hT (i := i) (F := F) (R := R) (ys := ys) (v := v) (Nat.zero_le _) rfl rfl rfl hi3 (by omega) hc (fun c h => hp c (h6 c h)) (fun c h => hb c (h6 c h))) fun u σ hu => ?_
  obtain ⟨rfl, t2, ht2, rfl⟩ := hu
  cases hck : checkS v F (dropAt R i) with
  | false =>
    simp -implicitDefEqProofs (disch := omega) only [go_sem, ↓reduceIte, Nat.reduceEqDiff, Bool.not_true, Bool.not_false]
    rw [hck] at h3
    exact ⟨t2, R, ys, by omega, by omega, by rw [hi2]; simpa using h3, by omega, h5, h6, h7, rfl⟩
  | true =>
    simp -implicitDefEqProofs (disch := omega) only [go_sem, ↓reduceIte, Nat.reduceEqDiff, Nat.zero_add, Bool.not_true, Bool.not_false, Nat.le_refl, List.length_cons, List.length_nil, e2]
    refine call hT t_slices_Delete_int_int (c_Del (k := 1) (R := R) (ys := ys) (Nat.zero_le _) rfl hi3 (by omega)) 1000 fun u σ hu => ?_
    obtain ⟨rfl, rfl⟩ := hu
    simp -implicitDefEqProofs (disch := omega) only [go_sem, ↓reduceIte, Nat.reduceEqDiff, Nat.zero_add, Bool.not_false, Nat.le_refl, Nat.zero_le, List.length_cons, List.length_nil, List.cons_append, List.nil_append]
    rw [hck] at h3
    exact ⟨t2, dropAt R i, V.lst 0 [] true :: ys, by omega, by omega, by rw [hi2]; simpa using h3, by omega, by omega, fun c h => h6 c (dropAt_mem h), by simpa [namelessL, nameless] using h7, by rw [e3]; rfl⟩
end Go.Proofs.Ytingdebioipemaa
