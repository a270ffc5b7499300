/- Contracts: all of a row; what is known of literals; copies. -/
import Derived.Test.YtingdebioipemaaCw2
namespace Go.Proofs.Ytingdebioipemaa
open Go Go.Am Go.Cl
set_option maxRecDepth 100000
variable {P : Program} {G : Nat → Option V}

theorem get_ext {o ex : List (Option Ob)} {k : Nat} {x : Option Ob} (h : o[k]? = some x) : (o ++ ex)[k]? = some x := by
  have := (List.getElem?_eq_some_iff.1 h).1
  rw [List.getElem?_append_left this]; exact h

theorem c_not (hT : TabOk P tab) {base tb : Nat} {o : List (Option Ob)} {f : V} {p : Int → Bool} {c : List Int} {k T : Nat} (ho : o[k]? = some (some (.arr tb T [f]))) (hp : Tells P G base f o p c) :
    Tells P G base (.fn (.func n_clause_all_int__S1) [] [.ptr k tb 0]) o (fun n => !p n) c := fun t n hn => by
  refine CV.of hT t_clause_all_int__S1 (C_tab hT t_clause_all_int__S1 (by simp [clause_all_int__S1]) (W_run 1000 ?_))
  simp -implicitDefEqProofs (disch := omega) only [go_sem, ↓reduceIte, reduceCtorEq, Nat.reduceEqDiff, Nat.zero_add, Nat.le_refl, clause_all_int__S1, clause_all_int__S1_r0, clause_all_int__S1_r1, ho]
  refine CV.use 1000 (hp t n hn) fun v σ hv => ?_
  obtain ⟨rfl, t', ht, rfl⟩ := hv
  simp -implicitDefEqProofs (disch := omega) only [go_sem, ↓reduceIte, reduceCtorEq, Nat.reduceEqDiff]
  exact ⟨t', ht, rfl⟩

theorem c_all (hT : TabOk P tab) {base t g : Nat} {o : List (Option Ob)} {cap : List V} {p : Int → Bool} {c : List Int} (hb : base ≤ o.length) (hp : ∀ ex, Tells P G base (.fn (.func g) [] cap) (o ++ ex) p c) (hl : c.length ≤ 9223372036854775807) :
    C P G base n_clause_all_int [.lst 1 (ints c) false, .fn (.func g) [] cap] ⟨t, o⟩ fun v σ => v = .bool (c.all p) ∧ ∃ t', t ≤ t' ∧ σ = ⟨t', o⟩ := by
  refine C_keep o.length hb (C_tab hT t_clause_all_int (by simp [clause_all_int]) (W_run 1000 ?_))
  simp -implicitDefEqProofs (disch := omega) only [go_sem, ↓reduceIte, reduceCtorEq, Nat.reduceEqDiff, Nat.zero_add, clause_all_int, clause_all_int_r0, clause_all_int_r1]
  have hn := c_not (P := P) (G := G) (base := base) (k := o.length) (tb := t) (T := 51) hT (by simp) (hp [some (.arr t 51 [.fn (.func g) [] cap])])
  refine call hT t_slices_ContainsFunc_int_int (c_ContainsFunc hT hn hl) 1000 fun v σ hv => ?_
  obtain ⟨rfl, t', ht, rfl⟩ := hv
  simp -implicitDefEqProofs (disch := omega) only [go_sem, ↓reduceIte, reduceCtorEq, Nat.reduceEqDiff]
  exact ⟨by simp, by rw [List.all_eq_not_any_not], t', by omega, rfl, by simp⟩

theorem c_Clone (hT : TabOk P tab) {base t : Nat} {o : List (Option Ob)} (c : List Int) (hl : c.length ≤ 1000000) :
    C P G base n_slices_Clone_int_int [.lst 1 (ints c) false] ⟨t, o⟩ fun v σ => ∃ t' w, t ≤ t' ∧ v = .sl o.length w 0 1 c.length none ∧ σ = ⟨t', o ++ [some (.arr w 3 (ints c))]⟩ := by
  refine C_own 1 3 (Q := fun v σ => (v = .sl o.length t 0 1 c.length none ∧ σ = ⟨t + 1, o ++ [some (.arr t 3 (ints c))]⟩) ∨ (c = [] ∧ v = .lst 0 [] true ∧ σ = ⟨t, o⟩)) ?_ fun v σ hv => ?_
  · refine C_tab hT t_slices_Clone_int_int (by simp [slices_Clone_int_int]) (W_run 1000 ?_)
    have hfl : ((ints c).map V.cells).flatten = ints c := by
      clear hl
      induction c with
      | nil => rfl
      | cons n c ih => simp only [ints, List.map_cons, List.flatten_cons] at ih ⊢; rw [ih]; rfl
    simp -implicitDefEqProofs (disch := omega) only [go_sem, need_of, ↓reduceIte, reduceCtorEq, Nat.reduceEqDiff, Nat.zero_add, Bool.not_false, slices_Clone_int_int, slices_Clone_int_int_r0, slices_Clone_int_int_r1, slices_Clone_int_int_r2, slices_Clone_int_int_r3, hfl, ints_length]
    cases c with
    | nil => exact rfl
    | cons n c => exact trivial
  · rcases hv with ⟨rfl, rfl⟩ | ⟨rfl, rfl, rfl⟩
    · exact .inl ⟨_, _, by omega, rfl, rfl⟩
    · exact .inr ⟨0, rfl, _, _, Nat.le_succ _, rfl, rfl⟩

/-- What is known of literals. -/
def kn (S : List Int) : List (V × V) := im .i64 (fun _ => .int .i64 1) S
theorem kn_get (S : List Int) (n : Int) : (mget [Kd.i] (V.int .i64 n) (im .i64 (fun _ => V.int .i64 1) S)).getD (V.int .i64 0) = .int .i64 (if n ∈ S then 1 else 0) := by
  rw [mget_im]; split <;> rfl
theorem kn_pos (b : Prop) [Decidable b] : decide ((0 : Int) < if b then 1 else 0) = decide b := by split <;> simp [*]
theorem wneg64 {n : Int} (h : -9223372036854775808 ≤ n ∧ n ≤ 9223372036854775807) : IntKind.i64.wrap (0 - n) = neg n := by
  unfold neg
  split
  · rename_i e; subst e; decide
  · rw [wrap_id] <;> (try omega)
    all_goals (first | (simp [IntKind.min, IntKind.signed, IntKind.bits]; omega) | (simp [IntKind.max, IntKind.signed, IntKind.bits]; omega))
theorem k_clause_Units_S1 (hT : TabOk P tab) {base kb tb T km vm : Nat} {o : List (Option Ob)} {S c : List Int} (h1 : o[kb]? = some (some (.arr tb T [.mp km vm]))) (h2 : o[km]? = some (some (.map vm (kn S)))) :
    Tells P G base (.fn (.func n_clause_Units_S1) [] [.ptr kb tb 0]) o (fun n => decide (n ∈ S)) c := fun t n hn => by
  refine CV.of hT t_clause_Units_S1 (C_tab hT t_clause_Units_S1 (by simp [clause_Units_S1]) (W_run 1000 ?_))
  have h3 := keysOk_im .i64 (fun _ => .int .i64 1) S n
  have h4 := kn_get S n
  
  simp -implicitDefEqProofs (disch := omega) only [go_sem, need_of, ↓reduceIte, reduceCtorEq, Nat.reduceEqDiff, Nat.zero_add, Nat.le_refl, gt_iff_lt, clause_Units_S1, clause_Units_S1_r0, clause_Units_S1_r1, h1, h2, kn, h4, kn_pos]
  exact ⟨t, Nat.le_refl _, rfl⟩
theorem k_clause_Assign_S2 (hT : TabOk P tab) {base kb tb T km vm : Nat} {o : List (Option Ob)} {S c : List Int} (h1 : o[kb]? = some (some (.arr tb T [.mp km vm]))) (h2 : o[km]? = some (some (.map vm (kn S)))) :
    Tells P G base (.fn (.func n_clause_Assign_S2) [] [.ptr kb tb 0]) o (fun n => decide (n ∈ S)) c := fun t n hn => by
  refine CV.of hT t_clause_Assign_S2 (C_tab hT t_clause_Assign_S2 (by simp [clause_Assign_S2]) (W_run 1000 ?_))
  have h3 := keysOk_im .i64 (fun _ => .int .i64 1) S n
  have h4 := kn_get S n
  
  simp -implicitDefEqProofs (disch := omega) only [go_sem, need_of, ↓reduceIte, reduceCtorEq, Nat.reduceEqDiff, Nat.zero_add, Nat.le_refl, gt_iff_lt, clause_Assign_S2, clause_Assign_S2_r0, clause_Assign_S2_r1, h1, h2, kn, h4, kn_pos]
  exact ⟨t, Nat.le_refl _, rfl⟩
theorem k_clause_Units_S2 (hT : TabOk P tab) {base kb tb T km vm : Nat} {o : List (Option Ob)} {S c : List Int} (hc : ∀ n ∈ c, -9223372036854775808 ≤ n ∧ n ≤ 9223372036854775807) (h1 : o[kb]? = some (some (.arr tb T [.mp km vm]))) (h2 : o[km]? = some (some (.map vm (kn S)))) :
    Tells P G base (.fn (.func n_clause_Units_S2) [] [.ptr kb tb 0]) o (fun n => decide ((neg n) ∈ S)) c := fun t n hn => by
  refine CV.of hT t_clause_Units_S2 (C_tab hT t_clause_Units_S2 (by simp [clause_Units_S2]) (W_run 1000 ?_))
  have h3 := keysOk_im .i64 (fun _ => .int .i64 1) S (neg n)
  have h4 := kn_get S (neg n)
  have h5 := wneg64 (hc n hn)
  simp -implicitDefEqProofs (disch := omega) only [go_sem, need_of, ↓reduceIte, reduceCtorEq, Nat.reduceEqDiff, Nat.zero_add, Nat.le_refl, gt_iff_lt, clause_Units_S2, clause_Units_S2_r0, clause_Units_S2_r1, h1, h2, kn, h4, kn_pos, h5]
  exact ⟨t, Nat.le_refl _, rfl⟩
theorem k_clause_Assign_S1 (hT : TabOk P tab) {base kb tb T km vm : Nat} {o : List (Option Ob)} {S c : List Int} (hc : ∀ n ∈ c, -9223372036854775808 ≤ n ∧ n ≤ 9223372036854775807) (h1 : o[kb]? = some (some (.arr tb T [.mp km vm]))) (h2 : o[km]? = some (some (.map vm (kn S)))) :
    Tells P G base (.fn (.func n_clause_Assign_S1) [] [.ptr kb tb 0]) o (fun n => decide ((neg n) ∈ S)) c := fun t n hn => by
  refine CV.of hT t_clause_Assign_S1 (C_tab hT t_clause_Assign_S1 (by simp [clause_Assign_S1]) (W_run 1000 ?_))
  have h3 := keysOk_im .i64 (fun _ => .int .i64 1) S (neg n)
  have h4 := kn_get S (neg n)
  have h5 := wneg64 (hc n hn)
  simp -implicitDefEqProofs (disch := omega) only [go_sem, need_of, ↓reduceIte, reduceCtorEq, Nat.reduceEqDiff, Nat.zero_add, Nat.le_refl, gt_iff_lt, clause_Assign_S1, clause_Assign_S1_r0, clause_Assign_S1_r1, h1, h2, kn, h4, kn_pos, h5]
  exact ⟨t, Nat.le_refl _, rfl⟩
theorem k_clause_Assign_S3 (hT : TabOk P tab) {base kb tb T km vm : Nat} {o : List (Option Ob)} {S c : List Int} (hc : ∀ n ∈ c, -9223372036854775808 ≤ n ∧ n ≤ 9223372036854775807) (h1 : o[kb]? = some (some (.arr tb T [.mp km vm]))) (h2 : o[km]? = some (some (.map vm (kn S)))) :
    Tells P G base (.fn (.func n_clause_Assign_S3) [] [.ptr kb tb 0]) o (fun n => decide ((neg n) ∈ S)) c := fun t n hn => by
  refine CV.of hT t_clause_Assign_S3 (C_tab hT t_clause_Assign_S3 (by simp [clause_Assign_S3]) (W_run 1000 ?_))
  have h3 := keysOk_im .i64 (fun _ => .int .i64 1) S (neg n)
  have h4 := kn_get S (neg n)
  have h5 := wneg64 (hc n hn)
  simp -implicitDefEqProofs (disch := omega) only [go_sem, need_of, ↓reduceIte, reduceCtorEq, Nat.reduceEqDiff, Nat.zero_add, Nat.le_refl, gt_iff_lt, clause_Assign_S3, clause_Assign_S3_r0, clause_Assign_S3_r1, h1, h2, kn, h4, kn_pos, h5]
  exact ⟨t, Nat.le_refl _, rfl⟩
end Go.Proofs.Ytingdebioipemaa
