/- slices.Grow, of nothing. -/
import Derived.Test.YtingdebioipemaaDoorJ6
import Derived.Test.YtingdebioipemaaDoorShG
import Derived.Laws.AppendOwn
import Derived.Test.YtingdebioipemaaDoorJ4
import Derived.Test.YtingdebioipemaaDoorJ5
import Derived.Test.YtingdebioipemaaDoorSh2
import Derived.Test.YtingdebioipemaaDoorJ3
/- slices.Grow, of nothing. -/
namespace Go.Proofs.YtingdebioipemaaDoor
open Go Go.Am Go.Cl
set_option maxRecDepth 100000
variable {G : Nat → Option V}
theorem c_Grow {base t n : Nat} {o : List (Option Ob)} (hn : 0 < n) (hl : n ≤ 1000000) :
    C Tryd.prog G base n_slices_Grow_int_int [.lst 0 [] true, .int .i64 n] ⟨t, o⟩ fun r σ' => r = .sl o.length t 0 1 0 none ∧ σ' = ⟨t + 1, o ++ [some (.arr t 3 [])]⟩ := by
  obtain ⟨i0, hi0, hz0, hs0, hb0⟩ : ∃ i0, Tryd.prog.info? 3 = some i0 ∧ i0.zero = some (.int .i64 0) ∧ i0.size = 1 ∧ i0.bytes = 8 := ⟨_, rfl, rfl, rfl, rfl⟩
  refine C_grow fun a w => ?_
  refine (Any8.slices_Grow_grow Tryd.growI i0 (.int .i64 0) hi0 hz0 (by omega) a 0 0 n [] w (Nat.le_refl _) (by omega) (by rw [hb0]; omega) (by omega) (by simp) (fun _ => rfl) (fun a _ j v h => by simp at h)).mono fun e w' ⟨h1, h2⟩ => ?_
  have hge := grownCap_ge w (0 + n) 0 3
  refine ⟨_, _, ?_, h2⟩
  rw [h1]
  congr 2
  simp only [Array.size_append, size_zeroCells, List.size_toArray, List.length_nil]
  show _ = 0 + (0 + n - 0) * 1 + (_ - (0 + n)) * 1
  have : Tryd.growI_ren.t 25 = 3 := rfl
  rw [this]
  omega
end Go.Proofs.YtingdebioipemaaDoor
/- slices.Concat. -/
namespace Go.Proofs.YtingdebioipemaaDoor
open Go Go.Am Go.Cl
set_option maxRecDepth 100000
variable {G : Nat → Option V}
theorem flat_take {L : List (List Int)} {i : Nat} {c : List Int} (h : L[i]? = some c) : (L.take (i + 1)).flatten = (L.take i).flatten ++ c := by
  rw [take_snoc h, List.flatten_append]; simp
theorem flat_le {L : List (List Int)} (i : Nat) : (L.take i).flatten.length ≤ L.flatten.length := by
  have := congrArg List.length (congrArg List.flatten (List.take_append_drop i L))
  rw [List.flatten_append, List.length_append] at this
  omega
theorem c_Concat (hT : TabOk Tryd.prog tab) {base t : Nat} {o : List (Option Ob)} {L : List (List Int)} {tight : Bool} (hb : base ≤ o.length) (h0 : 0 < L.flatten.length) (hl : L.flatten.length ≤ 1000000) (hL : L.length ≤ 1000) :
    C Tryd.prog G base n_slices_Concat_int_int [.lst 1 (L.map row) tight] ⟨t, o⟩ fun v σ => ∃ t' w, t ≤ t' ∧ v = .sl o.length w 0 1 L.flatten.length none ∧ σ = ⟨t', o ++ [some (.arr w 3 (ints L.flatten))]⟩ := by
  refine C_tab hT t_slices_Concat_int_int (by simp [slices_Concat_int_int]) (W_run 1000 ?_)
  simp -implicitDefEqProofs (disch := omega) only [go_sem, ↓reduceIte, reduceCtorEq, Nat.reduceEqDiff, slices_Concat_int_int, zq16_0, zq16_1, zq16_2, zq16_3, zq16_4, zq16_5, zq16_6, zq16_7, zq16_8, zq16_9, zq16_10, zq16_11, zq16_12, zq16_13, zq16_14, zq16_15, List.length_map]
  refine sem_for L (fun i fr σ => fget fr 0 = .lst 1 (L.map row) tight ∧ fget fr 3 = .int .i64 ((L.take i).flatten.length : Nat) ∧ fget fr 9 = .lst 1 (L.map row) tight ∧ fget fr 10 = .int .i64 L.length ∧ fget fr 11 = .int .i64 ((i : Nat) : Int) ∧ σ = ⟨t, o⟩) (fun e fr σ => e = .ex 0 ∧ fget fr 0 = .lst 1 (L.map row) tight ∧ fget fr 3 = .int .i64 L.flatten.length ∧ σ = ⟨t, o⟩) ?_ (fun i c hci fr σ hJ => ?_) (fun i hi fr σ hJ => ?_) (fun e fr σ hE => ?_)
  · simp -implicitDefEqProofs (disch := omega) only [go_sem, ↓reduceIte, reduceCtorEq, Nat.reduceEqDiff, true_and, and_true]
    simp
  · obtain ⟨f0, f3, f9, f10, f11, rfl⟩ := hJ
    obtain ⟨hlt, hD, e2⟩ := at_rows hci (by omega)
    have hfl := flat_take hci
    have hle := flat_le (L := L) (i + 1)
    rw [hfl, List.length_append] at hle
    have e4 : IntKind.i64.wrap (((L.take i).flatten.length : Int) + (c.length : Int)) = (((L.take i).flatten.length + c.length : Nat) : Int) := by
      rw [wself (by omega)]; omega
    have h5 : ¬ (((L.take i).flatten.length + c.length : Nat) : Int) < 0 := by omega
    refine W_round [(0, .lst 1 (L.map row) tight), (3, .int .i64 ((L.take i).flatten.length : Nat)), (9, .lst 1 (L.map row) tight), (10, .int .i64 L.length), (11, .int .i64 ((i : Nat) : Int))] ⟨f0, f3, f9, f10, f11, trivial⟩  1000 ?_
    simp -implicitDefEqProofs (disch := omega) only [go_sem, need_of, ↓reduceIte, reduceCtorEq, Nat.reduceEqDiff, Nat.zero_add, decide_true, decide_false, Nat.le_refl, List.length_map, ints_length, true_implies, and_true, hlt, hD, e4, h5]
    refine ⟨_, _, Shift.refl _ _ _ _, ?_⟩
    simp -implicitDefEqProofs (disch := omega) only [go_sem, ↓reduceIte, reduceCtorEq, Nat.reduceEqDiff, and_true, e2, hfl, List.length_append]
  · obtain ⟨f0, f3, f9, f10, f11, rfl⟩ := hJ
    refine W_round [(0, .lst 1 (L.map row) tight), (3, .int .i64 ((L.take i).flatten.length : Nat)), (9, .lst 1 (L.map row) tight), (10, .int .i64 L.length), (11, .int .i64 ((i : Nat) : Int))] ⟨f0, f3, f9, f10, f11, trivial⟩  1000 ?_
    simp -implicitDefEqProofs (disch := omega) only [go_sem, ↓reduceIte, reduceCtorEq, Nat.reduceEqDiff, decide_false, and_true, hi, Nat.lt_irrefl, List.take_length]
  · obtain ⟨rfl, f0, f3, rfl⟩ := hE
    refine run_sem 1000 ?_
    simp -implicitDefEqProofs (disch := omega) only [go_sem, ↓reduceIte, f3]
    refine call hT t_slices_Grow_int_int (c_Grow h0 hl) 1000 fun u σ hu => ?_
    obtain ⟨rfl, rfl⟩ := hu
    simp -implicitDefEqProofs (disch := omega) only [go_sem, ↓reduceIte, reduceCtorEq, Nat.succ_ne_zero, List.length_map, f0]
    refine sem_for L (fun i fr σ => ∃ t' w, t ≤ t' ∧ fget fr 6 = .sl o.length w 0 1 (L.take i).flatten.length none ∧ fget fr 25 = .lst 1 (L.map row) tight ∧ fget fr 26 = .int .i64 L.length ∧ fget fr 27 = .int .i64 ((i : Nat) : Int) ∧ σ = ⟨t', o ++ [some (.arr w 3 (ints (L.take i).flatten))]⟩) (fun e fr σ => ∃ t' w, t ≤ t' ∧ e = .ex 2 ∧ fget fr 6 = .sl o.length w 0 1 L.flatten.length none ∧ σ = ⟨t', o ++ [some (.arr w 3 (ints L.flatten))]⟩) ⟨t + 1, t, by omega, ?_⟩ (fun i c hci fr σ hJ => ?_) (fun i hi fr σ hJ => ?_) (fun e fr σ hE => ?_)
    · simp -implicitDefEqProofs (disch := omega) only [go_sem, ↓reduceIte, Nat.reduceEqDiff, true_and]
      simp [ints]
    · obtain ⟨t', w, ht, f6, f25, f26, f27, rfl⟩ := hJ
      obtain ⟨hlt, hD, e2⟩ := at_rows hci (by omega)
      have hfl := flat_take hci
      have hap : ints (L.take i).flatten ++ ints c = ints ((L.take i).flatten ++ c) := by simp [ints]
      have q1 : ∀ x : Option Ob, (o ++ [x])[o.length]? = some x := fun x => by simp
      have q2 : ∀ x y : Option Ob, (o ++ [x]).set o.length y = o ++ [y] := fun x y => by simp
      have q3 : (List.map V.cells (ints c)).flatten = ints c := by
        clear hap hfl e2 hD hlt hci
        induction c with
        | nil => rfl
        | cons n c ih => simpa [ints, V.cells] using ih
      have hle := flat_le (L := L) (i + 1)
      rw [hfl, List.length_append] at hle
      have h8 : ((L.take i).flatten.length + c.length) * 8 ≤ 140737488355328 := by omega
      have h9 : (L.take i).flatten.length + c.length ≤ 9223372036854775807 := by omega
      refine W_round [(6, .sl o.length w 0 1 (L.take i).flatten.length none), (25, .lst 1 (L.map row) tight), (26, .int .i64 L.length), (27, .int .i64 ((i : Nat) : Int))] ⟨f6, f25, f26, f27, trivial⟩  1000 ?_
      simp -implicitDefEqProofs (disch := omega) only [go_sem, need_of, ↓reduceIte, Nat.reduceEqDiff, Nat.zero_add, Nat.mul_one, decide_true, Bool.not_true, Nat.le_refl, List.length_map, ints_length, true_implies, and_true, hlt, hD, hb, q1, q2, q3, h8, h9]
      refine ⟨_, _, Shift.refl _ _ _ _, t' + 1, t', by omega, ?_⟩
      simp -implicitDefEqProofs (disch := omega) only [go_sem, ↓reduceIte, Nat.reduceEqDiff, and_true, e2, hfl, hap, List.length_append]
    · obtain ⟨t', w, ht, f6, f25, f26, f27, rfl⟩ := hJ
      refine W_round [(6, .sl o.length w 0 1 (L.take i).flatten.length none), (25, .lst 1 (L.map row) tight), (26, .int .i64 L.length), (27, .int .i64 ((i : Nat) : Int))] ⟨f6, f25, f26, f27, trivial⟩  1000 ?_
      simp -implicitDefEqProofs (disch := omega) only [go_sem, ↓reduceIte, Nat.reduceEqDiff, decide_false, true_and, hi, Nat.lt_irrefl, List.take_length]
      exact ⟨t', w, ht, rfl, rfl, rfl⟩
    · obtain ⟨t', w, ht, rfl, f6, rfl⟩ := hE
      refine run_sem 1000 ?_
      simp -implicitDefEqProofs (disch := omega) only [go_sem, ↓reduceIte, Nat.reduceEqDiff, f6]
      exact ⟨t', w, ht, rfl, rfl, rfl⟩
end Go.Proofs.YtingdebioipemaaDoor
/- Contracts: two clauses put together. -/
namespace Go.Proofs.YtingdebioipemaaDoor
open Go Go.Am Go.Cl
set_option maxRecDepth 100000
variable {G : Nat → Option V}
theorem wneg_pos {v : Int} (h : 0 < v ∧ v ≤ 9223372036854775807) : IntKind.i64.wrap (0 - v) = -v := by
  rw [wself (by omega)]; omega
theorem k_Resolve_S1 {P : Program} (hT : TabOk P tab) {base kb tb T : Nat} {o : List (Option Ob)} {v : Int} {c : List Int} (hv : 0 < v ∧ v ≤ 9223372036854775807) (h1 : o[kb]? = some (some (.arr tb T [.int .i64 v]))) :
    Tells P G base (.fn (.func n_clause_Resolve_S1) [] [.ptr kb tb 0]) o (fun n => decide (n = v ∨ n = -v)) c := fun t n hn => by
  refine CV.of hT t_clause_Resolve_S1 (C_tab hT t_clause_Resolve_S1 (by simp [clause_Resolve_S1]) (W_run 1000 ?_))
  have h5 := wneg_pos hv
  by_cases e : n = v
  · have e' : (n == v) = true := by simpa using e
    have hd : (n = v ∨ n = -v) = True := eq_true (.inl e)
    simp -implicitDefEqProofs (disch := omega) only [go_sem, ↓reduceIte, reduceCtorEq, Nat.reduceEqDiff, Nat.zero_add, decide_true, Nat.le_refl, clause_Resolve_S1, zq17_0, zq17_1, h1, e', hd]
    exact ⟨t, Nat.le_refl _, rfl⟩
  · have e' : (n == v) = false := by simpa using e
    by_cases e2 : n = -v
    · have e2' : (n == -v) = true := by simpa using e2
      have hd : (n = v ∨ n = -v) = True := eq_true (.inr e2)
      simp -implicitDefEqProofs (disch := omega) only [go_sem, ↓reduceIte, reduceCtorEq, Nat.reduceAdd, Nat.reduceEqDiff, Nat.zero_add, decide_true, Nat.le_refl, clause_Resolve_S1, zq17_0, zq17_1, h1, h5, e', hd, e2']
      exact ⟨t, Nat.le_refl _, rfl⟩
    · have e2' : (n == -v) = false := by simpa using e2
      have hd : (n = v ∨ n = -v) = False := eq_false (by simp [e, e2])
      simp -implicitDefEqProofs (disch := omega) only [go_sem, ↓reduceIte, reduceCtorEq, Nat.reduceAdd, Nat.reduceEqDiff, Nat.zero_add, decide_false, Nat.le_refl, clause_Resolve_S1, zq17_0, zq17_1, h1, h5, e', hd, e2']
      exact ⟨t, Nat.le_refl _, rfl⟩
theorem c_rsLeft {P : Program} (hT : TabOk P tab) {w t tb : Nat} {v : Int} {c : List Int} (hv : 0 < v ∧ v ≤ 9223372036854775807) (hl : c.length ≤ 1000000) :
    C P G 0 n_slices_DeleteFunc_int_int [.sl 1 w 0 1 c.length none, .fn (.func n_clause_Resolve_S1) [] [.ptr 0 tb 0]] ⟨t, [some (.arr tb 3 [.int .i64 v]), some (.arr w 3 (ints c))]⟩
      fun u σ => u = .lst 1 (ints (c.filter fun n => !decide (n = v ∨ n = -v))) false ∧ ∃ t', σ = ⟨t', [some (.arr tb 3 [.int .i64 v]), none]⟩ := by
  have h := c_DeleteFunc (P := P) (G := G) (base := 1) (t := t) (w := w) hT (o := [some (.arr tb 3 [.int .i64 v])]) (c := c) (Nat.le_refl _) (fun w' cells => k_Resolve_S1 hT (kb := 0) hv rfl) hl
  refine C.wk (base' := 1) (Nat.zero_le _) (by simp) (C_freeze h fun u σ ⟨t', cells, ht, hn, e1, e2⟩ => ?_)
  subst e1 e2
  refine ⟨1, w, 3, _, Nat.le_refl _, rfl, namelessL_append (ints_nameless _) hn, ?_, t', ?_⟩
  · simp [frzV, rowsV, ints_length]
  · simp [mapFrom]
theorem c_Resolve (hT : TabOk Tryd.prog tab) (a b : List Int) (v : Int) (ha : a.length ≤ 1000) (hb : b.length ≤ 1000) (ba : ∀ n ∈ a, -9223372036854775808 ≤ n ∧ n ≤ 9223372036854775807) (bb : ∀ n ∈ b, -9223372036854775808 ≤ n ∧ n ≤ 9223372036854775807) (hv : v ≤ 9223372036854775807) :
    Pure Tryd.prog G n_clause_Resolve [row a, row b, .int .i64 v] fun u => u = .tup [row (resolveS a b v).1, .bool (resolveS a b v).2] := by
  have hA := fun x => c_Contains (P := Tryd.prog) (G := G) hT a x (by omega)
  have hB := fun x => c_Contains (P := Tryd.prog) (G := G) hT b x (by omega)
  have na : ∀ x : Int, namelessL [V.lst 1 (ints a) false, V.int .i64 x] = true := fun x => by simp [namelessL, nameless]
  have nb : ∀ x : Int, namelessL [V.lst 1 (ints b) false, V.int .i64 x] = true := fun x => by simp [namelessL, nameless]
  simp only [row] at hA hB
  intro t
  refine C_res (Q := fun u _ => nameless u = true ∧ ((resolveS a b v = ([], false) ∧ u = .tup [.lst 0 [] true, .bool false]) ∨ u = .tup [row (resolveS a b v).1, .bool (resolveS a b v).2])) ?_ fun u σ hu => ?_
  · simp only [row]
    refine C_keep 0 (Nat.zero_le _) (C_tab hT t_clause_Resolve (by simp [clause_Resolve]) (W_run 12 ?_))
    by_cases h0 : v ≤ 0
    · have h0' : decide (v ≤ 0) = true := decide_eq_true h0
      have hr : resolveS a b v = ([], false) := if_pos (.inl h0)
      simp -implicitDefEqProofs (disch := omega) only [go_sem, ↓reduceIte, reduceCtorEq, Nat.reduceAdd, Nat.reduceEqDiff, Nat.zero_add, decide_true, Nat.le_refl, clause_Resolve, zqf_0, zqf_1, zqf_2, zqf_3, true_implies, and_true, List.length_cons, List.length_nil, List.length_nil, h0]
      iterate 30 (try (refine run_sem 2 ?_; simp -implicitDefEqProofs (disch := omega) only [go_sem, ↓reduceIte, reduceCtorEq, Nat.reduceEqDiff, Nat.zero_add, Nat.zero_le, true_and, and_true, List.length_cons, List.length_nil, List.length_nil]))
      try refine run_sem 1000 ?_
      try simp -implicitDefEqProofs (disch := omega) only [go_sem, need_of, ↓reduceIte, reduceCtorEq, Nat.reduceAdd, Nat.reduceEqDiff, Nat.reduceLeDiff, Nat.reduceLT, Nat.reduceSub, Nat.reduceMul, Int.reduceToNat, Int.reduceLE, Int.reduceLT, Int.reduceEq, Int.reduceNe, Nat.succ_ne_zero, Nat.zero_add, Nat.add_zero, Nat.mul_one, Nat.one_mul, Nat.zero_mul, decide_true, decide_false, Bool.not_true, Bool.not_false, Nat.le_refl, Nat.zero_le, ge_iff_le, gt_iff_lt, Nat.reduceBEq, Nat.reduceBNe, beq_self_eq_true, bne_self_eq_false, Option.isSome_some, Option.isSome_none, Option.getD_some, Option.getD_none, clause_Resolve, zqf_0, zqf_1, zqf_2, zqf_3, false_implies, true_implies, true_and, and_true, not_true_eq_false, not_false_eq_true, Bool.not_true, Bool.not_false, List.length_cons, List.length_nil, List.length_nil]
      exact .inl hr
    have h0' : decide (v ≤ 0) = false := decide_eq_false h0
    have hng := wneg_pos (v := v) ⟨by omega, hv⟩
    have k1 := hA v
    by_cases h1 : v ∈ a
    rotate_left
    · rw [decide_eq_false h1] at k1
      have hr : resolveS a b v = ([], false) := if_pos (by simp [h0, h1])
      simp -implicitDefEqProofs (disch := omega) only [go_sem, ↓reduceIte, reduceCtorEq, Nat.reduceAdd, Nat.reduceEqDiff, Nat.zero_add, decide_false, Nat.le_refl, clause_Resolve, zqf_0, zqf_1, zqf_2, zqf_3, true_implies, and_true, List.length_cons, List.length_nil, List.length_nil, h0]
      iterate 12 (try (refine run_sem 2 ?_; simp -implicitDefEqProofs (disch := omega) only [go_sem, ↓reduceIte, reduceCtorEq, Nat.reduceAdd, Nat.reduceEqDiff, Nat.zero_add, Nat.le_refl, true_implies, and_true, List.length_cons, List.length_nil, List.length_nil]))
      refine callPS hT t_slices_Contains_int_int k1 (na v) 2 ?_
      simp -implicitDefEqProofs (disch := omega) only [go_sem, ↓reduceIte, reduceCtorEq, Nat.reduceAdd, Nat.reduceEqDiff, Bool.not_false, Bool.not_false]
      iterate 24 (try (refine run_sem 2 ?_; simp -implicitDefEqProofs (disch := omega) only [go_sem, ↓reduceIte, reduceCtorEq, Nat.reduceEqDiff, Nat.zero_add, Nat.zero_le, true_and, and_true, List.length_cons, List.length_nil, List.length_nil]))
      try refine run_sem 1000 ?_
      try simp -implicitDefEqProofs (disch := omega) only [go_sem, need_of, ↓reduceIte, reduceCtorEq, Nat.reduceAdd, Nat.reduceEqDiff, Nat.reduceLeDiff, Nat.reduceLT, Nat.reduceSub, Nat.reduceMul, Int.reduceToNat, Int.reduceLE, Int.reduceLT, Int.reduceEq, Int.reduceNe, Nat.succ_ne_zero, Nat.zero_add, Nat.add_zero, Nat.mul_one, Nat.one_mul, Nat.zero_mul, decide_true, decide_false, Bool.not_true, Bool.not_false, Nat.le_refl, Nat.zero_le, ge_iff_le, gt_iff_lt, Nat.reduceBEq, Nat.reduceBNe, beq_self_eq_true, bne_self_eq_false, Option.isSome_some, Option.isSome_none, Option.getD_some, Option.getD_none, clause_Resolve, zqf_0, zqf_1, zqf_2, zqf_3, false_implies, true_implies, true_and, and_true, not_true_eq_false, not_false_eq_true, Bool.not_true, Bool.not_false, List.length_cons, List.length_nil, List.length_nil, hng]
      exact .inl hr
    rw [decide_eq_true h1] at k1
    have k2 := hB (-v)
    by_cases h2 : -v ∈ b
    rotate_left
    · rw [decide_eq_false h2] at k2
      have hr : resolveS a b v = ([], false) := if_pos (by simp [h0, h1, h2])
      simp -implicitDefEqProofs (disch := omega) only [go_sem, ↓reduceIte, reduceCtorEq, Nat.reduceAdd, Nat.reduceEqDiff, Nat.zero_add, decide_false, Nat.le_refl, clause_Resolve, zqf_0, zqf_1, zqf_2, zqf_3, true_implies, and_true, List.length_cons, List.length_nil, List.length_nil, h0]
      iterate 12 (try (refine run_sem 2 ?_; simp -implicitDefEqProofs (disch := omega) only [go_sem, ↓reduceIte, reduceCtorEq, Nat.reduceAdd, Nat.reduceEqDiff, Nat.zero_add, Nat.le_refl, true_implies, and_true, List.length_cons, List.length_nil, List.length_nil]))
      refine callPS hT t_slices_Contains_int_int k1 (na v) 2 ?_
      simp -implicitDefEqProofs (disch := omega) only [go_sem, ↓reduceIte, reduceCtorEq, Nat.reduceAdd, Nat.reduceEqDiff, Bool.not_true, Bool.not_true]
      iterate 12 (try (refine run_sem 2 ?_; simp -implicitDefEqProofs (disch := omega) only [go_sem, ↓reduceIte, reduceCtorEq, Nat.reduceAdd, Nat.reduceEqDiff, Nat.zero_add, Nat.le_refl, true_implies, and_true, List.length_cons, List.length_nil, List.length_nil, hng]))
      refine callPS hT t_slices_Contains_int_int k2 (nb (-v)) 2 ?_
      simp -implicitDefEqProofs (disch := omega) only [go_sem, ↓reduceIte, reduceCtorEq, Nat.reduceAdd, Nat.reduceEqDiff, Bool.not_false, Bool.not_false]
      iterate 24 (try (refine run_sem 2 ?_; simp -implicitDefEqProofs (disch := omega) only [go_sem, ↓reduceIte, reduceCtorEq, Nat.reduceEqDiff, Nat.zero_add, Nat.zero_le, true_and, and_true, List.length_cons, List.length_nil, List.length_nil]))
      try refine run_sem 1000 ?_
      try simp -implicitDefEqProofs (disch := omega) only [go_sem, need_of, ↓reduceIte, reduceCtorEq, Nat.reduceAdd, Nat.reduceEqDiff, Nat.reduceLeDiff, Nat.reduceLT, Nat.reduceSub, Nat.reduceMul, Int.reduceToNat, Int.reduceLE, Int.reduceLT, Int.reduceEq, Int.reduceNe, Nat.succ_ne_zero, Nat.zero_add, Nat.add_zero, Nat.mul_one, Nat.one_mul, Nat.zero_mul, decide_true, decide_false, Bool.not_true, Bool.not_false, Nat.le_refl, Nat.zero_le, ge_iff_le, gt_iff_lt, Nat.reduceBEq, Nat.reduceBNe, beq_self_eq_true, bne_self_eq_false, Option.isSome_some, Option.isSome_none, Option.getD_some, Option.getD_none, clause_Resolve, zqf_0, zqf_1, zqf_2, zqf_3, false_implies, true_implies, true_and, and_true, not_true_eq_false, not_false_eq_true, Bool.not_true, Bool.not_false, List.length_cons, List.length_nil, List.length_nil, hng]
      exact .inl hr
    rw [decide_eq_true h2] at k2
    have k3 := hA (-v)
    by_cases h3 : -v ∈ a
    · rw [decide_eq_true h3] at k3
      have hr : resolveS a b v = ([], false) := if_pos (by simp [h0, h1, h2, h3])
      simp -implicitDefEqProofs (disch := omega) only [go_sem, ↓reduceIte, reduceCtorEq, Nat.reduceAdd, Nat.reduceEqDiff, Nat.zero_add, decide_false, Nat.le_refl, clause_Resolve, zqf_0, zqf_1, zqf_2, zqf_3, true_implies, and_true, List.length_cons, List.length_nil, List.length_nil, h0]
      iterate 12 (try (refine run_sem 2 ?_; simp -implicitDefEqProofs (disch := omega) only [go_sem, ↓reduceIte, reduceCtorEq, Nat.reduceAdd, Nat.reduceEqDiff, Nat.zero_add, Nat.le_refl, true_implies, and_true, List.length_cons, List.length_nil, List.length_nil]))
      refine callPS hT t_slices_Contains_int_int k1 (na v) 2 ?_
      simp -implicitDefEqProofs (disch := omega) only [go_sem, ↓reduceIte, reduceCtorEq, Nat.reduceAdd, Nat.reduceEqDiff, Bool.not_true, Bool.not_true]
      iterate 12 (try (refine run_sem 2 ?_; simp -implicitDefEqProofs (disch := omega) only [go_sem, ↓reduceIte, reduceCtorEq, Nat.reduceAdd, Nat.reduceEqDiff, Nat.zero_add, Nat.le_refl, true_implies, and_true, List.length_cons, List.length_nil, List.length_nil, hng]))
      refine callPS hT t_slices_Contains_int_int k2 (nb (-v)) 2 ?_
      simp -implicitDefEqProofs (disch := omega) only [go_sem, ↓reduceIte, reduceCtorEq, Nat.reduceAdd, Nat.reduceEqDiff, Bool.not_true, Bool.not_true]
      iterate 12 (try (refine run_sem 2 ?_; simp -implicitDefEqProofs (disch := omega) only [go_sem, ↓reduceIte, reduceCtorEq, Nat.reduceAdd, Nat.reduceEqDiff, Nat.zero_add, Nat.le_refl, true_implies, and_true, List.length_cons, List.length_nil, List.length_nil, hng]))
      refine callPS hT t_slices_Contains_int_int k3 (na (-v)) 2 ?_
      simp -implicitDefEqProofs (disch := omega) only [go_sem, ↓reduceIte, reduceCtorEq, Nat.reduceEqDiff]
      iterate 24 (try (refine run_sem 2 ?_; simp -implicitDefEqProofs (disch := omega) only [go_sem, ↓reduceIte, reduceCtorEq, Nat.reduceEqDiff, Nat.zero_add, Nat.zero_le, true_and, and_true, List.length_cons, List.length_nil, List.length_nil]))
      try refine run_sem 1000 ?_
      try simp -implicitDefEqProofs (disch := omega) only [go_sem, need_of, ↓reduceIte, reduceCtorEq, Nat.reduceAdd, Nat.reduceEqDiff, Nat.reduceLeDiff, Nat.reduceLT, Nat.reduceSub, Nat.reduceMul, Int.reduceToNat, Int.reduceLE, Int.reduceLT, Int.reduceEq, Int.reduceNe, Nat.succ_ne_zero, Nat.zero_add, Nat.add_zero, Nat.mul_one, Nat.one_mul, Nat.zero_mul, decide_true, decide_false, Bool.not_true, Bool.not_false, Nat.le_refl, Nat.zero_le, ge_iff_le, gt_iff_lt, Nat.reduceBEq, Nat.reduceBNe, beq_self_eq_true, bne_self_eq_false, Option.isSome_some, Option.isSome_none, Option.getD_some, Option.getD_none, clause_Resolve, zqf_0, zqf_1, zqf_2, zqf_3, false_implies, true_implies, true_and, and_true, not_true_eq_false, not_false_eq_true, Bool.not_true, Bool.not_false, List.length_cons, List.length_nil, List.length_nil, hng]
      exact .inl hr
    rw [decide_eq_false h3] at k3
    have k4 := hB v
    by_cases h4 : v ∈ b
    · rw [decide_eq_true h4] at k4
      have hr : resolveS a b v = ([], false) := if_pos (by simp [h0, h1, h2, h3, h4])
      simp -implicitDefEqProofs (disch := omega) only [go_sem, ↓reduceIte, reduceCtorEq, Nat.reduceAdd, Nat.reduceEqDiff, Nat.zero_add, decide_false, Nat.le_refl, clause_Resolve, zqf_0, zqf_1, zqf_2, zqf_3, true_implies, and_true, List.length_cons, List.length_nil, List.length_nil, h0]
      iterate 12 (try (refine run_sem 2 ?_; simp -implicitDefEqProofs (disch := omega) only [go_sem, ↓reduceIte, reduceCtorEq, Nat.reduceAdd, Nat.reduceEqDiff, Nat.zero_add, Nat.le_refl, true_implies, and_true, List.length_cons, List.length_nil, List.length_nil]))
      refine callPS hT t_slices_Contains_int_int k1 (na v) 2 ?_
      simp -implicitDefEqProofs (disch := omega) only [go_sem, ↓reduceIte, reduceCtorEq, Nat.reduceAdd, Nat.reduceEqDiff, Bool.not_true, Bool.not_true]
      iterate 12 (try (refine run_sem 2 ?_; simp -implicitDefEqProofs (disch := omega) only [go_sem, ↓reduceIte, reduceCtorEq, Nat.reduceAdd, Nat.reduceEqDiff, Nat.zero_add, Nat.le_refl, true_implies, and_true, List.length_cons, List.length_nil, List.length_nil, hng]))
      refine callPS hT t_slices_Contains_int_int k2 (nb (-v)) 2 ?_
      simp -implicitDefEqProofs (disch := omega) only [go_sem, ↓reduceIte, reduceCtorEq, Nat.reduceAdd, Nat.reduceEqDiff, Bool.not_true, Bool.not_true]
      iterate 12 (try (refine run_sem 2 ?_; simp -implicitDefEqProofs (disch := omega) only [go_sem, ↓reduceIte, reduceCtorEq, Nat.reduceAdd, Nat.reduceEqDiff, Nat.zero_add, Nat.le_refl, true_implies, and_true, List.length_cons, List.length_nil, List.length_nil, hng]))
      refine callPS hT t_slices_Contains_int_int k3 (na (-v)) 2 ?_
      simp -implicitDefEqProofs (disch := omega) only [go_sem, ↓reduceIte, reduceCtorEq, Nat.reduceEqDiff]
      iterate 12 (try (refine run_sem 2 ?_; simp -implicitDefEqProofs (disch := omega) only [go_sem, ↓reduceIte, reduceCtorEq, Nat.reduceAdd, Nat.reduceEqDiff, Nat.zero_add, Nat.le_refl, true_implies, and_true, List.length_cons, List.length_nil, List.length_nil]))
      refine callPS hT t_slices_Contains_int_int k4 (nb v) 2 ?_
      simp -implicitDefEqProofs (disch := omega) only [go_sem, ↓reduceIte, reduceCtorEq, Nat.reduceEqDiff]
      iterate 24 (try (refine run_sem 2 ?_; simp -implicitDefEqProofs (disch := omega) only [go_sem, ↓reduceIte, reduceCtorEq, Nat.reduceEqDiff, Nat.zero_add, Nat.zero_le, true_and, and_true, List.length_cons, List.length_nil, List.length_nil]))
      try refine run_sem 1000 ?_
      try simp -implicitDefEqProofs (disch := omega) only [go_sem, need_of, ↓reduceIte, reduceCtorEq, Nat.reduceAdd, Nat.reduceEqDiff, Nat.reduceLeDiff, Nat.reduceLT, Nat.reduceSub, Nat.reduceMul, Int.reduceToNat, Int.reduceLE, Int.reduceLT, Int.reduceEq, Int.reduceNe, Nat.succ_ne_zero, Nat.zero_add, Nat.add_zero, Nat.mul_one, Nat.one_mul, Nat.zero_mul, decide_true, decide_false, Bool.not_true, Bool.not_false, Nat.le_refl, Nat.zero_le, ge_iff_le, gt_iff_lt, Nat.reduceBEq, Nat.reduceBNe, beq_self_eq_true, bne_self_eq_false, Option.isSome_some, Option.isSome_none, Option.getD_some, Option.getD_none, clause_Resolve, zqf_0, zqf_1, zqf_2, zqf_3, false_implies, true_implies, true_and, and_true, not_true_eq_false, not_false_eq_true, Bool.not_true, Bool.not_false, List.length_cons, List.length_nil, List.length_nil, hng]
      exact .inl hr
    rw [decide_eq_false h4] at k4
    have hr : resolveS a b v = cleanS ((a ++ b).filter fun n => decide (n ≠ v ∧ n ≠ -v)) := if_neg (by simp [h0, h1, h2, h3, h4])
    simp -implicitDefEqProofs (disch := omega) only [go_sem, ↓reduceIte, reduceCtorEq, Nat.reduceAdd, Nat.reduceEqDiff, Nat.zero_add, decide_false, Nat.le_refl, clause_Resolve, zqf_0, zqf_1, zqf_2, zqf_3, true_implies, and_true, List.length_cons, List.length_nil, List.length_nil, h0]
    iterate 12 (try (refine run_sem 2 ?_; simp -implicitDefEqProofs (disch := omega) only [go_sem, ↓reduceIte, reduceCtorEq, Nat.reduceAdd, Nat.reduceEqDiff, Nat.zero_add, Nat.le_refl, true_implies, and_true, List.length_cons, List.length_nil, List.length_nil]))
    refine callPS hT t_slices_Contains_int_int k1 (na v) 2 ?_
    simp -implicitDefEqProofs (disch := omega) only [go_sem, ↓reduceIte, reduceCtorEq, Nat.reduceAdd, Nat.reduceEqDiff, Bool.not_true, Bool.not_true]
    iterate 12 (try (refine run_sem 2 ?_; simp -implicitDefEqProofs (disch := omega) only [go_sem, ↓reduceIte, reduceCtorEq, Nat.reduceAdd, Nat.reduceEqDiff, Nat.zero_add, Nat.le_refl, true_implies, and_true, List.length_cons, List.length_nil, List.length_nil, hng]))
    refine callPS hT t_slices_Contains_int_int k2 (nb (-v)) 2 ?_
    simp -implicitDefEqProofs (disch := omega) only [go_sem, ↓reduceIte, reduceCtorEq, Nat.reduceAdd, Nat.reduceEqDiff, Bool.not_true, Bool.not_true]
    iterate 12 (try (refine run_sem 2 ?_; simp -implicitDefEqProofs (disch := omega) only [go_sem, ↓reduceIte, reduceCtorEq, Nat.reduceAdd, Nat.reduceEqDiff, Nat.zero_add, Nat.le_refl, true_implies, and_true, List.length_cons, List.length_nil, List.length_nil, hng]))
    refine callPS hT t_slices_Contains_int_int k3 (na (-v)) 2 ?_
    simp -implicitDefEqProofs (disch := omega) only [go_sem, ↓reduceIte, reduceCtorEq, Nat.reduceEqDiff]
    iterate 12 (try (refine run_sem 2 ?_; simp -implicitDefEqProofs (disch := omega) only [go_sem, ↓reduceIte, reduceCtorEq, Nat.reduceAdd, Nat.reduceEqDiff, Nat.zero_add, Nat.le_refl, true_implies, and_true, List.length_cons, List.length_nil, List.length_nil]))
    refine callPS hT t_slices_Contains_int_int k4 (nb v) 2 ?_
    simp -implicitDefEqProofs (disch := omega) only [go_sem, ↓reduceIte, reduceCtorEq, Nat.reduceEqDiff]
    iterate 24 (try (refine run_sem 2 ?_; simp -implicitDefEqProofs (disch := omega) only [go_sem, ↓reduceIte, reduceCtorEq, Nat.reduceAdd, Nat.reduceEqDiff, Nat.reduceLeDiff, Nat.zero_add, Nat.le_refl, and_true, List.length_cons, List.length_nil, List.length_nil]))
    try refine run_sem 1000 ?_
    try simp -implicitDefEqProofs (disch := omega) only [go_sem, need_of, ↓reduceIte, reduceCtorEq, Nat.reduceAdd, Nat.reduceEqDiff, Nat.reduceLeDiff, Nat.reduceLT, Nat.reduceSub, Nat.reduceMul, Int.reduceToNat, Int.reduceLE, Int.reduceLT, Int.reduceEq, Int.reduceNe, Nat.succ_ne_zero, Nat.zero_add, Nat.add_zero, Nat.mul_one, Nat.one_mul, Nat.zero_mul, decide_true, decide_false, Bool.not_true, Bool.not_false, Nat.le_refl, Nat.zero_le, ge_iff_le, gt_iff_lt, Nat.reduceBEq, Nat.reduceBNe, beq_self_eq_true, bne_self_eq_false, Option.isSome_some, Option.isSome_none, Option.getD_some, Option.getD_none, clause_Resolve, zqf_0, zqf_1, zqf_2, zqf_3, false_implies, true_implies, true_and, and_true, not_true_eq_false, not_false_eq_true, Bool.not_true, Bool.not_false, List.length_cons, List.length_nil, List.length_nil, hng]
    have hl : ([a, b] : List (List Int)).flatten = a ++ b := by simp
    have hne : 0 < ([a, b] : List (List Int)).flatten.length := by rw [hl, List.length_append]; have := List.length_pos_of_mem h1; omega
    have hCc := fun t' => c_Concat (G := G) (base := 0) (t := t') (o := [some (.arr t 3 [.int .i64 v])]) (L := [a, b]) (tight := true) hT (Nat.zero_le _) hne (by rw [hl, List.length_append]; omega) (by simp)
    simp only [hl, List.map_cons, List.map_nil, row, List.cons_append, List.nil_append, List.length_cons, List.length_nil] at hCc
    refine call hT t_slices_Concat_int_int (hCc _) 1000 fun u σ hu => ?_
    obtain ⟨t1, w1, ht1, rfl, rfl⟩ := hu
    simp -implicitDefEqProofs (disch := omega) only [go_sem, ↓reduceIte, reduceCtorEq, Nat.reduceEqDiff, Nat.zero_add]
    refine call hT t_slices_DeleteFunc_int_int (c_rsLeft (P := Tryd.prog) (G := G) hT ⟨by omega, hv⟩ (by rw [List.length_append]; omega)) 1000 fun u σ hu => ?_
    obtain ⟨rfl, t2, rfl⟩ := hu
    simp -implicitDefEqProofs (disch := omega) only [go_sem, ↓reduceIte, reduceCtorEq, Nat.reduceEqDiff]
    have hmem : ∀ n ∈ (a ++ b).filter (fun n => !decide (n = v ∨ n = -v)), -9223372036854775808 ≤ n ∧ n ≤ 9223372036854775807 := fun n hn => by
      rcases List.mem_append.1 (List.mem_filter.1 hn).1 with h | h
      · exact ba n h
      · exact bb n h
    have hlen : ((a ++ b).filter (fun n => !decide (n = v ∨ n = -v))).length ≤ 1000000 := by
      have := List.length_filter_le (fun n => !decide (n = v ∨ n = -v)) (a ++ b)
      rw [List.length_append] at this; omega
    have hK := c_Clean (G := G) hT _ hmem hlen
    simp only [row] at hK
    have he : (a ++ b).filter (fun n => !decide (n = v ∨ n = -v)) = (a ++ b).filter fun n => decide (n ≠ v ∧ n ≠ -v) := by
      congr 1; funext n; by_cases e1 : n = v <;> by_cases e2 : n = -v <;> simp [e1, e2]
    refine callP hT t_clause_Clean hK (by simp [namelessL, nameless]) 1000 fun u hu => ?_
    subst hu
    rw [he, hr]
    simp -implicitDefEqProofs (disch := omega) only [go_sem, ↓reduceIte, reduceCtorEq, Nat.reduceAdd, Nat.reduceEqDiff, Nat.reduceLT, Nat.zero_add, Nat.zero_le, and_true, List.length_cons, List.length_nil, List.length_nil]
  · rcases hu with ⟨hn, ⟨hr, rfl⟩ | rfl⟩
    · exact ⟨.tup [row [], .bool false], .tup _ _ (.cons _ _ _ _ (.lst _ _ _ _ _ .nil (.inl rfl)) (.cons _ _ _ _ (.refl _) .nil)), rfl, by rw [hr]⟩
    · exact ⟨_, .refl _, hn, rfl⟩
end Go.Proofs.YtingdebioipemaaDoor
/- Contracts: works. -/
namespace Go.Proofs.YtingdebioipemaaDoor
open Go Go.Am Go.Cl
set_option maxRecDepth 100000
variable {G : Nat → Option V}
def trow (c : List Int) : V := .lst 1 (ints c) true
def trows (F : List (List Int)) : V := .lst 1 (F.map trow) true
theorem wk_trow (c : List Int) : Wk (trow c) (row c) := .lst 1 1 _ _ true (WkL.refl _) (.inr rfl)
theorem wk_trows (F : List (List Int)) : Wk (trows F) (rows F) := .lst 1 1 _ _ true (WkL.map fun c _ => wk_trow c) (.inr rfl)
theorem wk_tfml (v : Int) (F : List (List Int)) : Wk (.agg [.int .i64 v, trows F]) (fml v F) := .agg _ _ (.cons _ _ _ _ (.refl _) (.cons _ _ _ _ (wk_trows F) .nil))
theorem bytesV_flat (l : List UInt8) : ((bytesV l).map V.cells).flatten = bytesV l := by
  induction l with
  | nil => rfl
  | cons b l ih => simpa [bytesV, V.cells] using ih
theorem bytesV_byte (l : List UInt8) : ∀ c, c ∈ bytesV l → isByte c = true := fun c hc => by
  obtain ⟨b, _, rfl⟩ := List.mem_map.1 hc
  have := b.toNat_lt
  simp [isByte]; omega
theorem bytesV_of (l : List UInt8) : (bytesV l).map ofByteV = l := by
  unfold bytesV
  rw [List.map_map]
  conv => rhs; rw [← List.map_id l]
  exact List.map_congr_left fun b _ => by simp [ofByteV]
def kF : List (List Int) := [[1], [-1, 2], [-2, 3, 4]]
theorem put_k : putB 2 [[1, -2]] = [112, 32, 99, 110, 102, 32, 50, 32, 49, 10, 49, 32, 45, 50, 32, 48, 10] := by kernel_rfl
theorem c_works (hT : TabOk Tryd.prog tab) (K : BufK Tryd.prog) (It : ItoaK Tryd.prog G) : Am.Pure Tryd.prog G n_proofmarklaw05_works [] fun u => u = .bool true := by
  have h1 : Am.Pure Tryd.prog G n_clause_Clean [trow [3, -1, 3]] fun u => u = .tup [row [-1, 3], .bool true] := by
    have h := c_Clean (G := G) hT [3, -1, 3] (by decide) (by decide)
    rw [show cleanS [3, -1, 3] = ([-1, 3], true) by decide +kernel] at h
    exact Pure.args (.cons _ _ _ _ (wk_trow _) .nil) h
  have h2 : Am.Pure Tryd.prog G n_clause_Clean [trow [1, -1]] fun u => u = .tup [row [], .bool false] := by
    have h := c_Clean (G := G) hT [1, -1] (by decide) (by decide)
    rw [show cleanS [1, -1] = ([], false) by decide +kernel] at h
    exact Pure.args (.cons _ _ _ _ (wk_trow _) .nil) h
  have h4 : Am.Pure Tryd.prog G n_clause_Resolve [trow [1, 2], trow [-1, 3], .int .i64 1] fun u => u = .tup [row [2, 3], .bool true] := by
    have h := c_Resolve (G := G) hT [1, 2] [-1, 3] 1 (by decide) (by decide) (by decide) (by decide) (by decide)
    rw [show resolveS [1, 2] [-1, 3] 1 = ([2, 3], true) by decide +kernel] at h
    exact Pure.args (.cons _ _ _ _ (wk_trow _) (.cons _ _ _ _ (wk_trow _) (.cons _ _ _ _ (.refl _) .nil))) h
  have h5 : Am.Pure Tryd.prog G n_clause_Put [.agg [.int .i64 2, trows [[1, -2]]]] fun u => u = .tup [.lst 1 (bytesV [112, 32, 99, 110, 102, 32, 50, 32, 49, 10, 49, 32, 45, 50, 32, 48, 10]) false, .int .i64 0] := by
    have h := c_Put (G := G) hT K It 2 [[1, -2]] (by decide) (by decide)
    rw [show right 2 [[1, -2]] = true by decide +kernel, if_pos rfl, put_k] at h
    exact Pure.args (.cons _ _ _ _ (wk_tfml _ _) .nil) h
  have h3 : Am.Pure Tryd.prog G n_clause_Units [.agg [.int .i64 4, trows kF]] fun u => u = .tup [row [1, 2], .bool true] := by
    have h := c_Units (G := G) hT sortU 4 kF (by decide) (by decide)
    rw [show right 4 kF = true by decide +kernel, if_pos rfl, show units kF = some [1, 2] by decide +kernel] at h
    exact Pure.args (.cons _ _ _ _ (wk_tfml _ _) .nil) h
  have hs := fun (a : List Int) (ha : a.length ≤ 9223372036854775807) => (Pure.args (.cons _ _ _ _ (.refl _) (.cons _ _ _ _ (wk_trow _) .nil)) (c_SameInts (P := Tryd.prog) (G := G) hT a a ha ha) : Am.Pure Tryd.prog G n_proofmarkkit_SameInts [row a, trow a] fun u => u = .bool (decide (a = a)))
  have hs1 := hs [-1, 3] (by decide)
  have hs2 := hs [1, 2] (by decide)
  have hs3 := hs [2, 3] (by decide)
  simp only [decide_true] at hs1 hs2 hs3
  simp only [trows, trow, row, ints, kF, List.map_cons, List.map_nil] at h1 h2 h3 h4 h5 hs1 hs2 hs3
  intro t
  refine C_keep 0 (Nat.zero_le _) (C_tab hT t_proofmarklaw05_works (by simp [proofmarklaw05_works]) (W_run 60 ?_))
  simp -implicitDefEqProofs (disch := omega) only [go_sem, ↓reduceIte, reduceCtorEq, Nat.reduceAdd, Nat.reduceLeDiff, Nat.zero_add, Nat.le_refl, proofmarklaw05_works, zq4_0, zq4_1, zq4_2, zq4_3, zq4_4, zq4_5, zq4_6]
  refine callPS hT t_clause_Clean h1 (by simp [namelessL, nameless]) 60 ?_
  simp -implicitDefEqProofs (disch := omega) only [go_sem, ↓reduceIte, reduceCtorEq, Nat.reduceAdd, Nat.reduceEqDiff, Nat.reduceLeDiff, Nat.reduceLT, Nat.zero_add, Nat.le_refl]
  refine callPS hT t_clause_Clean h2 (by simp [namelessL, nameless]) 60 ?_
  simp -implicitDefEqProofs (disch := omega) only [go_sem, ↓reduceIte, reduceCtorEq, Nat.reduceAdd, Nat.reduceEqDiff, Nat.reduceLeDiff, Nat.reduceLT, Nat.zero_add, Nat.le_refl]
  refine callPS hT t_clause_Units h3 (by simp [namelessL, nameless]) 60 ?_
  simp -implicitDefEqProofs (disch := omega) only [go_sem, ↓reduceIte, reduceCtorEq, Nat.reduceAdd, Nat.reduceEqDiff, Nat.reduceLeDiff, Nat.reduceLT, Nat.zero_add, Nat.le_refl]
  refine callPS hT t_clause_Resolve h4 (by simp [namelessL, nameless]) 60 ?_
  simp -implicitDefEqProofs (disch := omega) only [go_sem, ↓reduceIte, reduceCtorEq, Nat.reduceAdd, Nat.reduceEqDiff, Nat.reduceLeDiff, Nat.reduceLT, Nat.zero_add, Nat.le_refl]
  refine callPS hT t_clause_Put h5 (by simp [namelessL, nameless]) 10 ?_
  simp -implicitDefEqProofs (disch := omega) only [go_sem, ↓reduceIte, reduceCtorEq, Nat.reduceAdd, Nat.reduceEqDiff, Nat.reduceLT, Nat.zero_add]
  iterate 8 (try (refine run_sem 2 ?_; simp -implicitDefEqProofs (disch := omega) only [go_sem, ↓reduceIte, reduceCtorEq, Nat.reduceAdd, Nat.reduceEqDiff, Nat.reduceLeDiff, Nat.zero_add, Nat.le_refl, and_true]))
  refine callPS hT t_proofmarkkit_SameInts hs1 (by simp [namelessL, nameless]) 2 ?_
  simp -implicitDefEqProofs (disch := omega) only [go_sem, ↓reduceIte, reduceCtorEq, Nat.reduceEqDiff]
  iterate 16 (try (refine run_sem 2 ?_; simp -implicitDefEqProofs (disch := omega) only [go_sem, ↓reduceIte, reduceCtorEq, Nat.reduceAdd, Nat.reduceEqDiff, Nat.reduceLeDiff, Nat.zero_add, Bool.not_false, Nat.le_refl, and_true, Bool.not_false]))
  refine callPS hT t_proofmarkkit_SameInts hs2 (by simp [namelessL, nameless]) 2 ?_
  simp -implicitDefEqProofs (disch := omega) only [go_sem, ↓reduceIte, reduceCtorEq, Nat.reduceEqDiff]
  iterate 16 (try (refine run_sem 2 ?_; simp -implicitDefEqProofs (disch := omega) only [go_sem, ↓reduceIte, reduceCtorEq, Nat.reduceAdd, Nat.reduceEqDiff, Nat.reduceLeDiff, Nat.zero_add, Nat.le_refl, and_true]))
  refine callPS hT t_proofmarkkit_SameInts hs3 (by simp [namelessL, nameless]) 2 ?_
  simp -implicitDefEqProofs (disch := omega) only [go_sem, ↓reduceIte, reduceCtorEq, Nat.reduceEqDiff]
  iterate 16 (try (refine run_sem 2 ?_; simp -implicitDefEqProofs (disch := omega) only [go_sem, ↓reduceIte, reduceCtorEq, Nat.reduceAdd, Nat.reduceEqDiff, Nat.zero_add, Bool.not_false, beq_self_eq_true, Bool.not_false]))
  simp only [evW]
  have e1 := bytesV_flat [112, 32, 99, 110, 102, 32, 50, 32, 49, 10, 49, 32, 45, 50, 32, 48, 10]
  have e2 : (∀ c, c ∈ bytesV [112, 32, 99, 110, 102, 32, 50, 32, 49, 10, 49, 32, 45, 50, 32, 48, 10] → isByte c = true) = True := eq_true (bytesV_byte _)
  have e3 := bytesV_of [112, 32, 99, 110, 102, 32, 50, 32, 49, 10, 49, 32, 45, 50, 32, 48, 10]
  simp -implicitDefEqProofs (disch := omega) only [go_sem, ↓reduceIte, reduceCtorEq, Nat.reduceEqDiff, evSrc, e1, e2, e3]
  iterate 8 (try (refine run_sem 2 ?_; simp -implicitDefEqProofs (disch := omega) only [go_sem, ↓reduceIte, reduceCtorEq, Nat.reduceAdd, Nat.reduceEqDiff, Nat.le_refl, beq_self_eq_true, and_true]))
end Go.Proofs.YtingdebioipemaaDoor
/- Contracts: the document's side of clauses: what follows by clauses of one literal; a clause gone through. -/
namespace Go.Proofs.YtingdebioipemaaDoor
open Go Go.Am Go.Cl
set_option maxRecDepth 100000
variable {P : Program} {G : Nat → Option V}
end Go.Proofs.YtingdebioipemaaDoor
/- Contracts: the document's side of clauses: what follows by clauses of one literal. -/
namespace Go.Proofs.YtingdebioipemaaDoor
open Go Go.Am Go.Cl
set_option maxRecDepth 100000
variable {P : Program} {G : Nat → Option V}
end Go.Proofs.YtingdebioipemaaDoor
