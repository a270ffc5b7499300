/- Contracts: rows cut down. -/
import Derived.Test.YtpepmhmgfpkdmaaCw3
namespace Go.Proofs.Ytpepmhmgfpkdmaa
open Go Go.Am Go.Cl
set_option maxRecDepth 100000
variable {P : Program} {G : Nat → Option V}
theorem ints_getDA {c : List Int} {i : Nat} {n : Int} (cs : List V) (h : c[i]? = some n) : (ints c ++ cs).getD i V.any = .int .i64 n := by
  have hl := (List.getElem?_eq_some_iff.1 h).1
  rw [List.getD_eq_getElem?_getD, List.getElem?_append_left (by rw [ints_length]; exact hl), ints_get h]; rfl
theorem c_IndexFuncS (hT : TabOk P tab) {base t : Nat} {o : List (Option Ob)} {f : V} {p : Int → Bool} {c : List Int} (hp : Tells P G base f o p c) (hl : c.length ≤ 9223372036854775807) {k w T : Nat} {lim : Option Nat} {cs : List V} (ho : o[k]? = some (some (.arr w T (ints c ++ cs)))) :
    C P G base n_slices_IndexFunc_int_int [.sl k w 0 1 c.length lim, f] ⟨t, o⟩ fun v σ => v = .int .i64 (fstIdx p c 0) ∧ ∃ t', t ≤ t' ∧ σ = ⟨t', o⟩ := by
  refine C_tab hT t_slices_IndexFunc_int_int (by simp [slices_IndexFunc_int_int]) (W_run 1000 ?_)
  simp -implicitDefEqProofs (disch := omega) only [go_sem, ↓reduceIte, reduceCtorEq, Nat.reduceEqDiff, Nat.zero_add, slices_IndexFunc_int_int, slices_IndexFunc_int_int_r0, slices_IndexFunc_int_int_r1, slices_IndexFunc_int_int_r2, slices_IndexFunc_int_int_r3, slices_IndexFunc_int_int_r4, slices_IndexFunc_int_int_r5, slices_IndexFunc_int_int_r6, slices_IndexFunc_int_int_r7]
  refine sem_invE (fun m fr σ => ∃ i t', i ≤ c.length ∧ m = c.length - i ∧ (∀ n ∈ c.take i, p n = false) ∧ t ≤ t' ∧ fget fr 0 = .sl k w 0 1 c.length lim ∧ fget fr 1 = f ∧ fget fr 7 = .int .i64 c.length ∧ fget fr 8 = .int .i64 i ∧ σ = ⟨t', o⟩)
    (fun e fr σ => ∃ t', t ≤ t' ∧ σ = ⟨t', o⟩ ∧ ((e = .ret ∧ fget fr 4 = .int .i64 (fstIdx p c 0)) ∨ (e = .ex 0 ∧ fstIdx p c 0 = -1)))
    (m0 := c.length) ⟨0, t, by omega, rfl, by simp, by omega, ?_⟩ (fun m fr σ hJ => ?_) (fun e fr σ hE => ?_)
  · simp -implicitDefEqProofs (disch := omega) only [go_sem, ↓reduceIte, reduceCtorEq, Nat.reduceEqDiff]
    simp
  · obtain ⟨i, t', hi, rfl, hno, ht, f0, f1, f7, f8, rfl⟩ := hJ
    refine W_run 1000 ?_
    rcases Nat.lt_or_ge i c.length with hlt | hge
    · obtain ⟨n, hni⟩ : ∃ n, c[i]? = some n := ⟨_, List.getElem?_eq_getElem hlt⟩
      have hD := ints_getDA cs hni
      have e2 := wnext hlt hl
      simp -implicitDefEqProofs (disch := omega) only [go_sem, need_of, ↓reduceIte, reduceCtorEq, Nat.reduceEqDiff, Nat.succ_ne_zero, Nat.zero_add, Nat.mul_one, decide_true, ints_length, ho, List.length_append, f0, f1, f7, f8, hlt, hD]
      refine CV.use 1000 (hp t' n (List.mem_of_getElem? hni)) fun v σ hv => ?_
      obtain ⟨rfl, t2, ht2, rfl⟩ := hv
      cases hpn : p n with
      | true =>
        simp -implicitDefEqProofs (disch := omega) only [go_sem, ↓reduceIte, reduceCtorEq, Nat.reduceEqDiff]
        rw [fstIdx_at hno hni hpn]
        exact ⟨t2, by omega, rfl, by simp⟩
      | false =>
        simp -implicitDefEqProofs (disch := omega) only [go_sem, ↓reduceIte, Nat.reduceEqDiff, f8]
        refine ⟨c.length - (i + 1), _, _, by omega, Shift.refl _ _ _ _, i + 1, t2, by omega, rfl, fun m hm => ?_, by omega, ?_⟩
        · rw [take_snoc hni] at hm
          simp at hm
          rcases hm with hm | rfl
          · exact hno m hm
          · exact hpn
        · simp -implicitDefEqProofs (disch := omega) only [go_sem, ↓reduceIte, reduceCtorEq, Nat.reduceEqDiff, Nat.succ_ne_zero, f0, f1, f7, e2]
    · have hi : i = c.length := by omega
      subst hi
      simp -implicitDefEqProofs (disch := omega) only [go_sem, ↓reduceIte, reduceCtorEq, Nat.reduceEqDiff, decide_false, f7, f8, Nat.lt_irrefl]
      rw [List.take_length] at hno
      exact ⟨t', ht, rfl, fstIdx_neg hno⟩
  · obtain ⟨t', ht, rfl, hE⟩ := hE
    rcases hE with ⟨rfl, f4⟩ | ⟨rfl, hh⟩
    · refine run_sem 1000 ?_
      simp -implicitDefEqProofs (disch := omega) only [go_sem, f4]
      exact ⟨t', ht, rfl⟩
    · refine run_sem 1000 ?_
      simp -implicitDefEqProofs (disch := omega) only [go_sem, ↓reduceIte, hh]
      exact ⟨t', ht, rfl⟩


theorem set_snoc {α : Type} (o : List α) (x y : α) : (o ++ [x]).set o.length y = o ++ [y] := by simp
theorem firstHit {p : Int → Bool} : ∀ {c : List Int}, ¬ (∀ n ∈ c, p n = false) → ∃ k n, c[k]? = some n ∧ p n = true ∧ ∀ m ∈ c.take k, p m = false
  | [], h => absurd (by simp) h
  | a :: c, h => by
    cases ha : p a with
    | true => exact ⟨0, a, rfl, ha, by simp⟩
    | false =>
      obtain ⟨k, n, h1, h2, h3⟩ := firstHit (c := c) fun hh => h fun n hn => by
        simp only [List.mem_cons] at hn
        rcases hn with rfl | hn
        · exact ha
        · exact hh n hn
      exact ⟨k + 1, n, by simpa using h1, h2, fun m hm => by
        simp only [List.take_succ_cons, List.mem_cons] at hm
        rcases hm with rfl | hm
        · exact ha
        · exact h3 m hm⟩
theorem filter_all {p : Int → Bool} {c : List Int} (h : ∀ m ∈ c, p m = false) : c.filter (fun n => !p n) = c := List.filter_eq_self.2 fun n hn => by simp [h n hn]

theorem c_DeleteFunc (hT : TabOk P tab) {base t g w : Nat} {o : List (Option Ob)} {cap : List V} {p : Int → Bool} {c : List Int} (hb : base ≤ o.length) (hp : ∀ w' cells, Tells P G base (.fn (.func g) [] cap) (o ++ [some (.arr w' 3 cells)]) p c) (hl : c.length ≤ 1000000) :
    C P G base n_slices_DeleteFunc_int_int [.sl o.length w 0 1 c.length none, .fn (.func g) [] cap] ⟨t, o ++ [some (.arr w 3 (ints c))]⟩ fun v σ => ∃ t' cells, t ≤ t' ∧ namelessL cells = true ∧ v = .sl o.length w 0 1 (c.filter fun n => !p n).length none ∧ σ = ⟨t', o ++ [some (.arr w 3 (ints (c.filter fun n => !p n) ++ cells))]⟩ := by
  refine C_tab hT t_slices_DeleteFunc_int_int (by simp [slices_DeleteFunc_int_int]) (W_run 1000 ?_)
  simp -implicitDefEqProofs (disch := omega) only [go_sem, ↓reduceIte, reduceCtorEq, Nat.reduceEqDiff, Nat.zero_add, slices_DeleteFunc_int_int, slices_DeleteFunc_int_int_r0, slices_DeleteFunc_int_int_r1, slices_DeleteFunc_int_int_r2, slices_DeleteFunc_int_int_r3, slices_DeleteFunc_int_int_r4, slices_DeleteFunc_int_int_r5, slices_DeleteFunc_int_int_r6, slices_DeleteFunc_int_int_r7, slices_DeleteFunc_int_int_r8, slices_DeleteFunc_int_int_r9, slices_DeleteFunc_int_int_r10, slices_DeleteFunc_int_int_r11, slices_DeleteFunc_int_int_r12]
  refine call hT t_slices_IndexFunc_int_int (c_IndexFuncS hT (hp _ _) (by omega) (k := o.length) (w := w) (T := 3) (cs := []) (by simp)) 1000 fun v σ hv => ?_
  obtain ⟨rfl, t1, ht1, rfl⟩ := hv
  by_cases hn : ∀ n ∈ c, p n = false
  · rw [fstIdx_neg hn]
    have hf : c.filter (fun n => !p n) = c := List.filter_eq_self.2 fun n h => by simp [hn n h]
    rw [hf]
    simp -implicitDefEqProofs (disch := omega) only [go_sem, ↓reduceIte, reduceCtorEq, Nat.reduceEqDiff, beq_self_eq_true]
    exact ⟨t1, [], ht1, rfl, rfl, by simp⟩
  · obtain ⟨k, n, hk, hpn, hno⟩ : ∃ k n, c[k]? = some n ∧ p n = true ∧ ∀ m ∈ c.take k, p m = false := firstHit hn
    have hkl := (List.getElem?_eq_some_iff.1 hk).1
    rw [fstIdx_at hno hk hpn, Nat.zero_add]
    have e1 := wnext hkl (by omega)
    have hk1 : ((k : Int) == -1) = false := by rw [beq_eq_false_iff_ne]; omega
    simp -implicitDefEqProofs (disch := omega) only [go_sem, ↓reduceIte, reduceCtorEq, Nat.reduceEqDiff, hk1, e1]
    refine sem_invE (fun m fr σ => ∃ j t' L q, q = (c.take j).filter (fun n => !p n) ∧ j ≤ c.length ∧ m = c.length - j ∧ q.length < j ∧ L.length = c.length ∧ L.take q.length = ints q ∧ L.drop j = ints (c.drop j) ∧ t ≤ t' ∧ fget fr 0 = .sl o.length w 0 1 c.length none ∧ fget fr 1 = .fn (.func g) [] cap ∧ fget fr 5 = .int .i64 q.length ∧ fget fr 6 = .int .i64 j ∧ σ = ⟨t', o ++ [some (.arr w 3 L)]⟩)
      (fun e fr σ => ∃ t' L q, q = c.filter (fun n => !p n) ∧ t ≤ t' ∧ e = .ex 0 ∧ q.length < c.length ∧ L.length = c.length ∧ L.take q.length = ints q ∧ fget fr 0 = .sl o.length w 0 1 c.length none ∧ fget fr 1 = .fn (.func g) [] cap ∧ fget fr 5 = .int .i64 q.length ∧ σ = ⟨t', o ++ [some (.arr w 3 L)]⟩)
      (m0 := c.length - (k + 1)) ⟨k + 1, t1, ints c, c.take k, ?_, by omega, rfl, ?_, ints_length c, ?_, ?_, ht1, ?_⟩ (fun m fr σ hJ => ?_) (fun e fr σ hE => ?_)
    · rw [take_snoc hk, List.filter_append, filter_all hno]
      simp [hpn]
    · simp; omega
    · rw [List.length_take, Nat.min_eq_left (by omega)]; simp [ints, List.map_take]
    · simp [ints, List.map_drop]
    · simp -implicitDefEqProofs (disch := omega) only [go_sem, ↓reduceIte, reduceCtorEq, Nat.reduceEqDiff, List.length_take, Nat.min_eq_left (Nat.le_of_lt hkl)]
      try simp
    · obtain ⟨j, t', L, q, hq, hj, rfl, hij, hL, hL1, hL2, ht, f0, f1, f5, f6, rfl⟩ := hJ
      refine W_run 1000 ?_
      rcases Nat.lt_or_ge j c.length with hlt | hge
      · obtain ⟨n, hnj⟩ : ∃ n, c[j]? = some n := ⟨_, List.getElem?_eq_getElem hlt⟩
        have hD : L.getD j V.any = .int .i64 n := by
          have := congrArg (fun l => l[0]?) hL2
          simp only [List.getElem?_drop, Nat.add_zero, ints, List.map_drop, List.getElem?_map, hnj] at this
          rw [List.getD_eq_getElem?_getD, this]; rfl
        have hdn : L.drop (j + 1) = ints (c.drop (j + 1)) := by
          rw [← List.drop_drop, hL2]; simp only [ints, List.map_drop, List.drop_drop]
        have e2 := wnext hlt (by omega)
        have e3 := wnext (i := q.length) (n := c.length) (by omega) (by omega)
        simp -implicitDefEqProofs (disch := omega) only [go_sem, need_of, ↓reduceIte, reduceCtorEq, Nat.reduceEqDiff, Nat.succ_ne_zero, Nat.zero_add, Nat.mul_one, decide_true, List.getElem?_concat_length, f0, f1, f6, hlt, hD, hL]
        refine CV.use 1000 (hp w L t' n (List.mem_of_getElem? hnj)) fun v σ hv => ?_
        obtain ⟨rfl, t2, ht2, rfl⟩ := hv
        cases hpn : p n with
        | true =>
          simp -implicitDefEqProofs (disch := omega) only [go_sem, ↓reduceIte, Nat.reduceEqDiff, Bool.not_true, f6, e2]
          refine ⟨c.length - (j + 1), _, _, by omega, Shift.refl _ _ _ _, j + 1, t2, L, q, ?_, by omega, rfl, by omega, hL, hL1, hdn, by omega, ?_⟩
          · rw [take_snoc hnj, List.filter_append, ← hq]; simp [hpn]
          · simp -implicitDefEqProofs (disch := omega) only [go_sem, ↓reduceIte, reduceCtorEq, Nat.reduceEqDiff, Nat.succ_ne_zero, f0, f1, f5]
        | false =>
          simp -implicitDefEqProofs (disch := omega) only [go_sem, need_of, ↓reduceIte, reduceCtorEq, Nat.reduceEqDiff, Nat.succ_ne_zero, Nat.zero_add, Nat.mul_one, Bool.not_false, List.getElem?_concat_length, set_snoc, f0, f5, f6, hL]
          have hql : q.length < L.length := by omega
          have hset : L.take q.length ++ [V.int .i64 n] ++ L.drop (q.length + 1) = L.set q.length (.int .i64 n) := by rw [List.set_eq_take_append_cons_drop, if_pos hql]; simp
          refine ⟨c.length - (j + 1), _, _, by omega, Shift.refl _ _ _ _, j + 1, t2, L.set q.length (.int .i64 n), q ++ [n], ?_, by omega, rfl, ?_, ?_, ?_, ?_, by omega, ?_⟩
          · rw [take_snoc hnj, List.filter_append, ← hq]; simp [hpn]
          · simp; omega
          · simpa using hL
          · rw [List.length_append, List.length_singleton, take_snoc (x := V.int .i64 n) (by simp [hql]), List.take_set_of_le (Nat.le_refl _), hL1]; simp [ints]
          · rw [List.drop_set_of_lt (by omega)]; exact hdn
          · simp -implicitDefEqProofs (disch := omega) only [go_sem, ↓reduceIte, reduceCtorEq, Nat.reduceEqDiff, Nat.succ_ne_zero, f0, f1, e2, e3, List.length_append, List.length_singleton, hset]
      · have hi : j = c.length := by omega
        subst hi
        simp -implicitDefEqProofs (disch := omega) only [go_sem, ↓reduceIte, reduceCtorEq, Nat.reduceEqDiff, Nat.succ_ne_zero, decide_false, f0, f1, f5, f6, Nat.lt_irrefl]
        rw [List.take_length] at hq
        exact ⟨t', L, q, hq, ht, hij, hL, hL1, rfl, rfl, rfl⟩
    · obtain ⟨t', L, q, hq, ht, rfl, hlt, hL, hL1, f0, f1, f5, rfl⟩ := hE
      refine run_sem 1000 ?_
      simp -implicitDefEqProofs (disch := omega) only [go_sem, need_of, ↓reduceIte, Nat.reduceEqDiff, Nat.zero_add, Nat.mul_one, Bool.not_false, f0, f5]
      simp only [evW]
      simp -implicitDefEqProofs (disch := omega) only [go_sem, need_of, ↓reduceIte, reduceCtorEq, Nat.reduceEqDiff, Nat.succ_ne_zero, Nat.add_zero, Nat.mul_one, List.getElem?_concat_length, set_snoc, f0, f5, hL]
      have hrep : (List.replicate (c.length - q.length) [V.int .i64 0]).flatten = ints (List.replicate (c.length - q.length) 0) := by
        generalize c.length - q.length = k
        induction k with
        | zero => rfl
        | succ k ih => rw [List.replicate_succ, List.flatten_cons, ih, List.replicate_succ]; rfl
      have hdr : L.drop (q.length + (ints (List.replicate (c.length - q.length) 0)).length) = [] := List.drop_eq_nil_of_le (by rw [ints_length, List.length_replicate]; omega)
      exact ⟨t', ints (List.replicate (c.length - q.length) 0), ht, ints_nameless _, by rw [← hq]; rfl, rfl, by rw [hL1, ← hq, hrep, hdr, List.append_nil]⟩
end Go.Proofs.Ytpepmhmgfpkdmaa

