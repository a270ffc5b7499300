/- Contracts: all of a row; what is known of literals; copies. -/
import Derived.Test.YtingdebioipemaaDoorJ1
import Derived.Test.YtingdebioipemaaDoorAmD
/- Contracts: all of a row; what is known of literals; copies. -/
namespace Go.Proofs.YtingdebioipemaaDoor
open Go Go.Am Go.Cl
set_option maxRecDepth 100000
variable {P : Program} {G : Nat → Option V}
theorem get_ext {o ex : List (Option Ob)} {k : Nat} {x : Option Ob} (h : o[k]? = some x) : (o ++ ex)[k]? = some x := by
  have := (List.getElem?_eq_some_iff.1 h).1
  rw [List.getElem?_append_left this]; exact h
theorem c_not (hT : TabOk P tab) {base tb : Nat} {o : List (Option Ob)} {f : V} {p : Int → Bool} {c : List Int} {k T : Nat} (ho : o[k]? = some (some (.arr tb T [f]))) (hp : Tells P G base f o p c) :
    Tells P G base (.fn (.func n_clause_all_int__S1) [] [.ptr k tb 0]) o (fun n => !p n) c := fun t n hn => by
  refine CV.of hT t_clause_all_int__S1 (C_tab hT t_clause_all_int__S1 (by simp [clause_all_int__S1]) (W_run 1000 ?_))
  simp -implicitDefEqProofs (disch := omega) only [go_sem, ↓reduceIte, reduceCtorEq, Nat.reduceEqDiff, Nat.zero_add, Nat.le_refl, clause_all_int__S1, zq1h_0, zq1h_1, ho]
  refine CV.use 1000 (hp t n hn) fun v σ hv => ?_
  obtain ⟨rfl, t', ht, rfl⟩ := hv
  simp -implicitDefEqProofs (disch := omega) only [go_sem, ↓reduceIte, reduceCtorEq, Nat.reduceEqDiff]
  exact ⟨t', ht, rfl⟩
theorem c_Clone (hT : TabOk P tab) {base t : Nat} {o : List (Option Ob)} (c : List Int) (hl : c.length ≤ 1000000) :
    C P G base n_slices_Clone_int_int [.lst 1 (ints c) false] ⟨t, o⟩ fun v σ => ∃ t' w, t ≤ t' ∧ v = .sl o.length w 0 1 c.length none ∧ σ = ⟨t', o ++ [some (.arr w 3 (ints c))]⟩ := by
  refine C_own 1 3 (Q := fun v σ => (v = .sl o.length t 0 1 c.length none ∧ σ = ⟨t + 1, o ++ [some (.arr t 3 (ints c))]⟩) ∨ (c = [] ∧ v = .lst 0 [] true ∧ σ = ⟨t, o⟩)) ?_ fun v σ hv => ?_
  · refine C_tab hT t_slices_Clone_int_int (by simp [slices_Clone_int_int]) (W_run 1000 ?_)
    have hfl : ((ints c).map V.cells).flatten = ints c := by
      clear hl
      induction c with
      | nil => rfl
      | cons n c ih => simp only [ints, List.map_cons, List.flatten_cons] at ih ⊢; rw [ih]; rfl
    simp -implicitDefEqProofs (disch := omega) only [go_sem, need_of, ↓reduceIte, reduceCtorEq, Nat.reduceEqDiff, Nat.zero_add, Bool.not_false, slices_Clone_int_int, zqn_0, zqn_1, zqn_2, zqn_3, hfl, ints_length]
    cases c with
    | nil => exact rfl
    | cons n c => exact trivial
  · rcases hv with ⟨rfl, rfl⟩ | ⟨rfl, rfl, rfl⟩
    · exact .inl ⟨_, _, by omega, rfl, rfl⟩
    · exact .inr ⟨0, rfl, _, _, Nat.le_succ _, rfl, rfl⟩
def kn (S : List Int) : List (V × V) := im .i64 (fun _ => .int .i64 1) S
theorem kn_get (S : List Int) (n : Int) : (mget [Kd.i] (V.int .i64 n) (im .i64 (fun _ => V.int .i64 1) S)).getD (V.int .i64 0) = .int .i64 (if n ∈ S then 1 else 0) := by
  rw [mget_im]; split <;> rfl
theorem kn_pos (b : Prop) [Decidable b] : decide ((0 : Int) < if b then 1 else 0) = decide b := by split <;> simp [*]
theorem wneg64 {n : Int} (h : -9223372036854775808 ≤ n ∧ n ≤ 9223372036854775807) : IntKind.i64.wrap (0 - n) = neg n := by
  unfold neg
  split
  · rename_i e; subst e; decide
  · rw [wrap_id] <;> (try omega)
    all_goals (first | (simp [IntKind.min, IntKind.signed, IntKind.bits]; omega) | (simp [IntKind.max, IntKind.signed, IntKind.bits]; omega))
theorem k_clause_Units_S1 (hT : TabOk P tab) {base kb tb T km vm : Nat} {o : List (Option Ob)} {S c : List Int} (h1 : o[kb]? = some (some (.arr tb T [.mp km vm]))) (h2 : o[km]? = some (some (.map vm (kn S)))) :
    Tells P G base (.fn (.func n_clause_Units_S1) [] [.ptr kb tb 0]) o (fun n => decide (n ∈ S)) c := fun t n hn => by
  refine CV.of hT t_clause_Units_S1 (C_tab hT t_clause_Units_S1 (by simp [clause_Units_S1]) (W_run 1000 ?_))
  have h3 := keysOk_im .i64 (fun _ => .int .i64 1) S n
  have h4 := kn_get S n
  simp -implicitDefEqProofs (disch := omega) only [go_sem, need_of, ↓reduceIte, reduceCtorEq, Nat.reduceEqDiff, Nat.zero_add, Nat.le_refl, gt_iff_lt, clause_Units_S1, zql_0, zql_1, h1, h2, kn, h4, kn_pos]
  exact ⟨t, Nat.le_refl _, rfl⟩
theorem k_clause_Assign_S2 (hT : TabOk P tab) {base kb tb T km vm : Nat} {o : List (Option Ob)} {S c : List Int} (h1 : o[kb]? = some (some (.arr tb T [.mp km vm]))) (h2 : o[km]? = some (some (.map vm (kn S)))) :
    Tells P G base (.fn (.func n_clause_Assign_S2) [] [.ptr kb tb 0]) o (fun n => decide (n ∈ S)) c := fun t n hn => by
  refine CV.of hT t_clause_Assign_S2 (C_tab hT t_clause_Assign_S2 (by simp [clause_Assign_S2]) (W_run 1000 ?_))
  have h3 := keysOk_im .i64 (fun _ => .int .i64 1) S n
  have h4 := kn_get S n
  simp -implicitDefEqProofs (disch := omega) only [go_sem, need_of, ↓reduceIte, reduceCtorEq, Nat.reduceEqDiff, Nat.zero_add, Nat.le_refl, gt_iff_lt, clause_Assign_S2, zqz_0, zqz_1, h1, h2, kn, h4, kn_pos]
  exact ⟨t, Nat.le_refl _, rfl⟩
theorem k_clause_Units_S2 (hT : TabOk P tab) {base kb tb T km vm : Nat} {o : List (Option Ob)} {S c : List Int} (hc : ∀ n ∈ c, -9223372036854775808 ≤ n ∧ n ≤ 9223372036854775807) (h1 : o[kb]? = some (some (.arr tb T [.mp km vm]))) (h2 : o[km]? = some (some (.map vm (kn S)))) :
    Tells P G base (.fn (.func n_clause_Units_S2) [] [.ptr kb tb 0]) o (fun n => decide ((neg n) ∈ S)) c := fun t n hn => by
  refine CV.of hT t_clause_Units_S2 (C_tab hT t_clause_Units_S2 (by simp [clause_Units_S2]) (W_run 1000 ?_))
  have h3 := keysOk_im .i64 (fun _ => .int .i64 1) S (neg n)
  have h4 := kn_get S (neg n)
  have h5 := wneg64 (hc n hn)
  simp -implicitDefEqProofs (disch := omega) only [go_sem, need_of, ↓reduceIte, reduceCtorEq, Nat.reduceEqDiff, Nat.zero_add, Nat.le_refl, gt_iff_lt, clause_Units_S2, zqo_0, zqo_1, h1, h2, kn, h4, kn_pos, h5]
  exact ⟨t, Nat.le_refl _, rfl⟩
theorem k_clause_Assign_S1 (hT : TabOk P tab) {base kb tb T km vm : Nat} {o : List (Option Ob)} {S c : List Int} (hc : ∀ n ∈ c, -9223372036854775808 ≤ n ∧ n ≤ 9223372036854775807) (h1 : o[kb]? = some (some (.arr tb T [.mp km vm]))) (h2 : o[km]? = some (some (.map vm (kn S)))) :
    Tells P G base (.fn (.func n_clause_Assign_S1) [] [.ptr kb tb 0]) o (fun n => decide ((neg n) ∈ S)) c := fun t n hn => by
  refine CV.of hT t_clause_Assign_S1 (C_tab hT t_clause_Assign_S1 (by simp [clause_Assign_S1]) (W_run 1000 ?_))
  have h3 := keysOk_im .i64 (fun _ => .int .i64 1) S (neg n)
  have h4 := kn_get S (neg n)
  have h5 := wneg64 (hc n hn)
  simp -implicitDefEqProofs (disch := omega) only [go_sem, need_of, ↓reduceIte, reduceCtorEq, Nat.reduceEqDiff, Nat.zero_add, Nat.le_refl, gt_iff_lt, clause_Assign_S1, zqy_0, zqy_1, h1, h2, kn, h4, kn_pos, h5]
  exact ⟨t, Nat.le_refl _, rfl⟩
theorem k_clause_Assign_S3 (hT : TabOk P tab) {base kb tb T km vm : Nat} {o : List (Option Ob)} {S c : List Int} (hc : ∀ n ∈ c, -9223372036854775808 ≤ n ∧ n ≤ 9223372036854775807) (h1 : o[kb]? = some (some (.arr tb T [.mp km vm]))) (h2 : o[km]? = some (some (.map vm (kn S)))) :
    Tells P G base (.fn (.func n_clause_Assign_S3) [] [.ptr kb tb 0]) o (fun n => decide ((neg n) ∈ S)) c := fun t n hn => by
  refine CV.of hT t_clause_Assign_S3 (C_tab hT t_clause_Assign_S3 (by simp [clause_Assign_S3]) (W_run 1000 ?_))
  have h3 := keysOk_im .i64 (fun _ => .int .i64 1) S (neg n)
  have h4 := kn_get S (neg n)
  have h5 := wneg64 (hc n hn)
  simp -implicitDefEqProofs (disch := omega) only [go_sem, need_of, ↓reduceIte, reduceCtorEq, Nat.reduceEqDiff, Nat.zero_add, Nat.le_refl, gt_iff_lt, clause_Assign_S3, zq10_0, zq10_1, h1, h2, kn, h4, kn_pos, h5]
  exact ⟨t, Nat.le_refl _, rfl⟩
end Go.Proofs.YtingdebioipemaaDoor
/- Contracts: rows cut down. -/
namespace Go.Proofs.YtingdebioipemaaDoor
open Go Go.Am Go.Cl
set_option maxRecDepth 100000
variable {P : Program} {G : Nat → Option V}
theorem ints_getDA {c : List Int} {i : Nat} {n : Int} (cs : List V) (h : c[i]? = some n) : (ints c ++ cs).getD i V.any = .int .i64 n := by
  have hl := (List.getElem?_eq_some_iff.1 h).1
  rw [List.getD_eq_getElem?_getD, List.getElem?_append_left (by rw [ints_length]; exact hl), ints_get h]; rfl
theorem c_IndexFuncS (hT : TabOk P tab) {base t : Nat} {o : List (Option Ob)} {f : V} {p : Int → Bool} {c : List Int} (hp : Tells P G base f o p c) (hl : c.length ≤ 9223372036854775807) {k w T : Nat} {lim : Option Nat} {cs : List V} (ho : o[k]? = some (some (.arr w T (ints c ++ cs)))) :
    C P G base n_slices_IndexFunc_int_int [.sl k w 0 1 c.length lim, f] ⟨t, o⟩ fun v σ => v = .int .i64 (fstIdx p c 0) ∧ ∃ t', t ≤ t' ∧ σ = ⟨t', o⟩ := by
  refine C_tab hT t_slices_IndexFunc_int_int (by simp [slices_IndexFunc_int_int]) (W_run 1000 ?_)
  simp -implicitDefEqProofs (disch := omega) only [go_sem, ↓reduceIte, reduceCtorEq, Nat.reduceEqDiff, Nat.zero_add, slices_IndexFunc_int_int, zq1g_0, zq1g_1, zq1g_2, zq1g_3, zq1g_4, zq1g_5, zq1g_6, zq1g_7]
  refine sem_invE (fun m fr σ => ∃ i t', i ≤ c.length ∧ m = c.length - i ∧ (∀ n ∈ c.take i, p n = false) ∧ t ≤ t' ∧ fget fr 0 = .sl k w 0 1 c.length lim ∧ fget fr 1 = f ∧ fget fr 7 = .int .i64 c.length ∧ fget fr 8 = .int .i64 i ∧ σ = ⟨t', o⟩)
    (fun e fr σ => ∃ t', t ≤ t' ∧ σ = ⟨t', o⟩ ∧ ((e = .ret ∧ fget fr 4 = .int .i64 (fstIdx p c 0)) ∨ (e = .ex 0 ∧ fstIdx p c 0 = -1)))
    (m0 := c.length) ⟨0, t, by omega, rfl, by simp, by omega, ?_⟩ (fun m fr σ hJ => ?_) (fun e fr σ hE => ?_)
  · simp -implicitDefEqProofs (disch := omega) only [go_sem, ↓reduceIte, reduceCtorEq, Nat.reduceEqDiff]
    simp
  · obtain ⟨i, t', hi, rfl, hno, ht, f0, f1, f7, f8, rfl⟩ := hJ
    refine W_run 1000 ?_
    rcases Nat.lt_or_ge i c.length with hlt | hge
    · obtain ⟨n, hni⟩ : ∃ n, c[i]? = some n := ⟨_, List.getElem?_eq_getElem hlt⟩
      have hD := ints_getDA cs hni
      have e2 := wnext hlt hl
      simp -implicitDefEqProofs (disch := omega) only [go_sem, need_of, ↓reduceIte, reduceCtorEq, Nat.reduceEqDiff, Nat.succ_ne_zero, Nat.zero_add, Nat.mul_one, decide_true, ints_length, ho, List.length_append, f0, f1, f7, f8, hlt, hD]
      refine CV.use 1000 (hp t' n (List.mem_of_getElem? hni)) fun v σ hv => ?_
      obtain ⟨rfl, t2, ht2, rfl⟩ := hv
      cases hpn : p n with
      | true =>
        simp -implicitDefEqProofs (disch := omega) only [go_sem, ↓reduceIte, reduceCtorEq, Nat.reduceEqDiff]
        rw [fstIdx_at hno hni hpn]
        exact ⟨t2, by omega, rfl, by simp⟩
      | false =>
        simp -implicitDefEqProofs (disch := omega) only [go_sem, ↓reduceIte, Nat.reduceEqDiff, f8]
        refine ⟨c.length - (i + 1), _, _, by omega, Shift.refl _ _ _ _, i + 1, t2, by omega, rfl, fun m hm => ?_, by omega, ?_⟩
        · rw [take_snoc hni] at hm
          simp at hm
          rcases hm with hm | rfl
          · exact hno m hm
          · exact hpn
        · simp -implicitDefEqProofs (disch := omega) only [go_sem, ↓reduceIte, reduceCtorEq, Nat.reduceEqDiff, Nat.succ_ne_zero, f0, f1, f7, e2]
    · have hi : i = c.length := by omega
      subst hi
      simp -implicitDefEqProofs (disch := omega) only [go_sem, ↓reduceIte, reduceCtorEq, Nat.reduceEqDiff, decide_false, f7, f8, Nat.lt_irrefl]
      rw [List.take_length] at hno
      exact ⟨t', ht, rfl, fstIdx_neg hno⟩
  · obtain ⟨t', ht, rfl, hE⟩ := hE
    rcases hE with ⟨rfl, f4⟩ | ⟨rfl, hh⟩
    · refine run_sem 1000 ?_
      simp -implicitDefEqProofs (disch := omega) only [go_sem, f4]
      exact ⟨t', ht, rfl⟩
    · refine run_sem 1000 ?_
      simp -implicitDefEqProofs (disch := omega) only [go_sem, ↓reduceIte, hh]
      exact ⟨t', ht, rfl⟩
theorem set_snoc {α : Type} (o : List α) (x y : α) : (o ++ [x]).set o.length y = o ++ [y] := by simp
theorem firstHit {p : Int → Bool} : ∀ {c : List Int}, ¬ (∀ n ∈ c, p n = false) → ∃ k n, c[k]? = some n ∧ p n = true ∧ ∀ m ∈ c.take k, p m = false
  | [], h => absurd (by simp) h
  | a :: c, h => by
    cases ha : p a with
    | true => exact ⟨0, a, rfl, ha, by simp⟩
    | false =>
      obtain ⟨k, n, h1, h2, h3⟩ := firstHit (c := c) fun hh => h fun n hn => by
        simp only [List.mem_cons] at hn
        rcases hn with rfl | hn
        · exact ha
        · exact hh n hn
      exact ⟨k + 1, n, by simpa using h1, h2, fun m hm => by
        simp only [List.take_succ_cons, List.mem_cons] at hm
        rcases hm with rfl | hm
        · exact ha
        · exact h3 m hm⟩
theorem filter_all {p : Int → Bool} {c : List Int} (h : ∀ m ∈ c, p m = false) : c.filter (fun n => !p n) = c := List.filter_eq_self.2 fun n hn => by simp [h n hn]
theorem c_DeleteFunc (hT : TabOk P tab) {base t g w : Nat} {o : List (Option Ob)} {cap : List V} {p : Int → Bool} {c : List Int} (hb : base ≤ o.length) (hp : ∀ w' cells, Tells P G base (.fn (.func g) [] cap) (o ++ [some (.arr w' 3 cells)]) p c) (hl : c.length ≤ 1000000) :
    C P G base n_slices_DeleteFunc_int_int [.sl o.length w 0 1 c.length none, .fn (.func g) [] cap] ⟨t, o ++ [some (.arr w 3 (ints c))]⟩ fun v σ => ∃ t' cells, t ≤ t' ∧ namelessL cells = true ∧ v = .sl o.length w 0 1 (c.filter fun n => !p n).length none ∧ σ = ⟨t', o ++ [some (.arr w 3 (ints (c.filter fun n => !p n) ++ cells))]⟩ := by
  refine C_tab hT t_slices_DeleteFunc_int_int (by simp [slices_DeleteFunc_int_int]) (W_run 1000 ?_)
  simp -implicitDefEqProofs (disch := omega) only [go_sem, ↓reduceIte, reduceCtorEq, Nat.reduceEqDiff, Nat.zero_add, slices_DeleteFunc_int_int, zqm_0, zqm_1, zqm_2, zqm_3, zqm_4, zqm_5, zqm_6, zqm_7, zqm_8, zqm_9, zqm_10, zqm_11, zqm_12]
  refine call hT t_slices_IndexFunc_int_int (c_IndexFuncS hT (hp _ _) (by omega) (k := o.length) (w := w) (T := 3) (cs := []) (by simp)) 1000 fun v σ hv => ?_
  obtain ⟨rfl, t1, ht1, rfl⟩ := hv
  by_cases hn : ∀ n ∈ c, p n = false
  · rw [fstIdx_neg hn]
    have hf : c.filter (fun n => !p n) = c := List.filter_eq_self.2 fun n h => by simp [hn n h]
    rw [hf]
    simp -implicitDefEqProofs (disch := omega) only [go_sem, ↓reduceIte, reduceCtorEq, Nat.reduceEqDiff, beq_self_eq_true]
    exact ⟨t1, [], ht1, rfl, rfl, by simp⟩
  · obtain ⟨k, n, hk, hpn, hno⟩ : ∃ k n, c[k]? = some n ∧ p n = true ∧ ∀ m ∈ c.take k, p m = false := firstHit hn
    have hkl := (List.getElem?_eq_some_iff.1 hk).1
    rw [fstIdx_at hno hk hpn, Nat.zero_add]
    have e1 := wnext hkl (by omega)
    have hk1 : ((k : Int) == -1) = false := by rw [beq_eq_false_iff_ne]; omega
    simp -implicitDefEqProofs (disch := omega) only [go_sem, ↓reduceIte, reduceCtorEq, Nat.reduceEqDiff, hk1, e1]
    refine sem_invE (fun m fr σ => ∃ j t' L q, q = (c.take j).filter (fun n => !p n) ∧ j ≤ c.length ∧ m = c.length - j ∧ q.length < j ∧ L.length = c.length ∧ L.take q.length = ints q ∧ L.drop j = ints (c.drop j) ∧ t ≤ t' ∧ fget fr 0 = .sl o.length w 0 1 c.length none ∧ fget fr 1 = .fn (.func g) [] cap ∧ fget fr 5 = .int .i64 q.length ∧ fget fr 6 = .int .i64 j ∧ σ = ⟨t', o ++ [some (.arr w 3 L)]⟩)
      (fun e fr σ => ∃ t' L q, q = c.filter (fun n => !p n) ∧ t ≤ t' ∧ e = .ex 0 ∧ q.length < c.length ∧ L.length = c.length ∧ L.take q.length = ints q ∧ fget fr 0 = .sl o.length w 0 1 c.length none ∧ fget fr 1 = .fn (.func g) [] cap ∧ fget fr 5 = .int .i64 q.length ∧ σ = ⟨t', o ++ [some (.arr w 3 L)]⟩)
      (m0 := c.length - (k + 1)) ⟨k + 1, t1, ints c, c.take k, ?_, by omega, rfl, ?_, ints_length c, ?_, ?_, ht1, ?_⟩ (fun m fr σ hJ => ?_) (fun e fr σ hE => ?_)
    · rw [take_snoc hk, List.filter_append, filter_all hno]
      simp [hpn]
    · simp; omega
    · rw [List.length_take, Nat.min_eq_left (by omega)]; simp [ints, List.map_take]
    · simp [ints, List.map_drop]
    · simp -implicitDefEqProofs (disch := omega) only [go_sem, ↓reduceIte, reduceCtorEq, Nat.reduceEqDiff, List.length_take, Nat.min_eq_left (Nat.le_of_lt hkl)]
      try simp
    · obtain ⟨j, t', L, q, hq, hj, rfl, hij, hL, hL1, hL2, ht, f0, f1, f5, f6, rfl⟩ := hJ
      refine W_run 1000 ?_
      rcases Nat.lt_or_ge j c.length with hlt | hge
      · obtain ⟨n, hnj⟩ : ∃ n, c[j]? = some n := ⟨_, List.getElem?_eq_getElem hlt⟩
        have hD : L.getD j V.any = .int .i64 n := by
          have := congrArg (fun l => l[0]?) hL2
          simp only [List.getElem?_drop, Nat.add_zero, ints, List.map_drop, List.getElem?_map, hnj] at this
          rw [List.getD_eq_getElem?_getD, this]; rfl
        have hdn : L.drop (j + 1) = ints (c.drop (j + 1)) := by
          rw [← List.drop_drop, hL2]; simp only [ints, List.map_drop, List.drop_drop]
        have e2 := wnext hlt (by omega)
        have e3 := wnext (i := q.length) (n := c.length) (by omega) (by omega)
        simp -implicitDefEqProofs (disch := omega) only [go_sem, need_of, ↓reduceIte, reduceCtorEq, Nat.reduceEqDiff, Nat.succ_ne_zero, Nat.zero_add, Nat.mul_one, decide_true, List.getElem?_concat_length, f0, f1, f6, hlt, hD, hL]
        refine CV.use 1000 (hp w L t' n (List.mem_of_getElem? hnj)) fun v σ hv => ?_
        obtain ⟨rfl, t2, ht2, rfl⟩ := hv
        cases hpn : p n with
        | true =>
          simp -implicitDefEqProofs (disch := omega) only [go_sem, ↓reduceIte, Nat.reduceEqDiff, Bool.not_true, f6, e2]
          refine ⟨c.length - (j + 1), _, _, by omega, Shift.refl _ _ _ _, j + 1, t2, L, q, ?_, by omega, rfl, by omega, hL, hL1, hdn, by omega, ?_⟩
          · rw [take_snoc hnj, List.filter_append, ← hq]; simp [hpn]
          · simp -implicitDefEqProofs (disch := omega) only [go_sem, ↓reduceIte, reduceCtorEq, Nat.reduceEqDiff, Nat.succ_ne_zero, f0, f1, f5]
        | false =>
          simp -implicitDefEqProofs (disch := omega) only [go_sem, need_of, ↓reduceIte, reduceCtorEq, Nat.reduceEqDiff, Nat.succ_ne_zero, Nat.zero_add, Nat.mul_one, Bool.not_false, List.getElem?_concat_length, set_snoc, f0, f5, f6, hL]
          have hql : q.length < L.length := by omega
          have hset : L.take q.length ++ [V.int .i64 n] ++ L.drop (q.length + 1) = L.set q.length (.int .i64 n) := by rw [List.set_eq_take_append_cons_drop, if_pos hql]; simp
          refine ⟨c.length - (j + 1), _, _, by omega, Shift.refl _ _ _ _, j + 1, t2, L.set q.length (.int .i64 n), q ++ [n], ?_, by omega, rfl, ?_, ?_, ?_, ?_, by omega, ?_⟩
          · rw [take_snoc hnj, List.filter_append, ← hq]; simp [hpn]
          · simp; omega
          · simpa using hL
          · rw [List.length_append, List.length_singleton, take_snoc (x := V.int .i64 n) (by simp [hql]), List.take_set_of_le (Nat.le_refl _), hL1]; simp [ints]
          · rw [List.drop_set_of_lt (by omega)]; exact hdn
          · simp -implicitDefEqProofs (disch := omega) only [go_sem, ↓reduceIte, reduceCtorEq, Nat.reduceEqDiff, Nat.succ_ne_zero, f0, f1, e2, e3, List.length_append, List.length_singleton, hset]
      · have hi : j = c.length := by omega
        subst hi
        simp -implicitDefEqProofs (disch := omega) only [go_sem, ↓reduceIte, reduceCtorEq, Nat.reduceEqDiff, Nat.succ_ne_zero, decide_false, f0, f1, f5, f6, Nat.lt_irrefl]
        rw [List.take_length] at hq
        exact ⟨t', L, q, hq, ht, hij, hL, hL1, rfl, rfl, rfl⟩
    · obtain ⟨t', L, q, hq, ht, rfl, hlt, hL, hL1, f0, f1, f5, rfl⟩ := hE
      refine run_sem 1000 ?_
      simp -implicitDefEqProofs (disch := omega) only [go_sem, need_of, ↓reduceIte, Nat.reduceEqDiff, Nat.zero_add, Nat.mul_one, Bool.not_false, f0, f5]
      simp only [evW]
      simp -implicitDefEqProofs (disch := omega) only [go_sem, need_of, ↓reduceIte, reduceCtorEq, Nat.reduceEqDiff, Nat.succ_ne_zero, Nat.add_zero, Nat.mul_one, List.getElem?_concat_length, set_snoc, f0, f5, hL]
      have hrep : (List.replicate (c.length - q.length) [V.int .i64 0]).flatten = ints (List.replicate (c.length - q.length) 0) := by
        generalize c.length - q.length = k
        induction k with
        | zero => rfl
        | succ k ih => rw [List.replicate_succ, List.flatten_cons, ih, List.replicate_succ]; rfl
      have hdr : L.drop (q.length + (ints (List.replicate (c.length - q.length) 0)).length) = [] := List.drop_eq_nil_of_le (by rw [ints_length, List.length_replicate]; omega)
      exact ⟨t', ints (List.replicate (c.length - q.length) 0), ht, ints_nameless _, by rw [← hq]; rfl, rfl, by rw [hL1, ← hq, hrep, hdr, List.append_nil]⟩
end Go.Proofs.YtingdebioipemaaDoor
/- Contracts: what is left of a clause. -/
namespace Go.Proofs.YtingdebioipemaaDoor
open Go Go.Am Go.Cl
set_option maxRecDepth 100000
variable {P : Program} {G : Nat → Option V}
theorem c_ContainsFuncS (hT : TabOk P tab) {base t : Nat} {o : List (Option Ob)} {f : V} {p : Int → Bool} {c : List Int} (hp : Tells P G base f o p c) (hl : c.length ≤ 9223372036854775807) {k w T : Nat} {lim : Option Nat} {cs : List V} (ho : o[k]? = some (some (.arr w T (ints c ++ cs)))) :
    C P G base n_slices_ContainsFunc_int_int [.sl k w 0 1 c.length lim, f] ⟨t, o⟩ fun v σ => v = .bool (c.any p) ∧ ∃ t', t ≤ t' ∧ σ = ⟨t', o⟩ := by
  refine C_tab hT t_slices_ContainsFunc_int_int (by simp [slices_ContainsFunc_int_int]) (W_run 1000 ?_)
  simp -implicitDefEqProofs (disch := omega) only [go_sem, ↓reduceIte, reduceCtorEq, Nat.reduceEqDiff, Nat.zero_add, slices_ContainsFunc_int_int, zq1f_0, zq1f_1]
  refine call hT t_slices_IndexFunc_int_int (c_IndexFuncS hT hp hl ho) 1000 fun v σ hv => ?_
  obtain ⟨rfl, t', ht, rfl⟩ := hv
  simp -implicitDefEqProofs (disch := omega) only [go_sem, ↓reduceIte, reduceCtorEq, Nat.reduceEqDiff, ge_iff_le]
  rw [fstIdx_any]
  exact ⟨rfl, t', ht, rfl⟩
theorem c_allS (hT : TabOk P tab) {base t g : Nat} {o : List (Option Ob)} {cap : List V} {p : Int → Bool} {c : List Int} (hb : base ≤ o.length) (hp : ∀ ex, Tells P G base (.fn (.func g) [] cap) (o ++ ex) p c) (hl : c.length ≤ 9223372036854775807) {k w T : Nat} {lim : Option Nat} {cs : List V} (ho : o[k]? = some (some (.arr w T (ints c ++ cs)))) :
    C P G base n_clause_all_int [.sl k w 0 1 c.length lim, .fn (.func g) [] cap] ⟨t, o⟩ fun v σ => v = .bool (c.all p) ∧ ∃ t', t ≤ t' ∧ σ = ⟨t', o⟩ := by
  refine C_keep o.length hb (C_tab hT t_clause_all_int (by simp [clause_all_int]) (W_run 1000 ?_))
  simp -implicitDefEqProofs (disch := omega) only [go_sem, ↓reduceIte, reduceCtorEq, Nat.reduceEqDiff, Nat.zero_add, clause_all_int, zqp_0, zqp_1]
  have hn := c_not (P := P) (G := G) (base := base) (k := o.length) (tb := t) (T := 55) hT (by simp) (hp [some (.arr t 55 [.fn (.func g) [] cap])])
  refine call hT t_slices_ContainsFunc_int_int (c_ContainsFuncS hT hn hl (get_ext ho)) 1000 fun v σ hv => ?_
  obtain ⟨rfl, t', ht, rfl⟩ := hv
  simp -implicitDefEqProofs (disch := omega) only [go_sem, ↓reduceIte, reduceCtorEq, Nat.reduceEqDiff]
  exact ⟨by simp, by rw [List.all_eq_not_any_not], t', by omega, rfl, by simp⟩
theorem k_clause_Units_S3 (hT : TabOk P tab) {base kb tb T k w T2 : Nat} {lim : Option Nat} {o : List (Option Ob)} {a : Int} {c l : List Int} {cs : List V} (h1 : o[kb]? = some (some (.arr tb T [.sl k w 0 1 (l.length + 1) lim]))) (h2 : o[k]? = some (some (.arr w T2 (ints (a :: l) ++ cs)))) :
    Tells P G base (.fn (.func n_clause_Units_S3) [] [.ptr kb tb 0]) o (fun n => n == a) c := fun t n hn => by
  refine CV.of hT t_clause_Units_S3 (C_tab hT t_clause_Units_S3 (by simp [clause_Units_S3]) (W_run 1000 ?_))
  have hD := ints_getDA (c := a :: l) (i := 0) cs rfl
  simp -implicitDefEqProofs (disch := omega) only [go_sem, need_of, ↓reduceIte, reduceCtorEq, Nat.reduceEqDiff, Int.reduceToNat, Int.reduceLE, Nat.zero_add, Nat.add_zero, Nat.mul_one, Nat.le_refl, clause_Units_S3, zqq_0, zqq_1, h1, h2, hD, List.length_append, ints_length, List.length_cons]
  exact ⟨t, Nat.le_refl _, rfl⟩
end Go.Proofs.YtingdebioipemaaDoor
/- Contracts: what follows by clauses of one literal. -/
namespace Go.Proofs.YtingdebioipemaaDoor
open Go Go.Am Go.Cl
set_option maxRecDepth 100000
variable {P : Program} {G : Nat → Option V}
def SortU (P : Program) (G : Nat → Option V) : Prop := ∀ (base k v t : Nat) (o : List (Option Ob)) (zs : List Int), base ≤ k → o[k]? = some (some (.arr v 3 (ints zs))) → Once zs → (∀ n ∈ zs, -16777216 ≤ n ∧ n ≤ 16777216) → zs.length ≤ 1000000 →
  C P G base n_slices_SortFunc_int_int [.sl k v 0 1 zs.length none, .fn (.func n_clause_Units_S4) [] []] ⟨t, o⟩ fun r σ' => r = .tup [] ∧ ∃ t', t ≤ t' ∧ σ' = ⟨t', o.set k (some (.arr v 3 (ints (sortV zs))))⟩
def uH (tf tm tb tw : Nat) (v : Int) (F : List (List Int)) (S : List Int) : List (Option Ob) :=
  [some (.arr tf 24 [.int .i64 v, .lst 1 (F.map row) false]), some (.map tm (kn S)), some (.arr tb 53 [.mp 1 tm]), some (.arr tw 3 (ints S))]
theorem ins_length (n : Int) : ∀ l : List Int, (ins n l).length = l.length + 1
  | [] => rfl
  | a :: l => by unfold ins; split <;> simp [ins_length n l]
theorem sortV_length : ∀ l : List Int, (sortV l).length = l.length
  | [] => rfl
  | a :: l => by simp [sortV, ins_length, sortV_length l]
theorem passU_append (S : List Int) : ∀ (A B : List (List Int)), passU S (A ++ B) = (passU S A).bind fun S => passU S B
  | [], B => rfl
  | c :: A, B => by
    simp only [List.cons_append, passU]
    cases stepU S c with
    | none => rfl
    | some S1 => simp only [Option.bind_some]; exact passU_append S1 A B
theorem passU_snoc {S S1 : List Int} {F : List (List Int)} {i : Nat} {c : List Int} (hi : F[i]? = some c) (h : passU S (F.take i) = some S1) : passU S (F.take (i + 1)) = stepU S1 c := by
  rw [take_snoc hi, passU_append, h, Option.bind_some]
  simp only [passU]
  cases stepU S1 c <;> rfl
theorem passU_fail {S S1 : List Int} {F : List (List Int)} {i : Nat} {c : List Int} (hi : F[i]? = some c) (h : passU S (F.take i) = some S1) (hs : stepU S1 c = none) : passU S F = none := by
  have := passU_append S (F.take (i + 1)) (F.drop (i + 1))
  rw [List.take_append_drop, passU_snoc hi h, hs] at this
  exact this
theorem stepU_cases (S c : List Int) : (c.any (fun n => decide (n ∈ S)) = true ∧ stepU S c = some S) ∨ (c.any (fun n => decide (n ∈ S)) = false ∧ c.filter (fun n => !decide (-n ∈ S)) = [] ∧ stepU S c = none) ∨
    (c.any (fun n => decide (n ∈ S)) = false ∧ ∃ a l, c.filter (fun n => !decide (-n ∈ S)) = a :: l ∧ a ∈ c ∧ a ∉ S ∧ l.length + 1 ≤ c.length ∧ (((a :: l).all (fun n => n == a) = true ∧ stepU S c = some (S ++ [a])) ∨ ((a :: l).all (fun n => n == a) = false ∧ stepU S c = some S))) := by
  cases hany : c.any (fun n => decide (n ∈ S)) with
  | true => exact .inl ⟨rfl, if_pos hany⟩
  | false =>
    have hst : stepU S c = match c.filter (fun n => !decide (-n ∈ S)) with
        | [] => none
        | a :: l => if l.all fun n => decide (n = a) then some (S ++ [a]) else some S := if_neg (by simp [hany])
    refine .inr ?_
    generalize hlf : c.filter (fun n => !decide (-n ∈ S)) = left at hst
    cases left with
    | nil => exact .inl ⟨rfl, rfl, hst⟩
    | cons a l =>
      refine .inr ⟨rfl, a, l, rfl, ?_, ?_, ?_, ?_⟩
      · have : a ∈ c.filter (fun n => !decide (-n ∈ S)) := by rw [hlf]; simp
        exact (List.mem_filter.1 this).1
      · intro h
        have : a ∈ c.filter (fun n => !decide (-n ∈ S)) := by rw [hlf]; simp
        have := List.any_eq_false.1 hany a (List.mem_filter.1 this).1
        simp [h] at this
      · have := List.length_filter_le (fun n => !decide (-n ∈ S)) c
        rw [hlf, List.length_cons] at this; omega
      · have hal : (a :: l).all (fun n => n == a) = l.all fun n => decide (n = a) := by simp [List.all_cons]; rfl
        rw [hal]
        simp only at hst
        cases hall : l.all fun n => decide (n = a) with
        | false => rw [hall] at hst; exact .inr ⟨rfl, hst⟩
        | true => rw [hall, if_pos rfl] at hst; exact .inl ⟨rfl, hst⟩
theorem flat_len {F : List (List Int)} {k : Nat} (h : ∀ c ∈ F, c.length ≤ k) : F.flatten.length ≤ F.length * k := by
  induction F with
  | nil => simp
  | cons c F ih =>
    have h1 := h c (by simp)
    have h2 := ih fun d hd => h d (by simp [hd])
    rw [List.flatten_cons, List.length_append, List.length_cons, Nat.succ_mul]
    omega
abbrev uJ (v : Int) (F : List (List Int)) (S : List Int) (tf tb : Nat) : Nat → Fr → H → Prop := fun m fr σ => ∃ (i : Nat) (S1 : List Int) (t' tm tw : Nat), i ≤ F.length ∧ m = F.length - i ∧ passU S (F.take i) = some S1 ∧ Inv F S1 ∧ S.length ≤ S1.length ∧ fget fr 1 = .ptr 0 tf 0 ∧ fget fr 4 = .ptr 2 tb 0 ∧ fget fr 5 = .sl 3 tw 0 1 S1.length none ∧ fget fr 6 = .int .i64 S.length ∧ fget fr 21 = .lst 1 (F.map row) false ∧ fget fr 22 = .int .i64 F.length ∧ fget fr 23 = .int .i64 i ∧ σ = ⟨t', uH tf tm tb tw v F S1⟩
abbrev uE (v : Int) (F : List (List Int)) (S : List Int) (tf tb : Nat) : AE → Fr → H → Prop := fun e fr σ => (e = .ret ∧ passU S F = none ∧ fget fr 2 = .lst 0 [] true ∧ fget fr 3 = .bool false) ∨ (∃ (S1 : List Int) (t' tm tw : Nat), e = .ex 2 ∧ passU S F = some S1 ∧ Inv F S1 ∧ S.length ≤ S1.length ∧ fget fr 1 = .ptr 0 tf 0 ∧ fget fr 4 = .ptr 2 tb 0 ∧ fget fr 5 = .sl 3 tw 0 1 S1.length none ∧ fget fr 6 = .int .i64 S.length ∧ σ = ⟨t', uH tf tm tb tw v F S1⟩)
set_option maxHeartbeats 1000000 in
theorem u_round (hT : TabOk P tab) {v : Int} {F : List (List Int)} (hF : F.length ≤ 1000) (hc : ∀ c ∈ F, c.length ≤ 1000) (hz : Nz F) (hrt : ∀ c ∈ F, ∀ n ∈ c, -16777216 ≤ n ∧ n ≤ 16777216) {S : List Int} {tf tb m : Nat} {fr : Fr} {σ : H} (hJ : uJ v F S tf tb m fr σ) :
    W P G 56 0 (AC.seq (AC.reg zq5_9 [])   (AC.seq (AC.cond (Arg.t 24)   AC.skip   (AC.exit 2))   (AC.seq (AC.block 3 (AC.seq (AC.reg zq5_10 [25, 26])   (AC.seq (AC.seq (AC.reg zq5_11 [27, 28])   (AC.cond (Arg.t 29)   (AC.exit 3)   AC.skip))   (AC.seq (AC.reg zq5_12 [30, 31, 32, 33])   (AC.block 4 (AC.seq (AC.reg zq5_13 [35, 36, 37])   (AC.cond (Arg.t 34)   (AC.seq (AC.reg zq5_14 [])   AC.ret)   (AC.seq (AC.reg zq5_15 [39, 40, 41])   (AC.cond (Arg.t 38)   (AC.seq (AC.reg zq5_16 [42, 43, 44, 45])   (AC.reg zq5_17 [46, 47, 48, 49, 50, 51]))   AC.skip)))))))))   (AC.reg zq5_18 [52])))) fr σ (seqQ (fun fr σ => ∃ m' fr' σ', m' < m ∧ Shift G 56 0 fr σ fr' σ' ∧ uJ v F S tf tb m' fr' σ') (uE v F S tf tb)) := by
  obtain ⟨i, S1, t', tm, tw, hi, rfl, hp, hI1, hl1, f1, f4, f5, f6, f21, f22, f23, rfl⟩ := hJ
  have hSl : S1.length ≤ 1000000 := by
    have h1 := hI1.len
    have h2 := flat_len hc
    have h3 : F.length * 1000 ≤ 1000 * 1000 := Nat.mul_le_mul_right _ hF
    omega
  rcases Nat.lt_or_ge i F.length with hlt | hge
  · obtain ⟨c, hci⟩ : ∃ c, F[i]? = some c := ⟨_, List.getElem?_eq_getElem hlt⟩
    have hD := rows_getD hci
    have hcm := List.mem_of_getElem? hci
    have e2 := wnext hlt (by omega)
    have hcl := hc c hcm
    have hb64 : ∀ n ∈ c, -9223372036854775808 ≤ n ∧ n ≤ 9223372036854775807 := fun n hn => by have := hrt c hcm n hn; omega
    have hps := passU_snoc hci hp
    have hneg2 : c.filter (fun n => !decide (neg n ∈ S1)) = c.filter (fun n => !decide (-n ∈ S1)) := by
      refine List.filter_congr fun n hn => ?_
      have hne : n ≠ mn := by have := hrt c hcm n hn; unfold mn; omega
      rw [neg_ne hne]
    have hsome := fun t => c_some (P := P) (G := G) (base := 0) (t := t) hT (k_clause_Units_S1 (c := c) hT (kb := 2) (tb := tb) (T := 53) (km := 1) (vm := tm) (S := S1) (o := [some (.arr tf 24 [.int .i64 v, .lst 1 (F.map row) false]), some (.map tm (kn S1)), some (.arr tb 53 [.mp 1 tm]), some (.arr tw 3 (ints S1))]) rfl rfl) (by omega)
    have hdel := fun t w => c_DeleteFunc (P := P) (G := G) (base := 0) (t := t) (w := w) hT (o := [some (.arr tf 24 [.int .i64 v, .lst 1 (F.map row) false]), some (.map tm (kn S1)), some (.arr tb 53 [.mp 1 tm]), some (.arr tw 3 (ints S1))]) (Nat.zero_le _) (fun w' cells => k_clause_Units_S2 (c := c) hT (kb := 2) (km := 1) (S := S1) hb64 rfl rfl) (by omega)
    rw [hneg2] at hdel
    rcases stepU_cases S1 c with ⟨hany, hst⟩ | ⟨hany, hlf, hst⟩ | ⟨hany, a, l, hlf, hac, haS, hlen, hall⟩
    · refine W_round [(1, .ptr 0 tf 0), (4, .ptr 2 tb 0), (5, .sl 3 tw 0 1 S1.length none), (6, .int .i64 S.length), (21, .lst 1 (F.map row) false), (22, .int .i64 F.length), (23, .int .i64 i)] ⟨f1, f4, f5, f6, f21, f22, f23, trivial⟩  1000 ?_
      simp -implicitDefEqProofs (disch := omega) only [go_sem, need_of, ↓reduceIte, Nat.reduceEqDiff, Nat.zero_add, decide_true, Nat.le_refl, zq5_9, zq5_10, zq5_11, zq5_12, zq5_13, zq5_14, zq5_15, zq5_16, zq5_17, zq5_18, uH, List.length_map, List.length_cons, List.length_nil, hlt, hD]
      refine call hT t_clause_some_int (hsome _) 1000 fun u σ hu => ?_
      obtain ⟨rfl, t1, ht1, rfl⟩ := hu
      rw [hany]
      simp -implicitDefEqProofs (disch := omega) only [go_sem, ↓reduceIte, Nat.reduceEqDiff]
      refine ⟨F.length - (i + 1), _, _, by omega, Shift.refl _ _ _ _, i + 1, S1, t1, tm, tw, by omega, rfl, by rw [hps, hst], hI1, hl1, ?_⟩
      simp -implicitDefEqProofs (disch := omega) only [go_sem, ↓reduceIte, Nat.reduceEqDiff, uH, e2]
    · refine W_round [(1, .ptr 0 tf 0), (4, .ptr 2 tb 0), (5, .sl 3 tw 0 1 S1.length none), (6, .int .i64 S.length), (21, .lst 1 (F.map row) false), (22, .int .i64 F.length), (23, .int .i64 i)] ⟨f1, f4, f5, f6, f21, f22, f23, trivial⟩  1000 ?_
      simp -implicitDefEqProofs (disch := omega) only [go_sem, need_of, ↓reduceIte, Nat.reduceEqDiff, Nat.zero_add, decide_true, Nat.le_refl, zq5_9, zq5_10, zq5_11, zq5_12, zq5_13, zq5_14, zq5_15, zq5_16, zq5_17, zq5_18, uH, List.length_map, List.length_cons, List.length_nil, hlt, hD]
      refine call hT t_clause_some_int (hsome _) 1000 fun u σ hu => ?_
      obtain ⟨rfl, t1, ht1, rfl⟩ := hu
      rw [hany]
      simp -implicitDefEqProofs (disch := omega) only [go_sem, ↓reduceIte, Nat.reduceEqDiff]
      refine call hT t_slices_Clone_int_int (c_Clone hT c (by omega)) 1000 fun u σ hu => ?_
      obtain ⟨t2, w, ht2, rfl, rfl⟩ := hu
      simp -implicitDefEqProofs (disch := omega) only [go_sem, ↓reduceIte, Nat.reduceAdd, Nat.reduceEqDiff, Nat.zero_add, List.length_cons, List.length_nil]
      refine call hT t_slices_DeleteFunc_int_int (hdel _ _) 1000 fun u σ hu => ?_
      obtain ⟨t3, cells, ht3, _, rfl, rfl⟩ := hu
      rw [hlf]
      simp -implicitDefEqProofs (disch := omega) only [go_sem, ↓reduceIte, reduceCtorEq, Nat.reduceAdd, Nat.reduceEqDiff, Nat.zero_add, Bool.not_false, Nat.le_refl, Nat.zero_le, uH, List.length_cons, List.length_nil, List.cons_append, List.nil_append, uE]
      exact ⟨fun _ => .inl (passU_fail hci hp hst), fun h => absurd rfl h⟩
    · have hallS : ∀ (t t3 w : Nat) (cells : List V), C P G 0 n_clause_all_int [.sl 4 w 0 1 (l.length + 1) none, .fn (.func n_clause_Units_S3) [] [.ptr 5 t3 0]] ⟨t, [some (.arr tf 24 [.int .i64 v, .lst 1 (F.map row) false]), some (.map tm (kn S1)), some (.arr tb 53 [.mp 1 tm]), some (.arr tw 3 (ints S1)), some (.arr w 3 (ints (a :: l) ++ cells)), some (.arr t3 28 [.sl 4 w 0 1 (l.length + 1) none])]⟩ fun u σ => u = .bool ((a :: l).all (fun n => n == a)) ∧ ∃ t', t ≤ t' ∧ σ = ⟨t', [some (.arr tf 24 [.int .i64 v, .lst 1 (F.map row) false]), some (.map tm (kn S1)), some (.arr tb 53 [.mp 1 tm]), some (.arr tw 3 (ints S1)), some (.arr w 3 (ints (a :: l) ++ cells)), some (.arr t3 28 [.sl 4 w 0 1 (l.length + 1) none])]⟩ := fun t t3 w cells => c_allS (P := P) (G := G) (base := 0) (t := t) hT (c := a :: l) (k := 4) (w := w) (T := 3) (cs := cells) (lim := none) (o := [some (.arr tf 24 [.int .i64 v, .lst 1 (F.map row) false]), some (.map tm (kn S1)), some (.arr tb 53 [.mp 1 tm]), some (.arr tw 3 (ints S1)), some (.arr w 3 (ints (a :: l) ++ cells)), some (.arr t3 28 [.sl 4 w 0 1 (l.length + 1) none])]) (Nat.zero_le _) (fun ex => k_clause_Units_S3 hT (kb := 5) (k := 4) (w := w) (cs := cells) (get_ext rfl) (get_ext rfl)) (by rw [List.length_cons]; omega) rfl
      have hne0 : ¬ (((l.length + 1 : Nat) : Int) = 0) := by omega
      refine W_round [(1, .ptr 0 tf 0), (4, .ptr 2 tb 0), (5, .sl 3 tw 0 1 S1.length none), (6, .int .i64 S.length), (21, .lst 1 (F.map row) false), (22, .int .i64 F.length), (23, .int .i64 i)] ⟨f1, f4, f5, f6, f21, f22, f23, trivial⟩  1000 ?_
      simp -implicitDefEqProofs (disch := omega) only [go_sem, need_of, ↓reduceIte, Nat.reduceEqDiff, Nat.zero_add, decide_true, Nat.le_refl, zq5_9, zq5_10, zq5_11, zq5_12, zq5_13, zq5_14, zq5_15, zq5_16, zq5_17, zq5_18, uH, List.length_map, List.length_cons, List.length_nil, hlt, hD]
      refine call hT t_clause_some_int (hsome _) 1000 fun u σ hu => ?_
      obtain ⟨rfl, t1, ht1, rfl⟩ := hu
      rw [hany]
      simp -implicitDefEqProofs (disch := omega) only [go_sem, ↓reduceIte, Nat.reduceEqDiff]
      refine call hT t_slices_Clone_int_int (c_Clone hT c (by omega)) 1000 fun u σ hu => ?_
      obtain ⟨t2, w, ht2, rfl, rfl⟩ := hu
      simp -implicitDefEqProofs (disch := omega) only [go_sem, ↓reduceIte, Nat.reduceAdd, Nat.reduceEqDiff, Nat.zero_add, List.length_cons, List.length_nil]
      refine call hT t_slices_DeleteFunc_int_int (hdel _ _) 1000 fun u σ hu => ?_
      obtain ⟨t3, cells, ht3, _, rfl, rfl⟩ := hu
      rw [hlf]
      simp -implicitDefEqProofs (disch := omega) only [go_sem, ↓reduceIte, Nat.reduceAdd, Nat.reduceEqDiff, Nat.zero_add, Bool.not_false, Nat.le_refl, Nat.zero_le, List.length_cons, List.length_nil, List.cons_append, List.nil_append, hne0, false_implies, true_implies, true_and, not_false_eq_true]
      refine call hT t_clause_all_int (hallS (t3 + 1) t3 w cells) 1000 fun u σ hu => ?_
      obtain ⟨rfl, t4, ht4, rfl⟩ := hu
      rcases hall with ⟨hall, hst⟩ | ⟨hall, hst⟩
      · have hD0 := ints_getDA (c := a :: l) (i := 0) cells rfl
        have h3 := keysOk_im .i64 (fun _ => .int .i64 1) S1 a
        have hput := mput_im .i64 (fun _ => .int .i64 1) a (.int .i64 1) rfl S1 haS
        rw [hall]
        simp -implicitDefEqProofs (disch := omega) only [go_sem, need_of, ↓reduceIte, reduceCtorEq, Nat.reduceEqDiff, Nat.reduceLeDiff, Int.reduceToNat, Int.reduceLE, Nat.zero_add, Nat.add_zero, Nat.mul_one, Bool.not_true, Bool.not_false, Nat.le_refl, Nat.zero_le, ints_length, List.length_cons, List.length_nil, hD0, List.length_append, kn, hput]
        have hI2 := ((stepU_inv hz hI1 hcm).2 _ hst).1
        refine ⟨F.length - (i + 1), _, _, by omega, Shift.drop (o' := uH tf tm tb t4 v F (S1 ++ [a])) (t' := t4 + 1) (by simp [subObs, uH, kn, ints]) (Nat.le_refl _) (Nat.zero_le _), i + 1, S1 ++ [a], t4 + 1, tm, t4, by omega, rfl, by rw [hps, hst], hI2, by simp; omega, ?_⟩
        simp -implicitDefEqProofs (disch := omega) only [go_sem, ↓reduceIte, Nat.reduceEqDiff, Nat.zero_add, uH, List.length_cons, List.length_nil, e2, List.length_append]
        try simp [ints]
      · rw [hall]
        simp -implicitDefEqProofs (disch := omega) only [go_sem, ↓reduceIte, Nat.reduceEqDiff]
        refine ⟨F.length - (i + 1), _, _, by omega, Shift.drop (o' := uH tf tm tb tw v F S1) (t' := t4) (by simp [subObs, uH]) (Nat.le_refl _) (Nat.zero_le _), i + 1, S1, t4, tm, tw, by omega, rfl, by rw [hps, hst], hI1, hl1, ?_⟩
        simp -implicitDefEqProofs (disch := omega) only [go_sem, ↓reduceIte, Nat.reduceEqDiff, uH, e2]
  · have hi : i = F.length := by omega
    subst hi
    rw [List.take_length] at hp
    refine W_round [(1, .ptr 0 tf 0), (4, .ptr 2 tb 0), (5, .sl 3 tw 0 1 S1.length none), (6, .int .i64 S.length), (21, .lst 1 (F.map row) false), (22, .int .i64 F.length), (23, .int .i64 F.length)] ⟨f1, f4, f5, f6, f21, f22, f23, trivial⟩  1000 ?_
    simp -implicitDefEqProofs (disch := omega) only [go_sem, ↓reduceIte, reduceCtorEq, Nat.reduceEqDiff, decide_false, zq5_9, zq5_10, zq5_11, zq5_12, zq5_13, zq5_14, zq5_15, zq5_16, zq5_17, zq5_18, uH, Nat.lt_irrefl, uE]
    exact ⟨S1, t', tm, tw, hp, hI1, hl1, rfl, rfl, rfl⟩
set_option maxHeartbeats 1000000 in
theorem c_Units (hT : TabOk P tab) (hs : SortU P G) (v : Int) (F : List (List Int)) (hF : F.length ≤ 1000) (hc : ∀ c ∈ F, c.length ≤ 1000) :
    Pure P G n_clause_Units [fml v F] fun u => u = if right v F then (match units F with | none => .tup [row [], .bool false] | some l => .tup [row l, .bool true]) else .tup [row [], .bool false] := by
  intro t
  refine C_res (Q := fun u _ => nameless u = true ∧ ((u = .tup [.lst 0 [] true, .bool false] ∧ (right v F = false ∨ units F = none)) ∨ ∃ l, right v F = true ∧ units F = some l ∧ u = .tup [row l, .bool true]))
    (C_freezeO (Q := fun u σ => (u = .tup [.lst 0 [] true, .bool false] ∧ (right v F = false ∨ units F = none)) ∨ ∃ l tw, right v F = true ∧ units F = some l ∧ u = .tup [.sl 3 tw 0 1 l.length none, .bool true] ∧ σ.o[3]? = some (some (.arr tw 3 (ints l)))) ?_ fun u σ hu => ?_) fun u σ hu => ?_
  · have hR := c_Right (P := P) (G := G) hT v F (by omega) (fun c h => by have := hc c h; omega)
    simp only [fml, rows] at hR ⊢
    refine C_tab hT t_clause_Units (by simp [clause_Units]) (W_run 1000 ?_)
    simp -implicitDefEqProofs (disch := omega) only [go_sem, ↓reduceIte, reduceCtorEq, Nat.reduceAdd, Nat.reduceEqDiff, Nat.zero_add, Nat.le_refl, clause_Units, zq5_0, zq5_1, zq5_2, zq5_3, zq5_4, zq5_5, zq5_6, zq5_7, zq5_8, zq5_9, zq5_10, zq5_11, zq5_12, zq5_13, zq5_14, zq5_15, zq5_16, zq5_17, zq5_18, zq5_19, zq5_20]
    refine callPS hT t_clause_Right hR (by simp [namelessL, nameless]) 1000 ?_
    cases hr : right v F with
    | false =>
      simp -implicitDefEqProofs (disch := omega) only [go_sem, ↓reduceIte, reduceCtorEq, Nat.reduceEqDiff, Bool.not_false]
      try simp
    | true =>
      have hrt := (right_iff.1 hr)
      have hz := right_nz hr
      simp -implicitDefEqProofs (disch := omega) only [go_sem, ↓reduceIte, reduceCtorEq, Nat.reduceAdd, Nat.reduceEqDiff, Nat.zero_add, Bool.not_true, Bool.not_false, Nat.le_refl, Nat.zero_le]
      refine ⟨rfl, ?_⟩
      refine sem_shift (Shift.own (s := 5) (z := 0) (sz := 1) (T := 3) (by simp -implicitDefEqProofs (disch := omega) only [go_sem, ↓reduceIte, reduceCtorEq, Nat.reduceEqDiff]) (by decide)) ?_
      simp -implicitDefEqProofs (disch := omega) only [go_sem, ↓reduceIte, reduceCtorEq, Nat.reduceAdd, Nat.reduceEqDiff, Nat.zero_add, H.push, List.length_cons, List.length_nil, List.cons_append, List.nil_append]
      refine sem_invE (fun m fr σ => ∃ (S : List Int) (n0 : Int) (k t' tf tm tb tw : Nat), Inv F S ∧ ((n0 < (S.length : Int) ∧ m = k + 1 ∧ F.flatten.length + 1 ≤ k + S.length ∧ loopU F k S = foundU F) ∨ (n0 = (S.length : Int) ∧ m = 0 ∧ foundU F = some S)) ∧ fget fr 1 = .ptr 0 tf 0 ∧ fget fr 4 = .ptr 2 tb 0 ∧ fget fr 5 = .sl 3 tw 0 1 S.length none ∧ fget fr 6 = .int .i64 n0 ∧ σ = ⟨t', uH tf tm tb tw v F S⟩)
        (fun e fr σ => (e = .ret ∧ foundU F = none ∧ fget fr 2 = .lst 0 [] true ∧ fget fr 3 = .bool false) ∨ (∃ S t' tf tm tb tw, e = .ex 0 ∧ foundU F = some S ∧ fget fr 5 = .sl 3 tw 0 1 S.length none ∧ σ = ⟨t', uH tf tm tb tw v F S⟩))
        (m0 := F.flatten.length + 2) ⟨[], -1, F.flatten.length + 1, t + 1 + 1 + 1 + 1, t, t + 1, t + 1 + 1, t + 1 + 1 + 1, inv_nil F, .inl ⟨by simp, rfl, by simp, rfl⟩, ?_⟩ (fun m fr σ hJ => ?_) (fun e fr σ hE => ?_)
      · simp -implicitDefEqProofs (disch := omega) only [go_sem, ↓reduceIte, reduceCtorEq, Nat.reduceEqDiff, uH, List.length_nil]
        rfl
      · obtain ⟨S, n0, k, t', tf, tm, tb, tw, hI, hk, f1, f4, f5, f6, rfl⟩ := hJ
        refine W_run 1000 ?_
        rcases hk with ⟨hn0, rfl, hkl, hlu⟩ | ⟨rfl, rfl, hlu⟩
        · simp -implicitDefEqProofs (disch := omega) only [go_sem, ↓reduceIte, Nat.reduceAdd, Nat.reduceEqDiff, Nat.zero_add, decide_true, Nat.le_refl, uH, List.length_map, List.length_cons, List.length_nil, f1, f5, f6, hn0]
          refine sem_invE (uJ v F S tf tb) (uE v F S tf tb) (m0 := F.length) ⟨0, S, t', tm, tw, by omega, rfl, rfl, hI, Nat.le_refl _, ?_⟩ (fun m fr σ hJ => u_round hT hF hc hz (fun c h n hn => by have := hrt.2 c h n hn; omega) hJ) (fun e fr σ hE => ?_)
          · simp -implicitDefEqProofs (disch := omega) only [go_sem, ↓reduceIte, Nat.reduceEqDiff, uH, f1, f4, f5]
            rfl
          · rcases hE with ⟨rfl, hp, f2, f3⟩ | ⟨S1, t', tm, tw, rfl, hp, hI1, hl1, f1, f4, f5, f6, rfl⟩
            · have hno : foundU F = none := by
                rw [← hlu]
                cases k with
                | zero => rfl
                | succ k => rw [loopU, hp]
              refine run_sem 1000 ?_
              simp -implicitDefEqProofs (disch := omega) only [go_sem, reduceCtorEq, f2, f3]
              exact .inl hno
            · refine run_sem 1000 ?_
              simp -implicitDefEqProofs (disch := omega) only [go_sem, ↓reduceIte, uH]
              have hk : k ≠ 0 := by have := hI.len; omega
              obtain ⟨k, rfl⟩ := Nat.exists_eq_succ_of_ne_zero hk
              rw [loopU, hp] at hlu
              simp only at hlu
              by_cases hlen : S1.length = S.length
              · rw [if_pos hlen] at hlu
                refine ⟨0, _, _, by omega, Shift.refl _ _ _ _, S1, S.length, 0, t', tf, tm, tb, tw, hI1, .inr ⟨by rw [hlen], rfl, hlu.symm⟩, ?_⟩
                simp -implicitDefEqProofs (disch := omega) only [go_sem, f1, f4, f5, f6]
              · rw [if_neg hlen] at hlu
                refine ⟨k + 1, _, _, by omega, Shift.refl _ _ _ _, S1, S.length, k, t', tf, tm, tb, tw, hI1, .inl ⟨by omega, rfl, by omega, hlu⟩, ?_⟩
                simp -implicitDefEqProofs (disch := omega) only [go_sem, f1, f4, f5, f6]
        · simp -implicitDefEqProofs (disch := omega) only [go_sem, ↓reduceIte, reduceCtorEq, Nat.reduceEqDiff, decide_false, uH, f5, f6, Int.lt_irrefl]
          exact ⟨S, t', tf, tm, tb, tw, hlu, rfl, rfl, rfl⟩
      · rcases hE with ⟨rfl, hno, f2, f3⟩ | ⟨S, t', tf, tm, tb, tw, rfl, hSo, f5, rfl⟩
        · refine run_sem 1000 ?_
          have hu : units F = none := by rw [units, hno]; rfl
          simp -implicitDefEqProofs (disch := omega) only [go_sem, reduceCtorEq, f2, f3, hu]
          try simp
        · obtain ⟨hI, hm⟩ := foundU_some hz hSo
          have hu : units F = some (sortV S) := by rw [units, hSo]; rfl
          have hSl : S.length ≤ 1000000 := by
            have h1 := hI.len
            have h2 := flat_len hc
            have h3 : F.length * 1000 ≤ 1000 * 1000 := Nat.mul_le_mul_right _ hF
            omega
          refine run_sem 1000 ?_
          simp -implicitDefEqProofs (disch := omega) only [go_sem, ↓reduceIte, uH, f5]
          refine call hT t_slices_SortFunc_int_int (hs 0 3 tw t' _ S (Nat.zero_le _) rfl hI.once (fun n hn => by
            obtain ⟨c, hc, hnc⟩ := (hI.up n hn).in
            have := hrt.2 c hc n hnc; omega) hSl) 1000 fun u σ hu' => ?_
          obtain ⟨rfl, t1, ht1, rfl⟩ := hu'
          simp -implicitDefEqProofs (disch := omega) only [go_sem, ↓reduceIte, reduceCtorEq, Nat.reduceEqDiff, f5, hu]
          exact ⟨sortV S, tw, rfl, by rw [sortV_length], rfl⟩
  · rcases hu with ⟨rfl, hu⟩ | ⟨l, tw, hr, hu, rfl, ho⟩
    · exact .inl ⟨rfl, .inl ⟨rfl, hu⟩⟩
    · refine .inr ⟨3, tw, 3, ints l, Nat.zero_le _, ho, ints_nameless l, ?_, .inr ⟨l, hr, hu, ?_⟩⟩
      · simp [frzV, frzL, nameless, namelessL, ints_length]
      · simp [frzV, frzL, rowsV, ints_length, row]
        rw [← ints_length l, List.take_length]
  · rcases hu with ⟨hn, ⟨rfl, hu⟩ | ⟨l, hr, hu, rfl⟩⟩
    · refine ⟨.tup [row [], .bool false], .tup _ _ (.cons _ _ _ _ (.lst _ _ _ _ _ .nil (.inl rfl)) (.cons _ _ _ _ (.refl _) .nil)), rfl, ?_⟩
      rcases hu with hu | hu
      · rw [hu]; rfl
      · rw [hu]; simp
    · exact ⟨_, .refl _, hn, by rw [hr, hu]; rfl⟩
end Go.Proofs.YtingdebioipemaaDoor
/- Clauses: the document's side. -/
namespace Go.Cl
open Go Go.Am
set_option maxRecDepth 100000
theorem passU_snoc {S : List Int} : ∀ {F : List (List Int)} {c : List Int}, passU S (F ++ [c]) = (passU S F).bind fun S => stepU S c
  | [], c => by simp [passU]
  | d :: F, c => by
    simp only [List.cons_append, passU, Option.bind_assoc]
    congr 1
    funext S'
    exact passU_snoc
end Go.Cl
/- Contracts: the document's side of clauses, the small functions. -/
namespace Go.Proofs.YtingdebioipemaaDoor
open Go Go.Am Go.Cl
set_option maxRecDepth 100000
variable {P : Program} {G : Nat → Option V}
theorem at_ints {l : List Int} {i : Nat} {a : Int} (h : l[i]? = some a) (hl : l.length ≤ 9223372036854775807) : i < l.length ∧ (ints l).getD i V.any = .int .i64 a ∧ IntKind.i64.wrap ((i : Int) + 1) = ((i + 1 : Nat) : Int) :=
  have hlt := (List.getElem?_eq_some_iff.1 h).1
  ⟨hlt, ints_getD h, wnext hlt hl⟩
theorem at_rows {F : List (List Int)} {i : Nat} {c : List Int} (h : F[i]? = some c) (hl : F.length ≤ 9223372036854775807) : i < F.length ∧ (F.map row).getD i V.any = .lst 1 (ints c) false ∧ IntKind.i64.wrap ((i : Int) + 1) = ((i + 1 : Nat) : Int) :=
  have hlt := (List.getElem?_eq_some_iff.1 h).1
  ⟨hlt, rows_getD h, wnext hlt hl⟩
end Go.Proofs.YtingdebioipemaaDoor
