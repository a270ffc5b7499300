/- Contracts: rows of clauses gone through by functions handed over; whether a formula holds. -/
import Derived.Test.YtingdebioipemaaDoorJ4
import Derived.Test.YtingdebioipemaaDoorJ2
import Derived.Test.YtingdebioipemaaDoorJ3
import Derived.Test.YtingdebioipemaaDoorJ8
/- Contracts: rows of clauses gone through by functions handed over; whether a formula holds. -/
namespace Go.Proofs.YtingdebioipemaaDoor
open Go Go.Am Go.Cl
set_option maxRecDepth 100000
variable {P : Program} {G : Nat → Option V}
def TellsR (P : Program) (G : Nat → Option V) (base : Nat) (f : V) (o : List (Option Ob)) (p : List Int → Bool) (c : List (List Int)) : Prop :=
  ∀ t n, n ∈ c → CV P G base f [.lst 1 (ints n) false] ⟨t, o⟩ fun v σ => v = .bool (p n) ∧ ∃ t', t ≤ t' ∧ σ = ⟨t', o⟩
def fstIdR (p : List Int → Bool) : List (List Int) → Nat → Int
  | [], _ => -1
  | n :: c, i => if p n then i else fstIdR p c (i + 1)
theorem fstIdR_neg {p : List Int → Bool} : ∀ {c : List (List Int)} {i : Nat}, (∀ n ∈ c, p n = false) → fstIdR p c i = -1
  | [], _, _ => rfl
  | n :: c, i, h => by rw [fstIdR, h n (by simp), if_neg (by simp), fstIdR_neg fun m hm => h m (by simp [hm])]
theorem fstIdR_at {p : List Int → Bool} : ∀ {c : List (List Int)} {i k : Nat} {n : List Int}, (∀ m ∈ c.take k, p m = false) → c[k]? = some n → p n = true → fstIdR p c i = ((i + k : Nat) : Int)
  | [], _, _, _, _, h, _ => by simp at h
  | m :: c, i, 0, n, _, h, hp => by simp at h; subst h; simp [fstIdR, hp]
  | m :: c, i, k + 1, n, h, hk, hp => by
    rw [fstIdR, h m (by simp), if_neg (by simp), fstIdR_at (k := k) (fun m hm => h m (by simp [hm])) (by simpa using hk) hp]
    congr 1; omega
theorem fstIdR_any {p : List Int → Bool} : ∀ {c : List (List Int)} {i : Nat}, decide (0 ≤ fstIdR p c i) = c.any p
  | [], _ => by simp [fstIdR]
  | n :: c, i => by
    unfold fstIdR
    cases h : p n
    · simp [h, fstIdR_any (c := c)]
    · simp [h]
theorem c_IndexFuncR (hT : TabOk P tab) {base t : Nat} {o : List (Option Ob)} {f : V} {p : List Int → Bool} {c : List (List Int)} (hp : TellsR P G base f o p c) (hl : c.length ≤ 9223372036854775807) :
    C P G base n_slices_IndexFunc_int_int_77 [.lst 1 (c.map row) false, f] ⟨t, o⟩ fun v σ => v = .int .i64 (fstIdR p c 0) ∧ ∃ t', t ≤ t' ∧ σ = ⟨t', o⟩ := by
  refine C_tab hT t_slices_IndexFunc_int_int_77 (by simp [slices_IndexFunc_int_int_77]) (W_run 1000 ?_)
  simp -implicitDefEqProofs (disch := omega) only [go_sem, ↓reduceIte, reduceCtorEq, Nat.reduceEqDiff, Nat.zero_add, slices_IndexFunc_int_int_77, zq22_0, zq22_1, zq22_2, zq22_3, zq22_4, zq22_5, zq22_6, zq22_7, List.length_map]
  refine sem_invE (fun m fr σ => ∃ i t', i ≤ c.length ∧ m = c.length - i ∧ (∀ n ∈ c.take i, p n = false) ∧ t ≤ t' ∧ fget fr 0 = .lst 1 (c.map row) false ∧ fget fr 1 = f ∧ fget fr 7 = .int .i64 c.length ∧ fget fr 8 = .int .i64 i ∧ σ = ⟨t', o⟩)
    (fun e fr σ => ∃ t', t ≤ t' ∧ σ = ⟨t', o⟩ ∧ ((e = .ret ∧ fget fr 4 = .int .i64 (fstIdR p c 0)) ∨ (e = .ex 0 ∧ fstIdR p c 0 = -1)))
    (m0 := c.length) ⟨0, t, by omega, rfl, by simp, by omega, ?_⟩ (fun m fr σ hJ => ?_) (fun e fr σ hE => ?_)
  · simp -implicitDefEqProofs (disch := omega) only [go_sem, ↓reduceIte, reduceCtorEq, Nat.reduceEqDiff]
    simp
  · obtain ⟨i, t', hi, rfl, hno, ht, f0, f1, f7, f8, rfl⟩ := hJ
    refine W_run 1000 ?_
    rcases Nat.lt_or_ge i c.length with hlt | hge
    · obtain ⟨n, hni⟩ : ∃ n, c[i]? = some n := ⟨_, List.getElem?_eq_getElem hlt⟩
      have hD := (at_rows hni hl).2.1
      have e2 := (at_rows hni hl).2.2
      simp -implicitDefEqProofs (disch := omega) only [go_sem, need_of, ↓reduceIte, reduceCtorEq, Nat.reduceEqDiff, Nat.succ_ne_zero, Nat.zero_add, decide_true, Nat.le_refl, List.length_map, f0, f1, f7, f8, hlt, hD]
      refine CV.use 1000 (hp t' n (List.mem_of_getElem? hni)) fun v σ hv => ?_
      obtain ⟨rfl, t2, ht2, rfl⟩ := hv
      cases hpn : p n with
      | true =>
        simp -implicitDefEqProofs (disch := omega) only [go_sem, ↓reduceIte, reduceCtorEq, Nat.reduceEqDiff]
        rw [fstIdR_at hno hni hpn]
        exact ⟨t2, by omega, rfl, by simp⟩
      | false =>
        simp -implicitDefEqProofs (disch := omega) only [go_sem, ↓reduceIte, Nat.reduceEqDiff, f8]
        refine ⟨c.length - (i + 1), _, _, by omega, Shift.refl _ _ _ _, i + 1, t2, by omega, rfl, fun m hm => ?_, by omega, ?_⟩
        · rw [take_snoc hni] at hm
          simp at hm
          rcases hm with hm | rfl
          · exact hno m hm
          · exact hpn
        · simp -implicitDefEqProofs (disch := omega) only [go_sem, ↓reduceIte, reduceCtorEq, Nat.reduceEqDiff, Nat.succ_ne_zero, f0, f1, f7, e2]
    · have hi : i = c.length := by omega
      subst hi
      simp -implicitDefEqProofs (disch := omega) only [go_sem, ↓reduceIte, reduceCtorEq, Nat.reduceEqDiff, decide_false, f7, f8, Nat.lt_irrefl]
      rw [List.take_length] at hno
      exact ⟨t', ht, rfl, fstIdR_neg hno⟩
  · obtain ⟨t', ht, rfl, hE⟩ := hE
    rcases hE with ⟨rfl, f4⟩ | ⟨rfl, hh⟩
    · refine run_sem 1000 ?_
      simp -implicitDefEqProofs (disch := omega) only [go_sem, f4]
      exact ⟨t', ht, rfl⟩
    · refine run_sem 1000 ?_
      simp -implicitDefEqProofs (disch := omega) only [go_sem, ↓reduceIte, hh]
      exact ⟨t', ht, rfl⟩
theorem c_ContainsFuncR (hT : TabOk P tab) {base t : Nat} {o : List (Option Ob)} {f : V} {p : List Int → Bool} {c : List (List Int)} (hp : TellsR P G base f o p c) (hl : c.length ≤ 9223372036854775807) :
    C P G base n_slices_ContainsFunc_int_int_60 [.lst 1 (c.map row) false, f] ⟨t, o⟩ fun v σ => v = .bool (c.any p) ∧ ∃ t', t ≤ t' ∧ σ = ⟨t', o⟩ := by
  refine C_tab hT t_slices_ContainsFunc_int_int_60 (by simp [slices_ContainsFunc_int_int_60]) (W_run 1000 ?_)
  simp -implicitDefEqProofs (disch := omega) only [go_sem, ↓reduceIte, reduceCtorEq, Nat.reduceEqDiff, Nat.zero_add, slices_ContainsFunc_int_int_60, zq1l_0, zq1l_1]
  refine call hT t_slices_IndexFunc_int_int_77 (c_IndexFuncR hT hp hl) 1000 fun v σ hv => ?_
  obtain ⟨rfl, t', ht, rfl⟩ := hv
  simp -implicitDefEqProofs (disch := omega) only [go_sem, ↓reduceIte, reduceCtorEq, Nat.reduceEqDiff, ge_iff_le]
  rw [fstIdR_any]
  exact ⟨rfl, t', ht, rfl⟩
theorem c_notR (hT : TabOk P tab) {base tb : Nat} {o : List (Option Ob)} {f : V} {p : List Int → Bool} {c : List (List Int)} {k T : Nat} (ho : o[k]? = some (some (.arr tb T [f]))) (hp : TellsR P G base f o p c) :
    TellsR P G base (.fn (.func n_clause_all_int__S1_61) [] [.ptr k tb 0]) o (fun n => !p n) c := fun t n hn => by
  refine CV.of hT t_clause_all_int__S1_61 (C_tab hT t_clause_all_int__S1_61 (by simp [clause_all_int__S1_61]) (W_run 1000 ?_))
  simp -implicitDefEqProofs (disch := omega) only [go_sem, ↓reduceIte, reduceCtorEq, Nat.reduceEqDiff, Nat.zero_add, Nat.le_refl, clause_all_int__S1_61, zq1m_0, zq1m_1, ho]
  refine CV.use 1000 (hp t n hn) fun v σ hv => ?_
  obtain ⟨rfl, t', ht, rfl⟩ := hv
  simp -implicitDefEqProofs (disch := omega) only [go_sem, ↓reduceIte, reduceCtorEq, Nat.reduceEqDiff]
  exact ⟨t', ht, rfl⟩
theorem c_allR (hT : TabOk P tab) {base t g : Nat} {o : List (Option Ob)} {cap : List V} {p : List Int → Bool} {c : List (List Int)} (hb : base ≤ o.length) (hp : ∀ ex, TellsR P G base (.fn (.func g) [] cap) (o ++ ex) p c) (hl : c.length ≤ 9223372036854775807) :
    C P G base n_clause_all_int_34 [.lst 1 (c.map row) false, .fn (.func g) [] cap] ⟨t, o⟩ fun v σ => v = .bool (c.all p) ∧ ∃ t', t ≤ t' ∧ σ = ⟨t', o⟩ := by
  refine C_keep o.length hb (C_tab hT t_clause_all_int_34 (by simp [clause_all_int_34]) (W_run 1000 ?_))
  simp -implicitDefEqProofs (disch := omega) only [go_sem, ↓reduceIte, reduceCtorEq, Nat.reduceEqDiff, Nat.zero_add, clause_all_int_34, zqv_0, zqv_1]
  have hn := c_notR (P := P) (G := G) (base := base) (k := o.length) (tb := t) (T := 61) hT (by simp) (hp [some (.arr t 61 [.fn (.func g) [] cap])])
  refine call hT t_slices_ContainsFunc_int_int_60 (c_ContainsFuncR hT hn hl) 1000 fun v σ hv => ?_
  obtain ⟨rfl, t', ht, rfl⟩ := hv
  simp -implicitDefEqProofs (disch := omega) only [go_sem, ↓reduceIte, reduceCtorEq, Nat.reduceEqDiff]
  exact ⟨by simp, by rw [List.all_eq_not_any_not], t', by omega, rfl, by simp⟩
end Go.Proofs.YtingdebioipemaaDoor
/- Contracts: rows of clauses gone through by functions handed over; whether a formula holds. -/
namespace Go.Proofs.YtingdebioipemaaDoor
open Go Go.Am Go.Cl
set_option maxRecDepth 100000
variable {P : Program} {G : Nat → Option V}
theorem c_abs (hT : TabOk P tab) (n : Int) (h : -9223372036854775808 < n ∧ n ≤ 9223372036854775807) : Pure P G n_clause_abs [.int .i64 n] fun u => u = .int .i64 (av n) := by
  intro t
  have e := wneg64 (n := n) (by omega)
  have e2 : neg n = -n := by unfold neg; rw [if_neg (by omega)]
  have e3 : (if n < -n then -n else n) = av n := by unfold av; split <;> split <;> omega
  refine C_keep 0 (Nat.zero_le _) (C_tab hT t_clause_abs (by simp [clause_abs]) (W_run 1000 ?_))
  simp -implicitDefEqProofs (disch := omega) only [go_sem, ↓reduceIte, reduceCtorEq, Nat.reduceEqDiff, Nat.le_refl, gt_iff_lt, clause_abs, zqu_0, zqu_1, e, e2]
  rw [e3]
theorem lit_val {m : List Bool} {n : Int} (h0 : n ≠ 0) (h : -(m.length : Int) ≤ n ∧ n ≤ m.length) : ∃ b, m[(av n - 1).toNat]? = some b ∧ (b == decide (0 < n)) = litT m n := by
  have hlt : (av n - 1).toNat < m.length := by unfold av; split <;> omega
  refine ⟨m[(av n - 1).toNat], List.getElem?_eq_getElem hlt, ?_⟩
  unfold litT av at *
  rcases Int.lt_or_gt_of_ne h0 with hn | hn
  · rw [if_pos hn] at hlt
    simp only [if_pos hn]
    have e1 : decide (0 < n) = false := decide_eq_false (by omega)
    have e2 : decide (n > 0) = false := decide_eq_false (by omega)
    have e3 : decide (n < 0) = true := decide_eq_true hn
    rw [e1, e3, List.getD_eq_getElem?_getD, List.getD_eq_getElem?_getD, List.getElem?_eq_getElem hlt]
    cases m[(-n - 1).toNat] <;> simp
  · have hnn : ¬ n < 0 := by omega
    rw [if_neg hnn] at hlt
    simp only [if_neg hnn]
    have e1 : decide (0 < n) = true := decide_eq_true hn
    have e2 : decide (n > 0) = true := decide_eq_true hn
    have e3 : decide (n < 0) = false := decide_eq_false hnn
    rw [e1, e3, List.getD_eq_getElem?_getD, List.getD_eq_getElem?_getD, List.getElem?_eq_getElem hlt]
    cases m[(n - 1).toNat] <;> simp
theorem k_Holds_S1_S1 (hT : TabOk P tab) {base kb tb T : Nat} {o : List (Option Ob)} {m : List Bool} {c : List Int} (hc : ∀ n ∈ c, n ≠ 0 ∧ -(m.length : Int) ≤ n ∧ n ≤ m.length) (hm : m.length ≤ 16777216) (h1 : o[kb]? = some (some (.arr tb T [.lst 1 (m.map V.bool) false]))) :
    Tells P G base (.fn (.func n_clause_Holds_S1_S1) [] [.ptr kb tb 0]) o (litT m) c := fun t n hn => by
  obtain ⟨h0, hr⟩ := hc n hn
  have hA := c_abs (P := P) (G := G) hT n (by omega)
  obtain ⟨b, hb, hv⟩ := lit_val h0 hr
  have hav : 1 ≤ av n ∧ av n ≤ m.length := by unfold av; split <;> omega
  have e1 : IntKind.i64.wrap (av n - 1) = av n - 1 := wself (by omega)
  have e2 : 0 ≤ av n - 1 := by omega
  have e3 : av n - 1 < m.length := by omega
  have e4 : (m.map V.bool).getD (av n - 1).toNat V.any = .bool b := by
    rw [List.getD_eq_getElem?_getD, List.getElem?_map, hb]; rfl
  refine CV.of hT t_clause_Holds_S1_S1 (C_tab hT t_clause_Holds_S1_S1 (by simp [clause_Holds_S1_S1]) (W_run 1000 ?_))
  simp -implicitDefEqProofs (disch := omega) only [go_sem, ↓reduceIte, reduceCtorEq, Nat.reduceEqDiff, Nat.zero_add, Nat.le_refl, gt_iff_lt, clause_Holds_S1_S1, zqx_0, zqx_1, h1]
  refine callPS hT t_clause_abs hA rfl 1000 ?_
  simp -implicitDefEqProofs (disch := omega) only [go_sem, need_of, ↓reduceIte, reduceCtorEq, Nat.reduceEqDiff, Nat.zero_add, Nat.le_refl, e1, e2, e4, hv, List.length_map]
  exact ⟨t, Nat.le_refl _, rfl⟩
theorem k_Holds_S1 (hT : TabOk P tab) {base kb tb T : Nat} {o : List (Option Ob)} {m : List Bool} {F : List (List Int)} (hF : ∀ c ∈ F, ∀ n ∈ c, n ≠ 0 ∧ -(m.length : Int) ≤ n ∧ n ≤ m.length) (hc : ∀ c ∈ F, c.length ≤ 9223372036854775807) (hm : m.length ≤ 16777216) (h1 : o[kb]? = some (some (.arr tb T [.lst 1 (m.map V.bool) false]))) :
    TellsR P G base (.fn (.func n_clause_Holds_S1) [] [.ptr kb tb 0]) o (clauseT m) F := fun t c hcF => by
  refine CV.of hT t_clause_Holds_S1 (C_tab hT t_clause_Holds_S1 (by simp [clause_Holds_S1]) (W_run 1000 ?_))
  simp -implicitDefEqProofs (disch := omega) only [go_sem, ↓reduceIte, reduceCtorEq, Nat.reduceEqDiff, Nat.zero_add, clause_Holds_S1, zqw_0, zqw_1]
  refine call hT t_clause_some_int (c_some hT (k_Holds_S1_S1 hT (hF c hcF) hm h1) (hc c hcF)) 1000 fun v σ hv => ?_
  obtain ⟨rfl, t', ht, rfl⟩ := hv
  simp -implicitDefEqProofs (disch := omega) only [go_sem, ↓reduceIte, reduceCtorEq, Nat.reduceEqDiff]
  exact ⟨rfl, t', ht, rfl⟩
theorem c_Holds (hT : TabOk P tab) (v : Int) (F : List (List Int)) (m : List Bool) (hF : F.length ≤ 9223372036854775807) (hc : ∀ c ∈ F, c.length ≤ 9223372036854775807) (hm : m.length ≤ 9223372036854775807) :
    Pure P G n_clause_Holds [fml v F, bools m] fun u => u = .bool (holdsS v F m) := by
  intro t
  have hR := c_Right (P := P) (G := G) hT v F hF hc
  have nF : namelessL [fml v F] = true := by simp [fml, rows, namelessL, nameless]
  simp only [fml, rows, bools] at hR nF ⊢
  refine C_keep 0 (Nat.zero_le _) (C_tab hT t_clause_Holds (by simp [clause_Holds]) (W_run 12 ?_))
  simp -implicitDefEqProofs (disch := omega) only [go_sem, ↓reduceIte, reduceCtorEq, Nat.reduceAdd, Nat.reduceEqDiff, Nat.zero_add, Nat.le_refl, clause_Holds, zq7_0, zq7_1, zq7_2, zq7_3, false_implies, and_true]
  refine callPS hT t_clause_Right hR nF 4 ?_
  cases hr : right v F with
  | false =>
    have hh : holdsS v F m = false := by unfold holdsS; rw [hr]; rfl
    simp -implicitDefEqProofs (disch := omega) only [go_sem, ↓reduceIte, reduceCtorEq, Nat.reduceEqDiff, Bool.not_false, Bool.not_false]
    iterate 9 (try (refine run_sem 4 ?_; simp -implicitDefEqProofs (disch := omega) only [go_sem, ↓reduceIte, reduceCtorEq, Nat.reduceAdd, Nat.reduceEqDiff, Nat.zero_add, Nat.zero_le, true_and]))
    rw [hh]
  | true =>
    by_cases hv : (m.length : Int) = v
    · have hv1 : ((m.length : Int) == v) = true := by simp [hv]
      have hh : holdsS v F m = F.all (clauseT m) := by unfold holdsS; rw [hr, decide_eq_true hv]; simp
      obtain ⟨r1, r2⟩ := right_iff.1 hr
      simp -implicitDefEqProofs (disch := omega) only [go_sem, ↓reduceIte, reduceCtorEq, Nat.reduceAdd, Nat.reduceEqDiff, Nat.zero_add, Bool.not_true, Nat.le_refl, List.length_map, true_implies, and_true, Bool.not_true]
      iterate 5 (try (refine run_sem 4 ?_; simp -implicitDefEqProofs (disch := omega) only [go_sem, ↓reduceIte, reduceCtorEq, Nat.reduceAdd, Nat.reduceEqDiff, Nat.reduceLeDiff, Nat.zero_add, Nat.add_zero, Nat.le_refl, bne_self_eq_false, true_implies, and_true, hv]))
      have hK := fun ex => k_Holds_S1 (P := P) (G := G) (base := 0) (kb := 1) (tb := t + 1) (T := 25) (o := [some (.arr t 24 [.int .i64 v, .lst 1 (F.map row) false]), some (.arr (t + 1) 25 [.lst 1 (m.map V.bool) false])] ++ ex) (m := m) hT (F := F) (fun c h n hn => by have := r2 c h n hn; omega) hc (by omega) (by simp)
      refine call hT t_clause_all_int_34 (c_allR hT (o := [some (.arr t 24 [.int .i64 v, .lst 1 (F.map row) false]), some (.arr (t + 1) 25 [.lst 1 (m.map V.bool) false])]) (Nat.zero_le _) hK hF) 4 fun u σ hu => ?_
      obtain ⟨rfl, t', ht, rfl⟩ := hu
      simp -implicitDefEqProofs (disch := omega) only [go_sem, ↓reduceIte, reduceCtorEq, Nat.reduceAdd, Nat.reduceEqDiff, Nat.zero_add, Nat.zero_le, true_and]
      iterate 5 (try (refine run_sem 4 ?_; simp -implicitDefEqProofs (disch := omega) only [go_sem, need_of, ↓reduceIte, reduceCtorEq, Nat.reduceAdd, Nat.reduceEqDiff, Nat.reduceLeDiff, Nat.reduceLT, Nat.reduceSub, Nat.reduceMul, Int.reduceToNat, Int.reduceLE, Int.reduceLT, Int.reduceEq, Int.reduceNe, Nat.succ_ne_zero, Nat.zero_add, Nat.add_zero, Nat.mul_one, Nat.one_mul, Nat.zero_mul, decide_true, decide_false, Bool.not_true, Bool.not_false, Nat.le_refl, Nat.zero_le, ge_iff_le, gt_iff_lt, Nat.reduceBEq, Nat.reduceBNe, beq_self_eq_true, bne_self_eq_false, Option.isSome_some, Option.isSome_none, Option.getD_some, Option.getD_none, clause_Holds, zq7_0, zq7_1, zq7_2, zq7_3, List.length_map, false_implies, true_implies, true_and, and_true, not_true_eq_false, not_false_eq_true, Bool.not_true, Bool.not_false]))
      rw [hh]
    · have hv1 : ((m.length : Int) == v) = false := by simpa using hv
      have hh : holdsS v F m = false := by unfold holdsS; rw [hr, decide_eq_false hv]; rfl
      simp -implicitDefEqProofs (disch := omega) only [go_sem, ↓reduceIte, reduceCtorEq, Nat.reduceAdd, Nat.reduceEqDiff, Nat.zero_add, Bool.not_true, Nat.le_refl, List.length_map, true_implies, and_true, Bool.not_true]
      iterate 9 (try (refine run_sem 4 ?_; simp -implicitDefEqProofs (disch := omega) only [go_sem, ↓reduceIte, reduceCtorEq, Nat.reduceAdd, Nat.reduceEqDiff, Nat.reduceLeDiff, Nat.zero_add, Nat.add_zero, Nat.zero_le, false_implies, true_implies, true_and, and_true, not_false_eq_true, hv]))
      rw [hh]
end Go.Proofs.YtingdebioipemaaDoor
/- The law ClauseOrder: the turned formula is made. -/
namespace Go.Proofs.YtingdebioipemaaDoor
open Go Go.Am Go.Cl
set_option maxRecDepth 100000
variable {P : Program} {G : Nat → Option V}
def oR (t t7 tw : Nat) (v : Int) (F R : List (List Int)) : List (Option Ob) :=
  [some (.arr t 24 [.int .i64 v, .lst 1 (F.map row) false]), some (.arr t7 24 [.int .i64 v, .sl 2 tw 0 1 R.length none]), some (.arr tw 28 (R.map row))]
abbrev oiJ (t t7 tw : Nat) (v : Int) (F R : List (List Int)) (m : List Bool) (tn : Int) (i : Nat) (c : List Int) : Nat → Fr → H → Prop := fun z fr σ => ∃ k t3 tl, k ≤ c.length ∧ z = c.length - k ∧ fget fr 1 = .lst 1 (m.map V.bool) false ∧ fget fr 2 = .int .u8 tn ∧ fget fr 3 = .ptr 0 t 0 ∧ fget fr 7 = .ptr 1 t7 0 ∧ fget fr 8 = .int .i64 ((i : Nat) : Int) ∧ fget fr 9 = .lst 1 (ints c) false ∧ fget fr 10 = .sl 3 tl 0 1 k none ∧ fget fr 11 = .int .i64 ((c.length : Int) - 1 - k) ∧ σ = ⟨t3, oR t t7 tw v F R ++ [some (.arr tl 3 (ints (c.reverse.take k)))]⟩
abbrev oiE (t t7 tw : Nat) (v : Int) (F R : List (List Int)) (m : List Bool) (tn : Int) (i : Nat) (c : List Int) : AE → Fr → H → Prop := fun e fr σ => ∃ t3 tl, e = .ex 2 ∧ fget fr 1 = .lst 1 (m.map V.bool) false ∧ fget fr 2 = .int .u8 tn ∧ fget fr 3 = .ptr 0 t 0 ∧ fget fr 7 = .ptr 1 t7 0 ∧ fget fr 8 = .int .i64 ((i : Nat) : Int) ∧ fget fr 9 = .lst 1 (ints c) false ∧ fget fr 10 = .sl 3 tl 0 1 c.length none ∧ σ = ⟨t3, oR t t7 tw v F R ++ [some (.arr tl 3 (ints c.reverse))]⟩
theorem oi_round {t t7 tw : Nat} {v : Int} {F R : List (List Int)} {m : List Bool} {tn : Int} {i : Nat} {c : List Int} (hcl : c.length ≤ 1000) {z : Nat} {fr : Fr} {σ : H} (hJ : oiJ t t7 tw v F R m tn i c z fr σ) :
    W P G 113 0 (AC.seq (AC.seq (AC.reg zq0_9 [50])   (AC.cond (Arg.t 51)   AC.skip   (AC.exit 2)))   (AC.seq (AC.block 3 (AC.reg zq0_10 [54, 55, 56, 57, 58, 59, 60]))   (AC.reg zq0_11 [52, 53]))) fr σ (seqQ (fun fr σ => ∃ m' fr' σ', m' < z ∧ Shift G 113 0 fr σ fr' σ' ∧ oiJ t t7 tw v F R m tn i c m' fr' σ') (oiE t t7 tw v F R m tn i c)) := by
  obtain ⟨k, t3, tl, hk, rfl, f1, f2, f3, f7, f8, f9, f10, f11, rfl⟩ := hJ
  rcases Nat.lt_or_ge k c.length with hlt | hge
  · obtain ⟨n, hn⟩ : ∃ n, c.reverse[k]? = some n := ⟨_, List.getElem?_eq_getElem (by simpa using hlt)⟩
    have hn' : c[c.length - 1 - k]? = some n := by rw [List.getElem?_reverse hlt] at hn; exact hn
    have hD := ints_getD hn'
    have e0 : ((c.length : Int) - 1 - k) = ((c.length - 1 - k : Nat) : Int) := by omega
    have h1 : (0 : Int) ≤ ((c.length - 1 - k : Nat) : Int) := by omega
    have h2 : c.length - 1 - k < c.length := by omega
    have e3 : IntKind.i64.wrap (((c.length - 1 - k : Nat) : Int) - 1) = (c.length : Int) - 1 - ((k + 1 : Nat) : Int) := by rw [wself (by omega)]; omega
    have hts := take_snoc hn
    have hap : ints (c.reverse.take k) ++ [V.int .i64 n] = ints (c.reverse.take (k + 1)) := by rw [hts]; simp [ints]
    have hlk : (c.reverse.take k).length = k := by simp; omega
    rw [e0] at f11
    refine W_round [(1, .lst 1 (m.map V.bool) false), (2, .int .u8 tn), (3, .ptr 0 t 0), (7, .ptr 1 t7 0), (8, .int .i64 ((i : Nat) : Int)), (9, .lst 1 (ints c) false), (10, .sl 3 tl 0 1 k none), (11, .int .i64 ((c.length - 1 - k : Nat) : Int))] ⟨f1, f2, f3, f7, f8, f9, f10, f11, trivial⟩  1000 ?_
    simp -implicitDefEqProofs (disch := omega) only [go_sem, need_of, ↓reduceIte, reduceCtorEq, Nat.reduceEqDiff, Nat.reduceLeDiff, Nat.zero_add, Nat.mul_one, decide_true, Bool.not_true, Nat.le_refl, Nat.zero_le, ge_iff_le, zq0_9, zq0_10, zq0_11, oR, ints_length, true_implies, true_and, and_true, Bool.not_true, h1, h2, hD, hlk]
    refine ⟨c.length - (k + 1), _, _, by omega, Shift.refl _ _ _ _, k + 1, t3 + 1, t3, by omega, rfl, ?_⟩
    simp -implicitDefEqProofs (disch := omega) only [go_sem, ↓reduceIte, Nat.reduceEqDiff, oR, and_true, e3, hap]
  · have hk' : k = c.length := by omega
    subst hk'
    have e0 : ((c.length : Int) - 1 - c.length) = -1 := by omega
    rw [e0] at f11
    refine W_round [(1, .lst 1 (m.map V.bool) false), (2, .int .u8 tn), (3, .ptr 0 t 0), (7, .ptr 1 t7 0), (8, .int .i64 ((i : Nat) : Int)), (9, .lst 1 (ints c) false), (10, .sl 3 tl 0 1 c.length none), (11, .int .i64 (-1))] ⟨f1, f2, f3, f7, f8, f9, f10, f11, trivial⟩  1000 ?_
    simp -implicitDefEqProofs (disch := omega) only [go_sem, ↓reduceIte, Nat.reduceEqDiff, Int.reduceLE, decide_false, ge_iff_le, zq0_9, zq0_10, zq0_11, oR, Int.reduceNeg]
    refine ⟨t3, tl, rfl, rfl, rfl, rfl, rfl, rfl, rfl, rfl, ?_⟩
    rw [List.take_of_length_le (by simp)]
    rfl
theorem turned_at {F : List (List Int)} {i : Nat} {tn : Int} (hi : i < F.length) (hF : F.length ≤ 1000) (ht : 0 ≤ tn ∧ tn ≤ 255) : ∃ c, F[(i + tn.toNat) % F.length]? = some c ∧ turnAt F tn.toNat i = c ∧ c ∈ F ∧ IntKind.i64.wrap ((i : Int) + tn) = ((i + tn.toNat : Nat) : Int) ∧ (((i + tn.toNat : Nat) : Int)).tmod F.length = (((i + tn.toNat) % F.length : Nat) : Int) ∧ (i + tn.toNat) % F.length < F.length := by
  have hm := Nat.mod_lt (i + tn.toNat) (show 0 < F.length by omega)
  refine ⟨F[(i + tn.toNat) % F.length], List.getElem?_eq_getElem hm, ?_, List.getElem_mem _, ?_, ?_, hm⟩
  · unfold turnAt; rw [List.getD_eq_getElem?_getD, List.getElem?_eq_getElem hm]; rfl
  · rw [wself (by omega)]; omega
  · rw [Int.tmod_eq_emod_of_nonneg (by omega)]; omega
abbrev ooJ (t t7 : Nat) (v : Int) (F : List (List Int)) (m : List Bool) (tn : Int) : Nat → Fr → H → Prop := fun i fr σ => ∃ t3 tw, fget fr 1 = .lst 1 (m.map V.bool) false ∧ fget fr 2 = .int .u8 tn ∧ fget fr 3 = .ptr 0 t 0 ∧ fget fr 7 = .ptr 1 t7 0 ∧ fget fr 8 = .int .i64 ((i : Nat) : Int) ∧ σ = ⟨t3, oR t t7 tw v F (turned F tn.toNat i)⟩
abbrev ooE (t t7 : Nat) (v : Int) (F : List (List Int)) (m : List Bool) (tn : Int) : AE → Fr → H → Prop := fun e fr σ => ∃ t3 tw, e = .ex 0 ∧ fget fr 1 = .lst 1 (m.map V.bool) false ∧ fget fr 3 = .ptr 0 t 0 ∧ fget fr 7 = .ptr 1 t7 0 ∧ σ = ⟨t3, oR t t7 tw v F (turned F tn.toNat F.length)⟩
theorem oo_round0 {t t7 : Nat} {v : Int} {F : List (List Int)} {m : List Bool} {tn : Int} (hF : F.length ≤ 1000) (hc : ∀ c ∈ F, c.length ≤ 1000) (ht : 0 ≤ tn ∧ tn ≤ 255) {i : Nat} (hi : i < F.length) (h3 : ¬ i % 3 = 0) {fr : Fr} {σ : H} (hJ : ooJ t t7 v F m tn i fr σ) :
    W P G 113 0 (AC.seq (AC.seq (AC.reg zq0_5 [28, 29, 30, 31])   (AC.cond (Arg.t 32)   AC.skip   (AC.exit 0)))   (AC.seq (AC.block 1 (AC.seq (AC.reg zq0_6 [35, 36, 37, 38, 39, 40, 41, 42, 43, 44, 45, 46])   (AC.seq (AC.reg zq0_7 [])   (AC.seq (AC.seq (AC.reg zq0_8 [47, 48, 49])   (AC.block 2 (AC.loop (AC.seq (AC.seq (AC.reg zq0_9 [50])   (AC.cond (Arg.t 51)   AC.skip   (AC.exit 2)))   (AC.seq (AC.block 3 (AC.reg zq0_10 [54, 55, 56, 57, 58, 59, 60]))   (AC.reg zq0_11 [52, 53]))))))   (AC.seq (AC.reg zq0_12 [61, 62, 63, 64, 65, 66])   (AC.seq (AC.reg zq0_13 [67, 68])   (AC.cond (Arg.t 69)   (AC.reg zq0_14 [70, 71, 72, 73, 74, 75])   AC.skip)))))))   (AC.reg zq0_15 [33, 34]))) fr σ (seqQ (fun fr σ => ∃ fr' σ', Shift G 113 0 fr σ fr' σ' ∧ ooJ t t7 v F m tn (i + 1) fr' σ') (ooE t t7 v F m tn)) := by
  obtain ⟨t3, tw, f1, f2, f3, f7, f8, rfl⟩ := hJ
  obtain ⟨c, hcat, hta, hcm, w1, w2, hlt⟩ := turned_at hi hF ht
  obtain ⟨_, hD, _⟩ := at_rows hcat (by omega)
  have hcl := hc c hcm
  have e2 : IntKind.i64.wrap ((i : Int) + 1) = ((i + 1 : Nat) : Int) := by rw [wself (by omega)]; omega
  have hiF : i < F.length := hi
  have hRl := turned_len (F := F) (k := tn.toNat) i
  have hsn := turned_succ (F := F) (k := tn.toNat) (n := i)
  have hl1 : IntKind.i64.wrap ((c.length : Int) - 1) = (c.length : Int) - 1 := wself (by omega)
  have hcv : IntKind.i64.wrap tn = tn := wself (by omega)
  have hF0 : ¬ ((F.length : Int) = 0) := by omega
  unfold turnOne at hsn
  rw [hta, if_neg h3] at hsn
  generalize turned F tn.toNat i = R at *
  have hap : R.map row ++ [V.lst 1 (ints c.reverse) false] = (R ++ [c.reverse]).map row := by simp [row]
  have b1 : (R.length + 1) * 24 ≤ 140737488355328 := by omega
  have b2 : R.length + 1 ≤ 9223372036854775807 := by omega
  have b0 : R.length + 1 + 1 ≤ 2100 := by omega
  have b3 : (R.length + 1 + 1) * 24 ≤ 140737488355328 := Nat.le_trans (Nat.mul_le_mul_right 24 b0) (by decide)
  have b4 : R.length + 1 + 1 ≤ 9223372036854775807 := Nat.le_trans b0 (by decide)
  have e3 : ((i : Int)).tmod 3 = ((i % 3 : Nat) : Int) := by rw [Int.tmod_eq_emod_of_nonneg (by omega)]; omega
  have hz : List.take c.length (ints c.reverse) = ints c.reverse := List.take_of_length_le (by simp [ints])
  have hmr : ∀ tl, (R.map row).map (frzV 3 tl (ints c.reverse)) = R.map row := fun tl => by simp [frzV, row]
  have hmF : ∀ tl, (F.map row).map (frzV 3 tl (ints c.reverse)) = F.map row := fun tl => by simp [frzV, row]
  have h3' : (((i % 3 : Nat) : Int) = 0) = False := eq_false (by omega)
  refine W_round [(1, .lst 1 (m.map V.bool) false), (2, .int .u8 tn), (3, .ptr 0 t 0), (7, .ptr 1 t7 0), (8, .int .i64 ((i : Nat) : Int))] ⟨f1, f2, f3, f7, f8, trivial⟩  1000 ?_
  simp -implicitDefEqProofs (disch := omega) only [go_sem, need_of, ↓reduceIte, Nat.reduceAdd, Nat.reduceEqDiff, Nat.zero_add, decide_true, Nat.le_refl, zq0_5, zq0_6, zq0_7, zq0_8, zq0_9, zq0_10, zq0_11, zq0_12, zq0_13, zq0_14, zq0_15, oR, List.length_map, ints_length, true_implies, and_true, not_false_eq_true, hiF, w1, w2, hlt, hD, hcv, hF0, hl1]
  refine sem_shift (Shift.own (s := 10) (z := 0) (sz := 1) (T := 3) (by simp -implicitDefEqProofs (disch := omega) only [go_sem, ↓reduceIte, Nat.reduceEqDiff]) (by decide)) ?_
  simp -implicitDefEqProofs (disch := omega) only [go_sem, ↓reduceIte, Nat.reduceAdd, Nat.reduceEqDiff, Nat.zero_add, H.push, List.length_cons, List.length_nil, List.cons_append, List.nil_append]
  refine sem_invE (oiJ t t7 tw v F R m tn i c) (oiE t t7 tw v F R m tn i c) (m0 := c.length) ⟨0, t3 + 1, t3, by omega, rfl, ?_⟩ (fun z fr σ hJ => oi_round hcl hJ) (fun e fr σ hE => ?_)
  · simp -implicitDefEqProofs (disch := omega) only [go_sem, ↓reduceIte, Nat.reduceEqDiff, oR, true_and]
    simp [ints]
  · obtain ⟨t4, tl, rfl, f1, f2, f3, f7, f8, f9, f10, rfl⟩ := hE
    have hmr := hmr tl
    refine sem_exitS [(1, .lst 1 (m.map V.bool) false), (2, .int .u8 tn), (3, .ptr 0 t 0), (7, .ptr 1 t7 0), (8, .int .i64 ((i : Nat) : Int)), (9, .lst 1 (ints c) false), (10, .sl 3 tl 0 1 c.length none)] ⟨f1, f2, f3, f7, f8, f9, f10, trivial⟩ ?_
    refine sem_shift (Shift.freeze (k := 3) (v := tl) (T := 3) (cs := ints c.reverse) (Nat.zero_le _) rfl (ints_nameless _)) ?_
    simp only [frzFr_cons, frzFr_nil, frzV, rowsV, oR, mapFrom, Ob.mapV, List.set_cons_succ, List.set_cons_zero, Option.map_some, Option.map_none, List.map_cons, List.map_nil, ints_length, hmr, List.cons_append, List.nil_append]
    refine run_sem 1000 ?_
    simp -implicitDefEqProofs (disch := omega) only [go_sem, ↓reduceIte, reduceCtorEq, Nat.reduceAdd, Nat.reduceEqDiff, Nat.reduceLeDiff, Int.reduceEq, Nat.succ_ne_zero, Nat.zero_add, Nat.mul_one, Bool.not_true, Bool.not_false, Nat.le_refl, Nat.zero_le, List.length_map, false_implies, true_implies, true_and, and_true, not_false_eq_true, Bool.not_true, Bool.not_false, Nat.le_refl, hz, List.length_reverse, b1, b2, e3, h3', hap]
    refine ⟨_, _, Shift.drop (o' := oR t t7 t4 v F (R ++ [c.reverse])) (t' := t4 + 1) (by simp [subObs, oR, row]) (Nat.le_refl _) (Nat.zero_le _), t4 + 1, t4, ?_⟩
    simp -implicitDefEqProofs (disch := omega) only [go_sem, ↓reduceIte, Nat.reduceEqDiff, Nat.zero_add, oR, and_true, e2, hsn, List.length_append]
end Go.Proofs.YtingdebioipemaaDoor
/- The law ClauseOrder: the turned formula is made: a clause twice. -/
namespace Go.Proofs.YtingdebioipemaaDoor
open Go Go.Am Go.Cl
set_option maxRecDepth 100000
variable {P : Program} {G : Nat → Option V}
theorem oo_round3 {t t7 : Nat} {v : Int} {F : List (List Int)} {m : List Bool} {tn : Int} (hF : F.length ≤ 1000) (hc : ∀ c ∈ F, c.length ≤ 1000) (ht : 0 ≤ tn ∧ tn ≤ 255) {i : Nat} (hi : i < F.length) (h3 : i % 3 = 0) {fr : Fr} {σ : H} (hJ : ooJ t t7 v F m tn i fr σ) :
    W P G 113 0 (AC.seq (AC.seq (AC.reg zq0_5 [28, 29, 30, 31])   (AC.cond (Arg.t 32)   AC.skip   (AC.exit 0)))   (AC.seq (AC.block 1 (AC.seq (AC.reg zq0_6 [35, 36, 37, 38, 39, 40, 41, 42, 43, 44, 45, 46])   (AC.seq (AC.reg zq0_7 [])   (AC.seq (AC.seq (AC.reg zq0_8 [47, 48, 49])   (AC.block 2 (AC.loop (AC.seq (AC.seq (AC.reg zq0_9 [50])   (AC.cond (Arg.t 51)   AC.skip   (AC.exit 2)))   (AC.seq (AC.block 3 (AC.reg zq0_10 [54, 55, 56, 57, 58, 59, 60]))   (AC.reg zq0_11 [52, 53]))))))   (AC.seq (AC.reg zq0_12 [61, 62, 63, 64, 65, 66])   (AC.seq (AC.reg zq0_13 [67, 68])   (AC.cond (Arg.t 69)   (AC.reg zq0_14 [70, 71, 72, 73, 74, 75])   AC.skip)))))))   (AC.reg zq0_15 [33, 34]))) fr σ (seqQ (fun fr σ => ∃ fr' σ', Shift G 113 0 fr σ fr' σ' ∧ ooJ t t7 v F m tn (i + 1) fr' σ') (ooE t t7 v F m tn)) := by
  obtain ⟨t3, tw, f1, f2, f3, f7, f8, rfl⟩ := hJ
  obtain ⟨c, hcat, hta, hcm, w1, w2, hlt⟩ := turned_at hi hF ht
  obtain ⟨_, hD, _⟩ := at_rows hcat (by omega)
  have hcl := hc c hcm
  have e2 : IntKind.i64.wrap ((i : Int) + 1) = ((i + 1 : Nat) : Int) := by rw [wself (by omega)]; omega
  have hiF : i < F.length := hi
  have hRl := turned_len (F := F) (k := tn.toNat) i
  have hsn := turned_succ (F := F) (k := tn.toNat) (n := i)
  have hl1 : IntKind.i64.wrap ((c.length : Int) - 1) = (c.length : Int) - 1 := wself (by omega)
  have hcv : IntKind.i64.wrap tn = tn := wself (by omega)
  have hF0 : ¬ ((F.length : Int) = 0) := by omega
  unfold turnOne at hsn
  rw [hta, if_pos h3] at hsn
  generalize turned F tn.toNat i = R at *
  have hap : R.map row ++ [V.lst 1 (ints c.reverse) false] = (R ++ [c.reverse]).map row := by simp [row]
  have b1 : (R.length + 1) * 24 ≤ 140737488355328 := by omega
  have b2 : R.length + 1 ≤ 9223372036854775807 := by omega
  have b0 : R.length + 1 + 1 ≤ 2100 := by omega
  have b3 : (R.length + 1 + 1) * 24 ≤ 140737488355328 := Nat.le_trans (Nat.mul_le_mul_right 24 b0) (by decide)
  have b4 : R.length + 1 + 1 ≤ 9223372036854775807 := Nat.le_trans b0 (by decide)
  have hl5 : (R ++ [c.reverse]).length = R.length + 1 := by simp
  have e3 : ((i : Int)).tmod 3 = ((i % 3 : Nat) : Int) := by rw [Int.tmod_eq_emod_of_nonneg (by omega)]; omega
  have hz : List.take c.length (ints c.reverse) = ints c.reverse := List.take_of_length_le (by simp [ints])
  have hmr : ∀ tl, (R.map row).map (frzV 3 tl (ints c.reverse)) = R.map row := fun tl => by simp [frzV, row]
  have hmF : ∀ tl, (F.map row).map (frzV 3 tl (ints c.reverse)) = F.map row := fun tl => by simp [frzV, row]
  have h3' : ((i % 3 : Nat) : Int) = 0 := by omega
  have hap2 : (R ++ [c.reverse]).map row ++ [V.lst 1 (ints c) false] = (R ++ [c.reverse, c]).map row := by simp [row]
  refine W_round [(1, .lst 1 (m.map V.bool) false), (2, .int .u8 tn), (3, .ptr 0 t 0), (7, .ptr 1 t7 0), (8, .int .i64 ((i : Nat) : Int))] ⟨f1, f2, f3, f7, f8, trivial⟩  1000 ?_
  simp -implicitDefEqProofs (disch := omega) only [go_sem, need_of, ↓reduceIte, Nat.reduceAdd, Nat.reduceEqDiff, Nat.zero_add, decide_true, Nat.le_refl, zq0_5, zq0_6, zq0_7, zq0_8, zq0_9, zq0_10, zq0_11, zq0_12, zq0_13, zq0_14, zq0_15, oR, List.length_map, ints_length, true_implies, and_true, not_false_eq_true, hiF, w1, w2, hlt, hD, hcv, hF0, hl1]
  refine sem_shift (Shift.own (s := 10) (z := 0) (sz := 1) (T := 3) (by simp -implicitDefEqProofs (disch := omega) only [go_sem, ↓reduceIte, Nat.reduceEqDiff]) (by decide)) ?_
  simp -implicitDefEqProofs (disch := omega) only [go_sem, ↓reduceIte, Nat.reduceAdd, Nat.reduceEqDiff, Nat.zero_add, H.push, List.length_cons, List.length_nil, List.cons_append, List.nil_append]
  refine sem_invE (oiJ t t7 tw v F R m tn i c) (oiE t t7 tw v F R m tn i c) (m0 := c.length) ⟨0, t3 + 1, t3, by omega, rfl, ?_⟩ (fun z fr σ hJ => oi_round hcl hJ) (fun e fr σ hE => ?_)
  · simp -implicitDefEqProofs (disch := omega) only [go_sem, ↓reduceIte, Nat.reduceEqDiff, oR, true_and]
    simp [ints]
  · obtain ⟨t4, tl, rfl, f1, f2, f3, f7, f8, f9, f10, rfl⟩ := hE
    have hmr := hmr tl
    refine sem_exitS [(1, .lst 1 (m.map V.bool) false), (2, .int .u8 tn), (3, .ptr 0 t 0), (7, .ptr 1 t7 0), (8, .int .i64 ((i : Nat) : Int)), (9, .lst 1 (ints c) false), (10, .sl 3 tl 0 1 c.length none)] ⟨f1, f2, f3, f7, f8, f9, f10, trivial⟩ ?_
    refine sem_shift (Shift.freeze (k := 3) (v := tl) (T := 3) (cs := ints c.reverse) (Nat.zero_le _) rfl (ints_nameless _)) ?_
    simp only [frzFr_cons, frzFr_nil, frzV, rowsV, oR, mapFrom, Ob.mapV, List.set_cons_succ, List.set_cons_zero, Option.map_some, Option.map_none, List.map_cons, List.map_nil, ints_length, hmr, List.cons_append, List.nil_append]
    refine run_sem 1000 ?_
    simp -implicitDefEqProofs (disch := omega) only [go_sem, ↓reduceIte, reduceCtorEq, Nat.reduceAdd, Nat.reduceEqDiff, Int.reduceEq, Nat.succ_ne_zero, Nat.zero_add, Nat.mul_one, Bool.not_true, Bool.not_false, Nat.le_refl, Nat.zero_le, beq_self_eq_true, List.length_map, true_implies, and_true, not_false_eq_true, Bool.not_true, Bool.not_false, Nat.le_refl, hz, List.length_reverse, b1, b2, b3, b4, e3, h3', hap, hap2, hl5]
    refine ⟨_, _, Shift.drop (o' := oR t t7 (t4 + 1) v F (R ++ [c.reverse, c])) (t' := t4 + 1 + 1) (by simp [subObs, oR, row]) (Nat.le_refl _) (Nat.zero_le _), t4 + 1 + 1, t4 + 1, ?_⟩
    simp -implicitDefEqProofs (disch := omega) only [go_sem, ↓reduceIte, Nat.reduceAdd, Nat.reduceEqDiff, Nat.zero_add, oR, and_true, e2, hsn, List.length_append]
theorem oo_round {t t7 : Nat} {v : Int} {F : List (List Int)} {m : List Bool} {tn : Int} (hF : F.length ≤ 1000) (hc : ∀ c ∈ F, c.length ≤ 1000) (ht : 0 ≤ tn ∧ tn ≤ 255) {i : Nat} (hi : i < F.length) {fr : Fr} {σ : H} (hJ : ooJ t t7 v F m tn i fr σ) :
    W P G 113 0 (AC.seq (AC.seq (AC.reg zq0_5 [28, 29, 30, 31])   (AC.cond (Arg.t 32)   AC.skip   (AC.exit 0)))   (AC.seq (AC.block 1 (AC.seq (AC.reg zq0_6 [35, 36, 37, 38, 39, 40, 41, 42, 43, 44, 45, 46])   (AC.seq (AC.reg zq0_7 [])   (AC.seq (AC.seq (AC.reg zq0_8 [47, 48, 49])   (AC.block 2 (AC.loop (AC.seq (AC.seq (AC.reg zq0_9 [50])   (AC.cond (Arg.t 51)   AC.skip   (AC.exit 2)))   (AC.seq (AC.block 3 (AC.reg zq0_10 [54, 55, 56, 57, 58, 59, 60]))   (AC.reg zq0_11 [52, 53]))))))   (AC.seq (AC.reg zq0_12 [61, 62, 63, 64, 65, 66])   (AC.seq (AC.reg zq0_13 [67, 68])   (AC.cond (Arg.t 69)   (AC.reg zq0_14 [70, 71, 72, 73, 74, 75])   AC.skip)))))))   (AC.reg zq0_15 [33, 34]))) fr σ (seqQ (fun fr σ => ∃ fr' σ', Shift G 113 0 fr σ fr' σ' ∧ ooJ t t7 v F m tn (i + 1) fr' σ') (ooE t t7 v F m tn)) := by
  by_cases h3 : i % 3 = 0
  · exact oo_round3 hF hc ht hi h3 hJ
  · exact oo_round0 hF hc ht hi h3 hJ
theorem turned_rows {F : List (List Int)} {k : Nat} (hc : ∀ c ∈ F, c.length ≤ 1000) : ∀ c ∈ turned F k F.length, c.length ≤ 1000 := fun c hcm => by
  obtain ⟨i, hi, h⟩ := List.mem_flatMap.1 hcm
  have h0 : 0 < F.length := by have := List.mem_range.1 hi; omega
  have hm := hc _ (turnAt_mem (k := k) (i := i) h0)
  rcases turnOne_mem h with rfl | rfl
  · simpa using hm
  · exact hm
theorem c_ClauseOrder (hT : TabOk Tryd.prog tab) (K : BufK Tryd.prog) (It : ItoaK Tryd.prog G) (v : Int) (F : List (List Int)) (m : List Bool) (tn : Int) (hF : F.length ≤ 9223372036854775807) (hFc : ∀ c ∈ F, c.length ≤ 9223372036854775807) (hm : m.length ≤ 9223372036854775807) (ht : 0 ≤ tn ∧ tn ≤ 255) :
    Am.Pure Tryd.prog G n_proofmarklaw05_ClauseOrder [fml v F, bools m, .int .u8 tn] fun u => u = .bool true := by
  have hW := c_works (G := G) hT K It
  have hf := c_few5 (P := Tryd.prog) (G := G) hT v F 40 (by omega) hF hFc
  have nF : namelessL [fml v F] = true := by simp [fml, rows, namelessL, nameless]
  have nFm : namelessL [fml v F, bools m] = true := by simp [fml, rows, bools, namelessL, nameless]
  have nF40 : namelessL [fml v F, .int .i64 40] = true := by simp [fml, rows, namelessL, nameless]
  intro t
  simp only [fml, rows, bools] at hf nF nFm nF40 ⊢
  refine C_keep 0 (Nat.zero_le _) (C_tab hT t_proofmarklaw05_ClauseOrder (by simp [proofmarklaw05_ClauseOrder]) (W_run 1000 ?_))
  simp -implicitDefEqProofs (disch := omega) only [go_sem, ↓reduceIte, reduceCtorEq, Nat.reduceAdd, Nat.reduceEqDiff, Nat.zero_add, Nat.le_refl, proofmarklaw05_ClauseOrder, zq0_0, zq0_1, zq0_2, zq0_3, zq0_4, zq0_5, zq0_6, zq0_7, zq0_8, zq0_9, zq0_10, zq0_11, zq0_12, zq0_13, zq0_14, zq0_15, zq0_16, zq0_17, zq0_18]
  refine callPS hT t_proofmarklaw05_few hf nF40 4 ?_
  cases h1 : few5 F 40 with
  | false =>
    simp -implicitDefEqProofs (disch := omega) only [go_sem, ↓reduceIte, reduceCtorEq, Nat.reduceEqDiff, Bool.not_false, Bool.not_false]
    iterate 9 (try (refine run_sem 4 ?_; simp -implicitDefEqProofs (disch := omega) only [go_sem, ↓reduceIte, reduceCtorEq, Nat.reduceEqDiff]))
    refine callPS hT t_proofmarklaw05_works hW rfl 4 ?_
    simp -implicitDefEqProofs (disch := omega) only [go_sem, ↓reduceIte, reduceCtorEq, Nat.reduceEqDiff]
    iterate 4 (try (refine run_sem 4 ?_; simp -implicitDefEqProofs (disch := omega) only [go_sem, ↓reduceIte, reduceCtorEq, Nat.reduceEqDiff, Nat.zero_add, Nat.zero_le]))
  | true =>
    rcases Nat.lt_or_ge 100 m.length with h2 | h2
    · have h2' : decide ((100 : Int) < (m.length : Int)) = true := decide_eq_true (by omega)
      have h2'' : (100 : Int) < (m.length : Int) := by omega
      simp -implicitDefEqProofs (disch := omega) only [go_sem, ↓reduceIte, reduceCtorEq, Nat.reduceAdd, Nat.reduceEqDiff, Nat.zero_add, Bool.not_true, List.length_map, Bool.not_true]
      iterate 9 (try (refine run_sem 4 ?_; simp -implicitDefEqProofs (disch := omega) only [go_sem, ↓reduceIte, reduceCtorEq, Nat.reduceAdd, Nat.reduceEqDiff, decide_true, gt_iff_lt, h2'']))
      refine callPS hT t_proofmarklaw05_works hW rfl 4 ?_
      simp -implicitDefEqProofs (disch := omega) only [go_sem, ↓reduceIte, reduceCtorEq, Nat.reduceEqDiff]
      iterate 4 (try (refine run_sem 4 ?_; simp -implicitDefEqProofs (disch := omega) only [go_sem, ↓reduceIte, reduceCtorEq, Nat.reduceEqDiff, Nat.zero_add, Nat.zero_le]))
    · have h2' : decide ((100 : Int) < (m.length : Int)) = false := decide_eq_false (by omega)
      have h2'' : ¬ (100 : Int) < (m.length : Int) := by omega
      have hfw : F.length ≤ 40 ∧ ∀ c ∈ F, c.length ≤ 30 := by
        unfold few5 at h1
        simp only [Bool.and_eq_true, decide_eq_true_eq, List.all_eq_true] at h1
        exact h1
      have hc30 : ∀ c ∈ F, c.length ≤ 1000 := fun c h => by have := hfw.2 c h; omega
      have hTl := turned_len (F := F) (k := tn.toNat) F.length
      have hTr := turned_rows (F := F) (k := tn.toNat) hc30
      have hsl : rowsV 1 (F.length) = rowsV 1 F.length := rfl
      have hTn := rows_nameless (turned F tn.toNat F.length)
      have hrr : right v (turned F tn.toNat F.length) = right v F := turned_right (by omega)
      have hU := c_Units (P := Tryd.prog) (G := G) hT sortU v F (by omega) hc30
      have hU2 := c_Units (P := Tryd.prog) (G := G) hT sortU v (turned F tn.toNat F.length) (by omega) hTr
      obtain ⟨l, b2, eu, lu⟩ := units_form v F
      replace hU : Am.Pure Tryd.prog G n_clause_Units [fml v F] fun u => u = .tup [row l, .bool b2] := by
        rcases eu with ⟨e1, rfl, rfl⟩ | ⟨e1, e2, rfl, rfl⟩ | ⟨e1, e2, rfl⟩
        · simpa [e1] using hU
        · simpa [e1, e2] using hU
        · simpa [e1, e2] using hU
      replace hU2 : Am.Pure Tryd.prog G n_clause_Units [fml v (turned F tn.toNat F.length)] fun u => u = .tup [row l, .bool b2] := by
        rcases eu with ⟨e1, rfl, rfl⟩ | ⟨e1, e2, rfl, rfl⟩ | ⟨e1, e2, rfl⟩
        · simpa [hrr, e1] using hU2
        · have := turned_units (k := tn.toNat) (right_nz e1)
          simpa [hrr, e1, this, e2] using hU2
        · have := turned_units (k := tn.toNat) (right_nz e1)
          simpa [hrr, e1, this, e2] using hU2
      have hR := c_Right (P := Tryd.prog) (G := G) hT v F hF hFc
      have hR2 := c_Right (P := Tryd.prog) (G := G) hT v (turned F tn.toNat F.length) (by omega) (fun c h => by have := hTr c h; omega)
      have hH := c_Holds (P := Tryd.prog) (G := G) hT v F m hF hFc hm
      have hH2 := c_Holds (P := Tryd.prog) (G := G) hT v (turned F tn.toNat F.length) m (by omega) (fun c h => by have := hTr c h; omega) hm
      have hhh : holdsS v (turned F tn.toNat F.length) m = holdsS v F m := by
        unfold holdsS; rw [hrr]; unfold clauseT; rw [turned_any]
      rw [hrr] at hR2
      rw [hhh] at hH2
      generalize right v F = br at hR hR2
      generalize holdsS v F m = bh at hH hH2
      have hI := c_SameInts (P := Tryd.prog) (G := G) hT l l (by omega) (by omega)
      have nl : namelessL [row l, row l] = true := by simp [row, namelessL, nameless]
      have nG : namelessL [fml v (turned F tn.toNat F.length)] = true := by simp [fml, rows, namelessL, nameless]
      have nGm : namelessL [fml v (turned F tn.toNat F.length), bools m] = true := by simp [fml, rows, bools, namelessL, nameless]
      have eb : (br == br) = true := by simp
      have eb2 : (b2 == b2) = true := by simp
      have eb3 : (bh == bh) = true := by simp
      have htk : List.take (turned F tn.toNat F.length).length ((turned F tn.toNat F.length).map row) = (turned F tn.toNat F.length).map row := List.take_of_length_le (by simp)
      have hmF : ∀ tw, (F.map row).map (frzV 2 tw ((turned F tn.toNat F.length).map row)) = F.map row := fun tw => by simp [frzV, row]
      simp only [decide_true] at hI
      simp only [fml, rows, row, bools] at hU hU2 hR hR2 hH hH2 hI nl nG nGm
      simp -implicitDefEqProofs (disch := omega) only [go_sem, ↓reduceIte, reduceCtorEq, Nat.reduceAdd, Nat.reduceEqDiff, Nat.zero_add, Bool.not_true, List.length_map, Bool.not_true]
      iterate 9 (try (refine run_sem 4 ?_; simp -implicitDefEqProofs (disch := omega) only [go_sem, ↓reduceIte, reduceCtorEq, Nat.reduceAdd, Nat.reduceEqDiff, Nat.reduceLeDiff, Nat.zero_add, Nat.add_zero, decide_false, Bool.not_false, Nat.le_refl, Nat.zero_le, gt_iff_lt, true_implies, and_true, Bool.not_false, h2'']))
      refine sem_shift (HShift.shift (HShift.ownAt 1 28 (k := 1) (p := 1) (Nat.zero_le _) rfl rfl)) ?_
      simp -implicitDefEqProofs (disch := omega) only [go_sem, Nat.reduceAdd, Nat.zero_add, List.set_cons_succ, List.set_cons_zero, List.length_cons, List.length_nil, List.cons_append, List.nil_append]
      refine sem_for F (ooJ t (t + 1) v F m tn) (ooE t (t + 1) v F m tn) ⟨t + 1 + 1 + 1, t + 1 + 1, ?_⟩ (fun i c hci fr σ hJ => oo_round (by omega) hc30 ht (List.getElem?_eq_some_iff.1 hci).1 hJ) (fun i hi fr σ hJ => ?_) (fun e fr σ hE => ?_)
      · simp -implicitDefEqProofs (disch := omega) only [go_sem, ↓reduceIte, reduceCtorEq, Nat.reduceEqDiff, oR, true_and]
        simp [turned]
      · obtain ⟨t3, tw, f1, f2, f3, f7, f8, rfl⟩ := hJ
        refine W_round [(1, .lst 1 (m.map V.bool) false), (2, .int .u8 tn), (3, .ptr 0 t 0), (7, .ptr 1 (t + 1) 0), (8, .int .i64 ((i : Nat) : Int))] ⟨f1, f2, f3, f7, f8, trivial⟩ 1000 ?_
        simp -implicitDefEqProofs (disch := omega) only [go_sem, ↓reduceIte, Nat.reduceAdd, Nat.reduceEqDiff, Nat.zero_add, decide_false, Nat.le_refl, oR, List.length_map, true_implies, and_true, hi, Nat.lt_irrefl]
        subst hi
        exact ⟨t3, tw, rfl, rfl, rfl, rfl, rfl⟩
      · obtain ⟨t3, tw, rfl, f1, f3, f7, rfl⟩ := hE
        generalize turned F tn.toNat F.length = T at *
        have hmF := hmF tw
        refine sem_exitS [(1, .lst 1 (m.map V.bool) false), (3, .ptr 0 t 0), (7, .ptr 1 (t + 1) 0)] ⟨f1, f3, f7, trivial⟩ ?_
        refine sem_shift (Shift.freeze (k := 2) (v := tw) (T := 28) (cs := T.map row) (Nat.zero_le _) rfl hTn) ?_
        simp only [frzFr_cons, frzFr_nil, frzV, rowsV, oR, mapFrom, Ob.mapV, List.set_cons_succ, List.set_cons_zero, Option.map_some, Option.map_none, List.map_cons, List.map_nil, List.length_map]
        refine run_sem 40 ?_
        simp -implicitDefEqProofs (disch := omega) only [go_sem, ↓reduceIte, reduceCtorEq, Nat.reduceAdd, Nat.reduceEqDiff, Nat.succ_ne_zero, Nat.zero_add, Nat.mul_one, Nat.le_refl, false_implies, and_true, not_false_eq_true, htk]
        refine callPS hT t_clause_Units hU nF 40 ?_
        simp -implicitDefEqProofs (disch := omega) only [go_sem, ↓reduceIte, reduceCtorEq, Nat.reduceAdd, Nat.reduceEqDiff, Nat.reduceLT, Nat.zero_add, Nat.le_refl, false_implies, and_true]
        refine callPS hT t_clause_Units hU2 nG 40 ?_
        simp -implicitDefEqProofs (disch := omega) only [go_sem, ↓reduceIte, reduceCtorEq, Nat.reduceAdd, Nat.reduceEqDiff, Nat.reduceLT, Nat.zero_add, Nat.le_refl, false_implies, and_true]
        refine callPS hT t_clause_Right hR nF 4 ?_
        simp -implicitDefEqProofs (disch := omega) only [go_sem, ↓reduceIte, Nat.reduceEqDiff]
        iterate 4 (try (refine run_sem 4 ?_; simp -implicitDefEqProofs (disch := omega) only [go_sem, need_of, ↓reduceIte, reduceCtorEq, Nat.reduceAdd, Nat.reduceEqDiff, Nat.reduceLeDiff, Nat.reduceLT, Nat.reduceSub, Nat.reduceMul, Int.reduceToNat, Int.reduceLE, Int.reduceLT, Int.reduceEq, Int.reduceNe, Nat.succ_ne_zero, Nat.zero_add, Nat.add_zero, Nat.mul_one, Nat.one_mul, Nat.zero_mul, decide_true, decide_false, Bool.not_true, Bool.not_false, Nat.le_refl, Nat.zero_le, ge_iff_le, gt_iff_lt, Nat.reduceBEq, Nat.reduceBNe, beq_self_eq_true, bne_self_eq_false, Option.isSome_some, Option.isSome_none, Option.getD_some, Option.getD_none, proofmarklaw05_ClauseOrder, zq0_0, zq0_1, zq0_2, zq0_3, zq0_4, zq0_5, zq0_6, zq0_7, zq0_8, zq0_9, zq0_10, zq0_11, zq0_12, zq0_13, zq0_14, zq0_15, zq0_16, zq0_17, zq0_18, List.length_map, ints_length, false_implies, true_implies, true_and, and_true, not_true_eq_false, not_false_eq_true, Int.reduceBEq, Int.reduceBNe, Bool.not_true, Bool.not_false, htk]))
        refine callPS hT t_clause_Right hR2 nG 4 ?_
        simp -implicitDefEqProofs (disch := omega) only [go_sem, ↓reduceIte, reduceCtorEq, Nat.reduceAdd, Nat.reduceEqDiff, Nat.zero_add, Nat.le_refl, beq_self_eq_true, false_implies, and_true]
        iterate 9 (try (refine run_sem 4 ?_; simp -implicitDefEqProofs (disch := omega) only [go_sem, ↓reduceIte, reduceCtorEq, Nat.reduceAdd, Nat.reduceEqDiff, Nat.zero_add, Nat.le_refl, false_implies, and_true]))
        refine callPS hT t_clause_Holds hH nFm 4 ?_
        simp -implicitDefEqProofs (disch := omega) only [go_sem, ↓reduceIte, Nat.reduceAdd, Nat.reduceEqDiff]
        iterate 4 (try (refine run_sem 4 ?_; simp -implicitDefEqProofs (disch := omega) only [go_sem, need_of, ↓reduceIte, reduceCtorEq, Nat.reduceAdd, Nat.reduceEqDiff, Nat.reduceLeDiff, Nat.reduceLT, Nat.reduceSub, Nat.reduceMul, Int.reduceToNat, Int.reduceLE, Int.reduceLT, Int.reduceEq, Int.reduceNe, Nat.succ_ne_zero, Nat.zero_add, Nat.add_zero, Nat.mul_one, Nat.one_mul, Nat.zero_mul, decide_true, decide_false, Bool.not_true, Bool.not_false, Nat.le_refl, Nat.zero_le, ge_iff_le, gt_iff_lt, Nat.reduceBEq, Nat.reduceBNe, beq_self_eq_true, bne_self_eq_false, Option.isSome_some, Option.isSome_none, Option.getD_some, Option.getD_none, proofmarklaw05_ClauseOrder, zq0_0, zq0_1, zq0_2, zq0_3, zq0_4, zq0_5, zq0_6, zq0_7, zq0_8, zq0_9, zq0_10, zq0_11, zq0_12, zq0_13, zq0_14, zq0_15, zq0_16, zq0_17, zq0_18, List.length_map, ints_length, false_implies, true_implies, true_and, and_true, not_true_eq_false, not_false_eq_true, Int.reduceBEq, Int.reduceBNe, Bool.not_true, Bool.not_false, eb, htk]))
        refine callPS hT t_clause_Holds hH2 nGm 4 ?_
        simp -implicitDefEqProofs (disch := omega) only [go_sem, ↓reduceIte, Nat.reduceAdd, Nat.reduceEqDiff, Nat.zero_add, beq_self_eq_true]
        iterate 9 (try (refine run_sem 4 ?_; simp -implicitDefEqProofs (disch := omega) only [go_sem, ↓reduceIte, Nat.reduceAdd, Nat.reduceEqDiff, beq_self_eq_true]))
        refine callPS hT t_proofmarkkit_SameInts hI nl 4 ?_
        simp -implicitDefEqProofs (disch := omega) only [go_sem, ↓reduceIte, Nat.reduceAdd, Nat.reduceEqDiff]
        iterate 9 (try (refine run_sem 4 ?_; simp -implicitDefEqProofs (disch := omega) only [go_sem, need_of, ↓reduceIte, reduceCtorEq, Nat.reduceAdd, Nat.reduceEqDiff, Nat.reduceLeDiff, Nat.reduceLT, Nat.reduceSub, Nat.reduceMul, Int.reduceToNat, Int.reduceLE, Int.reduceLT, Int.reduceEq, Int.reduceNe, Nat.succ_ne_zero, Nat.zero_add, Nat.add_zero, Nat.mul_one, Nat.one_mul, Nat.zero_mul, decide_true, decide_false, Bool.not_true, Bool.not_false, Nat.le_refl, Nat.zero_le, ge_iff_le, gt_iff_lt, Nat.reduceBEq, Nat.reduceBNe, beq_self_eq_true, bne_self_eq_false, Option.isSome_some, Option.isSome_none, Option.getD_some, Option.getD_none, proofmarklaw05_ClauseOrder, zq0_0, zq0_1, zq0_2, zq0_3, zq0_4, zq0_5, zq0_6, zq0_7, zq0_8, zq0_9, zq0_10, zq0_11, zq0_12, zq0_13, zq0_14, zq0_15, zq0_16, zq0_17, zq0_18, List.length_map, ints_length, false_implies, true_implies, true_and, and_true, not_true_eq_false, not_false_eq_true, Int.reduceBEq, Int.reduceBNe, Bool.not_true, Bool.not_false]))
        refine callPS hT t_proofmarklaw05_works hW rfl 4 ?_
        simp -implicitDefEqProofs (disch := omega) only [go_sem, ↓reduceIte, Nat.reduceEqDiff]
        iterate 4 (try (refine run_sem 4 ?_; simp -implicitDefEqProofs (disch := omega) only [go_sem, ↓reduceIte, Nat.reduceAdd, Nat.reduceEqDiff, Nat.zero_add, Nat.zero_le, and_true]))
end Go.Proofs.YtingdebioipemaaDoor
