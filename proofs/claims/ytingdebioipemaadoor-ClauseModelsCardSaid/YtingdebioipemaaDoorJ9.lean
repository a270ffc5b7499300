/- Contracts: rows of clauses gone through by functions handed over; whether a formula holds. -/
import Derived.Test.YtingdebioipemaaDoorJ4
import Derived.Test.YtingdebioipemaaDoorJ2
import Derived.Test.YtingdebioipemaaDoorJ3
import Derived.Test.YtingdebioipemaaDoorJ8
import Derived.Test.YtingdebioipemaaDoorJ7
/- Contracts: rows of clauses gone through by functions handed over; whether a formula holds. -/
namespace Go.Proofs.YtingdebioipemaaDoor
open Go Go.Am Go.Cl
set_option maxRecDepth 100000
variable {P : Program} {G : Nat → Option V}
def TellsR (P : Program) (G : Nat → Option V) (base : Nat) (f : V) (o : List (Option Ob)) (p : List Int → Bool) (c : List (List Int)) : Prop :=
  ∀ t n, n ∈ c → CV P G base f [.lst 1 (ints n) false] ⟨t, o⟩ fun v σ => v = .bool (p n) ∧ ∃ t', t ≤ t' ∧ σ = ⟨t', o⟩
def fstIdR (p : List Int → Bool) : List (List Int) → Nat → Int
  | [], _ => -1
  | n :: c, i => if p n then i else fstIdR p c (i + 1)
theorem fstIdR_neg {p : List Int → Bool} : ∀ {c : List (List Int)} {i : Nat}, (∀ n ∈ c, p n = false) → fstIdR p c i = -1
  | [], _, _ => rfl
  | n :: c, i, h => by rw [fstIdR, h n (by simp), if_neg (by simp), fstIdR_neg fun m hm => h m (by simp [hm])]
theorem fstIdR_at {p : List Int → Bool} : ∀ {c : List (List Int)} {i k : Nat} {n : List Int}, (∀ m ∈ c.take k, p m = false) → c[k]? = some n → p n = true → fstIdR p c i = ((i + k : Nat) : Int)
  | [], _, _, _, _, h, _ => by simp at h
  | m :: c, i, 0, n, _, h, hp => by simp at h; subst h; simp [fstIdR, hp]
  | m :: c, i, k + 1, n, h, hk, hp => by
    rw [fstIdR, h m (by simp), if_neg (by simp), fstIdR_at (k := k) (fun m hm => h m (by simp [hm])) (by simpa using hk) hp]
    congr 1; omega
theorem fstIdR_any {p : List Int → Bool} : ∀ {c : List (List Int)} {i : Nat}, decide (0 ≤ fstIdR p c i) = c.any p
  | [], _ => by simp [fstIdR]
  | n :: c, i => by
    unfold fstIdR
    cases h : p n
    · simp [h, fstIdR_any (c := c)]
    · simp [h]
theorem c_IndexFuncR (hT : TabOk P tab) {base t : Nat} {o : List (Option Ob)} {f : V} {p : List Int → Bool} {c : List (List Int)} (hp : TellsR P G base f o p c) (hl : c.length ≤ 9223372036854775807) :
    C P G base n_slices_IndexFunc_int_int_77 [.lst 1 (c.map row) false, f] ⟨t, o⟩ fun v σ => v = .int .i64 (fstIdR p c 0) ∧ ∃ t', t ≤ t' ∧ σ = ⟨t', o⟩ := by
  refine C_tab hT t_slices_IndexFunc_int_int_77 (by simp [slices_IndexFunc_int_int_77]) (W_run 1000 ?_)
  simp -implicitDefEqProofs (disch := omega) only [go_sem, ↓reduceIte, reduceCtorEq, Nat.reduceEqDiff, Nat.zero_add, slices_IndexFunc_int_int_77, zq22_0, zq22_1, zq22_2, zq22_3, zq22_4, zq22_5, zq22_6, zq22_7, List.length_map]
  refine sem_invE (fun m fr σ => ∃ i t', i ≤ c.length ∧ m = c.length - i ∧ (∀ n ∈ c.take i, p n = false) ∧ t ≤ t' ∧ fget fr 0 = .lst 1 (c.map row) false ∧ fget fr 1 = f ∧ fget fr 7 = .int .i64 c.length ∧ fget fr 8 = .int .i64 i ∧ σ = ⟨t', o⟩)
    (fun e fr σ => ∃ t', t ≤ t' ∧ σ = ⟨t', o⟩ ∧ ((e = .ret ∧ fget fr 4 = .int .i64 (fstIdR p c 0)) ∨ (e = .ex 0 ∧ fstIdR p c 0 = -1)))
    (m0 := c.length) ⟨0, t, by omega, rfl, by simp, by omega, ?_⟩ (fun m fr σ hJ => ?_) (fun e fr σ hE => ?_)
  · simp -implicitDefEqProofs (disch := omega) only [go_sem, ↓reduceIte, reduceCtorEq, Nat.reduceEqDiff]
    simp
  · obtain ⟨i, t', hi, rfl, hno, ht, f0, f1, f7, f8, rfl⟩ := hJ
    refine W_run 1000 ?_
    rcases Nat.lt_or_ge i c.length with hlt | hge
    · obtain ⟨n, hni⟩ : ∃ n, c[i]? = some n := ⟨_, List.getElem?_eq_getElem hlt⟩
      have hD := (at_rows hni hl).2.1
      have e2 := (at_rows hni hl).2.2
      simp -implicitDefEqProofs (disch := omega) only [go_sem, need_of, ↓reduceIte, reduceCtorEq, Nat.reduceEqDiff, Nat.succ_ne_zero, Nat.zero_add, decide_true, Nat.le_refl, List.length_map, f0, f1, f7, f8, hlt, hD]
      refine CV.use 1000 (hp t' n (List.mem_of_getElem? hni)) fun v σ hv => ?_
      obtain ⟨rfl, t2, ht2, rfl⟩ := hv
      cases hpn : p n with
      | true =>
        simp -implicitDefEqProofs (disch := omega) only [go_sem, ↓reduceIte, reduceCtorEq, Nat.reduceEqDiff]
        rw [fstIdR_at hno hni hpn]
        exact ⟨t2, by omega, rfl, by simp⟩
      | false =>
        simp -implicitDefEqProofs (disch := omega) only [go_sem, ↓reduceIte, Nat.reduceEqDiff, f8]
        refine ⟨c.length - (i + 1), _, _, by omega, Shift.refl _ _ _ _, i + 1, t2, by omega, rfl, fun m hm => ?_, by omega, ?_⟩
        · rw [take_snoc hni] at hm
          simp at hm
          rcases hm with hm | rfl
          · exact hno m hm
          · exact hpn
        · simp -implicitDefEqProofs (disch := omega) only [go_sem, ↓reduceIte, reduceCtorEq, Nat.reduceEqDiff, Nat.succ_ne_zero, f0, f1, f7, e2]
    · have hi : i = c.length := by omega
      subst hi
      simp -implicitDefEqProofs (disch := omega) only [go_sem, ↓reduceIte, reduceCtorEq, Nat.reduceEqDiff, decide_false, f7, f8, Nat.lt_irrefl]
      rw [List.take_length] at hno
      exact ⟨t', ht, rfl, fstIdR_neg hno⟩
  · obtain ⟨t', ht, rfl, hE⟩ := hE
    rcases hE with ⟨rfl, f4⟩ | ⟨rfl, hh⟩
    · refine run_sem 1000 ?_
      simp -implicitDefEqProofs (disch := omega) only [go_sem, f4]
      exact ⟨t', ht, rfl⟩
    · refine run_sem 1000 ?_
      simp -implicitDefEqProofs (disch := omega) only [go_sem, ↓reduceIte, hh]
      exact ⟨t', ht, rfl⟩
theorem c_ContainsFuncR (hT : TabOk P tab) {base t : Nat} {o : List (Option Ob)} {f : V} {p : List Int → Bool} {c : List (List Int)} (hp : TellsR P G base f o p c) (hl : c.length ≤ 9223372036854775807) :
    C P G base n_slices_ContainsFunc_int_int_60 [.lst 1 (c.map row) false, f] ⟨t, o⟩ fun v σ => v = .bool (c.any p) ∧ ∃ t', t ≤ t' ∧ σ = ⟨t', o⟩ := by
  refine C_tab hT t_slices_ContainsFunc_int_int_60 (by simp [slices_ContainsFunc_int_int_60]) (W_run 1000 ?_)
  simp -implicitDefEqProofs (disch := omega) only [go_sem, ↓reduceIte, reduceCtorEq, Nat.reduceEqDiff, Nat.zero_add, slices_ContainsFunc_int_int_60, zq1l_0, zq1l_1]
  refine call hT t_slices_IndexFunc_int_int_77 (c_IndexFuncR hT hp hl) 1000 fun v σ hv => ?_
  obtain ⟨rfl, t', ht, rfl⟩ := hv
  simp -implicitDefEqProofs (disch := omega) only [go_sem, ↓reduceIte, reduceCtorEq, Nat.reduceEqDiff, ge_iff_le]
  rw [fstIdR_any]
  exact ⟨rfl, t', ht, rfl⟩
theorem c_notR (hT : TabOk P tab) {base tb : Nat} {o : List (Option Ob)} {f : V} {p : List Int → Bool} {c : List (List Int)} {k T : Nat} (ho : o[k]? = some (some (.arr tb T [f]))) (hp : TellsR P G base f o p c) :
    TellsR P G base (.fn (.func n_clause_all_int__S1_61) [] [.ptr k tb 0]) o (fun n => !p n) c := fun t n hn => by
  refine CV.of hT t_clause_all_int__S1_61 (C_tab hT t_clause_all_int__S1_61 (by simp [clause_all_int__S1_61]) (W_run 1000 ?_))
  simp -implicitDefEqProofs (disch := omega) only [go_sem, ↓reduceIte, reduceCtorEq, Nat.reduceEqDiff, Nat.zero_add, Nat.le_refl, clause_all_int__S1_61, zq1m_0, zq1m_1, ho]
  refine CV.use 1000 (hp t n hn) fun v σ hv => ?_
  obtain ⟨rfl, t', ht, rfl⟩ := hv
  simp -implicitDefEqProofs (disch := omega) only [go_sem, ↓reduceIte, reduceCtorEq, Nat.reduceEqDiff]
  exact ⟨t', ht, rfl⟩
theorem c_allR (hT : TabOk P tab) {base t g : Nat} {o : List (Option Ob)} {cap : List V} {p : List Int → Bool} {c : List (List Int)} (hb : base ≤ o.length) (hp : ∀ ex, TellsR P G base (.fn (.func g) [] cap) (o ++ ex) p c) (hl : c.length ≤ 9223372036854775807) :
    C P G base n_clause_all_int_34 [.lst 1 (c.map row) false, .fn (.func g) [] cap] ⟨t, o⟩ fun v σ => v = .bool (c.all p) ∧ ∃ t', t ≤ t' ∧ σ = ⟨t', o⟩ := by
  refine C_keep o.length hb (C_tab hT t_clause_all_int_34 (by simp [clause_all_int_34]) (W_run 1000 ?_))
  simp -implicitDefEqProofs (disch := omega) only [go_sem, ↓reduceIte, reduceCtorEq, Nat.reduceEqDiff, Nat.zero_add, clause_all_int_34, zqv_0, zqv_1]
  have hn := c_notR (P := P) (G := G) (base := base) (k := o.length) (tb := t) (T := 61) hT (by simp) (hp [some (.arr t 61 [.fn (.func g) [] cap])])
  refine call hT t_slices_ContainsFunc_int_int_60 (c_ContainsFuncR hT hn hl) 1000 fun v σ hv => ?_
  obtain ⟨rfl, t', ht, rfl⟩ := hv
  simp -implicitDefEqProofs (disch := omega) only [go_sem, ↓reduceIte, reduceCtorEq, Nat.reduceEqDiff]
  exact ⟨by simp, by rw [List.all_eq_not_any_not], t', by omega, rfl, by simp⟩
end Go.Proofs.YtingdebioipemaaDoor
/- Contracts: rows of clauses gone through by functions handed over; whether a formula holds. -/
namespace Go.Proofs.YtingdebioipemaaDoor
open Go Go.Am Go.Cl
set_option maxRecDepth 100000
variable {P : Program} {G : Nat → Option V}
theorem c_abs (hT : TabOk P tab) (n : Int) (h : -9223372036854775808 < n ∧ n ≤ 9223372036854775807) : Pure P G n_clause_abs [.int .i64 n] fun u => u = .int .i64 (av n) := by
  intro t
  have e := wneg64 (n := n) (by omega)
  have e2 : neg n = -n := by unfold neg; rw [if_neg (by omega)]
  have e3 : (if n < -n then -n else n) = av n := by unfold av; split <;> split <;> omega
  refine C_keep 0 (Nat.zero_le _) (C_tab hT t_clause_abs (by simp [clause_abs]) (W_run 1000 ?_))
  simp -implicitDefEqProofs (disch := omega) only [go_sem, ↓reduceIte, reduceCtorEq, Nat.reduceEqDiff, Nat.le_refl, gt_iff_lt, clause_abs, zqu_0, zqu_1, e, e2]
  rw [e3]
theorem lit_val {m : List Bool} {n : Int} (h0 : n ≠ 0) (h : -(m.length : Int) ≤ n ∧ n ≤ m.length) : ∃ b, m[(av n - 1).toNat]? = some b ∧ (b == decide (0 < n)) = litT m n := by
  have hlt : (av n - 1).toNat < m.length := by unfold av; split <;> omega
  refine ⟨m[(av n - 1).toNat], List.getElem?_eq_getElem hlt, ?_⟩
  unfold litT av at *
  rcases Int.lt_or_gt_of_ne h0 with hn | hn
  · rw [if_pos hn] at hlt
    simp only [if_pos hn]
    have e1 : decide (0 < n) = false := decide_eq_false (by omega)
    have e2 : decide (n > 0) = false := decide_eq_false (by omega)
    have e3 : decide (n < 0) = true := decide_eq_true hn
    rw [e1, e3, List.getD_eq_getElem?_getD, List.getD_eq_getElem?_getD, List.getElem?_eq_getElem hlt]
    cases m[(-n - 1).toNat] <;> simp
  · have hnn : ¬ n < 0 := by omega
    rw [if_neg hnn] at hlt
    simp only [if_neg hnn]
    have e1 : decide (0 < n) = true := decide_eq_true hn
    have e2 : decide (n > 0) = true := decide_eq_true hn
    have e3 : decide (n < 0) = false := decide_eq_false hnn
    rw [e1, e3, List.getD_eq_getElem?_getD, List.getD_eq_getElem?_getD, List.getElem?_eq_getElem hlt]
    cases m[(n - 1).toNat] <;> simp
theorem k_Holds_S1_S1 (hT : TabOk P tab) {base kb tb T : Nat} {o : List (Option Ob)} {m : List Bool} {c : List Int} (hc : ∀ n ∈ c, n ≠ 0 ∧ -(m.length : Int) ≤ n ∧ n ≤ m.length) (hm : m.length ≤ 16777216) (h1 : o[kb]? = some (some (.arr tb T [.lst 1 (m.map V.bool) false]))) :
    Tells P G base (.fn (.func n_clause_Holds_S1_S1) [] [.ptr kb tb 0]) o (litT m) c := fun t n hn => by
  obtain ⟨h0, hr⟩ := hc n hn
  have hA := c_abs (P := P) (G := G) hT n (by omega)
  obtain ⟨b, hb, hv⟩ := lit_val h0 hr
  have hav : 1 ≤ av n ∧ av n ≤ m.length := by unfold av; split <;> omega
  have e1 : IntKind.i64.wrap (av n - 1) = av n - 1 := wself (by omega)
  have e2 : 0 ≤ av n - 1 := by omega
  have e3 : av n - 1 < m.length := by omega
  have e4 : (m.map V.bool).getD (av n - 1).toNat V.any = .bool b := by
    rw [List.getD_eq_getElem?_getD, List.getElem?_map, hb]; rfl
  refine CV.of hT t_clause_Holds_S1_S1 (C_tab hT t_clause_Holds_S1_S1 (by simp [clause_Holds_S1_S1]) (W_run 1000 ?_))
  simp -implicitDefEqProofs (disch := omega) only [go_sem, ↓reduceIte, reduceCtorEq, Nat.reduceEqDiff, Nat.zero_add, Nat.le_refl, gt_iff_lt, clause_Holds_S1_S1, zqx_0, zqx_1, h1]
  refine callPS hT t_clause_abs hA rfl 1000 ?_
  simp -implicitDefEqProofs (disch := omega) only [go_sem, need_of, ↓reduceIte, reduceCtorEq, Nat.reduceEqDiff, Nat.zero_add, Nat.le_refl, e1, e2, e4, hv, List.length_map]
  exact ⟨t, Nat.le_refl _, rfl⟩
theorem k_Holds_S1 (hT : TabOk P tab) {base kb tb T : Nat} {o : List (Option Ob)} {m : List Bool} {F : List (List Int)} (hF : ∀ c ∈ F, ∀ n ∈ c, n ≠ 0 ∧ -(m.length : Int) ≤ n ∧ n ≤ m.length) (hc : ∀ c ∈ F, c.length ≤ 9223372036854775807) (hm : m.length ≤ 16777216) (h1 : o[kb]? = some (some (.arr tb T [.lst 1 (m.map V.bool) false]))) :
    TellsR P G base (.fn (.func n_clause_Holds_S1) [] [.ptr kb tb 0]) o (clauseT m) F := fun t c hcF => by
  refine CV.of hT t_clause_Holds_S1 (C_tab hT t_clause_Holds_S1 (by simp [clause_Holds_S1]) (W_run 1000 ?_))
  simp -implicitDefEqProofs (disch := omega) only [go_sem, ↓reduceIte, reduceCtorEq, Nat.reduceEqDiff, Nat.zero_add, clause_Holds_S1, zqw_0, zqw_1]
  refine call hT t_clause_some_int (c_some hT (k_Holds_S1_S1 hT (hF c hcF) hm h1) (hc c hcF)) 1000 fun v σ hv => ?_
  obtain ⟨rfl, t', ht, rfl⟩ := hv
  simp -implicitDefEqProofs (disch := omega) only [go_sem, ↓reduceIte, reduceCtorEq, Nat.reduceEqDiff]
  exact ⟨rfl, t', ht, rfl⟩
theorem c_Holds (hT : TabOk P tab) (v : Int) (F : List (List Int)) (m : List Bool) (hF : F.length ≤ 9223372036854775807) (hc : ∀ c ∈ F, c.length ≤ 9223372036854775807) (hm : m.length ≤ 9223372036854775807) :
    Pure P G n_clause_Holds [fml v F, bools m] fun u => u = .bool (holdsS v F m) := by
  intro t
  have hR := c_Right (P := P) (G := G) hT v F hF hc
  have nF : namelessL [fml v F] = true := by simp [fml, rows, namelessL, nameless]
  simp only [fml, rows, bools] at hR nF ⊢
  refine C_keep 0 (Nat.zero_le _) (C_tab hT t_clause_Holds (by simp [clause_Holds]) (W_run 12 ?_))
  simp -implicitDefEqProofs (disch := omega) only [go_sem, ↓reduceIte, reduceCtorEq, Nat.reduceAdd, Nat.reduceEqDiff, Nat.zero_add, Nat.le_refl, clause_Holds, zq7_0, zq7_1, zq7_2, zq7_3, false_implies, and_true]
  refine callPS hT t_clause_Right hR nF 4 ?_
  cases hr : right v F with
  | false =>
    have hh : holdsS v F m = false := by unfold holdsS; rw [hr]; rfl
    simp -implicitDefEqProofs (disch := omega) only [go_sem, ↓reduceIte, reduceCtorEq, Nat.reduceEqDiff, Bool.not_false, Bool.not_false]
    iterate 9 (try (refine run_sem 4 ?_; simp -implicitDefEqProofs (disch := omega) only [go_sem, ↓reduceIte, reduceCtorEq, Nat.reduceAdd, Nat.reduceEqDiff, Nat.zero_add, Nat.zero_le, true_and]))
    rw [hh]
  | true =>
    by_cases hv : (m.length : Int) = v
    · have hv1 : ((m.length : Int) == v) = true := by simp [hv]
      have hh : holdsS v F m = F.all (clauseT m) := by unfold holdsS; rw [hr, decide_eq_true hv]; simp
      obtain ⟨r1, r2⟩ := right_iff.1 hr
      simp -implicitDefEqProofs (disch := omega) only [go_sem, ↓reduceIte, reduceCtorEq, Nat.reduceAdd, Nat.reduceEqDiff, Nat.zero_add, Bool.not_true, Nat.le_refl, List.length_map, true_implies, and_true, Bool.not_true]
      iterate 5 (try (refine run_sem 4 ?_; simp -implicitDefEqProofs (disch := omega) only [go_sem, ↓reduceIte, reduceCtorEq, Nat.reduceAdd, Nat.reduceEqDiff, Nat.reduceLeDiff, Nat.zero_add, Nat.add_zero, Nat.le_refl, bne_self_eq_false, true_implies, and_true, hv]))
      have hK := fun ex => k_Holds_S1 (P := P) (G := G) (base := 0) (kb := 1) (tb := t + 1) (T := 25) (o := [some (.arr t 24 [.int .i64 v, .lst 1 (F.map row) false]), some (.arr (t + 1) 25 [.lst 1 (m.map V.bool) false])] ++ ex) (m := m) hT (F := F) (fun c h n hn => by have := r2 c h n hn; omega) hc (by omega) (by simp)
      refine call hT t_clause_all_int_34 (c_allR hT (o := [some (.arr t 24 [.int .i64 v, .lst 1 (F.map row) false]), some (.arr (t + 1) 25 [.lst 1 (m.map V.bool) false])]) (Nat.zero_le _) hK hF) 4 fun u σ hu => ?_
      obtain ⟨rfl, t', ht, rfl⟩ := hu
      simp -implicitDefEqProofs (disch := omega) only [go_sem, ↓reduceIte, reduceCtorEq, Nat.reduceAdd, Nat.reduceEqDiff, Nat.zero_add, Nat.zero_le, true_and]
      iterate 5 (try (refine run_sem 4 ?_; simp -implicitDefEqProofs (disch := omega) only [go_sem, need_of, ↓reduceIte, reduceCtorEq, Nat.reduceAdd, Nat.reduceEqDiff, Nat.reduceLeDiff, Nat.reduceLT, Nat.reduceSub, Nat.reduceMul, Int.reduceToNat, Int.reduceLE, Int.reduceLT, Int.reduceEq, Int.reduceNe, Nat.succ_ne_zero, Nat.zero_add, Nat.add_zero, Nat.mul_one, Nat.one_mul, Nat.zero_mul, decide_true, decide_false, Bool.not_true, Bool.not_false, Nat.le_refl, Nat.zero_le, ge_iff_le, gt_iff_lt, Nat.reduceBEq, Nat.reduceBNe, beq_self_eq_true, bne_self_eq_false, Option.isSome_some, Option.isSome_none, Option.getD_some, Option.getD_none, clause_Holds, zq7_0, zq7_1, zq7_2, zq7_3, List.length_map, false_implies, true_implies, true_and, and_true, not_true_eq_false, not_false_eq_true, Bool.not_true, Bool.not_false]))
      rw [hh]
    · have hv1 : ((m.length : Int) == v) = false := by simpa using hv
      have hh : holdsS v F m = false := by unfold holdsS; rw [hr, decide_eq_false hv]; rfl
      simp -implicitDefEqProofs (disch := omega) only [go_sem, ↓reduceIte, reduceCtorEq, Nat.reduceAdd, Nat.reduceEqDiff, Nat.zero_add, Bool.not_true, Nat.le_refl, List.length_map, true_implies, and_true, Bool.not_true]
      iterate 9 (try (refine run_sem 4 ?_; simp -implicitDefEqProofs (disch := omega) only [go_sem, ↓reduceIte, reduceCtorEq, Nat.reduceAdd, Nat.reduceEqDiff, Nat.reduceLeDiff, Nat.zero_add, Nat.add_zero, Nat.zero_le, false_implies, true_implies, true_and, and_true, not_false_eq_true, hv]))
      rw [hh]
end Go.Proofs.YtingdebioipemaaDoor
/- The law ClauseModels: models by number. -/
namespace Go.Proofs.YtingdebioipemaaDoor
open Go Go.Am Go.Cl
set_option maxRecDepth 100000
variable {P : Program} {G : Nat → Option V}
theorem sem_cut {n base : Nat} {c : AC} {s : List KI} {Q : AE → Fr → H → Prop} {fr : Fr} {σ : H} (J : Fr → H → Prop) (h1 : W P G n base c fr σ fun e fr σ => e = .nrm ∧ J fr σ) (h2 : ∀ fr σ, J fr σ → sem P G n base Q s .nrm fr σ) : sem P G n base Q (.ac c :: s) .nrm fr σ :=
  h1.conseq fun e fr σ ⟨he, hJ⟩ => by subst he; exact h2 fr σ hJ
def modelS (v M : Nat) : List Bool := (List.range v).map fun j => decide (M / 2 ^ j % 2 = 1)
theorem modelS_len (v M : Nat) : (modelS v M).length = v := by simp [modelS]
theorem bit_ok : ∀ M : Nat, M < 256 → ∀ j : Nat, j < 8 → (andI IntKind.i64 (((M : Nat) : Int).fdiv (2 ^ min j 64)) 1 == 1) = decide (M / 2 ^ j % 2 = 1) := by
  have h : (List.range 256).all (fun M => (List.range 8).all fun j => (andI IntKind.i64 (((M : Nat) : Int).fdiv (2 ^ min j 64)) 1 == 1) == decide (M / 2 ^ j % 2 = 1)) = true := by decide +kernel
  intro M hM j hj
  have h1 := List.all_eq_true.1 h M (List.mem_range.2 hM)
  exact eq_of_beq (List.all_eq_true.1 h1 j (List.mem_range.2 hj))
theorem model_step {v M j : Nat} (h : j < v) : List.take j (((modelS v M).take j).map V.bool ++ List.replicate (v - j) (V.bool false)) ++ [V.bool (decide (M / 2 ^ j % 2 = 1))] ++ List.drop (j + 1) (((modelS v M).take j).map V.bool ++ List.replicate (v - j) (V.bool false)) = ((modelS v M).take (j + 1)).map V.bool ++ List.replicate (v - (j + 1)) (V.bool false) := by
  have hl : (((modelS v M).take j).map V.bool).length = j := by simp [modelS_len]; omega
  have hg : (modelS v M)[j]? = some (decide (M / 2 ^ j % 2 = 1)) := by simp [modelS, h]
  rw [List.take_left' hl, take_snoc hg, List.map_append]
  obtain ⟨n, hn⟩ : ∃ n, v - j = n + 1 := ⟨v - j - 1, by omega⟩
  rw [hn, show v - (j + 1) = n by omega, List.drop_append, hl, List.drop_of_length_le (by omega)]
  simp [List.replicate_succ]
def mH (tf tl : Nat) (v w : Int) (F A : List (List Int)) : List (Option Ob) := [some (.arr tf 24 [.int .i64 v, .lst 1 (F.map row) false]), some (.arr tl 24 [.int .i64 w, .lst 1 (A.map row) false])]
abbrev fiJ (tf tl : Nat) (v : Nat) (w : Int) (F A : List (List Int)) (L l a b c : List Int) (xa xb : V) (ok can made : Bool) (M : Nat) : Nat → Fr → H → Prop := fun z fr σ => ∃ j t tm, j ≤ v ∧ z = v - j ∧ fget fr 1 = .lst 1 (ints L) false ∧ fget fr 5 = .ptr 0 tf 0 ∧ fget fr 11 = .ptr 1 tl 0 ∧ fget fr 12 = .bool ok ∧ fget fr 13 = .lst 1 (ints l) false ∧ fget fr 14 = .bool can ∧ fget fr 15 = xa ∧ fget fr 16 = xb ∧ fget fr 17 = .lst 1 (ints c) false ∧ fget fr 18 = .bool made ∧ fget fr 19 = .int .i64 ((M : Nat) : Int) ∧ fget fr 20 = .sl 2 tm 0 1 v none ∧ fget fr 21 = .int .i64 ((j : Nat) : Int) ∧ σ = ⟨t, mH tf tl v w F A ++ [some (.arr tm 4 (((modelS v M).take j).map V.bool ++ List.replicate (v - j) (.bool false)))]⟩
abbrev fiE (tf tl : Nat) (v : Nat) (w : Int) (F A : List (List Int)) (L l a b c : List Int) (xa xb : V) (ok can made : Bool) (M : Nat) : AE → Fr → H → Prop := fun e fr σ => ∃ t tm, e = .ex 2 ∧ fget fr 1 = .lst 1 (ints L) false ∧ fget fr 5 = .ptr 0 tf 0 ∧ fget fr 11 = .ptr 1 tl 0 ∧ fget fr 12 = .bool ok ∧ fget fr 13 = .lst 1 (ints l) false ∧ fget fr 14 = .bool can ∧ fget fr 15 = xa ∧ fget fr 16 = xb ∧ fget fr 17 = .lst 1 (ints c) false ∧ fget fr 18 = .bool made ∧ fget fr 19 = .int .i64 ((M : Nat) : Int) ∧ fget fr 20 = .sl 2 tm 0 1 v none ∧ σ = ⟨t, mH tf tl v w F A ++ [some (.arr tm 4 ((modelS v M).map V.bool))]⟩
theorem fi_round {tf tl : Nat} {v : Nat} {w : Int} {F A : List (List Int)} {L l a b c : List Int} {xa xb : V} {ok can made : Bool} {M : Nat} (hv : v ≤ 8) (hM : M < 256) {z : Nat} {fr : Fr} {σ : H} (hJ : fiJ tf tl v w F A L l a b c xa xb ok can made M z fr σ) :
    W P G 153 0 (AC.seq (AC.seq (AC.reg zq2_14 [92, 93, 94])   (AC.cond (Arg.t 95)   AC.skip   (AC.exit 2)))   (AC.seq (AC.block 3 (AC.reg zq2_15 [98, 99, 100, 101, 102, 103, 104, 105]))   (AC.reg zq2_16 [96, 97]))) fr σ (seqQ (fun fr σ => ∃ m' fr' σ', m' < z ∧ Shift G 153 0 fr σ fr' σ' ∧ fiJ tf tl v w F A L l a b c xa xb ok can made M m' fr' σ') (fiE tf tl v w F A L l a b c xa xb ok can made M)) := by
  obtain ⟨j, t, tm, hj, rfl, f1, f5, f11, f12, f13, f14, f15, f16, f17, f18, f19, f20, f21, rfl⟩ := hJ
  rcases Nat.lt_or_ge j v with hlt | hge
  · have e2 : IntKind.i64.wrap ((j : Int) + 1) = ((j + 1 : Nat) : Int) := by rw [wself (by omega)]; omega
    have hl1 : (((modelS v M).take j).map V.bool ++ List.replicate (v - j) (V.bool false)).length = v := by simp [modelS_len]; omega
    refine W_round [(1, .lst 1 (ints L) false), (5, .ptr 0 tf 0), (11, .ptr 1 tl 0), (12, .bool ok), (13, .lst 1 (ints l) false), (14, .bool can), (15, xa), (16, xb), (17, .lst 1 (ints c) false), (18, .bool made), (19, .int .i64 ((M : Nat) : Int)), (20, .sl 2 tm 0 1 v none), (21, .int .i64 ((j : Nat) : Int))] ⟨f1, f5, f11, f12, f13, f14, f15, f16, f17, f18, f19, f20, f21, trivial⟩  1000 ?_
    simp -implicitDefEqProofs (disch := omega) only [go_sem, need_of, ↓reduceIte, Nat.reduceAdd, Nat.reduceEqDiff, Nat.reduceLeDiff, Nat.zero_add, Nat.add_zero, Nat.mul_one, decide_true, Bool.not_false, Nat.zero_le, zq2_14, zq2_15, zq2_16, mH, true_implies, true_and, and_true, Bool.not_false, List.length_cons, List.length_nil, List.cons_append, List.nil_append, hlt, hl1]
    have hb := bit_ok M hM j (by omega)
    have hms := model_step (v := v) (M := M) hlt
    refine ⟨v - (j + 1), _, _, by omega, Shift.refl _ _ _ _, j + 1, t, tm, by omega, rfl, ?_⟩
    simp -implicitDefEqProofs (disch := omega) only [go_sem, ↓reduceIte, Nat.reduceEqDiff, mH, true_and, List.cons_append, List.nil_append, e2, hb]
    rw [hms]
  · have hj' : j = v := by omega
    subst hj'
    refine W_round [(1, .lst 1 (ints L) false), (5, .ptr 0 tf 0), (11, .ptr 1 tl 0), (12, .bool ok), (13, .lst 1 (ints l) false), (14, .bool can), (15, xa), (16, xb), (17, .lst 1 (ints c) false), (18, .bool made), (19, .int .i64 ((M : Nat) : Int)), (20, .sl 2 tm 0 1 j none), (21, .int .i64 ((j : Nat) : Int))] ⟨f1, f5, f11, f12, f13, f14, f15, f16, f17, f18, f19, f20, f21, trivial⟩  1000 ?_
    simp -implicitDefEqProofs (disch := omega) only [go_sem, ↓reduceIte, Nat.reduceAdd, Nat.reduceEqDiff, Nat.reduceLeDiff, Nat.zero_add, Nat.add_zero, decide_false, zq2_14, zq2_15, zq2_16, mH, true_implies, and_true, List.length_cons, List.length_nil, List.cons_append, List.nil_append, Nat.lt_irrefl]
    refine ⟨t, tm, rfl, rfl, rfl, rfl, rfl, rfl, rfl, rfl, rfl, rfl, rfl, rfl, rfl, ?_⟩
    rw [List.take_of_length_le (by rw [modelS_len]; exact Nat.le_refl _), Nat.sub_self]
    simp [mH]
end Go.Proofs.YtingdebioipemaaDoor
/- The law ClauseModels: what is asked of one model. -/
namespace Go.Proofs.YtingdebioipemaaDoor
open Go Go.Am Go.Cl
set_option maxRecDepth 100000
variable {P : Program} {G : Nat → Option V}
theorem st_A (hT : TabOk P tab) {t tf tl v : Nat} {w : Int} {F A : List (List Int)} {L l a b c : List Int} {xa xb : V} {ok can made : Bool} {M : Nat} {m : List Bool} {h h2 e2 : Bool}
    (cE1 : h = true → can = true ∧ Pure P G n_proofmarklaw05_each [.lst 1 (ints l) false, .lst 1 (m.map V.bool) false] fun u => u = .bool true)
    (cE2 : ok = true → Pure P G n_proofmarklaw05_each [.lst 1 (ints L) false, .lst 1 (m.map V.bool) false] fun u => u = .bool e2)
    (cH2 : Pure P G n_clause_Holds [.agg [.int .i64 w, .lst 1 (A.map row) false], .lst 1 (m.map V.bool) false] fun u => u = .bool h2) (hh : ok = true → e2 = true → h2 = h)
    {fr : Fr} (hfr : fget fr 1 = .lst 1 (ints L) false ∧ fget fr 5 = .ptr 0 tf 0 ∧ fget fr 11 = .ptr 1 tl 0 ∧ fget fr 12 = .bool ok ∧ fget fr 13 = .lst 1 (ints l) false ∧ fget fr 14 = .bool can ∧ fget fr 15 = xa ∧ fget fr 16 = xb ∧ fget fr 17 = .lst 1 (ints c) false ∧ fget fr 18 = .bool made ∧ fget fr 19 = .int .i64 ((M : Nat) : Int) ∧ fget fr 20 = .lst 1 (m.map V.bool) false ∧ fget fr 22 = .bool h) :
    W P G 153 0 (AC.seq (AC.reg zq2_18 [109, 110, 111, 112, 113, 114, 115, 116, 117, 118, 119, 120, 121, 122, 123, 124, 125, 126, 127, 128, 129, 130, 131, 132, 133])   (AC.cond (Arg.t 134)   (AC.seq (AC.reg zq2_19 [])   AC.ret)   AC.skip)) fr ⟨t, mH tf tl v w F A ++ [none]⟩ fun e fr σ => e = .nrm ∧ fget fr 1 = .lst 1 (ints L) false ∧ fget fr 5 = .ptr 0 tf 0 ∧ fget fr 11 = .ptr 1 tl 0 ∧ fget fr 12 = .bool ok ∧ fget fr 13 = .lst 1 (ints l) false ∧ fget fr 14 = .bool can ∧ fget fr 15 = xa ∧ fget fr 16 = xb ∧ fget fr 17 = .lst 1 (ints c) false ∧ fget fr 18 = .bool made ∧ fget fr 19 = .int .i64 ((M : Nat) : Int) ∧ fget fr 20 = .lst 1 (m.map V.bool) false ∧ σ = ⟨t, mH tf tl v w F A ++ [none]⟩ := by
  obtain ⟨f1, f5, f11, f12, f13, f14, f15, f16, f17, f18, f19, f20, f22⟩ := hfr
  have nFm : namelessL [V.agg [.int .i64 v, .lst 1 (F.map row) false], .lst 1 (m.map V.bool) false] = true := by simp [namelessL, nameless]
  have nAm : namelessL [V.agg [.int .i64 w, .lst 1 (A.map row) false], .lst 1 (m.map V.bool) false] = true := by simp [namelessL, nameless]
  have nlm : namelessL [V.lst 1 (ints l) false, .lst 1 (m.map V.bool) false] = true := by simp [namelessL, nameless]
  have nLm : namelessL [V.lst 1 (ints L) false, .lst 1 (m.map V.bool) false] = true := by simp [namelessL, nameless]
  have eh : (h != h) = false := by cases h <;> rfl
  cases h with
  | true =>
    obtain ⟨hcan, cE⟩ := cE1 rfl
    subst hcan
    cases ok with
    | false =>
      refine W_round [(1, .lst 1 (ints L) false), (5, .ptr 0 tf 0), (11, .ptr 1 tl 0), (12, .bool false), (13, .lst 1 (ints l) false), (14, .bool true), (15, xa), (16, xb), (17, .lst 1 (ints c) false), (18, .bool made), (19, .int .i64 ((M : Nat) : Int)), (20, .lst 1 (m.map V.bool) false), (22, .bool true)] ⟨f1, f5, f11, f12, f13, f14, f15, f16, f17, f18, f19, f20, f22, trivial⟩  3 ?_
      simp -implicitDefEqProofs (disch := omega) only [go_sem, ↓reduceIte, Nat.reduceEqDiff, zq2_18, zq2_19, mH, List.cons_append, List.nil_append]
      iterate 14 (try (refine run_sem 3 ?_; simp -implicitDefEqProofs (disch := omega) only [go_sem, ↓reduceIte, Nat.reduceAdd, Nat.reduceEqDiff, Nat.zero_add, Bool.not_true, Bool.not_true]))
      refine callPS hT t_proofmarklaw05_each cE nlm 3 ?_
      simp -implicitDefEqProofs (disch := omega) only [go_sem, ↓reduceIte, Nat.reduceAdd, Nat.reduceEqDiff, Bool.not_true, Bool.not_true]
      iterate 14 (try (refine run_sem 3 ?_; simp -implicitDefEqProofs (disch := omega) only [go_sem, ↓reduceIte, Nat.reduceAdd, Nat.reduceEqDiff, Nat.zero_add, and_true]))
      try iterate 14 (try (refine run_sem 3 ?_; simp -implicitDefEqProofs (disch := omega) only [go_sem, need_of, ↓reduceIte, reduceCtorEq, Nat.reduceAdd, Nat.reduceEqDiff, Nat.reduceLeDiff, Nat.reduceLT, Nat.reduceSub, Nat.reduceMul, Int.reduceToNat, Int.reduceLE, Int.reduceLT, Int.reduceEq, Int.reduceNe, Nat.succ_ne_zero, Nat.zero_add, Nat.add_zero, Nat.mul_one, Nat.one_mul, Nat.zero_mul, decide_true, decide_false, Bool.not_true, Bool.not_false, Nat.le_refl, Nat.zero_le, ge_iff_le, gt_iff_lt, Nat.reduceBEq, Nat.reduceBNe, beq_self_eq_true, bne_self_eq_false, Option.isSome_some, Option.isSome_none, Option.getD_some, Option.getD_none, proofmarklaw05_ClauseModels, zq2_0, zq2_1, zq2_2, zq2_3, zq2_4, zq2_5, zq2_6, zq2_7, zq2_8, zq2_9, zq2_10, zq2_11, zq2_12, zq2_13, zq2_14, zq2_15, zq2_16, zq2_17, zq2_18, zq2_19, zq2_20, zq2_21, zq2_22, zq2_23, mH, List.length_map, ints_length, false_implies, true_implies, true_and, and_true, not_true_eq_false, not_false_eq_true, Bool.not_true, Bool.not_false, List.length_cons, List.length_nil, List.cons_append, List.nil_append, Int.reduceBEq, Int.reduceBNe]))
    | true =>
      have cE2 := cE2 rfl
      cases e2 with
      | false =>
        refine W_round [(1, .lst 1 (ints L) false), (5, .ptr 0 tf 0), (11, .ptr 1 tl 0), (12, .bool true), (13, .lst 1 (ints l) false), (14, .bool true), (15, xa), (16, xb), (17, .lst 1 (ints c) false), (18, .bool made), (19, .int .i64 ((M : Nat) : Int)), (20, .lst 1 (m.map V.bool) false), (22, .bool true)] ⟨f1, f5, f11, f12, f13, f14, f15, f16, f17, f18, f19, f20, f22, trivial⟩  3 ?_
        simp -implicitDefEqProofs (disch := omega) only [go_sem, ↓reduceIte, Nat.reduceEqDiff, zq2_18, zq2_19, mH, List.cons_append, List.nil_append]
        iterate 14 (try (refine run_sem 3 ?_; simp -implicitDefEqProofs (disch := omega) only [go_sem, ↓reduceIte, Nat.reduceAdd, Nat.reduceEqDiff, Nat.zero_add, Bool.not_true, Bool.not_true]))
        refine callPS hT t_proofmarklaw05_each cE nlm 3 ?_
        simp -implicitDefEqProofs (disch := omega) only [go_sem, ↓reduceIte, Nat.reduceAdd, Nat.reduceEqDiff, Bool.not_true, Bool.not_true]
        iterate 14 (try (refine run_sem 3 ?_; simp -implicitDefEqProofs (disch := omega) only [go_sem, ↓reduceIte, Nat.reduceAdd, Nat.reduceEqDiff, Nat.zero_add]))
        refine callPS hT t_proofmarklaw05_each cE2 nLm 3 ?_
        simp -implicitDefEqProofs (disch := omega) only [go_sem, ↓reduceIte, Nat.reduceAdd, Nat.reduceEqDiff]
        iterate 14 (try (refine run_sem 3 ?_; simp -implicitDefEqProofs (disch := omega) only [go_sem, ↓reduceIte, Nat.reduceAdd, Nat.reduceEqDiff, and_true]))
        try iterate 14 (try (refine run_sem 3 ?_; simp -implicitDefEqProofs (disch := omega) only [go_sem, need_of, ↓reduceIte, reduceCtorEq, Nat.reduceAdd, Nat.reduceEqDiff, Nat.reduceLeDiff, Nat.reduceLT, Nat.reduceSub, Nat.reduceMul, Int.reduceToNat, Int.reduceLE, Int.reduceLT, Int.reduceEq, Int.reduceNe, Nat.succ_ne_zero, Nat.zero_add, Nat.add_zero, Nat.mul_one, Nat.one_mul, Nat.zero_mul, decide_true, decide_false, Bool.not_true, Bool.not_false, Nat.le_refl, Nat.zero_le, ge_iff_le, gt_iff_lt, Nat.reduceBEq, Nat.reduceBNe, beq_self_eq_true, bne_self_eq_false, Option.isSome_some, Option.isSome_none, Option.getD_some, Option.getD_none, proofmarklaw05_ClauseModels, zq2_0, zq2_1, zq2_2, zq2_3, zq2_4, zq2_5, zq2_6, zq2_7, zq2_8, zq2_9, zq2_10, zq2_11, zq2_12, zq2_13, zq2_14, zq2_15, zq2_16, zq2_17, zq2_18, zq2_19, zq2_20, zq2_21, zq2_22, zq2_23, mH, List.length_map, ints_length, false_implies, true_implies, true_and, and_true, not_true_eq_false, not_false_eq_true, Bool.not_true, Bool.not_false, List.length_cons, List.length_nil, List.cons_append, List.nil_append, Int.reduceBEq, Int.reduceBNe]))
      | true =>
        have hh := hh rfl rfl
        subst hh
        refine W_round [(1, .lst 1 (ints L) false), (5, .ptr 0 tf 0), (11, .ptr 1 tl 0), (12, .bool true), (13, .lst 1 (ints l) false), (14, .bool true), (15, xa), (16, xb), (17, .lst 1 (ints c) false), (18, .bool made), (19, .int .i64 ((M : Nat) : Int)), (20, .lst 1 (m.map V.bool) false), (22, .bool true)] ⟨f1, f5, f11, f12, f13, f14, f15, f16, f17, f18, f19, f20, f22, trivial⟩  3 ?_
        simp -implicitDefEqProofs (disch := omega) only [go_sem, ↓reduceIte, Nat.reduceEqDiff, zq2_18, zq2_19, mH, List.cons_append, List.nil_append]
        iterate 14 (try (refine run_sem 3 ?_; simp -implicitDefEqProofs (disch := omega) only [go_sem, ↓reduceIte, Nat.reduceAdd, Nat.reduceEqDiff, Nat.zero_add, Bool.not_true, Bool.not_true]))
        refine callPS hT t_proofmarklaw05_each cE nlm 3 ?_
        simp -implicitDefEqProofs (disch := omega) only [go_sem, ↓reduceIte, Nat.reduceAdd, Nat.reduceEqDiff, Bool.not_true, Bool.not_true]
        iterate 14 (try (refine run_sem 3 ?_; simp -implicitDefEqProofs (disch := omega) only [go_sem, ↓reduceIte, Nat.reduceAdd, Nat.reduceEqDiff, Nat.zero_add]))
        refine callPS hT t_proofmarklaw05_each cE2 nLm 3 ?_
        simp -implicitDefEqProofs (disch := omega) only [go_sem, ↓reduceIte, Nat.reduceAdd, Nat.reduceEqDiff, Nat.zero_add]
        iterate 14 (try (refine run_sem 3 ?_; simp -implicitDefEqProofs (disch := omega) only [go_sem, ↓reduceIte, reduceCtorEq, Nat.reduceAdd, Nat.reduceEqDiff, Nat.zero_add, Nat.le_refl, false_implies, and_true, List.length_cons, List.length_nil]))
        refine callPS hT t_clause_Holds cH2 nAm 3 ?_
        simp -implicitDefEqProofs (disch := omega) only [go_sem, ↓reduceIte, Nat.reduceAdd, Nat.reduceEqDiff, bne_self_eq_false]
        iterate 14 (try (refine run_sem 3 ?_; simp -implicitDefEqProofs (disch := omega) only [go_sem, ↓reduceIte, Nat.reduceEqDiff, and_true]))
        try iterate 14 (try (refine run_sem 3 ?_; simp -implicitDefEqProofs (disch := omega) only [go_sem, need_of, ↓reduceIte, reduceCtorEq, Nat.reduceAdd, Nat.reduceEqDiff, Nat.reduceLeDiff, Nat.reduceLT, Nat.reduceSub, Nat.reduceMul, Int.reduceToNat, Int.reduceLE, Int.reduceLT, Int.reduceEq, Int.reduceNe, Nat.succ_ne_zero, Nat.zero_add, Nat.add_zero, Nat.mul_one, Nat.one_mul, Nat.zero_mul, decide_true, decide_false, Bool.not_true, Bool.not_false, Nat.le_refl, Nat.zero_le, ge_iff_le, gt_iff_lt, Nat.reduceBEq, Nat.reduceBNe, beq_self_eq_true, bne_self_eq_false, Option.isSome_some, Option.isSome_none, Option.getD_some, Option.getD_none, proofmarklaw05_ClauseModels, zq2_0, zq2_1, zq2_2, zq2_3, zq2_4, zq2_5, zq2_6, zq2_7, zq2_8, zq2_9, zq2_10, zq2_11, zq2_12, zq2_13, zq2_14, zq2_15, zq2_16, zq2_17, zq2_18, zq2_19, zq2_20, zq2_21, zq2_22, zq2_23, mH, List.length_map, ints_length, false_implies, true_implies, true_and, and_true, not_true_eq_false, not_false_eq_true, Bool.not_true, Bool.not_false, List.length_cons, List.length_nil, List.cons_append, List.nil_append, Int.reduceBEq, Int.reduceBNe]))
  | false =>
    cases ok with
    | false =>
      refine W_round [(1, .lst 1 (ints L) false), (5, .ptr 0 tf 0), (11, .ptr 1 tl 0), (12, .bool false), (13, .lst 1 (ints l) false), (14, .bool can), (15, xa), (16, xb), (17, .lst 1 (ints c) false), (18, .bool made), (19, .int .i64 ((M : Nat) : Int)), (20, .lst 1 (m.map V.bool) false), (22, .bool false)] ⟨f1, f5, f11, f12, f13, f14, f15, f16, f17, f18, f19, f20, f22, trivial⟩  3 ?_
      simp -implicitDefEqProofs (disch := omega) only [go_sem, ↓reduceIte, Nat.reduceEqDiff, zq2_18, zq2_19, mH, List.cons_append, List.nil_append]
      iterate 14 (try (refine run_sem 3 ?_; simp -implicitDefEqProofs (disch := omega) only [go_sem, ↓reduceIte, Nat.reduceAdd, Nat.reduceEqDiff, Nat.zero_add, and_true]))
      try iterate 14 (try (refine run_sem 3 ?_; simp -implicitDefEqProofs (disch := omega) only [go_sem, need_of, ↓reduceIte, reduceCtorEq, Nat.reduceAdd, Nat.reduceEqDiff, Nat.reduceLeDiff, Nat.reduceLT, Nat.reduceSub, Nat.reduceMul, Int.reduceToNat, Int.reduceLE, Int.reduceLT, Int.reduceEq, Int.reduceNe, Nat.succ_ne_zero, Nat.zero_add, Nat.add_zero, Nat.mul_one, Nat.one_mul, Nat.zero_mul, decide_true, decide_false, Bool.not_true, Bool.not_false, Nat.le_refl, Nat.zero_le, ge_iff_le, gt_iff_lt, Nat.reduceBEq, Nat.reduceBNe, beq_self_eq_true, bne_self_eq_false, Option.isSome_some, Option.isSome_none, Option.getD_some, Option.getD_none, proofmarklaw05_ClauseModels, zq2_0, zq2_1, zq2_2, zq2_3, zq2_4, zq2_5, zq2_6, zq2_7, zq2_8, zq2_9, zq2_10, zq2_11, zq2_12, zq2_13, zq2_14, zq2_15, zq2_16, zq2_17, zq2_18, zq2_19, zq2_20, zq2_21, zq2_22, zq2_23, mH, List.length_map, ints_length, false_implies, true_implies, true_and, and_true, not_true_eq_false, not_false_eq_true, Bool.not_true, Bool.not_false, List.length_cons, List.length_nil, List.cons_append, List.nil_append, Int.reduceBEq, Int.reduceBNe]))
    | true =>
      have cE2 := cE2 rfl
      cases e2 with
      | false =>
        refine W_round [(1, .lst 1 (ints L) false), (5, .ptr 0 tf 0), (11, .ptr 1 tl 0), (12, .bool true), (13, .lst 1 (ints l) false), (14, .bool can), (15, xa), (16, xb), (17, .lst 1 (ints c) false), (18, .bool made), (19, .int .i64 ((M : Nat) : Int)), (20, .lst 1 (m.map V.bool) false), (22, .bool false)] ⟨f1, f5, f11, f12, f13, f14, f15, f16, f17, f18, f19, f20, f22, trivial⟩  3 ?_
        simp -implicitDefEqProofs (disch := omega) only [go_sem, ↓reduceIte, Nat.reduceEqDiff, zq2_18, zq2_19, mH, List.cons_append, List.nil_append]
        iterate 14 (try (refine run_sem 3 ?_; simp -implicitDefEqProofs (disch := omega) only [go_sem, ↓reduceIte, Nat.reduceAdd, Nat.reduceEqDiff, Nat.zero_add]))
        refine callPS hT t_proofmarklaw05_each cE2 nLm 3 ?_
        simp -implicitDefEqProofs (disch := omega) only [go_sem, ↓reduceIte, Nat.reduceAdd, Nat.reduceEqDiff]
        iterate 14 (try (refine run_sem 3 ?_; simp -implicitDefEqProofs (disch := omega) only [go_sem, ↓reduceIte, Nat.reduceAdd, Nat.reduceEqDiff, and_true]))
        try iterate 14 (try (refine run_sem 3 ?_; simp -implicitDefEqProofs (disch := omega) only [go_sem, need_of, ↓reduceIte, reduceCtorEq, Nat.reduceAdd, Nat.reduceEqDiff, Nat.reduceLeDiff, Nat.reduceLT, Nat.reduceSub, Nat.reduceMul, Int.reduceToNat, Int.reduceLE, Int.reduceLT, Int.reduceEq, Int.reduceNe, Nat.succ_ne_zero, Nat.zero_add, Nat.add_zero, Nat.mul_one, Nat.one_mul, Nat.zero_mul, decide_true, decide_false, Bool.not_true, Bool.not_false, Nat.le_refl, Nat.zero_le, ge_iff_le, gt_iff_lt, Nat.reduceBEq, Nat.reduceBNe, beq_self_eq_true, bne_self_eq_false, Option.isSome_some, Option.isSome_none, Option.getD_some, Option.getD_none, proofmarklaw05_ClauseModels, zq2_0, zq2_1, zq2_2, zq2_3, zq2_4, zq2_5, zq2_6, zq2_7, zq2_8, zq2_9, zq2_10, zq2_11, zq2_12, zq2_13, zq2_14, zq2_15, zq2_16, zq2_17, zq2_18, zq2_19, zq2_20, zq2_21, zq2_22, zq2_23, mH, List.length_map, ints_length, false_implies, true_implies, true_and, and_true, not_true_eq_false, not_false_eq_true, Bool.not_true, Bool.not_false, List.length_cons, List.length_nil, List.cons_append, List.nil_append, Int.reduceBEq, Int.reduceBNe]))
      | true =>
        have hh := hh rfl rfl
        subst hh
        refine W_round [(1, .lst 1 (ints L) false), (5, .ptr 0 tf 0), (11, .ptr 1 tl 0), (12, .bool true), (13, .lst 1 (ints l) false), (14, .bool can), (15, xa), (16, xb), (17, .lst 1 (ints c) false), (18, .bool made), (19, .int .i64 ((M : Nat) : Int)), (20, .lst 1 (m.map V.bool) false), (22, .bool false)] ⟨f1, f5, f11, f12, f13, f14, f15, f16, f17, f18, f19, f20, f22, trivial⟩  3 ?_
        simp -implicitDefEqProofs (disch := omega) only [go_sem, ↓reduceIte, Nat.reduceEqDiff, zq2_18, zq2_19, mH, List.cons_append, List.nil_append]
        iterate 14 (try (refine run_sem 3 ?_; simp -implicitDefEqProofs (disch := omega) only [go_sem, ↓reduceIte, Nat.reduceAdd, Nat.reduceEqDiff, Nat.zero_add]))
        refine callPS hT t_proofmarklaw05_each cE2 nLm 3 ?_
        simp -implicitDefEqProofs (disch := omega) only [go_sem, ↓reduceIte, Nat.reduceAdd, Nat.reduceEqDiff, Nat.zero_add]
        iterate 14 (try (refine run_sem 3 ?_; simp -implicitDefEqProofs (disch := omega) only [go_sem, ↓reduceIte, reduceCtorEq, Nat.reduceAdd, Nat.reduceEqDiff, Nat.zero_add, Nat.le_refl, false_implies, and_true, List.length_cons, List.length_nil]))
        refine callPS hT t_clause_Holds cH2 nAm 3 ?_
        simp -implicitDefEqProofs (disch := omega) only [go_sem, ↓reduceIte, Nat.reduceAdd, Nat.reduceEqDiff, bne_self_eq_false]
        iterate 14 (try (refine run_sem 3 ?_; simp -implicitDefEqProofs (disch := omega) only [go_sem, ↓reduceIte, Nat.reduceEqDiff, and_true]))
        try iterate 14 (try (refine run_sem 3 ?_; simp -implicitDefEqProofs (disch := omega) only [go_sem, need_of, ↓reduceIte, reduceCtorEq, Nat.reduceAdd, Nat.reduceEqDiff, Nat.reduceLeDiff, Nat.reduceLT, Nat.reduceSub, Nat.reduceMul, Int.reduceToNat, Int.reduceLE, Int.reduceLT, Int.reduceEq, Int.reduceNe, Nat.succ_ne_zero, Nat.zero_add, Nat.add_zero, Nat.mul_one, Nat.one_mul, Nat.zero_mul, decide_true, decide_false, Bool.not_true, Bool.not_false, Nat.le_refl, Nat.zero_le, ge_iff_le, gt_iff_lt, Nat.reduceBEq, Nat.reduceBNe, beq_self_eq_true, bne_self_eq_false, Option.isSome_some, Option.isSome_none, Option.getD_some, Option.getD_none, proofmarklaw05_ClauseModels, zq2_0, zq2_1, zq2_2, zq2_3, zq2_4, zq2_5, zq2_6, zq2_7, zq2_8, zq2_9, zq2_10, zq2_11, zq2_12, zq2_13, zq2_14, zq2_15, zq2_16, zq2_17, zq2_18, zq2_19, zq2_20, zq2_21, zq2_22, zq2_23, mH, List.length_map, ints_length, false_implies, true_implies, true_and, and_true, not_true_eq_false, not_false_eq_true, Bool.not_true, Bool.not_false, List.length_cons, List.length_nil, List.cons_append, List.nil_append, Int.reduceBEq, Int.reduceBNe]))
theorem st_B (hT : TabOk P tab) {t tf tl v : Nat} {w : Int} {F A : List (List Int)} {L l a b c : List Int} {xa xb : V} {ok can made : Bool} {M : Nat} {m : List Bool} {ca cb : Bool}
    (cA : Pure P G n_proofmarkref05_Clause [xa, .lst 1 (m.map V.bool) false] fun u => u = .bool ca)
    (cB : Pure P G n_proofmarkref05_Clause [xb, .lst 1 (m.map V.bool) false] fun u => u = .bool cb)
    (hxa : nameless xa = true) (hxb : nameless xb = true)
    (cC : made = true → ca = true → cb = true → Pure P G n_proofmarkref05_Clause [.lst 1 (ints c) false, .lst 1 (m.map V.bool) false] fun u => u = .bool true)
    {fr : Fr} (hfr : fget fr 1 = .lst 1 (ints L) false ∧ fget fr 5 = .ptr 0 tf 0 ∧ fget fr 11 = .ptr 1 tl 0 ∧ fget fr 12 = .bool ok ∧ fget fr 13 = .lst 1 (ints l) false ∧ fget fr 14 = .bool can ∧ fget fr 15 = xa ∧ fget fr 16 = xb ∧ fget fr 17 = .lst 1 (ints c) false ∧ fget fr 18 = .bool made ∧ fget fr 19 = .int .i64 ((M : Nat) : Int) ∧ fget fr 20 = .lst 1 (m.map V.bool) false) :
    W P G 153 0 (AC.seq (AC.reg zq2_20 [135, 136, 137, 138, 139, 140, 141, 142, 143, 144, 145, 146, 147, 148, 149, 150])   (AC.cond (Arg.t 151)   (AC.seq (AC.reg zq2_21 [])   AC.ret)   AC.skip)) fr ⟨t, mH tf tl v w F A ++ [none]⟩ fun e fr σ => e = .nrm ∧ fget fr 1 = .lst 1 (ints L) false ∧ fget fr 5 = .ptr 0 tf 0 ∧ fget fr 11 = .ptr 1 tl 0 ∧ fget fr 12 = .bool ok ∧ fget fr 13 = .lst 1 (ints l) false ∧ fget fr 14 = .bool can ∧ fget fr 15 = xa ∧ fget fr 16 = xb ∧ fget fr 17 = .lst 1 (ints c) false ∧ fget fr 18 = .bool made ∧ fget fr 19 = .int .i64 ((M : Nat) : Int) ∧ fget fr 20 = .lst 1 (m.map V.bool) false ∧ σ = ⟨t, mH tf tl v w F A ++ [none]⟩ := by
  obtain ⟨f1, f5, f11, f12, f13, f14, f15, f16, f17, f18, f19, f20⟩ := hfr
  have na : namelessL [xa, .lst 1 (m.map V.bool) false] = true := by simp [namelessL, nameless, hxa]
  have nb : namelessL [xb, .lst 1 (m.map V.bool) false] = true := by simp [namelessL, nameless, hxb]
  have nc : namelessL [V.lst 1 (ints c) false, .lst 1 (m.map V.bool) false] = true := by simp [namelessL, nameless]
  cases made with
  | false =>
    refine W_round [(1, .lst 1 (ints L) false), (5, .ptr 0 tf 0), (11, .ptr 1 tl 0), (12, .bool ok), (13, .lst 1 (ints l) false), (14, .bool can), (15, xa), (16, xb), (17, .lst 1 (ints c) false), (18, .bool false), (19, .int .i64 ((M : Nat) : Int)), (20, .lst 1 (m.map V.bool) false)] ⟨f1, f5, f11, f12, f13, f14, f15, f16, f17, f18, f19, f20, trivial⟩  3 ?_
    simp -implicitDefEqProofs (disch := omega) only [go_sem, ↓reduceIte, Nat.reduceEqDiff, zq2_20, zq2_21, mH, List.cons_append, List.nil_append]
    iterate 14 (try (refine run_sem 3 ?_; simp -implicitDefEqProofs (disch := omega) only [go_sem, ↓reduceIte, Nat.reduceEqDiff, and_true]))
  | true =>
    cases ca with
    | false =>
      refine W_round [(1, .lst 1 (ints L) false), (5, .ptr 0 tf 0), (11, .ptr 1 tl 0), (12, .bool ok), (13, .lst 1 (ints l) false), (14, .bool can), (15, xa), (16, xb), (17, .lst 1 (ints c) false), (18, .bool true), (19, .int .i64 ((M : Nat) : Int)), (20, .lst 1 (m.map V.bool) false)] ⟨f1, f5, f11, f12, f13, f14, f15, f16, f17, f18, f19, f20, trivial⟩  3 ?_
      simp -implicitDefEqProofs (disch := omega) only [go_sem, ↓reduceIte, Nat.reduceEqDiff, zq2_20, zq2_21, mH, List.cons_append, List.nil_append]
      iterate 14 (try (refine run_sem 3 ?_; simp -implicitDefEqProofs (disch := omega) only [go_sem, ↓reduceIte, Nat.reduceAdd, Nat.reduceEqDiff, Nat.zero_add]))
      refine callPS hT t_proofmarkref05_Clause cA na 3 ?_
      simp -implicitDefEqProofs (disch := omega) only [go_sem, ↓reduceIte, Nat.reduceEqDiff]
      iterate 14 (try (refine run_sem 3 ?_; simp -implicitDefEqProofs (disch := omega) only [go_sem, ↓reduceIte, Nat.reduceEqDiff, and_true]))
    | true =>
      cases cb with
      | false =>
        refine W_round [(1, .lst 1 (ints L) false), (5, .ptr 0 tf 0), (11, .ptr 1 tl 0), (12, .bool ok), (13, .lst 1 (ints l) false), (14, .bool can), (15, xa), (16, xb), (17, .lst 1 (ints c) false), (18, .bool true), (19, .int .i64 ((M : Nat) : Int)), (20, .lst 1 (m.map V.bool) false)] ⟨f1, f5, f11, f12, f13, f14, f15, f16, f17, f18, f19, f20, trivial⟩  3 ?_
        simp -implicitDefEqProofs (disch := omega) only [go_sem, ↓reduceIte, Nat.reduceEqDiff, zq2_20, zq2_21, mH, List.cons_append, List.nil_append]
        iterate 14 (try (refine run_sem 3 ?_; simp -implicitDefEqProofs (disch := omega) only [go_sem, ↓reduceIte, Nat.reduceAdd, Nat.reduceEqDiff, Nat.zero_add]))
        refine callPS hT t_proofmarkref05_Clause cA na 3 ?_
        simp -implicitDefEqProofs (disch := omega) only [go_sem, ↓reduceIte, Nat.reduceEqDiff, Nat.zero_add]
        iterate 14 (try (refine run_sem 3 ?_; simp -implicitDefEqProofs (disch := omega) only [go_sem, ↓reduceIte, Nat.reduceAdd, Nat.reduceEqDiff]))
        refine callPS hT t_proofmarkref05_Clause cB nb 3 ?_
        simp -implicitDefEqProofs (disch := omega) only [go_sem, ↓reduceIte, Nat.reduceEqDiff]
        iterate 14 (try (refine run_sem 3 ?_; simp -implicitDefEqProofs (disch := omega) only [go_sem, ↓reduceIte, Nat.reduceEqDiff, and_true]))
      | true =>
        have cC := cC rfl rfl rfl
        refine W_round [(1, .lst 1 (ints L) false), (5, .ptr 0 tf 0), (11, .ptr 1 tl 0), (12, .bool ok), (13, .lst 1 (ints l) false), (14, .bool can), (15, xa), (16, xb), (17, .lst 1 (ints c) false), (18, .bool true), (19, .int .i64 ((M : Nat) : Int)), (20, .lst 1 (m.map V.bool) false)] ⟨f1, f5, f11, f12, f13, f14, f15, f16, f17, f18, f19, f20, trivial⟩  3 ?_
        simp -implicitDefEqProofs (disch := omega) only [go_sem, ↓reduceIte, Nat.reduceEqDiff, zq2_20, zq2_21, mH, List.cons_append, List.nil_append]
        iterate 14 (try (refine run_sem 3 ?_; simp -implicitDefEqProofs (disch := omega) only [go_sem, ↓reduceIte, Nat.reduceAdd, Nat.reduceEqDiff, Nat.zero_add]))
        refine callPS hT t_proofmarkref05_Clause cA na 3 ?_
        simp -implicitDefEqProofs (disch := omega) only [go_sem, ↓reduceIte, Nat.reduceEqDiff, Nat.zero_add]
        iterate 14 (try (refine run_sem 3 ?_; simp -implicitDefEqProofs (disch := omega) only [go_sem, ↓reduceIte, Nat.reduceAdd, Nat.reduceEqDiff]))
        refine callPS hT t_proofmarkref05_Clause cB nb 3 ?_
        simp -implicitDefEqProofs (disch := omega) only [go_sem, ↓reduceIte, Nat.reduceEqDiff, Nat.zero_add]
        iterate 14 (try (refine run_sem 3 ?_; simp -implicitDefEqProofs (disch := omega) only [go_sem, ↓reduceIte, Nat.reduceAdd, Nat.reduceEqDiff]))
        refine callPS hT t_proofmarkref05_Clause cC nc 3 ?_
        simp -implicitDefEqProofs (disch := omega) only [go_sem, ↓reduceIte, Nat.reduceAdd, Nat.reduceEqDiff, Bool.not_true, Bool.not_true]
        iterate 14 (try (refine run_sem 3 ?_; simp -implicitDefEqProofs (disch := omega) only [go_sem, ↓reduceIte, Nat.reduceEqDiff, and_true]))
end Go.Proofs.YtingdebioipemaaDoor
