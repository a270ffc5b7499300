/- What instructions read: walked. -/
import Derived.Test.YtkhdfbokkneeaaaDoorRt3
import Derived.Test.YtkhdfbokkneeaaaDoorRt4
import Derived.Test.YtkhdfbokkneeaaaDoorAmD
namespace Go.Proofs.YtkhdfbokkneeaaaDoor
open Go Go.Am Go.Rv
set_option maxRecDepth 100000
variable {P : Program}

def us (l : List Int) : List V := l.map (V.int .u8)
def readsL (a b : Int) : List Int := (if 0 < min a b then [min a b] else []) ++ (if min a b < max a b then [max a b] else [])
def rds (x : In) : List Int := if (enc T x).2 = 0 then readsL x.rs1 x.rs2 else []
theorem readsL_comm (a b : Int) : readsL a b = readsL b a := by unfold readsL; rw [Int.min_comm, Int.max_comm]
theorem readsL_lt {a b : Int} (h : a < b) (h0 : 0 ≤ a) : readsL a b = if a = 0 then [b] else [a, b] := by
  unfold readsL
  rw [Int.min_eq_left (by omega), Int.max_eq_right (by omega), if_pos h]
  split <;> split <;> first | rfl | omega
theorem readsL_eq {a : Int} (h0 : 0 ≤ a) : readsL a a = if a = 0 then [] else [a] := by
  unfold readsL
  rw [Int.min_self, Int.max_self, if_neg (Int.lt_irrefl a)]
  split <;> split <;> first | rfl | omega
abbrev rdQ (X : Option Ob) (x : In) : V → H → Prop := fun v σ => (rds x = [] ∧ v = .lst 0 [] true ∧ ∃ t' ex, σ = ⟨t', X :: ex⟩) ∨ ∃ t' w B cs, v = .sl 2 w 0 1 (rds x).length none ∧ σ = ⟨t', h3 X B w (us (rds x) ++ cs)⟩
theorem c_Reads (hT : TabOk Tryd.prog tab) (x : In) (hx : InOk x) {t : Nat} {X : Option Ob} : C Tryd.prog G0 0 n_rv_Reads [.agg (inC x)] ⟨t, [X]⟩ (rdQ X x) := by
  have hE := c_Encode hT x hx
  obtain ⟨ho, hd, h1, h2, hi⟩ := hx
  refine C_tab hT t_rv_Reads (by simp [rv_Reads]) (W_run 1000 ?_)
  simp -implicitDefEqProofs (disch := omega) only [go_sem, ↓reduceIte, reduceCtorEq, Nat.reduceAdd, Nat.reduceEqDiff, Nat.zero_add, Nat.le_refl, rv_Reads, rv_Reads_r0, rv_Reads_r1, rv_Reads_r2, rv_Reads_r3, rv_Reads_r4, rv_Reads_r5, rv_Reads_r6, rv_Reads_r7, inC, false_implies, and_true, List.cons_append, List.nil_append, List.length_cons, List.length_nil]
  refine callPS hT t_rv_Encode hE rfl 1000 ?_
  by_cases hok : (enc T x).2 = 0
  · have hr : rds x = readsL x.rs1 x.rs2 := if_pos hok
    simp -implicitDefEqProofs (disch := omega) only [go_sem, ↓reduceIte, reduceCtorEq, Nat.reduceAdd, Nat.reduceEqDiff, Nat.reduceLeDiff, Nat.reduceLT, Nat.zero_add, Nat.le_refl, bne_self_eq_false, true_implies, and_true, List.cons_append, List.nil_append, List.length_cons, List.length_nil, hok]
    have hS := fun (t w : Nat) (B : Option Ob) => c_Sort2 (P := Tryd.prog) (G := G0) hT (t := t) (w := w) (X := X) (B := B) x.rs1 x.rs2
    simp only [h3] at hS
    refine call hT t_slices_Sort_uint8_uint8 (hS _ _ _) 40 fun v σ hv => ?_
    obtain ⟨rfl, rfl⟩ := hv
    rcases Int.lt_trichotomy x.rs1 x.rs2 with hlt | heq | hgt
    · have hz := readsL_lt hlt h1.1
      rw [if_neg (by omega)]
      simp -implicitDefEqProofs (disch := omega) only [go_sem, ↓reduceIte, reduceCtorEq, Nat.reduceEqDiff]
      have hK := fun (t w : Nat) (B : Option Ob) => c_Compact2 (P := Tryd.prog) (G := G0) hT (t := t) (w := w) (X := X) (B := B) x.rs1 x.rs2
      have hD := fun (t w : Nat) (B : Option Ob) => c_Del2 (P := Tryd.prog) (G := G0) hT (t := t) (w := w) (X := X) (B := B) x.rs1 x.rs2 hlt h1.1
      simp only [h3] at hK hD
      refine call hT t_slices_Compact_uint8_uint8 (hK _ _ _) 40 fun v σ hv => ?_
      rcases hv with ⟨he, _, _⟩ | ⟨_, rfl, rfl⟩
      · omega
      simp -implicitDefEqProofs (disch := omega) only [go_sem, ↓reduceIte, reduceCtorEq, Nat.reduceEqDiff]
      refine call hT t_slices_DeleteFunc_uint8_uint8 (hD _ _ _) 40 fun v σ hv => ?_
      obtain ⟨t', _, ⟨h0, rfl, rfl⟩ | ⟨h0, rfl, rfl⟩⟩ := hv
      · rw [if_pos h0] at hz
        simp -implicitDefEqProofs (disch := omega) only [go_sem, ↓reduceIte, reduceCtorEq, Nat.reduceEqDiff]
        exact .inr ⟨t', _, _, [.int .u8 0], by rw [hr, hz]; rfl, by rw [hr, hz]; rfl⟩
      · rw [if_neg h0] at hz
        simp -implicitDefEqProofs (disch := omega) only [go_sem, ↓reduceIte, reduceCtorEq, Nat.reduceEqDiff]
        exact .inr ⟨t', _, _, [], by rw [hr, hz]; rfl, by rw [hr, hz]; rfl⟩
    · have hz := readsL_eq h1.1
      rw [if_neg (by omega)]
      rw [← heq] at hr ⊢
      simp -implicitDefEqProofs (disch := omega) only [go_sem, ↓reduceIte, reduceCtorEq, Nat.reduceEqDiff]
      have hK := fun (t w : Nat) (B : Option Ob) => c_Compact2 (P := Tryd.prog) (G := G0) hT (t := t) (w := w) (X := X) (B := B) x.rs1 x.rs1
      have hD := fun (t w : Nat) (B : Option Ob) => c_Del1 (P := Tryd.prog) (G := G0) hT (t := t) (w := w) (X := X) (B := B) x.rs1 0
      simp only [h3] at hK hD
      refine call hT t_slices_Compact_uint8_uint8 (hK _ _ _) 40 fun v σ hv => ?_
      rcases hv with ⟨_, rfl, rfl⟩ | ⟨he, _, _⟩
      · simp -implicitDefEqProofs (disch := omega) only [go_sem, ↓reduceIte, reduceCtorEq, Nat.reduceEqDiff]
        refine call hT t_slices_DeleteFunc_uint8_uint8 (hD _ _ _) 40 fun v σ hv => ?_
        obtain ⟨t', _, ⟨h0, rfl, rfl⟩ | ⟨h0, rfl, rfl⟩⟩ := hv
        · rw [if_pos h0] at hz
          simp -implicitDefEqProofs (disch := omega) only [go_sem, ↓reduceIte, reduceCtorEq, Nat.reduceEqDiff]
          exact .inr ⟨t', _, _, [.int .u8 0, .int .u8 0], by rw [hr, hz]; rfl, by rw [hr, hz]; rfl⟩
        · rw [if_neg h0] at hz
          simp -implicitDefEqProofs (disch := omega) only [go_sem, ↓reduceIte, reduceCtorEq, Nat.reduceEqDiff]
          exact .inr ⟨t', _, _, [.int .u8 0], by rw [hr, hz]; rfl, by rw [hr, hz]; rfl⟩
      · exact absurd rfl he
    · have hz := readsL_lt hgt h2.1
      rw [readsL_comm] at hr
      rw [if_pos hgt]
      simp -implicitDefEqProofs (disch := omega) only [go_sem, ↓reduceIte, reduceCtorEq, Nat.reduceEqDiff]
      have hK := fun (t w : Nat) (B : Option Ob) => c_Compact2 (P := Tryd.prog) (G := G0) hT (t := t) (w := w) (X := X) (B := B) x.rs2 x.rs1
      have hD := fun (t w : Nat) (B : Option Ob) => c_Del2 (P := Tryd.prog) (G := G0) hT (t := t) (w := w) (X := X) (B := B) x.rs2 x.rs1 hgt h2.1
      simp only [h3] at hK hD
      refine call hT t_slices_Compact_uint8_uint8 (hK _ _ _) 40 fun v σ hv => ?_
      rcases hv with ⟨he, _, _⟩ | ⟨_, rfl, rfl⟩
      · omega
      simp -implicitDefEqProofs (disch := omega) only [go_sem, ↓reduceIte, reduceCtorEq, Nat.reduceEqDiff]
      refine call hT t_slices_DeleteFunc_uint8_uint8 (hD _ _ _) 40 fun v σ hv => ?_
      obtain ⟨t', _, ⟨h0, rfl, rfl⟩ | ⟨h0, rfl, rfl⟩⟩ := hv
      · rw [if_pos h0] at hz
        simp -implicitDefEqProofs (disch := omega) only [go_sem, ↓reduceIte, reduceCtorEq, Nat.reduceEqDiff]
        exact .inr ⟨t', _, _, [.int .u8 0], by rw [hr, hz]; rfl, by rw [hr, hz]; rfl⟩
      · rw [if_neg h0] at hz
        simp -implicitDefEqProofs (disch := omega) only [go_sem, ↓reduceIte, reduceCtorEq, Nat.reduceEqDiff]
        exact .inr ⟨t', _, _, [], by rw [hr, hz]; rfl, by rw [hr, hz]; rfl⟩
  · have hok' : ((enc T x).2 = 0) = False := eq_false hok
    have hr : rds x = [] := if_neg hok
    simp -implicitDefEqProofs (disch := omega) only [go_sem, ↓reduceIte, reduceCtorEq, Nat.reduceAdd, Nat.reduceEqDiff, Nat.reduceLeDiff, Nat.reduceLT, Nat.zero_add, Nat.le_refl, false_implies, true_implies, and_true, not_false_eq_true, List.cons_append, List.nil_append, List.length_cons, List.length_nil, hok']
    exact .inl ⟨hr, rfl, _, _, rfl⟩
theorem rds_len (x : In) : (rds x).length ≤ 2 := by
  unfold rds readsL
  split
  · split <;> split <;> simp
  · simp
theorem us_frz {k w : Nat} (l : List Int) : frzV k w (us l) (.sl k w 0 1 l.length none) = .lst 1 (us l) false := by
  have := frz_sl (k := k) (w := w) (sz := 1) (cs := us l) (fun u hu => by
    obtain ⟨a, _, rfl⟩ := List.mem_map.1 hu
    rfl)
  simpa [us] using this
theorem us_nl (l : List Int) : nameless (.lst 1 (us l) false) = true := by
  simp only [nameless]
theorem c_rReads (hT : TabOk P tab) (x : In) (hx : InOk x) : Pure P G0 n_proofmarkref10_Reads [.agg (inC x)] fun u => u = .lst 1 (us (rds x)) false := by
  have hE := c_rEncode hT x hx
  obtain ⟨ho, hd, h1, h2, hi⟩ := hx
  refine Pure_frz (fun t => ?_) (us_nl _)
  refine C_tab hT t_proofmarkref10_Reads (by simp [proofmarkref10_Reads]) (W_run 1000 ?_)
  simp -implicitDefEqProofs (disch := omega) only [go_sem, ↓reduceIte, reduceCtorEq, Nat.reduceAdd, Nat.reduceEqDiff, Nat.zero_add, Nat.le_refl, proofmarkref10_Reads, proofmarkref10_Reads_r0, proofmarkref10_Reads_r1, proofmarkref10_Reads_r2, proofmarkref10_Reads_r3, proofmarkref10_Reads_r4, proofmarkref10_Reads_r5, proofmarkref10_Reads_r6, proofmarkref10_Reads_r7, proofmarkref10_Reads_r8, proofmarkref10_Reads_r9, proofmarkref10_Reads_r10, inC, false_implies, and_true, List.nil_append, List.length_cons, List.length_nil]
  refine callPS hT t_proofmarkref10_Encode hE rfl 1000 ?_
  by_cases hok : (enc T x).2 = 0
  · have hr : rds x = readsL x.rs1 x.rs2 := if_pos hok
    have e1 : (if x.rs2 < x.rs1 then x.rs2 else x.rs1) = min x.rs1 x.rs2 := by rw [Int.min_def]; split <;> split <;> omega
    have e2 : (if x.rs1 < x.rs2 then x.rs2 else x.rs1) = max x.rs1 x.rs2 := by rw [Int.max_def]; split <;> split <;> omega
    unfold readsL at hr
    have hn2 : ∀ a b : Int, namelessL [V.int .u8 a, V.int .u8 b] = true := fun _ _ => rfl
    have hn1 : ∀ a : Int, namelessL [V.int .u8 a] = true := fun _ => rfl
    by_cases p : 0 < min x.rs1 x.rs2 <;> by_cases q : min x.rs1 x.rs2 < max x.rs1 x.rs2
    · rw [if_pos p, if_pos q] at hr
      simp -implicitDefEqProofs (disch := omega) only [go_sem, ↓reduceIte, reduceCtorEq, Nat.reduceAdd, Nat.reduceEqDiff, Nat.reduceLeDiff, Nat.reduceLT, Nat.zero_add, Nat.mul_one, decide_true, Bool.not_true, Nat.le_refl, Nat.zero_le, gt_iff_lt, bne_self_eq_false, true_implies, and_true, Bool.not_true, List.cons_append, List.nil_append, List.length_cons, List.length_nil, hok, e1, e2, p, q, hr]
      have := us_frz (k := 1) (w := t + 1 + 1) [min x.rs1 x.rs2, max x.rs1 x.rs2]
      exact ⟨1, t + 1 + 1, _, _, rfl, hn2 _ _, by erw [this]; exact us_nl _, by erw [this]; exact .refl _⟩
    · rw [if_pos p, if_neg q] at hr
      simp -implicitDefEqProofs (disch := omega) only [go_sem, ↓reduceIte, reduceCtorEq, Nat.reduceAdd, Nat.reduceEqDiff, Nat.reduceLeDiff, Nat.reduceLT, Nat.zero_add, Nat.mul_one, decide_true, decide_false, Nat.le_refl, gt_iff_lt, bne_self_eq_false, true_implies, and_true, List.cons_append, List.nil_append, List.length_cons, List.length_nil, hok, e1, e2, p, q, hr]
      have := us_frz (k := 1) (w := t + 1) [min x.rs1 x.rs2]
      exact ⟨1, t + 1, _, _, rfl, hn1 _, by erw [this]; exact us_nl _, by erw [this]; exact .refl _⟩
    · rw [if_neg p, if_pos q] at hr
      simp -implicitDefEqProofs (disch := omega) only [go_sem, ↓reduceIte, reduceCtorEq, Nat.reduceAdd, Nat.reduceEqDiff, Nat.reduceLeDiff, Nat.reduceLT, Nat.zero_add, Nat.mul_one, decide_true, decide_false, Nat.le_refl, gt_iff_lt, bne_self_eq_false, true_implies, and_true, List.cons_append, List.nil_append, List.length_cons, List.length_nil, hok, e1, e2, p, q, hr]
      have := us_frz (k := 1) (w := t + 1) [max x.rs1 x.rs2]
      exact ⟨1, t + 1, _, _, rfl, hn1 _, by erw [this]; exact us_nl _, by erw [this]; exact .refl _⟩
    · rw [if_neg p, if_neg q] at hr
      simp -implicitDefEqProofs (disch := omega) only [go_sem, ↓reduceIte, reduceCtorEq, Nat.reduceAdd, Nat.reduceEqDiff, Nat.reduceLeDiff, Nat.reduceLT, Nat.zero_add, decide_false, gt_iff_lt, bne_self_eq_false, true_implies, true_and, and_true, List.nil_append, List.length_cons, List.length_nil, hok, e1, e2, p, q, hr]
      exact .inl (.lst 0 1 [] [] true .nil (.inl rfl))
  · have hok' : ((enc T x).2 = 0) = False := eq_false hok
    have hr : rds x = [] := if_neg hok
    simp -implicitDefEqProofs (disch := omega) only [go_sem, ↓reduceIte, reduceCtorEq, Nat.reduceAdd, Nat.reduceEqDiff, Nat.reduceLeDiff, Nat.reduceLT, Nat.zero_add, Nat.mul_one, Bool.not_true, Nat.le_refl, Nat.zero_le, gt_iff_lt, false_implies, true_implies, true_and, and_true, not_false_eq_true, Bool.not_true, List.cons_append, List.nil_append, List.length_cons, List.length_nil, hok', hr]
    exact .inl (.lst 0 1 [] [] true .nil (.inl rfl))
end Go.Proofs.YtkhdfbokkneeaaaDoor
