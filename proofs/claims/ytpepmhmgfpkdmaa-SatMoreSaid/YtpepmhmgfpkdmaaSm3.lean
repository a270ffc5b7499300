/- The law SatMore. -/
import Derived.Test.YtpepmhmgfpkdmaaSm2
namespace Go.Proofs.Ytpepmhmgfpkdmaa
open Go Go.Am Go.Cl Go.Sat
set_option maxRecDepth 100000
variable {G : Nat → Option V}

def SatF (F : List (List Int)) : Prop := ∃ M : Nat → Bool, ∀ c ∈ F, Holds M c
theorem tru_turn (T : Int) (M : Nat → Bool) {n : Int} (h : n ≠ 0) : tru M (turnL T n) = tru (fun v => M v != tb T v) n := by
  unfold turnL
  cases hb : tb T n.natAbs with
  | true =>
    rw [if_pos rfl, tru_neg h]
    unfold tru
    split <;> simp [hb]
  | false =>
    rw [if_neg (by simp)]
    unfold tru
    split <;> simp [hb]
theorem holds_turn {T : Int} {M : Nat → Bool} {c : List Int} (h : ∀ n ∈ c, n ≠ 0) : Holds M (c.map (turnL T)) ↔ Holds (fun v => M v != tb T v) c := by
  constructor
  · rintro ⟨l, hl, ht⟩
    obtain ⟨n, hn, rfl⟩ := List.mem_map.1 hl
    exact ⟨n, hn, by rw [← tru_turn T M (h n hn)]; exact ht⟩
  · rintro ⟨n, hn, ht⟩
    exact ⟨_, List.mem_map.2 ⟨n, hn, rfl⟩, by rw [tru_turn T M (h n hn)]; exact ht⟩
theorem sat_turn {T : Int} {F : List (List Int)} (h : ∀ c ∈ F, ∀ n ∈ c, n ≠ 0) : SatF (turnF T F) ↔ SatF F := by
  constructor
  · rintro ⟨M, hM⟩
    exact ⟨fun v => M v != tb T v, fun c hc => (holds_turn (h c hc)).1 (hM _ (List.mem_map.2 ⟨c, hc, rfl⟩))⟩
  · rintro ⟨M, hM⟩
    refine ⟨fun v => M v != tb T v, fun d hd => ?_⟩
    obtain ⟨c, hc, rfl⟩ := List.mem_map.1 hd
    refine (holds_turn (h c hc)).2 ?_
    have : (fun v => (M v != tb T v) != tb T v) = M := funext fun v => by cases M v <;> cases tb T v <;> rfl
    rw [this]
    exact hM c hc

theorem ans_sat {vars : Nat} {F : List (List Int)} (hv : vars ≤ 8) (hF : ∀ c ∈ F, ∀ l ∈ c, l ≠ 0 ∧ l.natAbs < vars + 1) :
    ∃ k z1 m t1 z2 p t2 u, ansV vars 1048576 (solve vars F 1048576) = .agg (ansC k z1 m t1 z2 p t2 u) ∧ ((k = 1 ∧ SatF F) ∨ (k = 2 ∧ ¬ SatF F)) := by
  obtain ⟨⟨s, b⟩, e⟩ := solve_some hv hF
  have ht := solve_tells (by omega) hF e
  rw [e]
  cases b with
  | true =>
    obtain ⟨M, _, hM⟩ := ht
    exact ⟨1, 1, model vars s, false, 0, [], true, _, rfl, .inl ⟨rfl, M, hM⟩⟩
  | false => exact ⟨2, 0, [], true, 1, s.pf, false, _, rfl, .inr ⟨rfl, fun ⟨M, hM⟩ => ht M hM⟩⟩

abbrev fH (t tg th : Nat) (v : Int) (F R H2 : List (List Int)) : List (Option Ob) := [some (.arr t 24 [.int .i64 v, .lst 1 (F.map row) false]), some (.arr tg 24 [.int .i64 v, .lst 1 (R.map row) false]), some (.arr th 24 [.int .i64 v, .lst 1 (H2.map row) false])]
theorem frz3 {t tg th w wh m : Nat} {v : Int} {F R H2 : List (List Int)} {n : Nat} (hn : R.length = n) :
    mapFrom (frzV 3 w (R.map row)) 0 ((mB t tg th v F (.sl 3 w 0 1 n none) (.sl 4 wh 0 1 m none) (R.map row) (H2.map row) w wh).set 3 none) = [some (.arr t 24 [.int .i64 v, .lst 1 (F.map row) false]), some (.arr tg 24 [.int .i64 v, .lst 1 (R.map row) false]), some (.arr th 24 [.int .i64 v, .sl 4 wh 0 1 m none]), none, some (.arr wh 37 (H2.map row))] := by
  subst hn
  have h1 := rows_frz 3 w (R.map row) H2
  have h2 := frz_self (k := 3) (w := w) (l := R.map row)
  rw [List.length_map] at h2
  simp [mapFrom, Ob.mapV, h2] at h1 ⊢
  simp [frzV] at h1 ⊢
  exact h1
theorem frz4 {t tg th wh m : Nat} {v : Int} {F R H2 : List (List Int)} (hm : H2.length = m) :
    mapFrom (frzV 4 wh (H2.map row)) 0 (([some (.arr t 24 [.int .i64 v, .lst 1 (F.map row) false]), some (.arr tg 24 [.int .i64 v, .lst 1 (R.map row) false]), some (.arr th 24 [.int .i64 v, .sl 4 wh 0 1 m none]), none, some (.arr wh 37 (H2.map row))] : List (Option Ob)).set 4 none) = fH t tg th v F R H2 ++ [none, none] := by
  subst hm
  have h2 := frz_self (k := 4) (w := wh) (l := H2.map row)
  rw [List.length_map] at h2
  simp [mapFrom, Ob.mapV, h2]
  simp [frzV]

theorem c_SatMore (hT : TabOk Try.prog tab) (v : Int) (F : List (List Int)) (cl : List Int) (T : Int) (hF : F.length ≤ 9223372036854775807) (hFc : ∀ c ∈ F, c.length ≤ 9223372036854775807) (hcl : cl.length ≤ 9223372036854775807) :
    Pure Try.prog G n_proofmarklaw07_SatMore [fml v F, row cl, .int .u8 T] fun u => u = .bool true := by
  have hW := c_works (G := G) hT
  have hfew := c_few (P := Try.prog) (G := G) hT v F 30 8 (by omega) hF hFc
  have hpl := c_plain (P := Try.prog) (G := G) hT v F
  have hRi := c_rRight (P := Try.prog) (G := G) hT v F hF hFc
  have hR1 : Pure Try.prog G n_proofmarkref05_Right [.agg [.int .i64 v, .lst 1 [.lst 1 (ints cl) false] true]] fun u => u = .bool (right v [cl]) :=
    Pure.args (.cons _ _ _ _ (.agg _ _ (.cons _ _ _ _ (.refl _) (.cons _ _ _ _ (.lst 1 1 _ _ true (WkL.refl _) (.inr rfl)) .nil))) .nil) (c_rRight (P := Try.prog) (G := G) hT v [cl] (by simp) (by simpa using hcl))
  have hnr := nameless_rows F
  have hni := ints_nameless cl
  simp only [fml, rows, row] at hfew hpl hRi ⊢
  intro t
  refine C_keep 0 (Nat.zero_le _) (C_tab hT t_proofmarklaw07_SatMore (by simp [proofmarklaw07_SatMore]) (W_run 1000 ?_))
  simp -implicitDefEqProofs (disch := omega) only [go_sem, ↓reduceIte, reduceCtorEq, Nat.reduceAdd, Nat.reduceEqDiff, Nat.reduceLeDiff, Nat.zero_add, Nat.add_zero, Bool.not_false, Nat.le_refl, Nat.zero_le, proofmarklaw07_SatMore, proofmarklaw07_SatMore_r0, proofmarklaw07_SatMore_r1, proofmarklaw07_SatMore_r2, proofmarklaw07_SatMore_r3, proofmarklaw07_SatMore_r4, proofmarklaw07_SatMore_r5, proofmarklaw07_SatMore_r6, proofmarklaw07_SatMore_r7, proofmarklaw07_SatMore_r8, proofmarklaw07_SatMore_r9, proofmarklaw07_SatMore_r10, proofmarklaw07_SatMore_r11, proofmarklaw07_SatMore_r12, proofmarklaw07_SatMore_r13, proofmarklaw07_SatMore_r14, proofmarklaw07_SatMore_r15, proofmarklaw07_SatMore_r16, proofmarklaw07_SatMore_r17, proofmarklaw07_SatMore_r18, proofmarklaw07_SatMore_r19, proofmarklaw07_SatMore_r20, proofmarklaw07_SatMore_r21, proofmarklaw07_SatMore_r22, List.cons_append, List.nil_append, false_implies, true_implies, and_true]
  refine callPS hT t_proofmarklaw07_few hfew (by simp [namelessL, nameless]) 1000 ?_
  cases h1 : few3 v F 30 8 with
  | false =>
    simp -implicitDefEqProofs (disch := omega) only [go_sem, ↓reduceIte, reduceCtorEq, Nat.reduceEqDiff, Bool.not_false]
    refine callPS hT t_proofmarklaw07_works hW rfl 1000 ?_
    simp -implicitDefEqProofs (disch := omega) only [go_sem, ↓reduceIte, reduceCtorEq, Nat.reduceAdd, Nat.reduceEqDiff, Nat.zero_add, Nat.zero_le, and_true]
  | true =>
    by_cases g1 : 20 < cl.length
    · have g1p : ((20 : Int) < (cl.length : Int)) = True := eq_true (by omega)
      have g1' : decide ((20 : Int) < (cl.length : Int)) = true := decide_eq_true (by omega)
      simp -implicitDefEqProofs (disch := omega) only [go_sem, ↓reduceIte, reduceCtorEq, Nat.reduceAdd, Nat.reduceEqDiff, decide_true, Bool.not_true, gt_iff_lt, ints_length, g1p]
      refine callPS hT t_proofmarklaw07_works hW rfl 1000 ?_
      simp -implicitDefEqProofs (disch := omega) only [go_sem, ↓reduceIte, reduceCtorEq, Nat.reduceAdd, Nat.reduceEqDiff, Nat.zero_add, Nat.zero_le, and_true]
    have g1p : ((20 : Int) < (cl.length : Int)) = False := eq_false (by omega)
    have g1' : decide ((20 : Int) < (cl.length : Int)) = false := decide_eq_false (by omega)
    simp -implicitDefEqProofs (disch := omega) only [go_sem, ↓reduceIte, reduceCtorEq, Nat.reduceAdd, Nat.reduceEqDiff, Nat.zero_add, decide_false, Bool.not_true, Nat.le_refl, gt_iff_lt, ints_length, false_implies, and_true, g1p]
    refine callPS hT t_proofmarklaw07_plain hpl (by simp [namelessL, nameless]) 1000 ?_
    simp -implicitDefEqProofs (disch := omega) only [go_sem, ↓reduceIte, reduceCtorEq, Nat.reduceAdd, Nat.reduceEqDiff]
    refine callPS hT t_proofmarkref05_Right hRi (by simp [namelessL, nameless]) 1000 ?_
    cases hR : right v F with
    | false =>
      simp -implicitDefEqProofs (disch := omega) only [go_sem, ↓reduceIte, reduceCtorEq, Nat.reduceAdd, Nat.reduceEqDiff, Bool.not_false]
      refine callPS hT t_proofmarklaw07_works hW rfl 1000 ?_
      simp -implicitDefEqProofs (disch := omega) only [go_sem, ↓reduceIte, reduceCtorEq, Nat.reduceAdd, Nat.reduceEqDiff, Nat.zero_add, Nat.zero_le, and_true]
    | true =>
      simp -implicitDefEqProofs (disch := omega) only [go_sem, ↓reduceIte, reduceCtorEq, Nat.reduceAdd, Nat.reduceEqDiff, Nat.reduceLeDiff, Nat.zero_add, Nat.add_zero, Bool.not_true, Nat.le_refl, List.cons_append, List.nil_append, true_implies, and_true]
      refine callPS hT t_proofmarkref05_Right hR1 (by simp [namelessL, nameless]) 1000 ?_
      cases hRc : right v [cl] with
      | false =>
        simp -implicitDefEqProofs (disch := omega) only [go_sem, ↓reduceIte, reduceCtorEq, Nat.reduceAdd, Nat.reduceEqDiff, Bool.not_false]
        refine callPS hT t_proofmarklaw07_works hW rfl 1000 ?_
        simp -implicitDefEqProofs (disch := omega) only [go_sem, ↓reduceIte, reduceCtorEq, Nat.reduceAdd, Nat.reduceEqDiff, Nat.zero_add, Nat.zero_le, and_true]
      | true =>
        obtain ⟨hFl, hv8, hF20⟩ := few_le h1
        have hri := right_iff.1 hR
        have hrc := right_iff.1 hRc
        obtain ⟨vars, rfl⟩ : ∃ vars : Nat, v = (vars : Int) := ⟨v.toNat, by omega⟩
        have hRG : right (vars : Int) (F ++ [cl]) = true := right_iff.2 ⟨⟨by omega, by omega, by rw [List.length_append]; simp; omega⟩, fun c hc => by
          rcases List.mem_append.1 hc with h | h
          · exact hri.2 c h
          · exact hrc.2 c h⟩
        have hRH : right (vars : Int) (turnF T F) = true := right_iff.2 ⟨⟨by omega, by omega, by rw [turnF, List.length_map]; omega⟩, fun d hd n hn => by
          obtain ⟨c, hc, rfl⟩ := List.mem_map.1 hd
          obtain ⟨m, hm, rfl⟩ := List.mem_map.1 hn
          have := hri.2 c hc m hm
          unfold turnL
          split <;> omega⟩
        have lit : ∀ {R : List (List Int)}, right (vars : Int) R = true → ∀ c ∈ R, ∀ l ∈ c, l ≠ 0 ∧ l.natAbs < vars + 1 := fun {R} hR c hc l hl => by
          have := (right_iff.1 hR).2 c hc l hl
          exact ⟨this.1, by omega⟩
        have hGc : ∀ c ∈ F ++ [cl], c.length ≤ 1000 := fun c hc => by
          rcases List.mem_append.1 hc with h | h
          · have := hF20 c h; omega
          · simp at h; subst h; omega
        have hHc : ∀ d ∈ turnF T F, d.length ≤ 1000 := fun d hd => by
          obtain ⟨c, hc, rfl⟩ := List.mem_map.1 hd
          have := hF20 c hc
          rw [List.length_map]; omega
        have hHl : (turnF T F).length = F.length := by rw [turnF, List.length_map]
        have hS1 := c_Solve (G := G) hT vars F 1048576 hR (by omega) (by omega) (fun c hc => by have := hF20 c hc; omega) (by omega)
        have hS2 := c_Solve (G := G) hT vars (F ++ [cl]) 1048576 hRG (by omega) (by rw [List.length_append]; simp; omega) hGc (by omega)
        have hS3 := c_Solve (G := G) hT vars (turnF T F) 1048576 hRH (by omega) (by omega) hHc (by omega)
        obtain ⟨ka, a1, a2, a3, a4, a5, a6, a7, ea, ha⟩ := ans_sat (by omega) (lit hR)
        obtain ⟨kb, b1, b2, b3, b4, b5, b6, b7, eb, hb⟩ := ans_sat (by omega) (lit hRG)
        obtain ⟨kd, d1, d2, d3, d4, d5, d6, d7, ed, hd⟩ := ans_sat (by omega) (lit hRH)
        rw [ea] at hS1
        rw [eb] at hS2
        rw [ed] at hS3
        simp only [fml, rows, ansC] at hS1 hS2 hS3
        have hmore : SatF (F ++ [cl]) → SatF F := fun ⟨M, hM⟩ => ⟨M, fun c hc => hM c (List.mem_append_left _ hc)⟩
        have hturn : SatF (turnF T F) ↔ SatF F := sat_turn fun c hc n hn => (hri.2 c hc n hn).1
        have hmap : F.map row ++ [.lst 1 (ints cl) false] = (F ++ [cl]).map row := by rw [List.map_append]; rfl
        have hF8 : F.length ≤ 8388608 := by omega
        have hnG := nameless_rows (F ++ [cl])
        have hnH := nameless_rows (turnF T F)
        simp -implicitDefEqProofs (disch := omega) only [go_sem, ↓reduceIte, reduceCtorEq, Nat.reduceAdd, Nat.reduceEqDiff, Bool.not_true]
        refine sem_shift ((HShift.ownAt 1 37 (k := 1) (p := 1) (Nat.zero_le _) rfl rfl).trans (HShift.ownAt 1 37 (k := 2) (p := 1) (Nat.zero_le _) rfl rfl)).shift ?_
        refine sem_for F (maJ t (t + 1) (t + 1 + 1) vars T F cl) (maE t (t + 1) (t + 1 + 1) vars T F cl) ⟨_, _, _, rfl, rfl, rfl, rfl, rfl, rfl, rfl⟩ (fun i c hc fr σ hJ => ma_round hT (by omega) (fun c hc => by have := hF20 c hc; omega) (fun c hc n hn => by have := hri.2 c hc n hn; omega) hc hJ) (fun i hi fr σ hJ => ?_) (fun e fr σ hE => ?_)
        · obtain ⟨wg, wh, t', f1, f2, f3, f7, f8, f9, rfl⟩ := hJ
          have hge : ¬ (i : Int) < (F.length : Int) := by omega
          rw [hi, List.take_length]
          rw [hi] at f9 hge
          refine W_round [(1, .lst 1 (ints cl) false), (2, .int .u8 T), (3, .ptr 0 t 0), (7, .ptr 1 (t + 1) 0), (8, .ptr 2 (t + 1 + 1) 0), (9, .int .i64 (F.length : Int))] ⟨f1, f2, f3, f7, f8, f9, trivial⟩  1000 ?_
          simp -implicitDefEqProofs (disch := omega) only [go_sem, ↓reduceIte, Nat.reduceAdd, Nat.reduceEqDiff, Nat.zero_add, decide_false, Nat.le_refl, List.length_map, true_implies, and_true, hge]
          exact ⟨rfl, wg, wh, t', rfl, rfl, rfl, rfl, rfl, rfl⟩
        · obtain ⟨rfl, wg, wh, t', f1, f2, f3, f7, f8, rfl⟩ := hE
          refine sem_exit [(1, .lst 1 (ints cl) false), (2, .int .u8 T), (3, .ptr 0 t 0), (7, .ptr 1 (t + 1) 0), (8, .ptr 2 (t + 1 + 1) 0)] ⟨f1, f2, f3, f7, f8, trivial⟩  10 ?_
          simp -implicitDefEqProofs (disch := omega) only [go_sem, need_of, ↓reduceIte, reduceCtorEq, Nat.reduceAdd, Nat.reduceEqDiff, Nat.reduceLeDiff, Nat.zero_add, Nat.mul_one, Bool.not_true, Bool.not_false, Nat.le_refl, Nat.zero_le, List.length_map, List.cons_append, List.nil_append, true_implies, true_and, and_true, hmap]
          refine sem_shift (Shift.freeze (k := 3) (v := t') (T := 37) (cs := (F ++ [cl]).map row) (Nat.zero_le _) rfl hnG) ?_
          rw [frz3 (by simp : (F ++ [cl]).length = F.length + 1)]
          refine sem_shift (Shift.freeze (k := 4) (v := wh) (T := 37) (cs := (turnF T F).map row) (Nat.zero_le _) rfl hnH) ?_
          rw [frz4 hHl]
          refine sem_shift (Shift.drop (o' := fH t (t + 1) (t + 1 + 1) vars F (F ++ [cl]) (turnF T F)) (t' := t' + 1) (by simp [subObs]) (Nat.le_refl _) (Nat.zero_le _)) (run_sem 1000 ?_)
          have n03 : ((0 : Nat) = 3) = False := eq_false (by decide)
          have n13 : ((1 : Nat) = 3) = False := eq_false (by decide)
          have n23 : ((2 : Nat) = 3) = False := eq_false (by decide)
          have n04 : ((0 : Nat) = 4) = False := eq_false (by decide)
          have n14 : ((1 : Nat) = 4) = False := eq_false (by decide)
          have n24 : ((2 : Nat) = 4) = False := eq_false (by decide)
          simp only [frzFr_cons, frzFr_nil]
          simp only [frzV, n03, n13, n23, n04, n14, n24, false_and, if_false]
          simp -implicitDefEqProofs (disch := omega) only [go_sem, ↓reduceIte, reduceCtorEq, Nat.reduceAdd, Nat.reduceEqDiff, Nat.zero_add, Nat.le_refl, false_implies, and_true]
          refine callPS hT t_sat_Solve hS1 (by simp [namelessL, nameless]) 1000 ?_
          simp -implicitDefEqProofs (disch := omega) only [go_sem, ↓reduceIte, reduceCtorEq, Nat.reduceAdd, Nat.reduceEqDiff, Nat.reduceLT, Nat.zero_add, Bool.not_false, Nat.le_refl, Nat.zero_le, List.cons_append, List.nil_append, false_implies, and_true]
          refine callPS hT t_sat_Solve hS2 (by simp [namelessL, nameless]) 1000 ?_
          simp -implicitDefEqProofs (disch := omega) only [go_sem, ↓reduceIte, reduceCtorEq, Nat.reduceAdd, Nat.reduceEqDiff, Nat.reduceLT, Nat.zero_add, Bool.not_false, Nat.le_refl, Nat.zero_le, List.cons_append, List.nil_append, false_implies, and_true]
          refine callPS hT t_sat_Solve hS3 (by simp [namelessL, nameless]) 1000 ?_
          rcases ha with ⟨rfl, ha⟩ | ⟨rfl, ha⟩
          · rcases hd with ⟨rfl, hd⟩ | ⟨rfl, hd⟩
            · simp -implicitDefEqProofs (disch := omega) only [go_sem, ↓reduceIte, Nat.reduceAdd, Nat.reduceEqDiff, Nat.reduceLeDiff, Nat.reduceLT, Nat.zero_add, Nat.add_zero, Bool.not_false, Nat.le_refl, Nat.zero_le, beq_self_eq_true, List.cons_append, List.nil_append, true_implies, and_true, Int.reduceBNe, beq_self_eq_true]
              refine callPS hT t_proofmarklaw07_works hW rfl 1000 ?_
              simp -implicitDefEqProofs (disch := omega) only [go_sem, ↓reduceIte, Nat.reduceAdd, Nat.reduceEqDiff, Nat.zero_add, Nat.zero_le, and_true]
            · exact absurd (hturn.2 ha) hd
          · rcases hd with ⟨rfl, hd⟩ | ⟨rfl, hd⟩
            · exact absurd (hturn.1 hd) ha
            · rcases hb with ⟨rfl, hb⟩ | ⟨rfl, hb⟩
              · exact absurd (hmore hb) ha
              · simp -implicitDefEqProofs (disch := omega) only [go_sem, ↓reduceIte, Nat.reduceAdd, Nat.reduceEqDiff, Nat.reduceLeDiff, Nat.reduceLT, Nat.zero_add, Nat.add_zero, Bool.not_false, Nat.le_refl, Nat.zero_le, beq_self_eq_true, List.cons_append, List.nil_append, true_implies, and_true, Int.reduceBEq, Int.reduceBNe, beq_self_eq_true]
                refine callPS hT t_proofmarklaw07_works hW rfl 1000 ?_
                simp -implicitDefEqProofs (disch := omega) only [go_sem, ↓reduceIte, Nat.reduceAdd, Nat.reduceEqDiff, Nat.zero_add, Nat.zero_le, and_true]
end Go.Proofs.Ytpepmhmgfpkdmaa

