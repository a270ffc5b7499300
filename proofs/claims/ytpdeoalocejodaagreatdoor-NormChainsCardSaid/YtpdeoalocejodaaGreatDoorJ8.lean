/- Terms made plain: two-valued terms. -/
import Derived.Test.YtpdeoalocejodaaGreatDoorJ7
/- Terms made plain: two-valued terms. -/
namespace Go.Proofs.YtpdeoalocejodaaGreatDoor
open Go Go.Am
set_option maxRecDepth 100000
set_option maxHeartbeats 1000000
variable {P : Program} {G : Nat → Option V}
theorem k_truth (hT : TabOk P tab) (F : Fmt P G) {bin : BinT} (hK : KeepB [] [] bin) (hB : BinC P G F.fmt bin) {v0 v1 v2 v3 v4 t : Nat} {L : List Nd} {ex : List (Option Ob)} {op x c : Int} (hok : okN L) (hL : L.length ≤ 1000000) (ho : 1 ≤ op ∧ op ≤ 16) (hc : i64 c) {r : GR} (hr : r.2.length ≤ 1000000) (h : truthR bin L op x c = some r) :
    C P G 0 n_norm_maker_truth [mk v0, .int .u8 op, .int .i64 x, .int .i64 c] ⟨t, kG F.fmt v0 v1 v2 v3 v4 L ++ ex⟩ (PostN F.fmt r v0 v1 ex t) := by
  refine C_keep (5 + ex.length) (Nat.zero_le _) (C_tab hT t_norm_maker_truth (by simp [norm_maker_truth]) (W_run 1000 ?_))
  have i0 : i64 0 := by unfold i64; omega
  have e1 : andI .i64 c 1 = c % 2 := and_low .i64 1 c 1 rfl (by decide)
  have ex1 : xorI .i64 c 1 = doW 10 c 1 := rfl
  have hx1 : i64 (doW 10 c 1) := do_i64 hc (by unfold i64; omega)
  simp -implicitDefEqProofs (disch := omega) only [go_sem, ↓reduceIte, reduceCtorEq, Nat.reduceAdd, Nat.reduceEqDiff, Nat.zero_add, Nat.add_zero, Nat.le_refl, norm_maker_truth, zq2m_0, zq2m_1, zq2m_2, zq2m_3, zq2m_4, zq2m_5, zq2m_6, zq2m_7, zq2m_8, zq2m_9, zq2m_10, zq2m_11, zq2m_12, zq2m_13, zq2m_14, kG_len0, kx_at, List.length_append, List.length_cons, List.length_nil, List.append_assoc, true_implies, and_true]
  refine call hT t_norm_Bool (k_Bool hT (by simp)) 1000 fun v σ hv => ?_
  obtain ⟨rfl, t1, ht1, rfl⟩ := hv
  unfold truthR at h
  split at h
  · rename_i hbo
    cases h
    simp -implicitDefEqProofs (disch := omega) only [go_sem, ↓reduceIte, reduceCtorEq, Nat.reduceEqDiff, Nat.zero_add, Bool.not_false, kG_len0, kx_take, List.length_append, List.length_cons, List.length_nil, hbo]
    first | exact ⟨by omega, rfl, t1, v2, v3, v4, by omega, rfl⟩ | exact ⟨by omega, rfl, t1, v2, v3, v4, by omega, rfl, rfl⟩ | exact ⟨by omega, t1, v2, v3, v4, by omega, rfl⟩ | exact ⟨by omega, t1, v2, v3, v4, by omega, rfl, rfl⟩
  · rename_i hbo
    have hbo : booI L x = true := by simpa using hbo
    have hx' := booI_in hbo
    split at h
    · rename_i h1
      cases h
      rcases h1 with ⟨rfl, h2⟩ | ⟨rfl, rfl⟩
      · simp -implicitDefEqProofs (disch := omega) only [go_sem, ↓reduceIte, reduceCtorEq, Nat.reduceAdd, Nat.reduceEqDiff, Nat.zero_add, Bool.not_true, beq_self_eq_true, kG_len0, kx_take, List.length_append, List.length_cons, List.length_nil, hbo, e1, h2]
        first | exact ⟨by omega, rfl, t1, v2, v3, v4, by omega, rfl⟩ | exact ⟨by omega, rfl, t1, v2, v3, v4, by omega, rfl, rfl⟩ | exact ⟨by omega, t1, v2, v3, v4, by omega, rfl⟩ | exact ⟨by omega, t1, v2, v3, v4, by omega, rfl, rfl⟩
      · simp -implicitDefEqProofs (disch := omega) only [go_sem, ↓reduceIte, reduceCtorEq, Nat.reduceAdd, Nat.reduceEqDiff, Int.reduceEq, Nat.zero_add, Bool.not_true, Nat.le_refl, beq_self_eq_true, kG_len0, kx_at, kx_take, List.length_append, List.length_cons, List.length_nil, List.take_succ_cons, List.take_nil, false_implies, true_implies, true_and, and_true, not_false_eq_true, hbo]
        first | exact ⟨by omega, rfl, t1, v2, v3, v4, by omega, rfl⟩ | exact ⟨by omega, rfl, t1, v2, v3, v4, by omega, rfl, rfl⟩ | exact ⟨by omega, t1, v2, v3, v4, by omega, rfl⟩ | exact ⟨by omega, t1, v2, v3, v4, by omega, rfl, rfl⟩
    · rename_i hn1
      split at h
      · rename_i h1
        cases h
        rcases h1 with rfl | ⟨rfl, h2⟩
        · have h3 : ¬ c % 2 = 1 := fun e => hn1 (.inl ⟨rfl, e⟩)
          simp -implicitDefEqProofs (disch := omega) only [go_sem, ↓reduceIte, reduceCtorEq, Nat.reduceAdd, Nat.reduceEqDiff, Int.reduceEq, Nat.zero_add, Bool.not_true, Nat.le_refl, beq_self_eq_true, kG_len0, kx_at, kx_take, List.length_append, List.length_cons, List.length_nil, List.take_succ_cons, List.take_nil, false_implies, true_implies, true_and, and_true, not_false_eq_true, hbo, e1, h3]
          refine call hT t_norm_maker_num (k_num hT F i0 hL) 1000 fun v σ hv => ?_
          obtain ⟨rfl, t', v2', v3', v4', ht, rfl⟩ := hv
          simp -implicitDefEqProofs (disch := omega) only [go_sem, ↓reduceIte, reduceCtorEq, Nat.reduceEqDiff, Nat.zero_add, kG_len0, kx_take, List.length_append, List.length_cons, List.length_nil]
          first | exact ⟨by omega, rfl, t', v2', v3', v4', by omega, rfl⟩ | exact ⟨by omega, rfl, t', v2', v3', v4', by omega, rfl, rfl⟩ | exact ⟨by omega, t', v2', v3', v4', by omega, rfl⟩ | exact ⟨by omega, t', v2', v3', v4', by omega, rfl, rfl⟩
        · have h3 : ¬ c = 1 := fun e => hn1 (.inr ⟨rfl, e⟩)
          simp -implicitDefEqProofs (disch := omega) only [go_sem, ↓reduceIte, reduceCtorEq, Nat.reduceAdd, Nat.reduceEqDiff, Int.reduceEq, Nat.zero_add, Bool.not_true, Nat.le_refl, beq_self_eq_true, kG_len0, kx_at, kx_take, List.length_append, List.length_cons, List.length_nil, List.take_succ_cons, List.take_nil, false_implies, true_implies, true_and, and_true, not_false_eq_true, hbo, h2, h3]
          refine call hT t_norm_maker_num (k_num hT F i0 hL) 1000 fun v σ hv => ?_
          obtain ⟨rfl, t', v2', v3', v4', ht, rfl⟩ := hv
          simp -implicitDefEqProofs (disch := omega) only [go_sem, ↓reduceIte, reduceCtorEq, Nat.reduceEqDiff, Nat.zero_add, kG_len0, kx_take, List.length_append, List.length_cons, List.length_nil]
          first | exact ⟨by omega, rfl, t', v2', v3', v4', by omega, rfl⟩ | exact ⟨by omega, rfl, t', v2', v3', v4', by omega, rfl, rfl⟩ | exact ⟨by omega, t', v2', v3', v4', by omega, rfl⟩ | exact ⟨by omega, t', v2', v3', v4', by omega, rfl, rfl⟩
      · rename_i hn2
        have n8 : ¬ op = 8 := fun e => hn2 (.inl e)
        split at h
        · rename_i h1
          obtain ⟨rfl, hodd⟩ := h1
          cases hq : withN bin L 16 x 0 with
          | none => rw [hq] at h; cases h
          | some q =>
            rw [hq] at h
            simp only [Option.bind_some] at h
            obtain ⟨p1, p2, p3, p4, p5, p6, p7⟩ := withN_parts hK hok hx' (by omega) i0 hq
            obtain ⟨g1, g2⟩ := withN_ok hK hok hx' (by omega) i0 hq
            obtain ⟨s1, s2, s3, s4, s5, s6, s7⟩ := withN_parts hK p6 (g1.val g2).1 (by omega) hx1 h
            simp -implicitDefEqProofs (disch := omega) only [go_sem, ↓reduceIte, reduceCtorEq, Nat.reduceAdd, Nat.reduceEqDiff, Int.reduceEq, Nat.zero_add, Bool.not_true, Nat.le_refl, beq_self_eq_true, kG_len0, kx_at, kx_take, List.length_append, List.length_cons, List.length_nil, List.take_succ_cons, List.take_nil, false_implies, true_implies, true_and, and_true, not_false_eq_true, hbo, e1, hodd, ex1]
            (repeat' (first | with_reducible refine And.intro ?_ ?_ | with_reducible intro _)) <;> (
              refine call hT t_norm_maker_num (k_num hT F i0 hL) 1000 fun v σ hv => ?_
              obtain ⟨rfl, t', v2', v3', v4', ht, rfl⟩ := hv
              simp -implicitDefEqProofs (disch := omega) only [go_sem, ↓reduceIte, reduceCtorEq, Nat.reduceEqDiff, Nat.zero_add, Nat.le_refl, kx_at, List.length_cons, List.length_nil, List.take_succ_cons, List.take_nil, false_implies, and_true]
              (repeat' (first | with_reducible refine And.intro ?_ ?_ | with_reducible intro _)) <;> (
                refine call hT t_norm_maker_bin (hB _ _ _ _ _ _ _ _ _ _ _ _ p1 p2 p3 (by omega) (by omega) hq) 1000 fun v σ hv => ?_
                obtain ⟨rfl, t3, w2, w3, w4, ht3, rfl⟩ := hv
                simp -implicitDefEqProofs (disch := omega) only [go_sem, ↓reduceIte, reduceCtorEq, Nat.reduceEqDiff, Nat.zero_add, Nat.le_refl, kx_at, List.length_cons, List.length_nil, List.take_succ_cons, List.take_nil, false_implies, and_true]
                (repeat' (first | with_reducible refine And.intro ?_ ?_ | with_reducible intro _)) <;> (
                  refine call hT t_norm_maker_num (k_num hT F hx1 (by omega)) 1000 fun v σ hv => ?_
                  obtain ⟨rfl, t4, y2, y3, y4, ht4, rfl⟩ := hv
                  simp -implicitDefEqProofs (disch := omega) only [go_sem, ↓reduceIte, reduceCtorEq, Nat.reduceEqDiff, Nat.zero_add, Nat.le_refl, kx_at, List.length_cons, List.length_nil, List.take_succ_cons, List.take_nil, false_implies, and_true]
                  (repeat' (first | with_reducible refine And.intro ?_ ?_ | with_reducible intro _)) <;> (
                    refine call hT t_norm_maker_bin (hB _ _ _ _ _ _ _ _ _ _ _ _ s1 s2 s3 (by omega) hr h) 1000 fun v σ hv => ?_
                    obtain ⟨rfl, t5, z2, z3, z4, ht5, rfl⟩ := hv
                    simp -implicitDefEqProofs (disch := omega) only [go_sem, ↓reduceIte, reduceCtorEq, Nat.reduceEqDiff, Nat.zero_add, kG_len0, kx_take, List.length_append, List.length_cons, List.length_nil]
                    first | exact ⟨by omega, rfl, t5, z2, z3, z4, by omega, rfl⟩ | exact ⟨by omega, rfl, t5, z2, z3, z4, by omega, rfl, rfl⟩ | exact ⟨by omega, t5, z2, z3, z4, by omega, rfl⟩ | exact ⟨by omega, t5, z2, z3, z4, by omega, rfl, rfl⟩))))
        · rename_i hn3
          have hxo : (¬ op = 10 ∧ True) ∨ (op = 10 ∧ ¬ c % 2 = 1) := by
            by_cases e : op = 10
            · exact .inr ⟨e, fun o => hn3 ⟨e, o⟩⟩
            · exact .inl ⟨e, trivial⟩
          by_cases a16 : op = 16
          · subst a16
            have hc0 : c = 0 := Decidable.byContradiction fun e => hn2 (.inr ⟨rfl, e⟩)
            subst hc0
            simp -implicitDefEqProofs (disch := omega) only [go_sem, ↓reduceIte, reduceCtorEq, Nat.reduceAdd, Nat.reduceEqDiff, Int.reduceEq, Nat.zero_add, Bool.not_true, Nat.le_refl, beq_self_eq_true, bne_self_eq_false, kG_len0, kx_at, kx_take, List.length_append, List.length_cons, List.length_nil, List.take_succ_cons, List.take_nil, false_implies, true_implies, true_and, and_true, not_false_eq_true, hbo]
            refine call hT t_norm_maker_tail (k_tail hT (by simp)) 1000 fun v σ hv => ?_
            obtain ⟨htv, t9, ht9, rfl⟩ := hv
            rcases htv with ⟨y, d, hta, rfl⟩ | ⟨hta, y, d, rfl⟩
            · rw [hta] at h
              simp only at h
              by_cases hd : d = 0
              · subst hd
                simp -implicitDefEqProofs (disch := omega) only [go_sem, ↓reduceIte, reduceCtorEq, Nat.reduceAdd, Nat.reduceEqDiff, Nat.reduceLT, Nat.zero_add, Nat.add_zero, Nat.le_refl, beq_self_eq_true, kx_at, List.length_cons, List.length_nil, true_implies, and_true]
                refine call hT t_norm_Bool (k_Bool hT (by simp)) 1000 fun v σ hv => ?_
                obtain ⟨rfl, t8, ht8, rfl⟩ := hv
                by_cases hby : booI L y = true
                · rw [if_pos (by simp [hby])] at h
                  cases h
                  simp -implicitDefEqProofs (disch := omega) only [go_sem, ↓reduceIte, reduceCtorEq, Nat.reduceEqDiff, Nat.zero_add, kG_len0, kx_take, List.length_append, List.length_cons, List.length_nil, hby]
                  first | exact ⟨by omega, rfl, t8, v2, v3, v4, by omega, rfl⟩ | exact ⟨by omega, rfl, t8, v2, v3, v4, by omega, rfl, rfl⟩ | exact ⟨by omega, t8, v2, v3, v4, by omega, rfl⟩ | exact ⟨by omega, t8, v2, v3, v4, by omega, rfl, rfl⟩
                · rw [if_neg fun e => hby e.2.2] at h
                  cases h
                  have hby' : booI L y = false := by simpa using hby
                  simp -implicitDefEqProofs (disch := omega) only [go_sem, ↓reduceIte, reduceCtorEq, Nat.reduceEqDiff, Nat.zero_add, kG_len0, kx_take, List.length_append, List.length_cons, List.length_nil, hby']
                  first | exact ⟨by omega, rfl, t8, v2, v3, v4, by omega, rfl⟩ | exact ⟨by omega, rfl, t8, v2, v3, v4, by omega, rfl, rfl⟩ | exact ⟨by omega, t8, v2, v3, v4, by omega, rfl⟩ | exact ⟨by omega, t8, v2, v3, v4, by omega, rfl, rfl⟩
              · rw [if_neg fun e => hd e.2.1] at h
                cases h
                simp -implicitDefEqProofs (disch := omega) only [go_sem, ↓reduceIte, reduceCtorEq, Nat.reduceAdd, Nat.reduceEqDiff, Nat.reduceLT, Nat.zero_add, Nat.add_zero, Nat.le_refl, beq_self_eq_true, kG_len0, kx_at, kx_take, List.length_append, List.length_cons, List.length_nil, false_implies, true_implies, true_and, and_true, not_false_eq_true, hd]
                first | exact ⟨by omega, rfl, t9, v2, v3, v4, by omega, rfl⟩ | exact ⟨by omega, rfl, t9, v2, v3, v4, by omega, rfl, rfl⟩ | exact ⟨by omega, t9, v2, v3, v4, by omega, rfl⟩ | exact ⟨by omega, t9, v2, v3, v4, by omega, rfl, rfl⟩
            · rw [hta] at h
              cases h
              simp -implicitDefEqProofs (disch := omega) only [go_sem, ↓reduceIte, reduceCtorEq, Nat.reduceAdd, Nat.reduceEqDiff, Nat.reduceLT, Nat.zero_add, beq_self_eq_true, kG_len0, kx_take, List.length_append, List.length_cons, List.length_nil]
              first | exact ⟨by omega, rfl, t9, v2, v3, v4, by omega, rfl⟩ | exact ⟨by omega, rfl, t9, v2, v3, v4, by omega, rfl, rfl⟩ | exact ⟨by omega, t9, v2, v3, v4, by omega, rfl⟩ | exact ⟨by omega, t9, v2, v3, v4, by omega, rfl, rfl⟩
          · have hrr : r = (-1, L) := by
              split at h
              · rw [if_neg fun e => a16 e.1] at h; cases h; rfl
              · cases h; rfl
            subst hrr
            rcases hxo with ⟨n10, _⟩ | ⟨rfl, hodd⟩
            · simp -implicitDefEqProofs (disch := omega) only [go_sem, need_of, ↓reduceIte, reduceCtorEq, Nat.reduceAdd, Nat.reduceEqDiff, Nat.zero_add, Bool.not_true, Nat.le_refl, kG_len0, kx_at, kx_take, List.length_append, List.length_cons, List.length_nil, List.take_succ_cons, List.take_nil, false_implies, true_implies, true_and, and_true, not_false_eq_true, hbo, n8, n10, a16]
              refine call hT t_norm_maker_tail (k_tail hT (by simp)) 1000 fun v σ hv => ?_
              obtain ⟨htv, t9, ht9, rfl⟩ := hv
              rcases htv with ⟨y, d, hta, rfl⟩ | ⟨hta, y, d, rfl⟩ <;> (
                simp -implicitDefEqProofs (disch := omega) only [go_sem, need_of, ↓reduceIte, reduceCtorEq, Nat.reduceAdd, Nat.reduceEqDiff, Nat.reduceLT, Nat.zero_add, Nat.add_zero, Nat.le_refl, kG_len0, kx_at, kx_take, List.length_append, List.length_cons, List.length_nil, false_implies, true_implies, true_and, and_true, not_false_eq_true, a16]
                first | exact ⟨by omega, rfl, t9, v2, v3, v4, by omega, rfl⟩ | exact ⟨by omega, rfl, t9, v2, v3, v4, by omega, rfl, rfl⟩ | exact ⟨by omega, t9, v2, v3, v4, by omega, rfl⟩ | exact ⟨by omega, t9, v2, v3, v4, by omega, rfl, rfl⟩)
            · simp -implicitDefEqProofs (disch := omega) only [go_sem, ↓reduceIte, reduceCtorEq, Nat.reduceAdd, Nat.reduceEqDiff, Int.reduceEq, Nat.zero_add, Bool.not_true, Nat.le_refl, beq_self_eq_true, kG_len0, kx_at, kx_take, List.length_append, List.length_cons, List.length_nil, List.take_succ_cons, List.take_nil, false_implies, true_implies, true_and, and_true, not_false_eq_true, hbo, e1, hodd]
              refine call hT t_norm_maker_tail (k_tail hT (by simp)) 1000 fun v σ hv => ?_
              obtain ⟨htv, t9, ht9, rfl⟩ := hv
              rcases htv with ⟨y, d, hta, rfl⟩ | ⟨hta, y, d, rfl⟩ <;> (
                simp -implicitDefEqProofs (disch := omega) only [go_sem, ↓reduceIte, reduceCtorEq, Nat.reduceAdd, Nat.reduceEqDiff, Nat.reduceLT, Int.reduceEq, Nat.zero_add, Nat.add_zero, Nat.le_refl, kG_len0, kx_at, kx_take, List.length_append, List.length_cons, List.length_nil, false_implies, true_implies, true_and, and_true, not_false_eq_true]
                first | exact ⟨by omega, rfl, t9, v2, v3, v4, by omega, rfl⟩ | exact ⟨by omega, rfl, t9, v2, v3, v4, by omega, rfl, rfl⟩ | exact ⟨by omega, t9, v2, v3, v4, by omega, rfl⟩ | exact ⟨by omega, t9, v2, v3, v4, by omega, rfl, rfl⟩)
end Go.Proofs.YtpdeoalocejodaaGreatDoor
/- Terms made plain: an operation that may be grouped. -/
namespace Go.Proofs.YtpdeoalocejodaaGreatDoor
open Go Go.Am
set_option maxRecDepth 100000
set_option maxHeartbeats 1000000
variable {P : Program} {G : Nat → Option V}
theorem kx_m {fmt : Int → List UInt8} {v0 v1 v2 v3 v4 : Nat} {L : List Nd} {ex : List (Option Ob)} {m : Nat} {y : Option Ob} (h : ex[m]? = some y) : (kG fmt v0 v1 v2 v3 v4 L ++ ex)[5 + m]? = some y := by
  rw [List.getElem?_append_right (by rw [kG_len0]; omega), kG_len0, ← h]
  congr 1
  omega
theorem kx_take0 {fmt : Int → List UInt8} {v0 v1 v2 v3 v4 : Nat} {L : List Nd} {ex : List (Option Ob)} : (kG fmt v0 v1 v2 v3 v4 L ++ ex).take (5 + ex.length) = kG fmt v0 v1 v2 v3 v4 L ++ ex := by
  rw [List.take_of_length_le (by rw [kx_len]; omega)]
theorem k_group (hT : TabOk P tab) (F : Fmt P G) {bin : BinT} (hK : KeepB [] [] bin) (hB : BinC P G F.fmt bin) {v0 v1 v2 v3 v4 t : Nat} {L : List Nd} {ex : List (Option Ob)} {op x c : Int} {m vm T : Nat} (hm : ex[m]? = some (some (.arr vm T [.ptr 1 v0 0]))) (hok : okN L) (ho : 1 ≤ op ∧ op ≤ 16) (hc : i64 c) {r : GR} (hr : r.2.length ≤ 1000000) (h : groupR bin L op x c = some r) :
    C P G 0 n_norm_maker_number_S1 [.int .u8 op, .int .i64 x, .int .i64 c, .ptr (5 + m) vm 0] ⟨t, kG F.fmt v0 v1 v2 v3 v4 L ++ ex⟩ (PostN F.fmt r v0 v1 ex t) := by
  refine C_keep (5 + ex.length) (Nat.zero_le _) (C_tab hT t_norm_maker_number_S1 (by simp [norm_maker_number_S1]) (W_run 1000 ?_))
  have hgr := c_Groups (P := P) (G := G) hT ho
  have hmm : ∀ {v2 v3 v4 : Nat} {L : List Nd}, (kG F.fmt v0 v1 v2 v3 v4 L ++ ex)[5 + m]? = some (some (.arr vm T [.ptr 1 v0 0])) := kx_m hm
  simp -implicitDefEqProofs (disch := omega) only [go_sem, ↓reduceIte, reduceCtorEq, Nat.reduceAdd, Nat.reduceEqDiff, Nat.zero_add, Nat.le_refl, norm_maker_number_S1, zq2g_0, zq2g_1, zq2g_2, zq2g_3, zq2g_4, List.length_cons, List.length_nil, List.take_succ_cons, List.take_nil, false_implies, and_true, hmm]
  refine call hT t_norm_maker_tail (k_tail hT (by simp)) 1000 fun v σ hv => ?_
  obtain ⟨htv, t9, ht9, rfl⟩ := hv
  unfold groupR at h
  rcases htv with ⟨y, d, hta, rfl⟩ | ⟨hta, y, d, rfl⟩
  · rw [hta] at h
    simp only at h
    simp -implicitDefEqProofs (disch := omega) only [go_sem, ↓reduceIte, reduceCtorEq, Nat.reduceAdd, Nat.reduceEqDiff, Nat.reduceLT, Nat.zero_add, List.length_cons, List.length_nil]
    refine callPS hT t_word_Groups hgr rfl 1000 ?_
    by_cases hg : groupsW op = true
    · rw [if_pos hg] at h
      obtain ⟨hx', _, hd, _⟩ := tailI_ok (S := []) (C := []) hok hta
      have hn : i64 (doW op d c) := do_i64 hd hc
      have hdo := c_Do (P := P) (G := G) hT (op := op) (by omega) (by omega) hd hc
      obtain ⟨p1, p2, p3, p4, p5, _, _⟩ := withN_parts hK hok hx' (by omega) hn h
      rw [hg]
      simp -implicitDefEqProofs (disch := omega) only [go_sem, ↓reduceIte, reduceCtorEq, Nat.reduceEqDiff, Nat.zero_add, Nat.le_refl, kG_len0, List.length_append, List.length_cons, List.length_nil, List.take_succ_cons, List.take_nil, false_implies, and_true, hmm]
      (repeat' (first | with_reducible refine And.intro ?_ ?_ | with_reducible intro _)) <;> (
        refine callPS hT t_word_Do hdo rfl 1000 ?_
        simp -implicitDefEqProofs (disch := omega) only [go_sem, ↓reduceIte, reduceCtorEq, Nat.reduceEqDiff, Nat.zero_add, Nat.le_refl, List.length_cons, List.length_nil, List.take_succ_cons, List.take_nil, false_implies, and_true, hmm]
        (repeat' (first | with_reducible refine And.intro ?_ ?_ | with_reducible intro _)) <;> (
          refine call hT t_norm_maker_num (k_num hT F hn (by omega)) 1000 fun v σ hv => ?_
          obtain ⟨rfl, t', v2', v3', v4', ht, rfl⟩ := hv
          simp -implicitDefEqProofs (disch := omega) only [go_sem, ↓reduceIte, reduceCtorEq, Nat.reduceEqDiff, Nat.zero_add, Nat.le_refl, List.length_cons, List.length_nil, List.take_succ_cons, List.take_nil, false_implies, and_true, hmm]
          (repeat' (first | with_reducible refine And.intro ?_ ?_ | with_reducible intro _)) <;> (
            refine call hT t_norm_maker_bin (hB _ _ _ _ _ _ _ _ _ _ _ _ p1 p2 p3 (by omega) hr h) 1000 fun v σ hv => ?_
            obtain ⟨rfl, t2, w2, w3, w4, ht2, rfl⟩ := hv
            simp -implicitDefEqProofs (disch := omega) only [go_sem, ↓reduceIte, reduceCtorEq, Nat.reduceEqDiff, Nat.le_refl, kG_len0, List.length_append, true_and, kx_take0]
            exact ⟨rfl, t2, w2, w3, w4, by omega, rfl⟩)))
    · rw [if_neg hg] at h
      cases h
      have hg' : groupsW op = false := by simpa using hg
      rw [hg']
      simp -implicitDefEqProofs (disch := omega) only [go_sem, ↓reduceIte, reduceCtorEq, Nat.reduceEqDiff, Nat.le_refl, kG_len0, List.length_append, true_and, kx_take0]
      exact ⟨rfl, t9, v2, v3, v4, by omega, rfl⟩
  · rw [hta] at h
    cases h
    simp -implicitDefEqProofs (disch := omega) only [go_sem, ↓reduceIte, reduceCtorEq, Nat.reduceAdd, Nat.reduceEqDiff, Nat.reduceLT, Nat.zero_add, Nat.le_refl, kG_len0, List.length_append, List.length_cons, List.length_nil, true_and, kx_take0]
    exact ⟨rfl, t9, v2, v3, v4, by omega, rfl⟩
end Go.Proofs.YtpdeoalocejodaaGreatDoor
/- Terms made plain: what is equal to a number. -/
namespace Go.Proofs.YtpdeoalocejodaaGreatDoor
open Go Go.Am
set_option maxRecDepth 100000
set_option maxHeartbeats 1000000
variable {P : Program} {G : Nat → Option V}
theorem k_equal (hT : TabOk P tab) (F : Fmt P G) {bin : BinT} (hK : KeepB [] [] bin) (hB : BinC P G F.fmt bin) {v0 v1 v2 v3 v4 t : Nat} {L : List Nd} {ex : List (Option Ob)} {x c : Int} (hok : okN L) (hc : i64 c) {r : GR} (hr : r.2.length ≤ 1000000) (h : equalR bin L 16 x c = some r) :
    C P G 0 n_norm_maker_equal [mk v0, .int .i64 x, .int .i64 c] ⟨t, kG F.fmt v0 v1 v2 v3 v4 L ++ ex⟩ (PostN F.fmt r v0 v1 ex t) := by
  refine C_keep (5 + ex.length) (Nat.zero_le _) (C_tab hT t_norm_maker_equal (by simp [norm_maker_equal]) (W_run 1000 ?_))
  simp -implicitDefEqProofs (disch := omega) only [go_sem, ↓reduceIte, reduceCtorEq, Nat.reduceAdd, Nat.reduceEqDiff, Nat.zero_add, Nat.le_refl, norm_maker_equal, zq2j_0, zq2j_1, zq2j_2, zq2j_3, zq2j_4, zq2j_5, zq2j_6, zq2j_7, zq2j_8, zq2j_9, zq2j_10, zq2j_11, zq2j_12, zq2j_13, zq2j_14, kG_len0, kx_at, List.length_append, List.length_cons, List.length_nil, List.append_assoc, List.take_succ_cons, List.take_nil, false_implies, and_true]
  unfold equalR at h
  rw [if_neg (by simp)] at h
  refine call hT t_norm_maker_tail (k_tail hT (by simp)) 1000 fun v σ hv => ?_
  obtain ⟨htv8, t8, ht8, rfl⟩ := hv
  rcases htv8 with ⟨y, d, hta, rfl⟩ | ⟨hta, y, d, rfl⟩
  · rw [hta] at h
    simp only at h
    obtain ⟨hx', _, hd, _⟩ := tailI_ok (S := []) (C := []) hok hta
    simp -implicitDefEqProofs (disch := omega) only [go_sem, ↓reduceIte, reduceCtorEq, Nat.reduceAdd, Nat.reduceEqDiff, Nat.reduceLT, Nat.zero_add, Nat.le_refl, kx_at, List.length_cons, List.length_nil, List.take_succ_cons, List.take_nil, false_implies, and_true]
    obtain ⟨p1, p2, p3, p4, p5, _, _⟩ := withN_parts hK hok hx' (by omega) (wrap_rg _) h
    (repeat' (first | with_reducible refine And.intro ?_ ?_ | with_reducible intro _)) <;> (
      refine call hT t_norm_maker_num (k_num hT F (wrap_rg _) (by omega)) 1000 fun v σ hv => ?_
      obtain ⟨rfl, t', v2', v3', v4', ht, rfl⟩ := hv
      simp -implicitDefEqProofs (disch := omega) only [go_sem, ↓reduceIte, reduceCtorEq, Nat.reduceEqDiff, Nat.zero_add, Nat.le_refl, kx_at, List.length_cons, List.length_nil, List.take_succ_cons, List.take_nil, false_implies, and_true]
      (repeat' (first | with_reducible refine And.intro ?_ ?_ | with_reducible intro _)) <;> (
        refine call hT t_norm_maker_bin (hB _ _ _ _ _ _ _ _ _ _ _ _ p1 p2 p3 (by omega) hr h) 1000 fun v σ hv => ?_
        obtain ⟨rfl, t2, w2, w3, w4, ht2, rfl⟩ := hv
        simp -implicitDefEqProofs (disch := omega) only [go_sem, ↓reduceIte, reduceCtorEq, Nat.reduceEqDiff, Nat.zero_add, kG_len0, kx_take, List.length_append, List.length_cons, List.length_nil]
        first | exact ⟨by omega, rfl, t2, w2, w3, w4, by omega, rfl⟩ | exact ⟨by omega, rfl, t2, w2, w3, w4, by omega, rfl, rfl⟩ | exact ⟨by omega, t2, w2, w3, w4, by omega, rfl⟩ | exact ⟨by omega, t2, w2, w3, w4, by omega, rfl, rfl⟩))
  · rw [hta] at h
    simp only at h
    simp -implicitDefEqProofs (disch := omega) only [go_sem, ↓reduceIte, reduceCtorEq, Nat.reduceAdd, Nat.reduceEqDiff, Nat.reduceLT, Nat.zero_add, Nat.le_refl, kx_at, List.length_cons, List.length_nil, List.take_succ_cons, List.take_nil, false_implies, and_true]
    refine call hT t_norm_maker_tail (k_tail hT (by simp)) 1000 fun v σ hv => ?_
    obtain ⟨htv9, t9, ht9, rfl⟩ := hv
    rcases htv9 with ⟨y, d, htb, rfl⟩ | ⟨htb, y, d, rfl⟩
    · rw [htb] at h
      simp only at h
      obtain ⟨hx', _, hd, _⟩ := tailI_ok (S := []) (C := []) hok htb
      have hn : i64 (doW 10 c d) := do_i64 hc hd
      have exr : xorI .i64 c d = doW 10 c d := rfl
      simp -implicitDefEqProofs (disch := omega) only [go_sem, ↓reduceIte, reduceCtorEq, Nat.reduceAdd, Nat.reduceEqDiff, Nat.reduceLT, Nat.zero_add, Nat.le_refl, kx_at, List.length_cons, List.length_nil, List.take_succ_cons, List.take_nil, false_implies, and_true, exr]
      obtain ⟨p1, p2, p3, p4, p5, _, _⟩ := withN_parts hK hok hx' (by omega) hn h
      (repeat' (first | with_reducible refine And.intro ?_ ?_ | with_reducible intro _)) <;> (
        refine call hT t_norm_maker_num (k_num hT F hn (by omega)) 1000 fun v σ hv => ?_
        obtain ⟨rfl, t', v2', v3', v4', ht, rfl⟩ := hv
        simp -implicitDefEqProofs (disch := omega) only [go_sem, ↓reduceIte, reduceCtorEq, Nat.reduceEqDiff, Nat.zero_add, Nat.le_refl, kx_at, List.length_cons, List.length_nil, List.take_succ_cons, List.take_nil, false_implies, and_true]
        (repeat' (first | with_reducible refine And.intro ?_ ?_ | with_reducible intro _)) <;> (
          refine call hT t_norm_maker_bin (hB _ _ _ _ _ _ _ _ _ _ _ _ p1 p2 p3 (by omega) hr h) 1000 fun v σ hv => ?_
          obtain ⟨rfl, t2, w2, w3, w4, ht2, rfl⟩ := hv
          simp -implicitDefEqProofs (disch := omega) only [go_sem, ↓reduceIte, reduceCtorEq, Nat.reduceEqDiff, Nat.zero_add, kG_len0, kx_take, List.length_append, List.length_cons, List.length_nil]
          first | exact ⟨by omega, rfl, t2, w2, w3, w4, by omega, rfl⟩ | exact ⟨by omega, rfl, t2, w2, w3, w4, by omega, rfl, rfl⟩ | exact ⟨by omega, t2, w2, w3, w4, by omega, rfl⟩ | exact ⟨by omega, t2, w2, w3, w4, by omega, rfl, rfl⟩))
    · rw [htb] at h
      simp only at h
      simp -implicitDefEqProofs (disch := omega) only [go_sem, ↓reduceIte, reduceCtorEq, Nat.reduceAdd, Nat.reduceEqDiff, Nat.reduceLeDiff, Nat.reduceLT, Nat.zero_add, Nat.le_refl, List.length_cons, List.length_nil, List.cons_append, List.nil_append, List.take_succ_cons, List.take_zero, and_true]
      have hA : ∀ o u w, (o = 10 ∨ (o = 2 ∧ (ofI L x 10 = none ∨ ¬ c = 0))) → ofI L x o = some (u, w) → c = 0 → bin L 16 u w = some r := by
        intro o u w ho hs hz
        rcases ho with rfl | ⟨rfl, hq⟩
        · rw [hs] at h; simp only at h; rwa [if_pos hz] at h
        · rcases hq with hq | hq
          · rw [hq, hs] at h; simp only at h; rwa [if_pos hz] at h
          · exact absurd hz hq
      have hN : (ofI L x 10 = none ∨ ¬ c = 0) → (ofI L x 2 = none ∨ ¬ c = 0) → r = (-1, L) := by
        intro h1 h2
        cases e1 : ofI L x 10 with
        | some p =>
          rw [e1] at h h1
          have hz : ¬ c = 0 := h1.resolve_left (by simp)
          simp only [if_neg hz] at h
          cases h; rfl
        | none =>
          rw [e1] at h
          simp only at h
          cases e2 : ofI L x 2 with
          | some p =>
            rw [e2] at h h2
            have hz : ¬ c = 0 := h2.resolve_left (by simp)
            simp only [if_neg hz] at h
            cases h; rfl
          | none => rw [e2] at h; cases h; rfl
      clear h
      refine sem_for [(10 : Int), 2] (fun i fr σ => ((1 ≤ i → ofI L x 10 = none ∨ ¬ c = 0) ∧ (2 ≤ i → ofI L x 2 = none ∨ ¬ c = 0)) ∧ fget fr 1 = .int .i64 x ∧ fget fr 2 = .int .i64 c ∧ fget fr 3 = .ptr (5 + ex.length) t 0 ∧ fget fr 50 = .lst 1 [.int .u8 10, .int .u8 2] true ∧ fget fr 51 = .int .i64 2 ∧ fget fr 52 = .int .i64 ((i : Nat) : Int) ∧ ∃ t', t ≤ t' ∧ σ = ⟨t', kG F.fmt v0 v1 v2 v3 v4 L ++ (ex ++ [some (.arr t 76 [.ptr 1 v0 0])])⟩)
        (fun e fr σ => (e = .ret ∧ fget fr 6 = .int .i64 r.1 ∧ ∃ t' v2' v3' v4', t ≤ t' ∧ σ = ⟨t', kG F.fmt v0 v1 v2' v3' v4' r.2 ++ (ex ++ [some (.arr t 76 [.ptr 1 v0 0])])⟩) ∨ (e = .ex 0 ∧ r = (-1, L) ∧ ∃ t', t ≤ t' ∧ σ = ⟨t', kG F.fmt v0 v1 v2 v3 v4 L ++ (ex ++ [some (.arr t 76 [.ptr 1 v0 0])])⟩)) ⟨⟨fun h => by omega, fun h => by omega⟩, by simp -implicitDefEqProofs (disch := omega) only [go_sem, ↓reduceIte, reduceCtorEq], by simp -implicitDefEqProofs (disch := omega) only [go_sem, ↓reduceIte, reduceCtorEq, Nat.reduceEqDiff], by simp -implicitDefEqProofs (disch := omega) only [go_sem, ↓reduceIte, reduceCtorEq, Nat.reduceEqDiff], by simp -implicitDefEqProofs (disch := omega) only [go_sem, ↓reduceIte, reduceCtorEq, Nat.reduceEqDiff], by simp -implicitDefEqProofs (disch := omega) only [go_sem, ↓reduceIte, reduceCtorEq, Nat.reduceEqDiff]; rfl, by simp -implicitDefEqProofs (disch := omega) only [go_sem, ↓reduceIte, reduceCtorEq, Nat.reduceEqDiff]; rfl, t9, by omega, rfl⟩ (fun i o hx fr σ hJ => ?_) (fun i hi fr σ hJ => ?_) (fun e fr σ hE => ?_)
      · obtain ⟨⟨j1, j2⟩, f1, f2, f3, f50, f51, f52, t3, ht3, rfl⟩ := hJ
        have hio : (i = 0 ∧ o = 10) ∨ (i = 1 ∧ o = 2) := by
          rcases i with _ | _ | i
          · simp at hx; exact .inl ⟨rfl, hx.symm⟩
          · simp at hx; exact .inr ⟨rfl, hx.symm⟩
          · simp at hx
        have hAo : o = 10 ∨ (o = 2 ∧ (ofI L x 10 = none ∨ ¬ c = 0)) := by
          rcases hio with ⟨_, e⟩ | ⟨e1, e⟩
          · exact .inl e
          · exact .inr ⟨e, j1 (by omega)⟩
        cases ho : ofI L x o with
        | none =>
          rcases hio with ⟨rfl, rfl⟩ | ⟨rfl, rfl⟩
          · refine W_round [(1, .int .i64 x), (2, .int .i64 c), (3, .ptr (5 + ex.length) t 0), (50, .lst 1 [.int .u8 10, .int .u8 2] true), (51, .int .i64 2), (52, .int .i64 0)] ⟨f1, f2, f3, f50, f51, f52, trivial⟩ 1000 ?_
            simp -implicitDefEqProofs (disch := omega) only [go_sem, ↓reduceIte, reduceCtorEq, Nat.reduceAdd, Nat.reduceEqDiff, Nat.reduceLeDiff, Nat.reduceLT, Int.reduceToNat, Int.reduceLE, Int.reduceLT, Nat.zero_add, decide_true, Nat.le_refl, kx_at, List.length_cons, List.length_nil, List.take_succ_cons, List.take_nil, false_implies, true_implies, and_true]
            refine call hT t_norm_maker_of (k_of (base := 0) hT (Nat.zero_le _)) 1000 fun v σ hv => ?_
            obtain ⟨rfl, t4, ht4, rfl⟩ := hv
            rw [ho]
            simp -implicitDefEqProofs (disch := omega) only [go_sem, ↓reduceIte, Nat.reduceAdd, Nat.reduceEqDiff, Nat.reduceLT, Nat.zero_add, List.length_cons, List.length_nil, true_and, ofV3]
            exact ⟨_, _, Shift.refl _ _ _ _, by simp -implicitDefEqProofs (disch := omega) only [go_sem, ↓reduceIte], by simp -implicitDefEqProofs (disch := omega) only [go_sem, ↓reduceIte, Nat.reduceEqDiff], by simp -implicitDefEqProofs (disch := omega) only [go_sem, ↓reduceIte, Nat.reduceEqDiff], by simp -implicitDefEqProofs (disch := omega) only [go_sem, ↓reduceIte, Nat.reduceEqDiff], by simp -implicitDefEqProofs (disch := omega) only [go_sem, ↓reduceIte, Nat.reduceEqDiff], by simp -implicitDefEqProofs (disch := omega) only [go_sem, ↓reduceIte, Nat.reduceEqDiff]; rfl, t4, by omega, rfl⟩
          · refine W_round [(1, .int .i64 x), (2, .int .i64 c), (3, .ptr (5 + ex.length) t 0), (50, .lst 1 [.int .u8 10, .int .u8 2] true), (51, .int .i64 2), (52, .int .i64 1)] ⟨f1, f2, f3, f50, f51, f52, trivial⟩ 1000 ?_
            simp -implicitDefEqProofs (disch := omega) only [go_sem, ↓reduceIte, reduceCtorEq, Nat.reduceAdd, Nat.reduceEqDiff, Nat.reduceLeDiff, Nat.reduceLT, Int.reduceToNat, Int.reduceLE, Int.reduceLT, Nat.zero_add, decide_true, Nat.le_refl, kx_at, List.length_cons, List.length_nil, List.take_succ_cons, List.take_nil, false_implies, true_implies, and_true]
            refine call hT t_norm_maker_of (k_of (base := 0) hT (Nat.zero_le _)) 1000 fun v σ hv => ?_
            obtain ⟨rfl, t4, ht4, rfl⟩ := hv
            rw [ho]
            simp -implicitDefEqProofs (disch := omega) only [go_sem, ↓reduceIte, Nat.reduceAdd, Nat.reduceEqDiff, Nat.reduceLT, Nat.zero_add, List.length_cons, List.length_nil, and_true, ofV3]
            exact ⟨_, _, Shift.refl _ _ _ _, j1 (by omega), by simp -implicitDefEqProofs (disch := omega) only [go_sem, ↓reduceIte], by simp -implicitDefEqProofs (disch := omega) only [go_sem, ↓reduceIte, Nat.reduceEqDiff], by simp -implicitDefEqProofs (disch := omega) only [go_sem, ↓reduceIte, Nat.reduceEqDiff], by simp -implicitDefEqProofs (disch := omega) only [go_sem, ↓reduceIte, Nat.reduceEqDiff], by simp -implicitDefEqProofs (disch := omega) only [go_sem, ↓reduceIte, Nat.reduceEqDiff], by simp -implicitDefEqProofs (disch := omega) only [go_sem, ↓reduceIte, Nat.reduceEqDiff]; rfl, t4, by omega, rfl⟩
        | some p =>
          obtain ⟨u, w⟩ := p
          by_cases hz : c = 0
          · have hb := hA o u w hAo ho hz
            obtain ⟨q1, q2, _⟩ := ofI_ok (S := []) (C := []) hok ho
            rcases hio with ⟨rfl, rfl⟩ | ⟨rfl, rfl⟩
            · refine W_round [(1, .int .i64 x), (2, .int .i64 c), (3, .ptr (5 + ex.length) t 0), (50, .lst 1 [.int .u8 10, .int .u8 2] true), (51, .int .i64 2), (52, .int .i64 0)] ⟨f1, f2, f3, f50, f51, f52, trivial⟩ 1000 ?_
              simp -implicitDefEqProofs (disch := omega) only [go_sem, ↓reduceIte, reduceCtorEq, Nat.reduceAdd, Nat.reduceEqDiff, Nat.reduceLeDiff, Nat.reduceLT, Int.reduceToNat, Int.reduceLE, Int.reduceLT, Nat.zero_add, decide_true, Nat.le_refl, kx_at, List.length_cons, List.length_nil, List.take_succ_cons, List.take_nil, false_implies, true_implies, and_true]
              refine call hT t_norm_maker_of (k_of (base := 0) hT (Nat.zero_le _)) 1000 fun v σ hv => ?_
              obtain ⟨rfl, t4, ht4, rfl⟩ := hv
              rw [ho]
              simp -implicitDefEqProofs (disch := omega) only [go_sem, ↓reduceIte, reduceCtorEq, Nat.reduceAdd, Nat.reduceEqDiff, Nat.reduceLT, Nat.zero_add, Nat.le_refl, beq_self_eq_true, kx_at, List.length_cons, List.length_nil, List.take_succ_cons, List.take_nil, false_implies, and_true, not_true_eq_false, ofV3, hz]
              refine call hT t_norm_maker_bin (hB _ _ _ _ _ _ _ _ _ _ _ _ hok q1 q2 (by omega) hr hb) 1000 fun v σ hv => ?_
              obtain ⟨rfl, t5, w2, w3, w4, ht5, rfl⟩ := hv
              simp -implicitDefEqProofs (disch := omega) only [go_sem, ↓reduceIte, reduceCtorEq, Nat.reduceEqDiff, true_and]
              exact ⟨t5, w2, w3, w4, by omega, rfl, rfl⟩
            · refine W_round [(1, .int .i64 x), (2, .int .i64 c), (3, .ptr (5 + ex.length) t 0), (50, .lst 1 [.int .u8 10, .int .u8 2] true), (51, .int .i64 2), (52, .int .i64 1)] ⟨f1, f2, f3, f50, f51, f52, trivial⟩ 1000 ?_
              simp -implicitDefEqProofs (disch := omega) only [go_sem, ↓reduceIte, reduceCtorEq, Nat.reduceAdd, Nat.reduceEqDiff, Nat.reduceLeDiff, Nat.reduceLT, Int.reduceToNat, Int.reduceLE, Int.reduceLT, Nat.zero_add, decide_true, Nat.le_refl, kx_at, List.length_cons, List.length_nil, List.take_succ_cons, List.take_nil, false_implies, true_implies, and_true]
              refine call hT t_norm_maker_of (k_of (base := 0) hT (Nat.zero_le _)) 1000 fun v σ hv => ?_
              obtain ⟨rfl, t4, ht4, rfl⟩ := hv
              rw [ho]
              simp -implicitDefEqProofs (disch := omega) only [go_sem, ↓reduceIte, reduceCtorEq, Nat.reduceAdd, Nat.reduceEqDiff, Nat.reduceLT, Nat.zero_add, Nat.le_refl, beq_self_eq_true, kx_at, List.length_cons, List.length_nil, List.take_succ_cons, List.take_nil, false_implies, and_true, not_true_eq_false, ofV3, hz]
              refine call hT t_norm_maker_bin (hB _ _ _ _ _ _ _ _ _ _ _ _ hok q1 q2 (by omega) hr hb) 1000 fun v σ hv => ?_
              obtain ⟨rfl, t5, w2, w3, w4, ht5, rfl⟩ := hv
              simp -implicitDefEqProofs (disch := omega) only [go_sem, ↓reduceIte, reduceCtorEq, Nat.reduceEqDiff, true_and]
              exact ⟨t5, w2, w3, w4, by omega, rfl, rfl⟩
          · rcases hio with ⟨rfl, rfl⟩ | ⟨rfl, rfl⟩
            · refine W_round [(1, .int .i64 x), (2, .int .i64 c), (3, .ptr (5 + ex.length) t 0), (50, .lst 1 [.int .u8 10, .int .u8 2] true), (51, .int .i64 2), (52, .int .i64 0)] ⟨f1, f2, f3, f50, f51, f52, trivial⟩ 1000 ?_
              simp -implicitDefEqProofs (disch := omega) only [go_sem, ↓reduceIte, reduceCtorEq, Nat.reduceAdd, Nat.reduceEqDiff, Nat.reduceLeDiff, Nat.reduceLT, Int.reduceToNat, Int.reduceLE, Int.reduceLT, Nat.zero_add, decide_true, Nat.le_refl, kx_at, List.length_cons, List.length_nil, List.take_succ_cons, List.take_nil, false_implies, true_implies, and_true]
              refine call hT t_norm_maker_of (k_of (base := 0) hT (Nat.zero_le _)) 1000 fun v σ hv => ?_
              obtain ⟨rfl, t4, ht4, rfl⟩ := hv
              rw [ho]
              simp -implicitDefEqProofs (disch := omega) only [go_sem, ↓reduceIte, reduceCtorEq, Nat.reduceAdd, Nat.reduceEqDiff, Nat.reduceLT, Nat.zero_add, Nat.le_refl, kx_at, List.length_cons, List.length_nil, List.take_succ_cons, List.take_nil, false_implies, true_implies, true_and, and_true, not_false_eq_true, ofV3, hz]
              exact ⟨_, _, Shift.refl _ _ _ _, by simp -implicitDefEqProofs (disch := omega) only [go_sem, ↓reduceIte], by simp -implicitDefEqProofs (disch := omega) only [go_sem, ↓reduceIte, Nat.reduceEqDiff], by simp -implicitDefEqProofs (disch := omega) only [go_sem, ↓reduceIte, Nat.reduceEqDiff], by simp -implicitDefEqProofs (disch := omega) only [go_sem, ↓reduceIte, Nat.reduceEqDiff], by simp -implicitDefEqProofs (disch := omega) only [go_sem, ↓reduceIte, Nat.reduceEqDiff], by simp -implicitDefEqProofs (disch := omega) only [go_sem, ↓reduceIte, Nat.reduceEqDiff]; rfl, t4, by omega, rfl⟩
            · refine W_round [(1, .int .i64 x), (2, .int .i64 c), (3, .ptr (5 + ex.length) t 0), (50, .lst 1 [.int .u8 10, .int .u8 2] true), (51, .int .i64 2), (52, .int .i64 1)] ⟨f1, f2, f3, f50, f51, f52, trivial⟩ 1000 ?_
              simp -implicitDefEqProofs (disch := omega) only [go_sem, ↓reduceIte, reduceCtorEq, Nat.reduceAdd, Nat.reduceEqDiff, Nat.reduceLeDiff, Nat.reduceLT, Int.reduceToNat, Int.reduceLE, Int.reduceLT, Nat.zero_add, decide_true, Nat.le_refl, kx_at, List.length_cons, List.length_nil, List.take_succ_cons, List.take_nil, false_implies, true_implies, and_true]
              refine call hT t_norm_maker_of (k_of (base := 0) hT (Nat.zero_le _)) 1000 fun v σ hv => ?_
              obtain ⟨rfl, t4, ht4, rfl⟩ := hv
              rw [ho]
              simp -implicitDefEqProofs (disch := omega) only [go_sem, ↓reduceIte, reduceCtorEq, Nat.reduceAdd, Nat.reduceEqDiff, Nat.reduceLT, Nat.zero_add, Nat.le_refl, kx_at, List.length_cons, List.length_nil, List.take_succ_cons, List.take_nil, false_implies, true_implies, true_and, and_true, not_false_eq_true, ofV3, hz]
              exact ⟨_, _, Shift.refl _ _ _ _, by simp -implicitDefEqProofs (disch := omega) only [go_sem, ↓reduceIte], by simp -implicitDefEqProofs (disch := omega) only [go_sem, ↓reduceIte, Nat.reduceEqDiff], by simp -implicitDefEqProofs (disch := omega) only [go_sem, ↓reduceIte, Nat.reduceEqDiff], by simp -implicitDefEqProofs (disch := omega) only [go_sem, ↓reduceIte, Nat.reduceEqDiff], by simp -implicitDefEqProofs (disch := omega) only [go_sem, ↓reduceIte, Nat.reduceEqDiff], by simp -implicitDefEqProofs (disch := omega) only [go_sem, ↓reduceIte, Nat.reduceEqDiff]; rfl, t4, by omega, rfl⟩
      · obtain ⟨⟨j1, j2⟩, f1, f2, f3, f50, f51, f52, t3, ht3, rfl⟩ := hJ
        subst hi
        refine W_round [(1, .int .i64 x), (2, .int .i64 c), (3, .ptr (5 + ex.length) t 0), (50, .lst 1 [.int .u8 10, .int .u8 2] true), (51, .int .i64 2), (52, .int .i64 2)] ⟨f1, f2, f3, f50, f51, f52, trivial⟩ 1000 ?_
        simp -implicitDefEqProofs (disch := omega) only [go_sem, ↓reduceIte, reduceCtorEq, Nat.reduceEqDiff, Int.reduceLT, decide_false, true_and, and_true]
        exact ⟨hN (j1 (by simp)) (j2 (by simp)), t3, by omega, rfl⟩
      · rcases hE with ⟨rfl, f6, t3, w2, w3, w4, ht3, rfl⟩ | ⟨rfl, rfl, t3, ht3, rfl⟩
        · refine run_sem 1000 ?_
          simp -implicitDefEqProofs (disch := omega) only [go_sem, Nat.zero_add, f6, kG_len0, kx_take, List.length_append, List.length_cons, List.length_nil]
          exact ⟨by omega, rfl, t3, w2, w3, w4, by omega, rfl⟩
        · refine run_sem 1000 ?_
          simp -implicitDefEqProofs (disch := omega) only [go_sem, ↓reduceIte, Nat.zero_add, kG_len0, kx_take, List.length_append, List.length_cons, List.length_nil]
          exact ⟨by omega, rfl, t3, v2, v3, v4, by omega, rfl⟩
end Go.Proofs.YtpdeoalocejodaaGreatDoor
/- Terms made plain: a term and a number. -/
namespace Go.Proofs.YtpdeoalocejodaaGreatDoor
open Go Go.Am
set_option maxRecDepth 100000
set_option maxHeartbeats 1000000
variable {P : Program} {G : Nat → Option V}
theorem callFC {T : Nat → Option AF} (hT : TabOk P T) {f : Nat} {A : AF} (hf : T f = some A) {n base base' : Nat} {Q : AE → Fr → H → Prop} {t : AT} {d : Option Nat} {dead : List Nat} {s : List KI} {fr : Fr} {first args cap : List V} {σ : H} {R : V → H → Prop}
    (h : C P G base' f (first ++ args ++ cap) σ R) (fuel : Nat) (k : ∀ v σ', R v σ' → run P G n base Q fuel (.at t dead :: s) .nrm (fput fr d v) σ') : CV P G base' (.fn (.func f) first cap) args σ (kC P G n base Q d t dead s fr) :=
  CV_tab hT hf (h.conseq fun v σ' hq => run_sem fuel (k v σ' hq))
theorem equal_none {bin : BinT} (hb : KeepB [] [] bin) {L : List Nd} (hok : okN L) {op x c : Int} (hc : i64 c) {r : GR} (h : equalR bin L op x c = some r) : NoneL L r := by
  unfold equalR at h
  split at h
  · cases h; exact .inr rfl
  split at h
  · rename_i y d hta
    obtain ⟨t1, _, t3, _⟩ := tailI_ok (S := []) (C := []) hok hta
    exact .inl (withN_ok hb hok t1 (by omega) (wrap_rg _) h).2
  · split at h
    · rename_i y d hta
      obtain ⟨t1, _, t3, _⟩ := tailI_ok (S := []) (C := []) hok hta
      exact .inl (withN_ok hb hok t1 (by omega) (do_i64 hc t3) h).2
    · split at h
      · rename_i y z hof
        obtain ⟨t1, t2, _⟩ := ofI_ok (S := []) (C := []) hok hof
        split at h
        · exact .inl (hb _ _ _ _ _ hok t1 t2 (by omega) h).2
        · cases h; exact .inr rfl
      · split at h
        · rename_i y z hof
          obtain ⟨t1, t2, _⟩ := ofI_ok (S := []) (C := []) hok hof
          split at h
          · exact .inl (hb _ _ _ _ _ hok t1 t2 (by omega) h).2
          · cases h; exact .inr rfl
        · cases h; exact .inr rfl
def chain (L : List Nd) : List (Option GR) → Option GR
  | [] => some (-1, L)
  | q :: l => q.bind fun q => if q.1 ≠ -1 then some q else chain L l
theorem then_chain {L : List Nd} {q : Option GR} {k : List Nd → Option GR} {l : List (Option GR)} {r : GR} (hn : ∀ r, q = some r → NoneL L r) (hk : k L = some r → chain L l = some r) (h : thenR q k = some r) : chain L (q :: l) = some r := by
  unfold thenR at h
  cases q with
  | none => cases h
  | some q =>
    simp only [Option.bind_some, chain] at h ⊢
    by_cases h1 : q.1 ≠ -1
    · rw [if_pos h1] at h ⊢; exact h
    · rw [if_neg h1] at h ⊢
      rcases hn q rfl with h2 | h2
      · exact absurd h2 h1
      · rw [h2] at h; exact hk h
theorem number_chain {bin : BinT} (hb : KeepB [] [] bin) {L : List Nd} (hok : okN L) {op x c : Int} (ho : 1 ≤ op ∧ op ≤ 16) (hx : inG L x) (hc : i64 c) {r : GR} (h : numberR bin L op x c = some r) : chain L [some (fixedR L op x c), movedR bin L op x c, truthR bin L op x c, groupR bin L op x c, equalR bin L op x c] = some r := by
  unfold numberR at h
  refine then_chain (fun r hr => ?_) (fun h => ?_) h
  · cases hr; exact fixed_none hx
  refine then_chain (fun r hr => moved_none hb hok hx hc hr) (fun h => ?_) h
  refine then_chain (fun r hr => truth_none hb hok hc hr) (fun h => ?_) h
  refine then_chain (fun r hr => group_none hb hok ho hc hr) (fun h => ?_) h
  rw [h]
  simp only [chain, Option.bind_some]
  by_cases h1 : r.1 ≠ -1
  · rw [if_pos h1]
  · rw [if_neg h1]
    rcases equal_none hb hok hc h with h2 | h2
    · exact absurd h2 h1
    · rw [h2]
theorem chain_cons {L : List Nd} {q : Option GR} {l : List (Option GR)} {r : GR} (hn : ∀ r, q = some r → NoneL L r) (h : chain L (q :: l) = some r) : ∃ s, q = some s ∧ ((s.1 ≠ -1 ∧ s = r) ∨ (s = (-1, L) ∧ chain L l = some r)) := by
  cases q with
  | none => cases h
  | some q =>
    simp only [chain, Option.bind_some] at h
    by_cases h1 : q.1 ≠ -1
    · rw [if_pos h1] at h
      cases h
      exact ⟨_, rfl, .inl ⟨h1, rfl⟩⟩
    · rw [if_neg h1] at h
      rcases hn q rfl with h2 | h2
      · exact absurd h2 h1
      · exact ⟨_, rfl, .inr ⟨h2, h⟩⟩
theorem k_S2 (hT : TabOk P tab) (F : Fmt P G) {bin : BinT} (hK : KeepB [] [] bin) (hB : BinC P G F.fmt bin) {v0 v1 v2 v3 v4 t : Nat} {L : List Nd} {ex : List (Option Ob)} {op x c : Int} {m vm T : Nat} (hm : ex[m]? = some (some (.arr vm T [.ptr 1 v0 0]))) (hok : okN L) (hc : i64 c) {r : GR} (hr : r.2.length ≤ 1000000) (h : equalR bin L op x c = some r) :
    C P G 0 n_norm_maker_number_S2 [.int .u8 op, .int .i64 x, .int .i64 c, .ptr (5 + m) vm 0] ⟨t, kG F.fmt v0 v1 v2 v3 v4 L ++ ex⟩ (PostN F.fmt r v0 v1 ex t) := by
  refine C_tab hT t_norm_maker_number_S2 (by simp [norm_maker_number_S2]) (W_run 1000 ?_)
  have hmm : (kG F.fmt v0 v1 v2 v3 v4 L ++ ex)[5 + m]? = some (some (.arr vm T [.ptr 1 v0 0])) := kx_m hm
  by_cases h16 : op = 16
  · subst h16
    simp -implicitDefEqProofs (disch := omega) only [go_sem, ↓reduceIte, reduceCtorEq, Nat.reduceAdd, Nat.reduceEqDiff, Nat.zero_add, Nat.le_refl, bne_self_eq_false, norm_maker_number_S2, zq2i_0, zq2i_1, zq2i_2, zq2i_3, List.length_cons, List.length_nil, List.take_succ_cons, List.take_nil, false_implies, and_true, hmm]
    refine call hT t_norm_maker_equal (k_equal hT F hK hB hok hc hr h) 1000 fun v σ hv => ?_
    obtain ⟨rfl, t', v2', v3', v4', ht, rfl⟩ := hv
    simp -implicitDefEqProofs (disch := omega) only [go_sem, ↓reduceIte, reduceCtorEq, Nat.reduceEqDiff]
    exact ⟨rfl, t', v2', v3', v4', ht, rfl⟩
  · rw [equalR, if_pos h16] at h
    cases h
    simp -implicitDefEqProofs (disch := omega) only [go_sem, ↓reduceIte, reduceCtorEq, Nat.reduceAdd, Nat.reduceEqDiff, Nat.zero_add, norm_maker_number_S2, zq2i_0, zq2i_1, zq2i_2, zq2i_3, false_implies, true_implies, and_true, not_false_eq_true, h16]
    exact ⟨rfl, t, v2, v3, v4, by omega, rfl⟩
theorem k_number (hT : TabOk P tab) (F : Fmt P G) (hP : Bits P G) {bin : BinT} (hK : KeepB [] [] bin) (hB : BinC P G F.fmt bin) {v0 v1 v2 v3 v4 t : Nat} {L : List Nd} {ex : List (Option Ob)} {op x c : Int} (hok : okN L) (hL : L.length ≤ 1000000) (hx' : inG L x) (ho : 1 ≤ op ∧ op ≤ 16) (hc : i64 c) {r : GR} (hr : r.2.length ≤ 1000000) (h : numberR bin L op x c = some r) :
    C P G 0 n_norm_maker_number [mk v0, .int .u8 op, .int .i64 x, .int .i64 c] ⟨t, kG F.fmt v0 v1 v2 v3 v4 L ++ ex⟩ (PostN F.fmt r v0 v1 ex t) := by
  refine C_keep (5 + ex.length) (Nat.zero_le _) (C_tab hT t_norm_maker_number (by simp [norm_maker_number]) (W_run 1000 ?_))
  replace h := number_chain hK hok ho hx' hc h
  simp -implicitDefEqProofs (disch := omega) only [go_sem, ↓reduceIte, reduceCtorEq, Nat.reduceAdd, Nat.reduceEqDiff, Nat.reduceLeDiff, Nat.zero_add, Nat.le_refl, norm_maker_number, zq1n_0, zq1n_1, zq1n_2, zq1n_3, zq1n_4, zq1n_5, zq1n_6, zq1n_7, zq1n_8, zq1n_9, zq1n_10, kG_len0, kx_at, List.length_append, List.length_cons, List.length_nil, List.append_assoc, List.cons_append, List.nil_append, List.take_succ_cons, List.take_zero, List.take_nil, false_implies, and_true]
  have hbox : (ex ++ [some (.arr t 76 [.ptr 1 v0 0]), some (.arr (t + 1) 107 [.fn (.func n_norm_maker_fixed) [mk v0] [], .fn (.func n_norm_maker_moved) [mk v0] [], .fn (.func n_norm_maker_truth) [mk v0] [], .fn (.func n_norm_maker_number_S1) [] [.ptr (5 + ex.length) t 0], .fn (.func n_norm_maker_number_S2) [] [.ptr (5 + ex.length) t 0]])])[ex.length]? = some (some (.arr t 76 [.ptr 1 v0 0])) := by simp
  refine sem_for [0, 1, 2, 3, 4] (fun i fr σ => chain L ([some (fixedR L op x c), movedR bin L op x c, truthR bin L op x c, groupR bin L op x c, equalR bin L op x c].drop i) = some r ∧ fget fr 1 = .int .u8 op ∧ fget fr 2 = .int .i64 x ∧ fget fr 3 = .int .i64 c ∧ fget fr 24 = .sl (5 + (ex.length + 1)) (t + 1) 0 1 5 none ∧ fget fr 25 = .int .i64 5 ∧ fget fr 26 = .int .i64 ((i : Nat) : Int) ∧ ∃ t' v2' v3' v4', t ≤ t' ∧ σ = ⟨t', kG F.fmt v0 v1 v2' v3' v4' L ++ (ex ++ [some (.arr t 76 [.ptr 1 v0 0]), some (.arr (t + 1) 107 [.fn (.func n_norm_maker_fixed) [mk v0] [], .fn (.func n_norm_maker_moved) [mk v0] [], .fn (.func n_norm_maker_truth) [mk v0] [], .fn (.func n_norm_maker_number_S1) [] [.ptr (5 + ex.length) t 0], .fn (.func n_norm_maker_number_S2) [] [.ptr (5 + ex.length) t 0]])])⟩)
    (fun e fr σ => (e = .ret ∧ fget fr 8 = .int .i64 r.1 ∧ ∃ t' v2' v3' v4', t ≤ t' ∧ σ = ⟨t', kG F.fmt v0 v1 v2' v3' v4' r.2 ++ (ex ++ [some (.arr t 76 [.ptr 1 v0 0]), some (.arr (t + 1) 107 [.fn (.func n_norm_maker_fixed) [mk v0] [], .fn (.func n_norm_maker_moved) [mk v0] [], .fn (.func n_norm_maker_truth) [mk v0] [], .fn (.func n_norm_maker_number_S1) [] [.ptr (5 + ex.length) t 0], .fn (.func n_norm_maker_number_S2) [] [.ptr (5 + ex.length) t 0]])])⟩) ∨ (e = .ex 0 ∧ r = (-1, L) ∧ ∃ t' v2' v3' v4', t ≤ t' ∧ σ = ⟨t', kG F.fmt v0 v1 v2' v3' v4' L ++ (ex ++ [some (.arr t 76 [.ptr 1 v0 0]), some (.arr (t + 1) 107 [.fn (.func n_norm_maker_fixed) [mk v0] [], .fn (.func n_norm_maker_moved) [mk v0] [], .fn (.func n_norm_maker_truth) [mk v0] [], .fn (.func n_norm_maker_number_S1) [] [.ptr (5 + ex.length) t 0], .fn (.func n_norm_maker_number_S2) [] [.ptr (5 + ex.length) t 0]])])⟩)) ⟨h, by simp -implicitDefEqProofs (disch := omega) only [go_sem, ↓reduceIte, reduceCtorEq], by simp -implicitDefEqProofs (disch := omega) only [go_sem, ↓reduceIte, reduceCtorEq, Nat.reduceEqDiff], by simp -implicitDefEqProofs (disch := omega) only [go_sem, ↓reduceIte, reduceCtorEq, Nat.reduceEqDiff], by simp -implicitDefEqProofs (disch := omega) only [go_sem, ↓reduceIte, reduceCtorEq, Nat.reduceEqDiff], by simp -implicitDefEqProofs (disch := omega) only [go_sem, ↓reduceIte, reduceCtorEq, Nat.reduceEqDiff]; rfl, by simp -implicitDefEqProofs (disch := omega) only [go_sem, ↓reduceIte, reduceCtorEq, Nat.reduceEqDiff]; rfl, _, v2, v3, v4, by omega, rfl⟩ (fun i o hx fr σ hJ => ?_) (fun i hi fr σ hJ => ?_) (fun e fr σ hE => ?_)
  · obtain ⟨hch, f1, f2, f3, f24, f25, f26, t3, y2, y3, y4, ht3, rfl⟩ := hJ
    rcases i with _ | _ | _ | _ | _ | i
    · have hch : chain L (some (fixedR L op x c) :: [movedR bin L op x c, truthR bin L op x c, groupR bin L op x c, equalR bin L op x c]) = some r := hch
      obtain ⟨q, hq, hcase⟩ := chain_cons (fun r hr => by cases hr; exact fixed_none hx') hch
      have hq2 : q.2.length ≤ 1000000 := by rcases hcase with ⟨_, rfl⟩ | ⟨rfl, _⟩; exact hr; exact hL
      refine W_round [(1, .int .u8 op), (2, .int .i64 x), (3, .int .i64 c), (24, .sl (5 + (ex.length + 1)) (t + 1) 0 1 5 none), (25, .int .i64 5), (26, .int .i64 0)] ⟨f1, f2, f3, f24, f25, f26, trivial⟩ 1000 ?_
      simp -implicitDefEqProofs (disch := omega) only [go_sem, ↓reduceIte, Nat.reduceAdd, Nat.reduceEqDiff, Nat.reduceLeDiff, Nat.reduceLT, Int.reduceToNat, Int.reduceLE, Int.reduceLT, Nat.zero_add, Nat.add_zero, Nat.mul_one, decide_true, kx_at1, List.length_cons, List.length_nil, true_implies, and_true]
      refine callFC hT t_norm_maker_fixed (k_fixed hT F ho hL) 1000 fun v σ hv => ?_
      obtain ⟨rfl, t4, w2, w3, w4, ht4, rfl⟩ := hv
      cases hq
      rcases hcase with ⟨hne, he⟩ | ⟨he, hch'⟩
      · rw [he] at hne ⊢
        simp -implicitDefEqProofs (disch := omega) only [go_sem, ↓reduceIte, reduceCtorEq, Nat.reduceEqDiff, false_implies, true_implies, true_and, and_true, not_false_eq_true, hne]
        exact ⟨t4, w2, w3, w4, by omega, rfl, rfl⟩
      · rw [he]
        simp -implicitDefEqProofs (disch := omega) only [go_sem, ↓reduceIte, Nat.reduceEqDiff, bne_self_eq_false]
        exact ⟨_, _, Shift.refl _ _ _ _, hch', by simp -implicitDefEqProofs (disch := omega) only [go_sem, ↓reduceIte], by simp -implicitDefEqProofs (disch := omega) only [go_sem, ↓reduceIte, Nat.reduceEqDiff], by simp -implicitDefEqProofs (disch := omega) only [go_sem, ↓reduceIte, Nat.reduceEqDiff], by simp -implicitDefEqProofs (disch := omega) only [go_sem, ↓reduceIte, Nat.reduceEqDiff], by simp -implicitDefEqProofs (disch := omega) only [go_sem, ↓reduceIte, Nat.reduceEqDiff], by simp -implicitDefEqProofs (disch := omega) only [go_sem, ↓reduceIte, Nat.reduceEqDiff]; rfl, t4, w2, w3, w4, by omega, rfl⟩
    · have hch : chain L (movedR bin L op x c :: [truthR bin L op x c, groupR bin L op x c, equalR bin L op x c]) = some r := hch
      obtain ⟨q, hq, hcase⟩ := chain_cons (fun r hr => moved_none hK hok hx' hc hr) hch
      have hq2 : q.2.length ≤ 1000000 := by rcases hcase with ⟨_, rfl⟩ | ⟨rfl, _⟩; exact hr; exact hL
      refine W_round [(1, .int .u8 op), (2, .int .i64 x), (3, .int .i64 c), (24, .sl (5 + (ex.length + 1)) (t + 1) 0 1 5 none), (25, .int .i64 5), (26, .int .i64 1)] ⟨f1, f2, f3, f24, f25, f26, trivial⟩ 1000 ?_
      simp -implicitDefEqProofs (disch := omega) only [go_sem, ↓reduceIte, Nat.reduceAdd, Nat.reduceEqDiff, Nat.reduceLeDiff, Nat.reduceLT, Int.reduceToNat, Int.reduceLE, Int.reduceLT, Nat.zero_add, Nat.mul_one, decide_true, kx_at1, List.length_cons, List.length_nil, true_implies, and_true]
      refine callFC hT t_norm_maker_moved (k_moved hT F hP hK hB hok hx' ho hc hq2 hq) 1000 fun v σ hv => ?_
      obtain ⟨rfl, t4, w2, w3, w4, ht4, rfl⟩ := hv
      rcases hcase with ⟨hne, rfl⟩ | ⟨rfl, hch'⟩
      · simp -implicitDefEqProofs (disch := omega) only [go_sem, ↓reduceIte, reduceCtorEq, Nat.reduceEqDiff, false_implies, true_implies, true_and, and_true, not_false_eq_true, hne]
        exact ⟨t4, w2, w3, w4, by omega, rfl, rfl⟩
      · simp -implicitDefEqProofs (disch := omega) only [go_sem, ↓reduceIte, Nat.reduceEqDiff, bne_self_eq_false]
        exact ⟨_, _, Shift.refl _ _ _ _, hch', by simp -implicitDefEqProofs (disch := omega) only [go_sem, ↓reduceIte], by simp -implicitDefEqProofs (disch := omega) only [go_sem, ↓reduceIte, Nat.reduceEqDiff], by simp -implicitDefEqProofs (disch := omega) only [go_sem, ↓reduceIte, Nat.reduceEqDiff], by simp -implicitDefEqProofs (disch := omega) only [go_sem, ↓reduceIte, Nat.reduceEqDiff], by simp -implicitDefEqProofs (disch := omega) only [go_sem, ↓reduceIte, Nat.reduceEqDiff], by simp -implicitDefEqProofs (disch := omega) only [go_sem, ↓reduceIte, Nat.reduceEqDiff]; rfl, t4, w2, w3, w4, by omega, rfl⟩
    · have hch : chain L (truthR bin L op x c :: [groupR bin L op x c, equalR bin L op x c]) = some r := hch
      obtain ⟨q, hq, hcase⟩ := chain_cons (fun r hr => truth_none hK hok hc hr) hch
      have hq2 : q.2.length ≤ 1000000 := by rcases hcase with ⟨_, rfl⟩ | ⟨rfl, _⟩; exact hr; exact hL
      refine W_round [(1, .int .u8 op), (2, .int .i64 x), (3, .int .i64 c), (24, .sl (5 + (ex.length + 1)) (t + 1) 0 1 5 none), (25, .int .i64 5), (26, .int .i64 2)] ⟨f1, f2, f3, f24, f25, f26, trivial⟩ 1000 ?_
      simp -implicitDefEqProofs (disch := omega) only [go_sem, ↓reduceIte, Nat.reduceAdd, Nat.reduceEqDiff, Nat.reduceLeDiff, Nat.reduceLT, Int.reduceToNat, Int.reduceLE, Int.reduceLT, Nat.zero_add, Nat.mul_one, decide_true, kx_at1, List.length_cons, List.length_nil, true_implies, and_true]
      refine callFC hT t_norm_maker_truth (k_truth hT F hK hB hok hL ho hc hq2 hq) 1000 fun v σ hv => ?_
      obtain ⟨rfl, t4, w2, w3, w4, ht4, rfl⟩ := hv
      rcases hcase with ⟨hne, rfl⟩ | ⟨rfl, hch'⟩
      · simp -implicitDefEqProofs (disch := omega) only [go_sem, ↓reduceIte, reduceCtorEq, Nat.reduceEqDiff, false_implies, true_implies, true_and, and_true, not_false_eq_true, hne]
        exact ⟨t4, w2, w3, w4, by omega, rfl, rfl⟩
      · simp -implicitDefEqProofs (disch := omega) only [go_sem, ↓reduceIte, Nat.reduceEqDiff, bne_self_eq_false]
        exact ⟨_, _, Shift.refl _ _ _ _, hch', by simp -implicitDefEqProofs (disch := omega) only [go_sem, ↓reduceIte], by simp -implicitDefEqProofs (disch := omega) only [go_sem, ↓reduceIte, Nat.reduceEqDiff], by simp -implicitDefEqProofs (disch := omega) only [go_sem, ↓reduceIte, Nat.reduceEqDiff], by simp -implicitDefEqProofs (disch := omega) only [go_sem, ↓reduceIte, Nat.reduceEqDiff], by simp -implicitDefEqProofs (disch := omega) only [go_sem, ↓reduceIte, Nat.reduceEqDiff], by simp -implicitDefEqProofs (disch := omega) only [go_sem, ↓reduceIte, Nat.reduceEqDiff]; rfl, t4, w2, w3, w4, by omega, rfl⟩
    · have hch : chain L (groupR bin L op x c :: [equalR bin L op x c]) = some r := hch
      obtain ⟨q, hq, hcase⟩ := chain_cons (fun r hr => group_none hK hok ho hc hr) hch
      have hq2 : q.2.length ≤ 1000000 := by rcases hcase with ⟨_, rfl⟩ | ⟨rfl, _⟩; exact hr; exact hL
      refine W_round [(1, .int .u8 op), (2, .int .i64 x), (3, .int .i64 c), (24, .sl (5 + (ex.length + 1)) (t + 1) 0 1 5 none), (25, .int .i64 5), (26, .int .i64 3)] ⟨f1, f2, f3, f24, f25, f26, trivial⟩ 1000 ?_
      simp -implicitDefEqProofs (disch := omega) only [go_sem, ↓reduceIte, Nat.reduceAdd, Nat.reduceEqDiff, Nat.reduceLeDiff, Nat.reduceLT, Int.reduceToNat, Int.reduceLE, Int.reduceLT, Nat.zero_add, Nat.mul_one, decide_true, kx_at1, List.length_cons, List.length_nil, true_implies, and_true]
      refine callFC hT t_norm_maker_number_S1 (k_group hT F hK hB hbox hok ho hc hq2 hq) 1000 fun v σ hv => ?_
      obtain ⟨rfl, t4, w2, w3, w4, ht4, rfl⟩ := hv
      rcases hcase with ⟨hne, rfl⟩ | ⟨rfl, hch'⟩
      · simp -implicitDefEqProofs (disch := omega) only [go_sem, ↓reduceIte, reduceCtorEq, Nat.reduceEqDiff, false_implies, true_implies, true_and, and_true, not_false_eq_true, hne]
        exact ⟨t4, w2, w3, w4, by omega, rfl, rfl⟩
      · simp -implicitDefEqProofs (disch := omega) only [go_sem, ↓reduceIte, Nat.reduceEqDiff, bne_self_eq_false]
        exact ⟨_, _, Shift.refl _ _ _ _, hch', by simp -implicitDefEqProofs (disch := omega) only [go_sem, ↓reduceIte], by simp -implicitDefEqProofs (disch := omega) only [go_sem, ↓reduceIte, Nat.reduceEqDiff], by simp -implicitDefEqProofs (disch := omega) only [go_sem, ↓reduceIte, Nat.reduceEqDiff], by simp -implicitDefEqProofs (disch := omega) only [go_sem, ↓reduceIte, Nat.reduceEqDiff], by simp -implicitDefEqProofs (disch := omega) only [go_sem, ↓reduceIte, Nat.reduceEqDiff], by simp -implicitDefEqProofs (disch := omega) only [go_sem, ↓reduceIte, Nat.reduceEqDiff]; rfl, t4, w2, w3, w4, by omega, rfl⟩
    · have hch : chain L (equalR bin L op x c :: []) = some r := hch
      obtain ⟨q, hq, hcase⟩ := chain_cons (fun r hr => equal_none hK hok hc hr) hch
      have hq2 : q.2.length ≤ 1000000 := by rcases hcase with ⟨_, rfl⟩ | ⟨rfl, _⟩; exact hr; exact hL
      refine W_round [(1, .int .u8 op), (2, .int .i64 x), (3, .int .i64 c), (24, .sl (5 + (ex.length + 1)) (t + 1) 0 1 5 none), (25, .int .i64 5), (26, .int .i64 4)] ⟨f1, f2, f3, f24, f25, f26, trivial⟩ 1000 ?_
      simp -implicitDefEqProofs (disch := omega) only [go_sem, ↓reduceIte, Nat.reduceAdd, Nat.reduceEqDiff, Nat.reduceLT, Int.reduceToNat, Int.reduceLE, Int.reduceLT, Nat.zero_add, Nat.mul_one, decide_true, Nat.le_refl, kx_at1, List.length_cons, List.length_nil, true_implies, and_true]
      refine callFC hT t_norm_maker_number_S2 (k_S2 hT F hK hB hbox hok hc hq2 hq) 1000 fun v σ hv => ?_
      obtain ⟨rfl, t4, w2, w3, w4, ht4, rfl⟩ := hv
      rcases hcase with ⟨hne, rfl⟩ | ⟨rfl, hch'⟩
      · simp -implicitDefEqProofs (disch := omega) only [go_sem, ↓reduceIte, reduceCtorEq, Nat.reduceEqDiff, false_implies, true_implies, true_and, and_true, not_false_eq_true, hne]
        exact ⟨t4, w2, w3, w4, by omega, rfl, rfl⟩
      · simp -implicitDefEqProofs (disch := omega) only [go_sem, ↓reduceIte, Nat.reduceEqDiff, bne_self_eq_false]
        exact ⟨_, _, Shift.refl _ _ _ _, hch', by simp -implicitDefEqProofs (disch := omega) only [go_sem, ↓reduceIte], by simp -implicitDefEqProofs (disch := omega) only [go_sem, ↓reduceIte, Nat.reduceEqDiff], by simp -implicitDefEqProofs (disch := omega) only [go_sem, ↓reduceIte, Nat.reduceEqDiff], by simp -implicitDefEqProofs (disch := omega) only [go_sem, ↓reduceIte, Nat.reduceEqDiff], by simp -implicitDefEqProofs (disch := omega) only [go_sem, ↓reduceIte, Nat.reduceEqDiff], by simp -implicitDefEqProofs (disch := omega) only [go_sem, ↓reduceIte, Nat.reduceEqDiff]; rfl, t4, w2, w3, w4, by omega, rfl⟩
    · simp at hx
  · obtain ⟨hch, f1, f2, f3, f24, f25, f26, t3, y2, y3, y4, ht3, rfl⟩ := hJ
    subst hi
    have hch : some (-1, L) = some r := hch
    cases hch
    refine W_round [(1, .int .u8 op), (2, .int .i64 x), (3, .int .i64 c), (24, .sl (5 + (ex.length + 1)) (t + 1) 0 1 5 none), (25, .int .i64 5), (26, .int .i64 5)] ⟨f1, f2, f3, f24, f25, f26, trivial⟩ 1000 ?_
    simp -implicitDefEqProofs (disch := omega) only [go_sem, ↓reduceIte, reduceCtorEq, Nat.reduceEqDiff, Int.reduceLT, decide_false, true_and]
    exact ⟨t3, y2, y3, y4, by omega, rfl, rfl⟩
  · rcases hE with ⟨rfl, f8, t3, w2, w3, w4, ht3, rfl⟩ | ⟨rfl, rfl, t3, w2, w3, w4, ht3, rfl⟩
    · refine run_sem 1000 ?_
      simp -implicitDefEqProofs (disch := omega) only [go_sem, Nat.reduceAdd, Nat.zero_add, f8, kG_len0, kx_take, List.length_append, List.length_cons, List.length_nil]
      exact ⟨by omega, rfl, t3, w2, w3, w4, by omega, rfl⟩
    · refine run_sem 1000 ?_
      simp -implicitDefEqProofs (disch := omega) only [go_sem, ↓reduceIte, Nat.reduceAdd, Nat.zero_add, kG_len0, kx_take, List.length_append, List.length_cons, List.length_nil]
      exact ⟨by omega, rfl, t3, w2, w3, w4, by omega, rfl⟩
end Go.Proofs.YtpdeoalocejodaaGreatDoor
