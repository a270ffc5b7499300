/- Terms made plain: the program's small functions. -/
import Derived.Test.YtpdeoalocejodaaGreatDoorJ6
import Derived.Test.YtpdeoalocejodaaGreatDoorAmD
/- Terms made plain: the program's small functions. -/
namespace Go.Proofs.YtpdeoalocejodaaGreatDoor
open Go Go.Am
set_option maxRecDepth 100000
set_option maxHeartbeats 1000000
variable {P : Program} {G : Nat → Option V}
section
variable {fmt : Int → List UInt8} {v0 v1 v2 v3 v4 : Nat} {L : List Nd} {ex zs ys : List (Option Ob)} {y z : Option Ob}
theorem kx_at : (kG fmt v0 v1 v2 v3 v4 L ++ (ex ++ y :: zs))[5 + ex.length]? = some y := by
  rw [List.getElem?_append_right (by rw [kG_len0]; omega), kG_len0, List.getElem?_append_right (by omega)]
  simp
theorem kx_at1 : (kG fmt v0 v1 v2 v3 v4 L ++ (ex ++ y :: z :: zs))[5 + (ex.length + 1)]? = some z := by
  rw [List.getElem?_append_right (by rw [kG_len0]; omega), kG_len0, List.getElem?_append_right (by omega)]
  simp
theorem kx_set : (kG fmt v0 v1 v2 v3 v4 L ++ (ex ++ y :: zs)).set (5 + ex.length) z = kG fmt v0 v1 v2 v3 v4 L ++ (ex ++ z :: zs) := by
  rw [List.set_append_right _ _ (by rw [kG_len0]; omega), kG_len0, List.set_append_right _ _ (by omega)]
  simp
theorem kx_set1 {u : Option Ob} : (kG fmt v0 v1 v2 v3 v4 L ++ (ex ++ y :: z :: zs)).set (5 + (ex.length + 1)) u = kG fmt v0 v1 v2 v3 v4 L ++ (ex ++ y :: u :: zs) := by
  rw [List.set_append_right _ _ (by rw [kG_len0]; omega), kG_len0, List.set_append_right _ _ (by omega)]
  simp
theorem kx_take : (kG fmt v0 v1 v2 v3 v4 L ++ (ex ++ zs)).take (5 + ex.length) = kG fmt v0 v1 v2 v3 v4 L ++ ex := by
  rw [← List.append_assoc, List.take_left' (by simp [kG]; omega)]
theorem kx_len : (kG fmt v0 v1 v2 v3 v4 L ++ ex).length = 5 + ex.length := by simp [kG]; omega
end
abbrev PostN (fmt : Int → List UInt8) (r : GR) (v0 v1 : Nat) (ex : List (Option Ob)) (t : Nat) : V → H → Prop := fun v σ => v = .int .i64 r.1 ∧ ∃ t' v2' v3' v4', t ≤ t' ∧ σ = ⟨t', kG fmt v0 v1 v2' v3' v4' r.2 ++ ex⟩
abbrev mk (v0 : Nat) : V := .agg [.ptr 1 v0 0]
theorem k_Const (hT : TabOk P tab) (F : Fmt P G) {v0 v1 v2 v3 v4 t : Nat} {L : List Nd} {ex : List (Option Ob)} {n : Int} (hn : i64 n) (hL : L.length ≤ 1000000) :
    C P G 0 n_norm_Const [.ptr 1 v0 0, .int .i64 n] ⟨t, kG F.fmt v0 v1 v2 v3 v4 L ++ ex⟩ (PostN F.fmt (numN L n) v0 v1 ex t) := by
  refine C_tab hT t_norm_Const (by simp [norm_Const]) (W_run 1000 ?_)
  simp -implicitDefEqProofs (disch := omega) only [go_sem, ↓reduceIte, reduceCtorEq, Nat.reduceAdd, Nat.reduceEqDiff, Nat.reduceLeDiff, Nat.zero_add, norm_Const, zq9_0, zq9_1, List.length_cons, List.length_nil, List.cons_append, List.nil_append, List.take_succ_cons, List.take_zero, and_true]
  refine call hT t_term_Graph_Add (k_Add hT F ⟨1, n, 0, 0, 0, 0⟩ hL hn (show i64 0 by unfold i64; omega)) 1000 fun v σ hv => ?_
  obtain ⟨rfl, t', v2', v3', v4', ht, rfl⟩ := hv
  simp -implicitDefEqProofs (disch := omega) only [go_sem, ↓reduceIte, reduceCtorEq, Nat.reduceEqDiff]
  exact ⟨rfl, t', v2', v3', v4', ht, rfl⟩
theorem k_num (hT : TabOk P tab) (F : Fmt P G) {v0 v1 v2 v3 v4 t : Nat} {L : List Nd} {ex : List (Option Ob)} {n : Int} (hn : i64 n) (hL : L.length ≤ 1000000) :
    C P G 0 n_norm_maker_num [mk v0, .int .i64 n] ⟨t, kG F.fmt v0 v1 v2 v3 v4 L ++ ex⟩ (PostN F.fmt (numN L n) v0 v1 ex t) := by
  refine C_keep (5 + ex.length) (Nat.zero_le _) (C_tab hT t_norm_maker_num (by simp [norm_maker_num]) (W_run 1000 ?_))
  simp -implicitDefEqProofs (disch := omega) only [go_sem, ↓reduceIte, reduceCtorEq, Nat.reduceEqDiff, Nat.zero_add, Nat.add_zero, Nat.le_refl, norm_maker_num, zq1l_0, zq1l_1, kG_len0, kx_at, List.length_append, List.length_cons, List.length_nil, List.append_assoc, true_implies, and_true]
  refine call hT t_norm_Const (k_Const hT F hn hL) 1000 fun v σ hv => ?_
  obtain ⟨rfl, t', v2', v3', v4', ht, rfl⟩ := hv
  simp -implicitDefEqProofs (disch := omega) only [go_sem, ↓reduceIte, reduceCtorEq, Nat.reduceEqDiff, Nat.zero_add, kG_len0, kx_take, List.length_append, List.length_cons, List.length_nil]
  first | exact ⟨by omega, rfl, t', v2', v3', v4', by omega, rfl⟩ | exact ⟨by omega, rfl, t', v2', v3', v4', by omega, rfl, rfl⟩ | exact ⟨by omega, t', v2', v3', v4', by omega, rfl⟩ | exact ⟨by omega, t', v2', v3', v4', by omega, rfl, rfl⟩
theorem c_nis (hT : TabOk P tab) (l : List Int) (hl : l.length ≤ 1000000) (tr : Bool) (n : Int) : Pure P G n_norm_is [.int .i64 n, .lst 1 (nints l) tr] fun v => v = .bool (decide (n ∈ l)) := by
  intro t
  refine C_keep 0 (Nat.zero_le _) (C_tab hT t_norm_is (by simp [norm_is]) (W_run 1000 ?_))
  simp -implicitDefEqProofs (disch := omega) only [go_sem, ↓reduceIte, reduceCtorEq, Nat.reduceEqDiff, Nat.zero_add, norm_is, zq18_0, zq18_1, zq18_2, zq18_3, zq18_4, zq18_5, zq18_6, zq18_7, nints_length]
  refine sem_for l (fun i fr σ => n ∉ l.take i ∧ fget fr 0 = .int .i64 n ∧ fget fr 7 = .lst 1 (nints l) tr ∧ fget fr 8 = .int .i64 l.length ∧ fget fr 9 = .int .i64 ((i : Nat) : Int) ∧ σ = ⟨t, []⟩)
    (fun e fr σ => σ = ⟨t, []⟩ ∧ ((e = .ret ∧ fget fr 4 = .bool true ∧ n ∈ l) ∨ (e = .ex 0 ∧ n ∉ l))) ⟨by simp, by simp -implicitDefEqProofs (disch := omega) only [go_sem, ↓reduceIte], by simp -implicitDefEqProofs (disch := omega) only [go_sem, ↓reduceIte, reduceCtorEq, Nat.reduceEqDiff], by simp -implicitDefEqProofs (disch := omega) only [go_sem, ↓reduceIte, reduceCtorEq, Nat.reduceEqDiff], by simp -implicitDefEqProofs (disch := omega) only [go_sem, ↓reduceIte, reduceCtorEq, Nat.reduceEqDiff]; rfl, rfl⟩ (fun i x hx fr σ hJ => ?_) (fun i hi fr σ hJ => ?_) (fun e fr σ hE => ?_)
  · obtain ⟨hn, f0, f7, f8, f9, rfl⟩ := hJ
    have hlt := (List.getElem?_eq_some_iff.1 hx).1
    have hg := nints_get hx
    have e2 := w_nx hlt (by omega)
    by_cases h : n = x
    · subst h
      refine W_round [(0, .int .i64 n), (7, .lst 1 (nints l) tr), (8, .int .i64 l.length), (9, .int .i64 ((i : Nat) : Int))] ⟨f0, f7, f8, f9, trivial⟩ 1000 ?_
      simp -implicitDefEqProofs (disch := omega) only [go_sem, need_of, ↓reduceIte, reduceCtorEq, Nat.reduceEqDiff, Nat.zero_add, decide_true, Nat.le_refl, beq_self_eq_true, nints_length, hlt, hg]
      exact List.mem_of_getElem? hx
    · refine W_round [(0, .int .i64 n), (7, .lst 1 (nints l) tr), (8, .int .i64 l.length), (9, .int .i64 ((i : Nat) : Int))] ⟨f0, f7, f8, f9, trivial⟩ 1000 ?_
      simp -implicitDefEqProofs (disch := omega) only [go_sem, need_of, ↓reduceIte, reduceCtorEq, Nat.reduceEqDiff, Nat.zero_add, decide_true, Nat.le_refl, nints_length, hlt, hg, h, e2]
      refine ⟨fun h => h.elim, _, _, Shift.refl _ _ _ _, ?_, ?_⟩
      · rw [take_snoc2 hx]; simp [hn, h]
      · simp -implicitDefEqProofs (disch := omega) only [go_sem, ↓reduceIte, reduceCtorEq, Nat.reduceEqDiff]
  · obtain ⟨hn, f0, f7, f8, f9, rfl⟩ := hJ
    rw [hi, List.take_length] at hn
    refine W_round [(0, .int .i64 n), (7, .lst 1 (nints l) tr), (8, .int .i64 l.length), (9, .int .i64 ((i : Nat) : Int))] ⟨f0, f7, f8, f9, trivial⟩ 1000 ?_
    simp -implicitDefEqProofs (disch := omega) only [go_sem, ↓reduceIte, reduceCtorEq, Nat.reduceEqDiff, decide_false, hi, Nat.lt_irrefl]
    exact hn
  · obtain ⟨rfl, ⟨rfl, f4, hm⟩ | ⟨rfl, hm⟩⟩ := hE
    · refine run_sem 1000 ?_
      simp -implicitDefEqProofs (disch := omega) only [go_sem, decide_true, Nat.le_refl, f4, hm, decide_true]
    · refine run_sem 1000 ?_
      simp -implicitDefEqProofs (disch := omega) only [go_sem, ↓reduceIte, decide_false, Nat.le_refl, hm, decide_false]
def numV (L : List Nd) (x : Int) : V := match numI L x with | some n => .tup [.int .i64 n, .bool true] | none => .tup [.int .i64 0, .bool false]
theorem k_Number (hT : TabOk P tab) {base : Nat} {fmt : Int → List UInt8} {v0 v1 v2 v3 v4 t : Nat} {L : List Nd} {ex : List (Option Ob)} {x : Int} (hb : base ≤ 5 + ex.length) :
    C P G base n_norm_Number [.ptr 1 v0 0, .int .i64 x] ⟨t, kG fmt v0 v1 v2 v3 v4 L ++ ex⟩ fun v σ => v = numV L x ∧ ∃ t', t ≤ t' ∧ σ = ⟨t', kG fmt v0 v1 v2 v3 v4 L ++ ex⟩ := by
  refine C_keep (5 + ex.length) hb (C_tab hT t_norm_Number (by simp [norm_Number]) (W_run 1000 ?_))
  simp -implicitDefEqProofs (disch := omega) only [go_sem, ↓reduceIte, reduceCtorEq, Nat.reduceEqDiff, Nat.zero_add, norm_Number, zqr_0, zqr_1, zqr_2, zqr_3, zqr_4]
  refine call hT t_term_Graph_Node (k_Node hT) 1000 fun v σ hv => ?_
  obtain ⟨rfl, t', ht, rfl⟩ := hv
  by_cases hx : inG L x
  · have hx' : 0 ≤ x ∧ x < L.length := hx
    have e : L.getD x.toNat zeroNd = nd L x := rfl
    rw [if_pos hx', e]
    by_cases hk : (nd L x).kind = 1
    · have en : numV L x = .tup [.int .i64 (nd L x).n, .bool true] := by rw [numV, numI, if_pos ⟨hx, hk⟩]
      rw [en]
      generalize nd L x = d at *
      simp -implicitDefEqProofs (disch := omega) only [go_sem, need_of, ↓reduceIte, reduceCtorEq, Nat.reduceAdd, Nat.reduceEqDiff, Nat.reduceLeDiff, Nat.reduceLT, Nat.zero_add, Nat.add_zero, Bool.not_true, Bool.not_false, Nat.le_refl, bne_self_eq_false, kG_len0, kx_at, kx_set, kx_take, List.length_append, List.length_cons, List.length_nil, List.append_assoc, List.cons_append, List.nil_append, List.take_zero, true_implies, true_and, and_true, Nd.cells, hk, bne_self_eq_false]
      exact ⟨by omega, t' + 1, by omega, rfl⟩
    · have en : numV L x = .tup [.int .i64 0, .bool false] := by rw [numV, numI, if_neg fun h => hk h.2]
      rw [en]
      generalize nd L x = d at *
      simp -implicitDefEqProofs (disch := omega) only [go_sem, need_of, ↓reduceIte, reduceCtorEq, Nat.reduceAdd, Nat.reduceEqDiff, Nat.reduceLeDiff, Nat.reduceLT, Nat.zero_add, Nat.add_zero, Bool.not_true, Bool.not_false, Nat.le_refl, kG_len0, kx_at, kx_set, kx_take, List.length_append, List.length_cons, List.length_nil, List.append_assoc, List.cons_append, List.nil_append, List.take_zero, false_implies, true_implies, true_and, and_true, not_false_eq_true, Nd.cells, hk]
      exact ⟨by omega, t' + 1, by omega, rfl⟩
  · have hx' : ¬ (0 ≤ x ∧ x < L.length) := hx
    have en : numV L x = .tup [.int .i64 0, .bool false] := by rw [numV, numI, if_neg fun h => hx h.1]
    rw [en, if_neg hx']
    simp -implicitDefEqProofs (disch := omega) only [go_sem, need_of, ↓reduceIte, reduceCtorEq, Nat.reduceAdd, Nat.reduceEqDiff, Nat.reduceLT, Nat.zero_add, Bool.not_false, Nat.le_refl, kG_len0, kx_at, kx_set, kx_take, List.length_append, List.length_cons, List.length_nil, List.append_assoc, List.cons_append, List.nil_append, List.take_zero, true_and, and_true, Nd.cells, zeroNd]
    exact ⟨by omega, t' + 1, by omega, rfl⟩
theorem k_Bool (hT : TabOk P tab) {base : Nat} {fmt : Int → List UInt8} {v0 v1 v2 v3 v4 t : Nat} {L : List Nd} {ex : List (Option Ob)} {x : Int} (hb : base ≤ 5 + ex.length) :
    C P G base n_norm_Bool [.ptr 1 v0 0, .int .i64 x] ⟨t, kG fmt v0 v1 v2 v3 v4 L ++ ex⟩ fun v σ => v = .bool (booI L x) ∧ ∃ t', t ≤ t' ∧ σ = ⟨t', kG fmt v0 v1 v2 v3 v4 L ++ ex⟩ := by
  refine C_keep (5 + ex.length) hb (C_tab hT t_norm_Bool (by simp [norm_Bool]) (W_run 1000 ?_))
  simp -implicitDefEqProofs (disch := omega) only [go_sem, ↓reduceIte, reduceCtorEq, Nat.reduceEqDiff, Nat.zero_add, norm_Bool, zqs_0, zqs_1, zqs_2, zqs_3, zqs_4]
  refine call hT t_term_Graph_Node (k_Node hT) 1000 fun v σ hv => ?_
  obtain ⟨rfl, t', ht, rfl⟩ := hv
  by_cases hx : inG L x
  · have hx' : 0 ≤ x ∧ x < L.length := hx
    have e : L.getD x.toNat zeroNd = nd L x := rfl
    rw [if_pos hx', e]
    have en : booI L x = decide (((nd L x).kind = 4 ∧ ((nd L x).op = 14 ∨ (nd L x).op = 15 ∨ (nd L x).op = 16)) ∨ ((nd L x).kind = 1 ∧ ((nd L x).n = 0 ∨ (nd L x).n = 1))) := by simp [booI, hx]
    rw [en]
    generalize nd L x = d at *
    by_cases hk : d.kind = 4
    · have h1 : ¬ d.kind = 1 := by omega
      by_cases o14 : d.op = 14
      · simp -implicitDefEqProofs (disch := omega) only [go_sem, need_of, ↓reduceIte, reduceCtorEq, Nat.reduceAdd, Nat.reduceEqDiff, Nat.reduceLeDiff, Nat.reduceLT, Int.reduceEq, Nat.zero_add, Nat.add_zero, decide_true, Bool.not_true, Bool.not_false, Nat.le_refl, beq_self_eq_true, kG_len0, kx_at, kx_set, kx_take, List.length_append, List.length_cons, List.length_nil, List.append_assoc, List.cons_append, List.nil_append, List.take_zero, true_implies, true_and, and_true, Nd.cells, hk, o14]
        exact ⟨by omega, t' + 1, by omega, rfl⟩
      by_cases o15 : d.op = 15
      · simp -implicitDefEqProofs (disch := omega) only [go_sem, need_of, ↓reduceIte, reduceCtorEq, Nat.reduceAdd, Nat.reduceEqDiff, Nat.reduceLeDiff, Nat.reduceLT, Int.reduceEq, Nat.zero_add, Nat.add_zero, decide_true, Bool.not_true, Bool.not_false, Nat.le_refl, beq_self_eq_true, kG_len0, kx_at, kx_set, kx_take, List.length_append, List.length_cons, List.length_nil, List.append_assoc, List.cons_append, List.nil_append, List.take_zero, false_implies, true_implies, true_and, and_true, not_false_eq_true, Nd.cells, hk, o15]
        exact ⟨by omega, t' + 1, by omega, rfl⟩
      by_cases o16 : d.op = 16
      · simp -implicitDefEqProofs (disch := omega) only [go_sem, need_of, ↓reduceIte, reduceCtorEq, Nat.reduceAdd, Nat.reduceEqDiff, Nat.reduceLeDiff, Nat.reduceLT, Int.reduceEq, Nat.zero_add, Nat.add_zero, decide_true, Bool.not_true, Bool.not_false, Nat.le_refl, beq_self_eq_true, kG_len0, kx_at, kx_set, kx_take, List.length_append, List.length_cons, List.length_nil, List.append_assoc, List.cons_append, List.nil_append, List.take_zero, false_implies, true_implies, true_and, and_true, not_false_eq_true, Nd.cells, hk, o16]
        exact ⟨by omega, t' + 1, by omega, rfl⟩
      · simp -implicitDefEqProofs (disch := omega) only [go_sem, need_of, ↓reduceIte, reduceCtorEq, Nat.reduceAdd, Nat.reduceEqDiff, Nat.reduceLeDiff, Nat.reduceLT, Int.reduceEq, Nat.zero_add, Nat.add_zero, decide_false, Bool.not_true, Bool.not_false, Nat.le_refl, beq_self_eq_true, kG_len0, kx_at, kx_set, kx_take, List.length_append, List.length_cons, List.length_nil, List.append_assoc, List.cons_append, List.nil_append, List.take_succ_cons, List.take_zero, false_implies, true_implies, true_and, and_true, not_false_eq_true, Nd.cells, hk, o14, o15, o16]
        exact ⟨by omega, t' + 1, by omega, rfl⟩
    · by_cases h1 : d.kind = 1
      · have hi := c_nis (P := P) (G := G) hT [0, 1] (by simp) true d.n
        simp -implicitDefEqProofs (disch := omega) only [go_sem, need_of, ↓reduceIte, reduceCtorEq, Nat.reduceAdd, Nat.reduceEqDiff, Nat.reduceLeDiff, Nat.reduceLT, Int.reduceEq, Nat.zero_add, Nat.add_zero, Bool.not_true, Bool.not_false, Nat.le_refl, beq_self_eq_true, kG_len0, kx_at, kx_set, kx_take, List.length_append, List.length_cons, List.length_nil, List.append_assoc, List.cons_append, List.nil_append, List.take_succ_cons, List.take_zero, false_implies, true_implies, true_and, and_true, not_false_eq_true, Nd.cells, h1]
        refine callPS hT t_norm_is hi rfl 1000 ?_
        simp -implicitDefEqProofs (disch := omega) only [go_sem, ↓reduceIte, reduceCtorEq, Nat.reduceAdd, Nat.reduceEqDiff, Nat.zero_add, kG_len0, kx_take, List.length_append, List.length_cons, List.length_nil, and_true]
        exact ⟨by omega, by simp, t' + 1, by omega, rfl⟩
      · simp -implicitDefEqProofs (disch := omega) only [go_sem, need_of, ↓reduceIte, reduceCtorEq, Nat.reduceAdd, Nat.reduceEqDiff, Nat.reduceLeDiff, Nat.reduceLT, Nat.zero_add, Nat.add_zero, decide_false, Bool.not_true, Bool.not_false, Nat.le_refl, kG_len0, kx_at, kx_set, kx_take, List.length_append, List.length_cons, List.length_nil, List.append_assoc, List.cons_append, List.nil_append, List.take_succ_cons, List.take_zero, false_implies, true_implies, true_and, and_true, not_false_eq_true, Nd.cells, hk, h1]
        exact ⟨by omega, t' + 1, by omega, rfl⟩
  · have hx' : ¬ (0 ≤ x ∧ x < L.length) := hx
    have en : booI L x = false := by simp [booI, hx]
    rw [en, if_neg hx']
    simp -implicitDefEqProofs (disch := omega) only [go_sem, need_of, ↓reduceIte, reduceCtorEq, Nat.reduceAdd, Nat.reduceEqDiff, Nat.reduceLT, Nat.zero_add, Bool.not_false, Nat.le_refl, kG_len0, kx_at, kx_set, kx_take, List.length_append, List.length_cons, List.length_nil, List.append_assoc, List.cons_append, List.nil_append, List.take_zero, true_and, and_true, Nd.cells, zeroNd]
    exact ⟨by omega, t' + 1, by omega, rfl⟩
def ofV3 (o : Option (Int × Int)) : V := match o with | some (u, v) => .tup [.int .i64 u, .int .i64 v, .bool true] | none => .tup [.int .i64 0, .int .i64 0, .bool false]
theorem k_of (hT : TabOk P tab) {base : Nat} {fmt : Int → List UInt8} {v0 v1 v2 v3 v4 t : Nat} {L : List Nd} {ex : List (Option Ob)} {x op : Int} (hb : base ≤ 5 + ex.length) :
    C P G base n_norm_maker_of [mk v0, .int .i64 x, .int .u8 op] ⟨t, kG fmt v0 v1 v2 v3 v4 L ++ ex⟩ fun v σ => v = ofV3 (ofI L x op) ∧ ∃ t', t ≤ t' ∧ σ = ⟨t', kG fmt v0 v1 v2 v3 v4 L ++ ex⟩ := by
  refine C_keep (5 + ex.length) hb (C_tab hT t_norm_maker_of (by simp [norm_maker_of]) (W_run 1000 ?_))
  simp -implicitDefEqProofs (disch := omega) only [go_sem, ↓reduceIte, reduceCtorEq, Nat.reduceAdd, Nat.reduceEqDiff, Nat.zero_add, Nat.add_zero, Nat.le_refl, norm_maker_of, zq2t_0, zq2t_1, zq2t_2, zq2t_3, zq2t_4, kG_len0, kx_at, List.length_append, List.length_cons, List.length_nil, List.append_assoc, true_implies, and_true]
  refine call hT t_term_Graph_Node (k_Node hT) 1000 fun v σ hv => ?_
  obtain ⟨rfl, t', ht, rfl⟩ := hv
  by_cases hx : inG L x
  · have hx' : 0 ≤ x ∧ x < L.length := hx
    have e : L.getD x.toNat zeroNd = nd L x := rfl
    rw [if_pos hx', e]
    by_cases hk : (nd L x).kind = 4
    · by_cases ho : (nd L x).op = op
      · have en : ofV3 (ofI L x op) = .tup [.int .i64 (nd L x).x, .int .i64 (nd L x).y, .bool true] := by rw [ofI, if_pos ⟨hx, hk, ho⟩]; rfl
        rw [en]
        generalize nd L x = d at *
        simp -implicitDefEqProofs (disch := omega) only [go_sem, need_of, ↓reduceIte, reduceCtorEq, Nat.reduceAdd, Nat.reduceEqDiff, Nat.reduceLeDiff, Nat.reduceLT, Nat.zero_add, Nat.add_zero, Bool.not_false, Nat.le_refl, bne_self_eq_false, kG_len0, kx_at1, kx_set1, kx_take, List.length_append, List.length_cons, List.length_nil, List.append_assoc, List.cons_append, List.nil_append, List.take_zero, true_implies, true_and, and_true, Nd.cells, hk, ho, bne_self_eq_false]
        exact ⟨by omega, t' + 1, by omega, rfl⟩
      · have en : ofV3 (ofI L x op) = .tup [.int .i64 0, .int .i64 0, .bool false] := by rw [ofI, if_neg fun h => ho h.2.2]; rfl
        rw [en]
        generalize nd L x = d at *
        simp -implicitDefEqProofs (disch := omega) only [go_sem, need_of, ↓reduceIte, reduceCtorEq, Nat.reduceAdd, Nat.reduceEqDiff, Nat.reduceLeDiff, Nat.reduceLT, Nat.zero_add, Nat.add_zero, Bool.not_false, Nat.le_refl, bne_self_eq_false, kG_len0, kx_at1, kx_set1, kx_take, List.length_append, List.length_cons, List.length_nil, List.append_assoc, List.cons_append, List.nil_append, List.take_zero, false_implies, true_implies, true_and, and_true, not_false_eq_true, Nd.cells, hk, ho, bne_self_eq_false]
        exact ⟨by omega, t' + 1, by omega, rfl⟩
    · have en : ofV3 (ofI L x op) = .tup [.int .i64 0, .int .i64 0, .bool false] := by rw [ofI, if_neg fun h => hk h.2.1]; rfl
      rw [en]
      generalize nd L x = d at *
      simp -implicitDefEqProofs (disch := omega) only [go_sem, need_of, ↓reduceIte, reduceCtorEq, Nat.reduceAdd, Nat.reduceEqDiff, Nat.reduceLeDiff, Nat.reduceLT, Nat.zero_add, Nat.add_zero, Bool.not_false, Nat.le_refl, kG_len0, kx_at1, kx_set1, kx_take, List.length_append, List.length_cons, List.length_nil, List.append_assoc, List.cons_append, List.nil_append, List.take_zero, false_implies, true_implies, true_and, and_true, not_false_eq_true, Nd.cells, hk]
      exact ⟨by omega, t' + 1, by omega, rfl⟩
  · have hx' : ¬ (0 ≤ x ∧ x < L.length) := hx
    have en : ofV3 (ofI L x op) = .tup [.int .i64 0, .int .i64 0, .bool false] := by rw [ofI, if_neg fun h => hx h.1]; rfl
    rw [en, if_neg hx']
    simp -implicitDefEqProofs (disch := omega) only [go_sem, need_of, ↓reduceIte, reduceCtorEq, Nat.reduceAdd, Nat.reduceEqDiff, Nat.reduceLeDiff, Nat.reduceLT, Int.reduceEq, Nat.zero_add, Nat.add_zero, Bool.not_false, Nat.le_refl, kG_len0, kx_at1, kx_set1, kx_take, List.length_append, List.length_cons, List.length_nil, List.append_assoc, List.cons_append, List.nil_append, List.take_zero, false_implies, true_implies, true_and, and_true, not_false_eq_true, Nd.cells, zeroNd]
    exact ⟨by omega, t' + 1, by omega, rfl⟩
def tailV (L : List Nd) (x op : Int) : V → Prop := fun v => (∃ y d, tailI L x op = some (y, d) ∧ v = .tup [.int .i64 y, .int .i64 d, .bool true]) ∨ (tailI L x op = none ∧ ∃ y d, v = .tup [.int .i64 y, .int .i64 d, .bool false])
theorem k_tail (hT : TabOk P tab) {base : Nat} {fmt : Int → List UInt8} {v0 v1 v2 v3 v4 t : Nat} {L : List Nd} {ex : List (Option Ob)} {x op : Int} (hb : base ≤ 5 + ex.length) :
    C P G base n_norm_maker_tail [mk v0, .int .i64 x, .int .u8 op] ⟨t, kG fmt v0 v1 v2 v3 v4 L ++ ex⟩ fun v σ => tailV L x op v ∧ ∃ t', t ≤ t' ∧ σ = ⟨t', kG fmt v0 v1 v2 v3 v4 L ++ ex⟩ := by
  refine C_keep (5 + ex.length) hb (C_tab hT t_norm_maker_tail (by simp [norm_maker_tail]) (W_run 1000 ?_))
  simp -implicitDefEqProofs (disch := omega) only [go_sem, ↓reduceIte, reduceCtorEq, Nat.reduceAdd, Nat.reduceEqDiff, Nat.zero_add, Nat.le_refl, norm_maker_tail, zq2h_0, zq2h_1, zq2h_2, zq2h_3, zq2h_4, zq2h_5, kG_len0, kx_at, List.length_append, List.length_cons, List.length_nil, List.append_assoc, List.take_succ_cons, List.take_nil, false_implies, and_true]
  refine call hT t_norm_maker_of (k_of hT (by simp; omega)) 1000 fun v σ hv => ?_
  obtain ⟨rfl, t1, ht1, rfl⟩ := hv
  cases ho : ofI L x op with
  | none =>
    have et : tailI L x op = none := by simp [tailI, ho]
    simp -implicitDefEqProofs (disch := omega) only [go_sem, ↓reduceIte, reduceCtorEq, Nat.reduceAdd, Nat.reduceEqDiff, Nat.reduceLT, Nat.zero_add, Bool.not_false, kG_len0, kx_take, List.length_append, List.length_cons, List.length_nil, and_true, ofV3]
    exact ⟨by omega, .inr ⟨et, 0, 0, rfl⟩, t1, by omega, rfl⟩
  | some p =>
    obtain ⟨u, w⟩ := p
    simp -implicitDefEqProofs (disch := omega) only [go_sem, ↓reduceIte, reduceCtorEq, Nat.reduceAdd, Nat.reduceEqDiff, Nat.reduceLT, Nat.zero_add, Nat.add_zero, Bool.not_true, Nat.le_refl, kx_at, List.length_cons, List.length_nil, true_implies, and_true, ofV3]
    refine call hT t_norm_Number (k_Number hT (by simp; omega)) 1000 fun v σ hv => ?_
    obtain ⟨rfl, t2, ht2, rfl⟩ := hv
    cases hn : numI L w with
    | none =>
      have et : tailI L x op = none := by simp [tailI, ho, hn]
      have ev : numV L w = .tup [.int .i64 0, .bool false] := by rw [numV, hn]
      rw [ev]
      simp -implicitDefEqProofs (disch := omega) only [go_sem, ↓reduceIte, reduceCtorEq, Nat.reduceAdd, Nat.reduceEqDiff, Nat.reduceLT, Nat.zero_add, kG_len0, kx_take, List.length_append, List.length_cons, List.length_nil, and_true]
      exact ⟨by omega, .inr ⟨et, u, 0, rfl⟩, t2, by omega, rfl⟩
    | some c =>
      have et : tailI L x op = some (u, c) := by simp [tailI, ho, hn]
      have ev : numV L w = .tup [.int .i64 c, .bool true] := by rw [numV, hn]
      rw [ev]
      simp -implicitDefEqProofs (disch := omega) only [go_sem, ↓reduceIte, reduceCtorEq, Nat.reduceAdd, Nat.reduceEqDiff, Nat.reduceLT, Nat.zero_add, kG_len0, kx_take, List.length_append, List.length_cons, List.length_nil, and_true]
      exact ⟨by omega, .inl ⟨u, c, et, rfl⟩, t2, by omega, rfl⟩
theorem k_same (hT : TabOk P tab) (F : Fmt P G) {v0 v1 v2 v3 v4 t : Nat} {L : List Nd} {ex : List (Option Ob)} {op x : Int} (hL : L.length ≤ 1000000) :
    C P G 0 n_norm_maker_same [mk v0, .int .u8 op, .int .i64 x] ⟨t, kG F.fmt v0 v1 v2 v3 v4 L ++ ex⟩ (PostN F.fmt (sameR L op x) v0 v1 ex t) := by
  refine C_keep (5 + ex.length) (Nat.zero_le _) (C_tab hT t_norm_maker_same (by simp [norm_maker_same]) (W_run 1000 ?_))
  have i0 : i64 0 := by unfold i64; omega
  have i1 : i64 1 := by unfold i64; omega
  by_cases h1 : op = 2 ∨ op = 10 ∨ op = 14 ∨ op = 15
  · have e : sameR L op x = numN L 0 := by rw [sameR, if_pos h1]
    rw [e]
    rcases h1 with rfl | rfl | rfl | rfl <;> (
      simp -implicitDefEqProofs (disch := omega) only [go_sem, ↓reduceIte, reduceCtorEq, Nat.reduceAdd, Nat.reduceEqDiff, Int.reduceEq, Nat.zero_add, Nat.le_refl, beq_self_eq_true, norm_maker_same, zq1m_0, zq1m_1, zq1m_2, zq1m_3, zq1m_4, zq1m_5, zq1m_6, zq1m_7, zq1m_8, zq1m_9, zq1m_10, zq1m_11, zq1m_12, kG_len0, kx_at, kx_take, List.length_append, List.length_cons, List.length_nil, List.append_assoc, List.take_succ_cons, List.take_nil, false_implies, true_implies, true_and, and_true, not_false_eq_true]
      refine call hT t_norm_maker_num (k_num hT F i0 hL) 1000 fun v σ hv => ?_
      obtain ⟨rfl, t', v2', v3', v4', ht, rfl⟩ := hv
      simp -implicitDefEqProofs (disch := omega) only [go_sem, ↓reduceIte, reduceCtorEq, Nat.reduceEqDiff, Nat.zero_add, kG_len0, kx_take, List.length_append, List.length_cons, List.length_nil]
      first | exact ⟨by omega, rfl, t', v2', v3', v4', by omega, rfl⟩ | exact ⟨by omega, rfl, t', v2', v3', v4', by omega, rfl, rfl⟩ | exact ⟨by omega, t', v2', v3', v4', by omega, rfl⟩ | exact ⟨by omega, t', v2', v3', v4', by omega, rfl, rfl⟩)
  · have n1 : ¬ op = 2 := by omega
    have n2 : ¬ op = 10 := by omega
    have n3 : ¬ op = 14 := by omega
    have n4 : ¬ op = 15 := by omega
    by_cases h2 : op = 16
    · have e : sameR L op x = numN L 1 := by rw [sameR, if_neg h1, if_pos h2]
      rw [e]
      simp -implicitDefEqProofs (disch := omega) only [go_sem, ↓reduceIte, reduceCtorEq, Nat.reduceAdd, Nat.reduceEqDiff, Int.reduceEq, Nat.zero_add, Nat.le_refl, beq_self_eq_true, norm_maker_same, zq1m_0, zq1m_1, zq1m_2, zq1m_3, zq1m_4, zq1m_5, zq1m_6, zq1m_7, zq1m_8, zq1m_9, zq1m_10, zq1m_11, zq1m_12, kG_len0, kx_at, List.length_append, List.length_cons, List.length_nil, List.append_assoc, List.take_succ_cons, List.take_nil, false_implies, true_implies, true_and, and_true, not_false_eq_true, h2]
      refine call hT t_norm_maker_num (k_num hT F i1 hL) 1000 fun v σ hv => ?_
      obtain ⟨rfl, t', v2', v3', v4', ht, rfl⟩ := hv
      simp -implicitDefEqProofs (disch := omega) only [go_sem, ↓reduceIte, reduceCtorEq, Nat.reduceEqDiff, Nat.zero_add, kG_len0, kx_take, List.length_append, List.length_cons, List.length_nil]
      first | exact ⟨by omega, rfl, t', v2', v3', v4', by omega, rfl⟩ | exact ⟨by omega, rfl, t', v2', v3', v4', by omega, rfl, rfl⟩ | exact ⟨by omega, t', v2', v3', v4', by omega, rfl⟩ | exact ⟨by omega, t', v2', v3', v4', by omega, rfl, rfl⟩
    · by_cases h3 : op = 8 ∨ op = 9
      · have e : sameR L op x = (x, L) := by rw [sameR, if_neg h1, if_neg h2, if_pos h3]
        rw [e]
        rcases h3 with rfl | rfl <;> (
          simp -implicitDefEqProofs (disch := omega) only [go_sem, ↓reduceIte, reduceCtorEq, Nat.reduceAdd, Nat.reduceEqDiff, Int.reduceEq, Nat.zero_add, Nat.le_refl, beq_self_eq_true, norm_maker_same, zq1m_0, zq1m_1, zq1m_2, zq1m_3, zq1m_4, zq1m_5, zq1m_6, zq1m_7, zq1m_8, zq1m_9, zq1m_10, zq1m_11, zq1m_12, kG_len0, kx_at, kx_take, List.length_append, List.length_cons, List.length_nil, List.append_assoc, List.take_succ_cons, List.take_nil, false_implies, true_implies, true_and, and_true, not_false_eq_true]
          first | exact ⟨by omega, rfl, t + 1, v2, v3, v4, by omega, rfl⟩ | exact ⟨by omega, rfl, t + 1, v2, v3, v4, by omega, rfl, rfl⟩ | exact ⟨by omega, t + 1, v2, v3, v4, by omega, rfl⟩ | exact ⟨by omega, t + 1, v2, v3, v4, by omega, rfl, rfl⟩)
      · have n5 : ¬ op = 8 := by omega
        have n6 : ¬ op = 9 := by omega
        have e : sameR L op x = (-1, L) := by rw [sameR, if_neg h1, if_neg h2, if_neg h3]
        rw [e]
        simp -implicitDefEqProofs (disch := omega) only [go_sem, ↓reduceIte, reduceCtorEq, Nat.reduceAdd, Nat.reduceEqDiff, Nat.zero_add, Nat.le_refl, norm_maker_same, zq1m_0, zq1m_1, zq1m_2, zq1m_3, zq1m_4, zq1m_5, zq1m_6, zq1m_7, zq1m_8, zq1m_9, zq1m_10, zq1m_11, zq1m_12, kG_len0, kx_at, kx_take, List.length_append, List.length_cons, List.length_nil, List.append_assoc, List.take_succ_cons, List.take_nil, false_implies, true_implies, true_and, and_true, not_false_eq_true, n1, n2, n3, n4, h2, n5, n6]
        first | exact ⟨by omega, rfl, t + 1, v2, v3, v4, by omega, rfl⟩ | exact ⟨by omega, rfl, t + 1, v2, v3, v4, by omega, rfl, rfl⟩ | exact ⟨by omega, t + 1, v2, v3, v4, by omega, rfl⟩ | exact ⟨by omega, t + 1, v2, v3, v4, by omega, rfl, rfl⟩
end Go.Proofs.YtpdeoalocejodaaGreatDoor
/- Terms made plain: facts of operations. -/
namespace Go.Proofs.YtpdeoalocejodaaGreatDoor
open Go Go.Am
set_option maxRecDepth 100000
set_option maxHeartbeats 1000000
variable {P : Program} {G : Nat → Option V}
theorem ops16 {op : Int} (h : 1 ≤ op ∧ op ≤ 16) : op = 1 ∨ op = 2 ∨ op = 3 ∨ op = 4 ∨ op = 5 ∨ op = 6 ∨ op = 7 ∨ op = 8 ∨ op = 9 ∨ op = 10 ∨ op = 11 ∨ op = 12 ∨ op = 13 ∨ op = 14 ∨ op = 15 ∨ op = 16 := by omega
theorem w_of (hT : TabOk P tab) {op : Int} (h : 1 ≤ op ∧ op ≤ 16) : ∃ f, Pure P G n_word_of [.int .u8 op] fun v => v = fact f (swapsW op) (groupsW op) ((keepsW op).getD 0) (keepsW op).isSome := by
  rcases ops16 h with rfl | rfl | rfl | rfl | rfl | rfl | rfl | rfl | rfl | rfl | rfl | rfl | rfl | rfl | rfl | rfl
  · exact ⟨_, of_1 hT⟩
  · exact ⟨_, of_2 hT⟩
  · exact ⟨_, of_3 hT⟩
  · exact ⟨_, of_4 hT⟩
  · exact ⟨_, of_5 hT⟩
  · exact ⟨_, of_6 hT⟩
  · exact ⟨_, of_7 hT⟩
  · exact ⟨_, of_8 hT⟩
  · exact ⟨_, of_9 hT⟩
  · exact ⟨_, of_10 hT⟩
  · exact ⟨_, of_11 hT⟩
  · exact ⟨_, of_12 hT⟩
  · exact ⟨_, of_13 hT⟩
  · exact ⟨_, of_14 hT⟩
  · exact ⟨_, of_15 hT⟩
  · exact ⟨_, of_16 hT⟩
theorem c_Swaps (hT : TabOk P tab) {op : Int} (h : 1 ≤ op ∧ op ≤ 16) : Pure P G n_word_Swaps [.int .u8 op] fun v => v = .bool (swapsW op) := by
  intro t
  obtain ⟨f, hf⟩ := w_of (P := P) (G := G) hT h
  refine C_keep 0 (Nat.zero_le _) (C_tab hT t_word_Swaps (by simp [word_Swaps]) (W_run 1000 ?_))
  simp -implicitDefEqProofs (disch := omega) only [go_sem, ↓reduceIte, reduceCtorEq, Nat.reduceEqDiff, word_Swaps, zqc_0, zqc_1]
  refine callPS hT t_word_of hf rfl 1000 ?_
  simp -implicitDefEqProofs (disch := omega) only [go_sem, ↓reduceIte, reduceCtorEq, Nat.reduceAdd, Nat.reduceEqDiff, Nat.reduceLeDiff, Nat.zero_add, Nat.le_refl, fact, List.length_nil, List.length_cons, true_implies, and_true]
theorem c_Groups (hT : TabOk P tab) {op : Int} (h : 1 ≤ op ∧ op ≤ 16) : Pure P G n_word_Groups [.int .u8 op] fun v => v = .bool (groupsW op) := by
  intro t
  obtain ⟨f, hf⟩ := w_of (P := P) (G := G) hT h
  refine C_keep 0 (Nat.zero_le _) (C_tab hT t_word_Groups (by simp [word_Groups]) (W_run 1000 ?_))
  simp -implicitDefEqProofs (disch := omega) only [go_sem, ↓reduceIte, reduceCtorEq, Nat.reduceEqDiff, word_Groups, zqd_0, zqd_1]
  refine callPS hT t_word_of hf rfl 1000 ?_
  simp -implicitDefEqProofs (disch := omega) only [go_sem, ↓reduceIte, reduceCtorEq, Nat.reduceAdd, Nat.reduceEqDiff, Nat.reduceLeDiff, Nat.zero_add, Nat.le_refl, fact, List.length_nil, List.length_cons, true_implies, and_true]
theorem c_Keeps (hT : TabOk P tab) {op : Int} (h : 1 ≤ op ∧ op ≤ 16) : Pure P G n_word_Keeps [.int .u8 op] fun v => v = .tup [.int .i64 ((keepsW op).getD 0), .bool (keepsW op).isSome] := by
  intro t
  obtain ⟨f, hf⟩ := w_of (P := P) (G := G) hT h
  refine C_keep 0 (Nat.zero_le _) (C_tab hT t_word_Keeps (by simp [word_Keeps]) (W_run 1000 ?_))
  simp -implicitDefEqProofs (disch := omega) only [go_sem, ↓reduceIte, reduceCtorEq, Nat.reduceEqDiff, word_Keeps, zqe_0, zqe_1]
  refine callPS hT t_word_of hf rfl 1000 ?_
  simp -implicitDefEqProofs (disch := omega) only [go_sem, ↓reduceIte, reduceCtorEq, Nat.reduceAdd, Nat.reduceEqDiff, Nat.reduceLeDiff, Nat.zero_add, fact, List.length_nil, List.length_cons, true_implies, and_true]
  refine callPS hT t_word_of hf rfl 1000 ?_
  simp -implicitDefEqProofs (disch := omega) only [go_sem, ↓reduceIte, reduceCtorEq, Nat.reduceAdd, Nat.reduceEqDiff, Nat.zero_add, Nat.le_refl, fact, List.length_nil, List.length_cons, true_implies, and_true]
structure Bits (P : Program) (G : Nat → Option V) : Prop where
  power : ∀ c, i64 c → Pure P G n_word_Power [.int .i64 c] fun v => v = match powW c with | some k => .tup [.int .i64 (k : Nat), .bool true] | none => .tup [.int .i64 0, .bool false]
end Go.Proofs.YtpdeoalocejodaaGreatDoor
/- Terms made plain: the rules. -/
namespace Go.Proofs.YtpdeoalocejodaaGreatDoor
open Go Go.Am
set_option maxRecDepth 100000
set_option maxHeartbeats 1000000
variable {P : Program} {G : Nat → Option V}
def BinC (P : Program) (G : Nat → Option V) (fmt : Int → List UInt8) (bin : BinT) : Prop := ∀ (L : List Nd) (op x y : Int) (r : GR) (v0 v1 v2 v3 v4 t : Nat) (ex : List (Option Ob)), okN L → inG L x → inG L y → (1 ≤ op ∧ op ≤ 16) → r.2.length ≤ 1000000 → bin L op x y = some r →
  C P G 0 n_norm_maker_bin [mk v0, .int .u8 op, .int .i64 x, .int .i64 y] ⟨t, kG fmt v0 v1 v2 v3 v4 L ++ ex⟩ (PostN fmt r v0 v1 ex t)
theorem pre_len {L L' : List Nd} (h : L <+: L') : L.length ≤ L'.length := h.length_le
theorem withN_parts {bin : BinT} (hK : KeepB [] [] bin) {L : List Nd} (hok : okN L) {op x n : Int} (hx : inG L x) (ho : 1 ≤ op ∧ op ≤ 16) (hn : i64 n) {r : GR} (h : withN bin L op x n = some r) :
    okN (numN L n).2 ∧ inG (numN L n).2 x ∧ inG (numN L n).2 (numN L n).1 ∧ (numN L n).2.length ≤ r.2.length ∧ L.length ≤ r.2.length ∧ okN r.2 ∧ L <+: r.2 := by
  obtain ⟨h1, h2⟩ := num_made (S := []) (C := []) hok hn
  obtain ⟨h3, h4⟩ := h1.val h2
  obtain ⟨g1, g2⟩ := nd_ext h1.pre hx
  obtain ⟨k1, k2⟩ := hK _ _ _ _ _ h1.ok g1 h3 ho h
  have l1 := pre_len k1.pre
  have l2 := pre_len h1.pre
  exact ⟨h1.ok, g1, h3, l1, by omega, k1.ok, h1.pre.trans k1.pre⟩
theorem wop {op : Int} (ho : 1 ≤ op ∧ op ≤ 16) : IntKind.i64.wrap op = op := wrap_i64 (by omega) (by omega)
theorem k_fixed (hT : TabOk P tab) (F : Fmt P G) {v0 v1 v2 v3 v4 t : Nat} {L : List Nd} {ex : List (Option Ob)} {op x c : Int} (ho : 1 ≤ op ∧ op ≤ 16) (hL : L.length ≤ 1000000) :
    C P G 0 n_norm_maker_fixed [mk v0, .int .u8 op, .int .i64 x, .int .i64 c] ⟨t, kG F.fmt v0 v1 v2 v3 v4 L ++ ex⟩ (PostN F.fmt (fixedR L op x c) v0 v1 ex t) := by
  refine C_keep (5 + ex.length) (Nat.zero_le _) (C_tab hT t_norm_maker_fixed (by simp [norm_maker_fixed]) (W_run 1000 ?_))
  have i0 : i64 0 := by unfold i64; omega
  have im : i64 (-1) := by unfold i64; omega
  have hkp := c_Keeps (P := P) (G := G) hT ho
  have hi1 := c_nis (P := P) (G := G) hT [3, 8, 15] (by simp) true op
  have hi2 := c_nis (P := P) (G := G) hT [5, 7] (by simp) true op
  have hw := wop ho
  simp -implicitDefEqProofs (disch := omega) only [go_sem, ↓reduceIte, reduceCtorEq, Nat.reduceAdd, Nat.reduceEqDiff, Nat.zero_add, norm_maker_fixed, zq2k_0, zq2k_1, zq2k_2, zq2k_3, zq2k_4, zq2k_5, zq2k_6, zq2k_7, zq2k_8, zq2k_9, zq2k_10, kG_len0, List.length_append, List.append_assoc, and_true]
  refine callPS hT t_word_Keeps hkp rfl 1000 ?_
  by_cases h1 : keepsW op = some c
  · have e : fixedR L op x c = (x, L) := by rw [fixedR, if_pos h1]
    rw [e, h1]
    simp -implicitDefEqProofs (disch := omega) only [go_sem, ↓reduceIte, reduceCtorEq, Nat.reduceAdd, Nat.reduceEqDiff, Nat.reduceLT, Nat.zero_add, beq_self_eq_true, Option.isSome_some, Option.getD_some, kG_len0, kx_take, List.length_append, List.length_cons, List.length_nil, Option.getD_some, Option.isSome_some]
    first | exact ⟨by omega, rfl, t + 1, v2, v3, v4, by omega, rfl⟩ | exact ⟨by omega, rfl, t + 1, v2, v3, v4, by omega, rfl, rfl⟩ | exact ⟨by omega, t + 1, v2, v3, v4, by omega, rfl⟩ | exact ⟨by omega, t + 1, v2, v3, v4, by omega, rfl, rfl⟩
  · have hq : (keepsW op).isSome = true → ¬ c = (keepsW op).getD 0 := fun h e => by
      obtain ⟨k, hk⟩ := Option.isSome_iff_exists.1 h
      rw [hk] at e h1
      exact h1 (by rw [e]; rfl)
    generalize (keepsW op).isSome = b at *
    generalize (keepsW op).getD 0 = k at *
    have hstep : (b = false ∧ True) ∨ (b = true ∧ ¬ c = k) := by cases b; exact .inl ⟨rfl, trivial⟩; exact .inr ⟨rfl, hq rfl⟩
    by_cases h2 : (op = 3 ∨ op = 8 ∨ op = 15) ∧ c = 0
    · have e : fixedR L op x c = numN L 0 := by rw [fixedR, if_neg h1, if_pos h2]
      have hd : decide (op ∈ [(3 : Int), 8, 15]) = true := by simpa using h2.1
      have hc0 := h2.2
      rw [hd] at hi1
      rw [e]
      rcases hstep with ⟨rfl, hck⟩ | ⟨rfl, hck⟩ <;> (
        simp -implicitDefEqProofs (disch := omega) only [go_sem, need_of, ↓reduceIte, reduceCtorEq, Nat.reduceAdd, Nat.reduceEqDiff, Nat.reduceLeDiff, Nat.reduceLT, Nat.zero_add, Nat.le_refl, kG_len0, kx_take, List.length_append, List.length_cons, List.length_nil, List.cons_append, List.nil_append, List.take_succ_cons, List.take_zero, false_implies, true_implies, true_and, and_true, not_false_eq_true, hw, hck]
        refine callPS hT t_norm_is hi1 rfl 1000 ?_
        simp -implicitDefEqProofs (disch := omega) only [go_sem, need_of, ↓reduceIte, reduceCtorEq, Nat.reduceAdd, Nat.reduceEqDiff, Nat.zero_add, Nat.le_refl, beq_self_eq_true, kx_at, List.length_cons, List.length_nil, List.take_succ_cons, List.take_nil, false_implies, and_true, hc0]
        refine call hT t_norm_maker_num (k_num hT F i0 hL) 1000 fun v σ hv => ?_
        obtain ⟨rfl, t', v2', v3', v4', ht, rfl⟩ := hv
        simp -implicitDefEqProofs (disch := omega) only [go_sem, ↓reduceIte, reduceCtorEq, Nat.reduceEqDiff, Nat.zero_add, kG_len0, kx_take, List.length_append, List.length_cons, List.length_nil]
        first | exact ⟨by omega, rfl, t', v2', v3', v4', by omega, rfl⟩ | exact ⟨by omega, rfl, t', v2', v3', v4', by omega, rfl, rfl⟩ | exact ⟨by omega, t', v2', v3', v4', by omega, rfl⟩ | exact ⟨by omega, t', v2', v3', v4', by omega, rfl, rfl⟩)
    · have hd1 : (decide (op ∈ [(3 : Int), 8, 15]) = false ∧ True) ∨ (decide (op ∈ [(3 : Int), 8, 15]) = true ∧ ¬ c = 0) := by
        by_cases h : op = 3 ∨ op = 8 ∨ op = 15
        · exact .inr ⟨by simpa using h, fun hc => h2 ⟨h, hc⟩⟩
        · exact .inl ⟨by simpa using h, trivial⟩
      generalize decide (op ∈ [(3 : Int), 8, 15]) = d1 at *
      by_cases h3 : op = 9 ∧ c = -1
      · have e : fixedR L op x c = numN L (-1) := by rw [fixedR, if_neg h1, if_neg h2, if_pos h3]
        rw [e]
        obtain ⟨h9, hcm⟩ := h3
        have hcn : ¬ (-1 : Int) = 0 := by omega
        rcases hstep with ⟨rfl, hck⟩ | ⟨rfl, hck⟩ <;> rcases hd1 with ⟨rfl, hc0⟩ | ⟨rfl, hc0⟩ <;> (
          simp -implicitDefEqProofs (disch := omega) only [go_sem, need_of, ↓reduceIte, reduceCtorEq, Nat.reduceAdd, Nat.reduceEqDiff, Nat.reduceLeDiff, Nat.reduceLT, Nat.zero_add, Nat.le_refl, kG_len0, kx_take, List.length_append, List.length_cons, List.length_nil, List.cons_append, List.nil_append, List.take_succ_cons, List.take_zero, false_implies, true_implies, true_and, and_true, not_false_eq_true, hw, hck]
          refine callPS hT t_norm_is hi1 rfl 1000 ?_
          simp -implicitDefEqProofs (disch := omega) only [go_sem, need_of, ↓reduceIte, reduceCtorEq, Nat.reduceAdd, Nat.reduceEqDiff, Nat.zero_add, Nat.le_refl, beq_self_eq_true, kx_at, List.length_cons, List.length_nil, List.take_succ_cons, List.take_nil, false_implies, true_implies, true_and, and_true, not_false_eq_true, h9, hcm, hcn]
          refine call hT t_norm_maker_num (k_num hT F im hL) 1000 fun v σ hv => ?_
          obtain ⟨rfl, t', v2', v3', v4', ht, rfl⟩ := hv
          simp -implicitDefEqProofs (disch := omega) only [go_sem, ↓reduceIte, reduceCtorEq, Nat.reduceEqDiff, Nat.zero_add, kG_len0, kx_take, List.length_append, List.length_cons, List.length_nil]
          first | exact ⟨by omega, rfl, t', v2', v3', v4', by omega, rfl⟩ | exact ⟨by omega, rfl, t', v2', v3', v4', by omega, rfl, rfl⟩ | exact ⟨by omega, t', v2', v3', v4', by omega, rfl⟩ | exact ⟨by omega, t', v2', v3', v4', by omega, rfl, rfl⟩)
      · have h9 : (¬ op = 9 ∧ True) ∨ (op = 9 ∧ ¬ c = -1) := by
          by_cases h : op = 9
          · exact .inr ⟨h, fun hc => h3 ⟨h, hc⟩⟩
          · exact .inl ⟨h, trivial⟩
        by_cases h4 : (op = 5 ∨ op = 7) ∧ c = 1
        · have e : fixedR L op x c = numN L 0 := by rw [fixedR, if_neg h1, if_neg h2, if_neg h3, if_pos h4]
          have hd : decide (op ∈ [(5 : Int), 7]) = true := by simpa using h4.1
          have hc1 := h4.2
          have ho9 : ¬ op = 9 := by omega
          rw [hd] at hi2
          rw [e]
          rcases hstep with ⟨rfl, hck⟩ | ⟨rfl, hck⟩ <;> rcases hd1 with ⟨rfl, hc0⟩ | ⟨rfl, hc0⟩ <;> (
            simp -implicitDefEqProofs (disch := omega) only [go_sem, need_of, ↓reduceIte, reduceCtorEq, Nat.reduceAdd, Nat.reduceEqDiff, Nat.reduceLeDiff, Nat.reduceLT, Nat.zero_add, Nat.le_refl, kG_len0, kx_take, List.length_append, List.length_cons, List.length_nil, List.cons_append, List.nil_append, List.take_succ_cons, List.take_zero, false_implies, true_implies, true_and, and_true, not_false_eq_true, hw, hck]
            refine callPS hT t_norm_is hi1 rfl 1000 ?_
            simp -implicitDefEqProofs (disch := omega) only [go_sem, need_of, ↓reduceIte, reduceCtorEq, Nat.reduceAdd, Nat.reduceEqDiff, Nat.reduceLeDiff, Nat.zero_add, Nat.le_refl, kx_at, List.length_cons, List.length_nil, List.cons_append, List.nil_append, List.take_succ_cons, List.take_zero, List.take_nil, false_implies, true_implies, true_and, and_true, not_false_eq_true, hc0, ho9, hw]
            refine callPS hT t_norm_is hi2 rfl 1000 ?_
            simp -implicitDefEqProofs (disch := omega) only [go_sem, need_of, ↓reduceIte, reduceCtorEq, Nat.reduceAdd, Nat.reduceEqDiff, Nat.zero_add, Nat.le_refl, beq_self_eq_true, kx_at, List.length_cons, List.length_nil, List.take_succ_cons, List.take_nil, false_implies, and_true, hc1]
            refine call hT t_norm_maker_num (k_num hT F i0 hL) 1000 fun v σ hv => ?_
            obtain ⟨rfl, t', v2', v3', v4', ht, rfl⟩ := hv
            simp -implicitDefEqProofs (disch := omega) only [go_sem, ↓reduceIte, reduceCtorEq, Nat.reduceEqDiff, Nat.zero_add, kG_len0, kx_take, List.length_append, List.length_cons, List.length_nil]
            first | exact ⟨by omega, rfl, t', v2', v3', v4', by omega, rfl⟩ | exact ⟨by omega, rfl, t', v2', v3', v4', by omega, rfl, rfl⟩ | exact ⟨by omega, t', v2', v3', v4', by omega, rfl⟩ | exact ⟨by omega, t', v2', v3', v4', by omega, rfl, rfl⟩)
        · have hd2 : (decide (op ∈ [(5 : Int), 7]) = false ∧ True) ∨ (decide (op ∈ [(5 : Int), 7]) = true ∧ ¬ c = 1) := by
            by_cases h : op = 5 ∨ op = 7
            · exact .inr ⟨by simpa using h, fun hc => h4 ⟨h, hc⟩⟩
            · exact .inl ⟨by simpa using h, trivial⟩
          generalize decide (op ∈ [(5 : Int), 7]) = d2 at *
          have e : fixedR L op x c = (-1, L) := by rw [fixedR, if_neg h1, if_neg h2, if_neg h3, if_neg h4]
          rw [e]
          rcases hstep with ⟨rfl, hck⟩ | ⟨rfl, hck⟩ <;> rcases hd1 with ⟨rfl, hc0⟩ | ⟨rfl, hc0⟩ <;> rcases h9 with ⟨ho9, hcm⟩ | ⟨ho9, hcm⟩ <;> rcases hd2 with ⟨rfl, hc1⟩ | ⟨rfl, hc1⟩ <;> (
            simp -implicitDefEqProofs (disch := omega) only [go_sem, need_of, ↓reduceIte, reduceCtorEq, Nat.reduceAdd, Nat.reduceEqDiff, Nat.reduceLeDiff, Nat.reduceLT, Nat.zero_add, Nat.le_refl, kG_len0, kx_take, List.length_append, List.length_cons, List.length_nil, List.cons_append, List.nil_append, List.take_succ_cons, List.take_zero, false_implies, true_implies, true_and, and_true, not_false_eq_true, hw, hck]
            refine callPS hT t_norm_is hi1 rfl 1000 ?_
            simp -implicitDefEqProofs (disch := omega) only [go_sem, need_of, ↓reduceIte, reduceCtorEq, Nat.reduceAdd, Nat.reduceEqDiff, Nat.reduceLeDiff, Nat.zero_add, Nat.le_refl, beq_self_eq_true, kx_at, List.length_cons, List.length_nil, List.cons_append, List.nil_append, List.take_succ_cons, List.take_zero, List.take_nil, false_implies, true_implies, true_and, and_true, not_false_eq_true, hc0, ho9, hcm, hw]
            first | refine callPS hT t_norm_is hi2 rfl 1000 ?_ | (rw [ho9] at hi2; refine callPS hT t_norm_is hi2 rfl 1000 ?_)
            simp -implicitDefEqProofs (disch := omega) only [go_sem, need_of, ↓reduceIte, reduceCtorEq, Nat.reduceAdd, Nat.reduceEqDiff, Nat.zero_add, Nat.le_refl, kG_len0, kx_at, kx_take, List.length_append, List.length_cons, List.length_nil, List.take_succ_cons, List.take_nil, false_implies, true_implies, true_and, and_true, not_false_eq_true, hc1]
            first | exact ⟨by omega, rfl, t + 1, v2, v3, v4, by omega, rfl⟩ | exact ⟨by omega, rfl, t + 1, v2, v3, v4, by omega, rfl, rfl⟩ | exact ⟨by omega, t + 1, v2, v3, v4, by omega, rfl⟩ | exact ⟨by omega, t + 1, v2, v3, v4, by omega, rfl, rfl⟩)
end Go.Proofs.YtpdeoalocejodaaGreatDoor
/- Terms made plain: the rules that ask again. -/
namespace Go.Proofs.YtpdeoalocejodaaGreatDoor
open Go Go.Am
set_option maxRecDepth 100000
set_option maxHeartbeats 1000000
variable {P : Program} {G : Nat → Option V}
theorem k_moved (hT : TabOk P tab) (F : Fmt P G) (hP : Bits P G) {bin : BinT} (hK : KeepB [] [] bin) (hB : BinC P G F.fmt bin) {v0 v1 v2 v3 v4 t : Nat} {L : List Nd} {ex : List (Option Ob)} {op x c : Int} (hok : okN L) (hx' : inG L x) (ho : 1 ≤ op ∧ op ≤ 16) (hc : i64 c) {r : GR} (hr : r.2.length ≤ 1000000) (h : movedR bin L op x c = some r) :
    C P G 0 n_norm_maker_moved [mk v0, .int .u8 op, .int .i64 x, .int .i64 c] ⟨t, kG F.fmt v0 v1 v2 v3 v4 L ++ ex⟩ (PostN F.fmt r v0 v1 ex t) := by
  refine C_keep (5 + ex.length) (Nat.zero_le _) (C_tab hT t_norm_maker_moved (by simp [norm_maker_moved]) (W_run 1000 ?_))
  have hpw := hP.power c hc
  have i0 : i64 0 := by unfold i64; omega
  have en : IntKind.i64.wrap (0 - c) = IntKind.i64.wrap (-c) := by rw [Int.zero_sub]
  have e63 := and63I c
  have hm64 : i64 (c % 64) := by unfold i64; omega
  have esh : IntKind.i64.wrap (1 * 2 ^ min (c % 64).toNat 64) = IntKind.i64.wrap (2 ^ (c % 64).toNat) := by rw [Int.one_mul, Nat.min_eq_left (by omega)]
  have h640 : 0 ≤ c % 64 := by omega
  simp -implicitDefEqProofs (disch := omega) only [go_sem, ↓reduceIte, reduceCtorEq, Nat.reduceAdd, Nat.reduceEqDiff, Nat.zero_add, norm_maker_moved, zq2l_0, zq2l_1, zq2l_2, zq2l_3, zq2l_4, zq2l_5, zq2l_6, zq2l_7, zq2l_8, zq2l_9, zq2l_10, zq2l_11, zq2l_12, zq2l_13, zq2l_14, kG_len0, List.length_append, List.append_assoc, and_true]
  refine callPS hT t_word_Power hpw (by rfl) 1000 ?_
  unfold movedR at h
  split at h
  · rename_i h1
    subst h1
    cases powW c <;> (
      simp -implicitDefEqProofs (disch := omega) only [go_sem, ↓reduceIte, reduceCtorEq, Nat.reduceAdd, Nat.reduceEqDiff, Nat.reduceLT, Nat.zero_add, Nat.le_refl, beq_self_eq_true, kx_at, List.length_cons, List.length_nil, List.take_succ_cons, List.take_nil, false_implies, and_true, en]
      obtain ⟨p1, p2, p3, p4, p5, _, _⟩ := withN_parts hK hok hx' (by omega) (wrap_rg _) h
      (repeat' (first | with_reducible refine And.intro ?_ ?_ | with_reducible intro _)) <;> (
        refine call hT t_norm_maker_num (k_num hT F (wrap_rg _) (by omega)) 1000 fun v σ hv => ?_
        obtain ⟨rfl, t', v2', v3', v4', ht, rfl⟩ := hv
        simp -implicitDefEqProofs (disch := omega) only [go_sem, ↓reduceIte, reduceCtorEq, Nat.reduceEqDiff, Nat.zero_add, Nat.le_refl, kx_at, List.length_cons, List.length_nil, List.take_succ_cons, List.take_nil, false_implies, and_true]
        (repeat' (first | with_reducible refine And.intro ?_ ?_ | with_reducible intro _)) <;> (
          refine call hT t_norm_maker_bin (hB _ _ _ _ _ _ _ _ _ _ _ _ p1 p2 p3 (by omega) hr h) 1000 fun v σ hv => ?_
          obtain ⟨rfl, t2, w2, w3, w4, ht2, rfl⟩ := hv
          simp -implicitDefEqProofs (disch := omega) only [go_sem, ↓reduceIte, reduceCtorEq, Nat.reduceEqDiff, Nat.zero_add, kG_len0, kx_take, List.length_append, List.length_cons, List.length_nil]
          first | exact ⟨by omega, rfl, t2, w2, w3, w4, by omega, rfl⟩ | exact ⟨by omega, rfl, t2, w2, w3, w4, by omega, rfl, rfl⟩ | exact ⟨by omega, t2, w2, w3, w4, by omega, rfl⟩ | exact ⟨by omega, t2, w2, w3, w4, by omega, rfl, rfl⟩)))
  · rename_i h1
    split at h
    · rename_i h2
      subst h2
      cases powW c <;> (
        simp -implicitDefEqProofs (disch := omega) only [go_sem, ↓reduceIte, reduceCtorEq, Nat.reduceAdd, Nat.reduceEqDiff, Nat.reduceLT, Int.reduceEq, Nat.zero_add, Nat.le_refl, beq_self_eq_true, kx_at, List.length_cons, List.length_nil, List.take_succ_cons, List.take_nil, false_implies, true_implies, true_and, and_true, not_false_eq_true, e63, esh, h640]
        obtain ⟨p1, p2, p3, p4, p5, _, _⟩ := withN_parts hK hok hx' (by omega) (wrap_rg _) h
        (repeat' (first | with_reducible refine And.intro ?_ ?_ | with_reducible intro _)) <;> (
          refine call hT t_norm_maker_num (k_num hT F (wrap_rg _) (by omega)) 1000 fun v σ hv => ?_
          obtain ⟨rfl, t', v2', v3', v4', ht, rfl⟩ := hv
          simp -implicitDefEqProofs (disch := omega) only [go_sem, ↓reduceIte, reduceCtorEq, Nat.reduceEqDiff, Nat.zero_add, Nat.le_refl, kx_at, List.length_cons, List.length_nil, List.take_succ_cons, List.take_nil, false_implies, and_true]
          (repeat' (first | with_reducible refine And.intro ?_ ?_ | with_reducible intro _)) <;> (
            refine call hT t_norm_maker_bin (hB _ _ _ _ _ _ _ _ _ _ _ _ p1 p2 p3 (by omega) hr h) 1000 fun v σ hv => ?_
            obtain ⟨rfl, t2, w2, w3, w4, ht2, rfl⟩ := hv
            simp -implicitDefEqProofs (disch := omega) only [go_sem, ↓reduceIte, reduceCtorEq, Nat.reduceEqDiff, Nat.zero_add, kG_len0, kx_take, List.length_append, List.length_cons, List.length_nil]
            first | exact ⟨by omega, rfl, t2, w2, w3, w4, by omega, rfl⟩ | exact ⟨by omega, rfl, t2, w2, w3, w4, by omega, rfl, rfl⟩ | exact ⟨by omega, t2, w2, w3, w4, by omega, rfl⟩ | exact ⟨by omega, t2, w2, w3, w4, by omega, rfl, rfl⟩)))
    · rename_i h2
      split at h
      · rename_i h3
        obtain ⟨ho12, hcm⟩ := h3
        rcases ho12 with rfl | rfl <;> cases powW c <;> (
          simp -implicitDefEqProofs (disch := omega) only [go_sem, need_of, ↓reduceIte, reduceCtorEq, Nat.reduceAdd, Nat.reduceEqDiff, Nat.reduceLT, Int.reduceEq, Nat.zero_add, Nat.le_refl, beq_self_eq_true, kG_len0, kx_at, kx_take, List.length_append, List.length_cons, List.length_nil, List.take_succ_cons, List.take_nil, false_implies, true_implies, true_and, and_true, not_false_eq_true, e63, hcm]
          obtain ⟨p1, p2, p3, p4, p5, _, _⟩ := withN_parts hK hok hx' (by omega) hm64 h
          (repeat' (first | with_reducible refine And.intro ?_ ?_ | with_reducible intro _)) <;> (
            refine call hT t_norm_maker_num (k_num hT F hm64 (by omega)) 1000 fun v σ hv => ?_
            obtain ⟨rfl, t', v2', v3', v4', ht, rfl⟩ := hv
            simp -implicitDefEqProofs (disch := omega) only [go_sem, ↓reduceIte, reduceCtorEq, Nat.reduceEqDiff, Nat.zero_add, Nat.le_refl, kx_at, List.length_cons, List.length_nil, List.take_succ_cons, List.take_nil, false_implies, and_true]
            (repeat' (first | with_reducible refine And.intro ?_ ?_ | with_reducible intro _)) <;> (
              refine call hT t_norm_maker_bin (hB _ _ _ _ _ _ _ _ _ _ _ _ p1 p2 p3 (by omega) hr h) 1000 fun v σ hv => ?_
              obtain ⟨rfl, t2, w2, w3, w4, ht2, rfl⟩ := hv
              simp -implicitDefEqProofs (disch := omega) only [go_sem, ↓reduceIte, reduceCtorEq, Nat.reduceEqDiff, Nat.zero_add, kG_len0, kx_take, List.length_append, List.length_cons, List.length_nil]
              first | exact ⟨by omega, rfl, t2, w2, w3, w4, by omega, rfl⟩ | exact ⟨by omega, rfl, t2, w2, w3, w4, by omega, rfl, rfl⟩ | exact ⟨by omega, t2, w2, w3, w4, by omega, rfl⟩ | exact ⟨by omega, t2, w2, w3, w4, by omega, rfl, rfl⟩)))
      · rename_i h3
        have hA : (¬ op = 12 ∧ ¬ op = 13) ∨ ((op = 12 ∨ op = 13) ∧ c = c % 64) := by
          by_cases a : op = 12 ∨ op = 13
          · exact .inr ⟨a, Decidable.byContradiction fun hn => h3 ⟨a, hn⟩⟩
          · exact .inl ⟨fun e => a (.inl e), fun e => a (.inr e)⟩
        split at h
        · rename_i h4
          obtain ⟨rfl, h4⟩ := h4
          obtain ⟨k, hk⟩ := Option.isSome_iff_exists.1 h4
          have hk2 := (powW_some hk).1
          have hik : i64 ((k : Nat) : Int) := by unfold i64; omega
          rw [hk] at h ⊢
          simp -implicitDefEqProofs (disch := omega) only [go_sem, need_of, ↓reduceIte, reduceCtorEq, Nat.reduceAdd, Nat.reduceEqDiff, Nat.reduceLT, Int.reduceEq, Nat.zero_add, Nat.le_refl, beq_self_eq_true, kx_at, List.length_cons, List.length_nil, List.take_succ_cons, List.take_nil, false_implies, true_implies, true_and, and_true, not_false_eq_true]
          obtain ⟨p1, p2, p3, p4, p5, _, _⟩ := withN_parts hK hok hx' (by omega) hik h
          (repeat' (first | with_reducible refine And.intro ?_ ?_ | with_reducible intro _)) <;> (
            refine call hT t_norm_maker_num (k_num hT F hik (by omega)) 1000 fun v σ hv => ?_
            obtain ⟨rfl, t', v2', v3', v4', ht, rfl⟩ := hv
            simp -implicitDefEqProofs (disch := omega) only [go_sem, ↓reduceIte, reduceCtorEq, Nat.reduceEqDiff, Nat.zero_add, Nat.le_refl, kx_at, List.length_cons, List.length_nil, List.take_succ_cons, List.take_nil, false_implies, and_true]
            (repeat' (first | with_reducible refine And.intro ?_ ?_ | with_reducible intro _)) <;> (
              refine call hT t_norm_maker_bin (hB _ _ _ _ _ _ _ _ _ _ _ _ p1 p2 p3 (by omega) hr h) 1000 fun v σ hv => ?_
              obtain ⟨rfl, t2, w2, w3, w4, ht2, rfl⟩ := hv
              simp -implicitDefEqProofs (disch := omega) only [go_sem, ↓reduceIte, reduceCtorEq, Nat.reduceEqDiff, Nat.zero_add, kG_len0, kx_take, List.length_append, List.length_cons, List.length_nil]
              first | exact ⟨by omega, rfl, t2, w2, w3, w4, by omega, rfl⟩ | exact ⟨by omega, rfl, t2, w2, w3, w4, by omega, rfl, rfl⟩ | exact ⟨by omega, t2, w2, w3, w4, by omega, rfl⟩ | exact ⟨by omega, t2, w2, w3, w4, by omega, rfl, rfl⟩))
        · rename_i h4
          split at h
          · rename_i h5
            obtain ⟨rfl, h5⟩ := h5
            obtain ⟨k, hk⟩ := Option.isSome_iff_exists.1 h5
            rw [hk]
            simp -implicitDefEqProofs (disch := omega) only [go_sem, need_of, ↓reduceIte, reduceCtorEq, Nat.reduceAdd, Nat.reduceEqDiff, Nat.reduceLT, Int.reduceEq, Nat.zero_add, Nat.le_refl, beq_self_eq_true, kx_at, List.length_cons, List.length_nil, List.take_succ_cons, List.take_nil, false_implies, true_implies, true_and, and_true, not_false_eq_true]
            obtain ⟨p1, p2, p3, p4, p5, _, _⟩ := withN_parts hK hok hx' (by omega) (wrap_rg _) h
            (repeat' (first | with_reducible refine And.intro ?_ ?_ | with_reducible intro _)) <;> (
              refine call hT t_norm_maker_num (k_num hT F (wrap_rg _) (by omega)) 1000 fun v σ hv => ?_
              obtain ⟨rfl, t', v2', v3', v4', ht, rfl⟩ := hv
              simp -implicitDefEqProofs (disch := omega) only [go_sem, ↓reduceIte, reduceCtorEq, Nat.reduceEqDiff, Nat.zero_add, Nat.le_refl, kx_at, List.length_cons, List.length_nil, List.take_succ_cons, List.take_nil, false_implies, and_true]
              (repeat' (first | with_reducible refine And.intro ?_ ?_ | with_reducible intro _)) <;> (
                refine call hT t_norm_maker_bin (hB _ _ _ _ _ _ _ _ _ _ _ _ p1 p2 p3 (by omega) hr h) 1000 fun v σ hv => ?_
                obtain ⟨rfl, t2, w2, w3, w4, ht2, rfl⟩ := hv
                simp -implicitDefEqProofs (disch := omega) only [go_sem, ↓reduceIte, reduceCtorEq, Nat.reduceEqDiff, Nat.zero_add, kG_len0, kx_take, List.length_append, List.length_cons, List.length_nil]
                first | exact ⟨by omega, rfl, t2, w2, w3, w4, by omega, rfl⟩ | exact ⟨by omega, rfl, t2, w2, w3, w4, by omega, rfl, rfl⟩ | exact ⟨by omega, t2, w2, w3, w4, by omega, rfl⟩ | exact ⟨by omega, t2, w2, w3, w4, by omega, rfl, rfl⟩))
          · rename_i h5
            split at h
            · rename_i h6
              obtain ⟨rfl, rfl⟩ := h6
              cases powW 1 <;> (
                simp -implicitDefEqProofs (disch := omega) only [go_sem, need_of, ↓reduceIte, reduceCtorEq, Nat.reduceAdd, Nat.reduceEqDiff, Nat.reduceLT, Int.reduceEq, Nat.zero_add, Nat.le_refl, beq_self_eq_true, kx_at, List.length_cons, List.length_nil, List.take_succ_cons, List.take_nil, false_implies, true_implies, true_and, and_true, not_false_eq_true]
                obtain ⟨p1, p2, p3, p4, p5, _, _⟩ := withN_parts hK hok hx' (by omega) i0 h
                (repeat' (first | with_reducible refine And.intro ?_ ?_ | with_reducible intro _)) <;> (
                  refine call hT t_norm_maker_num (k_num hT F i0 (by omega)) 1000 fun v σ hv => ?_
                  obtain ⟨rfl, t', v2', v3', v4', ht, rfl⟩ := hv
                  simp -implicitDefEqProofs (disch := omega) only [go_sem, ↓reduceIte, reduceCtorEq, Nat.reduceEqDiff, Nat.zero_add, Nat.le_refl, kx_at, List.length_cons, List.length_nil, List.take_succ_cons, List.take_nil, false_implies, and_true]
                  (repeat' (first | with_reducible refine And.intro ?_ ?_ | with_reducible intro _)) <;> (
                    refine call hT t_norm_maker_bin (hB _ _ _ _ _ _ _ _ _ _ _ _ p1 p2 p3 (by omega) hr h) 1000 fun v σ hv => ?_
                    obtain ⟨rfl, t2, w2, w3, w4, ht2, rfl⟩ := hv
                    simp -implicitDefEqProofs (disch := omega) only [go_sem, ↓reduceIte, reduceCtorEq, Nat.reduceEqDiff, Nat.zero_add, kG_len0, kx_take, List.length_append, List.length_cons, List.length_nil]
                    first | exact ⟨by omega, rfl, t2, w2, w3, w4, by omega, rfl⟩ | exact ⟨by omega, rfl, t2, w2, w3, w4, by omega, rfl, rfl⟩ | exact ⟨by omega, t2, w2, w3, w4, by omega, rfl⟩ | exact ⟨by omega, t2, w2, w3, w4, by omega, rfl, rfl⟩)))
            · rename_i h6
              cases h
              rcases hA with ⟨n12, n13⟩ | ⟨a12, hcm⟩
              · by_cases a6 : op = 6
                · subst a6
                  have hpn : powW c = none := by
                    cases hp : powW c with
                    | none => rfl
                    | some k => exact absurd ⟨rfl, by simp [hp]⟩ h4
                  rw [hpn]
                  simp -implicitDefEqProofs (disch := omega) only [go_sem, need_of, ↓reduceIte, reduceCtorEq, Nat.reduceAdd, Nat.reduceEqDiff, Nat.reduceLT, Int.reduceEq, Nat.zero_add, Nat.le_refl, beq_self_eq_true, kG_len0, kx_at, kx_take, List.length_append, List.length_cons, List.length_nil, List.take_succ_cons, List.take_nil, false_implies, true_implies, true_and, and_true, not_false_eq_true]
                  first | exact ⟨by omega, rfl, t + 1, v2, v3, v4, by omega, rfl⟩ | exact ⟨by omega, rfl, t + 1, v2, v3, v4, by omega, rfl, rfl⟩ | exact ⟨by omega, t + 1, v2, v3, v4, by omega, rfl⟩ | exact ⟨by omega, t + 1, v2, v3, v4, by omega, rfl, rfl⟩
                by_cases a7 : op = 7
                · subst a7
                  have hpn : powW c = none := by
                    cases hp : powW c with
                    | none => rfl
                    | some k => exact absurd ⟨rfl, by simp [hp]⟩ h5
                  rw [hpn]
                  simp -implicitDefEqProofs (disch := omega) only [go_sem, need_of, ↓reduceIte, reduceCtorEq, Nat.reduceAdd, Nat.reduceEqDiff, Nat.reduceLT, Int.reduceEq, Nat.zero_add, Nat.le_refl, beq_self_eq_true, kG_len0, kx_at, kx_take, List.length_append, List.length_cons, List.length_nil, List.take_succ_cons, List.take_nil, false_implies, true_implies, true_and, and_true, not_false_eq_true]
                  first | exact ⟨by omega, rfl, t + 1, v2, v3, v4, by omega, rfl⟩ | exact ⟨by omega, rfl, t + 1, v2, v3, v4, by omega, rfl, rfl⟩ | exact ⟨by omega, t + 1, v2, v3, v4, by omega, rfl⟩ | exact ⟨by omega, t + 1, v2, v3, v4, by omega, rfl, rfl⟩
                by_cases a15 : op = 15
                · subst a15
                  have hc1 : ¬ c = 1 := fun e => h6 ⟨rfl, e⟩
                  cases powW c <;> (
                    simp -implicitDefEqProofs (disch := omega) only [go_sem, need_of, ↓reduceIte, reduceCtorEq, Nat.reduceAdd, Nat.reduceEqDiff, Nat.reduceLT, Int.reduceEq, Nat.zero_add, Nat.le_refl, beq_self_eq_true, kG_len0, kx_at, kx_take, List.length_append, List.length_cons, List.length_nil, List.take_succ_cons, List.take_nil, false_implies, true_implies, true_and, and_true, not_false_eq_true, hc1]
                    first | exact ⟨by omega, rfl, t + 1, v2, v3, v4, by omega, rfl⟩ | exact ⟨by omega, rfl, t + 1, v2, v3, v4, by omega, rfl, rfl⟩ | exact ⟨by omega, t + 1, v2, v3, v4, by omega, rfl⟩ | exact ⟨by omega, t + 1, v2, v3, v4, by omega, rfl, rfl⟩)
                · cases powW c <;> (
                    simp -implicitDefEqProofs (disch := omega) only [go_sem, need_of, ↓reduceIte, reduceCtorEq, Nat.reduceAdd, Nat.reduceEqDiff, Nat.reduceLT, Nat.zero_add, Nat.le_refl, kG_len0, kx_at, kx_take, List.length_append, List.length_cons, List.length_nil, List.take_succ_cons, List.take_nil, false_implies, true_implies, true_and, and_true, not_false_eq_true, h1, h2, n12, n13, a6, a7, a15]
                    first | exact ⟨by omega, rfl, t + 1, v2, v3, v4, by omega, rfl⟩ | exact ⟨by omega, rfl, t + 1, v2, v3, v4, by omega, rfl, rfl⟩ | exact ⟨by omega, t + 1, v2, v3, v4, by omega, rfl⟩ | exact ⟨by omega, t + 1, v2, v3, v4, by omega, rfl, rfl⟩)
              · have e63' : andI .i64 c 63 = c := by rw [e63]; exact hcm.symm
                rcases a12 with rfl | rfl <;> cases powW c <;> (
                  simp -implicitDefEqProofs (disch := omega) only [go_sem, need_of, ↓reduceIte, reduceCtorEq, Nat.reduceAdd, Nat.reduceEqDiff, Nat.reduceLT, Int.reduceEq, Nat.zero_add, Nat.le_refl, beq_self_eq_true, bne_self_eq_false, kG_len0, kx_at, kx_take, List.length_append, List.length_cons, List.length_nil, List.take_succ_cons, List.take_nil, false_implies, true_implies, true_and, and_true, not_false_eq_true, e63', bne_self_eq_false]
                  first | exact ⟨by omega, rfl, t + 1, v2, v3, v4, by omega, rfl⟩ | exact ⟨by omega, rfl, t + 1, v2, v3, v4, by omega, rfl, rfl⟩ | exact ⟨by omega, t + 1, v2, v3, v4, by omega, rfl⟩ | exact ⟨by omega, t + 1, v2, v3, v4, by omega, rfl, rfl⟩)
end Go.Proofs.YtpdeoalocejodaaGreatDoor
