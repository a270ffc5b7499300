/- Terms made plain: Bin and Not. -/
import Derived.Test.YtpdeoalocejodaaGreatDoorJ9
import Derived.KernelRfl
/- Terms made plain: Bin and Not. -/
namespace Go.Proofs.YtpdeoalocejodaaGreatDoor
open Go Go.Am
set_option maxRecDepth 100000
set_option maxHeartbeats 2000000
variable {P : Program} {G : Nat → Option V}
theorem kn_nil (hT : TabOk P tab) {op : Int} (h : Pure P G n_word_of [.int .u8 op] fun v => v = fact (.val .nilFunc) false false 0 false) : Pure P G n_word_Known [.int .u8 op] fun v => v = .bool false := by
  intro t
  refine C_keep 0 (Nat.zero_le _) (C_tab hT t_word_Known (by simp [word_Known]) (W_run 1000 ?_))
  simp -implicitDefEqProofs (disch := omega) only [go_sem, ↓reduceIte, reduceCtorEq, Nat.reduceEqDiff, word_Known, zq13_0, zq13_1]
  refine callPS hT t_word_of h rfl 1000 ?_
  simp -implicitDefEqProofs (disch := omega) only [go_sem, ↓reduceIte, reduceCtorEq, Nat.reduceAdd, Nat.reduceEqDiff, Nat.reduceLeDiff, Nat.zero_add, Bool.not_true, Nat.le_refl, fact, List.length_nil, List.length_cons, true_implies, and_true]
theorem kn_fn (hT : TabOk P tab) {op n : Int} {f : Nat} {c1 c2 c3 : Bool} (h : Pure P G n_word_of [.int .u8 op] fun v => v = fact (.fn (.func f) [] []) c1 c2 n c3) : Pure P G n_word_Known [.int .u8 op] fun v => v = .bool true := by
  intro t
  refine C_keep 0 (Nat.zero_le _) (C_tab hT t_word_Known (by simp [word_Known]) (W_run 1000 ?_))
  simp -implicitDefEqProofs (disch := omega) only [go_sem, ↓reduceIte, reduceCtorEq, Nat.reduceEqDiff, word_Known, zq13_0, zq13_1]
  refine callPS hT t_word_of h rfl 1000 ?_
  simp -implicitDefEqProofs (disch := omega) only [go_sem, ↓reduceIte, reduceCtorEq, Nat.reduceAdd, Nat.reduceEqDiff, Nat.reduceLeDiff, Nat.zero_add, Nat.le_refl, fact, List.length_nil, List.length_cons, true_implies, and_true]
theorem c_Known (hT : TabOk P tab) {op : Int} (h0 : 0 ≤ op) (h1 : op ≤ 255) : Pure P G n_word_Known [.int .u8 op] fun v => v = .bool (decide (1 ≤ op ∧ op ≤ 16)) := by
  by_cases hm : 17 ≤ op
  · have e : decide (1 ≤ op ∧ op ≤ 16) = false := by simp; omega
    rw [e]
    exact kn_nil hT (of_more hT hm h1)
  · have : op = 0 ∨ op = 1 ∨ op = 2 ∨ op = 3 ∨ op = 4 ∨ op = 5 ∨ op = 6 ∨ op = 7 ∨ op = 8 ∨ op = 9 ∨ op = 10 ∨ op = 11 ∨ op = 12 ∨ op = 13 ∨ op = 14 ∨ op = 15 ∨ op = 16 := by omega
    rcases this with rfl | rfl | rfl | rfl | rfl | rfl | rfl | rfl | rfl | rfl | rfl | rfl | rfl | rfl | rfl | rfl | rfl
    · exact kn_nil hT (of_0 hT)
    · exact kn_fn hT (of_1 hT)
    · exact kn_fn hT (of_2 hT)
    · exact kn_fn hT (of_3 hT)
    · exact kn_fn hT (of_4 hT)
    · exact kn_fn hT (of_5 hT)
    · exact kn_fn hT (of_6 hT)
    · exact kn_fn hT (of_7 hT)
    · exact kn_fn hT (of_8 hT)
    · exact kn_fn hT (of_9 hT)
    · exact kn_fn hT (of_10 hT)
    · exact kn_fn hT (of_11 hT)
    · exact kn_fn hT (of_12 hT)
    · exact kn_fn hT (of_13 hT)
    · exact kn_fn hT (of_14 hT)
    · exact kn_fn hT (of_15 hT)
    · exact kn_fn hT (of_16 hT)
def binN (f : Nat) (L : List Nd) (op x y : Int) : Option GR := if inG L x ∧ inG L y ∧ (1 ≤ op ∧ op ≤ 16) then binF f L op x y else some (-1, L)
theorem k_Bin (hT : TabOk P tab) (F : Fmt P G) (hP : Bits P G) (f : Nat) {v0 v1 v2 v3 v4 t : Nat} {L : List Nd} {ex : List (Option Ob)} {op x y : Int} (hok : okN L) (h0 : 0 ≤ op ∧ op ≤ 255) {r : GR} (hr : r.2.length ≤ 1000000) (h : binN f L op x y = some r) :
    C P G 0 n_norm_Bin [.ptr 1 v0 0, .int .u8 op, .int .i64 x, .int .i64 y] ⟨t, kG F.fmt v0 v1 v2 v3 v4 L ++ ex⟩ (PostN F.fmt r v0 v1 ex t) := by
  refine C_keep (5 + ex.length) (Nat.zero_le _) (C_tab hT t_norm_Bin (by simp [norm_Bin]) (W_run 1000 ?_))
  have hkn := c_Known (P := P) (G := G) hT h0.1 h0.2
  unfold binN at h
  simp -implicitDefEqProofs (disch := omega) only [go_sem, ↓reduceIte, reduceCtorEq, Nat.reduceAdd, Nat.reduceEqDiff, Nat.zero_add, norm_Bin, zqa_0, zqa_1, zqa_2, zqa_3, zqa_4, zqa_5]
  refine call hT t_term_Graph_Node (k_Node hT) 1000 fun v σ hv => ?_
  obtain ⟨rfl, t1, ht1, rfl⟩ := hv
  by_cases hx : inG L x
  · have hx' : 0 ≤ x ∧ x < L.length := hx
    have e : L.getD x.toNat zeroNd = nd L x := rfl
    rw [if_pos hx', e]
    generalize nd L x = d at *
    simp -implicitDefEqProofs (disch := omega) only [go_sem, ↓reduceIte, reduceCtorEq, Nat.reduceAdd, Nat.reduceEqDiff, Nat.reduceLT, Nat.zero_add, Bool.not_false, Nat.le_refl, Nat.zero_le, kG_len0, kx_at, kx_set, List.length_append, List.length_cons, List.length_nil, List.append_assoc, List.cons_append, List.nil_append, List.take_zero, and_true, Nd.cells]
    refine call hT t_term_Graph_Node (k_Node hT) 1000 fun v σ hv => ?_
    obtain ⟨rfl, t2, ht2, rfl⟩ := hv
    by_cases hy : inG L y
    · have hy' : 0 ≤ y ∧ y < L.length := hy
      have e : L.getD y.toNat zeroNd = nd L y := rfl
      rw [if_pos hy', e]
      generalize nd L y = d2 at *
      simp -implicitDefEqProofs (disch := omega) only [go_sem, ↓reduceIte, reduceCtorEq, Nat.reduceAdd, Nat.reduceEqDiff, Nat.reduceLT, Nat.zero_add, Bool.not_true, Bool.not_false, Nat.le_refl, Nat.zero_le, kG_len0, kx_at1, kx_set1, List.length_append, List.length_cons, List.length_nil, List.append_assoc, List.cons_append, List.nil_append, List.take_zero, and_true, Nd.cells]
      refine callPS hT t_word_Known hkn rfl 1000 ?_
      by_cases ho : 1 ≤ op ∧ op ≤ 16
      · rw [if_pos ⟨hx, hy, ho⟩] at h
        have ed : decide (1 ≤ op ∧ op ≤ 16) = true := by simpa using ho
        rw [ed]
        simp -implicitDefEqProofs (disch := omega) only [go_sem, ↓reduceIte, reduceCtorEq, Nat.reduceAdd, Nat.reduceEqDiff, Nat.zero_add, Bool.not_true, Nat.le_refl, List.length_cons, List.length_nil, List.cons_append, List.nil_append, List.take_zero, and_true]
        refine call hT t_norm_maker_bin (k_bin hT F hP f _ _ _ _ _ _ _ _ _ _ _ _ hok hx hy ho hr h) 1000 fun v σ hv => ?_
        obtain ⟨rfl, t4, w2, w3, w4, ht4, rfl⟩ := hv
        simp -implicitDefEqProofs (disch := omega) only [go_sem, ↓reduceIte, reduceCtorEq, Nat.reduceAdd, Nat.reduceEqDiff, Nat.zero_add, kG_len0, kx_take, List.length_append, List.length_cons, List.length_nil]
        exact ⟨by omega, rfl, t4, w2, w3, w4, by omega, rfl⟩
      · rw [if_neg fun q => ho q.2.2] at h
        cases h
        have ed : decide (1 ≤ op ∧ op ≤ 16) = false := by simpa using ho
        rw [ed]
        simp -implicitDefEqProofs (disch := omega) only [go_sem, ↓reduceIte, reduceCtorEq, Nat.reduceAdd, Nat.reduceEqDiff, Nat.zero_add, Bool.not_false, kG_len0, kx_take, List.length_append, List.length_cons, List.length_nil]
        exact ⟨by omega, rfl, _, v2, v3, v4, by omega, rfl⟩
    · have hy' : ¬ (0 ≤ y ∧ y < L.length) := hy
      rw [if_neg fun q => hy q.2.1] at h
      cases h
      rw [if_neg hy']
      simp -implicitDefEqProofs (disch := omega) only [go_sem, ↓reduceIte, reduceCtorEq, Nat.reduceAdd, Nat.reduceEqDiff, Nat.reduceLT, Nat.zero_add, Bool.not_true, Bool.not_false, Nat.le_refl, Nat.zero_le, kG_len0, kx_at1, kx_set1, kx_take, List.length_append, List.length_cons, List.length_nil, List.append_assoc, List.cons_append, List.nil_append, List.take_zero, and_true, Nd.cells, zeroNd]
      exact ⟨by omega, rfl, _, v2, v3, v4, by omega, rfl⟩
  · have hx' : ¬ (0 ≤ x ∧ x < L.length) := hx
    rw [if_neg fun q => hx q.1] at h
    cases h
    rw [if_neg hx']
    simp -implicitDefEqProofs (disch := omega) only [go_sem, ↓reduceIte, reduceCtorEq, Nat.reduceAdd, Nat.reduceEqDiff, Nat.reduceLT, Nat.zero_add, Bool.not_false, Nat.le_refl, Nat.zero_le, kG_len0, kx_at, kx_set, List.length_append, List.length_cons, List.length_nil, List.append_assoc, List.cons_append, List.nil_append, List.take_zero, and_true, Nd.cells, zeroNd]
    refine call hT t_term_Graph_Node (k_Node hT) 1000 fun v σ hv => ?_
    obtain ⟨rfl, t2, ht2, rfl⟩ := hv
    by_cases hy : 0 ≤ y ∧ y < L.length
    · rw [if_pos hy]
      generalize L.getD y.toNat zeroNd = d2 at *
      simp -implicitDefEqProofs (disch := omega) only [go_sem, ↓reduceIte, reduceCtorEq, Nat.reduceAdd, Nat.reduceEqDiff, Nat.reduceLT, Nat.zero_add, Bool.not_false, Nat.le_refl, Nat.zero_le, kG_len0, kx_at1, kx_set1, kx_take, List.length_append, List.length_cons, List.length_nil, List.append_assoc, List.cons_append, List.nil_append, List.take_zero, and_true, Nd.cells]
      exact ⟨by omega, rfl, _, v2, v3, v4, by omega, rfl⟩
    · rw [if_neg hy]
      simp -implicitDefEqProofs (disch := omega) only [go_sem, ↓reduceIte, reduceCtorEq, Nat.reduceAdd, Nat.reduceEqDiff, Nat.reduceLT, Nat.zero_add, Bool.not_false, Nat.le_refl, Nat.zero_le, kG_len0, kx_at1, kx_set1, kx_take, List.length_append, List.length_cons, List.length_nil, List.append_assoc, List.cons_append, List.nil_append, List.take_zero, and_true, Nd.cells, zeroNd]
      exact ⟨by omega, rfl, _, v2, v3, v4, by omega, rfl⟩
def notN (f : Nat) (L : List Nd) (x : Int) : Option GR := if inG L x then binN f (numN L 0).2 16 x (numN L 0).1 else some (-1, L)
theorem binN_len {f : Nat} {L : List Nd} (hok : okN L) {op x y : Int} {r : GR} (h : binN f L op x y = some r) : L.length ≤ r.2.length ∧ okN r.2 ∧ L <+: r.2 := by
  unfold binN at h
  split at h
  · rename_i h1
    have k := (binF_keep f _ _ _ _ _ hok h1.1 h1.2.1 h1.2.2 h).1
    exact ⟨pre_len k.pre, k.ok, k.pre⟩
  · cases h; exact ⟨Nat.le_refl _, hok, List.prefix_rfl⟩
theorem k_Not (hT : TabOk P tab) (F : Fmt P G) (hP : Bits P G) (f : Nat) {v0 v1 v2 v3 v4 t : Nat} {L : List Nd} {ex : List (Option Ob)} {x : Int} (hok : okN L) {r : GR} (hr : r.2.length ≤ 1000000) (h : notN f L x = some r) :
    C P G 0 n_norm_Not [.ptr 1 v0 0, .int .i64 x] ⟨t, kG F.fmt v0 v1 v2 v3 v4 L ++ ex⟩ (PostN F.fmt r v0 v1 ex t) := by
  refine C_keep (5 + ex.length) (Nat.zero_le _) (C_tab hT t_norm_Not (by simp [norm_Not]) (W_run 1000 ?_))
  have i0 : i64 0 := by unfold i64; omega
  unfold notN at h
  simp -implicitDefEqProofs (disch := omega) only [go_sem, ↓reduceIte, reduceCtorEq, Nat.reduceEqDiff, Nat.zero_add, norm_Not, zqi_0, zqi_1, zqi_2, zqi_3, zqi_4]
  refine call hT t_term_Graph_Node (k_Node hT) 1000 fun v σ hv => ?_
  obtain ⟨rfl, t1, ht1, rfl⟩ := hv
  by_cases hx : inG L x
  · have hx' : 0 ≤ x ∧ x < L.length := hx
    have e : L.getD x.toNat zeroNd = nd L x := rfl
    rw [if_pos hx', e]
    rw [if_pos hx] at h
    generalize nd L x = d at *
    obtain ⟨h1, h2⟩ := num_made (S := []) (C := []) hok i0
    have l1 := pre_len h1.pre
    have l2 := (binN_len h1.ok h).1
    simp -implicitDefEqProofs (disch := omega) only [go_sem, ↓reduceIte, reduceCtorEq, Nat.reduceAdd, Nat.reduceEqDiff, Nat.reduceLT, Nat.zero_add, Bool.not_true, Bool.not_false, Nat.le_refl, Nat.zero_le, kG_len0, kx_at, kx_set, List.length_append, List.length_cons, List.length_nil, List.append_assoc, List.cons_append, List.nil_append, List.take_zero, and_true, Nd.cells]
    refine call hT t_norm_Const (k_Const hT F i0 (by omega)) 1000 fun v σ hv => ?_
    obtain ⟨rfl, t2, w2, w3, w4, ht2, rfl⟩ := hv
    simp -implicitDefEqProofs (disch := omega) only [go_sem, ↓reduceIte, reduceCtorEq, Nat.reduceEqDiff]
    refine call hT t_norm_Bin (k_Bin hT F hP f h1.ok (by omega) hr h) 1000 fun v σ hv => ?_
    obtain ⟨rfl, t3, z2, z3, z4, ht3, rfl⟩ := hv
    simp -implicitDefEqProofs (disch := omega) only [go_sem, ↓reduceIte, reduceCtorEq, Nat.reduceEqDiff, Nat.zero_add, kG_len0, kx_take, List.length_append, List.length_cons, List.length_nil]
    exact ⟨by omega, rfl, t3, z2, z3, z4, by omega, rfl⟩
  · have hx' : ¬ (0 ≤ x ∧ x < L.length) := hx
    rw [if_neg hx] at h
    cases h
    rw [if_neg hx']
    simp -implicitDefEqProofs (disch := omega) only [go_sem, ↓reduceIte, reduceCtorEq, Nat.reduceAdd, Nat.reduceEqDiff, Nat.reduceLT, Nat.zero_add, Bool.not_false, Nat.le_refl, Nat.zero_le, kG_len0, kx_at, kx_set, kx_take, List.length_append, List.length_cons, List.length_nil, List.append_assoc, List.cons_append, List.nil_append, List.take_zero, and_true, Nd.cells, zeroNd]
    exact ⟨by omega, rfl, _, v2, v3, v4, by omega, rfl⟩
end Go.Proofs.YtpdeoalocejodaaGreatDoor
/- The text of a term. -/
namespace Go.Proofs.YtpdeoalocejodaaGreatDoor
open Go Go.Am
set_option maxRecDepth 100000
set_option maxHeartbeats 2000000
variable {P : Program} {G : Nat → Option V}
def texts (fmt : Int → List UInt8) (L : List Nd) : List (List UInt8) := L.foldl (fun T d => T ++ [d.words fmt (T.getD d.x.toNat []) (T.getD d.y.toNat [])]) []
theorem texts_add (fmt : Int → List UInt8) (L : List Nd) (d : Nd) : texts fmt (L ++ [d]) = texts fmt L ++ [d.words fmt ((texts fmt L).getD d.x.toNat []) ((texts fmt L).getD d.y.toNat [])] := by simp [texts, List.foldl_append]
theorem texts_length (fmt : Int → List UInt8) (L : List Nd) : (texts fmt L).length = L.length := by
  refine snoc_ind (p := fun L => (texts fmt L).length = L.length) rfl (fun l a h => ?_) L
  rw [texts_add]; simp [h]
theorem getD_append_lt {α : Type} (l m : List α) (i : Nat) (z : α) (h : i < l.length) : (l ++ m).getD i z = l.getD i z := by
  simp [List.getD_eq_getElem?_getD, List.getElem?_append_left h]
theorem longs_pre (fmt : Int → List UInt8) {L M : List Nd} (h : L <+: M) : ∃ r, longs fmt M = longs fmt L ++ r := by
  obtain ⟨s, rfl⟩ := h
  refine snoc_ind (p := fun s => ∃ r, longs fmt (L ++ s) = longs fmt L ++ r) ⟨[], by simp⟩ (fun l a ⟨r, hr⟩ => ?_) s
  exact ⟨r ++ [longF fmt (longs fmt (L ++ l)) a], by rw [← List.append_assoc, longs_add, hr, List.append_assoc]⟩
theorem texts_pre (fmt : Int → List UInt8) {L M : List Nd} (h : L <+: M) : ∃ r, texts fmt M = texts fmt L ++ r := by
  obtain ⟨s, rfl⟩ := h
  refine snoc_ind (p := fun s => ∃ r, texts fmt (L ++ s) = texts fmt L ++ r) ⟨[], by simp⟩ (fun l a ⟨r, hr⟩ => ?_) s
  exact ⟨r ++ [_], by rw [← List.append_assoc, texts_add, hr, List.append_assoc]⟩
theorem take_snoc' {L : List Nd} {i : Nat} {d : Nd} (h : L[i]? = some d) : L.take i ++ [d] <+: L := by
  have : L.take (i + 1) = L.take i ++ [d] := by rw [List.take_add_one, h]; rfl
  rw [← this]; exact List.take_prefix _ _
theorem texts_at (fmt : Int → List UInt8) {L : List Nd} {i : Nat} {d : Nd} (h : L[i]? = some d) : (texts fmt L).getD i [] = d.words fmt ((texts fmt (L.take i)).getD d.x.toNat []) ((texts fmt (L.take i)).getD d.y.toNat []) := by
  obtain ⟨r, hr⟩ := texts_pre fmt (take_snoc' h)
  have hi := (List.getElem?_eq_some_iff.1 h).1
  have hl : (texts fmt (L.take i)).length = i := by rw [texts_length, List.length_take]; omega
  rw [hr, texts_add, List.append_assoc, List.getD_eq_getElem?_getD, List.getElem?_append_right (by omega), hl]
  simp
theorem longs_at (fmt : Int → List UInt8) {L : List Nd} {i : Nat} {d : Nd} (h : L[i]? = some d) : (longs fmt L).getD i 0 = longF fmt (longs fmt (L.take i)) d := by
  obtain ⟨r, hr⟩ := longs_pre fmt (take_snoc' h)
  have hi := (List.getElem?_eq_some_iff.1 h).1
  have hl : (longs fmt (L.take i)).length = i := by rw [longs_length, List.length_take]; omega
  rw [hr, longs_add, List.append_assoc, List.getD_eq_getElem?_getD, List.getElem?_append_right (by omega), hl]
  simp
theorem longs_take (fmt : Int → List UInt8) {L : List Nd} {i p : Nat} (h : p < i) (hi : i ≤ L.length) : (longs fmt (L.take i)).getD p 0 = (longs fmt L).getD p 0 := by
  obtain ⟨r, hr⟩ := longs_pre fmt (List.take_prefix i L)
  rw [hr, getD_append_lt _ _ _ _ (by rw [longs_length, List.length_take]; omega)]
theorem texts_take (fmt : Int → List UInt8) {L : List Nd} {i p : Nat} (h : p < i) (hi : i ≤ L.length) : (texts fmt (L.take i)).getD p [] = (texts fmt L).getD p [] := by
  obtain ⟨r, hr⟩ := texts_pre fmt (List.take_prefix i L)
  rw [hr, getD_append_lt _ _ _ _ (by rw [texts_length, List.length_take]; omega)]
theorem words_congr (fmt : Int → List UInt8) (d : Nd) {x y x' y' : List UInt8} (h3 : d.kind = 3 → y = y') (h4 : d.kind = 1 ∨ d.kind = 2 ∨ d.kind = 3 ∨ (x = x' ∧ y = y')) : d.words fmt x y = d.words fmt x' y' := by
  unfold Nd.words
  split
  · rfl
  · split
    · rfl
    · split
      · rename_i h; rw [h3 h]
      · rcases h4 with h | h | h | ⟨h, h'⟩
        · contradiction
        · contradiction
        · contradiction
        · rw [h, h']
theorem words_len3 (fmt : Int → List UInt8) (d : Nd) (x y : List UInt8) (h : d.kind = 3) : (d.words fmt x y).length = (d.words fmt [] []).length + y.length := by
  unfold Nd.words
  simp only [h]
  simp; omega
theorem words_len4 (fmt : Int → List UInt8) (d : Nd) (x y : List UInt8) (h : d.kind = 4) : (d.words fmt x y).length = (d.words fmt [] []).length + x.length + y.length := by
  unfold Nd.words
  simp only [h]
  simp; omega
theorem nnN (fmt : Int → List UInt8) (L : List Nd) (p : Nat) : 0 ≤ (longs fmt L).getD p 0 := by
  rw [List.getD_eq_getElem?_getD]
  cases hx : (longs fmt L)[p]? with
  | none => simp
  | some x => simpa using (longs_bd fmt L x (List.mem_of_getElem? hx)).1
theorem long_len (fmt : Int → List UInt8) {L : List Nd} (hok : okN L) : ∀ (i : Nat) (d : Nd), L[i]? = some d → (longs fmt L).getD i 0 ≤ 65536 →
    (((texts fmt L).getD i []).length : Int) = (longs fmt L).getD i 0 ∧ ∀ p ∈ d.parts, (longs fmt L).getD p.toNat 0 ≤ 65536 := by
  intro i
  induction i using Nat.strongRecOn with
  | _ i ih =>
    intro d hd hN
    have hi := (List.getElem?_eq_some_iff.1 hd).1
    obtain ⟨hpp, hop, hk⟩ := may_parts (hok i d hd).2.2
    rw [longs_at fmt hd] at hN ⊢
    rw [texts_at fmt hd]
    have hA : longA (longs fmt (L.take i)) d.parts ((d.words fmt [] []).length : Int) ≤ 65536 ∧ longF fmt (longs fmt (L.take i)) d = longA (longs fmt (L.take i)) d.parts ((d.words fmt [] []).length : Int) := by
      unfold longF at hN ⊢
      split at hN
      · omega
      · rename_i h; rw [if_neg h]; exact ⟨hN, rfl⟩
    rw [hA.2]
    have part : ∀ p ∈ d.parts, (longs fmt (L.take i)).getD p.toNat 0 = (longs fmt L).getD p.toNat 0 ∧ ((longs fmt L).getD p.toNat 0 ≤ 65536 → (((texts fmt (L.take i)).getD p.toNat []).length : Int) = (longs fmt L).getD p.toNat 0) := fun p hp => by
      have hb := hpp p hp
      obtain ⟨e, he⟩ : ∃ e, L[p.toNat]? = some e := ⟨_, List.getElem?_eq_getElem (by omega)⟩
      refine ⟨longs_take fmt (by omega) (by omega), fun h => ?_⟩
      rw [texts_take fmt (by omega) (by omega)]
      exact (ih p.toNat (by omega) e he h).1
    rcases hk with h | h | h | h
    · have hps : d.parts = [] := by simp [Nd.parts, h]
      rw [hps] at hA ⊢
      refine ⟨?_, by simp⟩
      rw [words_congr fmt d (x' := []) (y' := []) (by omega) (.inl h)]
      simp [longA]
    · have hps : d.parts = [] := by simp [Nd.parts, h]
      rw [hps] at hA ⊢
      refine ⟨?_, by simp⟩
      rw [words_congr fmt d (x' := []) (y' := []) (by omega) (.inr (.inl h))]
      simp [longA]
    · have hps : d.parts = [d.y] := by simp [Nd.parts, h]
      obtain ⟨q1, q2⟩ := part d.y (by simp [hps])
      have nn := nnN fmt L d.y.toNat
      rw [hps] at hA ⊢
      simp only [longA, List.foldl_cons, List.foldl_nil, q1] at hA ⊢
      have hle : (longs fmt L).getD d.y.toNat 0 ≤ 65536 := by omega
      refine ⟨?_, by simpa using hle⟩
      rw [words_len3 fmt d _ _ h]
      have := q2 hle
      omega
    · have hps : d.parts = [d.x, d.y] := by simp [Nd.parts, h]
      obtain ⟨q1, q2⟩ := part d.y (by simp [hps])
      obtain ⟨r1, r2⟩ := part d.x (by simp [hps])
      have nn := nnN fmt L d.y.toNat
      have nn2 := nnN fmt L d.x.toNat
      rw [hps] at hA ⊢
      simp only [longA, List.foldl_cons, List.foldl_nil, q1, r1] at hA ⊢
      have hle : (longs fmt L).getD d.y.toNat 0 ≤ 65536 := by omega
      have hle2 : (longs fmt L).getD d.x.toNat 0 ≤ 65536 := by omega
      refine ⟨?_, by simpa using ⟨hle2, hle⟩⟩
      rw [words_len4 fmt d _ _ h]
      have := q2 hle
      have := r2 hle2
      omega
theorem long_uses (fmt : Int → List UInt8) {L : List Nd} (hok : okN L) {id : Int} (h : (longs fmt L).getD id.toNat 0 ≤ 65536) : ∀ x ∈ usesL L [id], (longs fmt L).getD x.toNat 0 ≤ 65536 :=
  uses_pred (Q := fun x => (longs fmt L).getD x.toNat 0 ≤ 65536) (fun x h0 h1 hx p hp => by
    obtain ⟨d, hd⟩ : ∃ d, L[x.toNat]? = some d := ⟨_, List.getElem?_eq_getElem (by omega)⟩
    have : pts L x = d.parts := by simp [pts, List.getD_eq_getElem?_getD, hd]
    rw [this] at hp
    exact (long_len fmt hok x.toNat d hd hx).2 p hp) h
theorem text_le (fmt : Int → List UInt8) {L : List Nd} (hok : okN L) {i : Nat} (hi : i < L.length) (h : (longs fmt L).getD i 0 ≤ 65536) : ((texts fmt L).getD i []).length ≤ 65536 := by
  obtain ⟨d, hd⟩ : ∃ d, L[i]? = some d := ⟨_, List.getElem?_eq_getElem hi⟩
  have := (long_len fmt hok i d hd h).1
  omega
def textL (fmt : Int → List UInt8) (L : List Nd) (id : Int) : List UInt8 := if (0 ≤ id ∧ id < L.length) ∧ (longs fmt L).getD id.toNat 0 ≤ 65536 then (texts fmt L).getD id.toNat [] else []
theorem ahead_of {U : List Int} (hs : U.Pairwise (· < ·)) {k : Nat} {i y : Int} (hk : U[k]? = some i) (hy : y ∈ U) (hlt : y < i) : y ∈ U.take k := by
  obtain ⟨j, hj⟩ := List.getElem?_of_mem hy
  have hjl := (List.getElem?_eq_some_iff.1 hj).1
  have hkl := (List.getElem?_eq_some_iff.1 hk).1
  have ej := (List.getElem?_eq_some_iff.1 hj).2
  have ek := (List.getElem?_eq_some_iff.1 hk).2
  have hjk : j < k := by
    rcases Nat.lt_trichotomy j k with h | h | h
    · exact h
    · subst h; rw [hj] at hk; cases hk; omega
    · have := (List.pairwise_iff_getElem.1 hs) k j hkl hjl h
      omega
  rw [List.mem_iff_getElem?]
  exact ⟨j, by rw [List.getElem?_take, if_pos hjk]; exact hj⟩
theorem not_ahead {U : List Int} (hs : U.Pairwise (· < ·)) {k : Nat} {i : Int} (hk : U[k]? = some i) : i ∉ U.take k := by
  intro hm
  obtain ⟨j, hj⟩ := List.getElem?_of_mem hm
  rw [List.getElem?_take] at hj
  split at hj
  · rename_i hjk
    have ej := (List.getElem?_eq_some_iff.1 hj)
    have ek := (List.getElem?_eq_some_iff.1 hk)
    have := (List.pairwise_iff_getElem.1 hs) j k ej.1 ek.1 hjk
    rw [ej.2, ek.2] at this
    omega
  · cases hj
def shown (fmt : Int → List UInt8) (L : List Nd) : Int → V := fun i => .agg [.str ((texts fmt L).getD i.toNat [])]
def look (fmt : Int → List UInt8) (L : List Nd) (S : List Int) (x : Int) : List UInt8 := if x ∈ S then (texts fmt L).getD x.toNat [] else []
theorem mget_shown (fmt : Int → List UInt8) (L : List Nd) (S : List Int) (x : Int) : (mget [.i] (.int .i64 x) (im .i64 (shown fmt L) S)).getD (.agg [.str []]) = .agg [.str (look fmt L S x)] := by
  rw [mget_im]
  unfold look
  split <;> rfl
theorem c_Text (hT : TabOk P tab) (F : Fmt P G) (SO : SortOk P) {v0 v1 v2 v3 v4 t : Nat} {L : List Nd} {id : Int} (hL : L.length ≤ 1000000) (hok : okN L) :
   C P G 5 n_term_Graph_Text [.ptr 0 v0 0, .int .i64 id] ⟨t, gG F.fmt v0 v1 v2 v3 v4 L⟩ fun v σ => v = .str (textL F.fmt L id) ∧ ∃ t', t ≤ t' ∧ σ = ⟨t', gG F.fmt v0 v1 v2 v3 v4 L⟩ := by
  have hN := longs_length F.fmt L
  have hwf := hok.wf
  refine C_keep 5 (Nat.le_refl _) (C_tab hT t_term_Graph_Text (by simp [term_Graph_Text]) (W_run 1000 ?_))
  simp -implicitDefEqProofs (disch := omega) only [go_sem, ↓reduceIte, reduceCtorEq, Nat.reduceEqDiff, Nat.zero_add, term_Graph_Text, zq10_0, zq10_1, zq10_2, zq10_3, zq10_4, zq10_5, zq10_6, zq10_7, zq10_8, zq10_9, zq10_10, gG, gH, gS]
  refine call hT t_term_Graph_is (c_is hT) 1000 fun v σ hv => ?_
  obtain ⟨rfl, rfl⟩ := hv
  by_cases h : 0 ≤ id ∧ id < L.length
  · have hlen : id.toNat < L.length := by omega
    obtain ⟨x, hx⟩ : ∃ x, (longs F.fmt L)[id.toNat]? = some x := ⟨_, List.getElem?_eq_getElem (by omega)⟩
    have hg : ((longs F.fmt L).map (V.int .i64)).getD id.toNat .any = V.int .i64 x := by simp [List.getD_eq_getElem?_getD, hx]
    have hg2 : (longs F.fmt L).getD id.toNat 0 = x := by simp [List.getD_eq_getElem?_getD, hx]
    by_cases hbig : 65536 < x
    · simp -implicitDefEqProofs (disch := omega) only [go_sem, need_of, ↓reduceIte, reduceCtorEq, Nat.reduceAdd, Nat.reduceEqDiff, Nat.zero_add, Nat.mul_one, decide_true, Bool.not_true, Nat.le_refl, gt_iff_lt, gS, h, hlen, hg, hN, hbig, List.length_map]
      refine ⟨?_, _, by omega, rfl⟩
      rw [textL, hg2, if_neg (by omega)]
    · simp -implicitDefEqProofs (disch := omega) only [go_sem, need_of, ↓reduceIte, reduceCtorEq, Nat.reduceAdd, Nat.reduceEqDiff, Nat.zero_add, Nat.mul_one, decide_true, decide_false, Bool.not_true, Nat.le_refl, gt_iff_lt, gS, h, hlen, hg, hN, hbig, List.length_map]
      have hN6 : (longs F.fmt L).getD id.toNat 0 ≤ 65536 := by omega
      refine callE (oS := gH v0 v1 v2 v3 v4 L (deeps L) (longs F.fmt L)) (ex := [some (.map t [])]) hT t_term_Graph_Uses (c_Uses hT SO (Nat.le_refl 5) hL hwf [id] 1 true (.inl rfl) (by simp)) rfl (gH_und ..) (Nat.le_refl 5) rfl 1000 fun v σ hv => ?_
      obtain ⟨rfl, t2, ht2, rfl⟩ := hv
      refine ⟨rfl, gH_und .., rfl, ?_⟩
      simp only at ht2
      simp -implicitDefEqProofs (disch := omega) only [go_sem, ↓reduceIte, reduceCtorEq, Nat.reduceEqDiff, gH, gS, List.length_map, List.nil_append, List.cons_append]
      have hUs := uses_sorted (L := L) (roots := [id])
      have hUo := uses_ok (L := L) (roots := [id])
      have hUl := long_uses F.fmt hok hN6
      have hUid := uses_self hwf h.1 h.2
      have hUc : ∀ i ∈ usesL L [id], ∀ p ∈ pts L i, p ∈ usesL L [id] := fun i hi p hp => uses_closed hwf hi hp
      have hUlen : (usesL L [id]).length ≤ L.length := by
        have := okS_len (okS_walks L [id] [] ⟨List.nodup_nil, by simp⟩)
        simpa [usesL] using this
      generalize usesL L [id] = U at *
      refine sem_invE (fun m fr σ => ∃ (k t' : Nat), k ≤ U.length ∧ m = U.length - k ∧ t ≤ t' ∧ fget fr 0 = .ptr 0 v0 0 ∧ fget fr 1 = .int .i64 id ∧ fget fr 5 = .mp 5 t ∧ fget fr 27 = .lst 1 (U.map (V.int .i64)) false ∧ fget fr 28 = .int .i64 U.length ∧ fget fr 29 = .int .i64 k ∧
           σ = ⟨t', gH v0 v1 v2 v3 v4 L (deeps L) (longs F.fmt L) ++ [some (.map t (im .i64 (shown F.fmt L) (U.take k)))]⟩)
        (fun e fr σ => e = .ex 0 ∧ fget fr 1 = .int .i64 id ∧ fget fr 5 = .mp 5 t ∧ ∃ t', t ≤ t' ∧ σ = ⟨t', gH v0 v1 v2 v3 v4 L (deeps L) (longs F.fmt L) ++ [some (.map t (im .i64 (shown F.fmt L) U))]⟩)
        (m0 := U.length) ⟨0, t2, Nat.zero_le _, rfl, by omega, ?_⟩ (fun m fr σ hJ => ?_) (fun e fr σ hE => ?_)
      · simp -implicitDefEqProofs (disch := omega) only [go_sem, ↓reduceIte, reduceCtorEq, Nat.reduceEqDiff]
        exact ⟨rfl, rfl⟩
      · obtain ⟨k, t', hk, rfl, ht', f0, f1, f5, f27, f28, f29, rfl⟩ := hJ
        refine W_run 1000 ?_
        rcases Nat.lt_or_ge k U.length with hlt | hge
        · obtain ⟨i, hi⟩ : ∃ i, U[k]? = some i := ⟨_, List.getElem?_eq_getElem hlt⟩
          have hiU := List.mem_of_getElem? hi
          obtain ⟨hi0, hi1⟩ := hUo i hiU
          have hgU : (U.map (V.int .i64)).getD k .any = V.int .i64 i := by simp [List.getD_eq_getElem?_getD, hi]
          obtain ⟨d, hd⟩ : ∃ d, L[i.toNat]? = some d := ⟨_, List.getElem?_eq_getElem (by omega)⟩
          have hl := ndC_length L
          have hc := ndC_get hd
          have hilen : i.toNat < L.length := by omega
          have h6 : i.toNat * 6 + 6 ≤ (ndC L).length := by omega
          have hps : pts L i = d.parts := by simp [pts, List.getD_eq_getElem?_getD, hd]
          obtain ⟨hdn, hda, hdm⟩ := hok _ d hd
          obtain ⟨hdp, hdo, hdk⟩ := may_parts hdm
          have hx1 := mget_shown F.fmt L (U.take k) d.x
          have hy1 := mget_shown F.fmt L (U.take k) d.y
          have hkx := keysOk_im .i64 (shown F.fmt L) (U.take k) d.x
          have hky := keysOk_im .i64 (shown F.fmt L) (U.take k) d.y
          have hki := keysOk_im .i64 (shown F.fmt L) (U.take k) i
          have lk : ∀ z, (look F.fmt L (U.take k) z).length ≤ 1000000 := fun z => by
            unfold look
            split
            · rename_i hz
              have hzU := List.mem_of_mem_take hz
              have := text_le F.fmt hok (i := z.toNat) (by have := hUo z hzU; omega) (hUl z hzU)
              omega
            · simp
          have hin : ∀ z ∈ d.parts, look F.fmt L (U.take k) z = (texts F.fmt (L.take i.toNat)).getD z.toNat [] := fun z hz => by
            have hzU := hUc i hiU z (by rw [hps]; exact hz)
            have hzb := hdp z hz
            have := ahead_of hUs hi hzU (by omega)
            unfold look
            rw [if_pos this, texts_take F.fmt (by omega) (by omega)]
          have hword : d.words F.fmt (look F.fmt L (U.take k) d.x) (look F.fmt L (U.take k) d.y) = (texts F.fmt L).getD i.toNat [] := by
            rw [texts_at F.fmt hd]
            refine words_congr F.fmt d (fun h3 => hin d.y (by simp [Nd.parts, h3])) ?_
            rcases hdk with q | q | q | q
            · exact .inl q
            · exact .inr (.inl q)
            · exact .inr (.inr (.inl q))
            · exact .inr (.inr (.inr ⟨hin d.x (by simp [Nd.parts, q]), hin d.y (by simp [Nd.parts, q])⟩))
          have hmp := mput_im .i64 (shown F.fmt L) i (.agg [.str ((texts F.fmt L).getD i.toNat [])]) rfl (U.take k) (not_ahead hUs hi)
          simp -implicitDefEqProofs (disch := omega) only [go_sem, need_of, ↓reduceIte, reduceCtorEq, Nat.reduceAdd, Nat.reduceEqDiff, Nat.reduceLeDiff, Nat.succ_ne_zero, Nat.zero_add, Nat.add_zero, decide_true, Bool.not_false, Nat.le_refl, gH, gS, List.length_map, List.nil_append, List.cons_append, f0, f5, f27, f28, f29, hlt, hgU, hi0, hilen, h6, hc, Nd.cells, hx1, hy1, hkx, hky]
          refine callPS hT t_term_words (c_words hT F d _ _ hdn hda hdo (lk d.x) (lk d.y)) rfl 1000 ?_
          simp -implicitDefEqProofs (disch := omega) only [go_sem, ↓reduceIte, Nat.reduceEqDiff, Nat.zero_add, Bool.not_false, Nat.le_refl, List.nil_append, List.cons_append, f29, hword, hki, hmp]
          have htk : U.take (k + 1) = U.take k ++ [i] := by rw [List.take_add_one, hi]; rfl
          refine ⟨U.length - (k + 1), _, _, by omega, Shift.drop (o' := gH v0 v1 v2 v3 v4 L (deeps L) (longs F.fmt L) ++ [some (.map t (im .i64 (shown F.fmt L) (U.take k ++ [i])))]) (t' := t' + 1) (by simp [subObs, gH, gS]) (Nat.le_refl _) (by simp [gH]), k + 1, t' + 1, hlt, rfl, by omega, ?_⟩
          · have hw : IntKind.i64.wrap ((k : Int) + 1) = ((k + 1 : Nat) : Int) := by
              rw [wrap_i64 (by omega) (by omega)]; rfl
            simp -implicitDefEqProofs (disch := omega) only [go_sem, ↓reduceIte, reduceCtorEq, Nat.reduceEqDiff, Nat.succ_ne_zero, f0, f1, f5, f27, f28, hw, htk]
            rfl
        · simp -implicitDefEqProofs (disch := omega) only [go_sem, ↓reduceIte, Nat.reduceEqDiff, decide_false, f1, f5, f28, f29, show ¬ k < U.length from by omega]
          rw [List.take_of_length_le (by omega)]
          exact ⟨t', ht', rfl, rfl⟩
      · obtain ⟨rfl, f1, f5, t', ht', rfl⟩ := hE
        have hkid := keysOk_im .i64 (shown F.fmt L) U id
        have hmid := mget_shown F.fmt L U id
        have hlk : look F.fmt L U id = (texts F.fmt L).getD id.toNat [] := by unfold look; rw [if_pos hUid]
        refine run_sem 1000 ?_
        simp -implicitDefEqProofs (disch := omega) only [go_sem, ↓reduceIte, Nat.reduceAdd, Nat.reduceEqDiff, Nat.reduceLeDiff, Nat.zero_add, Nat.le_refl, gH, gS, List.nil_append, List.cons_append, f1, f5, hkid, hmid, hlk]
        refine ⟨?_, _, ht', rfl⟩
        rw [textL, if_pos ⟨h, hN6⟩]
  · simp -implicitDefEqProofs (disch := omega) only [go_sem, ↓reduceIte, reduceCtorEq, Nat.reduceAdd, Nat.reduceEqDiff, Nat.zero_add, decide_false, Bool.not_false, Nat.le_refl, gS, h]
    refine ⟨?_, _, by omega, rfl⟩
    rw [textL, if_neg (fun hh => h hh.1)]
theorem k_Text (hT : TabOk P tab) (F : Fmt P G) (SO : SortOk P) {base : Nat} {v0 v1 v2 v3 v4 t : Nat} {L : List Nd} {ex : List (Option Ob)} {id : Int} (hL : L.length ≤ 1000000) (hok : okN L) :
   C P G base n_term_Graph_Text [.ptr 1 v0 0, .int .i64 id] ⟨t, kG F.fmt v0 v1 v2 v3 v4 L ++ ex⟩ fun v σ => v = .str (textL F.fmt L id) ∧ ∃ t', t ≤ t' ∧ σ = ⟨t', kG F.fmt v0 v1 v2 v3 v4 L ++ ex⟩ :=
  k_read (c_Text hT F SO hL hok) rfl rfl
end Go.Proofs.YtpdeoalocejodaaGreatDoor
/- Terms made plain: the small functions of the law. -/
namespace Go.Proofs.YtpdeoalocejodaaGreatDoor
open Go Go.Am
set_option maxRecDepth 100000
set_option maxHeartbeats 2000000
variable {P : Program} {G : Nat → Option V}
def pickI (i : Int) (n : Nat) : Int := if n = 0 then 0 else i % n
theorem pick_in {i : Int} {L : List Nd} (h : L.length ≠ 0) : inG L (pickI i L.length) := by
  unfold pickI inG
  rw [if_neg h]
  exact ⟨Int.emod_nonneg _ (by omega), Int.emod_lt_of_pos _ (by omega)⟩
theorem pick_eq {i n : Int} (h : 0 < n) (hn : n ≤ 1000000) : (IntKind.i64.wrap (i.tmod n + n)).tmod n = i % n := by
  have h1 := Int.tmod_lt_of_pos i h
  have h2 := Int.lt_tmod_of_pos i h
  have h3 := Int.mul_tdiv_add_tmod i n
  rw [wrap_i64 (by omega) (by omega), Int.tmod_eq_emod_of_nonneg (by omega), Int.add_emod_right]
  conv => rhs; rw [← h3]
  rw [Int.mul_add_emod_self_left]
theorem c_Pick (hT : TabOk P tab) {i : Int} {n : Nat} (hn : n ≤ 1000000) : Pure P G n_proofmarkkit_Pick [.int .i64 i, .int .i64 (n : Int)] fun v => v = .int .i64 (pickI i n) := by
  intro t
  refine C_keep 0 (Nat.zero_le _) (C_tab hT t_proofmarkkit_Pick (by simp [proofmarkkit_Pick]) (W_run 1000 ?_))
  by_cases h : n = 0
  · subst h
    simp -implicitDefEqProofs (disch := omega) only [go_sem, ↓reduceIte, reduceCtorEq, Nat.reduceEqDiff, Nat.zero_add, Nat.le_refl, proofmarkkit_Pick, zqj_0, zqj_1, zqj_2, zqj_3, pickI]
    exact fun h => absurd (Int.le_refl _) h
  · have h1 : ¬ (n : Int) ≤ 0 := by omega
    have h2 : ¬ (n : Int) = 0 := by omega
    simp -implicitDefEqProofs (disch := omega) only [go_sem, ↓reduceIte, reduceCtorEq, Nat.reduceEqDiff, Nat.zero_add, decide_false, Nat.le_refl, proofmarkkit_Pick, zqj_0, zqj_1, zqj_2, zqj_3, pickI, h, h1, h2]
    rw [pick_eq (by omega) (by omega)]
theorem k_at (hT : TabOk P tab) {base : Nat} {fmt : Int → List UInt8} {v0 v1 v2 v3 v4 t : Nat} {L : List Nd} {ex : List (Option Ob)} {i : Int} (hb : base ≤ 5 + ex.length) (hL : L.length ≤ 1000000) :
    C P G base n_proofmarklaw04_at [.ptr 1 v0 0, .int .i64 i] ⟨t, kG fmt v0 v1 v2 v3 v4 L ++ ex⟩ fun v σ => v = .int .i64 (pickI i L.length) ∧ ∃ t', t ≤ t' ∧ σ = ⟨t', kG fmt v0 v1 v2 v3 v4 L ++ ex⟩ := by
  refine C_keep (5 + ex.length) hb (C_tab hT t_proofmarklaw04_at (by simp [proofmarklaw04_at]) (W_run 1000 ?_))
  simp -implicitDefEqProofs (disch := omega) only [go_sem, ↓reduceIte, reduceCtorEq, Nat.reduceEqDiff, Nat.zero_add, proofmarklaw04_at, zqo_0, zqo_1]
  refine call hT t_term_Graph_Size (k_Size hT) 1000 fun v σ hv => ?_
  obtain ⟨rfl, t1, ht1, rfl⟩ := hv
  simp -implicitDefEqProofs (disch := omega) only [go_sem, ↓reduceIte, reduceCtorEq, Nat.reduceEqDiff]
  refine callPS hT t_proofmarkkit_Pick (c_Pick hT hL) rfl 1000 ?_
  simp -implicitDefEqProofs (disch := omega) only [go_sem, ↓reduceIte, reduceCtorEq, Nat.reduceEqDiff, Nat.le_refl, kx_len, kx_take0]
  exact ⟨t1, ht1, rfl⟩
end Go.Proofs.YtpdeoalocejodaaGreatDoor
/- The chapter's examples. -/
namespace Go.Proofs.YtpdeoalocejodaaGreatDoor
open Go Go.Am
set_option maxRecDepth 100000
set_option maxHeartbeats 2000000
variable {P : Program} {G : Nat → Option V}
def symN (L : List Nd) (k : Int) : GR := addN L ⟨2, k, 0, 0, 0, 0⟩
def cellN (L : List Nd) (a v x : Int) : GR := addN L ⟨3, v, a, 0, 0, x⟩
theorem k_Sym (hT : TabOk P tab) (F : Fmt P G) {v0 v1 v2 v3 v4 t : Nat} {L : List Nd} {ex : List (Option Ob)} {n : Int} (hn : i64 n) (hL : L.length ≤ 1000000) :
    C P G 0 n_norm_Sym [.ptr 1 v0 0, .int .i64 n] ⟨t, kG F.fmt v0 v1 v2 v3 v4 L ++ ex⟩ (PostN F.fmt (symN L n) v0 v1 ex t) := by
  refine C_tab hT t_norm_Sym (by simp [norm_Sym]) (W_run 1000 ?_)
  simp -implicitDefEqProofs (disch := omega) only [go_sem, ↓reduceIte, reduceCtorEq, Nat.reduceAdd, Nat.reduceEqDiff, Nat.reduceLeDiff, Nat.zero_add, norm_Sym, zqz_0, zqz_1, List.length_cons, List.length_nil, List.cons_append, List.nil_append, List.take_succ_cons, List.take_zero, and_true]
  refine call hT t_term_Graph_Add (k_Add hT F ⟨2, n, 0, 0, 0, 0⟩ hL hn (show i64 0 by unfold i64; omega)) 1000 fun v σ hv => ?_
  obtain ⟨rfl, t', v2', v3', v4', ht, rfl⟩ := hv
  simp -implicitDefEqProofs (disch := omega) only [go_sem, ↓reduceIte, reduceCtorEq, Nat.reduceEqDiff]
  exact ⟨rfl, t', v2', v3', v4', ht, rfl⟩
theorem k_CellN (hT : TabOk P tab) (F : Fmt P G) {v0 v1 v2 v3 v4 t : Nat} {L : List Nd} {ex : List (Option Ob)} {a n y : Int} (ha : i64 a) (hn : i64 n) (hL : L.length ≤ 1000000) :
    C P G 0 n_norm_Cell [.ptr 1 v0 0, .int .i64 a, .int .i64 n, .int .i64 y] ⟨t, kG F.fmt v0 v1 v2 v3 v4 L ++ ex⟩ (PostN F.fmt (cellN L a n y) v0 v1 ex t) := by
  refine C_tab hT t_norm_Cell (by simp [norm_Cell]) (W_run 1000 ?_)
  simp -implicitDefEqProofs (disch := omega) only [go_sem, ↓reduceIte, reduceCtorEq, Nat.reduceAdd, Nat.reduceEqDiff, Nat.reduceLeDiff, Nat.zero_add, Nat.le_refl, norm_Cell, zq11_0, zq11_1, List.length_cons, List.length_nil, List.cons_append, List.nil_append, List.take_succ_cons, List.take_zero, and_true]
  refine call hT t_term_Graph_Add (k_Add hT F ⟨3, n, a, 0, 0, y⟩ hL hn ha) 1000 fun v σ hv => ?_
  obtain ⟨rfl, t', v2', v3', v4', ht, rfl⟩ := hv
  simp -implicitDefEqProofs (disch := omega) only [go_sem, ↓reduceIte, reduceCtorEq, Nat.reduceEqDiff]
  exact ⟨rfl, t', v2', v3', v4', ht, rfl⟩
theorem k_lnum (hT : TabOk P tab) (F : Fmt P G) {v0 v1 v2 v3 v4 t : Nat} {L : List Nd} {ex : List (Option Ob)} {n : Int} (hn : i64 n) (hL : L.length ≤ 1000000) :
    C P G 0 n_proofmarklaw04_num [.ptr 1 v0 0, .int .i64 n] ⟨t, kG F.fmt v0 v1 v2 v3 v4 L ++ ex⟩ (PostN F.fmt (numN L n) v0 v1 ex t) := by
  refine C_tab hT t_proofmarklaw04_num (by simp [proofmarklaw04_num]) (W_run 1000 ?_)
  simp -implicitDefEqProofs (disch := omega) only [go_sem, ↓reduceIte, reduceCtorEq, Nat.reduceEqDiff, Nat.zero_add, proofmarklaw04_num, zqh_0, zqh_1]
  refine call hT t_norm_Const (k_Const hT F hn hL) 1000 fun v σ hv => ?_
  obtain ⟨rfl, t', v2', v3', v4', ht, rfl⟩ := hv
  simp -implicitDefEqProofs (disch := omega) only [go_sem, ↓reduceIte, reduceCtorEq, Nat.reduceEqDiff]
  exact ⟨rfl, t', v2', v3', v4', ht, rfl⟩
theorem k_New (hT : TabOk P tab) (fmt : Int → List UInt8) {t : Nat} :
    C P G 0 n_term_New [] ⟨t, []⟩ fun v σ => ∃ v0 v1 v2 v3 v4 t', t ≤ t' ∧ v = .ptr 1 v0 0 ∧ σ = ⟨t', kG fmt v0 v1 v2 v3 v4 [] ++ []⟩ := by
  refine (c_New hT (Nat.zero_le _)).conseq fun v σ hv => ?_
  obtain ⟨v0, v1, v2, v3, v4, t1, i1, i2, i3, i4, ht1, rfl, rfl, rfl, rfl, rfl, rfl⟩ := hv
  exact ⟨v0, v1, v2, v3, v4, t1, ht1, rfl, rfl⟩
theorem ok_not {f : Nat} {L : List Nd} (hok : okN L) {x : Int} {r : GR} (h : notN f L x = some r) : okN r.2 := by
  unfold notN at h
  split at h
  · exact (binN_len (okN_addN hok (by unfold i64; decide) (by unfold i64; decide)) h).2.1
  · cases h; exact hok
abbrev bn (r : GR) (op x y : Int) : GR := (binN 30 r.2 op x y).getD (0, [])
def e1 : GR := symN [] 0
def e2 : GR := symN e1.2 1
def e3 : GR := numN e2.2 5
def e4 : GR := bn e3 1 0 2
def e5 : GR := numN e4.2 (-5)
def e6 : GR := bn e5 1 3 4
def e7 : GR := numN e6.2 3
def e8 : GR := bn e7 11 0 6
def e9 : GR := numN e8.2 8
def e10 : GR := bn e9 3 7 0
def e11 : GR := bn e10 14 0 1
def e12 : GR := bn e11 10 0 1
def e13 : GR := numN e12.2 1
def e14 : GR := bn e13 15 10 11
def e15 : GR := (notN 30 e14.2 9).getD (0, [])
def e16 : GR := numN e15.2 1
def e17 : GR := bn e16 10 9 11
def e18 : GR := bn e17 16 0 1
def e19 : GR := cellN e18.2 0 0 0
theorem n1 : e1.1 = 0 := by kernel_rfl
theorem z1 : e1.2.length ≤ 1000000 := by rw [show e1.2.length = e1.2.length from rfl]; exact of_decide_eq_true (by kernel_rfl)
theorem o1 : okN e1.2 := okN_addN (by intro i d h; simp at h) (by unfold i64; decide) (by unfold i64; decide)
theorem n2 : e2.1 = 1 := by kernel_rfl
theorem z2 : e2.2.length ≤ 1000000 := by rw [show e2.2.length = e2.2.length from rfl]; exact of_decide_eq_true (by kernel_rfl)
theorem o2 : okN e2.2 := okN_addN o1 (by unfold i64; decide) (by unfold i64; decide)
theorem n3 : e3.1 = 2 := by kernel_rfl
theorem z3 : e3.2.length ≤ 1000000 := by rw [show e3.2.length = e3.2.length from rfl]; exact of_decide_eq_true (by kernel_rfl)
theorem o3 : okN e3.2 := okN_addN o2 (by unfold i64; decide) (by unfold i64; decide)
theorem n4 : e4.1 = 3 := by kernel_rfl
theorem z4 : e4.2.length ≤ 1000000 := by rw [show e4.2.length = e4.2.length from rfl]; exact of_decide_eq_true (by kernel_rfl)
theorem h4 : binN 30 e3.2 1 0 2 = some e4 := by kernel_rfl
theorem o4 : okN e4.2 := (binN_len o3 h4).2.1
theorem n5 : e5.1 = 4 := by kernel_rfl
theorem z5 : e5.2.length ≤ 1000000 := by rw [show e5.2.length = e5.2.length from rfl]; exact of_decide_eq_true (by kernel_rfl)
theorem o5 : okN e5.2 := okN_addN o4 (by unfold i64; decide) (by unfold i64; decide)
theorem n6 : e6.1 = 0 := by kernel_rfl
theorem z6 : e6.2.length ≤ 1000000 := by rw [show e6.2.length = e6.2.length from rfl]; exact of_decide_eq_true (by kernel_rfl)
theorem h6 : binN 30 e5.2 1 3 4 = some e6 := by kernel_rfl
theorem o6 : okN e6.2 := (binN_len o5 h6).2.1
theorem n7 : e7.1 = 6 := by kernel_rfl
theorem o7 : okN e7.2 := okN_addN o6 (by unfold i64; decide) (by unfold i64; decide)
theorem n8 : e8.1 = 8 := by kernel_rfl
theorem z8 : e8.2.length ≤ 1000000 := by rw [show e8.2.length = e8.2.length from rfl]; exact of_decide_eq_true (by kernel_rfl)
theorem h8 : binN 30 e7.2 11 0 6 = some e8 := by kernel_rfl
theorem o8 : okN e8.2 := (binN_len o7 h8).2.1
theorem n9 : e9.1 = 7 := by kernel_rfl
theorem z9 : e9.2.length ≤ 1000000 := by rw [show e9.2.length = e9.2.length from rfl]; exact of_decide_eq_true (by kernel_rfl)
theorem o9 : okN e9.2 := okN_addN o8 (by unfold i64; decide) (by unfold i64; decide)
theorem n10 : e10.1 = 8 := by kernel_rfl
theorem z10 : e10.2.length ≤ 1000000 := by rw [show e10.2.length = e10.2.length from rfl]; exact of_decide_eq_true (by kernel_rfl)
theorem h10 : binN 30 e9.2 3 7 0 = some e10 := by kernel_rfl
theorem o10 : okN e10.2 := (binN_len o9 h10).2.1
theorem n11 : e11.1 = 9 := by kernel_rfl
theorem z11 : e11.2.length ≤ 1000000 := by rw [show e11.2.length = e11.2.length from rfl]; exact of_decide_eq_true (by kernel_rfl)
theorem h11 : binN 30 e10.2 14 0 1 = some e11 := by kernel_rfl
theorem o11 : okN e11.2 := (binN_len o10 h11).2.1
theorem n12 : e12.1 = 10 := by kernel_rfl
theorem z12 : e12.2.length ≤ 1000000 := by rw [show e12.2.length = e12.2.length from rfl]; exact of_decide_eq_true (by kernel_rfl)
theorem h12 : binN 30 e11.2 10 0 1 = some e12 := by kernel_rfl
theorem o12 : okN e12.2 := (binN_len o11 h12).2.1
theorem n13 : e13.1 = 11 := by kernel_rfl
theorem o13 : okN e13.2 := okN_addN o12 (by unfold i64; decide) (by unfold i64; decide)
theorem n14 : e14.1 = 12 := by kernel_rfl
theorem z14 : e14.2.length ≤ 1000000 := by rw [show e14.2.length = e14.2.length from rfl]; exact of_decide_eq_true (by kernel_rfl)
theorem h14 : binN 30 e13.2 15 10 11 = some e14 := by kernel_rfl
theorem o14 : okN e14.2 := (binN_len o13 h14).2.1
theorem n15 : e15.1 = 13 := by kernel_rfl
theorem z15 : e15.2.length ≤ 1000000 := by rw [show e15.2.length = e15.2.length from rfl]; exact of_decide_eq_true (by kernel_rfl)
theorem h15 : notN 30 e14.2 9 = some e15 := by kernel_rfl
theorem o15 : okN e15.2 := ok_not o14 h15
theorem n16 : e16.1 = 11 := by kernel_rfl
theorem o16 : okN e16.2 := okN_addN o15 (by unfold i64; decide) (by unfold i64; decide)
theorem n17 : e17.1 = 13 := by kernel_rfl
theorem z17 : e17.2.length ≤ 1000000 := by rw [show e17.2.length = e17.2.length from rfl]; exact of_decide_eq_true (by kernel_rfl)
theorem h17 : binN 30 e16.2 10 9 11 = some e17 := by kernel_rfl
theorem o17 : okN e17.2 := (binN_len o16 h17).2.1
theorem n18 : e18.1 = 12 := by kernel_rfl
theorem z18 : e18.2.length ≤ 1000000 := by rw [show e18.2.length = e18.2.length from rfl]; exact of_decide_eq_true (by kernel_rfl)
theorem h18 : binN 30 e17.2 16 0 1 = some e18 := by kernel_rfl
theorem n19 : e19.1 = 14 := by kernel_rfl
theorem c_worksN (hT : TabOk P tab) (F : Fmt P G) (SO : SortOk P) (hP : Bits P G) (hF : F.fmt = fmt10) : Pure P G n_proofmarklaw04_works [] fun v => v = .bool true := by
  intro t
  refine C_keep 0 (Nat.zero_le _) (C_tab hT t_proofmarklaw04_works (by simp [proofmarklaw04_works]) (W_run 1000 ?_))
  simp -implicitDefEqProofs (disch := omega) only [go_sem, ↓reduceIte, proofmarklaw04_works, zq6_0, zq6_1, zq6_2, zq6_3, zq6_4, zq6_5, zq6_6, zq6_7]
  refine call hT t_term_New (k_New hT F.fmt) 1000 fun v σ hv => ?_
  obtain ⟨v0, v1, a2, a3, a4, t0, ht0, rfl, rfl⟩ := hv
  simp -implicitDefEqProofs (disch := omega) only [go_sem, ↓reduceIte, reduceCtorEq, Nat.reduceEqDiff]
  refine call hT t_norm_Sym (show C P G 0 _ _ _ (PostN F.fmt e1 v0 v1 [] _) from k_Sym hT F (n := 0) (by unfold i64; decide) (by decide)) 1000 fun v σ hv => ?_
  obtain ⟨rfl, u1, b1, c1, d1, hu1, rfl⟩ := hv
  simp -implicitDefEqProofs (disch := omega) only [go_sem, ↓reduceIte, reduceCtorEq, Nat.reduceEqDiff, n1]
  refine call hT t_norm_Sym (show C P G 0 _ _ _ (PostN F.fmt e2 v0 v1 [] _) from k_Sym hT F (n := 1) (by unfold i64; decide) (by exact z1)) 1000 fun v σ hv => ?_
  obtain ⟨rfl, u2, b2, c2, d2, hu2, rfl⟩ := hv
  simp -implicitDefEqProofs (disch := omega) only [go_sem, ↓reduceIte, reduceCtorEq, Nat.reduceEqDiff, n2]
  refine call hT t_proofmarklaw04_num (show C P G 0 _ _ _ (PostN F.fmt e3 v0 v1 [] _) from k_lnum hT F (n := 5) (by unfold i64; decide) z2) 1000 fun v σ hv => ?_
  obtain ⟨rfl, u3, b3, c3, d3, hu3, rfl⟩ := hv
  simp -implicitDefEqProofs (disch := omega) only [go_sem, ↓reduceIte, reduceCtorEq, Nat.reduceEqDiff, n3]
  refine call hT t_norm_Bin (k_Bin hT F hP 30 o3 (by decide) z4 h4) 1000 fun v σ hv => ?_
  obtain ⟨rfl, u4, b4, c4, d4, hu4, rfl⟩ := hv
  simp -implicitDefEqProofs (disch := omega) only [go_sem, ↓reduceIte, reduceCtorEq, Nat.reduceEqDiff, n4]
  refine call hT t_proofmarklaw04_num (show C P G 0 _ _ _ (PostN F.fmt e5 v0 v1 [] _) from k_lnum hT F (n := (-5)) (by unfold i64; decide) z4) 1000 fun v σ hv => ?_
  obtain ⟨rfl, u5, b5, c5, d5, hu5, rfl⟩ := hv
  simp -implicitDefEqProofs (disch := omega) only [go_sem, ↓reduceIte, reduceCtorEq, Nat.reduceEqDiff, n5]
  refine call hT t_norm_Bin (k_Bin hT F hP 30 o5 (by decide) z6 h6) 1000 fun v σ hv => ?_
  obtain ⟨rfl, u6, b6, c6, d6, hu6, rfl⟩ := hv
  simp -implicitDefEqProofs (disch := omega) only [go_sem, ↓reduceIte, reduceCtorEq, Nat.reduceEqDiff, n6]
  refine call hT t_proofmarklaw04_num (show C P G 0 _ _ _ (PostN F.fmt e7 v0 v1 [] _) from k_lnum hT F (n := 3) (by unfold i64; decide) z6) 1000 fun v σ hv => ?_
  obtain ⟨rfl, u7, b7, c7, d7, hu7, rfl⟩ := hv
  simp -implicitDefEqProofs (disch := omega) only [go_sem, ↓reduceIte, reduceCtorEq, Nat.reduceEqDiff, n7]
  refine call hT t_norm_Bin (k_Bin hT F hP 30 o7 (by decide) z8 h8) 1000 fun v σ hv => ?_
  obtain ⟨rfl, u8, b8, c8, d8, hu8, rfl⟩ := hv
  simp -implicitDefEqProofs (disch := omega) only [go_sem, ↓reduceIte, reduceCtorEq, Nat.reduceEqDiff, n8]
  refine call hT t_proofmarklaw04_num (show C P G 0 _ _ _ (PostN F.fmt e9 v0 v1 [] _) from k_lnum hT F (n := 8) (by unfold i64; decide) z8) 1000 fun v σ hv => ?_
  obtain ⟨rfl, u9, b9, c9, d9, hu9, rfl⟩ := hv
  simp -implicitDefEqProofs (disch := omega) only [go_sem, ↓reduceIte, reduceCtorEq, Nat.reduceEqDiff, n9]
  refine call hT t_norm_Bin (k_Bin hT F hP 30 o9 (by decide) z10 h10) 1000 fun v σ hv => ?_
  obtain ⟨rfl, u10, b10, c10, d10, hu10, rfl⟩ := hv
  simp -implicitDefEqProofs (disch := omega) only [go_sem, ↓reduceIte, reduceCtorEq, Nat.reduceEqDiff, n10]
  refine call hT t_norm_Bin (k_Bin hT F hP 30 o10 (by decide) z11 h11) 1000 fun v σ hv => ?_
  obtain ⟨rfl, u11, b11, c11, d11, hu11, rfl⟩ := hv
  simp -implicitDefEqProofs (disch := omega) only [go_sem, ↓reduceIte, reduceCtorEq, Nat.reduceEqDiff, n11]
  refine call hT t_norm_Bin (k_Bin hT F hP 30 o11 (by decide) z12 h12) 1000 fun v σ hv => ?_
  obtain ⟨rfl, u12, b12, c12, d12, hu12, rfl⟩ := hv
  simp -implicitDefEqProofs (disch := omega) only [go_sem, ↓reduceIte, reduceCtorEq, Nat.reduceEqDiff, n12]
  refine call hT t_proofmarklaw04_num (show C P G 0 _ _ _ (PostN F.fmt e13 v0 v1 [] _) from k_lnum hT F (n := 1) (by unfold i64; decide) z12) 1000 fun v σ hv => ?_
  obtain ⟨rfl, u13, b13, c13, d13, hu13, rfl⟩ := hv
  simp -implicitDefEqProofs (disch := omega) only [go_sem, ↓reduceIte, reduceCtorEq, Nat.reduceEqDiff, n13]
  refine call hT t_norm_Bin (k_Bin hT F hP 30 o13 (by decide) z14 h14) 1000 fun v σ hv => ?_
  obtain ⟨rfl, u14, b14, c14, d14, hu14, rfl⟩ := hv
  have htx : textL F.fmt e14.2 8 = [40, 115, 48, 32, 42, 32, 56, 41] := by rw [hF]; kernel_rfl
  simp -implicitDefEqProofs (disch := omega) only [go_sem, ↓reduceIte, reduceCtorEq, Nat.reduceAdd, Nat.reduceEqDiff, beq_self_eq_true, n14, beq_self_eq_true]
  refine call hT t_term_Graph_Text (k_Text hT F SO z14 o14) 1000 fun v σ hv => ?_
  obtain ⟨rfl, ux, hux, rfl⟩ := hv
  rw [htx]
  simp -implicitDefEqProofs (disch := omega) only [go_sem, ↓reduceIte, reduceCtorEq, Nat.reduceAdd, Nat.reduceEqDiff, beq_self_eq_true]
  refine call hT t_norm_Not (k_Not hT F hP 30 o14 z15 h15) 1000 fun v σ hv => ?_
  obtain ⟨rfl, u15, b15, c15, d15, hu15, rfl⟩ := hv
  simp -implicitDefEqProofs (disch := omega) only [go_sem, ↓reduceIte, reduceCtorEq, Nat.reduceAdd, Nat.reduceEqDiff, n15]
  refine call hT t_proofmarklaw04_num (show C P G 0 _ _ _ (PostN F.fmt e16 v0 v1 [] _) from k_lnum hT F (n := 1) (by unfold i64; decide) z15) 1000 fun v σ hv => ?_
  obtain ⟨rfl, u16, b16, c16, d16, hu16, rfl⟩ := hv
  simp -implicitDefEqProofs (disch := omega) only [go_sem, ↓reduceIte, reduceCtorEq, Nat.reduceAdd, Nat.reduceEqDiff, n16]
  refine call hT t_norm_Bin (k_Bin hT F hP 30 o16 (by decide) z17 h17) 1000 fun v σ hv => ?_
  obtain ⟨rfl, u17, b17, c17, d17, hu17, rfl⟩ := hv
  simp -implicitDefEqProofs (disch := omega) only [go_sem, ↓reduceIte, reduceCtorEq, Nat.reduceAdd, Nat.reduceEqDiff, beq_self_eq_true, n17]
  refine call hT t_norm_Bin (k_Bin hT F hP 30 o17 (by decide) z18 h18) 1000 fun v σ hv => ?_
  obtain ⟨rfl, u18, b18, c18, d18, hu18, rfl⟩ := hv
  simp -implicitDefEqProofs (disch := omega) only [go_sem, ↓reduceIte, reduceCtorEq, Nat.reduceAdd, Nat.reduceEqDiff, beq_self_eq_true, n18]
  refine call hT t_norm_Cell (show C P G 0 _ _ _ (PostN F.fmt e19 v0 v1 [] _) from k_CellN hT F (a := 0) (n := 0) (y := 0) (by unfold i64; decide) (by unfold i64; decide) z18) 1000 fun v σ hv => ?_
  obtain ⟨rfl, u19, b19, c19, d19, hu19, rfl⟩ := hv
  simp -implicitDefEqProofs (disch := omega) only [go_sem, ↓reduceIte, reduceCtorEq, Nat.reduceAdd, Nat.reduceEqDiff, Nat.zero_le, kG_len0, true_and, n19]
  rfl
end Go.Proofs.YtpdeoalocejodaaGreatDoor
