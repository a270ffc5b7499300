/- Terms made plain: the graph grows by little. -/
import Derived.Test.YtpdeoalocejodaaGreatDoorJ6
import Derived.Test.YtpdeoalocejodaaGreatDoorJ10
/- Terms made plain: the graph grows by little. -/
namespace Go.Proofs.YtpdeoalocejodaaGreatDoor
open Go Go.Am
set_option maxRecDepth 100000
set_option maxHeartbeats 1000000
theorem len_add (L : List Nd) (d : Nd) : (addN L d).2.length ≤ L.length + 1 := by
  unfold addN
  split
  · split <;> simp
  · simp
theorem len_num (L : List Nd) (n : Int) : (numN L n).2.length ≤ L.length + 1 := len_add L _
theorem turn_len {bin : BinT} {L : List Nd} {op x y : Int} {p q : Option Int} {r s : GR} {g : Nat} (hs : ruleR bin L op x y p q = some s) (h1 : s.1 ≠ -1 → s.2.length ≤ L.length + g) (h2 : s.1 = -1 → s.2.length + 1 ≤ L.length + g) (h : turnR bin L op x y p q = some r) : r.2.length ≤ L.length + g := by
  unfold turnR thenR at h
  rw [hs] at h
  simp only [Option.bind_some] at h
  split at h
  · rename_i hne; cases h; exact h1 hne
  · rename_i hne
    cases h
    have := len_add s.2 ⟨4, 0, 0, op, x, y⟩
    have := h2 (Decidable.byContradiction fun h => hne h)
    show (addN s.2 ⟨4, 0, 0, op, x, y⟩).2.length ≤ _
    omega
theorem eq_len {bin : BinT} {L : List Nd} {b z : Int} {r : GR} (hb : booI L b = true) (hz : numI L z = some 0) (h : binR bin L 16 b z = some r) : r.2.length ≤ L.length + 1 := by
  unfold binR at h
  rw [hz] at h
  cases hn : numI L b with
  | some a => rw [hn] at h; cases h; exact len_num _ _
  | none =>
    rw [hn] at h
    simp only [Option.isSome_none, reduceCtorEq, false_and, or_self, and_false, Bool.false_eq_true, if_false] at h
    have hs : ∃ s, ruleR bin L 16 b z none (some 0) = some s ∧ (s = numN L 1 ∨ s.2 = L) := by
      unfold ruleR
      split
      · exact ⟨_, rfl, .inl (by simp [sameR])⟩
      · have e1 : fixedR L 16 b 0 = (-1, L) := by simp [fixedR, keepsW]
        have e2 : movedR bin L 16 b 0 = some (-1, L) := by simp [movedR]
        have e3 : groupR bin L 16 b 0 = some (-1, L) := by
          unfold groupR
          split
          · simp [groupsW]
          · rfl
        have o1 := boo_of (op := 1) hb hn (by omega)
        have o10 := boo_of (op := 10) hb hn (by omega)
        have o2 := boo_of (op := 2) hb hn (by omega)
        have e4 : equalR bin L 16 b 0 = some (-1, L) := by simp [equalR, tail_of o1, tail_of o10, o10, o2]
        simp only [numberR, e1, then_none, e2]
        unfold truthR
        rw [if_neg (by simp [hb]), if_neg (by omega), if_neg (by omega), if_neg (by omega)]
        split
        · split
          · rename_i h1
            rw [then_some (ne_of_in (booI_in h1.2.2))]; exact ⟨_, rfl, .inr rfl⟩
          · rw [then_none, e3, then_none, e4]; exact ⟨_, rfl, .inr rfl⟩
        · rw [then_none, e3, then_none, e4]; exact ⟨_, rfl, .inr rfl⟩
    obtain ⟨s, hs, hs2⟩ := hs
    refine turn_len hs (fun _ => ?_) (fun hm => ?_) h
    · rcases hs2 with rfl | h2
      · exact len_num _ _
      · rw [h2]; omega
    · rcases hs2 with rfl | h2
      · exact absurd hm (numN_get L 1).2.2.2
      · rw [h2]; omega
theorem xor_len {bin : BinT} {L : List Nd} {b z c : Int} {r : GR} (hb : booI L b = true) (hz : numI L z = some c) (hc : c % 2 = 0) (h : binR bin L 10 b z = some r) : r.2.length ≤ L.length + 1 := by
  unfold binR at h
  rw [hz] at h
  cases hn : numI L b with
  | some a => rw [hn] at h; cases h; exact len_num _ _
  | none =>
    rw [hn] at h
    simp only [Option.isSome_none, reduceCtorEq, false_and, or_self, and_false, Bool.false_eq_true, if_false] at h
    have hs : ∃ s, ruleR bin L 10 b z none (some c) = some s ∧ (s = numN L 0 ∨ s.2 = L) := by
      unfold ruleR
      split
      · exact ⟨_, rfl, .inl (by simp [sameR])⟩
      · have o10 := boo_of (op := 10) hb hn (by omega)
        have e2 : movedR bin L 10 b c = some (-1, L) := by simp [movedR]
        have e3 : truthR bin L 10 b c = some (-1, L) := by
          unfold truthR
          rw [if_neg (by simp [hb]), if_neg (by omega), if_neg (by omega), if_neg (by omega)]
          split
          · rw [if_neg (by omega)]
          · rfl
        have e4 : groupR bin L 10 b c = some (-1, L) := by simp [groupR, tail_of o10]
        have e5 : equalR bin L 10 b c = some (-1, L) := by simp [equalR]
        show ∃ s, numberR bin L 10 b c = some s ∧ _
        unfold numberR
        by_cases h0 : c = 0
        · have e1 : fixedR L 10 b c = (b, L) := by simp [fixedR, keepsW, h0]
          rw [e1, then_some (ne_of_in (booI_in hb))]; exact ⟨_, rfl, .inr rfl⟩
        · have e1 : fixedR L 10 b c = (-1, L) := by
            have : ¬ (0 : Int) = c := fun h => h0 h.symm
            simp [fixedR, keepsW, this]
          rw [e1, then_none, e2, then_none, e3, then_none, e4, then_none, e5]; exact ⟨_, rfl, .inr rfl⟩
    obtain ⟨s, hs, hs2⟩ := hs
    refine turn_len hs (fun _ => ?_) (fun hm => ?_) h
    · rcases hs2 with rfl | h2
      · exact len_num _ _
      · rw [h2]; omega
    · rcases hs2 with rfl | h2
      · exact absurd hm (numN_get L 0).2.2.2
      · rw [h2]; omega
def Grows (bin : BinT) (g : Nat) : Prop := ∀ L op x y r, okN L → inG L x → inG L y → (1 ≤ op ∧ op ≤ 16) → bin L op x y = some r → r.2.length ≤ L.length + g
theorem withN_len {bin : BinT} {g : Nat} (hg : Grows bin g) {L : List Nd} (hok : okN L) {op x n : Int} (hx : inG L x) (ho : 1 ≤ op ∧ op ≤ 16) (hn : i64 n) {r : GR} (h : withN bin L op x n = some r) : r.2.length ≤ L.length + g + 1 := by
  obtain ⟨h1, h2, h3, h4⟩ := numN_get L n
  have h5 : r.2.length ≤ (numN L n).2.length + g := hg _ _ _ _ _ (okN_addN hok hn (show i64 0 by unfold i64; omega)) (nd_ext h3 hx).1 h1 ho h
  have := len_num L n
  omega
theorem then_len {L : List Nd} {q : Option GR} {k : List Nd → Option GR} {r : GR} {m : Nat} (hq : ∀ s, q = some s → NoneL L s ∧ s.2.length ≤ m) (hk : k L = some r → r.2.length ≤ m) (h : thenR q k = some r) : r.2.length ≤ m := by
  unfold thenR at h
  cases q with
  | none => cases h
  | some s =>
    simp only [Option.bind_some] at h
    obtain ⟨h1, h2⟩ := hq s rfl
    split at h
    · cases h; exact h2
    · rename_i hne
      rcases h1 with h1 | h1
      · exact absurd h1 hne
      · rw [h1] at h; exact hk h
theorem number_len {f g : Nat} (hg : Grows (binF f) g) {L : List Nd} (hok : okN L) {op x c : Int} (hx : inG L x) (ho : 1 ≤ op ∧ op ≤ 16) (hc : i64 c) (hK : KeepB [] [] (binF f)) {r : GR} (h : numberR (binF f) L op x c = some r) : r.2.length ≤ L.length + g + 3 := by
  have i0 : i64 0 := by unfold i64; omega
  unfold numberR at h
  refine then_len (fun s hs => ⟨by cases hs; exact fixed_none hx, ?_⟩) (fun h => ?_) h
  · cases hs
    unfold fixedR
    have a0 := len_num L 0
    have a1 := len_num L (-1)
    repeat' split
    all_goals (first | omega | (show L.length ≤ _; omega))
  refine then_len (fun s hs => ⟨moved_none hK hok hx hc hs, ?_⟩) (fun h => ?_) h
  · unfold movedR at hs
    have h64 : i64 (c % 64) := by unfold i64; omega
    split at hs
    · have := withN_len hg hok hx (by omega) (wrap_rg _) hs; omega
    split at hs
    · have := withN_len hg hok hx (by omega) (wrap_rg _) hs; omega
    split at hs
    · have := withN_len hg hok hx (by omega) h64 hs; omega
    split at hs
    · rename_i h'
      obtain ⟨k, hk'⟩ := Option.isSome_iff_exists.1 h'.2
      have hk2 := (powW_some hk').1
      rw [hk'] at hs
      have := withN_len hg hok hx (by omega) (show i64 ((k : Nat) : Int) by unfold i64; omega) hs; omega
    split at hs
    · have := withN_len hg hok hx (by omega) (wrap_rg _) hs; omega
    split at hs
    · have := withN_len hg hok hx (by omega) i0 hs; omega
    · cases hs; show L.length ≤ _; omega
  refine then_len (fun s hs => ⟨truth_none hK hok hc hs, ?_⟩) (fun h => ?_) h
  · unfold truthR at hs
    split at hs
    · cases hs; show L.length ≤ _; omega
    rename_i hbo
    have hbo : booI L x = true := by simpa using hbo
    split at hs
    · cases hs; show L.length ≤ _; omega
    split at hs
    · cases hs; have := len_num L 0; omega
    split at hs
    · rename_i h5
      cases hq : withN (binF f) L 16 x 0 with
      | none => rw [hq] at hs; cases hs
      | some q =>
        rw [hq] at hs
        simp only [Option.bind_some] at hs
        have l1 := withN_len hg hok hx (by omega) i0 hq
        have hbq := withN_boo (binF_boo f) hok hx i0 hq
        obtain ⟨k1, k2, k3, k4⟩ := numN_get q.2 (doW 10 c 1)
        have l2 := len_num q.2 (doW 10 c 1)
        cases f with
        | zero => cases hs
        | succ f =>
          have l3 := xor_len (bin := binF f) (by rw [booI_ext k3 (booI_in hbq)]; exact hbq) k2 (xor1_even h5.2) hs
          omega
    split at hs
    · split at hs
      · cases hs; show L.length ≤ _; omega
      · cases hs; show L.length ≤ _; omega
    · cases hs; show L.length ≤ _; omega
  refine then_len (fun s hs => ⟨group_none hK hok ho hc hs, ?_⟩) (fun h => ?_) h
  · unfold groupR at hs
    split at hs
    · rename_i y d hta
      obtain ⟨t1, t2, t3, _⟩ := in_tail hok hta
      split at hs
      · have := withN_len hg hok t1 ho (do_i64 t3 hc) hs; omega
      · cases hs; show L.length ≤ _; omega
    · cases hs; show L.length ≤ _; omega
  unfold equalR at h
  split at h
  · cases h; show L.length ≤ _; omega
  split at h
  · rename_i y d hta
    obtain ⟨t1, t2, t3, _⟩ := in_tail hok hta
    have := withN_len hg hok t1 (by omega) (wrap_rg _) h; omega
  split at h
  · rename_i y d hta
    obtain ⟨t1, t2, t3, _⟩ := in_tail hok hta
    have := withN_len hg hok t1 (by omega) (do_i64 hc t3) h; omega
  split at h
  · rename_i u v hof
    obtain ⟨t1, t2, _⟩ := in_of hok hof
    split at h
    · have := hg _ _ _ _ _ hok t1 t2 (by omega) h; omega
    · cases h; show L.length ≤ _; omega
  split at h
  · rename_i u v hof
    obtain ⟨t1, t2, _⟩ := in_of hok hof
    split at h
    · have := hg _ _ _ _ _ hok t1 t2 (by omega) h; omega
    · cases h; show L.length ≤ _; omega
  · cases h; show L.length ≤ _; omega
theorem turn_grow {f g : Nat} (hg : Grows (binF f) g) {L : List Nd} (hok : okN L) {op x y : Int} (hx : inG L x) (hy : inG L y) (ho : 1 ≤ op ∧ op ≤ 16) (hK : KeepB [] [] (binF f)) {r : GR} (h : turnR (binF f) L op x y (numI L x) (numI L y) = some r) : r.2.length ≤ L.length + g + 4 := by
  cases hs : ruleR (binF f) L op x y (numI L x) (numI L y) with
  | none => unfold turnR thenR at h; rw [hs] at h; cases h
  | some s =>
    have hl : s.2.length ≤ L.length + g + 3 := by
      unfold ruleR at hs
      split at hs
      · cases hs
        have a0 := len_num L 0
        have a1 := len_num L 1
        unfold sameR
        repeat' split
        all_goals (first | omega | (show L.length ≤ _; omega))
      · split at hs
        · rename_i b hq
          exact number_len hg hok hx ho (numI_ok (S := []) (C := []) hok hq).2 hK hs
        · split at hs
          · rename_i h1
            obtain ⟨hp, rfl⟩ := h1
            cases hr : binF f L 16 y x with
            | none => rw [hr] at hs; cases hs
            | some q =>
              rw [hr] at hs
              simp only [Option.bind_some] at hs
              have l1 := hg _ _ _ _ _ hok hy hx (by omega) hr
              obtain ⟨g1, g2⟩ := hK _ _ _ _ _ hok hy hx (by omega) hr
              have hbq := binF_boo f _ _ _ _ hy hx hok hr
              cases f with
              | zero => cases hs
              | succ f =>
                have l3 := eq_len (bin := binF f) hbq (by rw [numI_ext g1.pre hx]; exact hp) hs
                omega
          · cases hs; show L.length ≤ _; omega
    have := turn_len (g := g + 4) hs (fun _ => by omega) (fun _ => by omega) h
    omega
theorem binF_grow : ∀ f, Grows (binF f) (4 * f)
  | 0 => fun L op x y r _ _ _ _ h => by cases h
  | f + 1 => fun L op x y r hok hx hy ho h => by
    have hg := binF_grow f
    have hK : KeepB [] [] (binF f) := binF_ok (fun L hok x => val_i64 (by simp) (by simp) (okN_i64 hok) x) f
    unfold binF binR at h
    split at h
    · rename_i a b _ _
      cases h
      have := len_num L (doW op a b)
      omega
    · split at h
      · have := turn_grow hg hok hy hx ho hK h; omega
      · have := turn_grow hg hok hx hy ho hK h; omega
end Go.Proofs.YtpdeoalocejodaaGreatDoor
/- The law NormBin. -/
namespace Go.Proofs.YtpdeoalocejodaaGreatDoor
open Go Go.Am
set_option maxRecDepth 100000
set_option maxHeartbeats 4000000
variable {P : Program} {G : Nat → Option V}
theorem fy_lst {k w z : Nat} {cs l : List V} {b : Bool} : frzV k w cs (.lst z l b) = .lst z l b := rfl
theorem fy_int {k w : Nat} {cs : List V} {t : IntKind} {i : Int} : frzV k w cs (.int t i) = .int t i := rfl
theorem fy_bool {k w : Nat} {cs : List V} {b : Bool} : frzV k w cs (.bool b) = .bool b := rfl
theorem binN_made {L : List Nd} (hok : okN L) {op x y : Int} (hx : wt L x ≤ 2000) (hy : wt L y ≤ 2000) : ∃ r, binN 4004 L op x y = some r ∧ r.2.length ≤ L.length + 16016 ∧ okN r.2 ∧ L <+: r.2 ∧ (¬ (inG L x ∧ inG L y ∧ (1 ≤ op ∧ op ≤ 16)) → r = (-1, L)) ∧ ((inG L x ∧ inG L y ∧ (1 ≤ op ∧ op ≤ 16)) → ∀ S C, (∀ x ∈ S, i64 x) → (∀ c ∈ C, i64 c.n) → inG r.2 r.1 ∧ val S C r.2 r.1 = doW op (val S C L x) (val S C L y)) := by
  by_cases h : inG L x ∧ inG L y ∧ (1 ≤ op ∧ op ≤ 16)
  · have h1 := hard_le op
    have he : 2 * max (wt L x) (wt L y) + hard op < 4004 := by
      omega
    obtain ⟨r, hr⟩ := Option.isSome_iff_exists.1 (binF_end 4004 L op x y hok h.1 h.2.1 h.2.2 he)
    have hg := binF_grow 4004 _ _ _ _ _ hok h.1 h.2.1 h.2.2 hr
    have hb : binN 4004 L op x y = some r := by rw [binN, if_pos h, hr]
    obtain ⟨_, l2, l3⟩ := binN_len hok hb
    refine ⟨r, hb, by omega, l2, l3, fun hn => absurd h hn, fun _ S C hS hC => ?_⟩
    obtain ⟨k1, k2⟩ := binF_ok (S := S) (C := C) (fun L hok x => val_i64 hS hC (okN_i64 hok) x) 4004 _ _ _ _ _ hok h.1 h.2.1 h.2.2 hr
    exact k1.val k2
  · have hb : binN 4004 L op x y = some (-1, L) := by rw [binN, if_neg h]
    exact ⟨_, hb, by show L.length ≤ _; omega, hok, List.prefix_rfl, fun _ => rfl, fun h' => absurd h' h⟩
theorem notN_made {L : List Nd} (hok : okN L) {x : Int} (hx : wt L x ≤ 2000) (hL : inG L x) : ∃ r, notN 4004 L x = some r ∧ r.2.length ≤ L.length + 16017 ∧ okN r.2 ∧ L <+: r.2 ∧ (∀ S C, (∀ x ∈ S, i64 x) → (∀ c ∈ C, i64 c.n) → inG r.2 r.1 ∧ val S C r.2 r.1 = doW 16 (val S C L x) 0) := by
  have i0 : i64 0 := by unfold i64; omega
  obtain ⟨h1, h2, h3, h4⟩ := numN_get L 0
  have hok1 : okN (numN L 0).2 := okN_addN hok i0 i0
  have hx1 := (nd_ext h3 hL).1
  have hl := len_num L 0
  obtain ⟨r, hr, g1, g2, g3, g4, g5⟩ := binN_made hok1 (op := 16) (x := x) (y := (numN L 0).1) (by rw [wt_ext h3 hL]; exact hx) (by rw [wt_num h2]; omega)
  refine ⟨r, by rw [notN, if_pos hL]; exact hr, by omega, g2, h3.trans g3, fun S C hS hC => ?_⟩
  obtain ⟨k1, k2⟩ := g5 ⟨hx1, h1, by omega⟩ S C hS hC
  rw [val_ext h3 hL, (numI_ok (S := S) (C := C) hok1 h2).1] at k2
  exact ⟨k1, k2⟩
theorem notN_out {f : Nat} {L : List Nd} {x : Int} (h : ¬ inG L x) : notN f L x = some (-1, L) := by rw [notN, if_neg h]
theorem binN_out {f : Nat} {L : List Nd} {op x y : Int} (h : ¬ (inG L x ∧ inG L y ∧ (1 ≤ op ∧ op ≤ 16))) : binN f L op x y = some (-1, L) := by rw [binN, if_neg h]
theorem madeL_le (l : List Nd) : (madeL l).length ≤ l.length := by
  have hA := madeL_len l []
  have hAe : madeL l = l.foldl (fun L d => (addN L d).2) [] := rfl
  rw [← hAe] at hA
  simpa using hA
theorem c_NormBin (hT : TabOk P tab) (F : Fmt P G) (SO : SortOk P) (hP : Bits P G) (hW : Pure P G n_proofmarklaw04_works [] fun v => v = .bool true) {t : Nat} (l : List Nd) (tl : Bool) (hl : ∀ d ∈ l, i64 d.n ∧ i64 d.a)
    (S : List Int) (tS : Bool) (C' : List Cl) (tC : Bool) (op x y : Int) (ho : 0 ≤ op ∧ op ≤ 255) (hS : ∀ x ∈ S, i64 x) (hCn : ∀ c ∈ C', i64 c.n) :
   C P G 0 n_proofmarklaw04_NormBin [.lst 6 (l.map fun d => .agg d.cells) tl, envV S tS 4 C' tC, .int .u8 op, .int .i64 x, .int .i64 y] ⟨t, []⟩ fun v _ => v = .bool true := by
  have hA := madeL_le l
  have hok := okN_made l hl
  have hfew := c_few (P := P) (G := G) hT S tS 4 C' tC
  refine C_tab hT t_proofmarklaw04_NormBin (by simp [proofmarklaw04_NormBin]) (W_run 14 ?_)
  by_cases h1 : (40 : Int) < l.length
  · have h1' : decide ((40 : Int) < l.length) = true := by simpa using h1
    simp -implicitDefEqProofs (disch := omega) only [go_sem, ↓reduceIte, reduceCtorEq, Nat.reduceAdd, Nat.reduceEqDiff, Nat.zero_add, decide_true, gt_iff_lt, proofmarklaw04_NormBin, zq3_0, zq3_1, zq3_2, zq3_3, zq3_4, zq3_5, zq3_6, zq3_7, zq3_8, zq3_9, zq3_10, zq3_11, zq3_12, zq3_13, zq3_14, zq3_15, zq3_16, zq3_17, zq3_18, zq3_19, zq3_20, envV, List.length_map, List.length_nil, List.nil_append, and_true, h1]
    iterate 9 (try (refine run_sem 4 ?_; simp -implicitDefEqProofs (disch := omega) only [go_sem, ↓reduceIte, reduceCtorEq, Nat.reduceEqDiff]))
    refine callPS hT t_proofmarklaw04_works hW rfl 1000 ?_
    simp -implicitDefEqProofs (disch := omega) only [go_sem, ↓reduceIte, reduceCtorEq, Nat.reduceEqDiff]
  · have h1' : decide ((40 : Int) < l.length) = false := by simpa using h1
    simp -implicitDefEqProofs (disch := omega) only [go_sem, ↓reduceIte, reduceCtorEq, Nat.reduceAdd, Nat.reduceEqDiff, Nat.zero_add, decide_false, Nat.le_refl, gt_iff_lt, proofmarklaw04_NormBin, zq3_0, zq3_1, zq3_2, zq3_3, zq3_4, zq3_5, zq3_6, zq3_7, zq3_8, zq3_9, zq3_10, zq3_11, zq3_12, zq3_13, zq3_14, zq3_15, zq3_16, zq3_17, zq3_18, zq3_19, zq3_20, envV, List.length_map, List.length_cons, List.length_nil, List.nil_append, List.take_succ_cons, List.take_nil, false_implies, and_true, h1]
    by_cases h2 : S.length ≤ 60 ∧ C'.length ≤ 60
    · have h2' : decide (S.length ≤ 60 ∧ C'.length ≤ 60) = true := by simpa using h2
      rw [h2'] at hfew
      refine callPS hT t_proofmarklaw04_few hfew rfl 6 ?_
      simp -implicitDefEqProofs (disch := omega) only [go_sem, ↓reduceIte, reduceCtorEq, Nat.reduceAdd, Nat.reduceEqDiff, Bool.not_true, Bool.not_true]
      refine sem_shift (Shift.freeze (k := 0) (v := t) (T := 48) (cs := [.lst 1 (nints S) tS, .lst 4 (C'.map Cl.v) tC]) (Nat.zero_le _) rfl rfl) ?_
      have hfp : frzV 0 t [V.lst 1 (nints S) tS, .lst 4 (C'.map Cl.v) tC] (.ptr 0 t 0) = .ref (.agg [V.lst 1 (nints S) tS, .lst 4 (C'.map Cl.v) tC]) 0 := by simp [frzV]
      simp only [hfp, List.set_cons_zero, frzFr_cons, frzFr_nil, fy_lst, fy_int, fy_bool, mapFrom, Option.map_none]
      refine sem_shift (Shift.drop (o' := []) (t' := t + 1) (by simp [subObs]) (Nat.le_refl _) (Nat.zero_le _)) (run_sem 1000 ?_)
      simp -implicitDefEqProofs (disch := omega) only [go_sem, ↓reduceIte, reduceCtorEq, Nat.reduceEqDiff]
      refine call hT t_proofmarkkit_Made (c_Made hT F l tl hl (by omega)) 1000 fun v σ hv => ?_
      obtain ⟨v0, v1, v2, v3, v4, c1, u, hc1, rfl, rfl⟩ := hv
      obtain ⟨ex, hex⟩ : ∃ ex : List (Option Ob), ex = [] := ⟨_, rfl⟩
      rw [show kG F.fmt v0 v1 v2 v3 v4 (madeL l) = kG F.fmt v0 v1 v2 v3 v4 (madeL l) ++ ex by rw [hex, List.append_nil]]
      clear hex
      generalize madeL l = L at *
      simp -implicitDefEqProofs (disch := omega) only [go_sem, ↓reduceIte, reduceCtorEq, Nat.reduceAdd, Nat.reduceEqDiff, Nat.reduceLT, Nat.zero_add, List.length_cons, List.length_nil]
      refine call hT t_term_Graph_Size (k_Size hT) 1000 fun v σ hv => ?_
      obtain ⟨rfl, c2, hc2, rfl⟩ := hv
      by_cases hz : L.length = 0
      · have hni : ∀ x, ¬ inG L x := fun x h => by unfold inG at h; omega
        have hz' : ((L.length : Nat) : Int) = 0 := by omega
        simp -implicitDefEqProofs (disch := omega) only [go_sem, ↓reduceIte, reduceCtorEq, Nat.reduceEqDiff, beq_self_eq_true, hz']
        refine call hT t_norm_Bin (k_Bin hT F hP 4004 hok ho (r := (-1, L)) (by show L.length ≤ _; omega) (binN_out fun h => hni _ h.1)) 1000 fun v σ hv => ?_
        obtain ⟨rfl, c3, w2, w3, w4, hc3, rfl⟩ := hv
        simp -implicitDefEqProofs (disch := omega) only [go_sem, ↓reduceIte, reduceCtorEq, Nat.reduceAdd, Nat.reduceEqDiff, beq_self_eq_true]
        refine call hT t_norm_Not (k_Not hT F hP 4004 hok (r := (-1, L)) (by show L.length ≤ _; omega) (notN_out (hni _))) 1000 fun v σ hv => ?_
        obtain ⟨rfl, c4, u2, u3, u4, hc4, rfl⟩ := hv
        simp -implicitDefEqProofs (disch := omega) only [go_sem, ↓reduceIte, reduceCtorEq, Nat.reduceAdd, Nat.reduceEqDiff, beq_self_eq_true]
        refine callPS hT t_proofmarklaw04_works hW rfl 1000 ?_
        simp -implicitDefEqProofs (disch := omega) only [go_sem, ↓reduceIte, reduceCtorEq, Nat.reduceEqDiff]
      · have hz' : ¬ ((L.length : Nat) : Int) = 0 := by omega
        simp -implicitDefEqProofs (disch := omega) only [go_sem, ↓reduceIte, reduceCtorEq, Nat.reduceEqDiff, false_implies, true_implies, true_and, not_false_eq_true, hz']
        refine call hT t_proofmarklaw04_at (k_at hT (by simp) (by omega)) 1000 fun v σ hv => ?_
        obtain ⟨rfl, c3, hc3, rfl⟩ := hv
        simp -implicitDefEqProofs (disch := omega) only [go_sem, ↓reduceIte, reduceCtorEq, Nat.reduceEqDiff]
        refine call hT t_proofmarklaw04_at (k_at hT (by simp) (by omega)) 1000 fun v σ hv => ?_
        obtain ⟨rfl, c4, hc4, rfl⟩ := hv
        have ha := pick_in (i := x) hz
        have hb := pick_in (i := y) hz
        generalize pickI x L.length = a at *
        generalize pickI y L.length = b at *
        have e1 : ofV S C' L a = .tup [.int .i64 (val S C' L a), .bool true] := by rw [ofV, if_pos (show 0 ≤ a ∧ a < (L.length : Int) from ha)]
        have e2 : ofV S C' L b = .tup [.int .i64 (val S C' L b), .bool true] := by rw [ofV, if_pos (show 0 ≤ b ∧ b < (L.length : Int) from hb)]
        simp -implicitDefEqProofs (disch := omega) only [go_sem, ↓reduceIte, reduceCtorEq, Nat.reduceAdd, Nat.reduceEqDiff, Nat.zero_add, Nat.le_refl, List.length_cons, List.length_nil, List.take_succ_cons, List.take_nil, false_implies, and_true]
        refine call hT t_value_Of (k_Of hT SO (by omega) hok S hS tS C' (by omega) hCn tC a) 1000 fun v σ hv => ?_
        obtain ⟨rfl, c5, hc5, rfl⟩ := hv
        rw [e1]
        simp -implicitDefEqProofs (disch := omega) only [go_sem, ↓reduceIte, reduceCtorEq, Nat.reduceAdd, Nat.reduceEqDiff, Nat.reduceLT, Nat.zero_add, Nat.le_refl, List.length_cons, List.length_nil, List.take_succ_cons, List.take_nil, false_implies, and_true]
        refine call hT t_value_Of (k_Of hT SO (by omega) hok S hS tS C' (by omega) hCn tC b) 1000 fun v σ hv => ?_
        obtain ⟨rfl, c6, hc6, rfl⟩ := hv
        rw [e2]
        simp -implicitDefEqProofs (disch := omega) only [go_sem, ↓reduceIte, reduceCtorEq, Nat.reduceAdd, Nat.reduceEqDiff, Nat.reduceLT, Nat.zero_add, List.length_cons, List.length_nil]
        refine call hT t_term_Graph_Node (k_Node hT) 1000 fun v σ hv => ?_
        obtain ⟨rfl, c7, hc7, rfl⟩ := hv
        have ha' : 0 ≤ a ∧ a < L.length := ha
        have i0 : i64 0 := by unfold i64; omega
        have hpi : i64 (val S C' L a) := val_i64 hS hCn (okN_i64 hok) a
        have hqi : i64 (val S C' L b) := val_i64 hS hCn (okN_i64 hok) b
        have wa : wt L a ≤ 2000 := by have := wt_le hok a; have := ha.2; omega
        have wb : wt L b ≤ 2000 := by have := wt_le hok b; have := hb.2; omega
        obtain ⟨r1, hr1, l1, k1, p1, n1, g1⟩ := binN_made hok (op := op) (x := a) (y := b) wa wb
        obtain ⟨r2, hr2, l2, k2, p2, g2⟩ := notN_made k1 (x := a) (by rw [wt_ext p1 ha]; exact wa) (nd_ext p1 ha).1
        obtain ⟨g3, g4⟩ := g2 S C' hS hCn
        rw [val_ext p1 ha] at g4
        have e4 : ofV S C' r2.2 r2.1 = .tup [.int .i64 (doW 16 (val S C' L a) 0), .bool true] := by rw [ofV, if_pos (show 0 ≤ r2.1 ∧ r2.1 < (r2.2.length : Int) from g3), g4]
        have hd16 := c_rDo (P := P) (G := G) hT 16 (val S C' L a) 0 (by omega) hpi i0
        have hdop := c_rDo (P := P) (G := G) hT op (val S C' L a) (val S C' L b) ho hpi hqi
        have hkn := c_rKnown (P := P) (G := G) hT op
        have o1 : binN 4004 r2.2 op (-1) b = some (-1, r2.2) := binN_out fun h => by have := h.1.1; omega
        have o2 : binN 4004 r2.2 op a (r2.2.length : Int) = some (-1, r2.2) := binN_out fun h => by have := h.2.1.2; omega
        have hlr : r2.2.length ≤ 1000000 := by omega
        have e3 : (¬ (1 ≤ op ∧ op ≤ 16) ∧ r1.1 = -1 ∧ ofV S C' r2.2 r1.1 = .tup [.int .i64 0, .bool false]) ∨ ((1 ≤ op ∧ op ≤ 16) ∧ ofV S C' r2.2 r1.1 = .tup [.int .i64 (doW op (val S C' L a) (val S C' L b)), .bool true]) := by
          by_cases hop : 1 ≤ op ∧ op ≤ 16
          · obtain ⟨q1, q2⟩ := g1 ⟨ha, hb, hop⟩ S C' hS hCn
            right
            have q3 := (nd_ext p2 q1).1
            rw [ofV, if_pos (show 0 ≤ r1.1 ∧ r1.1 < (r2.2.length : Int) from q3), val_ext p2 q1, q2]
            exact ⟨hop, rfl⟩
          · left
            have q1 := n1 fun h => hop h.2.2
            rw [q1]
            refine ⟨hop, rfl, ?_⟩
            rw [ofV, if_neg (by intro h; have := h.1; omega)]
        have e : L.getD a.toNat zeroNd = nd L a := rfl
        rw [if_pos ha', e]
        have hbe : booI L a = decide (((nd L a).kind = 4 ∧ ((nd L a).op = 14 ∨ (nd L a).op = 15 ∨ (nd L a).op = 16)) ∨ ((nd L a).kind = 1 ∧ ((nd L a).n = 0 ∨ (nd L a).n = 1))) := by simp [booI, ha]
        have hnu : numV L a = if (nd L a).kind = 1 then .tup [.int .i64 (nd L a).n, .bool true] else .tup [.int .i64 0, .bool false] := by
          unfold numV numI
          by_cases h : (nd L a).kind = 1
          · rw [if_pos ⟨ha, h⟩, if_pos h]
          · rw [if_neg fun q => h q.2, if_neg h]
        generalize nd L a = d at *
        have hpl := c_Plain (P := P) (G := G) hT d
        have hrb := c_rBool (P := P) (G := G) hT d
        rw [← hbe] at hrb
        simp -implicitDefEqProofs (disch := omega) only [go_sem, ↓reduceIte, reduceCtorEq, Nat.reduceAdd, Nat.reduceEqDiff, Nat.reduceLT, Nat.zero_add, Bool.not_false, Nat.le_refl, Nat.zero_le, Bool.not_false, kG_len0, kx_at, kx_set, List.length_append, List.length_cons, List.length_nil, List.append_assoc, List.cons_append, List.nil_append, List.take_zero, and_true, Nd.cells]
        refine call hT t_norm_Number (k_Number hT (by simp)) 1000 fun v σ hv => ?_
        obtain ⟨rfl, c8, hc8, rfl⟩ := hv
        rw [hnu]
        by_cases hk : d.kind = 1
        · rw [if_pos hk]
          simp only [Nd.cells, hk] at hpl hrb
          simp -implicitDefEqProofs (disch := omega) only [go_sem, ↓reduceIte, reduceCtorEq, Nat.reduceAdd, Nat.reduceEqDiff, Nat.reduceLeDiff, Nat.reduceLT, Nat.zero_add, Nat.add_zero, Bool.not_true, Nat.le_refl, beq_self_eq_true, bne_self_eq_false, Bool.not_true, kG_len0, kx_at, List.length_append, List.length_cons, List.length_nil, List.take_succ_cons, List.take_nil, false_implies, true_implies, and_true, hk, bne_self_eq_false, beq_self_eq_true]
          refine call hT t_norm_Bool (k_Bool hT (by simp)) 1000 fun v σ hv => ?_
          obtain ⟨rfl, c9, hc9, rfl⟩ := hv
          simp -implicitDefEqProofs (disch := omega) only [go_sem, ↓reduceIte, reduceCtorEq, Nat.reduceAdd, Nat.reduceEqDiff]
          refine callPS hT t_proofmarkkit_PlainNode hpl rfl 1000 ?_
          simp -implicitDefEqProofs (disch := omega) only [go_sem, ↓reduceIte, reduceCtorEq, Nat.reduceAdd, Nat.reduceEqDiff]
          refine callPS hT t_proofmarkref04_Bool hrb rfl 1000 ?_
          simp -implicitDefEqProofs (disch := omega) only [go_sem, ↓reduceIte, reduceCtorEq, Nat.reduceAdd, Nat.reduceEqDiff, bne_self_eq_false, bne_self_eq_false]
          refine call hT t_norm_Bin (k_Bin hT F hP 4004 hok ho (by omega) hr1) 1000 fun v σ hv => ?_
          obtain ⟨rfl, d1, w2, w3, w4, hd1, rfl⟩ := hv
          simp -implicitDefEqProofs (disch := omega) only [go_sem, ↓reduceIte, reduceCtorEq, Nat.reduceEqDiff]
          refine call hT t_norm_Not (k_Not hT F hP 4004 k1 hlr hr2) 1000 fun v σ hv => ?_
          obtain ⟨rfl, d2, u2, u3, u4, hd2, rfl⟩ := hv
          simp -implicitDefEqProofs (disch := omega) only [go_sem, ↓reduceIte, reduceCtorEq, Nat.reduceAdd, Nat.reduceEqDiff, Nat.zero_add, Nat.le_refl, List.length_cons, List.length_nil, List.take_succ_cons, List.take_nil, false_implies, and_true]
          refine call hT t_value_Of (k_Of hT SO hlr k2 S hS tS C' (by omega) hCn tC r1.1) 1000 fun v σ hv => ?_
          obtain ⟨rfl, d3, hd3, rfl⟩ := hv
          rcases e3 with ⟨hop, hr, e3⟩ | ⟨hop, e3⟩
          · rw [e3]
            have hop' : decide (1 ≤ op ∧ op ≤ 16) = false := by simpa using hop
            rw [hop'] at hkn
            simp -implicitDefEqProofs (disch := omega) only [go_sem, ↓reduceIte, reduceCtorEq, Nat.reduceAdd, Nat.reduceEqDiff, Nat.reduceLT, Nat.zero_add, Nat.le_refl, List.length_cons, List.length_nil, List.take_succ_cons, List.take_nil, false_implies, and_true]
            refine call hT t_value_Of (k_Of hT SO hlr k2 S hS tS C' (by omega) hCn tC r2.1) 1000 fun v σ hv => ?_
            obtain ⟨rfl, d4, hd4, rfl⟩ := hv
            rw [e4]
            simp -implicitDefEqProofs (disch := omega) only [go_sem, ↓reduceIte, reduceCtorEq, Nat.reduceAdd, Nat.reduceEqDiff, Nat.reduceLT, Nat.zero_add, Bool.not_true, Bool.not_true, List.length_cons, List.length_nil]
            refine callPS hT t_proofmarkref01_Do hd16 rfl 1000 ?_
            simp -implicitDefEqProofs (disch := omega) only [go_sem, ↓reduceIte, reduceCtorEq, Nat.reduceAdd, Nat.reduceEqDiff, bne_self_eq_false, bne_self_eq_false]
            refine call hT t_norm_Bin (k_Bin hT F hP 4004 k2 ho (r := (-1, r2.2)) hlr o1) 1000 fun v σ hv => ?_
            obtain ⟨rfl, d5, x2, x3, x4, hd5, rfl⟩ := hv
            simp -implicitDefEqProofs (disch := omega) only [go_sem, ↓reduceIte, reduceCtorEq, Nat.reduceAdd, Nat.reduceEqDiff, bne_self_eq_false, bne_self_eq_false]
            refine call hT t_term_Graph_Size (k_Size hT) 1000 fun v σ hv => ?_
            obtain ⟨rfl, d6, hd6, rfl⟩ := hv
            simp -implicitDefEqProofs (disch := omega) only [go_sem, ↓reduceIte, reduceCtorEq, Nat.reduceAdd, Nat.reduceEqDiff]
            refine call hT t_norm_Bin (k_Bin hT F hP 4004 k2 ho (r := (-1, r2.2)) hlr o2) 1000 fun v σ hv => ?_
            obtain ⟨rfl, d7, y2, y3, y4, hd7, rfl⟩ := hv
            simp -implicitDefEqProofs (disch := omega) only [go_sem, ↓reduceIte, reduceCtorEq, Nat.reduceAdd, Nat.reduceEqDiff, bne_self_eq_false, bne_self_eq_false]
            refine callPS hT t_proofmarkref01_Known hkn rfl 1000 ?_
            simp -implicitDefEqProofs (disch := omega) only [go_sem, ↓reduceIte, reduceCtorEq, Nat.reduceAdd, Nat.reduceEqDiff, Bool.not_false, beq_self_eq_true, Bool.not_false, hr, beq_self_eq_true]
            refine callPS hT t_proofmarklaw04_works hW rfl 1000 ?_
            simp -implicitDefEqProofs (disch := omega) only [go_sem, ↓reduceIte, reduceCtorEq, Nat.reduceEqDiff]
          · rw [e3]
            have hop' : decide (1 ≤ op ∧ op ≤ 16) = true := by simpa using hop
            rw [hop'] at hkn
            simp -implicitDefEqProofs (disch := omega) only [go_sem, ↓reduceIte, reduceCtorEq, Nat.reduceAdd, Nat.reduceEqDiff, Nat.reduceLT, Nat.zero_add, Nat.le_refl, List.length_cons, List.length_nil, List.take_succ_cons, List.take_nil, false_implies, and_true]
            refine call hT t_value_Of (k_Of hT SO hlr k2 S hS tS C' (by omega) hCn tC r2.1) 1000 fun v σ hv => ?_
            obtain ⟨rfl, d4, hd4, rfl⟩ := hv
            rw [e4]
            simp -implicitDefEqProofs (disch := omega) only [go_sem, ↓reduceIte, reduceCtorEq, Nat.reduceAdd, Nat.reduceEqDiff, Nat.reduceLT, Nat.zero_add, Bool.not_true, Bool.not_true, List.length_cons, List.length_nil]
            refine callPS hT t_proofmarkref01_Do hd16 rfl 1000 ?_
            simp -implicitDefEqProofs (disch := omega) only [go_sem, ↓reduceIte, reduceCtorEq, Nat.reduceAdd, Nat.reduceEqDiff, bne_self_eq_false, bne_self_eq_false]
            refine call hT t_norm_Bin (k_Bin hT F hP 4004 k2 ho (r := (-1, r2.2)) hlr o1) 1000 fun v σ hv => ?_
            obtain ⟨rfl, d5, x2, x3, x4, hd5, rfl⟩ := hv
            simp -implicitDefEqProofs (disch := omega) only [go_sem, ↓reduceIte, reduceCtorEq, Nat.reduceAdd, Nat.reduceEqDiff, bne_self_eq_false, bne_self_eq_false]
            refine call hT t_term_Graph_Size (k_Size hT) 1000 fun v σ hv => ?_
            obtain ⟨rfl, d6, hd6, rfl⟩ := hv
            simp -implicitDefEqProofs (disch := omega) only [go_sem, ↓reduceIte, reduceCtorEq, Nat.reduceAdd, Nat.reduceEqDiff]
            refine call hT t_norm_Bin (k_Bin hT F hP 4004 k2 ho (r := (-1, r2.2)) hlr o2) 1000 fun v σ hv => ?_
            obtain ⟨rfl, d7, y2, y3, y4, hd7, rfl⟩ := hv
            simp -implicitDefEqProofs (disch := omega) only [go_sem, ↓reduceIte, reduceCtorEq, Nat.reduceAdd, Nat.reduceEqDiff, bne_self_eq_false, bne_self_eq_false]
            refine callPS hT t_proofmarkref01_Known hkn rfl 1000 ?_
            simp -implicitDefEqProofs (disch := omega) only [go_sem, ↓reduceIte, reduceCtorEq, Nat.reduceAdd, Nat.reduceEqDiff, Bool.not_true, Bool.not_true]
            refine callPS hT t_proofmarkref01_Do hdop rfl 1000 ?_
            simp -implicitDefEqProofs (disch := omega) only [go_sem, ↓reduceIte, reduceCtorEq, Nat.reduceAdd, Nat.reduceEqDiff, beq_self_eq_true, beq_self_eq_true]
            refine callPS hT t_proofmarklaw04_works hW rfl 1000 ?_
            simp -implicitDefEqProofs (disch := omega) only [go_sem, ↓reduceIte, reduceCtorEq, Nat.reduceEqDiff]
        · rw [if_neg hk]
          have hkb : (d.kind == 1) = false := by simpa using hk
          simp -implicitDefEqProofs (disch := omega) only [go_sem, ↓reduceIte, reduceCtorEq, Nat.reduceAdd, Nat.reduceEqDiff, Nat.reduceLeDiff, Nat.reduceLT, Nat.zero_add, Nat.add_zero, Bool.not_true, Nat.le_refl, bne_self_eq_false, Bool.not_true, kG_len0, kx_at, List.length_append, List.length_cons, List.length_nil, List.take_succ_cons, List.take_nil, false_implies, true_implies, and_true, hkb, bne_self_eq_false]
          refine call hT t_norm_Bool (k_Bool hT (by simp)) 1000 fun v σ hv => ?_
          obtain ⟨rfl, c9, hc9, rfl⟩ := hv
          simp -implicitDefEqProofs (disch := omega) only [go_sem, ↓reduceIte, reduceCtorEq, Nat.reduceAdd, Nat.reduceEqDiff]
          refine callPS hT t_proofmarkkit_PlainNode hpl rfl 1000 ?_
          simp -implicitDefEqProofs (disch := omega) only [go_sem, ↓reduceIte, reduceCtorEq, Nat.reduceAdd, Nat.reduceEqDiff]
          refine callPS hT t_proofmarkref04_Bool hrb rfl 1000 ?_
          simp -implicitDefEqProofs (disch := omega) only [go_sem, ↓reduceIte, reduceCtorEq, Nat.reduceAdd, Nat.reduceEqDiff, bne_self_eq_false, bne_self_eq_false]
          refine call hT t_norm_Bin (k_Bin hT F hP 4004 hok ho (by omega) hr1) 1000 fun v σ hv => ?_
          obtain ⟨rfl, d1, w2, w3, w4, hd1, rfl⟩ := hv
          simp -implicitDefEqProofs (disch := omega) only [go_sem, ↓reduceIte, reduceCtorEq, Nat.reduceEqDiff]
          refine call hT t_norm_Not (k_Not hT F hP 4004 k1 hlr hr2) 1000 fun v σ hv => ?_
          obtain ⟨rfl, d2, u2, u3, u4, hd2, rfl⟩ := hv
          simp -implicitDefEqProofs (disch := omega) only [go_sem, ↓reduceIte, reduceCtorEq, Nat.reduceAdd, Nat.reduceEqDiff, Nat.zero_add, Nat.le_refl, List.length_cons, List.length_nil, List.take_succ_cons, List.take_nil, false_implies, and_true]
          refine call hT t_value_Of (k_Of hT SO hlr k2 S hS tS C' (by omega) hCn tC r1.1) 1000 fun v σ hv => ?_
          obtain ⟨rfl, d3, hd3, rfl⟩ := hv
          rcases e3 with ⟨hop, hr, e3⟩ | ⟨hop, e3⟩
          · rw [e3]
            have hop' : decide (1 ≤ op ∧ op ≤ 16) = false := by simpa using hop
            rw [hop'] at hkn
            simp -implicitDefEqProofs (disch := omega) only [go_sem, ↓reduceIte, reduceCtorEq, Nat.reduceAdd, Nat.reduceEqDiff, Nat.reduceLT, Nat.zero_add, Nat.le_refl, List.length_cons, List.length_nil, List.take_succ_cons, List.take_nil, false_implies, and_true]
            refine call hT t_value_Of (k_Of hT SO hlr k2 S hS tS C' (by omega) hCn tC r2.1) 1000 fun v σ hv => ?_
            obtain ⟨rfl, d4, hd4, rfl⟩ := hv
            rw [e4]
            simp -implicitDefEqProofs (disch := omega) only [go_sem, ↓reduceIte, reduceCtorEq, Nat.reduceAdd, Nat.reduceEqDiff, Nat.reduceLT, Nat.zero_add, Bool.not_true, Bool.not_true, List.length_cons, List.length_nil]
            refine callPS hT t_proofmarkref01_Do hd16 rfl 1000 ?_
            simp -implicitDefEqProofs (disch := omega) only [go_sem, ↓reduceIte, reduceCtorEq, Nat.reduceAdd, Nat.reduceEqDiff, bne_self_eq_false, bne_self_eq_false]
            refine call hT t_norm_Bin (k_Bin hT F hP 4004 k2 ho (r := (-1, r2.2)) hlr o1) 1000 fun v σ hv => ?_
            obtain ⟨rfl, d5, x2, x3, x4, hd5, rfl⟩ := hv
            simp -implicitDefEqProofs (disch := omega) only [go_sem, ↓reduceIte, reduceCtorEq, Nat.reduceAdd, Nat.reduceEqDiff, bne_self_eq_false, bne_self_eq_false]
            refine call hT t_term_Graph_Size (k_Size hT) 1000 fun v σ hv => ?_
            obtain ⟨rfl, d6, hd6, rfl⟩ := hv
            simp -implicitDefEqProofs (disch := omega) only [go_sem, ↓reduceIte, reduceCtorEq, Nat.reduceAdd, Nat.reduceEqDiff]
            refine call hT t_norm_Bin (k_Bin hT F hP 4004 k2 ho (r := (-1, r2.2)) hlr o2) 1000 fun v σ hv => ?_
            obtain ⟨rfl, d7, y2, y3, y4, hd7, rfl⟩ := hv
            simp -implicitDefEqProofs (disch := omega) only [go_sem, ↓reduceIte, reduceCtorEq, Nat.reduceAdd, Nat.reduceEqDiff, bne_self_eq_false, bne_self_eq_false]
            refine callPS hT t_proofmarkref01_Known hkn rfl 1000 ?_
            simp -implicitDefEqProofs (disch := omega) only [go_sem, ↓reduceIte, reduceCtorEq, Nat.reduceAdd, Nat.reduceEqDiff, Bool.not_false, beq_self_eq_true, Bool.not_false, hr, beq_self_eq_true]
            refine callPS hT t_proofmarklaw04_works hW rfl 1000 ?_
            simp -implicitDefEqProofs (disch := omega) only [go_sem, ↓reduceIte, reduceCtorEq, Nat.reduceEqDiff]
          · rw [e3]
            have hop' : decide (1 ≤ op ∧ op ≤ 16) = true := by simpa using hop
            rw [hop'] at hkn
            simp -implicitDefEqProofs (disch := omega) only [go_sem, ↓reduceIte, reduceCtorEq, Nat.reduceAdd, Nat.reduceEqDiff, Nat.reduceLT, Nat.zero_add, Nat.le_refl, List.length_cons, List.length_nil, List.take_succ_cons, List.take_nil, false_implies, and_true]
            refine call hT t_value_Of (k_Of hT SO hlr k2 S hS tS C' (by omega) hCn tC r2.1) 1000 fun v σ hv => ?_
            obtain ⟨rfl, d4, hd4, rfl⟩ := hv
            rw [e4]
            simp -implicitDefEqProofs (disch := omega) only [go_sem, ↓reduceIte, reduceCtorEq, Nat.reduceAdd, Nat.reduceEqDiff, Nat.reduceLT, Nat.zero_add, Bool.not_true, Bool.not_true, List.length_cons, List.length_nil]
            refine callPS hT t_proofmarkref01_Do hd16 rfl 1000 ?_
            simp -implicitDefEqProofs (disch := omega) only [go_sem, ↓reduceIte, reduceCtorEq, Nat.reduceAdd, Nat.reduceEqDiff, bne_self_eq_false, bne_self_eq_false]
            refine call hT t_norm_Bin (k_Bin hT F hP 4004 k2 ho (r := (-1, r2.2)) hlr o1) 1000 fun v σ hv => ?_
            obtain ⟨rfl, d5, x2, x3, x4, hd5, rfl⟩ := hv
            simp -implicitDefEqProofs (disch := omega) only [go_sem, ↓reduceIte, reduceCtorEq, Nat.reduceAdd, Nat.reduceEqDiff, bne_self_eq_false, bne_self_eq_false]
            refine call hT t_term_Graph_Size (k_Size hT) 1000 fun v σ hv => ?_
            obtain ⟨rfl, d6, hd6, rfl⟩ := hv
            simp -implicitDefEqProofs (disch := omega) only [go_sem, ↓reduceIte, reduceCtorEq, Nat.reduceAdd, Nat.reduceEqDiff]
            refine call hT t_norm_Bin (k_Bin hT F hP 4004 k2 ho (r := (-1, r2.2)) hlr o2) 1000 fun v σ hv => ?_
            obtain ⟨rfl, d7, y2, y3, y4, hd7, rfl⟩ := hv
            simp -implicitDefEqProofs (disch := omega) only [go_sem, ↓reduceIte, reduceCtorEq, Nat.reduceAdd, Nat.reduceEqDiff, bne_self_eq_false, bne_self_eq_false]
            refine callPS hT t_proofmarkref01_Known hkn rfl 1000 ?_
            simp -implicitDefEqProofs (disch := omega) only [go_sem, ↓reduceIte, reduceCtorEq, Nat.reduceAdd, Nat.reduceEqDiff, Bool.not_true, Bool.not_true]
            refine callPS hT t_proofmarkref01_Do hdop rfl 1000 ?_
            simp -implicitDefEqProofs (disch := omega) only [go_sem, ↓reduceIte, reduceCtorEq, Nat.reduceAdd, Nat.reduceEqDiff, beq_self_eq_true, beq_self_eq_true]
            refine callPS hT t_proofmarklaw04_works hW rfl 1000 ?_
            simp -implicitDefEqProofs (disch := omega) only [go_sem, ↓reduceIte, reduceCtorEq, Nat.reduceEqDiff]
    · have h2' : decide (S.length ≤ 60 ∧ C'.length ≤ 60) = false := by simpa using h2
      rw [h2'] at hfew
      refine callPS hT t_proofmarklaw04_few hfew rfl 1000 ?_
      simp -implicitDefEqProofs (disch := omega) only [go_sem, ↓reduceIte, reduceCtorEq, Nat.reduceAdd, Nat.reduceEqDiff, Bool.not_false, Bool.not_false]
      refine callPS hT t_proofmarklaw04_works hW rfl 1000 ?_
      simp -implicitDefEqProofs (disch := omega) only [go_sem, ↓reduceIte, reduceCtorEq, Nat.reduceEqDiff]
end Go.Proofs.YtpdeoalocejodaaGreatDoor
