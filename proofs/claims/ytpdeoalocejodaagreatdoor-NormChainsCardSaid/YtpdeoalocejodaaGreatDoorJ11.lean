/- Terms made plain: the graph grows by little. -/
import Derived.Test.YtpdeoalocejodaaGreatDoorJ6
/- Terms made plain: the graph grows by little. -/
namespace Go.Proofs.YtpdeoalocejodaaGreatDoor
open Go Go.Am
set_option maxRecDepth 100000
set_option maxHeartbeats 1000000
theorem len_add (L : List Nd) (d : Nd) : (addN L d).2.length ≤ L.length + 1 := by
  unfold addN
  split
  · split <;> simp
  · simp
theorem len_num (L : List Nd) (n : Int) : (numN L n).2.length ≤ L.length + 1 := len_add L _
theorem turn_len {bin : BinT} {L : List Nd} {op x y : Int} {p q : Option Int} {r s : GR} {g : Nat} (hs : ruleR bin L op x y p q = some s) (h1 : s.1 ≠ -1 → s.2.length ≤ L.length + g) (h2 : s.1 = -1 → s.2.length + 1 ≤ L.length + g) (h : turnR bin L op x y p q = some r) : r.2.length ≤ L.length + g := by
  unfold turnR thenR at h
  rw [hs] at h
  simp only [Option.bind_some] at h
  split at h
  · rename_i hne; cases h; exact h1 hne
  · rename_i hne
    cases h
    have := len_add s.2 ⟨4, 0, 0, op, x, y⟩
    have := h2 (Decidable.byContradiction fun h => hne h)
    show (addN s.2 ⟨4, 0, 0, op, x, y⟩).2.length ≤ _
    omega
theorem eq_len {bin : BinT} {L : List Nd} {b z : Int} {r : GR} (hb : booI L b = true) (hz : numI L z = some 0) (h : binR bin L 16 b z = some r) : r.2.length ≤ L.length + 1 := by
  unfold binR at h
  rw [hz] at h
  cases hn : numI L b with
  | some a => rw [hn] at h; cases h; exact len_num _ _
  | none =>
    rw [hn] at h
    simp only [Option.isSome_none, reduceCtorEq, false_and, or_self, and_false, Bool.false_eq_true, if_false] at h
    have hs : ∃ s, ruleR bin L 16 b z none (some 0) = some s ∧ (s = numN L 1 ∨ s.2 = L) := by
      unfold ruleR
      split
      · exact ⟨_, rfl, .inl (by simp [sameR])⟩
      · have e1 : fixedR L 16 b 0 = (-1, L) := by simp [fixedR, keepsW]
        have e2 : movedR bin L 16 b 0 = some (-1, L) := by simp [movedR]
        have e3 : groupR bin L 16 b 0 = some (-1, L) := by
          unfold groupR
          split
          · simp [groupsW]
          · rfl
        have o1 := boo_of (op := 1) hb hn (by omega)
        have o10 := boo_of (op := 10) hb hn (by omega)
        have o2 := boo_of (op := 2) hb hn (by omega)
        have e4 : equalR bin L 16 b 0 = some (-1, L) := by simp [equalR, tail_of o1, tail_of o10, o10, o2]
        simp only [numberR, e1, then_none, e2]
        unfold truthR
        rw [if_neg (by simp [hb]), if_neg (by omega), if_neg (by omega), if_neg (by omega)]
        split
        · split
          · rename_i h1
            rw [then_some (ne_of_in (booI_in h1.2.2))]; exact ⟨_, rfl, .inr rfl⟩
          · rw [then_none, e3, then_none, e4]; exact ⟨_, rfl, .inr rfl⟩
        · rw [then_none, e3, then_none, e4]; exact ⟨_, rfl, .inr rfl⟩
    obtain ⟨s, hs, hs2⟩ := hs
    refine turn_len hs (fun _ => ?_) (fun hm => ?_) h
    · rcases hs2 with rfl | h2
      · exact len_num _ _
      · rw [h2]; omega
    · rcases hs2 with rfl | h2
      · exact absurd hm (numN_get L 1).2.2.2
      · rw [h2]; omega
theorem xor_len {bin : BinT} {L : List Nd} {b z c : Int} {r : GR} (hb : booI L b = true) (hz : numI L z = some c) (hc : c % 2 = 0) (h : binR bin L 10 b z = some r) : r.2.length ≤ L.length + 1 := by
  unfold binR at h
  rw [hz] at h
  cases hn : numI L b with
  | some a => rw [hn] at h; cases h; exact len_num _ _
  | none =>
    rw [hn] at h
    simp only [Option.isSome_none, reduceCtorEq, false_and, or_self, and_false, Bool.false_eq_true, if_false] at h
    have hs : ∃ s, ruleR bin L 10 b z none (some c) = some s ∧ (s = numN L 0 ∨ s.2 = L) := by
      unfold ruleR
      split
      · exact ⟨_, rfl, .inl (by simp [sameR])⟩
      · have o10 := boo_of (op := 10) hb hn (by omega)
        have e2 : movedR bin L 10 b c = some (-1, L) := by simp [movedR]
        have e3 : truthR bin L 10 b c = some (-1, L) := by
          unfold truthR
          rw [if_neg (by simp [hb]), if_neg (by omega), if_neg (by omega), if_neg (by omega)]
          split
          · rw [if_neg (by omega)]
          · rfl
        have e4 : groupR bin L 10 b c = some (-1, L) := by simp [groupR, tail_of o10]
        have e5 : equalR bin L 10 b c = some (-1, L) := by simp [equalR]
        show ∃ s, numberR bin L 10 b c = some s ∧ _
        unfold numberR
        by_cases h0 : c = 0
        · have e1 : fixedR L 10 b c = (b, L) := by simp [fixedR, keepsW, h0]
          rw [e1, then_some (ne_of_in (booI_in hb))]; exact ⟨_, rfl, .inr rfl⟩
        · have e1 : fixedR L 10 b c = (-1, L) := by
            have : ¬ (0 : Int) = c := fun h => h0 h.symm
            simp [fixedR, keepsW, this]
          rw [e1, then_none, e2, then_none, e3, then_none, e4, then_none, e5]; exact ⟨_, rfl, .inr rfl⟩
    obtain ⟨s, hs, hs2⟩ := hs
    refine turn_len hs (fun _ => ?_) (fun hm => ?_) h
    · rcases hs2 with rfl | h2
      · exact len_num _ _
      · rw [h2]; omega
    · rcases hs2 with rfl | h2
      · exact absurd hm (numN_get L 0).2.2.2
      · rw [h2]; omega
def Grows (bin : BinT) (g : Nat) : Prop := ∀ L op x y r, okN L → inG L x → inG L y → (1 ≤ op ∧ op ≤ 16) → bin L op x y = some r → r.2.length ≤ L.length + g
theorem withN_len {bin : BinT} {g : Nat} (hg : Grows bin g) {L : List Nd} (hok : okN L) {op x n : Int} (hx : inG L x) (ho : 1 ≤ op ∧ op ≤ 16) (hn : i64 n) {r : GR} (h : withN bin L op x n = some r) : r.2.length ≤ L.length + g + 1 := by
  obtain ⟨h1, h2, h3, h4⟩ := numN_get L n
  have h5 : r.2.length ≤ (numN L n).2.length + g := hg _ _ _ _ _ (okN_addN hok hn (show i64 0 by unfold i64; omega)) (nd_ext h3 hx).1 h1 ho h
  have := len_num L n
  omega
theorem then_len {L : List Nd} {q : Option GR} {k : List Nd → Option GR} {r : GR} {m : Nat} (hq : ∀ s, q = some s → NoneL L s ∧ s.2.length ≤ m) (hk : k L = some r → r.2.length ≤ m) (h : thenR q k = some r) : r.2.length ≤ m := by
  unfold thenR at h
  cases q with
  | none => cases h
  | some s =>
    simp only [Option.bind_some] at h
    obtain ⟨h1, h2⟩ := hq s rfl
    split at h
    · cases h; exact h2
    · rename_i hne
      rcases h1 with h1 | h1
      · exact absurd h1 hne
      · rw [h1] at h; exact hk h
theorem number_len {f g : Nat} (hg : Grows (binF f) g) {L : List Nd} (hok : okN L) {op x c : Int} (hx : inG L x) (ho : 1 ≤ op ∧ op ≤ 16) (hc : i64 c) (hK : KeepB [] [] (binF f)) {r : GR} (h : numberR (binF f) L op x c = some r) : r.2.length ≤ L.length + g + 3 := by
  have i0 : i64 0 := by unfold i64; omega
  unfold numberR at h
  refine then_len (fun s hs => ⟨by cases hs; exact fixed_none hx, ?_⟩) (fun h => ?_) h
  · cases hs
    unfold fixedR
    have a0 := len_num L 0
    have a1 := len_num L (-1)
    repeat' split
    all_goals (first | omega | (show L.length ≤ _; omega))
  refine then_len (fun s hs => ⟨moved_none hK hok hx hc hs, ?_⟩) (fun h => ?_) h
  · unfold movedR at hs
    have h64 : i64 (c % 64) := by unfold i64; omega
    split at hs
    · have := withN_len hg hok hx (by omega) (wrap_rg _) hs; omega
    split at hs
    · have := withN_len hg hok hx (by omega) (wrap_rg _) hs; omega
    split at hs
    · have := withN_len hg hok hx (by omega) h64 hs; omega
    split at hs
    · rename_i h'
      obtain ⟨k, hk'⟩ := Option.isSome_iff_exists.1 h'.2
      have hk2 := (powW_some hk').1
      rw [hk'] at hs
      have := withN_len hg hok hx (by omega) (show i64 ((k : Nat) : Int) by unfold i64; omega) hs; omega
    split at hs
    · have := withN_len hg hok hx (by omega) (wrap_rg _) hs; omega
    split at hs
    · have := withN_len hg hok hx (by omega) i0 hs; omega
    · cases hs; show L.length ≤ _; omega
  refine then_len (fun s hs => ⟨truth_none hK hok hc hs, ?_⟩) (fun h => ?_) h
  · unfold truthR at hs
    split at hs
    · cases hs; show L.length ≤ _; omega
    rename_i hbo
    have hbo : booI L x = true := by simpa using hbo
    split at hs
    · cases hs; show L.length ≤ _; omega
    split at hs
    · cases hs; have := len_num L 0; omega
    split at hs
    · rename_i h5
      cases hq : withN (binF f) L 16 x 0 with
      | none => rw [hq] at hs; cases hs
      | some q =>
        rw [hq] at hs
        simp only [Option.bind_some] at hs
        have l1 := withN_len hg hok hx (by omega) i0 hq
        have hbq := withN_boo (binF_boo f) hok hx i0 hq
        obtain ⟨k1, k2, k3, k4⟩ := numN_get q.2 (doW 10 c 1)
        have l2 := len_num q.2 (doW 10 c 1)
        cases f with
        | zero => cases hs
        | succ f =>
          have l3 := xor_len (bin := binF f) (by rw [booI_ext k3 (booI_in hbq)]; exact hbq) k2 (xor1_even h5.2) hs
          omega
    split at hs
    · split at hs
      · cases hs; show L.length ≤ _; omega
      · cases hs; show L.length ≤ _; omega
    · cases hs; show L.length ≤ _; omega
  refine then_len (fun s hs => ⟨group_none hK hok ho hc hs, ?_⟩) (fun h => ?_) h
  · unfold groupR at hs
    split at hs
    · rename_i y d hta
      obtain ⟨t1, t2, t3, _⟩ := in_tail hok hta
      split at hs
      · have := withN_len hg hok t1 ho (do_i64 t3 hc) hs; omega
      · cases hs; show L.length ≤ _; omega
    · cases hs; show L.length ≤ _; omega
  unfold equalR at h
  split at h
  · cases h; show L.length ≤ _; omega
  split at h
  · rename_i y d hta
    obtain ⟨t1, t2, t3, _⟩ := in_tail hok hta
    have := withN_len hg hok t1 (by omega) (wrap_rg _) h; omega
  split at h
  · rename_i y d hta
    obtain ⟨t1, t2, t3, _⟩ := in_tail hok hta
    have := withN_len hg hok t1 (by omega) (do_i64 hc t3) h; omega
  split at h
  · rename_i u v hof
    obtain ⟨t1, t2, _⟩ := in_of hok hof
    split at h
    · have := hg _ _ _ _ _ hok t1 t2 (by omega) h; omega
    · cases h; show L.length ≤ _; omega
  split at h
  · rename_i u v hof
    obtain ⟨t1, t2, _⟩ := in_of hok hof
    split at h
    · have := hg _ _ _ _ _ hok t1 t2 (by omega) h; omega
    · cases h; show L.length ≤ _; omega
  · cases h; show L.length ≤ _; omega
theorem turn_grow {f g : Nat} (hg : Grows (binF f) g) {L : List Nd} (hok : okN L) {op x y : Int} (hx : inG L x) (hy : inG L y) (ho : 1 ≤ op ∧ op ≤ 16) (hK : KeepB [] [] (binF f)) {r : GR} (h : turnR (binF f) L op x y (numI L x) (numI L y) = some r) : r.2.length ≤ L.length + g + 4 := by
  cases hs : ruleR (binF f) L op x y (numI L x) (numI L y) with
  | none => unfold turnR thenR at h; rw [hs] at h; cases h
  | some s =>
    have hl : s.2.length ≤ L.length + g + 3 := by
      unfold ruleR at hs
      split at hs
      · cases hs
        have a0 := len_num L 0
        have a1 := len_num L 1
        unfold sameR
        repeat' split
        all_goals (first | omega | (show L.length ≤ _; omega))
      · split at hs
        · rename_i b hq
          exact number_len hg hok hx ho (numI_ok (S := []) (C := []) hok hq).2 hK hs
        · split at hs
          · rename_i h1
            obtain ⟨hp, rfl⟩ := h1
            cases hr : binF f L 16 y x with
            | none => rw [hr] at hs; cases hs
            | some q =>
              rw [hr] at hs
              simp only [Option.bind_some] at hs
              have l1 := hg _ _ _ _ _ hok hy hx (by omega) hr
              obtain ⟨g1, g2⟩ := hK _ _ _ _ _ hok hy hx (by omega) hr
              have hbq := binF_boo f _ _ _ _ hy hx hok hr
              cases f with
              | zero => cases hs
              | succ f =>
                have l3 := eq_len (bin := binF f) hbq (by rw [numI_ext g1.pre hx]; exact hp) hs
                omega
          · cases hs; show L.length ≤ _; omega
    have := turn_len (g := g + 4) hs (fun _ => by omega) (fun _ => by omega) h
    omega
theorem binF_grow : ∀ f, Grows (binF f) (4 * f)
  | 0 => fun L op x y r _ _ _ _ h => by cases h
  | f + 1 => fun L op x y r hok hx hy ho h => by
    have hg := binF_grow f
    have hK : KeepB [] [] (binF f) := binF_ok (fun L hok x => val_i64 (by simp) (by simp) (okN_i64 hok) x) f
    unfold binF binR at h
    split at h
    · rename_i a b _ _
      cases h
      have := len_num L (doW op a b)
      omega
    · split at h
      · have := turn_grow hg hok hy hx ho hK h; omega
      · have := turn_grow hg hok hx hy ho hK h; omega
end Go.Proofs.YtpdeoalocejodaaGreatDoor
/- Terms made plain: how deep lies what is made. -/
namespace Go.Proofs.YtpdeoalocejodaaGreatDoor
open Go Go.Am
set_option maxRecDepth 100000
set_option maxHeartbeats 1000000
theorem in_num {L : List Nd} {z c : Int} (h : numI L z = some c) : inG L z := by
  unfold numI at h
  split at h
  · rename_i h1; exact h1.1
  · cases h
theorem wt_add {L : List Nd} (hok : okN L) {op x y : Int} (ho : 1 ≤ op ∧ op ≤ 16) (hx : inG L x) (hy : inG L y) : wt (addN L ⟨4, 0, 0, op, x, y⟩).2 (addN L ⟨4, 0, 0, op, x, y⟩).1 = 1 + max (wt L x) (wt L y) := by
  obtain ⟨h1, h2⟩ := add_ok (node_may ho hx hy)
  have hok2 : okN (addN L ⟨4, 0, 0, op, x, y⟩).2 := okN_addN hok (show i64 0 by unfold i64; omega) (show i64 0 by unfold i64; omega)
  have hp := addN_pre L ⟨4, 0, 0, op, x, y⟩
  have e : ofI (addN L ⟨4, 0, 0, op, x, y⟩).2 (addN L ⟨4, 0, 0, op, x, y⟩).1 op = some (x, y) := by
    unfold ofI; rw [h2, if_pos ⟨h1, rfl, rfl⟩]
  rw [wt_of hok2 e, wt_ext hp hx, wt_ext hp hy]
theorem wt_numN (L : List Nd) (n : Int) : wt (numN L n).2 (numN L n).1 = 0 := wt_num (numN_get L n).2.1
theorem turn_dep {bin : BinT} {L : List Nd} (hok : okN L) {op x y : Int} (ho : 1 ≤ op ∧ op ≤ 16) (hx : inG L x) (hy : inG L y) {p q : Option Int} {r s : GR} {g : Nat} (hs : ruleR bin L op x y p q = some s) (hn : NoneL L s) (h1 : s.1 ≠ -1 → wt s.2 s.1 ≤ g) (h2 : 1 + max (wt L x) (wt L y) ≤ g) (h : turnR bin L op x y p q = some r) : wt r.2 r.1 ≤ g := by
  unfold turnR thenR at h
  rw [hs] at h
  simp only [Option.bind_some] at h
  split at h
  · rename_i hne; cases h; exact h1 hne
  · rename_i hne
    cases h
    rcases hn with hn | hn
    · exact absurd hn hne
    · subst hn
      rw [wt_add hok ho hx hy]
      exact h2
theorem eq_dep {bin : BinT} {L : List Nd} (hok : okN L) {b z : Int} {r : GR} (hb : booI L b = true) (hz : numI L z = some 0) (h : binR bin L 16 b z = some r) : wt r.2 r.1 ≤ wt L b + 1 := by
  have hzi : inG L z := (in_num hz)
  unfold binR at h
  rw [hz] at h
  cases hn : numI L b with
  | some a => rw [hn] at h; cases h; rw [wt_numN]; omega
  | none =>
    rw [hn] at h
    simp only [Option.isSome_none, reduceCtorEq, false_and, or_self, and_false, Bool.false_eq_true, if_false] at h
    have hs : ∃ s, ruleR bin L 16 b z none (some 0) = some s ∧ NoneL L s ∧ (s.1 ≠ -1 → wt s.2 s.1 ≤ wt L b + 1) := by
      unfold ruleR
      split
      · refine ⟨_, rfl, .inl ?_, fun _ => ?_⟩
        · simp only [sameR]; exact (numN_get L 1).2.2.2
        · simp only [sameR]
          show wt (numN L 1).2 (numN L 1).1 ≤ _
          rw [wt_numN]; omega
      · have e1 : fixedR L 16 b 0 = (-1, L) := by simp [fixedR, keepsW]
        have e2 : movedR bin L 16 b 0 = some (-1, L) := by simp [movedR]
        have e3 : groupR bin L 16 b 0 = some (-1, L) := by
          unfold groupR
          split
          · simp [groupsW]
          · rfl
        have o1 := boo_of (op := 1) hb hn (by omega)
        have o10 := boo_of (op := 10) hb hn (by omega)
        have o2 := boo_of (op := 2) hb hn (by omega)
        have e4 : equalR bin L 16 b 0 = some (-1, L) := by simp [equalR, tail_of o1, tail_of o10, o10, o2]
        simp only [numberR, e1, then_none, e2]
        unfold truthR
        rw [if_neg (by simp [hb]), if_neg (by omega), if_neg (by omega), if_neg (by omega)]
        split
        · rename_i y d hta
          split
          · rename_i h1
            rw [then_some (ne_of_in (booI_in h1.2.2))]
            have := wt_tail hok hta
            exact ⟨_, rfl, .inl (ne_of_in (booI_in h1.2.2)), fun _ => by show wt L y ≤ _; omega⟩
          · rw [then_none, e3, then_none, e4]; exact ⟨_, rfl, .inr rfl, fun h => absurd rfl h⟩
        · rw [then_none, e3, then_none, e4]; exact ⟨_, rfl, .inr rfl, fun h => absurd rfl h⟩
    obtain ⟨s, hs, hN, hs2⟩ := hs
    refine turn_dep hok (by omega) (booI_in hb) hzi hs hN hs2 ?_ h
    rw [wt_num hz]; omega
theorem xor_dep {bin : BinT} {L : List Nd} (hok : okN L) {b z c : Int} {r : GR} (hb : booI L b = true) (hz : numI L z = some c) (hc : c % 2 = 0) (h : binR bin L 10 b z = some r) : wt r.2 r.1 ≤ wt L b + 1 := by
  have hzi : inG L z := (in_num hz)
  unfold binR at h
  rw [hz] at h
  cases hn : numI L b with
  | some a => rw [hn] at h; cases h; rw [wt_numN]; omega
  | none =>
    rw [hn] at h
    simp only [Option.isSome_none, reduceCtorEq, false_and, or_self, and_false, Bool.false_eq_true, if_false] at h
    have hs : ∃ s, ruleR bin L 10 b z none (some c) = some s ∧ NoneL L s ∧ (s.1 ≠ -1 → wt s.2 s.1 ≤ wt L b + 1) := by
      unfold ruleR
      split
      · refine ⟨_, rfl, .inl ?_, fun _ => ?_⟩
        · simp only [sameR]; exact (numN_get L 0).2.2.2
        · simp only [sameR]
          show wt (numN L 0).2 (numN L 0).1 ≤ _
          rw [wt_numN]; omega
      · have o10 := boo_of (op := 10) hb hn (by omega)
        have e2 : movedR bin L 10 b c = some (-1, L) := by simp [movedR]
        have e3 : truthR bin L 10 b c = some (-1, L) := by
          unfold truthR
          rw [if_neg (by simp [hb]), if_neg (by omega), if_neg (by omega), if_neg (by omega)]
          split
          · rw [if_neg (by omega)]
          · rfl
        have e4 : groupR bin L 10 b c = some (-1, L) := by simp [groupR, tail_of o10]
        have e5 : equalR bin L 10 b c = some (-1, L) := by simp [equalR]
        show ∃ s, numberR bin L 10 b c = some s ∧ _
        unfold numberR
        by_cases h0 : c = 0
        · have e1 : fixedR L 10 b c = (b, L) := by simp [fixedR, keepsW, h0]
          rw [e1, then_some (ne_of_in (booI_in hb))]
          exact ⟨_, rfl, .inl (ne_of_in (booI_in hb)), fun _ => by show wt L b ≤ _; omega⟩
        · have e1 : fixedR L 10 b c = (-1, L) := by
            have : ¬ (0 : Int) = c := fun h => h0 h.symm
            simp [fixedR, keepsW, this]
          rw [e1, then_none, e2, then_none, e3, then_none, e4, then_none, e5]; exact ⟨_, rfl, .inr rfl, fun h => absurd rfl h⟩
    obtain ⟨s, hs, hN, hs2⟩ := hs
    refine turn_dep hok (by omega) (booI_in hb) hzi hs hN hs2 ?_ h
    rw [wt_num hz]; omega
def deepW (op : Int) : Nat := if op = 16 then 1 else 2
theorem deepW_le (op : Int) : 1 ≤ deepW op ∧ deepW op ≤ 2 := by unfold deepW; split <;> omega
theorem deepW_ne {op : Int} (h : op ≠ 16) : deepW op = 2 := by unfold deepW; rw [if_neg h]
def DepB (bin : BinT) : Prop := ∀ L op x y r, okN L → inG L x → inG L y → (1 ≤ op ∧ op ≤ 16) → bin L op x y = some r → wt r.2 r.1 ≤ max (wt L x) (wt L y) + deepW op
theorem withN_dep {bin : BinT} (hg : DepB bin) {L : List Nd} (hok : okN L) {op x n : Int} (hx : inG L x) (ho : 1 ≤ op ∧ op ≤ 16) (hn : i64 n) {r : GR} (h : withN bin L op x n = some r) : wt r.2 r.1 ≤ wt L x + deepW op := by
  obtain ⟨h1, h2, h3, h4⟩ := numN_get L n
  have h5 := hg _ _ _ _ _ (okN_addN hok hn (show i64 0 by unfold i64; omega)) (nd_ext h3 hx).1 h1 ho h
  have e1 := wt_ext h3 hx
  have e2 := wt_num h2
  have e3 : wt (addN L ⟨1, n, 0, 0, 0, 0⟩).2 x = wt L x := e1
  have e4 : wt (addN L ⟨1, n, 0, 0, 0, 0⟩).2 (numN L n).1 = 0 := e2
  rw [e3, e4] at h5
  omega
theorem then_dep {L : List Nd} {q : Option GR} {k : List Nd → Option GR} {r : GR} {m : Nat} (hq : ∀ s, q = some s → NoneL L s ∧ (s.1 ≠ -1 → wt s.2 s.1 ≤ m)) (hk : k L = some r → (r.1 ≠ -1 → wt r.2 r.1 ≤ m)) (h : thenR q k = some r) : r.1 ≠ -1 → wt r.2 r.1 ≤ m := by
  unfold thenR at h
  cases q with
  | none => cases h
  | some s =>
    simp only [Option.bind_some] at h
    obtain ⟨h1, h2⟩ := hq s rfl
    split at h
    · cases h; exact h2
    · rename_i hne
      rcases h1 with h1 | h1
      · exact absurd h1 hne
      · rw [h1] at h; exact hk h
theorem number_dep {f : Nat} (hg : DepB (binF f)) {L : List Nd} (hok : okN L) {op x c : Int} (hx : inG L x) (ho : 1 ≤ op ∧ op ≤ 16) (hc : i64 c) (hK : KeepB [] [] (binF f)) {r : GR} (h : numberR (binF f) L op x c = some r) : r.1 ≠ -1 → wt r.2 r.1 ≤ wt L x + deepW op := by
  have i0 : i64 0 := by unfold i64; omega
  have hD := deepW_le op
  have n0 := wt_numN L 0
  have nm := wt_numN L (-1)
  unfold numberR at h
  refine then_dep (fun s hs => ⟨by cases hs; exact fixed_none hx, ?_⟩) (fun h => ?_) h
  · cases hs
    unfold fixedR
    repeat' split
    · intro _; show wt L x ≤ _; omega
    · intro _; omega
    · intro _; omega
    · intro _; omega
    · intro h; exact absurd rfl h
  refine then_dep (fun s hs => ⟨moved_none hK hok hx hc hs, fun hne => ?_⟩) (fun h => ?_) h
  · unfold movedR at hs
    have h64 : i64 (c % 64) := by unfold i64; omega
    have d1 : deepW 1 = 2 := by decide
    have d3 : deepW 3 = 2 := by decide
    have d12 : deepW 12 = 2 := by decide
    have d8 : deepW 8 = 2 := by decide
    have d16 : deepW 16 = 1 := by decide
    split at hs
    · rename_i h'; have := withN_dep hg hok hx (by omega) (wrap_rg _) hs; rw [deepW_ne (op := op) (by omega)]; omega
    split at hs
    · rename_i h'; have := withN_dep hg hok hx (by omega) (wrap_rg _) hs; rw [deepW_ne (op := op) (by omega)]; omega
    split at hs
    · have := withN_dep hg hok hx (by omega) h64 hs; omega
    split at hs
    · rename_i h'
      obtain ⟨k, hk'⟩ := Option.isSome_iff_exists.1 h'.2
      have hk2 := (powW_some hk').1
      rw [hk'] at hs
      have := withN_dep hg hok hx (by omega) (show i64 ((k : Nat) : Int) by unfold i64; omega) hs; rw [deepW_ne (op := op) (by omega)]; omega
    split at hs
    · rename_i h'; have := withN_dep hg hok hx (by omega) (wrap_rg _) hs; rw [deepW_ne (op := op) (by omega)]; omega
    split at hs
    · have := withN_dep hg hok hx (by omega) i0 hs; omega
    · cases hs; exact absurd rfl hne
  refine then_dep (fun s hs => ⟨truth_none hK hok hc hs, fun hne => ?_⟩) (fun h => ?_) h
  · unfold truthR at hs
    split at hs
    · cases hs; exact absurd rfl hne
    rename_i hbo
    have hbo : booI L x = true := by simpa using hbo
    split at hs
    · cases hs; show wt L x ≤ _; omega
    split at hs
    · cases hs; omega
    split at hs
    · rename_i h5
      cases hq : withN (binF f) L 16 x 0 with
      | none => rw [hq] at hs; cases hs
      | some q =>
        rw [hq] at hs
        simp only [Option.bind_some] at hs
        have l1 := withN_dep hg hok hx (by omega) i0 hq
        have hbq := withN_boo (binF_boo f) hok hx i0 hq
        obtain ⟨g1, g2⟩ := withN_ok hK hok hx (by omega) i0 hq
        obtain ⟨k1, k2, k3, k4⟩ := numN_get q.2 (doW 10 c 1)
        have hok3 : okN (numN q.2 (doW 10 c 1)).2 := okN_addN g1.ok (show i64 (doW 10 c 1) from do_i64 hc (show i64 1 by unfold i64; omega)) i0
        have e3 := wt_ext k3 (booI_in hbq)
        have d16 : deepW 16 = 1 := by decide
        cases f with
        | zero => cases hs
        | succ f =>
          have l3 := xor_dep (bin := binF f) hok3 (by rw [booI_ext k3 (booI_in hbq)]; exact hbq) k2 (xor1_even h5.2) hs
          rw [deepW_ne (op := op) (by omega)]
          omega
    split at hs
    · rename_i y d hta
      split at hs
      · cases hs; have := wt_tail hok hta; show wt L y ≤ _; omega
      · cases hs; exact absurd rfl hne
    · cases hs; exact absurd rfl hne
  refine then_dep (fun s hs => ⟨group_none hK hok ho hc hs, fun hne => ?_⟩) (fun h hne => ?_) h
  · unfold groupR at hs
    split at hs
    · rename_i y d hta
      obtain ⟨t1, t2, t3, _⟩ := in_tail hok hta
      have hl := wt_tail hok hta
      split at hs
      · have := withN_dep hg hok t1 ho (do_i64 t3 hc) hs; omega
      · cases hs; exact absurd rfl hne
    · cases hs; exact absurd rfl hne
  unfold equalR at h
  have d16 : deepW 16 = 1 := by decide
  split at h
  · cases h; exact absurd rfl hne
  split at h
  · rename_i y d hta
    obtain ⟨t1, t2, t3, _⟩ := in_tail hok hta
    have hl := wt_tail hok hta
    have := withN_dep hg hok t1 (by omega) (wrap_rg _) h; omega
  split at h
  · rename_i y d hta
    obtain ⟨t1, t2, t3, _⟩ := in_tail hok hta
    have hl := wt_tail hok hta
    have := withN_dep hg hok t1 (by omega) (do_i64 hc t3) h; omega
  split at h
  · rename_i u v hof
    obtain ⟨t1, t2, _⟩ := in_of hok hof
    have hl := wt_of hok hof
    split at h
    · have := hg _ _ _ _ _ hok t1 t2 (by omega) h; omega
    · cases h; exact absurd rfl hne
  split at h
  · rename_i u v hof
    obtain ⟨t1, t2, _⟩ := in_of hok hof
    have hl := wt_of hok hof
    split at h
    · have := hg _ _ _ _ _ hok t1 t2 (by omega) h; omega
    · cases h; exact absurd rfl hne
  · cases h; exact absurd rfl hne
theorem ruleN {f : Nat} {L : List Nd} (hok : okN L) {op x c : Int} (hx : inG L x) (ho : 1 ≤ op ∧ op ≤ 16) (hc : i64 c) {r : GR} (h : numberR (binF f) L op x c = some r) : NoneL L r := by
  have hK : KeepB [] [] (binF f) := binF_ok (fun L hok x => val_i64 (by simp) (by simp) (okN_i64 hok) x) f
  have st : ∀ {q : Option GR} {k : List Nd → Option GR}, (∀ s, q = some s → NoneL L s) → (k L = some r → NoneL L r) → thenR q k = some r → NoneL L r := by
    intro q k h1 h2 h
    unfold thenR at h
    cases q with
    | none => cases h
    | some s =>
      simp only [Option.bind_some] at h
      split at h
      · cases h; exact h1 _ rfl
      · rename_i hne
        rcases h1 s rfl with h3 | h3
        · exact absurd h3 hne
        · subst h3; exact h2 h
  unfold numberR at h
  refine st (fun s hs => by cases hs; exact fixed_none hx) (fun h => ?_) h
  refine st (fun s hs => moved_none hK hok hx hc hs) (fun h => ?_) h
  refine st (fun s hs => truth_none hK hok hc hs) (fun h => ?_) h
  refine st (fun s hs => group_none hK hok ho hc hs) (fun h => ?_) h
  unfold equalR at h
  split at h
  · cases h; exact .inr rfl
  split at h
  · rename_i y d hta
    obtain ⟨t1, t2, t3, t4⟩ := tailI_ok (S := []) (C := []) hok hta
    exact .inl (withN_ok hK hok t1 (by omega) (wrap_rg _) h).2
  split at h
  · rename_i y d hta
    obtain ⟨t1, t2, t3, t4⟩ := tailI_ok (S := []) (C := []) hok hta
    exact .inl (withN_ok hK hok t1 (by omega) (do_i64 hc t3) h).2
  split at h
  · rename_i y z hof
    obtain ⟨t1, t2, t3⟩ := ofI_ok (S := []) (C := []) hok hof
    split at h
    · exact .inl (hK _ _ _ _ _ hok t1 t2 (by omega) h).2
    · cases h; exact .inr rfl
  split at h
  · rename_i y z hof
    obtain ⟨t1, t2, t3⟩ := ofI_ok (S := []) (C := []) hok hof
    split at h
    · exact .inl (hK _ _ _ _ _ hok t1 t2 (by omega) h).2
    · cases h; exact .inr rfl
  · cases h; exact .inr rfl
theorem turn_deep {f : Nat} (hg : DepB (binF f)) {L : List Nd} (hok : okN L) {op x y : Int} (hx : inG L x) (hy : inG L y) (ho : 1 ≤ op ∧ op ≤ 16) (hK : KeepB [] [] (binF f)) {r : GR} (h : turnR (binF f) L op x y (numI L x) (numI L y) = some r) : wt r.2 r.1 ≤ max (wt L x) (wt L y) + deepW op := by
  have hD := deepW_le op
  cases hs : ruleR (binF f) L op x y (numI L x) (numI L y) with
  | none => unfold turnR thenR at h; rw [hs] at h; cases h
  | some s =>
    have hl : NoneL L s ∧ (s.1 ≠ -1 → wt s.2 s.1 ≤ max (wt L x) (wt L y) + deepW op) := by
      unfold ruleR at hs
      split at hs
      · cases hs
        unfold sameR
        have n0 := wt_numN L 0
        have n1 := wt_numN L 1
        split
        · exact ⟨.inl (numN_get L 0).2.2.2, fun _ => by omega⟩
        · split
          · exact ⟨.inl (numN_get L 1).2.2.2, fun _ => by omega⟩
          · split
            · exact ⟨.inl (ne_of_in hx), fun _ => by show wt L x ≤ _; omega⟩
            · exact ⟨.inr rfl, fun h => absurd rfl h⟩
      · split at hs
        · rename_i b hq
          have hb := (numI_ok (S := []) (C := []) hok hq).2
          refine ⟨ruleN hok hx ho hb hs, fun hne => ?_⟩
          have := number_dep hg hok hx ho hb hK hs hne
          omega
        · split at hs
          · rename_i h1
            obtain ⟨hp, rfl⟩ := h1
            cases hr : binF f L 16 y x with
            | none => rw [hr] at hs; cases hs
            | some q =>
              rw [hr] at hs
              simp only [Option.bind_some] at hs
              have l1 := hg _ _ _ _ _ hok hy hx (by omega) hr
              obtain ⟨g1, g2⟩ := hK _ _ _ _ _ hok hy hx (by omega) hr
              have hbq := binF_boo f _ _ _ _ hy hx hok hr
              have gx := (nd_ext g1.pre hx).1
              have d16 : deepW 16 = 1 := by decide
              have d15 : deepW 15 = 2 := by decide
              refine ⟨.inl (hK _ _ _ _ _ g1.ok (g1.val g2).1 gx (by omega) hs).2, fun _ => ?_⟩
              cases f with
              | zero => cases hs
              | succ f =>
                have l3 := eq_dep (bin := binF f) g1.ok hbq (by rw [numI_ext g1.pre hx]; exact hp) hs
                omega
          · cases hs; exact ⟨.inr rfl, fun h => absurd rfl h⟩
    exact turn_dep hok ho hx hy hs hl.1 hl.2 (by omega) h
theorem binF_dep : ∀ f, DepB (binF f)
  | 0 => fun L op x y r _ _ _ _ h => by cases h
  | f + 1 => fun L op x y r hok hx hy ho h => by
    have hg := binF_dep f
    have hK : KeepB [] [] (binF f) := binF_ok (fun L hok x => val_i64 (by simp) (by simp) (okN_i64 hok) x) f
    unfold binF binR at h
    split at h
    · cases h; rw [wt_numN]; omega
    · split at h
      · have := turn_deep hg hok hy hx ho hK h; omega
      · exact turn_deep hg hok hx hy ho hK h
end Go.Proofs.YtpdeoalocejodaaGreatDoor
/- Terms made plain: what has been made stays, and is found again. -/
namespace Go.Proofs.YtpdeoalocejodaaGreatDoor
open Go Go.Am
set_option maxRecDepth 100000
set_option maxHeartbeats 1000000
theorem idx_pre {d : Nd} {r : List Nd} : ∀ {M : List Nd} {i : Nat}, idx d M = some i → idx d (M ++ r) = some i
  | e :: M, i, h => by
    unfold idx at h
    simp only [List.cons_append]
    unfold idx
    split at h
    · rename_i he; rw [if_pos he]; exact h
    · rename_i he
      rw [if_neg he]
      cases hi : idx d M with
      | none => rw [hi] at h; cases h
      | some j => rw [hi] at h; rw [idx_pre hi]; exact h
theorem idx_end {d : Nd} : ∀ {L : List Nd}, idx d L = none → idx d (L ++ [d]) = some L.length
  | [], _ => by simp [idx]
  | e :: L, h => by
    unfold idx at h
    simp only [List.cons_append]
    unfold idx
    split at h
    · cases h
    · rename_i he
      rw [if_neg he]
      cases hi : idx d L with
      | none => rw [idx_end hi]; rfl
      | some j => rw [hi] at h; cases h
theorem may_up {d : Nd} {n m : Nat} (h : d.may n = true) (hn : n ≤ m) : d.may m = true := by
  unfold Nd.may at *
  rw [Bool.and_eq_true] at *
  refine ⟨h.1, ?_⟩
  obtain ⟨-, h⟩ := h
  split at h
  · rename_i k; rw [if_pos k]
  rename_i k; rw [if_neg k]
  split at h
  · rename_i k; rw [if_pos k]; exact h
  rename_i k; rw [if_neg k]
  split at h
  · rename_i k; rw [if_pos k]; simp only [decide_eq_true_eq] at *; omega
  rename_i k; rw [if_neg k]
  split at h
  · rename_i k; rw [if_pos k]; simp only [decide_eq_true_eq] at *; omega
  · cases h
theorem add_again {L L' : List Nd} {d : Nd} (hm : d.may L.length = true) (h : (addN L d).2 <+: L') : addN L' d = ((addN L d).1, L') := by
  have hl : L.length ≤ L'.length := Nat.le_trans (addN_pre L d).length_le h.length_le
  have hm' := may_up hm hl
  unfold addN at h ⊢
  rw [if_pos hm] at h ⊢
  rw [if_pos hm']
  cases hi : idx d L with
  | some i =>
    rw [hi] at h
    obtain ⟨r, rfl⟩ := h
    simp only
    rw [idx_pre hi]
  | none =>
    rw [hi] at h
    obtain ⟨r, rfl⟩ := h
    simp only
    rw [idx_pre (idx_end hi)]
theorem num_again {L L' : List Nd} {n : Int} (h : (numN L n).2 <+: L') : numN L' n = ((numN L n).1, L') := add_again (num_may n _) h
def Stays (bin : BinT) : Prop := ∀ L op x y r, okN L → inG L x → inG L y → (1 ≤ op ∧ op ≤ 16) → bin L op x y = some r → ∀ L', r.2 <+: L' → bin L' op x y = some (r.1, L')
section
variable {bin : BinT}
theorem withN_stays (hK : KeepB [] [] bin) (hS : Stays bin) {L L' : List Nd} (hok : okN L) {op x n : Int} (hx : inG L x) (ho : 1 ≤ op ∧ op ≤ 16) (hn : i64 n) {r : GR} (h : withN bin L op x n = some r) (hr : r.2 <+: L') : withN bin L' op x n = some (r.1, L') := by
  obtain ⟨h1, h2, h3, h4⟩ := numN_get L n
  have hok2 : okN (numN L n).2 := okN_addN hok hn (show i64 0 by unfold i64; omega)
  have hk := (hK _ _ _ _ _ hok2 (nd_ext h3 hx).1 h1 ho h).1.pre
  unfold withN
  rw [num_again (hk.trans hr)]
  exact hS _ _ _ _ _ hok2 (nd_ext h3 hx).1 h1 ho h _ hr
theorem fixed_stays {L L' : List Nd} {op x c : Int} (h : (fixedR L op x c).2 <+: L') : fixedR L' op x c = ((fixedR L op x c).1, L') := by
  unfold fixedR at *
  split
  · rfl
  · rename_i h1
    rw [if_neg h1] at h
    split
    · rename_i h2; rw [if_pos h2] at h; exact num_again h
    · rename_i h2
      rw [if_neg h2] at h
      split
      · rename_i h3; rw [if_pos h3] at h; exact num_again h
      · rename_i h3
        rw [if_neg h3] at h
        split
        · rename_i h4; rw [if_pos h4] at h; exact num_again h
        · rfl
theorem moved_stays (hK : KeepB [] [] bin) (hS : Stays bin) {L L' : List Nd} (hok : okN L) {op x c : Int} (hx : inG L x) (hc : i64 c) {r : GR} (h : movedR bin L op x c = some r) (hr : r.2 <+: L') : movedR bin L' op x c = some (r.1, L') := by
  unfold movedR at *
  have h64 : i64 (c % 64) := by unfold i64; omega
  split at h
  · rename_i h1; rw [if_pos h1]; exact withN_stays hK hS hok hx (by omega) (wrap_rg _) h hr
  rename_i h1; rw [if_neg h1]
  split at h
  · rename_i h2; rw [if_pos h2]; exact withN_stays hK hS hok hx (by omega) (wrap_rg _) h hr
  rename_i h2; rw [if_neg h2]
  split at h
  · rename_i h3; rw [if_pos h3]; exact withN_stays hK hS hok hx (by omega) h64 h hr
  rename_i h3; rw [if_neg h3]
  split at h
  · rename_i h4; rw [if_pos h4]
    obtain ⟨k, hk'⟩ := Option.isSome_iff_exists.1 h4.2
    have hk2 := (powW_some hk').1
    have hki : i64 (((powW c).getD 0 : Nat) : Int) := by rw [hk']; unfold i64; simp; omega
    exact withN_stays hK hS hok hx (by omega) hki h hr
  rename_i h4; rw [if_neg h4]
  split at h
  · rename_i h5; rw [if_pos h5]; exact withN_stays hK hS hok hx (by omega) (wrap_rg _) h hr
  rename_i h5; rw [if_neg h5]
  split at h
  · rename_i h6; rw [if_pos h6]; exact withN_stays hK hS hok hx (by omega) (show i64 0 by unfold i64; omega) h hr
  · rename_i h6; rw [if_neg h6]; cases h; rfl
theorem ofI_ext {L L' : List Nd} (h : L <+: L') {x op : Int} (hx : inG L x) : ofI L' x op = ofI L x op := by
  obtain ⟨h1, h2⟩ := nd_ext h hx
  simp only [ofI, h1, hx, h2]
theorem tailI_ext {L L' : List Nd} (hok : okN L) (h : L <+: L') {x op : Int} (hx : inG L x) : tailI L' x op = tailI L x op := by
  unfold tailI
  rw [ofI_ext h hx]
  cases ho : ofI L x op with
  | none => rfl
  | some p =>
    obtain ⟨u, v⟩ := p
    have := (ofI_ok (S := []) (C := []) hok ho).2.1
    simp only [Option.bind_some]
    rw [numI_ext h this]
theorem truth_stays (hK : KeepB [] [] bin) (hS : Stays bin) {L L' : List Nd} (hok : okN L) {op x c : Int} (hx : inG L x) (hc : i64 c) {r : GR} (h : truthR bin L op x c = some r) (hL : L <+: L') (hr : r.2 <+: L') : truthR bin L' op x c = some (r.1, L') := by
  unfold truthR at *
  rw [booI_ext hL hx, tailI_ext hok hL hx]
  split at h
  · rename_i h1; rw [if_pos h1]; cases h; rfl
  rename_i h1; rw [if_neg h1]
  split at h
  · rename_i h2; rw [if_pos h2]; cases h; rfl
  rename_i h2; rw [if_neg h2]
  split at h
  · rename_i h3; rw [if_pos h3]; cases h; rw [num_again hr]
  rename_i h3; rw [if_neg h3]
  split at h
  · rename_i h4; rw [if_pos h4]
    have i0 : i64 0 := by unfold i64; omega
    cases hq : withN bin L 16 x 0 with
    | none => rw [hq] at h; cases h
    | some q =>
      rw [hq] at h
      simp only [Option.bind_some] at h
      obtain ⟨g1, g2⟩ := withN_ok hK hok hx (by omega) i0 hq
      obtain ⟨g3, _⟩ := g1.val g2
      have hi : i64 (doW 10 c 1) := do_i64 hc (by unfold i64; omega)
      obtain ⟨k1, _⟩ := withN_ok hK g1.ok g3 (by omega) hi h
      rw [withN_stays hK hS hok hx (by omega) i0 hq (k1.pre.trans hr)]
      simp only [Option.bind_some]
      rw [withN_stays hK hS g1.ok g3 (by omega) hi h hr]
  rename_i h4; rw [if_neg h4]
  cases hta : tailI L x 16 with
  | none => rw [hta] at h; cases h; rfl
  | some p =>
    obtain ⟨y, d⟩ := p
    rw [hta] at h
    simp only at h ⊢
    have hy := (tailI_ok (S := []) (C := []) hok hta).1
    rw [booI_ext hL hy]
    split at h
    · rename_i h5; rw [if_pos h5]; cases h; rfl
    · rename_i h5; rw [if_neg h5]; cases h; rfl
theorem group_stays (hK : KeepB [] [] bin) (hS : Stays bin) {L L' : List Nd} (hok : okN L) {op x c : Int} (hx : inG L x) (ho : 1 ≤ op ∧ op ≤ 16) (hc : i64 c) {r : GR} (h : groupR bin L op x c = some r) (hL : L <+: L') (hr : r.2 <+: L') : groupR bin L' op x c = some (r.1, L') := by
  unfold groupR at *
  rw [tailI_ext hok hL hx]
  cases hta : tailI L x op with
  | none => rw [hta] at h; cases h; rfl
  | some p =>
    obtain ⟨y, d⟩ := p
    rw [hta] at h
    simp only at h ⊢
    obtain ⟨t1, t2, t3, t4⟩ := tailI_ok (S := []) (C := []) hok hta
    split at h
    · rename_i h5; rw [if_pos h5]; exact withN_stays hK hS hok t1 ho (do_i64 t3 hc) h hr
    · rename_i h5; rw [if_neg h5]; cases h; rfl
theorem equal_stays (hK : KeepB [] [] bin) (hS : Stays bin) {L L' : List Nd} (hok : okN L) {op x c : Int} (hx : inG L x) (hc : i64 c) {r : GR} (h : equalR bin L op x c = some r) (hL : L <+: L') (hr : r.2 <+: L') : equalR bin L' op x c = some (r.1, L') := by
  unfold equalR at *
  rw [tailI_ext hok hL hx, tailI_ext hok hL hx, ofI_ext hL hx, ofI_ext hL hx]
  split at h
  · rename_i h1; rw [if_pos h1]; cases h; rfl
  rename_i h1; rw [if_neg h1]
  cases h2 : tailI L x 1 with
  | some p =>
    obtain ⟨y, d⟩ := p
    rw [h2] at h
    simp only at h ⊢
    exact withN_stays hK hS hok (tailI_ok (S := []) (C := []) hok h2).1 (by omega) (wrap_rg _) h hr
  | none =>
    rw [h2] at h
    simp only at h ⊢
    cases h3 : tailI L x 10 with
    | some p =>
      obtain ⟨y, d⟩ := p
      rw [h3] at h
      simp only at h ⊢
      obtain ⟨t1, t2, t3, t4⟩ := tailI_ok (S := []) (C := []) hok h3
      exact withN_stays hK hS hok t1 (by omega) (do_i64 hc t3) h hr
    | none =>
      rw [h3] at h
      simp only at h ⊢
      cases h4 : ofI L x 10 with
      | some p =>
        obtain ⟨y, z⟩ := p
        rw [h4] at h
        simp only at h ⊢
        obtain ⟨t1, t2, _⟩ := ofI_ok (S := []) (C := []) hok h4
        split at h
        · rename_i h5; rw [if_pos h5]; exact hS _ _ _ _ _ hok t1 t2 (by omega) h _ hr
        · rename_i h5; rw [if_neg h5]; cases h; rfl
      | none =>
        rw [h4] at h
        simp only at h ⊢
        cases h5 : ofI L x 2 with
        | some p =>
          obtain ⟨y, z⟩ := p
          rw [h5] at h
          simp only at h ⊢
          obtain ⟨t1, t2, _⟩ := ofI_ok (S := []) (C := []) hok h5
          split at h
          · rename_i h5; rw [if_pos h5]; exact hS _ _ _ _ _ hok t1 t2 (by omega) h _ hr
          · rename_i h5; rw [if_neg h5]; cases h; rfl
        | none =>
          rw [h5] at h
          cases h; rfl
theorem then_stays {L L' : List Nd} {q q' : Option GR} {k k' : List Nd → Option GR} {r : GR} (hn : ∀ s, q = some s → NoneL L s) (hq : ∀ s, q = some s → s.2 <+: L' → q' = some (s.1, L')) (hk : k L = some r → k' L' = some (r.1, L')) (hL : L <+: L') (h : thenR q k = some r) (hr : r.2 <+: L') : thenR q' k' = some (r.1, L') := by
  unfold thenR at h
  cases q with
  | none => cases h
  | some s =>
    simp only [Option.bind_some] at h
    split at h
    · rename_i hne
      cases h
      rw [hq _ rfl hr]
      exact then_some hne
    · rename_i hne
      rcases hn s rfl with h1 | h1
      · exact absurd h1 hne
      · subst h1
        rw [hq _ rfl hL, then_none]
        exact hk h
theorem number_stays (hK : KeepB [] [] bin) (hS : Stays bin) {L L' : List Nd} (hok : okN L) {op x c : Int} (hx : inG L x) (ho : 1 ≤ op ∧ op ≤ 16) (hc : i64 c) {r : GR} (h : numberR bin L op x c = some r) (hL : L <+: L') (hr : r.2 <+: L') : numberR bin L' op x c = some (r.1, L') := by
  unfold numberR at h ⊢
  refine then_stays (fun s hs => by cases hs; exact fixed_none hx) (fun s hs hp => by cases hs; rw [fixed_stays hp]) (fun h => ?_) hL h hr
  refine then_stays (fun s hs => moved_none hK hok hx hc hs) (fun s hs hp => moved_stays hK hS hok hx hc hs hp) (fun h => ?_) hL h hr
  refine then_stays (fun s hs => truth_none hK hok hc hs) (fun s hs hp => truth_stays hK hS hok hx hc hs hL hp) (fun h => ?_) hL h hr
  refine then_stays (fun s hs => group_none hK hok ho hc hs) (fun s hs hp => group_stays hK hS hok hx ho hc hs hL hp) (fun h => ?_) hL h hr
  exact equal_stays hK hS hok hx hc h hL hr
theorem same_stays {L L' : List Nd} {op x : Int} (h : (sameR L op x).2 <+: L') : sameR L' op x = ((sameR L op x).1, L') := by
  unfold sameR at *
  split
  · rename_i h1; rw [if_pos h1] at h; exact num_again h
  · rename_i h1
    rw [if_neg h1] at h
    split
    · rename_i h2; rw [if_pos h2] at h; exact num_again h
    · rename_i h2
      rw [if_neg h2] at h
      split <;> rfl
theorem rule_stays (hK : KeepB [] [] bin) (hS : Stays bin) {L L' : List Nd} (hok : okN L) {op x y : Int} (hx : inG L x) (hy : inG L y) (ho : 1 ≤ op ∧ op ≤ 16) {r : GR} (h : ruleR bin L op x y (numI L x) (numI L y) = some r) (hL : L <+: L') (hr : r.2 <+: L') : ruleR bin L' op x y (numI L' x) (numI L' y) = some (r.1, L') := by
  rw [numI_ext hL hx, numI_ext hL hy]
  unfold ruleR at *
  split at h
  · rename_i h1; rw [if_pos h1]; cases h; rw [same_stays hr]
  rename_i h1; rw [if_neg h1]
  cases hq : numI L y with
  | some b =>
    rw [hq] at h
    exact number_stays hK hS hok hx ho (numI_ok (S := []) (C := []) hok hq).2 h hL hr
  | none =>
    rw [hq] at h
    simp only at h ⊢
    split at h
    · rename_i h2; rw [if_pos h2]
      cases hb : bin L 16 y x with
      | none => rw [hb] at h; cases h
      | some q =>
        rw [hb] at h
        simp only [Option.bind_some] at h
        obtain ⟨g1, g2⟩ := hK _ _ _ _ _ hok hy hx (by omega) hb
        obtain ⟨g3, _⟩ := g1.val g2
        have gx := (nd_ext g1.pre hx).1
        obtain ⟨k1, _⟩ := hK _ _ _ _ _ g1.ok g3 gx (by omega) h
        rw [hS _ _ _ _ _ hok hy hx (by omega) hb _ (k1.pre.trans hr)]
        simp only [Option.bind_some]
        exact hS _ _ _ _ _ g1.ok g3 gx (by omega) h _ hr
    · rename_i h2; rw [if_neg h2]; cases h; rfl
end
theorem keep_nil (f : Nat) : KeepB [] [] (binF f) := binF_ok (fun L hok x => val_i64 (by simp) (by simp) (okN_i64 hok) x) f
theorem rule_none {f : Nat} {L : List Nd} (hok : okN L) {op x y : Int} (hx : inG L x) (hy : inG L y) (ho : 1 ≤ op ∧ op ≤ 16) {r : GR} (h : ruleR (binF f) L op x y (numI L x) (numI L y) = some r) : NoneL L r := by
  have hK := keep_nil f
  unfold ruleR at h
  split at h
  · rename_i e
    cases h
    unfold sameR
    split
    · exact .inl (numN_get L 0).2.2.2
    · split
      · exact .inl (numN_get L 1).2.2.2
      · split
        · exact .inl (ne_of_in hx)
        · exact .inr rfl
  · split at h
    · rename_i b hq
      have hc := (numI_ok (S := []) (C := []) hok hq).2
      unfold numberR at h
      have st : ∀ {q : Option GR} {k : List Nd → Option GR}, (∀ s, q = some s → NoneL L s) → (k L = some r → NoneL L r) → thenR q k = some r → NoneL L r := by
        intro q k h1 h2 h
        unfold thenR at h
        cases q with
        | none => cases h
        | some s =>
          simp only [Option.bind_some] at h
          split at h
          · cases h; exact h1 _ rfl
          · rename_i hne
            rcases h1 s rfl with h3 | h3
            · exact absurd h3 hne
            · subst h3; exact h2 h
      refine st (fun s hs => by cases hs; exact fixed_none hx) (fun h => ?_) h
      refine st (fun s hs => moved_none hK hok hx hc hs) (fun h => ?_) h
      refine st (fun s hs => truth_none hK hok hc hs) (fun h => ?_) h
      refine st (fun s hs => group_none hK hok ho hc hs) (fun h => ?_) h
      unfold equalR at h
      split at h
      · cases h; exact .inr rfl
      split at h
      · rename_i y d hta
        obtain ⟨t1, t2, t3, t4⟩ := tailI_ok (S := []) (C := []) hok hta
        exact .inl (withN_ok hK hok t1 (by omega) (wrap_rg _) h).2
      split at h
      · rename_i y d hta
        obtain ⟨t1, t2, t3, t4⟩ := tailI_ok (S := []) (C := []) hok hta
        exact .inl (withN_ok hK hok t1 (by omega) (do_i64 hc t3) h).2
      split at h
      · rename_i y z hof
        obtain ⟨t1, t2, t3⟩ := ofI_ok (S := []) (C := []) hok hof
        split at h
        · exact .inl (hK _ _ _ _ _ hok t1 t2 (by omega) h).2
        · cases h; exact .inr rfl
      split at h
      · rename_i y z hof
        obtain ⟨t1, t2, t3⟩ := ofI_ok (S := []) (C := []) hok hof
        split at h
        · exact .inl (hK _ _ _ _ _ hok t1 t2 (by omega) h).2
        · cases h; exact .inr rfl
      · cases h; exact .inr rfl
    · split at h
      · cases hb : binF f L 16 y x with
        | none => rw [hb] at h; cases h
        | some q =>
          rw [hb] at h
          simp only [Option.bind_some] at h
          obtain ⟨g1, g2⟩ := hK _ _ _ _ _ hok hy hx (by omega) hb
          obtain ⟨g3, _⟩ := g1.val g2
          exact .inl (hK _ _ _ _ _ g1.ok g3 (nd_ext g1.pre hx).1 (by omega) h).2
      · cases h; exact .inr rfl
theorem turn_stays {f : Nat} (hS : Stays (binF f)) {L L' : List Nd} (hok : okN L) {op x y : Int} (hx : inG L x) (hy : inG L y) (ho : 1 ≤ op ∧ op ≤ 16) {r : GR} (h : turnR (binF f) L op x y (numI L x) (numI L y) = some r) (hL : L <+: L') (hr : r.2 <+: L') : turnR (binF f) L' op x y (numI L' x) (numI L' y) = some (r.1, L') := by
  have hK := keep_nil f
  unfold turnR at h ⊢
  refine then_stays (fun s hs => rule_none hok hx hy ho hs) (fun s hs hp => rule_stays hK hS hok hx hy ho hs hL hp) (fun h => ?_) hL h hr
  cases h
  rw [add_again (node_may ho hx hy) hr]
theorem binF_stays : ∀ f, Stays (binF f)
  | 0 => fun L op x y r _ _ _ _ h => by cases h
  | f + 1 => fun L op x y r hok hx hy ho h L' hr => by
    have hK := keep_nil (f + 1) _ _ _ _ _ hok hx hy ho h
    have hL := hK.1.pre.trans hr
    unfold binF binR at h ⊢
    rw [numI_ext hL hx, numI_ext hL hy]
    cases ha : numI L x with
    | some a =>
      cases hb : numI L y with
      | some b =>
        rw [ha, hb] at h
        cases h
        exact congrArg some (num_again hr)
      | none =>
        rw [ha, hb] at h
        simp only at h ⊢
        split at h
        · rename_i h1; rw [if_pos h1]
          have := turn_stays (binF_stays f) hok hy hx ho (by rw [ha, hb]; exact h) hL hr
          rw [numI_ext hL hx, numI_ext hL hy, ha, hb] at this
          exact this
        · rename_i h1; rw [if_neg h1]
          have := turn_stays (binF_stays f) hok hx hy ho (by rw [ha, hb]; exact h) hL hr
          rw [numI_ext hL hx, numI_ext hL hy, ha, hb] at this
          exact this
    | none =>
      rw [ha] at h
      simp only at h ⊢
      split at h
      · rename_i h1; rw [if_pos h1]
        have := turn_stays (binF_stays f) hok hy hx ho (by rw [ha]; exact h) hL hr
        rw [numI_ext hL hx, numI_ext hL hy, ha] at this
        exact this
      · rename_i h1; rw [if_neg h1]
        have := turn_stays (binF_stays f) hok hx hy ho (by rw [ha]; exact h) hL hr
        rw [numI_ext hL hx, numI_ext hL hy, ha] at this
        exact this
end Go.Proofs.YtpdeoalocejodaaGreatDoor
/- Terms made plain: with more steps the same; a graph in which all has been made. -/
namespace Go.Proofs.YtpdeoalocejodaaGreatDoor
open Go Go.Am
set_option maxRecDepth 100000
set_option maxHeartbeats 1000000
def LeB (b b' : BinT) : Prop := ∀ L op x y r, b L op x y = some r → b' L op x y = some r
section
variable {b b' : BinT}
theorem withN_le (h : LeB b b') {L : List Nd} {op x n : Int} {r : GR} (hr : withN b L op x n = some r) : withN b' L op x n = some r := h _ _ _ _ _ hr
theorem moved_le (hb : LeB b b') {L : List Nd} {op x c : Int} {r : GR} (h : movedR b L op x c = some r) : movedR b' L op x c = some r := by
  unfold movedR at *
  split at h
  · rename_i h1; rw [if_pos h1]; exact withN_le hb h
  rename_i h1; rw [if_neg h1]
  split at h
  · rename_i h1; rw [if_pos h1]; exact withN_le hb h
  rename_i h1; rw [if_neg h1]
  split at h
  · rename_i h1; rw [if_pos h1]; exact withN_le hb h
  rename_i h1; rw [if_neg h1]
  split at h
  · rename_i h1; rw [if_pos h1]; exact withN_le hb h
  rename_i h1; rw [if_neg h1]
  split at h
  · rename_i h1; rw [if_pos h1]; exact withN_le hb h
  rename_i h1; rw [if_neg h1]
  split at h
  · rename_i h1; rw [if_pos h1]; exact withN_le hb h
  · rename_i h1; rw [if_neg h1]; exact h
theorem truth_le (hb : LeB b b') {L : List Nd} {op x c : Int} {r : GR} (h : truthR b L op x c = some r) : truthR b' L op x c = some r := by
  unfold truthR at *
  split at h
  · rename_i h1; rw [if_pos h1]; exact h
  rename_i h1; rw [if_neg h1]
  split at h
  · rename_i h1; rw [if_pos h1]; exact h
  rename_i h1; rw [if_neg h1]
  split at h
  · rename_i h1; rw [if_pos h1]; exact h
  rename_i h1; rw [if_neg h1]
  split at h
  · rename_i h1; rw [if_pos h1]
    cases hq : withN b L 16 x 0 with
    | none => rw [hq] at h; cases h
    | some q => rw [hq] at h; rw [withN_le hb hq]; exact withN_le hb h
  · rename_i h1; rw [if_neg h1]; exact h
theorem group_le (hb : LeB b b') {L : List Nd} {op x c : Int} {r : GR} (h : groupR b L op x c = some r) : groupR b' L op x c = some r := by
  unfold groupR at *
  split at h
  · split at h
    · rename_i h1; rw [if_pos h1]; exact withN_le hb h
    · rename_i h1; rw [if_neg h1]; exact h
  · exact h
theorem equal_le (hb : LeB b b') {L : List Nd} {op x c : Int} {r : GR} (h : equalR b L op x c = some r) : equalR b' L op x c = some r := by
  unfold equalR at *
  split at h
  · rename_i h1; rw [if_pos h1]; exact h
  rename_i h1; rw [if_neg h1]
  split at h
  · exact withN_le hb h
  split at h
  · exact withN_le hb h
  split at h
  · split at h
    · rename_i h1; rw [if_pos h1]; exact hb _ _ _ _ _ h
    · rename_i h1; rw [if_neg h1]; exact h
  split at h
  · split at h
    · rename_i h1; rw [if_pos h1]; exact hb _ _ _ _ _ h
    · rename_i h1; rw [if_neg h1]; exact h
  · exact h
theorem then_le {q q' : Option GR} {k k' : List Nd → Option GR} {r : GR} (hq : ∀ s, q = some s → q' = some s) (hk : ∀ L s, k L = some s → k' L = some s) (h : thenR q k = some r) : thenR q' k' = some r := by
  unfold thenR at *
  cases q with
  | none => cases h
  | some s =>
    rw [hq s rfl]
    simp only [Option.bind_some] at *
    split at h
    · rename_i h1; rw [if_pos h1]; exact h
    · rename_i h1; rw [if_neg h1]; exact hk _ _ h
theorem number_le (hb : LeB b b') {L : List Nd} {op x c : Int} {r : GR} (h : numberR b L op x c = some r) : numberR b' L op x c = some r := by
  unfold numberR at *
  refine then_le (fun s hs => hs) (fun L s h => ?_) h
  refine then_le (fun s hs => moved_le hb hs) (fun L s h => ?_) h
  refine then_le (fun s hs => truth_le hb hs) (fun L s h => ?_) h
  refine then_le (fun s hs => group_le hb hs) (fun L s h => ?_) h
  exact equal_le hb h
theorem rule_le (hb : LeB b b') {L : List Nd} {op x y : Int} {p q : Option Int} {r : GR} (h : ruleR b L op x y p q = some r) : ruleR b' L op x y p q = some r := by
  unfold ruleR at *
  split at h
  · rename_i h1; rw [if_pos h1]; exact h
  rename_i h1; rw [if_neg h1]
  split at h
  · exact number_le hb h
  · split at h
    · rename_i h1; rw [if_pos h1]
      cases hq : b L 16 y x with
      | none => rw [hq] at h; cases h
      | some q => rw [hq] at h; rw [hb _ _ _ _ _ hq]; exact hb _ _ _ _ _ h
    · rename_i h1; rw [if_neg h1]; exact h
theorem turn_le (hb : LeB b b') {L : List Nd} {op x y : Int} {p q : Option Int} {r : GR} (h : turnR b L op x y p q = some r) : turnR b' L op x y p q = some r := by
  unfold turnR at *
  exact then_le (fun s hs => rule_le hb hs) (fun L s h => h) h
theorem bin_le (hb : LeB b b') : LeB (binR b) (binR b') := fun L op x y r h => by
  unfold binR at *
  split at h
  · exact h
  · split at h
    · rename_i h1; rw [if_pos h1]; exact turn_le hb h
    · rename_i h1; rw [if_neg h1]; exact turn_le hb h
end
theorem binF_le : ∀ f, LeB (binF f) (binF (f + 1))
  | 0 => fun L op x y r h => by cases h
  | f + 1 => bin_le (binF_le f)
theorem binF_mono {f : Nat} : ∀ {g : Nat}, f ≤ g → LeB (binF f) (binF g)
  | 0, h => by cases Nat.le_zero.1 h; exact fun _ _ _ _ _ h => h
  | g + 1, h => by
    rcases Nat.lt_or_ge g f with h1 | h1
    · have : f = g + 1 := by omega
      subst this; exact fun _ _ _ _ _ h => h
    · exact fun L op x y r hr => binF_le g _ _ _ _ _ (binF_mono h1 _ _ _ _ _ hr)
def Bn (M : List Nd) (op x y i : Int) : Prop := ∃ f, binF f M op x y = some (i, M)
theorem Bn.fn {M : List Nd} {op x y i j : Int} (h : Bn M op x y i) (h' : Bn M op x y j) : i = j := by
  obtain ⟨f, hf⟩ := h
  obtain ⟨g, hg⟩ := h'
  have h1 := binF_mono (Nat.le_max_left f g) _ _ _ _ _ hf
  have h2 := binF_mono (Nat.le_max_right f g) _ _ _ _ _ hg
  rw [h1] at h2
  cases h2; rfl
theorem bn_of {f : Nat} {L M : List Nd} {op x y : Int} {r : GR} (hok : okN L) (hx : inG L x) (hy : inG L y) (ho : 1 ≤ op ∧ op ≤ 16) (h : binF f L op x y = some r) (hM : r.2 <+: M) : Bn M op x y r.1 :=
  ⟨f, binF_stays f _ _ _ _ _ hok hx hy ho h M hM⟩
theorem Bn.up {L M : List Nd} {op x y i : Int} (hok : okN L) (hx : inG L x) (hy : inG L y) (ho : 1 ≤ op ∧ op ≤ 16) (h : Bn L op x y i) (hM : L <+: M) : Bn M op x y i := by
  obtain ⟨f, hf⟩ := h
  exact bn_of hok hx hy ho hf hM
theorem Bn.swap {M : List Nd} {op x y i : Int} (hs : swapsW op = true) (h : Bn M op x y i) : Bn M op y x i := by
  obtain ⟨f, hf⟩ := h
  refine ⟨f, ?_⟩
  cases f with
  | zero => cases hf
  | succ f =>
    unfold binF binR at *
    cases hx : numI M x with
    | some a =>
      cases hy : numI M y with
      | some b => rw [hx, hy] at hf; simp only at *; rw [do_swap hs]; exact hf
      | none => rw [hx, hy] at hf; simp [hs] at *; exact hf
    | none =>
      cases hy : numI M y with
      | some b => rw [hx, hy] at hf; simp [hs] at *; exact hf
      | none =>
        rw [hx, hy] at hf
        simp [hs] at *
        split at hf
        · rename_i h1; rw [if_neg (by omega)]; exact hf
        · rename_i h1
          by_cases h2 : x < y
          · rw [if_pos h2]; exact hf
          · rw [if_neg h2]
            have : x = y := by omega
            subst this; exact hf
def One (M : List Nd) : Prop := M.Nodup
theorem idx_mem {d : Nd} : ∀ {L : List Nd}, d ∈ L → (idx d L).isSome = true
  | e :: L, h => by
    unfold idx
    split
    · rfl
    · rename_i hne
      rcases List.mem_cons.1 h with h | h
      · exact absurd h hne
      · simp [idx_mem h]
theorem one_add {L : List Nd} (h : One L) (d : Nd) : One (addN L d).2 := by
  unfold addN
  split
  · split
    · exact h
    · rename_i hi
      show (L ++ [d]).Nodup
      rw [List.nodup_append]
      refine ⟨h, by simp, fun a ha b hb => ?_⟩
      simp only [List.mem_singleton] at hb
      subst hb
      rintro rfl
      have := idx_mem ha
      rw [hi] at this
      cases this
  · exact h
section
variable {M : List Nd}
theorem one_eq (h1 : One M) {x y : Int} (hx : inG M x) (hy : inG M y) (h : nd M x = nd M y) : x = y := by
  have a := nd_at hx
  have b := nd_at hy
  rw [h] at a
  obtain ⟨ha, ea⟩ := List.getElem?_eq_some_iff.1 a
  obtain ⟨hb, eb⟩ := List.getElem?_eq_some_iff.1 b
  have := (List.getElem_inj h1).1 (ea.trans eb.symm)
  unfold inG at hx hy
  omega
theorem nd_may (hok : okN M) {x : Int} (hx : inG M x) : (nd M x).may x.toNat = true := (hok _ _ (nd_at hx)).2.2
theorem num_nd (hok : okN M) {x c : Int} (h : numI M x = some c) : inG M x ∧ nd M x = ⟨1, c, 0, 0, 0, 0⟩ := by
  unfold numI at h
  split at h
  · rename_i h1
    cases h
    refine ⟨h1.1, ?_⟩
    have hm := nd_may hok h1.1
    have hk := h1.2
    generalize nd M x = d at *
    obtain ⟨k, n, a, o, u, v⟩ := d
    simp only at hk
    subst hk
    simp [Nd.may] at hm
    simp [hm]
  · cases h
theorem num_uniq (hok : okN M) (h1 : One M) {x y c : Int} (hx : numI M x = some c) (hy : numI M y = some c) : x = y := by
  obtain ⟨a, b⟩ := num_nd hok hx
  obtain ⟨a', b'⟩ := num_nd hok hy
  exact one_eq h1 a a' (b.trans b'.symm)
theorem pre_eq {L : List Nd} (h : L <+: M) (h' : M <+: L) : L = M := h.eq_of_length (Nat.le_antisymm h.length_le h'.length_le)
end
end Go.Proofs.YtpdeoalocejodaaGreatDoor
