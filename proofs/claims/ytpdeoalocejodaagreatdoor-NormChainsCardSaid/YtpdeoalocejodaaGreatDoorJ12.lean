/- Terms made plain: what is made in a graph that has it already. -/
import Derived.Test.YtpdeoalocejodaaGreatDoorJ11
/- Terms made plain: what is made in a graph that has it already. -/
namespace Go.Proofs.YtpdeoalocejodaaGreatDoor
open Go Go.Am
set_option maxRecDepth 100000
set_option maxHeartbeats 1000000
theorem add_here {M : List Nd} (h1 : One M) {x : Int} (hx : inG M x) (hm : (nd M x).may M.length = true) : addN M (nd M x) = (x, M) := by
  unfold addN
  rw [if_pos hm]
  have hg := nd_at hx
  obtain ⟨i, hi⟩ := Option.isSome_iff_exists.1 (idx_mem (List.mem_of_getElem? hg))
  rw [hi]
  have hgi := idx_get hi
  have hlt := (List.getElem?_eq_some_iff.1 hgi).1
  have e : nd M (i : Int) = nd M x := by
    have : M[((i : Nat) : Int).toNat]? = some (nd M x) := hgi
    simp [nd, List.getD_eq_getElem?_getD, hgi]
  have : (i : Int) = x := one_eq h1 ⟨by omega, by omega⟩ hx e
  simp only [this]
theorem withN_inv {f : Nat} {M : List Nd} (hok : okN M) {op x n i : Int} (hx : inG M x) (ho : 1 ≤ op ∧ op ≤ 16) (hn : i64 n) (h : withN (binF f) M op x n = some (i, M)) : ∃ z, numI M z = some n ∧ binF f M op x z = some (i, M) := by
  obtain ⟨h1, h2, h3, h4⟩ := numN_get M n
  have hok2 : okN (numN M n).2 := okN_addN hok hn (show i64 0 by unfold i64; omega)
  have hk := (keep_nil f _ _ _ _ _ hok2 (nd_ext h3 hx).1 h1 ho h).1.pre
  have e := pre_eq hk h3
  unfold withN at h
  rw [e] at h h2
  exact ⟨_, h2, h⟩
def Ec (M : List Nd) (op x c i : Int) : Prop := ∃ z, numI M z = some c ∧ Bn M op x z i
theorem Ec.of {M : List Nd} {op x z c i : Int} (hz : numI M z = some c) (h : Bn M op x z i) : Ec M op x c i := ⟨z, hz, h⟩
theorem Ec.fn {M : List Nd} (hok : okN M) (h1 : One M) {op x c i j : Int} (h : Ec M op x c i) (h' : Ec M op x c j) : i = j := by
  obtain ⟨z, hz, hb⟩ := h
  obtain ⟨w, hw, hb'⟩ := h'
  rw [num_uniq hok h1 hw hz] at hb'
  exact hb.fn hb'
theorem Ec.withN {f : Nat} {M : List Nd} (hok : okN M) {op x n i : Int} (hx : inG M x) (ho : 1 ≤ op ∧ op ≤ 16) (hn : i64 n) (h : Go.Proofs.YtpdeoalocejodaaGreatDoor.withN (binF f) M op x n = some (i, M)) : Ec M op x n i := by
  obtain ⟨z, hz, hb⟩ := withN_inv hok hx ho hn h
  exact ⟨z, hz, f, hb⟩
theorem num_there {M : List Nd} {c i : Int} (h : numN M c = (i, M)) : numI M i = some c := by
  have := (numN_get M c).2.1
  rw [h] at this
  exact this
theorem bn_const {M : List Nd} {op x y a b i : Int} (hx : numI M x = some a) (hy : numI M y = some b) (h : Bn M op x y i) : numI M i = some (doW op a b) := by
  obtain ⟨f, hf⟩ := h
  cases f with
  | zero => cases hf
  | succ f =>
    unfold binF binR at hf
    rw [hx, hy] at hf
    simp only [Option.some.injEq] at hf
    exact num_there hf
theorem Ec.const {M : List Nd} {op x a c i : Int} (hx : numI M x = some a) (h : Ec M op x c i) : numI M i = some (doW op a c) := by
  obtain ⟨z, hz, hb⟩ := h
  exact bn_const hx hz hb
def Nat' (M : List Nd) (op x y i : Int) : Prop := inG M i ∧ nd M i = ⟨4, 0, 0, op, x, y⟩
theorem Nat'.fn {M : List Nd} (h1 : One M) {op x y i j : Int} (h : Nat' M op x y i) (h' : Nat' M op x y j) : i = j := one_eq h1 h.1 h'.1 (h.2.trans h'.2.symm)
theorem Nat'.of {M : List Nd} {op x y i : Int} (hm : Nd.may ⟨4, 0, 0, op, x, y⟩ M.length = true) (h : addN M ⟨4, 0, 0, op, x, y⟩ = (i, M)) : Nat' M op x y i := by
  obtain ⟨a, b⟩ := add_ok hm
  rw [h] at a b
  exact ⟨a, b⟩
theorem then_inv {M : List Nd} {q : Option GR} {k : List Nd → Option GR} {i : Int} (hn : ∀ s, q = some s → NoneL M s) (h : thenR q k = some (i, M)) : (q = some (i, M) ∧ i ≠ -1) ∨ (q = some (-1, M) ∧ k M = some (i, M)) := by
  unfold thenR at h
  cases q with
  | none => cases h
  | some s =>
    simp only [Option.bind_some] at h
    split at h
    · rename_i hne; cases h; exact .inl ⟨rfl, hne⟩
    · rename_i hne
      rcases hn s rfl with h1 | h1
      · exact absurd h1 hne
      · subst h1; exact .inr ⟨rfl, h⟩
def EqR (M : List Nd) (x c i : Int) : Prop :=
  match tailI M x 1 with
  | some (y, d) => Ec M 16 y (IntKind.i64.wrap (c - d)) i
  | none => match tailI M x 10 with
    | some (y, d) => Ec M 16 y (doW 10 c d) i
    | none => match ofI M x 10 with
      | some (y, z) => if c = 0 then Bn M 16 y z i else ∃ w, numI M w = some c ∧ Nat' M 16 x w i
      | none => match ofI M x 2 with
        | some (y, z) => if c = 0 then Bn M 16 y z i else ∃ w, numI M w = some c ∧ Nat' M 16 x w i
        | none => ∃ w, numI M w = some c ∧ Nat' M 16 x w i
def eqT (M : List Nd) (x : Int) : Option Int := match tailI M x 16 with | some (y, d) => if d = 0 ∧ booI M y = true then some y else none | none => none
def RuleE (M : List Nd) (op x c i : Int) : Prop :=
  if keepsW op = some c then i = x
  else if (op = 3 ∨ op = 8 ∨ op = 15) ∧ c = 0 then numI M i = some 0
  else if op = 9 ∧ c = -1 then numI M i = some (-1)
  else if (op = 5 ∨ op = 7) ∧ c = 1 then numI M i = some 0
  else if op = 2 then Ec M 1 x (IntKind.i64.wrap (-c)) i
  else if op = 11 then Ec M 3 x (IntKind.i64.wrap (2 ^ (c % 64).toNat)) i
  else if (op = 12 ∨ op = 13) ∧ c ≠ c % 64 then Ec M op x (c % 64) i
  else if op = 6 ∧ (powW c).isSome = true then Ec M 12 x ((powW c).getD 0 : Nat) i
  else if op = 7 ∧ (powW c).isSome = true then Ec M 8 x (IntKind.i64.wrap (c - 1)) i
  else if op = 15 ∧ c = 1 then Ec M 16 x 0 i
  else if booI M x = true ∧ ((op = 8 ∧ c % 2 = 1) ∨ (op = 16 ∧ c = 1)) then i = x
  else if booI M x = true ∧ (op = 8 ∨ (op = 16 ∧ c ≠ 0)) then numI M i = some 0
  else if booI M x = true ∧ op = 10 ∧ c % 2 = 1 then ∃ n, Ec M 16 x 0 n ∧ Ec M 10 n (doW 10 c 1) i
  else if booI M x = true ∧ op = 16 ∧ (eqT M x).isSome = true then eqT M x = some i
  else if groupsW op = true ∧ (tailI M x op).isSome = true then ∃ y d, tailI M x op = some (y, d) ∧ Ec M op y (doW op d c) i
  else if op = 16 then EqR M x c i
  else ∃ w, numI M w = some c ∧ Nat' M op x w i
theorem neg_in {M : List Nd} {x : Int} (hx : inG M x) (h : ((x, M) : GR) = (-1, M)) : False := by
  cases h; exact absurd hx.1 (by decide)
theorem neg_num {M : List Nd} {c : Int} (h : numN M c = (-1, M)) : False := (numN_get M c).2.2.2 (by rw [h])
theorem fixed_no {M : List Nd} {op x c : Int} (hx : inG M x) (h : fixedR M op x c = (-1, M)) : ¬ keepsW op = some c ∧ ¬ ((op = 3 ∨ op = 8 ∨ op = 15) ∧ c = 0) ∧ ¬ (op = 9 ∧ c = -1) ∧ ¬ ((op = 5 ∨ op = 7) ∧ c = 1) := by
  unfold fixedR at h
  split at h
  · exact (neg_in hx h).elim
  split at h
  · exact (neg_num h).elim
  split at h
  · exact (neg_num h).elim
  split at h
  · exact (neg_num h).elim
  rename_i k1 k2 k3 k4
  exact ⟨k1, k2, k3, k4⟩
theorem moved_no {f : Nat} {M : List Nd} (hok : okN M) {op x c : Int} (hx : inG M x) (hc : i64 c) (h : movedR (binF f) M op x c = some (-1, M)) : ¬ op = 2 ∧ ¬ op = 11 ∧ ¬ ((op = 12 ∨ op = 13) ∧ c ≠ c % 64) ∧ ¬ (op = 6 ∧ (powW c).isSome = true) ∧ ¬ (op = 7 ∧ (powW c).isSome = true) ∧ ¬ (op = 15 ∧ c = 1) := by
  have wn : ∀ {op n : Int}, (1 ≤ op ∧ op ≤ 16) → i64 n → withN (binF f) M op x n = some (-1, M) → False := fun ho hn h => (withN_ok (keep_nil f) hok hx ho hn h).2 rfl
  have i0 : i64 0 := by unfold i64; omega
  unfold movedR at h
  split at h
  · exact (wn (by omega) (wrap_rg _) h).elim
  split at h
  · exact (wn (by omega) (wrap_rg _) h).elim
  split at h
  · exact (wn (by omega) (by unfold i64; omega) h).elim
  split at h
  · rename_i k
    obtain ⟨q, hk'⟩ := Option.isSome_iff_exists.1 k.2
    have hk2 := (powW_some hk').1
    exact (wn (by omega) (by rw [hk']; unfold i64; simp; omega) h).elim
  split at h
  · exact (wn (by omega) (wrap_rg _) h).elim
  split at h
  · exact (wn (by omega) i0 h).elim
  rename_i k1 k2 k3 k4 k5 k6
  exact ⟨k1, k2, k3, k4, k5, k6⟩
theorem truth_no {f : Nat} {M : List Nd} (hok : okN M) {op x c : Int} (hx : inG M x) (hc : i64 c) (h : truthR (binF f) M op x c = some (-1, M)) :
    ¬ (booI M x = true ∧ ((op = 8 ∧ c % 2 = 1) ∨ (op = 16 ∧ c = 1))) ∧ ¬ (booI M x = true ∧ (op = 8 ∨ (op = 16 ∧ c ≠ 0))) ∧ ¬ (booI M x = true ∧ op = 10 ∧ c % 2 = 1) ∧ ¬ (booI M x = true ∧ op = 16 ∧ (eqT M x).isSome = true) := by
  have hK := keep_nil f
  have i0 : i64 0 := by unfold i64; omega
  unfold truthR at h
  split at h
  · rename_i kb
    refine ⟨fun q => ?_, fun q => ?_, fun q => ?_, fun q => ?_⟩ <;> (have := q.1; rw [kb] at this; cases this)
  rename_i kb
  split at h
  · exact (neg_in hx (Option.some.inj h)).elim
  rename_i k1
  split at h
  · exact (neg_num (Option.some.inj h)).elim
  rename_i k2
  split at h
  · cases hq : withN (binF f) M 16 x 0 with
    | none => rw [hq] at h; cases h
    | some q =>
      rw [hq] at h
      simp only [Option.bind_some] at h
      obtain ⟨g1, g2⟩ := withN_ok hK hok hx (by omega) i0 hq
      obtain ⟨g3, _⟩ := g1.val g2
      exact ((withN_ok hK g1.ok g3 (by omega) (do_i64 hc (by unfold i64; omega)) h).2 rfl).elim
  rename_i k3
  refine ⟨fun q => k1 q.2, fun q => k2 q.2, fun q => k3 q.2, fun q => ?_⟩
  obtain ⟨q1, q2, q3⟩ := q
  unfold eqT at q3
  cases q4 : tailI M x 16 with
  | none => rw [q4] at q3; cases q3
  | some p =>
    obtain ⟨y, d⟩ := p
    rw [q4] at q3 h
    simp only at q3 h
    split at q3
    · rename_i q5
      rw [if_pos ⟨q2, q5⟩] at h
      exact neg_in (booI_in q5.2) (Option.some.inj h)
    · cases q3
theorem group_no {f : Nat} {M : List Nd} (hok : okN M) {op x c : Int} (ho : 1 ≤ op ∧ op ≤ 16) (hc : i64 c) (h : groupR (binF f) M op x c = some (-1, M)) : ¬ (groupsW op = true ∧ (tailI M x op).isSome = true) := by
  rintro ⟨k1, k2⟩
  obtain ⟨⟨y, d⟩, hta⟩ := Option.isSome_iff_exists.1 k2
  unfold groupR at h
  rw [hta] at h
  simp only at h
  rw [if_pos k1] at h
  obtain ⟨t1, t2, t3, t4⟩ := tailI_ok (S := []) (C := []) hok hta
  exact (withN_ok (keep_nil f) hok t1 ho (do_i64 t3 hc) h).2 rfl
theorem equal_no {f : Nat} {M : List Nd} (hok : okN M) {x c : Int} (hc : i64 c) (h : equalR (binF f) M 16 x c = some (-1, M)) {i : Int} (hi : ∃ w, numI M w = some c ∧ Nat' M 16 x w i) : EqR M x c i := by
  have hK := keep_nil f
  unfold equalR at h
  rw [if_neg (by simp)] at h
  unfold EqR
  cases h2 : tailI M x 1 with
  | some p =>
    obtain ⟨y, d⟩ := p
    rw [h2] at h
    exact ((withN_ok hK hok (tailI_ok (S := []) (C := []) hok h2).1 (by omega) (wrap_rg _) h).2 rfl).elim
  | none =>
    rw [h2] at h
    simp only at h ⊢
    cases h3 : tailI M x 10 with
    | some p =>
      obtain ⟨y, d⟩ := p
      rw [h3] at h
      obtain ⟨t1, t2, t3, t4⟩ := tailI_ok (S := []) (C := []) hok h3
      exact ((withN_ok hK hok t1 (by omega) (do_i64 hc t3) h).2 rfl).elim
    | none =>
      rw [h3] at h
      simp only at h ⊢
      cases h4 : ofI M x 10 with
      | some p =>
        obtain ⟨y, w⟩ := p
        rw [h4] at h
        obtain ⟨t1, t2, _⟩ := ofI_ok (S := []) (C := []) hok h4
        simp only at h ⊢
        split at h
        · exact ((hK _ _ _ _ _ hok t1 t2 (by omega) h).2 rfl).elim
        · rename_i k; rw [if_neg k]; exact hi
      | none =>
        rw [h4] at h
        simp only at h ⊢
        cases h5 : ofI M x 2 with
        | some p =>
          obtain ⟨y, w⟩ := p
          rw [h5] at h
          obtain ⟨t1, t2, _⟩ := ofI_ok (S := []) (C := []) hok h5
          simp only at h ⊢
          split at h
          · exact ((hK _ _ _ _ _ hok t1 t2 (by omega) h).2 rfl).elim
          · rename_i k; rw [if_neg k]; exact hi
        | none => exact hi
theorem ec_rule {M : List Nd} (hok : okN M) {op x c i : Int} (hx : numI M x = none) (hxi : inG M x) (ho : 1 ≤ op ∧ op ≤ 16) (h : Ec M op x c i) : RuleE M op x c i := by
  obtain ⟨z, hz, f, hf⟩ := h
  have hzi := (num_nd hok hz).1
  have hc := (numI_ok (S := []) (C := []) hok hz).2
  have i0 : i64 0 := by unfold i64; omega
  cases f with
  | zero => cases hf
  | succ f =>
    have hK := keep_nil f
    have hxz : x ≠ z := by rintro rfl; rw [hx] at hz; cases hz
    have hN : ∀ s, ruleR (binF f) M op x z (numI M x) (numI M z) = some s → NoneL M s := fun s hs => rule_none hok hxi hzi ho hs
    unfold binF binR at hf
    rw [hx, hz] at hf hN
    simp only [Option.isSome_none, Bool.false_eq_true, reduceCtorEq, false_and, or_self, and_false, if_false] at hf
    unfold turnR at hf
    unfold ruleR at hf hN
    rw [if_neg hxz] at hf
    simp only [if_neg hxz] at hf hN
    have hne : ∀ {a b : GR}, (some a : Option GR) = some b → a = b := fun h => Option.some.inj h
    have key : (numberR (binF f) M op x c = some (i, M) ∧ i ≠ -1) ∨ (numberR (binF f) M op x c = some (-1, M) ∧ ∃ w, numI M w = some c ∧ Nat' M op x w i) := by
      rcases then_inv hN hf with h | ⟨h, hk⟩
      · exact .inl h
      · exact .inr ⟨h, z, hz, Nat'.of (node_may ho hxi hzi) (hne hk)⟩
    clear hf hN
    have st : ∀ {q : Option GR} {k : List Nd → Option GR} {X : Prop}, (∀ s, q = some s → NoneL M s) → ((thenR q k = some (i, M) ∧ i ≠ -1) ∨ (thenR q k = some (-1, M) ∧ X)) → (q = some (i, M) ∧ i ≠ -1) ∨ (q = some (-1, M) ∧ ((k M = some (i, M) ∧ i ≠ -1) ∨ (k M = some (-1, M) ∧ X))) := by
      intro q k X hn h
      rcases h with ⟨h, hi⟩ | ⟨h, hX⟩
      · rcases then_inv hn h with h | ⟨h, hk⟩
        · exact .inl h
        · exact .inr ⟨h, .inl ⟨hk, hi⟩⟩
      · rcases then_inv hn h with h | ⟨h, hk⟩
        · exact absurd rfl h.2
        · exact .inr ⟨h, .inr ⟨hk, hX⟩⟩
    unfold numberR at key
    unfold RuleE
    rcases st (fun s hs => by cases hs; exact fixed_none hxi) key with ⟨h, hi⟩ | ⟨h1, key⟩
    · have h := hne h
      unfold fixedR at h
      split at h
      · rename_i k1; rw [if_pos k1]; cases h; rfl
      rename_i k1; rw [if_neg k1]
      split at h
      · rename_i k2; rw [if_pos k2]; exact num_there h
      rename_i k2; rw [if_neg k2]
      split at h
      · rename_i k3; rw [if_pos k3]; exact num_there h
      rename_i k3; rw [if_neg k3]
      split at h
      · rename_i k4; rw [if_pos k4]; exact num_there h
      · cases h; exact absurd rfl hi
    obtain ⟨n1, n2, n3, n4⟩ := fixed_no hxi (hne h1)
    clear h1
    rw [if_neg n1, if_neg n2, if_neg n3, if_neg n4]
    rcases st (fun s hs => moved_none hK hok hxi hc hs) key with ⟨h, hi⟩ | ⟨h1, key⟩
    · unfold movedR at h
      split at h
      · rename_i k; rw [if_pos k]; exact Ec.withN hok hxi (by omega) (wrap_rg _) h
      rename_i k; rw [if_neg k]
      split at h
      · rename_i k; rw [if_pos k]; exact Ec.withN hok hxi (by omega) (wrap_rg _) h
      rename_i k; rw [if_neg k]
      split at h
      · rename_i k; rw [if_pos k]; exact Ec.withN hok hxi (by omega) (by unfold i64; omega) h
      rename_i k; rw [if_neg k]
      split at h
      · rename_i k; rw [if_pos k]
        obtain ⟨q, hk'⟩ := Option.isSome_iff_exists.1 k.2
        have hk2 := (powW_some hk').1
        exact Ec.withN hok hxi (by omega) (by rw [hk']; unfold i64; simp; omega) h
      rename_i k; rw [if_neg k]
      split at h
      · rename_i k; rw [if_pos k]; exact Ec.withN hok hxi (by omega) (wrap_rg _) h
      rename_i k; rw [if_neg k]
      split at h
      · rename_i k; rw [if_pos k]; exact Ec.withN hok hxi (by omega) i0 h
      · cases h; exact absurd rfl hi
    obtain ⟨m1, m2, m3, m4, m5, m6⟩ := moved_no hok hxi hc h1
    clear h1
    rw [if_neg m1, if_neg m2, if_neg m3, if_neg m4, if_neg m5, if_neg m6]
    rcases st (fun s hs => truth_none hK hok hc hs) key with ⟨h, hi⟩ | ⟨h1, key⟩
    · unfold truthR at h
      split at h
      · cases h; exact absurd rfl hi
      rename_i kb
      have kb : booI M x = true := by simpa using kb
      split at h
      · rename_i k; rw [if_pos ⟨kb, k⟩]; cases h; rfl
      rename_i k; rw [if_neg fun q => k q.2]
      split at h
      · rename_i k; rw [if_pos ⟨kb, k⟩]; exact num_there (hne h)
      rename_i k; rw [if_neg fun q => k q.2]
      split at h
      · rename_i k; rw [if_pos ⟨kb, k⟩]
        cases hq : withN (binF f) M 16 x 0 with
        | none => rw [hq] at h; cases h
        | some q =>
          rw [hq] at h
          simp only [Option.bind_some] at h
          obtain ⟨g1, g2⟩ := withN_ok hK hok hxi (by omega) i0 hq
          obtain ⟨g3, _⟩ := g1.val g2
          have hci : i64 (doW 10 c 1) := do_i64 hc (by unfold i64; omega)
          have k2 := (withN_ok hK g1.ok g3 (by omega) hci h).1.pre
          have e := pre_eq k2 g1.pre
          obtain ⟨q1, q2⟩ := q
          simp only at e g3 h
          subst e
          exact ⟨q1, Ec.withN hok hxi (by omega) i0 hq, Ec.withN hok g3 (by omega) hci h⟩
      rename_i k; rw [if_neg fun q => k q.2]
      split at h
      · rename_i y d hta
        split at h
        · rename_i k
          obtain ⟨k1, rfl, k3⟩ := k
          cases h
          have e : eqT M x = some i := by unfold eqT; rw [hta]; simp [k3]
          rw [if_pos ⟨kb, k1, by rw [e]; rfl⟩]
          exact e
        · cases h; exact absurd rfl hi
      · cases h; exact absurd rfl hi
    obtain ⟨t1, t2, t3, t4⟩ := truth_no hok hxi hc h1
    clear h1
    rw [if_neg t1, if_neg t2, if_neg t3, if_neg t4]
    rcases st (fun s hs => group_none hK hok ho hc hs) key with ⟨h, hi⟩ | ⟨h1, key⟩
    · unfold groupR at h
      split at h
      · rename_i y d hta
        split at h
        · rename_i hg
          rw [if_pos ⟨hg, by rw [hta]; rfl⟩]
          obtain ⟨t1, t2, t3, t4⟩ := tailI_ok (S := []) (C := []) hok hta
          exact ⟨y, d, hta, Ec.withN hok t1 ho (do_i64 t3 hc) h⟩
        · cases h; exact absurd rfl hi
      · cases h; exact absurd rfl hi
    rw [if_neg (group_no hok ho hc h1)]
    clear h1
    rcases key with ⟨h, hi⟩ | ⟨h, hw⟩
    · unfold equalR at h
      split at h
      · cases h; exact absurd rfl hi
      rename_i k16
      have k16 : op = 16 := by simpa using k16
      rw [if_pos k16]
      unfold EqR
      cases h2 : tailI M x 1 with
      | some p =>
        obtain ⟨y, d⟩ := p
        rw [h2] at h
        exact Ec.withN hok (tailI_ok (S := []) (C := []) hok h2).1 (by omega) (wrap_rg _) h
      | none =>
        rw [h2] at h
        simp only at h ⊢
        cases h3 : tailI M x 10 with
        | some p =>
          obtain ⟨y, d⟩ := p
          rw [h3] at h
          obtain ⟨t1, t2, t3, t4⟩ := tailI_ok (S := []) (C := []) hok h3
          exact Ec.withN hok t1 (by omega) (do_i64 hc t3) h
        | none =>
          rw [h3] at h
          simp only at h ⊢
          cases h4 : ofI M x 10 with
          | some p =>
            obtain ⟨y, w⟩ := p
            rw [h4] at h
            simp only at h ⊢
            split at h
            · rename_i k; rw [if_pos k]; exact ⟨f, h⟩
            · cases h; exact absurd rfl hi
          | none =>
            rw [h4] at h
            simp only at h ⊢
            cases h5 : ofI M x 2 with
            | some p =>
              obtain ⟨y, w⟩ := p
              rw [h5] at h
              simp only at h ⊢
              split at h
              · rename_i k; rw [if_pos k]; exact ⟨f, h⟩
              · cases h; exact absurd rfl hi
            | none => rw [h5] at h; cases h; exact absurd rfl hi
    · split
      · rename_i k16
        subst k16
        exact equal_no hok hc h hw
      · exact hw
end Go.Proofs.YtpdeoalocejodaaGreatDoor
/- Terms made plain: numbers put to a plain term, in any grouping. -/
namespace Go.Proofs.YtpdeoalocejodaaGreatDoor
open Go Go.Am
set_option maxRecDepth 100000
set_option maxHeartbeats 1000000
-- parities
theorem par_int (v : BitVec 64) : v.toInt % 2 = ((v.toNat % 2 : Nat) : Int) := by
  have h := v.isLt
  rw [BitVec.toInt_eq_toNat_cond]
  split <;> omega
theorem par_bv (a : Int) : (((bv a).toNat % 2 : Nat) : Int) = a % 2 := by
  rw [BitVec.toNat_ofInt]
  have e : (((2 : Nat) ^ 64 : Nat) : Int) = 18446744073709551616 := rfl
  simp only [e]
  omega
theorem par_and (a b : Int) : doW 8 a b % 2 = if a % 2 = 1 ∧ b % 2 = 1 then 1 else 0 := by
  have ha := par_bv a
  have hb := par_bv b
  rw [do8, par_int, BitVec.toNat_and]
  generalize (bv a).toNat = x at *
  generalize (bv b).toNat = y at *
  have e : (x &&& y) % 2 = (x % 2) &&& (y % 2) := Nat.and_mod_two_pow (n := 1) (a := x) (b := y)
  have e1 : x % 2 = 0 ∨ x % 2 = 1 := by omega
  have e2 : y % 2 = 0 ∨ y % 2 = 1 := by omega
  rw [e]
  rcases e1 with e1 | e1 <;> rcases e2 with e2 | e2 <;> rw [e1, e2] <;> simp <;> omega
theorem par_xor (a b : Int) : doW 10 a b % 2 = (a + b) % 2 := by
  have ha := par_bv a
  have hb := par_bv b
  rw [do10, par_int, BitVec.toNat_xor]
  generalize (bv a).toNat = x at *
  generalize (bv b).toNat = y at *
  have e : (x ^^^ y) % 2 = (x % 2) ^^^ (y % 2) := Nat.xor_mod_two_pow (n := 1) (a := x) (b := y)
  have e1 : x % 2 = 0 ∨ x % 2 = 1 := by omega
  have e2 : y % 2 = 0 ∨ y % 2 = 1 := by omega
  rw [e]
  rcases e1 with e1 | e1 <;> rcases e2 with e2 | e2 <;> rw [e1, e2] <;> simp <;> omega
inductive Pl (M : List Nd) : Int → Prop
  | leaf {x : Int} : inG M x → (nd M x).kind ≠ 3 → (nd M x).kind ≠ 4 → Pl M x
  | cell {x : Int} : inG M x → (nd M x).kind = 3 → Pl M (nd M x).y → Pl M x
  | bin {x : Int} : inG M x → (nd M x).kind = 4 → Pl M (nd M x).x → Pl M (nd M x).y → Bn M (nd M x).op (nd M x).x (nd M x).y x → Pl M x
section
variable {M : List Nd}
theorem Pl.inn {x : Int} (h : Pl M x) : inG M x := by cases h <;> assumption
theorem Pl.num {x c : Int} (h : numI M x = some c) : Pl M x := by
  unfold numI at h
  split at h
  · rename_i h1
    exact .leaf h1.1 (by omega) (by omega)
  · cases h
theorem ofI_get {x op u v : Int} (h : ofI M x op = some (u, v)) : inG M x ∧ (nd M x).kind = 4 ∧ (nd M x).op = op ∧ (nd M x).x = u ∧ (nd M x).y = v := by
  unfold ofI at h
  split at h
  · rename_i h1; cases h; exact ⟨h1.1, h1.2.1, h1.2.2, rfl, rfl⟩
  · cases h
theorem op_in (hok : okN M) {x : Int} (hx : inG M x) (hk : (nd M x).kind = 4) : 1 ≤ (nd M x).op ∧ (nd M x).op ≤ 16 := by
  have hm := nd_may hok hx
  simp [Nd.may, hk] at hm
  omega
theorem Pl.of {x op u v : Int} (hp : Pl M x) (h : ofI M x op = some (u, v)) : Pl M u ∧ Pl M v ∧ Bn M op u v x := by
  obtain ⟨h1, h2, rfl, rfl, rfl⟩ := ofI_get h
  cases hp with
  | leaf _ _ h => exact absurd h2 h
  | cell _ h _ => omega
  | bin _ _ a b c => exact ⟨a, b, c⟩
theorem tail_get {x op y d : Int} (h : tailI M x op = some (y, d)) : ∃ z, ofI M x op = some (y, z) ∧ numI M z = some d := by
  unfold tailI at h
  cases ho : ofI M x op with
  | none => rw [ho] at h; cases h
  | some p =>
    obtain ⟨u, v⟩ := p
    rw [ho] at h
    cases hn : numI M v with
    | none => simp [hn] at h
    | some c =>
      simp only [Option.bind_some, hn, Option.map_some, Option.some.injEq, Prod.mk.injEq] at h
      obtain ⟨rfl, rfl⟩ := h
      exact ⟨v, rfl, hn⟩
theorem Pl.tail {x op y d : Int} (hp : Pl M x) (h : tailI M x op = some (y, d)) : Pl M y ∧ Ec M op y d x := by
  obtain ⟨z, h1, h2⟩ := tail_get h
  obtain ⟨a, b, c⟩ := hp.of h1
  exact ⟨a, z, h2, c⟩
theorem Pl.up {L : List Nd} (hok : okN L) {x : Int} (h : Pl L x) (hM : L <+: M) : Pl M x := by
  induction h with
  | leaf h1 h2 h3 => obtain ⟨g1, g2⟩ := nd_ext hM h1; exact .leaf g1 (by rw [g2]; exact h2) (by rw [g2]; exact h3)
  | cell h1 h2 h3 ih => obtain ⟨g1, g2⟩ := nd_ext hM h1; exact .cell g1 (by rw [g2]; exact h2) (by rw [g2]; exact ih)
  | @bin x h1 h2 h3 h4 h5 ih1 ih2 =>
    obtain ⟨g1, g2⟩ := nd_ext hM h1
    exact .bin g1 (by rw [g2]; exact h2) (by rw [g2]; exact ih1) (by rw [g2]; exact ih2) (by rw [g2]; exact h5.up hok h3.inn h4.inn (op_in hok h1 h2) hM)
theorem Nat'.of4 {op x y i : Int} (h : Nat' M op x y i) : ofI M i op = some (x, y) := by
  unfold ofI
  rw [h.2, if_pos ⟨h.1, rfl, rfl⟩]
theorem Nat'.tail {op x w c i : Int} (h : Nat' M op x w i) (hw : numI M w = some c) : tailI M i op = some (x, c) := by
  unfold tailI
  rw [h.of4]
  simp [hw]
theorem Nat'.num {op x y i : Int} (h : Nat' M op x y i) : numI M i = none := by
  unfold numI
  rw [h.2, if_neg]
  rintro ⟨_, h⟩
  simp at h
theorem Nat'.boo {op x y i : Int} (h : Nat' M op x y i) : booI M i = decide (op = 14 ∨ op = 15 ∨ op = 16) := by
  unfold booI
  rw [h.2]
  simp [h.1]
theorem Ec.inG {op x c i : Int} (hok : okN M) (hx : Go.Proofs.YtpdeoalocejodaaGreatDoor.inG M x) (ho : 1 ≤ op ∧ op ≤ 16) (h : Ec M op x c i) : Go.Proofs.YtpdeoalocejodaaGreatDoor.inG M i ∧ i64 c := by
  obtain ⟨z, hz, f, hf⟩ := h
  obtain ⟨h1, h2⟩ := keep_nil f _ _ _ _ _ hok hx (num_nd hok hz).1 ho hf
  exact ⟨(h1.val h2).1, (numI_ok (S := []) (C := []) hok hz).2⟩
def zeroW (op : Int) : Option Int := if op = 3 ∨ op = 8 then some 0 else if op = 9 then some (-1) else none
theorem do_zero {op c d : Int} (h : zeroW op = some c) : doW op c d = c ∧ doW op d c = c := by
  unfold zeroW at h
  split at h
  · rename_i h1
    cases h
    have e := do_fixed0 (op := op) (a := d) (by omega)
    have hs : swapsW op = true := by rcases h1 with rfl | rfl <;> decide
    exact ⟨by rw [do_swap hs, e], e⟩
  · split at h
    · rename_i h1
      cases h
      subst h1
      exact ⟨by rw [do_swap (by decide), do_or_m1], do_or_m1 _⟩
    · cases h
def GrpE (M : List Nd) (op x c i : Int) : Prop :=
  if keepsW op = some c then i = x
  else if zeroW op = some c then numI M i = some c
  else if op = 8 ∧ booI M x = true then (if c % 2 = 1 then i = x else numI M i = some 0)
  else if op = 10 ∧ booI M x = true ∧ c % 2 = 1 then ∃ n, Ec M 16 x 0 n ∧ Ec M 10 n (doW 10 c 1) i
  else match tailI M x op with
    | some (y, d) => Ec M op y (doW op d c) i
    | none => ∃ w, numI M w = some c ∧ Nat' M op x w i
theorem grp_ops {op : Int} (hg : groupsW op = true) : op = 1 ∨ op = 3 ∨ op = 8 ∨ op = 9 ∨ op = 10 := by simpa [groupsW] using hg
theorem ec_grp (hok : okN M) {op x c i : Int} (hg : groupsW op = true) (hx : numI M x = none) (hxi : inG M x) (h : Ec M op x c i) : GrpE M op x c i := by
  have ho := grp_ops hg
  have hr := ec_rule hok hx hxi (by omega) h
  unfold RuleE at hr
  unfold GrpE
  split
  · rename_i k; rw [if_pos k] at hr; exact hr
  rename_i k1
  rw [if_neg k1] at hr
  split
  · rename_i k
    unfold zeroW at k
    split at k
    · cases k; rw [if_pos (by omega)] at hr; exact hr
    · split at k
      · cases k; rw [if_neg (by omega), if_pos (by omega)] at hr; exact hr
      · cases k
  rename_i k2
  have k3 : ¬ ((op = 3 ∨ op = 8 ∨ op = 15) ∧ c = 0) := by
    rintro ⟨a, rfl⟩
    apply k2
    unfold zeroW
    rw [if_pos (by omega)]
  have k4 : ¬ (op = 9 ∧ c = -1) := by
    rintro ⟨rfl, rfl⟩; exact k2 (by decide)
  rw [if_neg k3, if_neg k4, if_neg (by omega), if_neg (by omega), if_neg (by omega), if_neg (by omega), if_neg (by omega), if_neg (by omega), if_neg (by omega)] at hr
  split
  · rename_i k
    obtain ⟨rfl, kb⟩ := k
    split
    · rename_i k5; rw [if_pos ⟨kb, .inl ⟨rfl, k5⟩⟩] at hr; exact hr
    · rename_i k5; rw [if_neg (by omega), if_pos ⟨kb, .inl rfl⟩] at hr; exact hr
  rename_i k5
  rw [if_neg (by rintro ⟨a, b⟩; exact k5 ⟨by omega, a⟩), if_neg (by rintro ⟨a, b⟩; exact k5 ⟨by omega, a⟩)] at hr
  split
  · rename_i k6; rw [if_pos ⟨k6.2.1, k6.1, k6.2.2⟩] at hr; exact hr
  rename_i k6
  rw [if_neg (by rintro ⟨a, b, c⟩; exact k6 ⟨b, a, c⟩), if_neg (by omega)] at hr
  cases ht : tailI M x op with
  | some p =>
    obtain ⟨y, d⟩ := p
    rw [ht, if_pos ⟨hg, rfl⟩] at hr
    obtain ⟨y', d', e, hr⟩ := hr
    cases e
    exact hr
  | none =>
    rw [ht, if_neg (by rintro ⟨_, a⟩; cases a), if_neg (by omega)] at hr
    exact hr
theorem keepE (hok : okN M) (h1 : One M) {op x c i : Int} (ho : 1 ≤ op ∧ op ≤ 16) (hxi : inG M x) (hk : keepsW op = some c) (h : Ec M op x c i) : i = x := by
  cases hx : numI M x with
  | some a =>
    have := h.const hx
    rw [do_keeps (numI_ok (S := []) (C := []) hok hx).2 hk] at this
    exact num_uniq hok h1 this hx
  | none =>
    have hr := ec_rule hok hx hxi ho h
    unfold RuleE at hr
    rw [if_pos hk] at hr
    exact hr
theorem zeroE (hok : okN M) {op x c i : Int} (hg : groupsW op = true) (hxi : inG M x) (hz : zeroW op = some c) (h : Ec M op x c i) : numI M i = some c := by
  cases hx : numI M x with
  | some a => rw [h.const hx, (do_zero hz).2]
  | none =>
    have hr := ec_grp hok hg hx hxi h
    unfold GrpE at hr
    have : ¬ keepsW op = some c := by
      intro hk
      have ho := grp_ops hg
      rcases ho with rfl | rfl | rfl | rfl | rfl <;> simp [keepsW, zeroW] at hk hz <;> omega
    rw [if_neg this, if_pos hz] at hr
    exact hr
theorem andBoo (hok : okN M) {x c i : Int} (hx : numI M x = none) (hb : booI M x = true) (h : Ec M 8 x c i) : if c % 2 = 1 then i = x else numI M i = some 0 := by
  have hr := ec_grp hok (by decide) hx (booI_in hb) h
  unfold GrpE at hr
  split at hr
  · rename_i k
    have : c = -1 := by simp [keepsW] at k; omega
    subst this
    exact hr
  · split at hr
    · rename_i k
      have : c = 0 := by simp [zeroW] at k; omega
      subst this
      exact hr
    · rw [if_pos ⟨rfl, hb⟩] at hr
      exact hr
theorem xorBoo (hok : okN M) {x c i : Int} (hx : numI M x = none) (hb : booI M x = true) (h : Ec M 10 x c i) : if c = 0 then i = x else if c % 2 = 1 then ∃ n, Ec M 16 x 0 n ∧ Ec M 10 n (doW 10 c 1) i else ∃ w, numI M w = some c ∧ Nat' M 10 x w i := by
  have hr := ec_grp hok (by decide) hx (booI_in hb) h
  unfold GrpE at hr
  split at hr
  · rename_i k
    have : c = 0 := by simp [keepsW] at k; omega
    rw [if_pos this]; exact hr
  · rename_i k
    have : ¬ c = 0 := by rintro rfl; exact k (by decide)
    rw [if_neg this]
    rw [if_neg (by simp [zeroW]), if_neg (by rintro ⟨a, _⟩; exact absurd a (by decide))] at hr
    split
    · rename_i k5; rw [if_pos ⟨rfl, hb, k5⟩] at hr; exact hr
    · rename_i k5
      rw [if_neg fun q => k5 q.2.2, tail_of (boo_of hb hx (by decide))] at hr
      exact hr
theorem notBoo (hok : okN M) (h1 : One M) {b n : Int} (hx : numI M b = none) (hb : booI M b = true) (hp : Pl M b) (h : Ec M 16 b 0 n) : numI M n = none ∧ booI M n = true ∧ ∀ m, Ec M 16 n 0 m → m = b := by
  have hr := ec_rule hok hx (booI_in hb) (by decide) h
  have key : eqT M b = some n ∨ ∃ w, numI M w = some 0 ∧ Nat' M 16 b w n := by
    unfold RuleE at hr
    simp only [keepsW, groupsW] at hr
    simp (config := { decide := true }) only [hb, if_true, if_false, true_and, false_and, and_false] at hr
    split at hr
    · exact .inl hr
    · unfold EqR at hr
      rw [tail_of (boo_of hb hx (by decide)), tail_of (boo_of hb hx (by decide)), boo_of hb hx (by decide), boo_of hb hx (by decide)] at hr
      exact .inr hr
  rcases key with hk | ⟨w, hw, hn⟩
  · unfold eqT at hk
    cases ht : tailI M b 16 with
    | none => rw [ht] at hk; cases hk
    | some p =>
      obtain ⟨y, d⟩ := p
      rw [ht] at hk
      simp only at hk
      split at hk
      · rename_i k
        obtain ⟨rfl, kb⟩ := k
        cases hk
        have hE := (hp.tail ht).2
        refine ⟨?_, kb, fun m hm => hm.fn hok h1 hE⟩
        cases hn : numI M n with
        | none => rfl
        | some v => have := hE.const hn; rw [hx] at this; cases this
      · cases hk
  · refine ⟨hn.num, by rw [hn.boo]; decide, fun m hm => ?_⟩
    have hbn : booI M n = true := by rw [hn.boo]; decide
    have hr := ec_rule hok hn.num hn.1 (by decide) hm
    have he : eqT M n = some b := by unfold eqT; rw [hn.tail hw]; simp [hb]
    unfold RuleE at hr
    simp only [keepsW, groupsW, he] at hr
    simp (config := { decide := true }) only [hbn, if_true, if_false, and_true, false_and, and_false, Option.isSome_some, Option.some.injEq] at hr
    exact hr.symm
end
end Go.Proofs.YtpdeoalocejodaaGreatDoor
/- Terms made plain: what is the same, in a graph that has it all. -/
namespace Go.Proofs.YtpdeoalocejodaaGreatDoor
open Go Go.Am
set_option maxRecDepth 100000
set_option maxHeartbeats 1000000
section
variable {M : List Nd}
theorem grp_ho {op : Int} (hg : groupsW op = true) : 1 ≤ op ∧ op ≤ 16 := by have := grp_ops hg; omega
theorem grp_swap {op : Int} (hg : groupsW op = true) : swapsW op = true := by rcases grp_ops hg with rfl | rfl | rfl | rfl | rfl <;> decide
theorem absorb (hok : okN M) (h1 : One M) {op : Int} (hg : groupsW op = true) : ∀ (n : Nat) (a c d i j : Int), a.toNat < n → inG M a → Ec M op a c i → Ec M op i d j → zeroW op = some (doW op c d) → numI M j = some (doW op c d)
  | 0, _, _, _, _, _, h, _, _, _, _ => absurd h (Nat.not_lt_zero _)
  | n + 1, a, c, d, i, j, hn, ha, hi, hj, hz => by
    have ho := grp_ho hg
    have hs := grp_swap hg
    obtain ⟨hii, hc⟩ := hi.inG hok ha ho
    obtain ⟨hji, hd⟩ := hj.inG hok hii ho
    cases hna : numI M a with
    | some e =>
      have e1 := hi.const hna
      rw [hj.const e1, do_group hg, (do_zero hz).2]
    | none =>
      have hr := ec_grp hok hg hna ha hi
      by_cases kd : keepsW op = some d
      · have e1 := keepE hok h1 ho hii kd hj
        rw [do_keeps hc kd] at hz ⊢
        rw [e1]
        exact zeroE hok hg ha hz hi
      by_cases zd : zeroW op = some d
      · have e1 := zeroE hok hg hii zd hj
        rw [e1, (do_zero zd).2]
      unfold GrpE at hr
      split at hr
      · rename_i k
        subst hr
        have e : doW op c d = d := by rw [do_swap hs, do_keeps hd k]
        rw [e] at hz
        exact absurd hz zd
      split at hr
      · rename_i k2 k
        rw [hj.const hr]
      split at hr
      · rename_i k
        obtain ⟨rfl, kb⟩ := k
        have h0 : doW 8 c d = 0 := by simpa [zeroW] using hz.symm
        have hp := par_and c d
        rw [h0] at hp ⊢
        split at hr
        · rename_i k5
          subst hr
          have := andBoo hok hna kb hj
          rw [if_neg (by intro q; rw [if_pos ⟨k5, q⟩] at hp; omega)] at this
          exact this
        · rw [hj.const hr, (do_zero (op := 8) (c := 0) (by decide)).1]
      rename_i k8
      split at hr
      · rename_i k
        rw [k.1] at hz
        exact absurd hz (by simp [zeroW])
      cases ht : tailI M a op with
      | some p =>
        obtain ⟨y, e⟩ := p
        rw [ht] at hr
        simp only at hr
        obtain ⟨t1, t2, t3, _⟩ := tailI_ok (S := []) (C := []) hok ht
        have e2 : doW op (doW op e c) d = doW op c d := by rw [do_group hg, (do_zero hz).2]
        have hlt : y.toNat < n := by have := t1.1; have := ha.1; omega
        have := absorb hok h1 hg n y (doW op e c) d i j hlt t1 hr hj (by rw [e2]; exact hz)
        rw [e2] at this
        exact this
      | none =>
        rw [ht] at hr
        simp only at hr
        obtain ⟨w, hw, hN⟩ := hr
        have hr2 := ec_grp hok hg hN.num hii hj
        unfold GrpE at hr2
        have hbi : booI M i = false := by rw [hN.boo]; have := grp_ops hg; simp; omega
        rw [if_neg kd, if_neg zd, if_neg (by rw [hbi]; rintro ⟨_, q⟩; cases q), if_neg (by rw [hbi]; rintro ⟨_, q, _⟩; cases q), hN.tail hw] at hr2
        exact zeroE hok hg ha hz hr2
theorem grouped (hok : okN M) (h1 : One M) {op : Int} (hg : groupsW op = true) : ∀ (n : Nat) (a c d i j k : Int), a.toNat < n → Pl M a → Ec M op a c i → Ec M op i d j → Ec M op a (doW op c d) k → j = k
  | 0, _, _, _, _, _, _, h, _, _, _, _ => absurd h (Nat.not_lt_zero _)
  | n + 1, a, c, d, i, j, k, hn, hp, hi, hj, hk => by
    have ho := grp_ho hg
    have hs := grp_swap hg
    have ha := hp.inn
    obtain ⟨hii, hc⟩ := hi.inG hok ha ho
    obtain ⟨hji, hd⟩ := hj.inG hok hii ho
    cases hna : numI M a with
    | some e =>
      have e1 := hi.const hna
      have e2 := hj.const e1
      have e3 := hk.const hna
      rw [do_group hg] at e2
      exact num_uniq hok h1 e2 e3
    | none =>
      have hr := ec_grp hok hg hna ha hi
      by_cases kd : keepsW op = some d
      · have e1 := keepE hok h1 ho hii kd hj
        rw [do_keeps hc kd] at hk
        rw [e1]
        exact hi.fn hok h1 hk
      by_cases zd : zeroW op = some d
      · have e1 := zeroE hok hg hii zd hj
        rw [(do_zero zd).2] at hk
        exact num_uniq hok h1 e1 (zeroE hok hg ha zd hk)
      unfold GrpE at hr
      split at hr
      · rename_i q
        subst hr
        have e : doW op c d = d := by rw [do_swap hs, do_keeps hd q]
        rw [e] at hk
        exact hj.fn hok h1 hk
      rename_i kc
      split at hr
      · rename_i q
        rw [(do_zero q).1] at hk
        have e1 := hj.const hr
        rw [(do_zero q).1] at e1
        exact num_uniq hok h1 e1 (zeroE hok hg ha q hk)
      rename_i zc
      split at hr
      · rename_i q
        obtain ⟨rfl, kb⟩ := q
        have hpar := par_and c d
        have e3 := andBoo hok hna kb hk
        split at hr
        · rename_i k5
          subst hr
          have e1 := andBoo hok hna kb hj
          by_cases k6 : d % 2 = 1
          · rw [if_pos ⟨k5, k6⟩] at hpar
            rw [if_pos hpar] at e3
            rw [if_pos k6] at e1
            rw [e1, e3]
          · rw [if_neg fun q => k6 q.2] at hpar
            rw [if_neg (by omega)] at e3
            rw [if_neg k6] at e1
            exact num_uniq hok h1 e1 e3
        · rename_i k5
          rw [if_neg fun q => k5 q.1] at hpar
          rw [if_neg (by omega)] at e3
          have e1 := hj.const hr
          rw [(do_zero (op := 8) (c := 0) (by decide)).1] at e1
          exact num_uniq hok h1 e1 e3
      rename_i k8
      by_cases kx : op = 10 ∧ booI M a = true
      · obtain ⟨rfl, kb⟩ := kx
        have c0 : ¬ c = 0 := by rintro rfl; exact kc (by decide)
        have d0 : ¬ d = 0 := by rintro rfl; exact kd (by decide)
        have hpar := par_xor c d
        have hp1 := par_xor c 1
        have hpd := par_xor (doW 10 c 1) d
        have i1 : i64 1 := by unfold i64; omega
        have hc1 : i64 (doW 10 c 1) := do_i64 hc i1
        have x11 : ∀ x, i64 x → doW 10 (doW 10 x 1) 1 = x := fun x hx => by
          rw [do_group (by decide), show doW 10 1 1 = 0 by decide]
          exact do_keeps hx (by decide)
        have xc : ∀ x y, doW 10 x y = doW 10 y x := fun x y => do_swap (by decide)
        have xa : ∀ x y z, doW 10 (doW 10 x y) z = doW 10 x (doW 10 y z) := fun x y z => do_group (by decide)
        have hk3 := xorBoo hok hna kb hk
        have hcd : i64 (doW 10 c d) := do_i64 hc hd
        split at hr
        · rename_i q
          have c1 := q.2.2
          obtain ⟨m, hm, hmi⟩ := hr
          obtain ⟨nm, bm, nn⟩ := notBoo hok h1 hna kb hp hm
          have hri := xorBoo hok nm bm hmi
          -- what becomes of j
          have hjm : Ec M 10 m (doW 10 (doW 10 c 1) d) j := by
            split at hri
            · rename_i z
              subst hri
              rw [z, xc 0 d, do_keeps hd (by decide)]
              exact hj
            · split at hri
              · rename_i z; omega
              · obtain ⟨w, hw, hN⟩ := hri
                have hr2 := ec_grp hok (by decide) hN.num hii hj
                unfold GrpE at hr2
                have hbi : booI M i = false := by rw [hN.boo]; decide
                rw [if_neg kd, if_neg zd, if_neg (by rintro ⟨q, _⟩; exact absurd q (by decide)), if_neg (by rw [hbi]; rintro ⟨_, q, _⟩; cases q), hN.tail hw] at hr2
                exact hr2
          have e0 : doW 10 (doW 10 (doW 10 c 1) d) 1 = doW 10 c d := by rw [xc c 1, xa 1 c d, xc 1 (doW 10 c d), x11 _ hcd]
          have hrj := xorBoo hok nm bm hjm
          by_cases kd2 : d % 2 = 1
          · have o1 : doW 10 (doW 10 c 1) d % 2 = 1 := by omega
            rw [if_neg (by omega), if_pos o1] at hrj
            obtain ⟨m2, hm2, hmj⟩ := hrj
            rw [nn m2 hm2, e0] at hmj
            exact hmj.fn hok h1 hk
          · rw [if_neg (by intro z; rw [z] at hpar; omega), if_pos (by omega)] at hk3
            obtain ⟨m3, hm3, hmk⟩ := hk3
            rw [hm3.fn hok h1 hm] at hmk
            have e1 : doW 10 (doW 10 c d) 1 = doW 10 (doW 10 c 1) d := by rw [xa, xa, xc d 1]
            rw [e1] at hmk
            exact hjm.fn hok h1 hmk
        · rename_i q
          rw [tail_of (boo_of kb hna (by decide))] at hr
          obtain ⟨w, hw, hN⟩ := hr
          have hr2 := ec_grp hok (by decide) hN.num hii hj
          unfold GrpE at hr2
          have hbi : booI M i = false := by rw [hN.boo]; decide
          rw [if_neg kd, if_neg zd, if_neg (by rintro ⟨q, _⟩; exact absurd q (by decide)), if_neg (by rw [hbi]; rintro ⟨_, q, _⟩; cases q), hN.tail hw] at hr2
          exact hr2.fn hok h1 hk
      rw [if_neg fun q => kx ⟨q.1, q.2.1⟩] at hr
      cases ht : tailI M a op with
      | some p =>
        obtain ⟨y, e⟩ := p
        rw [ht] at hr
        simp only at hr
        obtain ⟨t1, t2, t3, _⟩ := tailI_ok (S := []) (C := []) hok ht
        obtain ⟨hpy, hE⟩ := hp.tail ht
        have hlt : y.toNat < n := by have := t1.1; have := ha.1; omega
        have hr3 := ec_grp hok hg hna ha hk
        unfold GrpE at hr3
        split at hr3
        · rename_i q
          subst hr3
          refine grouped hok h1 hg n y (doW op e c) d i j k hlt hpy hr hj ?_
          rw [do_group hg, do_keeps t3 q]
          exact hE
        split at hr3
        · rename_i q
          have e1 := absorb hok h1 hg (a.toNat + 1) a c d i j (by omega) ha hi hj q
          exact num_uniq hok h1 e1 hr3
        rw [if_neg fun q => kx ⟨q.1, q.2.1⟩, ht] at hr3
        simp only at hr3
        refine grouped hok h1 hg n y (doW op e c) d i j k hlt hpy hr hj ?_
        rw [do_group hg]
        exact hr3
      | none =>
        rw [ht] at hr
        simp only at hr
        obtain ⟨w, hw, hN⟩ := hr
        have hr2 := ec_grp hok hg hN.num hii hj
        unfold GrpE at hr2
        have hbi : booI M i = false := by rw [hN.boo]; have := grp_ops hg; simp; omega
        rw [if_neg kd, if_neg zd, if_neg (by rw [hbi]; rintro ⟨_, q⟩; cases q), if_neg (by rw [hbi]; rintro ⟨_, q, _⟩; cases q), hN.tail hw] at hr2
        exact hr2.fn hok h1 hk
end
end Go.Proofs.YtpdeoalocejodaaGreatDoor
/- Terms made plain: what is the same by another operation. -/
namespace Go.Proofs.YtpdeoalocejodaaGreatDoor
open Go Go.Am
set_option maxRecDepth 100000
set_option maxHeartbeats 1000000
section
variable {M : List Nd}
end
end Go.Proofs.YtpdeoalocejodaaGreatDoor
