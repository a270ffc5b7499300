/- Terms made plain keep their values. -/
import Derived.Test.YtpdeoalocejodaaGreatDoorJ5
import Derived.Test.YtpdeoalocejodaaGreatDoorJ3
/- Terms made plain keep their values. -/
namespace Go.Proofs.YtpdeoalocejodaaGreatDoor
open Go Go.Am
set_option maxRecDepth 100000
set_option maxHeartbeats 1000000
variable {S : List Int} {C : List Cl}
theorem Made1.after {L L1 : List Nd} {w : Int} {r : GR} (h : Made1 S C L1 w r) (hp : L <+: L1) : Made1 S C L w r := ⟨hp.trans h.pre, h.ok, h.val⟩
theorem Made1.cast {L : List Nd} {w w' : Int} {r : GR} (h : Made1 S C L w r) (e : w = w') : Made1 S C L w' r := e ▸ h
def KeepB (S : List Int) (C : List Cl) (bin : BinT) : Prop := ∀ L op x y r, okN L → inG L x → inG L y → (1 ≤ op ∧ op ≤ 16) → bin L op x y = some r → Made1 S C L (doW op (val S C L x) (val S C L y)) r ∧ r.1 ≠ -1
theorem withN_ok {bin : BinT} (hb : KeepB S C bin) {L : List Nd} (hok : okN L) {op x n : Int} (hx : inG L x) (ho : 1 ≤ op ∧ op ≤ 16) (hn : i64 n) {r : GR} (h : withN bin L op x n = some r) : Made1 S C L (doW op (val S C L x) n) r ∧ r.1 ≠ -1 := by
  obtain ⟨h1, h2⟩ := num_made (S := S) (C := C) hok hn
  obtain ⟨h3, h4⟩ := h1.val h2
  obtain ⟨g1, g2⟩ := nd_ext h1.pre hx
  obtain ⟨k1, k2⟩ := hb _ _ _ _ _ h1.ok g1 h3 ho h
  rw [h4, val_ext h1.pre hx] at k1
  exact ⟨k1.after h1.pre, k2⟩
theorem thenR_ok {L : List Nd} {w : Int} {r0 : Option GR} {k : List Nd → Option GR} {r : GR} (h0 : ∀ r, r0 = some r → Made1 S C L w r) (hk : ∀ L' r, L <+: L' → okN L' → k L' = some r → Made1 S C L' w r) (h : thenR r0 k = some r) : Made1 S C L w r := by
  unfold thenR at h
  cases hr : r0 with
  | none => rw [hr] at h; cases h
  | some q =>
    rw [hr] at h
    simp only [Option.bind_some] at h
    have hq := h0 q hr
    split at h
    · cases h; exact hq
    · exact (hk _ _ hq.pre hq.ok h).after hq.pre
theorem i64_lit {n : Int} (h : -9223372036854775808 ≤ n ∧ n ≤ 9223372036854775807) : i64 n := h
theorem sameR_ok {L : List Nd} (hok : okN L) {op x : Int} (hx : inG L x) (hv : i64 (val S C L x)) : Made1 S C L (doW op (val S C L x) (val S C L x)) (sameR L op x) := by
  obtain ⟨d1, d2, d3⟩ := do_same (op := op) hv
  unfold sameR
  split
  · rename_i h; exact (num_made hok (i64_lit (by omega))).1.cast (d1 h).symm
  · split
    · rename_i h; exact (num_made hok (i64_lit (by omega))).1.cast (d2 h).symm
    · split
      · rename_i h; exact Made1.here hok hx (d3 h).symm
      · exact Made1.none hok _
theorem fixedR_ok {L : List Nd} (hok : okN L) {op x c : Int} (hx : inG L x) (hv : i64 (val S C L x)) : Made1 S C L (doW op (val S C L x) c) (fixedR L op x c) := by
  unfold fixedR
  split
  · rename_i h; exact Made1.here hok hx (do_keeps hv h).symm
  · split
    · rename_i h; obtain ⟨h, rfl⟩ := h; exact (num_made hok (i64_lit (by omega))).1.cast (do_fixed0 h).symm
    · split
      · rename_i h; obtain ⟨rfl, rfl⟩ := h; exact (num_made hok (i64_lit (by omega))).1.cast (do_or_m1 _).symm
      · split
        · rename_i h; obtain ⟨h, rfl⟩ := h; exact (num_made hok (i64_lit (by omega))).1.cast (do_rem1 h).symm
        · exact Made1.none hok _
theorem movedR_ok {bin : BinT} (hb : KeepB S C bin) {L : List Nd} (hok : okN L) {op x c : Int} (hx : inG L x) (hv : i64 (val S C L x)) (hc : i64 c) {r : GR} (h : movedR bin L op x c = some r) : Made1 S C L (doW op (val S C L x) c) r := by
  unfold movedR at h
  split at h
  · rename_i h1; subst h1; exact (withN_ok hb hok hx (by omega) (wrap_rg _) h).1.cast do_sub.symm
  · split at h
    · rename_i h1; subst h1; exact (withN_ok hb hok hx (by omega) (wrap_rg _) h).1.cast do_shl.symm
    · split at h
      · rename_i h1; exact (withN_ok hb hok hx (by omega) (i64_lit (by omega)) h).1.cast (do_mask h1.1).symm
      · split at h
        · rename_i h1
          obtain ⟨rfl, h2⟩ := h1
          obtain ⟨k, hk⟩ := Option.isSome_iff_exists.1 h2
          have hk2 := (powW_some hk).1
          rw [hk] at h
          exact (withN_ok hb hok hx (by omega) (i64_lit (by simp; omega)) h).1.cast (do_divU hk).symm
        · split at h
          · rename_i h1
            obtain ⟨rfl, h2⟩ := h1
            obtain ⟨k, hk⟩ := Option.isSome_iff_exists.1 h2
            exact (withN_ok hb hok hx (by omega) (wrap_rg _) h).1.cast (do_remU hv hc hk).symm
          · split at h
            · rename_i h1
              obtain ⟨rfl, rfl⟩ := h1
              exact (withN_ok hb hok hx (by omega) (i64_lit (by omega)) h).1.cast (do_ltu1 _ hv).symm
            · cases h; exact Made1.none hok _
theorem truthR_ok {bin : BinT} (hb : KeepB S C bin) {L : List Nd} (hok : okN L) {op x c : Int} (hv : i64 (val S C L x)) (hc : i64 c) {r : GR} (h : truthR bin L op x c = some r) : Made1 S C L (doW op (val S C L x) c) r := by
  unfold truthR at h
  split at h
  · cases h; exact Made1.none hok _
  · rename_i hbo
    obtain ⟨hx, ht⟩ := booI_ok (S := S) (C := C) hok (by simpa using hbo)
    split at h
    · rename_i h1
      cases h
      refine Made1.here hok hx ?_
      rcases h1 with ⟨rfl, h2⟩ | ⟨rfl, rfl⟩
      · rw [two_and ht, if_pos h2]
      · exact (two_eq1 ht).symm
    · rename_i hn
      split at h
      · rename_i h1
        cases h
        refine (num_made hok (i64_lit (by omega))).1.cast ?_
        rcases h1 with rfl | ⟨rfl, h2⟩
        · rw [two_and ht, if_neg fun h => hn (.inl ⟨rfl, h⟩)]
        · exact (two_eqc ht h2 fun h => hn (.inr ⟨rfl, h⟩)).symm
      · rename_i hn2
        split at h
        · rename_i h1
          obtain ⟨rfl, h2⟩ := h1
          cases hr : withN bin L 16 x 0 with
          | none => rw [hr] at h; cases h
          | some q =>
            rw [hr] at h
            simp only [Option.bind_some] at h
            obtain ⟨g1, g2⟩ := withN_ok hb hok hx (by omega) (i64_lit (by omega)) hr
            obtain ⟨g3, g4⟩ := g1.val g2
            obtain ⟨k1, k2⟩ := withN_ok hb g1.ok g3 (by omega) (do_i64 hc (i64_lit (by omega))) h
            rw [g4] at k1
            exact (k1.after g1.pre).cast (two_xor ht).symm
        · cases hta : tailI L x 16 with
          | none => rw [hta] at h; cases h; exact Made1.none hok _
          | some p =>
            obtain ⟨y, d⟩ := p
            rw [hta] at h
            simp only at h
            split at h
            · rename_i h1
              cases h
              obtain ⟨rfl, rfl, hby⟩ := h1
              obtain ⟨t1, t2, t3, t4⟩ := tailI_ok (S := S) (C := C) hok hta
              obtain ⟨_, hty⟩ := booI_ok (S := S) (C := C) hok hby
              have hc0 : c = 0 := Decidable.byContradiction fun h => hn2 (.inr ⟨rfl, h⟩)
              subst hc0
              refine Made1.here hok t1 ?_
              rw [t4, two_eqeq hty]
            · cases h; exact Made1.none hok _
theorem groupR_ok {bin : BinT} (hb : KeepB S C bin) {L : List Nd} (hok : okN L) {op x c : Int} (ho : 1 ≤ op ∧ op ≤ 16) (hc : i64 c) {r : GR} (h : groupR bin L op x c = some r) : Made1 S C L (doW op (val S C L x) c) r := by
  unfold groupR at h
  cases hta : tailI L x op with
  | none => rw [hta] at h; cases h; exact Made1.none hok _
  | some p =>
    obtain ⟨y, d⟩ := p
    rw [hta] at h
    simp only at h
    obtain ⟨t1, t2, t3, t4⟩ := tailI_ok (S := S) (C := C) hok hta
    split at h
    · rename_i hg
      refine (withN_ok hb hok t1 ho (do_i64 t3 hc) h).1.cast ?_
      rw [t4, do_group hg]
    · cases h; exact Made1.none hok _
theorem equalR_ok {bin : BinT} (hb : KeepB S C bin) {L : List Nd} (hok : okN L) (hv : ∀ y, i64 (val S C L y)) {op x c : Int} (hc : i64 c) {r : GR} (h : equalR bin L op x c = some r) : Made1 S C L (doW op (val S C L x) c) r := by
  unfold equalR at h
  split at h
  · cases h; exact Made1.none hok _
  rename_i ho
  have ho : op = 16 := by simpa using ho
  subst ho
  split at h
  · rename_i y d hta
    obtain ⟨t1, t2, t3, t4⟩ := tailI_ok (S := S) (C := C) hok hta
    refine (withN_ok hb hok t1 (by omega) (wrap_rg _) h).1.cast ?_
    rw [t4, do_eq_add (hv _) hc]
  · split at h
    · rename_i y d hta
      obtain ⟨t1, t2, t3, t4⟩ := tailI_ok (S := S) (C := C) hok hta
      refine (withN_ok hb hok t1 (by omega) (do_i64 hc t3) h).1.cast ?_
      rw [t4, do_eq_xor (hv _) hc]
    · split at h
      · rename_i y z hof
        obtain ⟨t1, t2, t3, t4, t5⟩ := ofI_ok (S := S) (C := C) hok hof
        split at h
        · rename_i hc0
          subst hc0
          refine (hb _ _ _ _ _ hok t1 t2 (by omega) h).1.cast ?_
          rw [t5, do_eq_xor0 (hv _) (hv _)]
        · cases h; exact Made1.none hok _
      · split at h
        · rename_i y z hof
          obtain ⟨t1, t2, t3, t4, t5⟩ := ofI_ok (S := S) (C := C) hok hof
          split at h
          · rename_i hc0
            subst hc0
            refine (hb _ _ _ _ _ hok t1 t2 (by omega) h).1.cast ?_
            rw [t5, do_eq_sub (hv _) (hv _)]
          · cases h; exact Made1.none hok _
        · cases h; exact Made1.none hok _
theorem numberR_ok {bin : BinT} (hb : KeepB S C bin) (hi : ∀ L, okN L → ∀ x, i64 (val S C L x)) {L : List Nd} (hok : okN L) {op x c : Int} (ho : 1 ≤ op ∧ op ≤ 16) (hx : inG L x) (hc : i64 c) {r : GR} (h : numberR bin L op x c = some r) : Made1 S C L (doW op (val S C L x) c) r := by
  unfold numberR at h
  refine thenR_ok (fun r hr => ?_) (fun L1 r p1 k1 h => ?_) h
  · cases hr; exact fixedR_ok hok hx (hi _ hok _)
  have e1 := val_ext (S := S) (C := C) p1 hx
  have g1 := (nd_ext p1 hx).1
  rw [← e1]
  refine thenR_ok (fun r hr => ?_) (fun L2 r p2 k2 h => ?_) h
  · exact movedR_ok hb k1 g1 (hi _ k1 _) hc hr
  have e2 := val_ext (S := S) (C := C) p2 g1
  have g2 := (nd_ext p2 g1).1
  rw [← e2]
  refine thenR_ok (fun r hr => ?_) (fun L3 r p3 k3 h => ?_) h
  · exact truthR_ok hb k2 (hi _ k2 _) hc hr
  have e3 := val_ext (S := S) (C := C) p3 g2
  have g3 := (nd_ext p3 g2).1
  rw [← e3]
  refine thenR_ok (fun r hr => ?_) (fun L4 r p4 k4 h => ?_) h
  · exact groupR_ok hb k3 ho hc hr
  have e4 := val_ext (S := S) (C := C) p4 g3
  rw [← e4]
  exact equalR_ok hb k4 (hi _ k4) hc h
theorem ruleR_ok {bin : BinT} (hb : KeepB S C bin) (hi : ∀ L, okN L → ∀ x, i64 (val S C L x)) {L : List Nd} (hok : okN L) {op x y : Int} (ho : 1 ≤ op ∧ op ≤ 16) (hx : inG L x) (hy : inG L y) {r : GR} (h : ruleR bin L op x y (numI L x) (numI L y) = some r) : Made1 S C L (doW op (val S C L x) (val S C L y)) r := by
  unfold ruleR at h
  split at h
  · rename_i e; subst e; cases h; exact sameR_ok hok hx (hi _ hok _)
  · split at h
    · rename_i b hq
      obtain ⟨n1, n2⟩ := numI_ok (S := S) (C := C) hok hq
      rw [n1]
      exact numberR_ok hb hi hok ho hx n2 h
    · split at h
      · rename_i h1
        obtain ⟨hp, rfl⟩ := h1
        obtain ⟨n1, n2⟩ := numI_ok (S := S) (C := C) hok hp
        cases hr : bin L 16 y x with
        | none => rw [hr] at h; cases h
        | some q =>
          rw [hr] at h
          simp only [Option.bind_some] at h
          obtain ⟨g1, g2⟩ := hb _ _ _ _ _ hok hy hx (by omega) hr
          obtain ⟨g3, g4⟩ := g1.val g2
          have gx := (nd_ext g1.pre hx).1
          have k := (hb _ _ _ _ _ g1.ok g3 gx (by omega) h).1
          rw [g4, val_ext g1.pre hx, n1] at k
          rw [n1, do_ltu0 _ (hi _ hok _)]
          exact k.after g1.pre
      · cases h; exact Made1.none hok _
theorem node_may {L : List Nd} {op x y : Int} (ho : 1 ≤ op ∧ op ≤ 16) (hx : inG L x) (hy : inG L y) : Nd.may ⟨4, 0, 0, op, x, y⟩ L.length = true := by
  unfold inG at *
  simp [Nd.may]
  omega
theorem node_made {L : List Nd} (hok : okN L) {op x y : Int} (ho : 1 ≤ op ∧ op ≤ 16) (hx : inG L x) (hy : inG L y) : Made1 S C L (doW op (val S C L x) (val S C L y)) (addN L ⟨4, 0, 0, op, x, y⟩) ∧ (addN L ⟨4, 0, 0, op, x, y⟩).1 ≠ -1 := by
  obtain ⟨h1, h2⟩ := add_ok (node_may ho hx hy)
  have hok2 : okN (addN L ⟨4, 0, 0, op, x, y⟩).2 := okN_addN hok (show i64 0 by unfold i64; omega) (show i64 0 by unfold i64; omega)
  have hp : L <+: (addN L ⟨4, 0, 0, op, x, y⟩).2 := addN_pre _ _
  refine ⟨⟨hp, hok2, fun _ => ⟨h1, ?_⟩⟩, by have := h1.1; omega⟩
  rw [val_eq hok2.wf (fit_ok hok2) h1.1 h1.2, h2]
  simp [stepV, val_ext hp hx, val_ext hp hy]
theorem turnR_ok {bin : BinT} (hb : KeepB S C bin) (hi : ∀ L, okN L → ∀ x, i64 (val S C L x)) {L : List Nd} (hok : okN L) {op x y : Int} (ho : 1 ≤ op ∧ op ≤ 16) (hx : inG L x) (hy : inG L y) {r : GR} (h : turnR bin L op x y (numI L x) (numI L y) = some r) : Made1 S C L (doW op (val S C L x) (val S C L y)) r ∧ r.1 ≠ -1 := by
  unfold turnR thenR at h
  cases hr : ruleR bin L op x y (numI L x) (numI L y) with
  | none => rw [hr] at h; cases h
  | some q =>
    rw [hr] at h
    simp only [Option.bind_some] at h
    have hq := ruleR_ok hb hi hok ho hx hy hr
    split at h
    · rename_i hne; cases h; exact ⟨hq, hne⟩
    · cases h
      have gx := (nd_ext hq.pre hx).1
      have gy := (nd_ext hq.pre hy).1
      obtain ⟨k1, k2⟩ := node_made (S := S) (C := C) hq.ok ho gx gy
      rw [val_ext hq.pre hx, val_ext hq.pre hy] at k1
      exact ⟨k1.after hq.pre, k2⟩
theorem binF_ok (hi : ∀ L, okN L → ∀ x, i64 (val S C L x)) : ∀ f, KeepB S C (binF f)
  | 0 => fun L op x y r _ _ _ _ h => by cases h
  | f + 1 => fun L op x y r hok hx hy ho h => by
    have hb := binF_ok hi f
    unfold binF binR at h
    split at h
    · rename_i a b ha hbb
      cases h
      obtain ⟨a1, a2⟩ := numI_ok (S := S) (C := C) hok ha
      obtain ⟨b1, b2⟩ := numI_ok (S := S) (C := C) hok hbb
      rw [a1, b1]
      exact num_made hok (do_i64 a2 b2)
    · split at h
      · rename_i hs
        rw [do_swap hs.1]
        exact turnR_ok hb hi hok ho hy hx h
      · exact turnR_ok hb hi hok ho hx hy h
end Go.Proofs.YtpdeoalocejodaaGreatDoor
/- Terms made plain: it comes to an end. -/
namespace Go.Proofs.YtpdeoalocejodaaGreatDoor
open Go Go.Am
set_option maxRecDepth 100000
set_option maxHeartbeats 1000000
theorem numI_ext {L L' : List Nd} (h : L <+: L') {x : Int} (hx : inG L x) : numI L' x = numI L x := by
  obtain ⟨h1, h2⟩ := nd_ext h hx
  simp only [numI, h1, hx, h2]
theorem booI_ext {L L' : List Nd} (h : L <+: L') {x : Int} (hx : inG L x) : booI L' x = booI L x := by
  obtain ⟨h1, h2⟩ := nd_ext h hx
  simp only [booI, h1, hx, h2]
theorem booI_in {L : List Nd} {x : Int} (h : booI L x = true) : inG L x := by
  simp only [booI, decide_eq_true_eq] at h
  exact h.1
theorem numN_get (L : List Nd) (n : Int) : inG (numN L n).2 (numN L n).1 ∧ numI (numN L n).2 (numN L n).1 = some n ∧ L <+: (numN L n).2 ∧ (numN L n).1 ≠ -1 := by
  obtain ⟨h1, h2⟩ := add_ok (num_may n L.length)
  refine ⟨h1, ?_, addN_pre _ _, ?_⟩
  · show numI (addN L _).2 (addN L _).1 = some n
    rw [numI, if_pos ⟨h1, by rw [h2]⟩, h2]
  · have := h1.1
    show (addN L _).1 ≠ -1
    omega
theorem boo_of {L : List Nd} {b op : Int} (h : booI L b = true) (hn : numI L b = none) (ho : op ≠ 14 ∧ op ≠ 15 ∧ op ≠ 16) : ofI L b op = none := by
  simp only [booI, decide_eq_true_eq] at h
  obtain ⟨hx, h⟩ := h
  unfold ofI
  rw [if_neg]
  rintro ⟨_, hk, e⟩
  rcases h with ⟨_, h⟩ | ⟨h, _⟩
  · omega
  · omega
theorem tail_of {L : List Nd} {b op : Int} (h : ofI L b op = none) : tailI L b op = none := by simp [tailI, h]
theorem then_none {L : List Nd} {k : List Nd → Option GR} : thenR (some (-1, L)) k = k L := by simp [thenR]
theorem then_some {r : GR} {k : List Nd → Option GR} (h : r.1 ≠ -1) : thenR (some r) k = some r := by simp [thenR, h]
theorem isSome_then {r0 : Option GR} {k : List Nd → Option GR} (h : r0.isSome = true) (hk : ∀ r, r0 = some r → (k r.2).isSome = true) : (thenR r0 k).isSome = true := by
  obtain ⟨r, hr⟩ := Option.isSome_iff_exists.1 h
  have := hk r hr
  rw [hr] at *
  by_cases h1 : r.1 = -1
  · simp [thenR, h1, this]
  · simp [thenR, h1]
theorem ne_of_in {L : List Nd} {x : Int} (h : inG L x) : x ≠ -1 := by have := h.1; omega
theorem boo_num {L : List Nd} {n : Int} (h : two n) : booI (numN L n).2 (numN L n).1 = true := by
  obtain ⟨h1, h2⟩ := add_ok (num_may n L.length)
  have h1' : inG (numN L n).2 (numN L n).1 := h1
  have h2' : nd (numN L n).2 (numN L n).1 = ⟨1, n, 0, 0, 0, 0⟩ := h2
  simp only [booI, h1', h2', decide_eq_true_eq, true_and]
  exact .inr h
theorem boo_node {L : List Nd} {x y : Int} (hx : inG L x) (hy : inG L y) : booI (addN L ⟨4, 0, 0, 16, x, y⟩).2 (addN L ⟨4, 0, 0, 16, x, y⟩).1 = true := by
  obtain ⟨h1, h2⟩ := add_ok (node_may (op := 16) (by omega) hx hy)
  simp only [booI, h1, h2, decide_eq_true_eq, true_and]
  exact .inl (.inr (.inr trivial))
def EqBoo (bin : BinT) : Prop := ∀ L x y r, inG L x → inG L y → okN L → bin L 16 x y = some r → booI r.2 r.1 = true
theorem withN_boo {bin : BinT} (hb : EqBoo bin) {L : List Nd} (hok : okN L) {x n : Int} (hx : inG L x) (hn : i64 n) {r : GR} (h : withN bin L 16 x n = some r) : booI r.2 r.1 = true := by
  obtain ⟨h1, h2, h3, h4⟩ := numN_get L n
  exact hb _ _ _ _ (nd_ext h3 hx).1 h1 (okN_addN hok hn (show i64 0 by unfold i64; omega)) h
theorem in_of {L : List Nd} (hok : okN L) {x op u v : Int} (h : ofI L x op = some (u, v)) : inG L u ∧ inG L v ∧ u < x ∧ v < x ∧ numI L x = none ∧ inG L x := by
  obtain ⟨h1, h2, h3, h4, _⟩ := ofI_ok (S := []) (C := []) hok h
  unfold ofI at h
  split at h
  · rename_i hc
    refine ⟨h1, h2, h3, h4, ?_, hc.1⟩
    rw [numI, if_neg]
    omega
  · cases h
theorem in_tail {L : List Nd} (hok : okN L) {x op y d : Int} (h : tailI L x op = some (y, d)) : inG L y ∧ y < x ∧ i64 d ∧ numI L x = none ∧ inG L x := by
  obtain ⟨h1, h2, h3, _⟩ := tailI_ok (S := []) (C := []) hok h
  unfold tailI at h
  cases ho : ofI L x op with
  | none => rw [ho] at h; cases h
  | some p =>
    obtain ⟨u, v⟩ := p
    obtain ⟨_, _, _, _, h5, h6⟩ := in_of hok ho
    exact ⟨h1, h2, h3, h5, h6⟩
theorem rule_boo {bin : BinT} (hb : EqBoo bin) {L : List Nd} (hok : okN L) {x y : Int} (hx : inG L x) (hy : inG L y) {r : GR} (h : ruleR bin L 16 x y (numI L x) (numI L y) = some r) : (r.1 = -1 ∧ r.2 = L) ∨ booI r.2 r.1 = true := by
  unfold ruleR at h
  split at h
  · cases h
    right
    have e : sameR L 16 x = numN L 1 := by simp [sameR]
    rw [e]
    exact boo_num (.inr rfl)
  · split at h
    · rename_i b hq
      have hbi := (numI_ok (S := []) (C := []) hok hq).2
      have e1 : fixedR L 16 x b = (-1, L) := by simp [fixedR, keepsW]
      have e2 : movedR bin L 16 x b = some (-1, L) := by simp [movedR]
      have e3 : groupR bin L 16 x b = some (-1, L) := by
        unfold groupR
        split
        · simp [groupsW]
        · rfl
      unfold numberR at h
      rw [e1, then_none, e2, then_none] at h
      unfold thenR at h
      cases ht : truthR bin L 16 x b with
      | none => rw [ht] at h; cases h
      | some q =>
        rw [ht] at h
        simp only [Option.bind_some] at h
        have hq2 : (q.1 = -1 ∧ q.2 = L) ∨ booI q.2 q.1 = true := by
          unfold truthR at ht
          split at ht
          · cases ht; exact .inl ⟨rfl, rfl⟩
          · rename_i hbo
            split at ht
            · cases ht; exact .inr (by simpa using hbo)
            · split at ht
              · cases ht; exact .inr (boo_num (.inl rfl))
              · split at ht
                · rename_i h1; omega
                · split at ht
                  · split at ht
                    · rename_i h1; cases ht; exact .inr h1.2.2
                    · cases ht; exact .inl ⟨rfl, rfl⟩
                  · cases ht; exact .inl ⟨rfl, rfl⟩
        split at h
        · rename_i hne
          cases h
          rcases hq2 with ⟨h1, _⟩ | h1
          · exact absurd h1 hne
          · exact .inr h1
        · rename_i hne
          have hqn : q.1 = -1 := Decidable.byContradiction fun h => hne h
          have hqL : q.2 = L := by
            rcases hq2 with ⟨_, h1⟩ | h1
            · exact h1
            · exact absurd hqn (ne_of_in (booI_in h1))
          rw [hqL, e3] at h
          simp only [Option.bind_some, ne_eq, not_true_eq_false, if_false] at h
          unfold equalR at h
          rw [if_neg (by simp)] at h
          split at h
          · rename_i y' d hta
            obtain ⟨t1, t2, t3, t4, t5⟩ := in_tail hok hta
            exact .inr (withN_boo hb hok t1 (wrap_rg _) h)
          · split at h
            · rename_i y' d hta
              obtain ⟨t1, t2, t3, t4, t5⟩ := in_tail hok hta
              exact .inr (withN_boo hb hok t1 (do_i64 hbi t3) h)
            · split at h
              · rename_i u v hof
                obtain ⟨t1, t2, _⟩ := in_of hok hof
                split at h
                · exact .inr (hb _ _ _ _ t1 t2 hok h)
                · cases h; exact .inl ⟨rfl, rfl⟩
              · split at h
                · rename_i u v hof
                  obtain ⟨t1, t2, _⟩ := in_of hok hof
                  split at h
                  · exact .inr (hb _ _ _ _ t1 t2 hok h)
                  · cases h; exact .inl ⟨rfl, rfl⟩
                · cases h; exact .inl ⟨rfl, rfl⟩
    · split at h
      · rename_i h1; omega
      · cases h; exact .inl ⟨rfl, rfl⟩
theorem turn_boo {bin : BinT} (hb : EqBoo bin) {L : List Nd} (hok : okN L) {x y : Int} (hx : inG L x) (hy : inG L y) {r : GR} (h : turnR bin L 16 x y (numI L x) (numI L y) = some r) : booI r.2 r.1 = true := by
  unfold turnR thenR at h
  cases hr : ruleR bin L 16 x y (numI L x) (numI L y) with
  | none => rw [hr] at h; cases h
  | some q =>
    rw [hr] at h
    simp only [Option.bind_some] at h
    have hq := rule_boo hb hok hx hy hr
    split at h
    · rename_i hne
      cases h
      rcases hq with ⟨h1, _⟩ | h1
      · exact absurd h1 hne
      · exact h1
    · rename_i hne
      have hqn : q.1 = -1 := Decidable.byContradiction fun h => hne h
      rcases hq with ⟨_, h1⟩ | h1
      · rw [h1] at h; cases h; exact boo_node hx hy
      · exact absurd hqn (ne_of_in (booI_in h1))
theorem binR_boo {bin : BinT} (hb : EqBoo bin) : EqBoo (binR bin) := by
  intro L x y r hx hy hok h
  unfold binR at h
  split at h
  · rename_i a b _ _
    cases h
    exact boo_num (two_cmp (.inr (.inr rfl)))
  · split at h
    · exact turn_boo hb hok hy hx h
    · exact turn_boo hb hok hx hy h
theorem binF_boo : ∀ f, EqBoo (binF f)
  | 0 => fun L x y r _ _ _ h => by cases h
  | f + 1 => binR_boo (binF_boo f)
theorem end_eq {bin : BinT} {L : List Nd} {b z : Int} (hb : booI L b = true) (hz : numI L z = some 0) : (binR bin L 16 b z).isSome = true := by
  unfold binR
  rw [hz]
  cases hn : numI L b with
  | some a => rfl
  | none =>
    simp only [Option.isSome_none, reduceCtorEq, false_and, or_self, and_false, Bool.false_eq_true, if_false]
    unfold turnR
    refine isSome_then ?_ fun r hr => rfl
    unfold ruleR
    split
    · rfl
    · have e1 : fixedR L 16 b 0 = (-1, L) := by simp [fixedR, keepsW]
      have e2 : movedR bin L 16 b 0 = some (-1, L) := by simp [movedR]
      have e3 : groupR bin L 16 b 0 = some (-1, L) := by
        unfold groupR
        split
        · simp [groupsW]
        · rfl
      have o1 := boo_of (op := 1) hb hn (by omega)
      have o10 := boo_of (op := 10) hb hn (by omega)
      have o2 := boo_of (op := 2) hb hn (by omega)
      have e4 : equalR bin L 16 b 0 = some (-1, L) := by simp [equalR, tail_of o1, tail_of o10, o10, o2]
      simp only [numberR, e1, then_none, e2]
      unfold truthR
      rw [if_neg (by simp [hb]), if_neg (by omega), if_neg (by omega), if_neg (by omega)]
      split
      · split
        · rename_i h1
          rw [then_some (ne_of_in (booI_in h1.2.2))]; rfl
        · rw [then_none, e3, then_none, e4]; rfl
      · rw [then_none, e3, then_none, e4]; rfl
theorem end_xor {bin : BinT} {L : List Nd} {b z c : Int} (hb : booI L b = true) (hz : numI L z = some c) (hc : c % 2 = 0) : (binR bin L 10 b z).isSome = true := by
  unfold binR
  rw [hz]
  cases hn : numI L b with
  | some a => rfl
  | none =>
    simp only [Option.isSome_none, reduceCtorEq, false_and, or_self, and_false, Bool.false_eq_true, if_false]
    unfold turnR
    refine isSome_then ?_ fun r hr => rfl
    unfold ruleR
    split
    · rfl
    · have o10 := boo_of (op := 10) hb hn (by omega)
      have e2 : movedR bin L 10 b c = some (-1, L) := by simp [movedR]
      have e3 : truthR bin L 10 b c = some (-1, L) := by
        unfold truthR
        rw [if_neg (by simp [hb]), if_neg (by omega), if_neg (by omega), if_neg (by omega)]
        split
        · rw [if_neg (by omega)]
        · rfl
      have e4 : groupR bin L 10 b c = some (-1, L) := by simp [groupR, tail_of o10]
      have e5 : equalR bin L 10 b c = some (-1, L) := by simp [equalR]
      show (numberR bin L 10 b c).isSome = true
      unfold numberR
      by_cases h0 : c = 0
      · have e1 : fixedR L 10 b c = (b, L) := by simp [fixedR, keepsW, h0]
        rw [e1, then_some (ne_of_in (booI_in hb))]; rfl
      · have e1 : fixedR L 10 b c = (-1, L) := by
          have : ¬ (0 : Int) = c := fun h => h0 h.symm
          simp [fixedR, keepsW, this]
        rw [e1, then_none, e2, then_none, e3, then_none, e4, then_none, e5]; rfl
theorem end_shr {bin : BinT} {L : List Nd} {op x z c : Int} (ho : op = 12 ∨ op = 13) (hx : inG L x) (hz : numI L z = some c) (hc : c = c % 64) : (binR bin L op x z).isSome = true := by
  unfold binR
  rw [hz]
  cases hn : numI L x with
  | some a => rfl
  | none =>
    have hs : swapsW op = false := by rcases ho with rfl | rfl <;> rfl
    simp only [hs, Bool.false_eq_true, false_and, if_false]
    unfold turnR
    refine isSome_then ?_ fun r hr => rfl
    unfold ruleR
    split
    · rfl
    · have hg : groupsW op = false := by rcases ho with rfl | rfl <;> rfl
      have hk : keepsW op = some 0 := by rcases ho with rfl | rfl <;> rfl
      have e2 : movedR bin L op x c = some (-1, L) := by
        unfold movedR
        rw [if_neg (by omega), if_neg (by omega), if_neg (fun h => h.2 hc), if_neg (by omega), if_neg (by omega), if_neg (by omega)]
      have e3 : truthR bin L op x c = some (-1, L) := by
        unfold truthR
        split
        · rfl
        · rw [if_neg (by omega), if_neg (by omega), if_neg (by omega)]
          split
          · rw [if_neg (by omega)]
          · rfl
      have e4 : groupR bin L op x c = some (-1, L) := by
        unfold groupR
        split
        · rw [if_neg (by simp [hg])]
        · rfl
      have e5 : equalR bin L op x c = some (-1, L) := by
        unfold equalR
        rw [if_pos (by omega)]
      show (numberR bin L op x c).isSome = true
      unfold numberR
      by_cases h0 : c = 0
      · have e1 : fixedR L op x c = (x, L) := by simp [fixedR, hk, h0]
        rw [e1, then_some (ne_of_in hx)]; rfl
      · have e1 : fixedR L op x c = (-1, L) := by
          have : ¬ (0 : Int) = c := fun h => h0 h.symm
          unfold fixedR
          rw [hk, if_neg (by simp [this]), if_neg (by omega), if_neg (by omega), if_neg (by omega)]
        rw [e1, then_none, e2, then_none, e3, then_none, e4, then_none, e5]; rfl
end Go.Proofs.YtpdeoalocejodaaGreatDoor
/- Terms made plain: so many steps are enough. -/
namespace Go.Proofs.YtpdeoalocejodaaGreatDoor
open Go Go.Am
set_option maxRecDepth 100000
set_option maxHeartbeats 1000000
def depF (T : List Nat) (d : Nd) : Nat := if d.kind = 1 then 0 else if d.kind = 4 then 1 + max (T.getD d.x.toNat 0) (T.getD d.y.toNat 0) else 1
def depL (L : List Nd) : List Nat := L.foldl (fun T d => T ++ [depF T d]) []
def wt (L : List Nd) (x : Int) : Nat := (depL L).getD x.toNat 0
theorem depL_snoc (L : List Nd) (d : Nd) : depL (L ++ [d]) = depL L ++ [depF (depL L) d] := by simp [depL, List.foldl_append]
theorem depL_len (L : List Nd) : (depL L).length = L.length := by
  refine snoc_ind (p := fun L => (depL L).length = L.length) rfl (fun l a h => ?_) L
  rw [depL_snoc]; simp [h]
theorem depL_pre {L M : List Nd} (h : L <+: M) : ∃ r, depL M = depL L ++ r := by
  obtain ⟨s, rfl⟩ := h
  refine snoc_ind (p := fun s => ∃ r, depL (L ++ s) = depL L ++ r) ⟨[], by simp⟩ (fun l a ⟨r, hr⟩ => ?_) s
  exact ⟨r ++ [depF (depL (L ++ l)) a], by rw [← List.append_assoc, depL_snoc, hr, List.append_assoc]⟩
theorem getD_pre {l m : List Nat} {i : Nat} (h : i < l.length) : (l ++ m).getD i 0 = l.getD i 0 := by
  simp [List.getD_eq_getElem?_getD, List.getElem?_append_left h]
theorem wt_ext {L L' : List Nd} (h : L <+: L') {x : Int} (hx : inG L x) : wt L' x = wt L x := by
  obtain ⟨r, hr⟩ := depL_pre h
  unfold inG at hx
  unfold wt
  rw [hr, getD_pre (by rw [depL_len]; omega)]
theorem wt_at {L : List Nd} {i : Nat} {d : Nd} (h : L[i]? = some d) : (depL L).getD i 0 = depF (depL (L.take i)) d := by
  have hp : L.take i ++ [d] <+: L := by
    have : L.take (i + 1) = L.take i ++ [d] := by rw [List.take_add_one, h]; rfl
    rw [← this]; exact List.take_prefix _ _
  obtain ⟨r, hr⟩ := depL_pre hp
  have hi := (List.getElem?_eq_some_iff.1 h).1
  have hl : (depL (L.take i)).length = i := by rw [depL_len, List.length_take]; omega
  rw [hr, depL_snoc, List.append_assoc, List.getD_eq_getElem?_getD, List.getElem?_append_right (by omega), hl]
  simp
theorem nd_at {L : List Nd} {x : Int} (hx : inG L x) : L[x.toNat]? = some (nd L x) := by
  unfold inG at hx
  have hlt : x.toNat < L.length := by omega
  simp [nd, List.getD_eq_getElem?_getD, List.getElem?_eq_getElem hlt]
theorem wt_take {L : List Nd} {i p : Nat} (h : p < i) (hi : i ≤ L.length) : (depL (L.take i)).getD p 0 = (depL L).getD p 0 := by
  obtain ⟨r, hr⟩ := depL_pre (List.take_prefix i L)
  rw [hr, getD_pre (by rw [depL_len, List.length_take]; omega)]
theorem wt_num {L : List Nd} {x n : Int} (h : numI L x = some n) : wt L x = 0 := by
  unfold numI at h
  split at h
  · rename_i h1
    unfold wt
    rw [wt_at (nd_at h1.1), depF, if_pos h1.2]
  · cases h
theorem wt_none {L : List Nd} {x : Int} (hx : inG L x) (h : numI L x = none) : 1 ≤ wt L x := by
  have hk : (nd L x).kind ≠ 1 := fun hk => by rw [numI, if_pos ⟨hx, hk⟩] at h; cases h
  unfold wt
  rw [wt_at (nd_at hx), depF, if_neg hk]
  split <;> omega
theorem wt_of {L : List Nd} (hok : okN L) {x op u v : Int} (h : ofI L x op = some (u, v)) : wt L x = 1 + max (wt L u) (wt L v) := by
  have h5 := ofI_ok (S := []) (C := []) hok h
  unfold ofI at h
  split at h
  · rename_i h1
    cases h
    have hx := h1.1
    have a := h5.1
    have b := h5.2.1
    have c := h5.2.2.1
    have d := h5.2.2.2.1
    unfold inG at hx a b
    unfold wt
    rw [wt_at (nd_at h1.1), depF, if_neg (by omega), if_pos h1.2.1, wt_take (by omega) (by omega), wt_take (by omega) (by omega)]
  · cases h
theorem wt_tail {L : List Nd} (hok : okN L) {x op y d : Int} (h : tailI L x op = some (y, d)) : wt L y < wt L x := by
  unfold tailI at h
  cases ho : ofI L x op with
  | none => rw [ho] at h; cases h
  | some p =>
    obtain ⟨u, v⟩ := p
    rw [ho] at h
    cases hn : numI L v with
    | none => simp [hn] at h
    | some c =>
      simp only [Option.bind_some, hn, Option.map_some, Option.some.injEq, Prod.mk.injEq] at h
      obtain ⟨rfl, rfl⟩ := h
      have := wt_of hok ho
      omega
theorem depL_bd {L : List Nd} (hok : okN L) : ∀ i : Nat, (depL L).getD i 0 ≤ i + 1 := by
  intro i
  induction i using Nat.strongRecOn with
  | _ i ih =>
    by_cases hi : i < L.length
    · obtain ⟨d, hd⟩ : ∃ d, L[i]? = some d := ⟨_, List.getElem?_eq_getElem hi⟩
      rw [wt_at hd, depF]
      split
      · omega
      · split
        · rename_i hk
          have hp := (may_parts (hok i d hd).2.2).1
          have h1 := hp d.x (by simp [Nd.parts, hk])
          have h2 := hp d.y (by simp [Nd.parts, hk])
          rw [wt_take (by omega) (by omega), wt_take (by omega) (by omega)]
          have := ih d.x.toNat (by omega)
          have := ih d.y.toNat (by omega)
          omega
        · omega
    · rw [List.getD_eq_getElem?_getD, List.getElem?_eq_none (by rw [depL_len]; omega)]
      simp
theorem wt_le {L : List Nd} (hok : okN L) (x : Int) : wt L x ≤ x.toNat + 1 := depL_bd hok _
def hard (op : Int) : Nat := if op = 2 ∨ op = 6 ∨ op = 7 ∨ op = 11 ∨ op = 15 ∨ op = 12 ∨ op = 13 then 1 else 0
theorem hard_le (op : Int) : hard op ≤ 1 := by unfold hard; split <;> omega
def Ends (bin : BinT) (N : Nat) : Prop := ∀ L op x y, okN L → inG L x → inG L y → (1 ≤ op ∧ op ≤ 16) → 2 * max (wt L x) (wt L y) + hard op < N → (bin L op x y).isSome = true
theorem withN_end {bin : BinT} {N : Nat} (hb : Ends bin N) {L : List Nd} (hok : okN L) {op x n : Int} (hx : inG L x) (ho : 1 ≤ op ∧ op ≤ 16) (hn : i64 n) (hw : 2 * wt L x + hard op < N) : (withN bin L op x n).isSome = true := by
  obtain ⟨h1, h2, h3, h4⟩ := numN_get L n
  have hok2 : okN (numN L n).2 := okN_addN hok hn (show i64 0 by unfold i64; omega)
  refine hb _ _ _ _ hok2 (nd_ext h3 hx).1 h1 ho ?_
  rw [wt_ext h3 hx, wt_num h2, Nat.max_eq_left (Nat.zero_le _)]
  exact hw
theorem hard_16 : hard 16 = 0 := by decide
theorem wrap_even {x : Int} (h : x % 2 = 0) : IntKind.i64.wrap x % 2 = 0 := by
  rw [IntKind.wrap_i64]; omega
theorem xor1_nat {X : Nat} (h : X % 2 = 1) : (X ^^^ 1) % 2 = 0 := by
  have e3 := xor_split 1 1 (X / 2) 1 0 (by decide) (by decide)
  simp only [Nat.pow_one, Nat.mul_zero, Nat.add_zero, Nat.xor_self, Nat.zero_add, Nat.xor_zero] at e3
  rw [show 1 + 2 * (X / 2) = X by omega] at e3
  rw [e3]; omega
theorem xor1_even {c : Int} (h : c % 2 = 1) : doW 10 c 1 % 2 = 0 := by
  have e0 : doW 10 c 1 = IntKind.i64.wrap ((bv c ^^^ bv 1).toNat : Int) := by rw [do10, wI_nat]
  have e1 : (bv 1).toNat = 1 := by decide
  have e2 : (bv c).toNat = (c % 18446744073709551616).toNat := by rw [BitVec.toNat_ofInt]; rfl
  have h3 : (c % 18446744073709551616).toNat % 2 = 1 := by omega
  have e3 := xor1_nat h3
  rw [e0, BitVec.toNat_xor, e1, e2]
  exact wrap_even (by omega)
def NoneL (L : List Nd) (r : GR) : Prop := r.1 ≠ -1 ∨ r = (-1, L)
theorem fixed_none {L : List Nd} {op x c : Int} (hx : inG L x) : NoneL L (fixedR L op x c) := by
  have h0 := (numN_get L 0).2.2.2
  have h1 := (numN_get L (-1)).2.2.2
  unfold fixedR
  split
  · exact .inl (ne_of_in hx)
  · split
    · exact .inl h0
    · split
      · exact .inl h1
      · split
        · exact .inl h0
        · exact .inr rfl
section
variable {bin : BinT}
theorem moved_none (hb : KeepB [] [] bin) {L : List Nd} (hok : okN L) {op x c : Int} (hx : inG L x) (hc : i64 c) {r : GR} (h : movedR bin L op x c = some r) : NoneL L r := by
  unfold movedR at h
  split at h
  · exact .inl (withN_ok hb hok hx (by omega) (wrap_rg _) h).2
  · split at h
    · exact .inl (withN_ok hb hok hx (by omega) (wrap_rg _) h).2
    · split at h
      · rename_i h1; exact .inl (withN_ok hb hok hx (by omega) (i64_lit (by omega)) h).2
      · split at h
        · rename_i h1
          obtain ⟨k, hk⟩ := Option.isSome_iff_exists.1 h1.2
          have hk2 := (powW_some hk).1
          rw [hk] at h
          exact .inl (withN_ok hb hok hx (by omega) (i64_lit (by simp; omega)) h).2
        · split at h
          · exact .inl (withN_ok hb hok hx (by omega) (wrap_rg _) h).2
          · split at h
            · exact .inl (withN_ok hb hok hx (by omega) (i64_lit (by omega)) h).2
            · cases h; exact .inr rfl
theorem truth_none (hb : KeepB [] [] bin) {L : List Nd} (hok : okN L) {op x c : Int} (hc : i64 c) {r : GR} (h : truthR bin L op x c = some r) : NoneL L r := by
  unfold truthR at h
  split at h
  · cases h; exact .inr rfl
  · rename_i hbo
    have hx := booI_in (by simpa using hbo : booI L x = true)
    split at h
    · cases h; exact .inl (ne_of_in hx)
    · split at h
      · cases h; exact .inl (numN_get L 0).2.2.2
      · split at h
        · cases hr : withN bin L 16 x 0 with
          | none => rw [hr] at h; cases h
          | some q =>
            rw [hr] at h
            simp only [Option.bind_some] at h
            obtain ⟨g1, g2⟩ := withN_ok hb hok hx (by omega) (i64_lit (by omega)) hr
            exact .inl (withN_ok hb g1.ok (g1.val g2).1 (by omega) (do_i64 hc (i64_lit (by omega))) h).2
        · split at h
          · split at h
            · rename_i h1; cases h; exact .inl (ne_of_in (booI_in h1.2.2))
            · cases h; exact .inr rfl
          · cases h; exact .inr rfl
theorem group_none (hb : KeepB [] [] bin) {L : List Nd} (hok : okN L) {op x c : Int} (ho : 1 ≤ op ∧ op ≤ 16) (hc : i64 c) {r : GR} (h : groupR bin L op x c = some r) : NoneL L r := by
  unfold groupR at h
  split at h
  · rename_i y d hta
    obtain ⟨t1, t2, t3, _⟩ := in_tail hok hta
    split at h
    · exact .inl (withN_ok hb hok t1 ho (do_i64 t3 hc) h).2
    · cases h; exact .inr rfl
  · cases h; exact .inr rfl
theorem some_then {L : List Nd} {r0 : Option GR} {k : List Nd → Option GR} (h : r0.isSome = true) (hn : ∀ r, r0 = some r → NoneL L r) (hk : (k L).isSome = true) : (thenR r0 k).isSome = true := by
  obtain ⟨r, hr⟩ := Option.isSome_iff_exists.1 h
  rcases hn r hr with h1 | h1
  · rw [hr, then_some h1]; rfl
  · rw [hr, h1, then_none]; exact hk
end
theorem number_end {f : Nat} (hb : Ends (binF (f + 1)) (f + 1)) (hk : ∀ S C, (∀ x ∈ S, i64 x) → (∀ c ∈ C, i64 c.n) → KeepB S C (binF (f + 1))) {L : List Nd} (hok : okN L) {op x c : Int} (hx : inG L x) (ho : 1 ≤ op ∧ op ≤ 16) (hc : i64 c) (hn : numI L x = none) (hw : 2 * wt L x + hard op < f + 2) (hf : 2 ≤ f + 1) : (numberR (binF (f + 1)) L op x c).isSome = true := by
  have hK := hk [] [] (by simp) (by simp)
  have hwx := wt_none hx hn
  have i0 : i64 0 := by unfold i64; omega
  have q1 : hard 1 = 0 := by decide
  have q2 : hard 2 = 1 := by decide
  have q3 : hard 3 = 0 := by decide
  have q7 : hard 7 = 1 := by decide
  have q8 : hard 8 = 0 := by decide
  have q11 : hard 11 = 1 := by decide
  have q15 : hard 15 = 1 := by decide
  have q16 : hard 16 = 0 := by decide
  have moved : (movedR (binF (f + 1)) L op x c).isSome = true := by
    unfold movedR
    have h64 : i64 (c % 64) := by unfold i64; omega
    split
    · rename_i h; subst h
      exact withN_end hb hok hx (by omega) (wrap_rg _) (by omega)
    · split
      · rename_i h; subst h
        exact withN_end hb hok hx (by omega) (wrap_rg _) (by omega)
      · split
        · rename_i h
          obtain ⟨h1, h2, h3, h4⟩ := numN_get L (c % 64)
          exact end_shr h.1 (nd_ext h3 hx).1 h2 (by omega)
        · split
          · rename_i h
            obtain ⟨k, hk'⟩ := Option.isSome_iff_exists.1 h.2
            have hk2 := (powW_some hk').1
            rw [hk']
            obtain ⟨h1, h2, h3, h4⟩ := numN_get L ((k : Nat) : Int)
            exact end_shr (.inl rfl) (nd_ext h3 hx).1 h2 (by omega)
          · split
            · rename_i h
              obtain ⟨rfl, _⟩ := h
              exact withN_end hb hok hx (by omega) (wrap_rg _) (by omega)
            · split
              · rename_i h
                obtain ⟨rfl, _⟩ := h
                exact withN_end hb hok hx (by omega) i0 (by omega)
              · rfl
  have truth : (truthR (binF (f + 1)) L op x c).isSome = true := by
    unfold truthR
    split
    · rfl
    · rename_i hbo
      have hbo : booI L x = true := by simpa using hbo
      split
      · rfl
      · split
        · rfl
        · split
          · rename_i h1
            obtain ⟨h1, h2, h3, h4⟩ := numN_get L 0
            have hok2 : okN (numN L 0).2 := okN_addN hok i0 i0
            have he : (withN (binF (f + 1)) L 16 x 0).isSome = true := end_eq (by rw [booI_ext h3 hx]; exact hbo) h2
            obtain ⟨q, hq⟩ := Option.isSome_iff_exists.1 he
            rw [hq]
            simp only [Option.bind_some]
            have hbq := withN_boo (binF_boo (f + 1)) hok hx i0 hq
            obtain ⟨k1, k2, k3, k4⟩ := numN_get q.2 (doW 10 c 1)
            refine end_xor (by rw [booI_ext k3 (booI_in hbq)]; exact hbq) k2 ?_
            rename_i h5 _ _ _
            have e : doW 10 c 1 % 2 = 0 := xor1_even (by omega)
            exact e
          · split
            · split <;> rfl
            · rfl
  have hKo : ∀ y d, tailI L x op = some (y, d) → 2 * wt L y + hard op < f + 1 := fun y d h => by
    obtain ⟨t1, t2, _⟩ := in_tail hok h
    have := wt_tail hok h
    have := hard_le op
    omega
  have group : (groupR (binF (f + 1)) L op x c).isSome = true := by
    unfold groupR
    split
    · rename_i y d hta
      obtain ⟨t1, t2, t3, _⟩ := in_tail hok hta
      split
      · exact withN_end hb hok t1 ho (do_i64 t3 hc) (hKo _ _ hta)
      · rfl
    · rfl
  have equal : (equalR (binF (f + 1)) L op x c).isSome = true := by
    unfold equalR
    split
    · rfl
    · have h16 := hard_16
      split
      · rename_i y d hta
        obtain ⟨t1, t2, t3, _⟩ := in_tail hok hta
        have := wt_tail hok hta
        exact withN_end hb hok t1 (by omega) (wrap_rg _) (by omega)
      · split
        · rename_i y d hta
          obtain ⟨t1, t2, t3, _⟩ := in_tail hok hta
          have := wt_tail hok hta
          exact withN_end hb hok t1 (by omega) (do_i64 hc t3) (by omega)
        · split
          · rename_i u v hof
            obtain ⟨t1, t2, t3, t4, _⟩ := in_of hok hof
            have := wt_of hok hof
            split
            · exact hb _ _ _ _ hok t1 t2 (by omega) (by omega)
            · rfl
          · split
            · rename_i u v hof
              obtain ⟨t1, t2, t3, t4, _⟩ := in_of hok hof
              have := wt_of hok hof
              split
              · exact hb _ _ _ _ hok t1 t2 (by omega) (by omega)
              · rfl
            · rfl
  unfold numberR
  exact some_then rfl (fun r hr => by cases hr; exact fixed_none hx) (some_then moved (fun r hr => moved_none hK hok hx hc hr) (some_then truth (fun r hr => truth_none hK hok hc hr) (some_then group (fun r hr => group_none hK hok ho hc hr) equal)))
theorem turn_end {f : Nat} (hb : Ends (binF (f + 1)) (f + 1)) (hk : ∀ S C, (∀ x ∈ S, i64 x) → (∀ c ∈ C, i64 c.n) → KeepB S C (binF (f + 1))) {L : List Nd} (hok : okN L) {op x y : Int} (hx : inG L x) (hy : inG L y) (ho : 1 ≤ op ∧ op ≤ 16) (hn : ¬ ((numI L x).isSome = true ∧ (numI L y).isSome = true)) (hw : 2 * max (wt L x) (wt L y) + hard op < f + 2) (hf : 2 ≤ f + 1) : (turnR (binF (f + 1)) L op x y (numI L x) (numI L y)).isSome = true := by
  unfold turnR
  refine isSome_then ?_ fun r hr => rfl
  unfold ruleR
  split
  · rfl
  · split
    · rename_i b hq
      have hx0 : numI L x = none := by
        cases h : numI L x with
        | none => rfl
        | some a => exact absurd ⟨by simp [h], by simp [hq]⟩ hn
      have hbi := (numI_ok (S := []) (C := []) hok hq).2
      exact number_end hb hk hok hx ho hbi hx0 (by omega) hf
    · rename_i hq
      split
      · rename_i h1
        obtain ⟨hp, rfl⟩ := h1
        have h16 := hard_16
        have h15 : hard 15 = 1 := by decide
        have he := hb L 16 y x hok hy hx (by omega) (by rw [Nat.max_comm]; omega)
        obtain ⟨q, hq2⟩ := Option.isSome_iff_exists.1 he
        rw [hq2]
        simp only [Option.bind_some]
        have hm := (hk [] [] (by simp) (by simp)) _ _ _ _ _ hok hy hx (by omega) hq2
        have hbq := binF_boo (f + 1) _ _ _ _ hy hx hok hq2
        exact end_eq hbq (by rw [numI_ext hm.1.pre hx]; exact hp)
      · rfl
theorem binF_end : ∀ f, Ends (binF f) f
  | 0 => fun L op x y _ _ _ _ h => by omega
  | 1 => fun L op x y hok hx hy ho h => by
    have hx0 : wt L x = 0 := by omega
    have hy0 : wt L y = 0 := by omega
    cases h1 : numI L x with
    | none => have := wt_none hx h1; omega
    | some a =>
      cases h2 : numI L y with
      | none => have := wt_none hy h2; omega
      | some b =>
        show (binR _ L op x y).isSome = true
        unfold binR
        rw [h1, h2]; rfl
  | f + 2 => fun L op x y hok hx hy ho h => by
    have hb := binF_end (f + 1)
    have hk : ∀ S C, (∀ x ∈ S, i64 x) → (∀ c ∈ C, i64 c.n) → KeepB S C (binF (f + 1)) := fun S C hS hC => binF_ok (fun L hok x => val_i64 hS hC (okN_i64 hok) x) (f + 1)
    show (binR (binF (f + 1)) L op x y).isSome = true
    unfold binR
    split
    · rfl
    · rename_i hne
      have hn : ¬ ((numI L x).isSome = true ∧ (numI L y).isSome = true) := fun ⟨h1, h2⟩ => by
        obtain ⟨a, ha⟩ := Option.isSome_iff_exists.1 h1
        obtain ⟨b, hb⟩ := Option.isSome_iff_exists.1 h2
        exact hne a b ha hb
      have hm : 2 ≤ f + 1 := by
        have : wt L x ≠ 0 ∨ wt L y ≠ 0 := by
          cases h1 : numI L x with
          | none => left; have := wt_none hx h1; omega
          | some a =>
            cases h2 : numI L y with
            | none => right; have := wt_none hy h2; omega
            | some b => exact absurd ⟨by simp [h1], by simp [h2]⟩ hn
        omega
      split
      · exact turn_end hb hk hok hy hx ho (fun ⟨h1, h2⟩ => hn ⟨h2, h1⟩) (by rw [Nat.max_comm]; omega) hm
      · exact turn_end hb hk hok hx hy ho hn (by omega) hm
end Go.Proofs.YtpdeoalocejodaaGreatDoor
/- The values of terms: the program's All and Of. -/
namespace Go.Proofs.YtpdeoalocejodaaGreatDoor
open Go Go.Am
set_option maxRecDepth 100000
set_option maxHeartbeats 1000000
variable {P : Program} {G : Nat → Option V}
def inL (L : List Nd) (ids : List Int) : Prop := ∀ x ∈ ids, 0 ≤ x ∧ x < L.length
instance {L : List Nd} {ids : List Int} : Decidable (inL L ids) := by unfold inL; infer_instance
def ofV (S : List Int) (C : List Cl) (L : List Nd) (x : Int) : V := if 0 ≤ x ∧ x < L.length then .tup [.int .i64 (val S C L x), .bool true] else .tup [.int .i64 0, .bool false]
end Go.Proofs.YtpdeoalocejodaaGreatDoor
