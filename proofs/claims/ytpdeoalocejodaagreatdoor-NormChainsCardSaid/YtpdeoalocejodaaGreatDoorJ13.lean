/- Terms made plain: what is made of plain terms is plain. -/
import Derived.Test.YtpdeoalocejodaaGreatDoorJ12
import Derived.Test.YtpdeoalocejodaaGreatDoorJ10
/- Terms made plain: what is made of plain terms is plain. -/
namespace Go.Proofs.YtpdeoalocejodaaGreatDoor
open Go Go.Am
set_option maxRecDepth 100000
set_option maxHeartbeats 1000000
def PlB (bin : BinT) : Prop := ∀ L op x y r, okN L → Pl L x → Pl L y → (1 ≤ op ∧ op ≤ 16) → bin L op x y = some r → Pl r.2 r.1
section
variable {bin : BinT}
theorem Pl.numN (L : List Nd) (n : Int) : Pl (Go.Proofs.YtpdeoalocejodaaGreatDoor.numN L n).2 (Go.Proofs.YtpdeoalocejodaaGreatDoor.numN L n).1 := Pl.num (numN_get L n).2.1
theorem withN_pl (hP : PlB bin) {L : List Nd} (hok : okN L) {op x n : Int} (hx : Pl L x) (ho : 1 ≤ op ∧ op ≤ 16) (hn : i64 n) {r : GR} (h : withN bin L op x n = some r) : Pl r.2 r.1 :=
  hP _ _ _ _ _ (okN_addN hok hn (show i64 0 by unfold i64; omega)) (hx.up hok (numN_get L n).2.2.1) (Pl.numN L n) ho h
theorem then_pl {L : List Nd} {q : Option GR} {k : List Nd → Option GR} {r : GR} (hn : ∀ s, q = some s → NoneL L s) (hq : ∀ s, q = some s → s.1 ≠ -1 → Pl s.2 s.1) (hk : k L = some r → r.1 ≠ -1 → Pl r.2 r.1) (h : thenR q k = some r) : r.1 ≠ -1 → Pl r.2 r.1 := by
  unfold thenR at h
  cases q with
  | none => cases h
  | some s =>
    simp only [Option.bind_some] at h
    split at h
    · cases h; exact hq _ rfl
    · rename_i hne
      rcases hn s rfl with h1 | h1
      · exact absurd h1 hne
      · subst h1; exact hk h
theorem number_pl (hK : KeepB [] [] bin) (hP : PlB bin) {L : List Nd} (hok : okN L) {op x c : Int} (hx : Pl L x) (ho : 1 ≤ op ∧ op ≤ 16) (hc : i64 c) {r : GR} (h : numberR bin L op x c = some r) : r.1 ≠ -1 → Pl r.2 r.1 := by
  have i0 : i64 0 := by unfold i64; omega
  have hxi := hx.inn
  unfold numberR at h
  refine then_pl (fun s hs => by cases hs; exact fixed_none hxi) (fun s hs hne => ?_) (fun h => ?_) h
  · cases hs
    unfold fixedR at hne ⊢
    split
    · exact hx
    · split
      · exact Pl.numN _ _
      · split
        · exact Pl.numN _ _
        · split
          · exact Pl.numN _ _
          · rename_i a b c d; rw [if_neg a, if_neg b, if_neg c, if_neg d] at hne; exact absurd rfl hne
  refine then_pl (fun s hs => moved_none hK hok hxi hc hs) (fun s hs hne => ?_) (fun h => ?_) h
  · unfold movedR at hs
    split at hs
    · exact withN_pl hP hok hx (by omega) (wrap_rg _) hs
    split at hs
    · exact withN_pl hP hok hx (by omega) (wrap_rg _) hs
    split at hs
    · exact withN_pl hP hok hx (by omega) (by unfold i64; omega) hs
    split at hs
    · rename_i k
      obtain ⟨q, hk'⟩ := Option.isSome_iff_exists.1 k.2
      have hk2 := (powW_some hk').1
      exact withN_pl hP hok hx (by omega) (by rw [hk']; unfold i64; simp; omega) hs
    split at hs
    · exact withN_pl hP hok hx (by omega) (wrap_rg _) hs
    split at hs
    · exact withN_pl hP hok hx (by omega) i0 hs
    · cases hs; exact absurd rfl hne
  refine then_pl (fun s hs => truth_none hK hok hc hs) (fun s hs hne => ?_) (fun h => ?_) h
  · unfold truthR at hs
    split at hs
    · cases hs; exact absurd rfl hne
    split at hs
    · cases hs; exact hx
    split at hs
    · cases hs; exact Pl.numN _ _
    split at hs
    · cases hq : withN bin L 16 x 0 with
      | none => rw [hq] at hs; cases hs
      | some q =>
        rw [hq] at hs
        simp only [Option.bind_some] at hs
        have g1 := (withN_ok hK hok hxi (by omega) i0 hq).1
        exact withN_pl hP g1.ok (withN_pl hP hok hx (by omega) i0 hq) (by omega) (do_i64 hc (by unfold i64; omega)) hs
    split at hs
    · rename_i y d hta
      split at hs
      · cases hs; exact (hx.tail hta).1
      · cases hs; exact absurd rfl hne
    · cases hs; exact absurd rfl hne
  refine then_pl (fun s hs => group_none hK hok ho hc hs) (fun s hs hne => ?_) (fun h hne => ?_) h
  · unfold groupR at hs
    split at hs
    · rename_i y d hta
      obtain ⟨t1, t2, t3, _⟩ := in_tail hok hta
      split at hs
      · exact withN_pl hP hok (hx.tail hta).1 ho (do_i64 t3 hc) hs
      · cases hs; exact absurd rfl hne
    · cases hs; exact absurd rfl hne
  unfold equalR at h
  split at h
  · cases h; exact absurd rfl hne
  split at h
  · rename_i y d hta
    exact withN_pl hP hok (hx.tail hta).1 (by omega) (wrap_rg _) h
  split at h
  · rename_i y d hta
    obtain ⟨t1, t2, t3, _⟩ := in_tail hok hta
    exact withN_pl hP hok (hx.tail hta).1 (by omega) (do_i64 hc t3) h
  split at h
  · rename_i u v hof
    obtain ⟨a, b, _⟩ := hx.of hof
    split at h
    · exact hP _ _ _ _ _ hok a b (by omega) h
    · cases h; exact absurd rfl hne
  split at h
  · rename_i u v hof
    obtain ⟨a, b, _⟩ := hx.of hof
    split at h
    · exact hP _ _ _ _ _ hok a b (by omega) h
    · cases h; exact absurd rfl hne
  · cases h; exact absurd rfl hne
end
theorem rule_pl {f : Nat} (hP : PlB (binF f)) {L : List Nd} (hok : okN L) {op x y : Int} (hx : Pl L x) (hy : Pl L y) (ho : 1 ≤ op ∧ op ≤ 16) {r : GR} (h : ruleR (binF f) L op x y (numI L x) (numI L y) = some r) : r.1 ≠ -1 → Pl r.2 r.1 := by
  have hK := keep_nil f
  intro hne
  unfold ruleR at h
  split at h
  · cases h
    unfold sameR at hne ⊢
    split
    · exact Pl.numN _ _
    · split
      · exact Pl.numN _ _
      · split
        · exact hx
        · rename_i a b c; rw [if_neg a, if_neg b, if_neg c] at hne; exact absurd rfl hne
  · split at h
    · rename_i b hq
      exact number_pl hK hP hok hx ho (numI_ok (S := []) (C := []) hok hq).2 h hne
    · split at h
      · cases hr : binF f L 16 y x with
        | none => rw [hr] at h; cases h
        | some q =>
          rw [hr] at h
          simp only [Option.bind_some] at h
          have g1 := (hK _ _ _ _ _ hok hy.inn hx.inn (by omega) hr).1
          exact hP _ _ _ _ _ g1.ok (hP _ _ _ _ _ hok hy hx (by omega) hr) (hx.up hok g1.pre) (by omega) h
      · cases h; exact absurd rfl hne
theorem turn_pl {f : Nat} (hP : PlB (binF f)) {L : List Nd} (hok : okN L) {op x y : Int} (hx : Pl L x) (hy : Pl L y) (ho : 1 ≤ op ∧ op ≤ 16) {r : GR} (h : turnR (binF f) L op x y (numI L x) (numI L y) = some r) (hsw : ∀ M, L <+: M → binF (f + 1) M op x y = turnR (binF f) M op x y (numI M x) (numI M y)) : Pl r.2 r.1 := by
  have h0 := h
  unfold turnR thenR at h
  cases hs : ruleR (binF f) L op x y (numI L x) (numI L y) with
  | none => rw [hs] at h; cases h
  | some s =>
    rw [hs] at h
    simp only [Option.bind_some] at h
    split at h
    · rename_i hne; cases h; exact rule_pl hP hok hx hy ho hs hne
    · rename_i hne
      rcases rule_none hok hx.inn hy.inn ho hs with h1 | h1
      · exact absurd h1 hne
      · subst h1
        cases h
        have hp := addN_pre L ⟨4, 0, 0, op, x, y⟩
        obtain ⟨a1, a2⟩ := add_ok (node_may ho hx.inn hy.inn)
        refine .bin a1 (by rw [a2]) (by rw [a2]; exact hx.up hok hp) (by rw [a2]; exact hy.up hok hp) ?_
        rw [a2]
        refine ⟨f + 1, ?_⟩
        rw [hsw _ hp]
        exact turn_stays (binF_stays f) hok hx.inn hy.inn ho h0 hp List.prefix_rfl
theorem binF_pl : ∀ f, PlB (binF f)
  | 0 => fun L op x y r _ _ _ _ h => by cases h
  | f + 1 => fun L op x y r hok hx hy ho h => by
    have hP := binF_pl f
    unfold binF binR at h
    cases ha : numI L x with
    | some a =>
      cases hb : numI L y with
      | some b => rw [ha, hb] at h; cases h; exact Pl.numN _ _
      | none =>
        rw [ha, hb] at h
        simp only [Option.isSome_some, true_or, and_true] at h
        split at h
        · rename_i h1
          refine turn_pl hP hok hy hx ho (by rw [ha, hb]; exact h) fun M hM => ?_
          rw [binF, binR, numI_ext hM hx.inn, numI_ext hM hy.inn, ha, hb]
          simp
        · rename_i h1
          refine turn_pl hP hok hx hy ho (by rw [ha, hb]; exact h) fun M hM => ?_
          rw [binF, binR, numI_ext hM hx.inn, numI_ext hM hy.inn, ha, hb]
          simp [h1]
    | none =>
      rw [ha] at h
      simp only [Option.isSome_none, Bool.false_eq_true, false_or] at h
      split at h
      · rename_i h1
        obtain ⟨h1, h2, h3⟩ := h1
        refine turn_pl hP hok hy hx ho (by rw [ha]; exact h) fun M hM => ?_
        rw [binF, binR, numI_ext hM hx.inn, numI_ext hM hy.inn, ha, h2]
        simp only [Option.isSome_none, Bool.false_eq_true, false_or]
        rw [if_neg (by omega)]
      · rename_i h1
        refine turn_pl hP hok hx hy ho (by rw [ha]; exact h) fun M hM => ?_
        rw [binF, binR, numI_ext hM hx.inn, numI_ext hM hy.inn, ha]
        simp only [Option.isSome_none, Bool.false_eq_true, false_or]
        rw [if_neg h1]
structure Gr (L : List Nd) : Prop where
  ok : okN L
  one : One L
theorem Gr.add {L : List Nd} (h : Gr L) {d : Nd} (hn : i64 d.n) (ha : i64 d.a) : Gr (addN L d).2 := ⟨okN_addN h.ok hn ha, one_add h.one d⟩
section
variable {bin : BinT}
def OneB (bin : BinT) : Prop := ∀ L op x y r, One L → bin L op x y = some r → One r.2
theorem withN_one (hP : OneB bin) {L : List Nd} (h1 : One L) {op x n : Int} {r : GR} (h : withN bin L op x n = some r) : One r.2 := hP _ _ _ _ _ (one_add h1 _) h
theorem then_one {q : Option GR} {k : List Nd → Option GR} {r : GR} (hq : ∀ s, q = some s → One s.2) (hk : ∀ L, One L → k L = some r → One r.2) (h : thenR q k = some r) : One r.2 := by
  unfold thenR at h
  cases q with
  | none => cases h
  | some s =>
    simp only [Option.bind_some] at h
    split at h
    · cases h; exact hq _ rfl
    · exact hk _ (hq _ rfl) h
theorem number_one (hP : OneB bin) {L : List Nd} (h1 : One L) {op x c : Int} {r : GR} (h : numberR bin L op x c = some r) : One r.2 := by
  unfold numberR at h
  refine then_one (fun s hs => ?_) (fun L h1 h => ?_) h
  · cases hs
    unfold fixedR
    repeat' split
    all_goals (first | exact h1 | exact one_add h1 _)
  refine then_one (fun s hs => ?_) (fun L h1 h => ?_) h
  · unfold movedR at hs
    repeat' split at hs
    all_goals (first | exact withN_one hP h1 hs | (cases hs; exact h1))
  refine then_one (fun s hs => ?_) (fun L h1 h => ?_) h
  · unfold truthR at hs
    split at hs
    · cases hs; exact h1
    split at hs
    · cases hs; exact h1
    split at hs
    · cases hs; exact one_add h1 _
    split at hs
    · cases hq : withN bin L 16 x 0 with
      | none => rw [hq] at hs; cases hs
      | some q => rw [hq] at hs; exact withN_one hP (withN_one hP h1 hq) hs
    split at hs
    · split at hs <;> (cases hs; exact h1)
    · cases hs; exact h1
  refine then_one (fun s hs => ?_) (fun L h1 h => ?_) h
  · unfold groupR at hs
    split at hs
    · split at hs
      · exact withN_one hP h1 hs
      · cases hs; exact h1
    · cases hs; exact h1
  unfold equalR at h
  split at h
  · cases h; exact h1
  split at h
  · exact withN_one hP h1 h
  split at h
  · exact withN_one hP h1 h
  split at h
  · split at h
    · exact hP _ _ _ _ _ h1 h
    · cases h; exact h1
  split at h
  · split at h
    · exact hP _ _ _ _ _ h1 h
    · cases h; exact h1
  · cases h; exact h1
theorem turn_one (hP : OneB bin) {L : List Nd} (h1 : One L) {op x y : Int} {p q : Option Int} {r : GR} (h : turnR bin L op x y p q = some r) : One r.2 := by
  unfold turnR at h
  refine then_one (fun s hs => ?_) (fun L h1 h => by cases h; exact one_add h1 _) h
  unfold ruleR at hs
  split at hs
  · cases hs
    unfold sameR
    repeat' split
    all_goals (first | exact h1 | exact one_add h1 _)
  split at hs
  · exact number_one hP h1 hs
  split at hs
  · cases hr : bin L 16 y x with
    | none => rw [hr] at hs; cases hs
    | some q => rw [hr] at hs; exact hP _ _ _ _ _ (hP _ _ _ _ _ h1 hr) hs
  · cases hs; exact h1
end
theorem binF_one : ∀ f, OneB (binF f)
  | 0 => fun L op x y r _ h => by cases h
  | f + 1 => fun L op x y r h1 h => by
    unfold binF binR at h
    split at h
    · cases h; exact one_add h1 _
    · split at h
      · exact turn_one (binF_one f) h1 h
      · exact turn_one (binF_one f) h1 h
theorem made_bin {L : List Nd} (hG : Gr L) {op x y : Int} (ho : 1 ≤ op ∧ op ≤ 16) (hx : Pl L x) (hy : Pl L y) {W : Nat} (wx : wt L x ≤ W) (wy : wt L y ≤ W) :
    ∃ r, binF (2 * W + 2) L op x y = some r ∧ L <+: r.2 ∧ Gr r.2 ∧ Pl r.2 r.1 ∧ Bn r.2 op x y r.1 ∧ wt r.2 r.1 ≤ W + 2 ∧ r.2.length ≤ L.length + (8 * W + 8) ∧
      ∀ S C, (∀ x ∈ S, i64 x) → (∀ c ∈ C, i64 c.n) → val S C r.2 r.1 = doW op (val S C L x) (val S C L y) := by
  have h1 := hard_le op
  obtain ⟨r, hr⟩ := Option.isSome_iff_exists.1 (binF_end (2 * W + 2) L op x y hG.ok hx.inn hy.inn ho (by omega))
  have hk := keep_nil _ _ _ _ _ _ hG.ok hx.inn hy.inn ho hr
  have hd := binF_dep _ _ _ _ _ _ hG.ok hx.inn hy.inn ho hr
  have hD := deepW_le op
  have hg := binF_grow _ _ _ _ _ _ hG.ok hx.inn hy.inn ho hr
  refine ⟨r, hr, hk.1.pre, ⟨hk.1.ok, binF_one _ _ _ _ _ _ hG.one hr⟩, binF_pl _ _ _ _ _ _ hG.ok hx hy ho hr, bn_of hG.ok hx.inn hy.inn ho hr List.prefix_rfl, by omega, by omega, fun S C hS hC => ?_⟩
  obtain ⟨k1, k2⟩ := binF_ok (S := S) (C := C) (fun L hok x => val_i64 hS hC (okN_i64 hok) x) _ _ _ _ _ _ hG.ok hx.inn hy.inn ho hr
  exact (k1.val k2).2
end Go.Proofs.YtpdeoalocejodaaGreatDoor
/- Terms made plain, all that a term uses: plain law. -/
namespace Go.Proofs.YtpdeoalocejodaaGreatDoor
open Go Go.Am
set_option maxRecDepth 100000
set_option maxHeartbeats 1000000
structure OfI (L0 : List Nd) (W : Nat) (D : List Int) (pv : Int → Int) (L : List Nd) : Prop where
  pre : L0 <+: L
  gr : Gr L
  pl : ∀ i ∈ D, Pl L (pv i)
  dep : ∀ i ∈ D, wt L (pv i) ≤ 2 * wt L0 i
  id : ∀ i ∈ D, Pl L0 i → pv i = i
  val : ∀ i ∈ D, ∀ S C, (∀ x ∈ S, i64 x) → (∀ c ∈ C, i64 c.n) → Go.Proofs.YtpdeoalocejodaaGreatDoor.val S C L (pv i) = Go.Proofs.YtpdeoalocejodaaGreatDoor.val S C L0 i
  len : L.length ≤ L0.length + D.length * (16 * W + 8)
  same : (∀ i ∈ D, Pl L0 i) → L = L0
def upd (pv : Int → Int) (i j : Int) : Int → Int := fun x => if x = i then j else pv x
theorem upd_self (pv : Int → Int) (i j : Int) : upd pv i j i = j := by simp [upd]
theorem upd_ne (pv : Int → Int) {i j x : Int} (h : x ≠ i) : upd pv i j x = pv x := by simp [upd, h]
theorem OfI.step {L0 : List Nd} (h0 : okN L0) {W : Nat} {D : List Int} {pv : Int → Int} {L L' : List Nd} (h : OfI L0 W D pv L) {i j : Int} (hi : i ∉ D) (hD : ∀ x ∈ D, inG L0 x) (hp : L <+: L') (hG : Gr L') (hpl : Pl L' j) (hd : wt L' j ≤ 2 * wt L0 i)
    (hid : Pl L0 i → (∀ x ∈ D, True) → j = i ∧ L' = L) (hv : ∀ S C, (∀ x ∈ S, i64 x) → (∀ c ∈ C, i64 c.n) → Go.Proofs.YtpdeoalocejodaaGreatDoor.val S C L' j = Go.Proofs.YtpdeoalocejodaaGreatDoor.val S C L0 i) (hl : L'.length ≤ L.length + (16 * W + 8)) :
    OfI L0 W (D ++ [i]) (upd pv i j) L' := by
  have ne : ∀ x ∈ D, x ≠ i := fun x hx e => hi (e ▸ hx)
  have mem : ∀ x, x ∈ D ++ [i] → x ∈ D ∨ x = i := fun x hx => by simpa using hx
  refine ⟨h.pre.trans hp, hG, fun x hx => ?_, fun x hx => ?_, fun x hx hxp => ?_, fun x hx S C hS hC => ?_, ?_, fun hs => ?_⟩
  · rcases mem x hx with hx | rfl
    · rw [upd_ne pv (ne x hx)]; exact (h.pl x hx).up h.gr.ok hp
    · rw [upd_self]; exact hpl
  · rcases mem x hx with hx | rfl
    · rw [upd_ne pv (ne x hx), wt_ext hp (h.pl x hx).inn]; exact h.dep x hx
    · rw [upd_self]; exact hd
  · rcases mem x hx with hx | rfl
    · rw [upd_ne pv (ne x hx)]; exact h.id x hx hxp
    · rw [upd_self]; exact (hid hxp fun _ _ => trivial).1
  · rcases mem x hx with hx | rfl
    · rw [upd_ne pv (ne x hx), val_ext hp (h.pl x hx).inn]; exact h.val x hx S C hS hC
    · rw [upd_self]; exact hv S C hS hC
  · have := h.len
    rw [List.length_append, List.length_singleton, Nat.add_mul]
    omega
  · have e1 := h.same fun x hx => hs x (by simp [hx])
    have e2 := (hid (hs i (by simp)) fun _ _ => trivial).2
    rw [e2, e1]
theorem OfI.leaf {L0 : List Nd} (h0 : okN L0) {W : Nat} {D : List Int} {pv : Int → Int} {L : List Nd} (h : OfI L0 W D pv L) {i : Int} (hi : i ∉ D) (hD : ∀ x ∈ D, inG L0 x) (hin : inG L0 i) (h3 : (nd L0 i).kind ≠ 3) (h4 : (nd L0 i).kind ≠ 4) :
    OfI L0 W (D ++ [i]) (upd pv i i) L := by
  obtain ⟨g1, g2⟩ := nd_ext h.pre hin
  exact h.step h0 hi hD List.prefix_rfl h.gr (.leaf g1 (by rw [g2]; exact h3) (by rw [g2]; exact h4)) (by rw [wt_ext h.pre hin]; omega) (fun _ _ => ⟨rfl, rfl⟩) (fun S C _ _ => val_ext h.pre hin) (by omega)
theorem wt_eq {L : List Nd} (hok : okN L) {x : Int} (hx : inG L x) : wt L x = if (nd L x).kind = 1 then 0 else if (nd L x).kind = 4 then 1 + max (wt L (nd L x).x) (wt L (nd L x).y) else 1 := by
  by_cases h4 : (nd L x).kind = 4
  · rw [if_neg (by omega), if_pos h4]
    exact wt_of (op := (nd L x).op) hok (by unfold ofI; rw [if_pos ⟨hx, h4, rfl⟩])
  · have := wt_at (nd_at hx)
    unfold wt
    rw [this, depF]
    simp only [h4, if_false]
theorem parts3 {L : List Nd} (hok : okN L) {i : Int} (hin : inG L i) (h3 : (nd L i).kind = 3) : inG L (nd L i).y ∧ (nd L i).y < i ∧ (nd L i).y ∈ pts L i := by
  have hpt : pts L i = [(nd L i).y] := by
    show (nd L i).parts = _
    simp [Nd.parts, h3]
  have hp := pts_lt hok.wf hin.1 hin.2
  rw [hpt] at hp
  have h1 := hp (nd L i).y (by simp)
  unfold inG at *
  exact ⟨by omega, h1.2, by rw [hpt]; simp⟩
theorem parts4 {L : List Nd} (hok : okN L) {i : Int} (hin : inG L i) (h4 : (nd L i).kind = 4) : inG L (nd L i).x ∧ inG L (nd L i).y ∧ (nd L i).x < i ∧ (nd L i).y < i ∧ (nd L i).x ∈ pts L i ∧ (nd L i).y ∈ pts L i := by
  have hpt : pts L i = [(nd L i).x, (nd L i).y] := by
    show (nd L i).parts = _
    simp [Nd.parts, h4]
  have hp := pts_lt hok.wf hin.1 hin.2
  rw [hpt] at hp
  have h1 := hp (nd L i).x (by simp)
  have h2 := hp (nd L i).y (by simp)
  unfold inG at *
  exact ⟨by omega, by omega, h1.2, h2.2, by rw [hpt]; simp, by rw [hpt]; simp⟩
theorem cell_made {L0 : List Nd} (h0 : okN L0) {W : Nat} {D : List Int} {pv : Int → Int} {L : List Nd} (h : OfI L0 W D pv L) {i : Int} (hi : i ∉ D) (hD : ∀ x ∈ D, inG L0 x) (hin : inG L0 i) (h3 : (nd L0 i).kind = 3) (hy : (nd L0 i).y ∈ D) :
    OfI L0 W (D ++ [i]) (upd pv i (addN L ⟨3, (nd L0 i).n, (nd L0 i).a, 0, 0, pv (nd L0 i).y⟩).1) (addN L ⟨3, (nd L0 i).n, (nd L0 i).a, 0, 0, pv (nd L0 i).y⟩).2 := by
  obtain ⟨g1, g2⟩ := nd_ext h.pre hin
  have hm := nd_may h0 hin
  have hpy := h.pl _ hy
  have hin' := hpy.inn
  have nodeq : nd L0 i = ⟨3, (nd L0 i).n, (nd L0 i).a, 0, 0, (nd L0 i).y⟩ := by
    revert hm h3
    generalize nd L0 i = d
    obtain ⟨k, n, a, o, x, y⟩ := d
    intro h3 hm
    replace h3 : k = 3 := h3
    subst h3
    simp [Nd.may] at hm
    simp [hm]
  have hmay : Nd.may ⟨3, (nd L0 i).n, (nd L0 i).a, 0, 0, pv (nd L0 i).y⟩ L.length = true := by
    have hm2 := hm
    rw [nodeq] at hm2
    simp [Nd.may] at hm2 ⊢
    unfold inG at hin'
    omega
  obtain ⟨h64, h64a, _⟩ := h0 _ _ (nd_at hin)
  obtain ⟨a1, a2⟩ := add_ok hmay
  have hp := addN_pre L ⟨3, (nd L0 i).n, (nd L0 i).a, 0, 0, pv (nd L0 i).y⟩
  have hG : Gr (addN L ⟨3, (nd L0 i).n, (nd L0 i).a, 0, 0, pv (nd L0 i).y⟩).2 := h.gr.add h64 h64a
  refine h.step h0 hi hD hp hG (.cell a1 (by rw [a2]) (by rw [a2]; exact hpy.up h.gr.ok hp)) ?_ (fun hpl _ => ?_) (fun S C hS hC => ?_) ?_
  · rw [wt_eq hG.ok a1, a2, wt_eq h0 hin, h3]; simp
  · have hply : Pl L0 (nd L0 i).y := by
      cases hpl with
      | leaf _ h _ => exact absurd h3 h
      | cell _ _ h => exact h
      | bin _ h => omega
    have e := add_here h.gr.one g1 (by rw [g2]; exact may_up hm (by unfold inG at g1; omega))
    rw [h.id _ hy hply, ← nodeq, ← g2, e]
    exact ⟨rfl, rfl⟩
  · rw [val_eq hG.ok.wf (fit_ok hG.ok) a1.1 a1.2, a2, val_eq h0.wf (fit_ok h0) hin.1 hin.2]
    unfold stepV
    simp only [h3]
    simp only [show ¬ ((3 : Int) = 1) by decide, show ¬ ((3 : Int) = 2) by decide, if_false, if_true]
    rw [val_ext hp hpy.inn, h.val _ hy S C hS hC]
  · have := len_add L ⟨3, (nd L0 i).n, (nd L0 i).a, 0, 0, pv (nd L0 i).y⟩
    omega
theorem bin_made {L0 : List Nd} (h0 : okN L0) {W : Nat} {D : List Int} {pv : Int → Int} {L : List Nd} (h : OfI L0 W D pv L) {i : Int} (hi : i ∉ D) (hD : ∀ x ∈ D, inG L0 x) (hin : inG L0 i) (h4 : (nd L0 i).kind = 4) (hx : (nd L0 i).x ∈ D) (hy : (nd L0 i).y ∈ D) (hW : wt L0 i ≤ W + 1) :
    ∃ r, (inG L (pv (nd L0 i).x) ∧ inG L (pv (nd L0 i).y) ∧ (1 ≤ (nd L0 i).op ∧ (nd L0 i).op ≤ 16)) ∧ binF (4 * W + 2) L (nd L0 i).op (pv (nd L0 i).x) (pv (nd L0 i).y) = some r ∧ r.2.length ≤ L.length + (16 * W + 8) ∧ OfI L0 W (D ++ [i]) (upd pv i r.1) r.2 := by
  obtain ⟨p1, p2, _⟩ := parts4 h0 hin h4
  have ho := op_in h0 hin h4
  have hpx := h.pl _ hx
  have hpy := h.pl _ hy
  have dx := h.dep _ hx
  have dy := h.dep _ hy
  have hwt := wt_eq h0 hin
  rw [if_neg (by omega), if_pos h4] at hwt
  obtain ⟨r, hr, q1, q2, q3, q4, q5, q6, q7⟩ := made_bin h.gr ho hpx hpy (W := max (wt L (pv (nd L0 i).x)) (wt L (pv (nd L0 i).y))) (by omega) (by omega)
  refine ⟨r, ⟨hpx.inn, hpy.inn, ho⟩, binF_mono (by omega) _ _ _ _ _ hr, by omega, ?_⟩
  refine h.step h0 hi hD q1 q2 q3 (by omega) (fun hpl _ => ?_) (fun S C hS hC => ?_) (by omega)
  · cases hpl with
    | leaf _ _ h => exact absurd h4 h
    | cell _ h _ => omega
    | bin _ _ a b c =>
      rw [h.id _ hx a, h.id _ hy b] at hr
      obtain ⟨g, hg⟩ := c.up h0 a.inn b.inn ho h.pre
      have k1 := binF_mono (Nat.le_max_left g (2 * max (wt L (nd L0 i).x) (wt L (nd L0 i).y) + 2)) _ _ _ _ _ hg
      have k2 := binF_mono (Nat.le_max_right g (2 * max (wt L (nd L0 i).x) (wt L (nd L0 i).y) + 2)) _ _ _ _ _ hr
      rw [k1] at k2
      cases k2
      exact ⟨rfl, rfl⟩
  · rw [q7 S C hS hC, h.val _ hx S C hS hC, h.val _ hy S C hS hC, val_eq h0.wf (fit_ok h0) hin.1 hin.2]
    unfold stepV
    simp only [h4]
    simp only [show ¬ ((4 : Int) = 1) by decide, show ¬ ((4 : Int) = 2) by decide, show ¬ ((4 : Int) = 3) by decide, if_false]
theorem OfI.plain {L0 : List Nd} (h0 : okN L0) {W : Nat} {D : List Int} {pv : Int → Int} {L : List Nd} (h : OfI L0 W D pv L) {i : Int} (hi : i ∉ D) (hD : ∀ x ∈ D, inG L0 x) (hp : Pl L0 i) : OfI L0 W (D ++ [i]) (upd pv i i) L :=
  h.step h0 hi hD List.prefix_rfl h.gr (hp.up h0 h.pre) (by rw [wt_ext h.pre hp.inn]; omega) (fun _ _ => ⟨rfl, rfl⟩) (fun S C _ _ => val_ext h.pre hp.inn) (by omega)
theorem bin_plain {L0 : List Nd} (h0 : okN L0) {W : Nat} {D : List Int} {pv : Int → Int} {L : List Nd} (h : OfI L0 W D pv L) {i : Int} (hin : inG L0 i) (h4 : (nd L0 i).kind = 4) (hx : (nd L0 i).x ∈ D) (hy : (nd L0 i).y ∈ D) (hp : Pl L0 i) :
    (inG L (pv (nd L0 i).x) ∧ inG L (pv (nd L0 i).y) ∧ (1 ≤ (nd L0 i).op ∧ (nd L0 i).op ≤ 16)) ∧ ∃ f, binF f L (nd L0 i).op (pv (nd L0 i).x) (pv (nd L0 i).y) = some (i, L) := by
  have ho := op_in h0 hin h4
  refine ⟨⟨(h.pl _ hx).inn, (h.pl _ hy).inn, ho⟩, ?_⟩
  cases hp with
  | leaf _ _ h => exact absurd h4 h
  | cell _ h _ => omega
  | bin _ _ a b c =>
    rw [h.id _ hx a, h.id _ hy b]
    exact c.up h0 a.inn b.inn ho h.pre
def Room (L : List Nd) (U : List Int) (W : Nat) : Prop := ((∀ x ∈ U, wt L x ≤ W + 1) ∧ L.length + U.length * (16 * W + 8) ≤ 1000000) ∨ ((∀ x ∈ U, Pl L x) ∧ L.length ≤ 1000000)
theorem OfI.start {L0 : List Nd} (hG : Gr L0) (W : Nat) : OfI L0 W [] (fun _ => 0) L0 :=
  ⟨List.prefix_rfl, hG, by simp, by simp, by simp, by simp, by simp, fun _ => rfl⟩
theorem Pl.uses {L : List Nd} (hok : okN L) {x : Int} (h : Pl L x) : ∀ y ∈ usesL L [x], Pl L y := by
  refine uses_pred (Q := fun y => Pl L y) (fun y h0 h1 hy p hp => ?_) h
  have hpt : pts L y = (nd L y).parts := rfl
  rw [hpt] at hp
  cases hy with
  | leaf _ a b => simp [Nd.parts, a, b] at hp
  | cell _ a b => simp [Nd.parts, a] at hp; rw [hp]; exact b
  | bin _ a b c => simp [Nd.parts, a] at hp; rcases hp with rfl | rfl <;> assumption
end Go.Proofs.YtpdeoalocejodaaGreatDoor
/- Terms made plain: how many terms a term uses; room. -/
namespace Go.Proofs.YtpdeoalocejodaaGreatDoor
open Go Go.Am
set_option maxRecDepth 100000
set_option maxHeartbeats 1000000
theorem uses_few {L : List Nd} (hok : okN L) {id : Int} (hin : inG L id) : (usesL L [id]).length ≤ id.toNat + 1 := by
  have h : okS (L.take (id.toNat + 1)) (usesL L [id]) := by
    refine ⟨uses_nodup, fun x hx => ?_⟩
    have h1 := uses_ok x hx
    have h2 := uses_le hok.wf x hx
    unfold inG at hin
    rw [List.length_take]
    omega
  have := okS_len h
  rw [List.length_take] at this
  omega
theorem gr_made (l : List Nd) (hl : ∀ d ∈ l, i64 d.n ∧ i64 d.a) : Gr (madeL l) := by
  have : ∀ (l : List Nd) (L : List Nd), Gr L → (∀ d ∈ l, i64 d.n ∧ i64 d.a) → Gr (l.foldl (fun L d => (addN L d).2) L) := by
    intro l
    induction l with
    | nil => intro L h _; exact h
    | cons d l ih =>
      intro L h hl
      exact ih _ (h.add (hl d (by simp)).1 (hl d (by simp)).2) fun e he => hl e (by simp [he])
  exact this l [] ⟨fun i d h => by simp at h, List.nodup_nil⟩ hl
theorem room_raw {L : List Nd} (hG : Gr L) {i W : Nat} (hi : i < L.length) (hW : i ≤ W) (hL : L.length + (i + 1) * (16 * W + 8) ≤ 1000000) : Room L (usesL L [(i : Int)]) W := by
  have hin : inG L (i : Int) := ⟨by omega, by omega⟩
  left
  refine ⟨fun x hx => ?_, ?_⟩
  · have h1 := uses_le hG.ok.wf x hx
    have h2 := uses_ok x hx
    have := wt_le hG.ok x
    omega
  · have h1 := uses_few hG.ok hin
    have h2 : (usesL L [(i : Int)]).length * (16 * W + 8) ≤ (i + 1) * (16 * W + 8) := Nat.mul_le_mul_right _ (by omega)
    omega
end Go.Proofs.YtpdeoalocejodaaGreatDoor
/- Terms made plain: of a term and itself; numbers that take all. -/
namespace Go.Proofs.YtpdeoalocejodaaGreatDoor
open Go Go.Am
set_option maxRecDepth 100000
set_option maxHeartbeats 1000000
section
variable {M : List Nd}
end
end Go.Proofs.YtpdeoalocejodaaGreatDoor
/- Terms made plain: two-valued terms; numbers put one by one. -/
namespace Go.Proofs.YtpdeoalocejodaaGreatDoor
open Go Go.Am
set_option maxRecDepth 100000
set_option maxHeartbeats 1000000
section
variable {M : List Nd}
end
theorem ec_up17 {L M : List Nd} {op x c i : Int} (hok : okN L) (hx : inG L x) (ho : 1 ≤ op ∧ op ≤ 16) (h : Ec L op x c i) (hM : L <+: M) : Ec M op x c i := by
  obtain ⟨z, hz, hb⟩ := h
  exact ⟨z, (numI_ext hM (in_num hz)).trans hz, hb.up hok hx (in_num hz) ho hM⟩
def Isn (op a c : Int) (L : List Nd) (j : Int) : Prop := ∀ M, L <+: M → Gr M → ∀ k, Ec M op a c k → k = j
theorem Isn.up {op a c j : Int} {L L' : List Nd} (h : Isn op a c L j) (hp : L <+: L') : Isn op a c L' j := fun M hM => h M (hp.trans hM)
theorem isn_keep {op a c : Int} {L : List Nd} (ho : 1 ≤ op ∧ op ≤ 16) (ha : inG L a) (hk : keepsW op = some c) : Isn op a c L a := fun M hM hG k h => keepE hG.ok hG.one ho (nd_ext hM ha).1 hk h
theorem made_ec {L : List Nd} (hG : Gr L) {op a c : Int} (ho : 1 ≤ op ∧ op ≤ 16) (ha : Pl L a) (hc : i64 c) : ∃ M k, L <+: M ∧ Gr M ∧ Ec M op a c k := by
  obtain ⟨h1, h2, h3, h4⟩ := numN_get L c
  have hG1 : Gr (numN L c).2 := hG.add hc (show i64 0 by unfold i64; omega)
  obtain ⟨r, hr, q1, q2, q3, q4, _⟩ := made_bin hG1 ho (ha.up hG.ok h3) (Pl.num h2) (W := max (wt (numN L c).2 a) (wt (numN L c).2 (numN L c).1)) (by omega) (by omega)
  exact ⟨r.2, r.1, h3.trans q1, q2, _, (numI_ext q1 h1).trans h2, q4⟩
theorem isn_step {op a c d j j' : Int} {L L' : List Nd} (hg : groupsW op = true) (hG : Gr L) (ha : Pl L a) (hp : L <+: L') (hG' : Gr L') (hc : i64 c) (hj : inG L j) (h : Isn op a c L j) (he : Ec L' op j d j') : Isn op a (doW op c d) L' j' := by
  intro M hM hGM k hk
  have hop := grp_ho hg
  have haM := ha.up hG.ok (hp.trans hM)
  obtain ⟨M2, i, m1, m2, m3⟩ := made_ec hGM hop haM hc
  have hi := h M2 ((hp.trans hM).trans m1) m2 i m3
  subst hi
  have hj' := (nd_ext hp hj).1
  exact (grouped m2.ok m2.one hg (a.toNat + 1) a c d i j' k (by omega) (haM.up hGM.ok m1) m3 (ec_up17 hG'.ok hj' hop he (hM.trans m1)) (ec_up17 hGM.ok haM.inn hop hk m1)).symm
theorem isn_eq {op a c j k : Int} {L : List Nd} (hG : Gr L) (ho : 1 ≤ op ∧ op ≤ 16) (ha : Pl L a) (hc : i64 c) (h : Isn op a c L j) (h' : Isn op a c L k) : j = k := by
  obtain ⟨M, i, m1, m2, m3⟩ := made_ec hG ho ha hc
  rw [← h M m1 m2 i m3, ← h' M m1 m2 i m3]
def pro (op : Int) (l : List Int) : Int := l.foldl (doW op) ((keepsW op).getD 0)
theorem pro_snoc (op : Int) (l : List Int) (x : Int) : pro op (l ++ [x]) = doW op (pro op l) x := by simp [pro, List.foldl_append]
theorem grp_keep {op : Int} (hg : groupsW op = true) : ∃ k, keepsW op = some k ∧ i64 k := by
  rcases grp_ops hg with rfl | rfl | rfl | rfl | rfl
  · exact ⟨0, rfl, by unfold i64; omega⟩
  · exact ⟨1, rfl, by unfold i64; omega⟩
  · exact ⟨-1, rfl, by unfold i64; omega⟩
  · exact ⟨0, rfl, by unfold i64; omega⟩
  · exact ⟨0, rfl, by unfold i64; omega⟩
theorem pro_i64 {op : Int} (hg : groupsW op = true) {l : List Int} (hl : ∀ x ∈ l, i64 x) : i64 (pro op l) := by
  obtain ⟨k, hk, hki⟩ := grp_keep hg
  unfold pro
  rw [hk]
  show i64 (l.foldl (doW op) k)
  revert k
  induction l with
  | nil => intro k _ hki; exact hki
  | cons x l ih =>
    intro k hk hki
    have : ∀ (l : List Int) (k : Int), (∀ x ∈ l, i64 x) → i64 k → i64 (l.foldl (doW op) k) := by
      intro l
      induction l with
      | nil => intro k _ h; exact h
      | cons y l ih2 => intro k hl h; exact ih2 _ (fun z hz => hl z (by simp [hz])) (do_i64 h (hl y (by simp)))
    exact this (x :: l) k hl hki
theorem pro_cons {op : Int} (hg : groupsW op = true) {x : Int} (hx : i64 x) (l : List Int) : pro op (x :: l) = l.foldl (doW op) x := by
  obtain ⟨k, hk, hki⟩ := grp_keep hg
  unfold pro
  rw [hk]
  show l.foldl (doW op) (doW op k x) = _
  rw [do_swap (grp_swap hg), do_keeps hx hk]
theorem fold_perm {op : Int} (hg : groupsW op = true) {l m : List Int} (h : l.Perm m) : ∀ c, l.foldl (doW op) c = m.foldl (doW op) c := by
  induction h with
  | nil => intro c; rfl
  | cons x _ ih => intro c; exact ih _
  | swap x y l =>
    intro c
    simp only [List.foldl_cons]
    rw [do_group hg, do_group hg, do_swap (grp_swap hg) (a := y)]
  | trans _ _ ih1 ih2 => intro c; rw [ih1, ih2]
def turned (l : List Int) (k : Nat) : List Int := (List.range l.length).map fun i => l.getD ((i + k) % l.length) 0
theorem turned_eq {l : List Int} {k : Nat} (hk : k ≤ l.length) : turned l k = l.drop k ++ l.take k := by
  apply List.ext_getElem?
  intro i
  unfold turned
  by_cases hi : i < l.length
  · rw [List.getElem?_map, List.getElem?_range hi]
    simp only [Option.map_some]
    by_cases h2 : i + k < l.length
    · rw [Nat.mod_eq_of_lt h2, List.getElem?_append_left (by simp; omega), List.getElem?_drop, List.getD_eq_getElem?_getD]
      rw [show k + i = i + k by omega, List.getElem?_eq_getElem h2]
      rfl
    · rw [Nat.mod_eq_sub_mod (by omega), Nat.mod_eq_of_lt (by omega), List.getElem?_append_right (by simp; omega), List.getElem?_take, List.getD_eq_getElem?_getD]
      simp only [List.length_drop]
      rw [if_pos (by omega), show i - (l.length - k) = i + k - l.length by omega, List.getElem?_eq_getElem (by omega)]
      rfl
  · rw [List.getElem?_eq_none (by simp; omega), List.getElem?_eq_none (by simp; omega)]
theorem pro_turned {op : Int} (hg : groupsW op = true) {l : List Int} {k : Nat} (hk : k ≤ l.length) : pro op (turned l k) = pro op l := by
  unfold pro
  refine fold_perm hg ?_ _
  rw [turned_eq hk]
  have := List.perm_append_comm (l₁ := l.drop k) (l₂ := l.take k)
  rw [List.take_append_drop] at this
  exact this
end Go.Proofs.YtpdeoalocejodaaGreatDoor
/- Terms made plain: contracts that tell what is known of what is made. -/
namespace Go.Proofs.YtpdeoalocejodaaGreatDoor
open Go Go.Am
set_option maxRecDepth 100000
set_option maxHeartbeats 2000000
variable {P : Program} {G : Nat → Option V}
abbrev PostG (fmt : Int → List UInt8) (v0 v1 : Nat) (ex : List (Option Ob)) (t : Nat) (Q : Int → List Nd → Prop) : V → H → Prop := fun v σ => ∃ i L', Q i L' ∧ v = .int .i64 i ∧ ∃ t' w2 w3 w4, t ≤ t' ∧ σ = ⟨t', kG fmt v0 v1 w2 w3 w4 L' ++ ex⟩
structure StepB (L : List Nd) (op x y : Int) (W : Nat) (i : Int) (L' : List Nd) : Prop where
  pre : L <+: L'
  gr : Gr L'
  pl : Pl L' i
  bn : Bn L' op x y i
  dep : wt L' i ≤ W + 2
  len : L'.length ≤ L.length + (8 * W + 8)
structure StepN (L : List Nd) (c : Int) (i : Int) (L' : List Nd) : Prop where
  pre : L <+: L'
  gr : Gr L'
  num : numI L' i = some c
  len : L'.length ≤ L.length + 1
theorem StepN.pl {L L' : List Nd} {c i : Int} (h : StepN L c i L') : Pl L' i := Pl.num h.num
theorem stepN (L : List Nd) (hG : Gr L) {c : Int} (hc : i64 c) : StepN L c (numN L c).1 (numN L c).2 := by
  obtain ⟨h1, h2, h3, h4⟩ := numN_get L c
  exact ⟨h3, hG.add hc (show i64 0 by unfold i64; omega), h2, len_num L c⟩
theorem k_lnumE (hT : TabOk P tab) (F : Fmt P G) {v0 v1 v2 v3 v4 t : Nat} {L : List Nd} {ex : List (Option Ob)} {n : Int} (hG : Gr L) (hn : i64 n) (hL : L.length ≤ 1000000) :
    C P G 0 n_proofmarklaw04_num [.ptr 1 v0 0, .int .i64 n] ⟨t, kG F.fmt v0 v1 v2 v3 v4 L ++ ex⟩ (PostG F.fmt v0 v1 ex t (StepN L n)) :=
  (k_lnum hT F hn hL).conseq fun v σ hv => by
    obtain ⟨rfl, t', w2, w3, w4, ht, rfl⟩ := hv
    exact ⟨_, _, stepN L hG hn, rfl, t', w2, w3, w4, ht, rfl⟩
theorem k_BinE (hT : TabOk P tab) (F : Fmt P G) (hP : Bits P G) (W : Nat) {v0 v1 v2 v3 v4 t : Nat} {L : List Nd} {ex : List (Option Ob)} {op x y : Int} (hG : Gr L) (ho : 1 ≤ op ∧ op ≤ 16) (hx : Pl L x) (hy : Pl L y) (wx : wt L x ≤ W) (wy : wt L y ≤ W) (hL : L.length + (8 * W + 8) ≤ 1000000) :
    C P G 0 n_norm_Bin [.ptr 1 v0 0, .int .u8 op, .int .i64 x, .int .i64 y] ⟨t, kG F.fmt v0 v1 v2 v3 v4 L ++ ex⟩ (PostG F.fmt v0 v1 ex t (StepB L op x y W)) := by
  obtain ⟨r, hr, h1, h2, h3, h4, h5, h6, _⟩ := made_bin hG ho hx hy wx wy
  refine (k_Bin hT F hP (2 * W + 2) hG.ok (by omega) (r := r) (by omega) (by rw [binN, if_pos ⟨hx.inn, hy.inn, ho⟩]; exact hr)).conseq fun v σ hv => ?_
  obtain ⟨rfl, t', w2, w3, w4, ht, rfl⟩ := hv
  exact ⟨_, _, ⟨h1, h2, h3, h4, h5, h6⟩, rfl, t', w2, w3, w4, ht, rfl⟩
structure StepT (L : List Nd) (x : Int) (W : Nat) (i : Int) (L' : List Nd) : Prop where
  pre : L <+: L'
  gr : Gr L'
  pl : Pl L' i
  ec : Ec L' 16 x 0 i
  dep : wt L' i ≤ W + 2
  len : L'.length ≤ L.length + (8 * W + 9)
end Go.Proofs.YtpdeoalocejodaaGreatDoor
/- Terms made plain: Of. -/
namespace Go.Proofs.YtpdeoalocejodaaGreatDoor
open Go Go.Am
set_option maxRecDepth 100000
set_option maxHeartbeats 2000000
variable {P : Program} {G : Nat → Option V}
section
variable {fmt : Int → List UInt8} {v0 v1 v2 v3 v4 : Nat} {L : List Nd} {ex zs : List (Option Ob)} {y z w u : Option Ob}
theorem kx_at2 : (kG fmt v0 v1 v2 v3 v4 L ++ (ex ++ y :: z :: w :: zs))[5 + (ex.length + 2)]? = some w := by
  rw [List.getElem?_append_right (by rw [kG_len0]; omega), kG_len0, List.getElem?_append_right (by omega)]
  simp
theorem kx_set2 : (kG fmt v0 v1 v2 v3 v4 L ++ (ex ++ y :: z :: w :: zs)).set (5 + (ex.length + 2)) u = kG fmt v0 v1 v2 v3 v4 L ++ (ex ++ y :: z :: u :: zs) := by
  rw [List.set_append_right _ _ (by rw [kG_len0]; omega), kG_len0, List.set_append_right _ _ (by omega)]
  simp
end
abbrev pm (pv : Int → Int) (S : List Int) : List (V × V) := im .i64 (fun x => .int .i64 (pv x)) S
theorem pm_put {pv : Int → Int} {S : List Int} {x j : Int} (h : x ∉ S) : mput [.i] (.int .i64 x) (.int .i64 j) (pm pv S) = pm (upd pv x j) (S ++ [x]) := by
  have e : pm pv S = pm (upd pv x j) S := by
    unfold pm im
    refine List.map_congr_left fun y hy => ?_
    show (V.int .i64 y, V.int .i64 (pv y)) = (V.int .i64 y, V.int .i64 (upd pv x j y))
    rw [upd_ne pv (fun e => h (by rw [← e]; exact hy))]
  rw [e]
  exact mput_im .i64 _ x _ (by simp [upd]) S h
theorem pm_get {pv : Int → Int} {S : List Int} {x : Int} (h : x ∈ S) : (mget [.i] (.int .i64 x) (pm pv S)).getD (.int .i64 0) = .int .i64 (pv x) := by
  rw [mget_im, if_pos h]; rfl
structure StepO (L : List Nd) (id : Int) (Wd : Nat) (i : Int) (L' : List Nd) : Prop where
  inn : inG L id → ∃ pv, OfI L Wd (usesL L [id]) pv L' ∧ i = pv id
  out : ¬ inG L id → i = -1 ∧ L' = L
abbrev ofJ (fmt : Int → List UInt8) (v0 v1 t0 mv : Nat) (b5 : Option Ob) (L : List Nd) (ex : List (Option Ob)) (U : List Int) (id : Int) (Wd : Nat) : Nat → Fr → H → Prop := fun i fr σ => ∃ t w2 w3 w4 pv L', OfI L Wd (U.take i) pv L' ∧ t0 ≤ t ∧ fget fr 0 = .ptr 1 v0 0 ∧ fget fr 1 = .int .i64 id ∧ fget fr 7 = .mp (5 + (ex.length + 1)) mv ∧ fget fr 24 = .lst 1 (U.map (V.int .i64)) false ∧ fget fr 25 = .int .i64 U.length ∧ fget fr 26 = .int .i64 ((i : Nat) : Int) ∧ σ = ⟨t, kG fmt v0 v1 w2 w3 w4 L' ++ (ex ++ [b5, some (.map mv (pm pv (U.take i)))])⟩
abbrev ofE (fmt : Int → List UInt8) (v0 v1 t0 mv : Nat) (b5 : Option Ob) (L : List Nd) (ex : List (Option Ob)) (U : List Int) (id : Int) (Wd : Nat) : AE → Fr → H → Prop := fun e fr σ => e = .ex 0 ∧ ∃ t w2 w3 w4 pv L', OfI L Wd U pv L' ∧ t0 ≤ t ∧ fget fr 1 = .int .i64 id ∧ fget fr 7 = .mp (5 + (ex.length + 1)) mv ∧ σ = ⟨t, kG fmt v0 v1 w2 w3 w4 L' ++ (ex ++ [b5, some (.map mv (pm pv U))])⟩
theorem of_round (hT : TabOk P tab) (F : Fmt P G) (hP : Bits P G) {v0 v1 t0 mv : Nat} {b5 : Option Ob} {L : List Nd} {ex : List (Option Ob)} {id : Int} {Wd : Nat} (hG : Gr L) (hB : Room L (usesL L [id]) Wd) (hUl : (usesL L [id]).length ≤ 1000000)
    (i : Nat) (x : Int) (hx : (usesL L [id])[i]? = some x) (fr : Fr) (σ : H) (hJ : ofJ F.fmt v0 v1 t0 mv b5 L ex (usesL L [id]) id Wd i fr σ) :
    W P G 75 0 (AC.seq (AC.reg zqw_6 [])   (AC.seq (AC.cond (Arg.t 27)   AC.skip   (AC.exit 0))   (AC.seq (AC.block 1 (AC.seq (AC.reg zqw_7 [28, 29])   (AC.seq (AC.reg zqw_8 [31, 32, 33, 30, 34, 35, 11])   (AC.seq (AC.reg zqw_9 [36])   (AC.block 2 (AC.seq (AC.reg zqw_10 [42])   (AC.cond (Arg.t 41)   (AC.reg zqw_11 [43, 44, 45, 46, 47, 48, 49, 50, 51, 52, 53, 54])   (AC.seq (AC.reg zqw_12 [56])   (AC.cond (Arg.t 55)   (AC.reg zqw_13 [57, 58, 59, 60, 61, 62, 63, 64, 65, 66, 67, 68, 69, 70])   (AC.reg zqw_14 [38, 39, 40]))))))))))   (AC.reg zqw_15 [71])))) fr σ (seqQ (fun fr σ => ∃ fr' σ', Shift G 75 0 fr σ fr' σ' ∧ ofJ F.fmt v0 v1 t0 mv b5 L ex (usesL L [id]) id Wd (i + 1) fr' σ') (ofE F.fmt v0 v1 t0 mv b5 L ex (usesL L [id]) id Wd)) := by
  obtain ⟨t, w2, w3, w4, pv, L', hI, ht, f0, f1, f7, f24, f25, f26, rfl⟩ := hJ
  have hlt := (List.getElem?_eq_some_iff.1 hx).1
  have hxU := List.mem_of_getElem? hx
  have hs := uses_sorted (L := L) (roots := [id])
  have hni := not_ahead hs hx
  have hUo := uses_ok (L := L) (roots := [id])
  have hD : ∀ y ∈ (usesL L [id]).take i, inG L y := fun y hy => hUo y (List.mem_of_mem_take hy)
  have hin : inG L x := hUo x hxU
  have hcl := fun p hp => uses_closed hG.ok.wf (id := id) hxU (p := p) hp
  have hg : ((usesL L [id]).map (V.int .i64)).getD i .any = V.int .i64 x := by simp [List.getD_eq_getElem?_getD, hx]
  have e2 := w_nx hlt (by omega)
  have htk : (usesL L [id]).take (i + 1) = (usesL L [id]).take i ++ [x] := take_snoc2 hx
  have hlen : L'.length ≤ 1000000 ∧ ((wt L x ≤ Wd + 1 ∧ L'.length + (16 * Wd + 8) ≤ 1000000) ∨ Pl L x) := by
    rcases hB with ⟨hW, hL⟩ | ⟨hP, hL⟩
    · have h1 := hI.len
      have h2 : ((usesL L [id]).take i).length = i := by rw [List.length_take]; omega
      rw [h2] at h1
      have h3 : (i + 1) * (16 * Wd + 8) ≤ (usesL L [id]).length * (16 * Wd + 8) := Nat.mul_le_mul_right _ hlt
      rw [Nat.add_mul] at h3
      exact ⟨by omega, .inl ⟨hW x hxU, by omega⟩⟩
    · rw [hI.same fun y hy => hP y (List.mem_of_mem_take hy)]
      exact ⟨hL, .inr (hP x hxU)⟩
  obtain ⟨g1, g2⟩ := nd_ext hI.pre hin
  have hgx : 0 ≤ x ∧ x < (L'.length : Int) := g1
  have e : L'.getD x.toNat zeroNd = nd L x := g2
  obtain ⟨hn64, ha64, _⟩ := hG.ok _ _ (nd_at hin)
  have fin : ∀ {L2 : List Nd} {j : Int} {nb : Option Ob} {t2 u2 u3 u4 : Nat} {fr2 : Fr}, OfI L Wd ((usesL L [id]).take i ++ [x]) (upd pv x j) L2 → t0 ≤ t2 → fget fr2 0 = .ptr 1 v0 0 → fget fr2 1 = .int .i64 id → fget fr2 7 = .mp (5 + (ex.length + 1)) mv → fget fr2 24 = .lst 1 ((usesL L [id]).map (V.int .i64)) false → fget fr2 25 = .int .i64 (usesL L [id]).length → fget fr2 26 = .int .i64 ((i + 1 : Nat) : Int) →
      ∃ fr' σ', Shift G 75 0 fr2 ⟨t2, kG F.fmt v0 v1 u2 u3 u4 L2 ++ (ex ++ [b5, some (.map mv (pm (upd pv x j) ((usesL L [id]).take i ++ [x]))), nb])⟩ fr' σ' ∧ ofJ F.fmt v0 v1 t0 mv b5 L ex (usesL L [id]) id Wd (i + 1) fr' σ' := by
    intro L2 j nb t2 u2 u3 u4 fr2 h1 h2 k0 k1 k7 k24 k25 k26
    refine ⟨_, _, Shift.drop (o' := kG F.fmt v0 v1 u2 u3 u4 L2 ++ (ex ++ [b5, some (.map mv (pm (upd pv x j) ((usesL L [id]).take i ++ [x])))])) (t' := t2) ?_ (Nat.le_refl _) ?_, t2, u2, u3, u4, upd pv x j, L2, by rw [htk]; exact h1, h2, k0, k1, k7, k24, k25, k26, by rw [htk]⟩
    · have := subObs_take (5 + ex.length + 2) (kG F.fmt v0 v1 u2 u3 u4 L2 ++ (ex ++ [b5, some (.map mv (pm (upd pv x j) ((usesL L [id]).take i ++ [x]))), nb]))
      have e : (kG F.fmt v0 v1 u2 u3 u4 L2 ++ (ex ++ [b5, some (.map mv (pm (upd pv x j) ((usesL L [id]).take i ++ [x]))), nb])).take (5 + ex.length + 2) = kG F.fmt v0 v1 u2 u3 u4 L2 ++ (ex ++ [b5, some (.map mv (pm (upd pv x j) ((usesL L [id]).take i ++ [x])))]) := by
        rw [show kG F.fmt v0 v1 u2 u3 u4 L2 ++ (ex ++ [b5, some (.map mv (pm (upd pv x j) ((usesL L [id]).take i ++ [x]))), nb]) = (kG F.fmt v0 v1 u2 u3 u4 L2 ++ (ex ++ [b5, some (.map mv (pm (upd pv x j) ((usesL L [id]).take i ++ [x])))])) ++ [nb] by simp]
        rw [List.take_left' (by simp [kG]; omega)]
      rw [e] at this
      exact this
    · exact Nat.zero_le _
  have hleaf := fun h3 h4 => hI.leaf hG.ok hni hD hin h3 h4
  have hcell := fun h3 => cell_made hG.ok hI hni hD hin h3 (ahead_of hs hx (hcl _ (parts3 hG.ok hin h3).2.2) (parts3 hG.ok hin h3).2.1)
  have hcy := fun h3 => pm_get (pv := pv) (ahead_of hs hx (hcl _ (parts3 hG.ok hin h3).2.2) (parts3 hG.ok hin h3).2.1)
  have hbin : (nd L x).kind = 4 → ∃ f r, (inG L' (pv (nd L x).x) ∧ inG L' (pv (nd L x).y) ∧ (1 ≤ (nd L x).op ∧ (nd L x).op ≤ 16)) ∧ binF f L' (nd L x).op (pv (nd L x).x) (pv (nd L x).y) = some r ∧ r.2.length ≤ 1000000 ∧ OfI L Wd ((usesL L [id]).take i ++ [x]) (upd pv x r.1) r.2 := by
    intro h4
    have m1 := ahead_of hs hx (hcl _ (parts4 hG.ok hin h4).2.2.2.2.1) (parts4 hG.ok hin h4).2.2.1
    have m2 := ahead_of hs hx (hcl _ (parts4 hG.ok hin h4).2.2.2.2.2) (parts4 hG.ok hin h4).2.2.2.1
    rcases hlen.2 with ⟨hw, hl⟩ | hp
    · obtain ⟨r, q1, q2, q3, q4⟩ := bin_made hG.ok hI hni hD hin h4 m1 m2 hw
      exact ⟨_, r, q1, q2, by omega, q4⟩
    · obtain ⟨q1, f, q2⟩ := bin_plain hG.ok hI hin h4 m1 m2 hp
      exact ⟨f, (x, L'), q1, q2, hlen.1, hI.plain hG.ok hni hD hp⟩
  have hbx := fun h4 => pm_get (pv := pv) (ahead_of hs hx (hcl _ (parts4 hG.ok hin h4).2.2.2.2.1) (parts4 hG.ok hin h4).2.2.1)
  have hby := fun h4 => pm_get (pv := pv) (ahead_of hs hx (hcl _ (parts4 hG.ok hin h4).2.2.2.2.2) (parts4 hG.ok hin h4).2.2.2.1)
  have hput := fun j => pm_put (pv := pv) (j := j) hni
  have hok' := hI.gr.ok
  generalize nd L x = d at *
  replace hlen := hlen.1
  clear hcl hD hni hs hUo htk hB
  generalize usesL L [id] = U at *
  refine W_round [(0, .ptr 1 v0 0), (1, .int .i64 id), (7, .mp (5 + (ex.length + 1)) mv), (24, .lst 1 (U.map (V.int .i64)) false), (25, .int .i64 U.length), (26, .int .i64 ((i : Nat) : Int))] ⟨f0, f1, f7, f24, f25, f26, trivial⟩  1000 ?_
  simp -implicitDefEqProofs (disch := omega) only [go_sem, need_of, ↓reduceIte, reduceCtorEq, Nat.reduceEqDiff, Nat.zero_add, decide_true, Nat.le_refl, zqw_6, zqw_7, zqw_8, zqw_9, zqw_10, zqw_11, zqw_12, zqw_13, zqw_14, zqw_15, List.length_map, List.length_cons, List.length_nil, true_implies, and_true, hlt, hg]
  refine call hT t_term_Graph_Node (k_Node hT) 1000 fun v σ hv => ?_
  obtain ⟨rfl, t1, ht1, rfl⟩ := hv
  rw [if_pos hgx, e]
  by_cases h3 : d.kind = 3
  · have hy := hcy h3
    have hst := hcell h3
    have hky := keysOk_im .i64 (fun x => .int .i64 (pv x)) (U.take i) d.y
    simp -implicitDefEqProofs (disch := omega) only [go_sem, ↓reduceIte, reduceCtorEq, Nat.reduceAdd, Nat.reduceEqDiff, Nat.reduceLeDiff, Nat.reduceLT, Nat.zero_add, Nat.add_zero, Bool.not_false, Nat.le_refl, Nat.zero_le, beq_self_eq_true, kG_len0, kx_at1, kx_at2, kx_set2, List.length_append, List.length_cons, List.length_nil, List.append_assoc, List.cons_append, List.nil_append, List.take_zero, true_implies, and_true, Nd.cells, h3, hy, hky]
    refine call hT t_norm_Cell (k_CellN hT F ha64 hn64 (by omega)) 1000 fun v σ hv => ?_
    obtain ⟨rfl, t2, u2, u3, u4, ht2, rfl⟩ := hv
    have hp := hput (cellN L' d.a d.n (pv d.y)).1
    have hkx := keysOk_im .i64 (fun x => .int .i64 (pv x)) (U.take i) x
    simp -implicitDefEqProofs (disch := omega) only [go_sem, ↓reduceIte, reduceCtorEq, Nat.reduceEqDiff, Bool.not_false, Nat.zero_le, kx_at1, kx_set1, and_true, hp, hkx, e2]
    refine fin hst (by omega) ?_ ?_ ?_ ?_ ?_ ?_ <;> simp -implicitDefEqProofs (disch := omega) only [go_sem, ↓reduceIte, reduceCtorEq, Nat.reduceEqDiff]
  · by_cases h4 : d.kind = 4
    · have hx' := hbx h4
      have hy := hby h4
      obtain ⟨f, r, hin3, hr, hrl, hst⟩ := hbin h4
      have hkxx := keysOk_im .i64 (fun x => .int .i64 (pv x)) (U.take i) d.x
      have hky := keysOk_im .i64 (fun x => .int .i64 (pv x)) (U.take i) d.y
      simp -implicitDefEqProofs (disch := omega) only [go_sem, ↓reduceIte, reduceCtorEq, Nat.reduceAdd, Nat.reduceEqDiff, Nat.reduceLeDiff, Nat.reduceLT, Int.reduceEq, Nat.zero_add, Nat.add_zero, Bool.not_false, Nat.le_refl, Nat.zero_le, beq_self_eq_true, kG_len0, kx_at1, kx_at2, kx_set2, List.length_append, List.length_cons, List.length_nil, List.append_assoc, List.cons_append, List.nil_append, List.take_zero, false_implies, true_implies, true_and, and_true, not_false_eq_true, Nd.cells, h4, hx', hy, hkxx, hky]
      refine call hT t_norm_Bin (k_Bin hT F hP f hok' (by omega) (r := r) (by omega) (by rw [binN, if_pos hin3]; exact hr)) 1000 fun v σ hv => ?_
      obtain ⟨rfl, t2, u2, u3, u4, ht2, rfl⟩ := hv
      have hp := hput r.1
      have hkx := keysOk_im .i64 (fun x => .int .i64 (pv x)) (U.take i) x
      simp -implicitDefEqProofs (disch := omega) only [go_sem, ↓reduceIte, reduceCtorEq, Nat.reduceEqDiff, Bool.not_false, Nat.zero_le, kx_at1, kx_set1, and_true, hp, hkx, e2]
      refine fin hst (by omega) ?_ ?_ ?_ ?_ ?_ ?_ <;> simp -implicitDefEqProofs (disch := omega) only [go_sem, ↓reduceIte, reduceCtorEq, Nat.reduceEqDiff]
    · have hst := hleaf h3 h4
      have hp := hput x
      have hkx := keysOk_im .i64 (fun x => .int .i64 (pv x)) (U.take i) x
      simp -implicitDefEqProofs (disch := omega) only [go_sem, ↓reduceIte, reduceCtorEq, Nat.reduceAdd, Nat.reduceEqDiff, Nat.reduceLeDiff, Nat.reduceLT, Nat.zero_add, Nat.add_zero, Bool.not_false, Nat.le_refl, Nat.zero_le, kG_len0, kx_at1, kx_at2, kx_set1, kx_set2, List.length_append, List.length_cons, List.length_nil, List.append_assoc, List.cons_append, List.nil_append, List.take_zero, false_implies, true_implies, true_and, and_true, not_false_eq_true, Nd.cells, h3, h4, hp, hkx, e2]
      refine fin hst (by omega) ?_ ?_ ?_ ?_ ?_ ?_ <;> simp -implicitDefEqProofs (disch := omega) only [go_sem, ↓reduceIte, reduceCtorEq, Nat.reduceEqDiff]
end Go.Proofs.YtpdeoalocejodaaGreatDoor
/- Terms made plain: Of, as a whole. -/
namespace Go.Proofs.YtpdeoalocejodaaGreatDoor
open Go Go.Am
set_option maxRecDepth 100000
set_option maxHeartbeats 2000000
variable {P : Program} {G : Nat → Option V}
theorem uses_len (L : List Nd) (id : Int) : (usesL L [id]).length ≤ L.length := by
  have := okS_len (okS_walks L [id] [] ⟨List.nodup_nil, by simp⟩)
  simpa [usesL] using this
theorem k_OfE (hT : TabOk P tab) (F : Fmt P G) (SO : SortOk P) (hP : Bits P G) (Wd : Nat) {v0 v1 v2 v3 v4 t : Nat} {L : List Nd} {ex : List (Option Ob)} {id : Int} (hG : Gr L) (hB : Room L (usesL L [id]) Wd) :
    C P G 0 n_norm_Of [.ptr 1 v0 0, .int .i64 id] ⟨t, kG F.fmt v0 v1 v2 v3 v4 L ++ ex⟩ (PostG F.fmt v0 v1 ex t (StepO L id Wd)) := by
  refine C_keep (5 + ex.length) (Nat.zero_le _) (C_tab hT t_norm_Of (by simp [norm_Of]) (W_run 1000 ?_))
  simp -implicitDefEqProofs (disch := omega) only [go_sem, ↓reduceIte, reduceCtorEq, Nat.reduceEqDiff, Nat.zero_add, norm_Of, zqw_0, zqw_1, zqw_2, zqw_3, zqw_4, zqw_5, zqw_6, zqw_7, zqw_8, zqw_9, zqw_10, zqw_11, zqw_12, zqw_13, zqw_14, zqw_15, zqw_16]
  refine call hT t_term_Graph_Node (k_Node hT) 1000 fun v σ hv => ?_
  obtain ⟨rfl, t1, ht1, rfl⟩ := hv
  have hl := uses_len L id
  have hL : L.length ≤ 1000000 := by
    rcases hB with ⟨_, h⟩ | ⟨_, h⟩ <;> omega
  by_cases hx : inG L id
  · have hx' : 0 ≤ id ∧ id < L.length := hx
    rw [if_pos hx']
    generalize L.getD id.toNat zeroNd = d
    simp -implicitDefEqProofs (disch := omega) only [go_sem, ↓reduceIte, reduceCtorEq, Nat.reduceAdd, Nat.reduceEqDiff, Nat.reduceLT, Nat.zero_add, Bool.not_true, Bool.not_false, Nat.le_refl, Nat.zero_le, kG_len0, kx_at, kx_set, List.length_append, List.length_cons, List.length_nil, List.append_assoc, List.cons_append, List.nil_append, List.take_zero, and_true, Nd.cells]
    refine call hT t_term_Graph_Uses (k_Uses hT SO (by omega) hG.ok.wf [id] 1 true (.inl rfl) (by simp)) 1000 fun v σ hv => ?_
    obtain ⟨rfl, t2, ht2, rfl⟩ := hv
    have hself := uses_self hG.ok.wf hx'.1 hx'.2
    simp -implicitDefEqProofs (disch := omega) only [go_sem, ↓reduceIte, reduceCtorEq, Nat.reduceEqDiff, List.length_map]
    refine sem_for (usesL L [id]) (ofJ F.fmt v0 v1 t1 (t1 + 1) (some (.arr t1 57 d.cells)) L ex (usesL L [id]) id Wd) (ofE F.fmt v0 v1 t1 (t1 + 1) (some (.arr t1 57 d.cells)) L ex (usesL L [id]) id Wd) ?_ (fun i x hx fr σ hJ => of_round hT F hP hG hB (by omega) i x hx fr σ hJ) (fun i hi fr σ hJ => ?_) (fun e fr σ hE => ?_)
    · refine ⟨t2, v2, v3, v4, fun _ => 0, L, OfI.start hG Wd, by omega, ?_⟩
      simp -implicitDefEqProofs (disch := omega) only [go_sem, ↓reduceIte, reduceCtorEq, Nat.reduceEqDiff]
      exact ⟨rfl, rfl⟩
    · obtain ⟨t', w2, w3, w4, pv, L', hI, ht, f0, f1, f7, f24, f25, f26, rfl⟩ := hJ
      rw [hi, List.take_length] at hI ⊢
      rw [hi] at f26
      clear hi
      generalize usesL L [id] = U at *
      generalize hi : U.length = i at *
      refine W_round [(0, .ptr 1 v0 0), (1, .int .i64 id), (7, .mp (5 + (ex.length + 1)) (t1 + 1)), (24, .lst 1 (U.map (V.int .i64)) false), (25, .int .i64 ((i : Nat) : Int)), (26, .int .i64 ((i : Nat) : Int))] ⟨f0, f1, f7, f24, f25, f26, trivial⟩  1000 ?_
      simp -implicitDefEqProofs (disch := omega) only [go_sem, ↓reduceIte, reduceCtorEq, Nat.reduceEqDiff, decide_false, Nat.lt_irrefl]
      exact ⟨rfl, t', w2, w3, w4, pv, L', hI, ht, by simp -implicitDefEqProofs (disch := omega) only [go_sem, ↓reduceIte, reduceCtorEq], by simp -implicitDefEqProofs (disch := omega) only [go_sem, ↓reduceIte, reduceCtorEq, Nat.reduceEqDiff], rfl⟩
    · obtain ⟨rfl, t', w2, w3, w4, pv, L', hI, ht, f1, f7, rfl⟩ := hE
      have hget := pm_get (pv := pv) hself
      have hky := keysOk_im .i64 (fun x => .int .i64 (pv x)) (usesL L [id]) id
      refine run_sem 1000 ?_
      simp -implicitDefEqProofs (disch := omega) only [go_sem, ↓reduceIte, Nat.reduceAdd, Nat.reduceEqDiff, Nat.zero_add, kG_len0, kx_at1, kx_take, List.length_append, List.length_cons, List.length_nil, and_true, f1, f7, hget, hky]
      exact ⟨by omega, pv id, L', ⟨fun _ => ⟨pv, hI, rfl⟩, fun h => absurd hx h⟩, rfl, t', w2, w3, w4, by omega, rfl⟩
  · have hx' : ¬ (0 ≤ id ∧ id < L.length) := hx
    rw [if_neg hx']
    simp -implicitDefEqProofs (disch := omega) only [go_sem, ↓reduceIte, reduceCtorEq, Nat.reduceAdd, Nat.reduceEqDiff, Nat.reduceLT, Nat.zero_add, Bool.not_false, Nat.le_refl, Nat.zero_le, kG_len0, kx_at, kx_set, kx_take, List.length_append, List.length_cons, List.length_nil, List.append_assoc, List.cons_append, List.nil_append, List.take_zero, and_true, Nd.cells, zeroNd]
    exact ⟨by omega, -1, L, ⟨fun h => absurd h hx, fun _ => ⟨rfl, rfl⟩⟩, rfl, _, v2, v3, v4, by omega, rfl⟩
end Go.Proofs.YtpdeoalocejodaaGreatDoor
/- Small lemmas of the laws: what freezing does; the graph of nodes. -/
namespace Go.Proofs.YtpdeoalocejodaaGreatDoor
open Go Go.Am
set_option maxRecDepth 100000
theorem madeL_le (l : List Nd) : (madeL l).length ≤ l.length := by
  have hA := madeL_len l []
  have hAe : madeL l = l.foldl (fun L d => (addN L d).2) [] := rfl
  rw [← hAe] at hA
  simpa using hA
end Go.Proofs.YtpdeoalocejodaaGreatDoor
