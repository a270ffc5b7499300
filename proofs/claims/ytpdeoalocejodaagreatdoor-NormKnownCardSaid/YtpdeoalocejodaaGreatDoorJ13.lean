/- Terms made plain: what is made of plain terms is plain. -/
import Derived.Test.YtpdeoalocejodaaGreatDoorJ12
import Derived.Test.YtpdeoalocejodaaGreatDoorJ10
open Nat renaming reduceEqDiff → rq, reduceAdd → rA, reduceLeDiff → rL, reduceLT → rT, zero_add → zA, le_refl → lR, zero_le → zL, add_zero → aZ
open List renaming length_cons → lC, length_nil → lN, take_succ_cons → tSq, length_append → lA, nil_append → nA, cons_append → cA, append_assoc → aA, take_nil → tN, take_zero → tZ, length_map → lM
open Bool renaming not_false → nF, not_true → nT
namespace Go.Proofs.YtpdeoalocejodaaGreatDoor
open Go Go.Am
set_option maxRecDepth 100000
set_option maxHeartbeats 2000000
def PlB (bin : ZR) : Prop := ∀ L op x y r, okN L → Pl L x → Pl L y → (1 ≤ op ∧ op ≤ 16) → bin L op x y = some r → Pl r.2 r.1
section
variable {bin : ZR}
theorem Pl.numN (L : List Nd) (n : Int) : Pl (Go.Proofs.YtpdeoalocejodaaGreatDoor.numN L n).2 (Go.Proofs.YtpdeoalocejodaaGreatDoor.numN L n).1 := Pl.num (QZ L n).2.1
theorem ZY (hP : PlB bin) {L : List Nd} (hok : okN L) {op x n : Int} (hx : Pl L x) (ho : 1 ≤ op ∧ op ≤ 16) (hn : i64 n) {r : GR} (h : withN bin L op x n = some r) : Pl r.2 r.1 :=
 hP _ _ _ _ _ (Xs hok hn (show i64 0 by unfold i64; omega)) (hx.up hok (QZ L n).2.2.1) (Pl.numN L n) ho h
theorem Ql3 {L : List Nd} {q : Option GR} {k : List Nd → Option GR} {r : GR} (hn : ∀ s, q = some s → ZL L s) (hq : ∀ s, q = some s → s.1 ≠ -1 → Pl s.2 s.1) (hk : k L = some r → r.1 ≠ -1 → Pl r.2 r.1) (h : X2 q k = some r) : r.1 ≠ -1 → Pl r.2 r.1 := by
 unfold X2 at h
 cases q with
 | none => cases h
 | some s =>
   simp only [Option.bind_some] at h
   split at h
   ·cases h; exact hq _ rfl
   ·rename_i hne
    rcases hn s rfl with h1 | h1
    ·exact absurd h1 hne
    ·subst h1; exact hk h
theorem Qv8 (hK : Yy [] [] bin) (hP : PlB bin) {L : List Nd} (hok : okN L) {op x c : Int} (hx : Pl L x) (ho : 1 ≤ op ∧ op ≤ 16) (hc : i64 c) {r : GR} (h : QU bin L op x c = some r) : r.1 ≠ -1 → Pl r.2 r.1 := by
 have i0 : i64 0 := by unfold i64; omega
 have hxi := hx.inn
 unfold QU at h
 refine Ql3 (fun s hs => by cases hs; exact YY hxi) (fun s hs hne => ?_) (fun h => ?_) h
 ·cases hs
  unfold QT at hne ⊢
  split
  ·exact hx
  ·split
   ·exact Pl.numN _ _
   ·split
    ·exact Pl.numN _ _
    ·split
     ·exact Pl.numN _ _
     ·rename_i a b c d; rw [if_neg a, if_neg b, if_neg c, if_neg d] at hne; exact absurd rfl hne
 refine Ql3 (fun s hs => YW hK hok hxi hc hs) (fun s hs hne => ?_) (fun h => ?_) h
 ·unfold Xm at hs
  split at hs
  ·exact ZY hP hok hx (by omega) (Qq _) hs
  split at hs
  ·exact ZY hP hok hx (by omega) (Qq _) hs
  split at hs
  ·exact ZY hP hok hx (by omega) (by unfold i64; omega) hs
  split at hs
  ·rename_i k
   obtain ⟨q, hk'⟩ := Option.isSome_iff_exists.1 k.2
   have hk2 := (Yf hk').1
   exact ZY hP hok hx (by omega) (by rw [hk']; unfold i64; simp; omega) hs
  split at hs
  ·exact ZY hP hok hx (by omega) (Qq _) hs
  split at hs
  ·exact ZY hP hok hx (by omega) i0 hs
  ·cases hs; exact absurd rfl hne
 refine Ql3 (fun s hs => YV hK hok hc hs) (fun s hs hne => ?_) (fun h => ?_) h
 ·unfold Xv at hs
  split at hs
  ·cases hs; exact absurd rfl hne
  split at hs
  ·cases hs; exact hx
  split at hs
  ·cases hs; exact Pl.numN _ _
  split at hs
  ·cases hq : withN bin L 16 x 0 with
   | none => rw [hq] at hs; cases hs
   | some q =>
     rw [hq] at hs
     simp only [Option.bind_some] at hs
     have g1 := (QK hK hok hxi (by omega) i0 hq).1
     exact ZY hP g1.ok (ZY hP hok hx (by omega) i0 hq) (by omega) (Xz hc (by unfold i64; omega)) hs
  split at hs
  ·rename_i y d hta
   split at hs
   ·cases hs; exact (hx.tail hta).1
   ·cases hs; exact absurd rfl hne
  ·cases hs; exact absurd rfl hne
 refine Ql3 (fun s hs => YX hK hok ho hc hs) (fun s hs hne => ?_) (fun h hne => ?_) h
 ·unfold Xf at hs
  split at hs
  ·rename_i y d hta
   obtain ⟨t1, t2, t3, _⟩ := ZJ hok hta
   split at hs
   ·exact ZY hP hok (hx.tail hta).1 ho (Xz t3 hc) hs
   ·cases hs; exact absurd rfl hne
  ·cases hs; exact absurd rfl hne
 unfold Q6 at h
 split at h
 ·cases h; exact absurd rfl hne
 split at h
 ·rename_i y d hta
  exact ZY hP hok (hx.tail hta).1 (by omega) (Qq _) h
 split at h
 ·rename_i y d hta
  obtain ⟨t1, t2, t3, _⟩ := ZJ hok hta
  exact ZY hP hok (hx.tail hta).1 (by omega) (Xz hc t3) h
 split at h
 ·rename_i u v hof
  obtain ⟨a, b, _⟩ := hx.of hof
  split at h
  ·exact hP _ _ _ _ _ hok a b (by omega) h
  ·cases h; exact absurd rfl hne
 split at h
 ·rename_i u v hof
  obtain ⟨a, b, _⟩ := hx.of hof
  split at h
  ·exact hP _ _ _ _ _ hok a b (by omega) h
  ·cases h; exact absurd rfl hne
 ·cases h; exact absurd rfl hne
end
theorem QFT {f : Nat} (hP : PlB (XM f)) {L : List Nd} (hok : okN L) {op x y : Int} (hx : Pl L x) (hy : Pl L y) (ho : 1 ≤ op ∧ op ≤ 16) {r : GR} (h : XA (XM f) L op x y (QE L x) (QE L y) = some r) : r.1 ≠ -1 → Pl r.2 r.1 := by
 have hK := Zk f
 intro hne
 unfold XA at h
 split at h
 ·cases h
  unfold ZI at hne ⊢
  split
  ·exact Pl.numN _ _
  ·split
   ·exact Pl.numN _ _
   ·split
    ·exact hx
    ·rename_i a b c; rw [if_neg a, if_neg b, if_neg c] at hne; exact absurd rfl hne
 ·split at h
  ·rename_i b hq
   exact Qv8 hK hP hok hx ho (Xo (S := []) (C := []) hok hq).2 h hne
  ·split at h
   ·cases hr : XM f L 16 y x with
    | none => rw [hr] at h; cases h
    | some q =>
      rw [hr] at h
      simp only [Option.bind_some] at h
      have g1 := (hK _ _ _ _ _ hok hy.inn hx.inn (by omega) hr).1
      exact hP _ _ _ _ _ g1.ok (hP _ _ _ _ _ hok hy hx (by omega) hr) (hx.up hok g1.pre) (by omega) h
   ·cases h; exact absurd rfl hne
theorem Ql0 {f : Nat} (hP : PlB (XM f)) {L : List Nd} (hok : okN L) {op x y : Int} (hx : Pl L x) (hy : Pl L y) (ho : 1 ≤ op ∧ op ≤ 16) {r : GR} (h : Y4 (XM f) L op x y (QE L x) (QE L y) = some r) (hsw : ∀ M, L <+: M → XM (f + 1) M op x y = Y4 (XM f) M op x y (QE M x) (QE M y)) : Pl r.2 r.1 := by
 have h0 := h
 unfold Y4 X2 at h
 cases hs : XA (XM f) L op x y (QE L x) (QE L y) with
 | none => rw [hs] at h; cases h
 | some s =>
   rw [hs] at h
   simp only [Option.bind_some] at h
   split at h
   ·rename_i hne; cases h; exact QFT hP hok hx hy ho hs hne
   ·rename_i hne
    rcases QcW hok hx.inn hy.inn ho hs with h1 | h1
    ·exact absurd h1 hne
    ·subst h1
     cases h
     have hp := Qcu L ⟨4, 0, 0, op, x, y⟩
     obtain ⟨a1, a2⟩ := QhX (Qbq ho hx.inn hy.inn)
     refine .bin a1 (by rw [a2]) (by rw [a2]; exact hx.up hok hp) (by rw [a2]; exact hy.up hok hp) ?_
     rw [a2]
     refine ⟨f + 1, ?_⟩
     rw [hsw _ hp]
     exact QcR (Qbu f) hok hx.inn hy.inn ho h0 hp List.prefix_rfl
theorem Qxs : ∀ f, PlB (XM f)
 | 0 => fun L op x y r _ _ _ _ h => by cases h
 | f + 1 => fun L op x y r hok hx hy ho h => by
   have hP := Qxs f
   unfold XM QcB at h
   cases ha : QE L x with
   | some a =>
     cases hb : QE L y with
     | some b => rw [ha, hb] at h; cases h; exact Pl.numN _ _
     | none =>
       rw [ha, hb] at h
       simp only [Option.isSome_some, true_or, and_true] at h
       split at h
       ·rename_i h1
        refine Ql0 hP hok hy hx ho (by rw [ha, hb]; exact h) fun M hM => ?_
        rw [XM, QcB, Qg hM hx.inn, Qg hM hy.inn, ha, hb]
        simp
       ·rename_i h1
        refine Ql0 hP hok hx hy ho (by rw [ha, hb]; exact h) fun M hM => ?_
        rw [XM, QcB, Qg hM hx.inn, Qg hM hy.inn, ha, hb]
        simp [h1]
   | none =>
     rw [ha] at h
     simp only [Option.isSome_none, Bool.false_eq_true, false_or] at h
     split at h
     ·rename_i h1
      obtain ⟨h1, h2, h3⟩ := h1
      refine Ql0 hP hok hy hx ho (by rw [ha]; exact h) fun M hM => ?_
      rw [XM, QcB, Qg hM hx.inn, Qg hM hy.inn, ha, h2]
      simp only [Option.isSome_none, Bool.false_eq_true, false_or]
      rw [if_neg (by omega)]
     ·rename_i h1
      refine Ql0 hP hok hx hy ho (by rw [ha]; exact h) fun M hM => ?_
      rw [XM, QcB, Qg hM hx.inn, Qg hM hy.inn, ha]
      simp only [Option.isSome_none, Bool.false_eq_true, false_or]
      rw [if_neg h1]
structure Gr (L : List Nd) : Prop where
 ok : okN L
 one : One L
theorem Gr.add {L : List Nd} (h : Gr L) {d : Nd} (hn : i64 d.n) (ha : i64 d.a) : Gr (addN L d).2 := ⟨Xs h.ok hn ha, Qgr h.one d⟩
section
variable {bin : ZR}
def OneB (bin : ZR) : Prop := ∀ L op x y r, One L → bin L op x y = some r → One r.2
theorem QcQ (hP : OneB bin) {L : List Nd} (h1 : One L) {op x n : Int} {r : GR} (h : withN bin L op x n = some r) : One r.2 := hP _ _ _ _ _ (Qgr h1 _) h
theorem Qhb {q : Option GR} {k : List Nd → Option GR} {r : GR} (hq : ∀ s, q = some s → One s.2) (hk : ∀ L, One L → k L = some r → One r.2) (h : X2 q k = some r) : One r.2 := by
 unfold X2 at h
 cases q with
 | none => cases h
 | some s =>
   simp only [Option.bind_some] at h
   split at h
   ·cases h; exact hq _ rfl
   ·exact hk _ (hq _ rfl) h
theorem QsY (hP : OneB bin) {L : List Nd} (h1 : One L) {op x c : Int} {r : GR} (h : QU bin L op x c = some r) : One r.2 := by
 unfold QU at h
 refine Qhb (fun s hs => ?_) (fun L h1 h => ?_) h
 ·cases hs
  unfold QT
  repeat' split
  all_goals (first | exact h1 | exact Qgr h1 _)
 refine Qhb (fun s hs => ?_) (fun L h1 h => ?_) h
 ·unfold Xm at hs
  repeat' split at hs
  all_goals (first | exact QcQ hP h1 hs | (cases hs; exact h1))
 refine Qhb (fun s hs => ?_) (fun L h1 h => ?_) h
 ·unfold Xv at hs
  split at hs
  ·cases hs; exact h1
  split at hs
  ·cases hs; exact h1
  split at hs
  ·cases hs; exact Qgr h1 _
  split at hs
  ·cases hq : withN bin L 16 x 0 with
   | none => rw [hq] at hs; cases hs
   | some q => rw [hq] at hs; exact QcQ hP (QcQ hP h1 hq) hs
  split at hs
  ·split at hs <;> (cases hs; exact h1)
  ·cases hs; exact h1
 refine Qhb (fun s hs => ?_) (fun L h1 h => ?_) h
 ·unfold Xf at hs
  split at hs
  ·split at hs
   ·exact QcQ hP h1 hs
   ·cases hs; exact h1
  ·cases hs; exact h1
 unfold Q6 at h
 split at h
 ·cases h; exact h1
 split at h
 ·exact QcQ hP h1 h
 split at h
 ·exact QcQ hP h1 h
 split at h
 ·split at h
  ·exact hP _ _ _ _ _ h1 h
  ·cases h; exact h1
 split at h
 ·split at h
  ·exact hP _ _ _ _ _ h1 h
  ·cases h; exact h1
 ·cases h; exact h1
theorem QrM (hP : OneB bin) {L : List Nd} (h1 : One L) {op x y : Int} {p q : Option Int} {r : GR} (h : Y4 bin L op x y p q = some r) : One r.2 := by
 unfold Y4 at h
 refine Qhb (fun s hs => ?_) (fun L h1 h => by cases h; exact Qgr h1 _) h
 unfold XA at hs
 split at hs
 ·cases hs
  unfold ZI
  repeat' split
  all_goals (first | exact h1 | exact Qgr h1 _)
 split at hs
 ·exact QsY hP h1 hs
 split at hs
 ·cases hr : bin L 16 y x with
  | none => rw [hr] at hs; cases hs
  | some q => rw [hr] at hs; exact hP _ _ _ _ _ (hP _ _ _ _ _ h1 hr) hs
 ·cases hs; exact h1
end
theorem QmR : ∀ f, OneB (XM f)
 | 0 => fun L op x y r _ h => by cases h
 | f + 1 => fun L op x y r h1 h => by
   unfold XM QcB at h
   split at h
   ·cases h; exact Qgr h1 _
   ·split at h
    ·exact QrM (QmR f) h1 h
    ·exact QrM (QmR f) h1 h
theorem Qml {L : List Nd} (hG : Gr L) {op x y : Int} (ho : 1 ≤ op ∧ op ≤ 16) (hx : Pl L x) (hy : Pl L y) {W : Nat} (wx : wt L x ≤ W) (wy : wt L y ≤ W) :
 ∃ r, XM (2 * W + 2) L op x y = some r ∧ L <+: r.2 ∧ Gr r.2 ∧ Pl r.2 r.1 ∧ Bn r.2 op x y r.1 ∧ wt r.2 r.1 ≤ W + 2 ∧ r.2.length ≤ L.length + (8 * W + 8) ∧
   ∀ S C, (∀ x ∈ S, i64 x) → (∀ c ∈ C, i64 c.n) → val S C r.2 r.1 = doW op (val S C L x) (val S C L y) := by
 have h1 := QqC op
 obtain ⟨r, hr⟩ := Option.isSome_iff_exists.1 (QmS (2 * W + 2) L op x y hG.ok hx.inn hy.inn ho (by omega))
 have hk := Zk _ _ _ _ _ _ hG.ok hx.inn hy.inn ho hr
 have hd := QsD _ _ _ _ _ _ hG.ok hx.inn hy.inn ho hr
 have hD := QmF op
 have hg := QkW _ _ _ _ _ _ hG.ok hx.inn hy.inn ho hr
 refine ⟨r, hr, hk.1.pre, ⟨hk.1.ok, QmR _ _ _ _ _ _ hG.one hr⟩, Qxs _ _ _ _ _ _ hG.ok hx hy ho hr, bn_of hG.ok hx.inn hy.inn ho hr List.prefix_rfl, by omega, by omega, fun S C hS hC => ?_⟩
 obtain ⟨k1, k2⟩ := QdP (S := S) (C := C) (fun L hok x => Qcv hS hC (Qcx hok) x) _ _ _ _ _ _ hG.ok hx.inn hy.inn ho hr
 exact (k1.val k2).2
structure OfI (L0 : List Nd) (W : Nat) (D : List Int) (pv : Int → Int) (L : List Nd) : Prop where
 pre : L0 <+: L
 gr : Gr L
 pl : ∀ i ∈ D, Pl L (pv i)
 dep : ∀ i ∈ D, wt L (pv i) ≤ 2 * wt L0 i
 id : ∀ i ∈ D, Pl L0 i → pv i = i
 val : ∀ i ∈ D, ∀ S C, (∀ x ∈ S, i64 x) → (∀ c ∈ C, i64 c.n) → Go.Proofs.YtpdeoalocejodaaGreatDoor.val S C L (pv i) = Go.Proofs.YtpdeoalocejodaaGreatDoor.val S C L0 i
 len : L.length ≤ L0.length + D.length * (16 * W + 8)
 same : (∀ i ∈ D, Pl L0 i) → L = L0
def upd (pv : Int → Int) (i j : Int) : Int → Int := fun x => if x = i then j else pv x
theorem QjA (pv : Int → Int) (i j : Int) : upd pv i j i = j := by simp [upd]
theorem upd_ne (pv : Int → Int) {i j x : Int} (h : x ≠ i) : upd pv i j x = pv x := by simp [upd, h]
theorem OfI.step {L0 : List Nd} (h0 : okN L0) {W : Nat} {D : List Int} {pv : Int → Int} {L L' : List Nd} (h : OfI L0 W D pv L) {i j : Int} (hi : i ∉ D) (hD : ∀ x ∈ D, inG L0 x) (hp : L <+: L') (hG : Gr L') (hpl : Pl L' j) (hd : wt L' j ≤ 2 * wt L0 i)
 (hid : Pl L0 i → (∀ x ∈ D, True) → j = i ∧ L' = L) (hv : ∀ S C, (∀ x ∈ S, i64 x) → (∀ c ∈ C, i64 c.n) → Go.Proofs.YtpdeoalocejodaaGreatDoor.val S C L' j = Go.Proofs.YtpdeoalocejodaaGreatDoor.val S C L0 i) (hl : L'.length ≤ L.length + (16 * W + 8)) :
 OfI L0 W (D ++ [i]) (upd pv i j) L' := by
 have ne : ∀ x ∈ D, x ≠ i := fun x hx e => hi (e ▸ hx)
 have mem : ∀ x, x ∈ D ++ [i] → x ∈ D ∨ x = i := fun x hx => by simpa using hx
 refine ⟨h.pre.trans hp, hG, fun x hx => ?_, fun x hx => ?_, fun x hx hxp => ?_, fun x hx S C hS hC => ?_, ?_, fun hs => ?_⟩
 ·rcases mem x hx with hx | rfl
  ·rw [upd_ne pv (ne x hx)]; exact (h.pl x hx).up h.gr.ok hp
  ·rw [QjA]; exact hpl
 ·rcases mem x hx with hx | rfl
  ·rw [upd_ne pv (ne x hx), X8 hp (h.pl x hx).inn]; exact h.dep x hx
  ·rw [QjA]; exact hd
 ·rcases mem x hx with hx | rfl
  ·rw [upd_ne pv (ne x hx)]; exact h.id x hx hxp
  ·rw [QjA]; exact (hid hxp fun _ _ => trivial).1
 ·rcases mem x hx with hx | rfl
  ·rw [upd_ne pv (ne x hx), YZ hp (h.pl x hx).inn]; exact h.val x hx S C hS hC
  ·rw [QjA]; exact hv S C hS hC
 ·have := h.len
  rw [lA, List.length_singleton, Nat.add_mul]
  omega
 ·have e1 := h.same fun x hx => hs x (by simp [hx])
  have e2 := (hid (hs i (by simp)) fun _ _ => trivial).2
  rw [e2, e1]
theorem OfI.leaf {L0 : List Nd} (h0 : okN L0) {W : Nat} {D : List Int} {pv : Int → Int} {L : List Nd} (h : OfI L0 W D pv L) {i : Int} (hi : i ∉ D) (hD : ∀ x ∈ D, inG L0 x) (hin : inG L0 i) (h3 : (nd L0 i).kind ≠ 3) (h4 : (nd L0 i).kind ≠ 4) :
 OfI L0 W (D ++ [i]) (upd pv i i) L := by
 obtain ⟨g1, g2⟩ := XF h.pre hin
 exact h.step h0 hi hD List.prefix_rfl h.gr (.leaf g1 (by rw [g2]; exact h3) (by rw [g2]; exact h4)) (by rw [X8 h.pre hin]; omega) (fun _ _ => ⟨rfl, rfl⟩) (fun S C _ _ => YZ h.pre hin) (by omega)
theorem QFH {L : List Nd} (hok : okN L) {x : Int} (hx : inG L x) : wt L x = if (nd L x).kind = 1 then 0 else if (nd L x).kind = 4 then 1 + max (wt L (nd L x).x) (wt L (nd L x).y) else 1 := by
 by_cases h4 : (nd L x).kind = 4
 ·rw [if_neg (by omega), if_pos h4]
  exact Qp8 (op := (nd L x).op) hok (by unfold ofI; rw [if_pos ⟨hx, h4, rfl⟩])
 ·have := QvA (Qk4 hx)
  unfold wt
  rw [this, Qy3]
  simp only [h4, if_false]
theorem Qr1 {L : List Nd} (hok : okN L) {i : Int} (hin : inG L i) (h3 : (nd L i).kind = 3) : inG L (nd L i).y ∧ (nd L i).y < i ∧ (nd L i).y ∈ pts L i := by
 have hpt : pts L i = [(nd L i).y] := by
  show (nd L i).parts = _
  simp [Nd.parts, h3]
 have hp := Qly hok.wf hin.1 hin.2
 rw [hpt] at hp
 have h1 := hp (nd L i).y (by simp)
 unfold inG at *
 exact ⟨by omega, h1.2, by rw [hpt]; simp⟩
theorem Qho {L : List Nd} (hok : okN L) {i : Int} (hin : inG L i) (h4 : (nd L i).kind = 4) : inG L (nd L i).x ∧ inG L (nd L i).y ∧ (nd L i).x < i ∧ (nd L i).y < i ∧ (nd L i).x ∈ pts L i ∧ (nd L i).y ∈ pts L i := by
 have hpt : pts L i = [(nd L i).x, (nd L i).y] := by
  show (nd L i).parts = _
  simp [Nd.parts, h4]
 have hp := Qly hok.wf hin.1 hin.2
 rw [hpt] at hp
 have h1 := hp (nd L i).x (by simp)
 have h2 := hp (nd L i).y (by simp)
 unfold inG at *
 exact ⟨by omega, by omega, h1.2, h2.2, by rw [hpt]; simp, by rw [hpt]; simp⟩
theorem Qxg {L0 : List Nd} (h0 : okN L0) {W : Nat} {D : List Int} {pv : Int → Int} {L : List Nd} (h : OfI L0 W D pv L) {i : Int} (hi : i ∉ D) (hD : ∀ x ∈ D, inG L0 x) (hin : inG L0 i) (h3 : (nd L0 i).kind = 3) (hy : (nd L0 i).y ∈ D) :
 OfI L0 W (D ++ [i]) (upd pv i (addN L ⟨3, (nd L0 i).n, (nd L0 i).a, 0, 0, pv (nd L0 i).y⟩).1) (addN L ⟨3, (nd L0 i).n, (nd L0 i).a, 0, 0, pv (nd L0 i).y⟩).2 := by
 obtain ⟨g1, g2⟩ := XF h.pre hin
 have hm := Qwe h0 hin
 have hpy := h.pl _ hy
 have hin' := hpy.inn
 have nodeq : nd L0 i = ⟨3, (nd L0 i).n, (nd L0 i).a, 0, 0, (nd L0 i).y⟩ := by
  revert hm h3
  generalize nd L0 i = d
  obtain ⟨k, n, a, o, x, y⟩ := d
  intro h3 hm
  replace h3 : k = 3 := h3
  subst h3
  simp [Nd.may] at hm
  simp [hm]
 have hmay : Nd.may ⟨3, (nd L0 i).n, (nd L0 i).a, 0, 0, pv (nd L0 i).y⟩ L.length = true := by
  have hm2 := hm
  rw [nodeq] at hm2
  simp [Nd.may] at hm2 ⊢
  unfold inG at hin'
  omega
 obtain ⟨h64, h64a, _⟩ := h0 _ _ (Qk4 hin)
 obtain ⟨a1, a2⟩ := QhX hmay
 have hp := Qcu L ⟨3, (nd L0 i).n, (nd L0 i).a, 0, 0, pv (nd L0 i).y⟩
 have hG : Gr (addN L ⟨3, (nd L0 i).n, (nd L0 i).a, 0, 0, pv (nd L0 i).y⟩).2 := h.gr.add h64 h64a
 refine h.step h0 hi hD hp hG (.cell a1 (by rw [a2]) (by rw [a2]; exact hpy.up h.gr.ok hp)) ?_ (fun hpl _ => ?_) (fun S C hS hC => ?_) ?_
 ·rw [QFH hG.ok a1, a2, QFH h0 hin, h3]; simp
 ·have hply : Pl L0 (nd L0 i).y := by
   cases hpl with
   | leaf _ h _ => exact absurd h3 h
   | cell _ _ h => exact h
   | bin _ h => omega
  have e := Qzl h.gr.one g1 (by rw [g2]; exact QD0 hm (by unfold inG at g1; omega))
  rw [h.id _ hy hply, ← nodeq, ← g2, e]
  exact ⟨rfl, rfl⟩
 ·rw [Qg9 hG.ok.wf (Qgg hG.ok) a1.1 a1.2, a2, Qg9 h0.wf (Qgg h0) hin.1 hin.2]
  unfold QeO
  simp only [h3]
  simp only [show ¬ ((3 : Int) = 1) by decide, show ¬ ((3 : Int) = 2) by decide, if_false, if_true]
  rw [YZ hp hpy.inn, h.val _ hy S C hS hC]
 ·have := Qqs L ⟨3, (nd L0 i).n, (nd L0 i).a, 0, 0, pv (nd L0 i).y⟩
  omega
theorem Qzi {L0 : List Nd} (h0 : okN L0) {W : Nat} {D : List Int} {pv : Int → Int} {L : List Nd} (h : OfI L0 W D pv L) {i : Int} (hi : i ∉ D) (hD : ∀ x ∈ D, inG L0 x) (hin : inG L0 i) (h4 : (nd L0 i).kind = 4) (hx : (nd L0 i).x ∈ D) (hy : (nd L0 i).y ∈ D) (hW : wt L0 i ≤ W + 1) :
 ∃ r, (inG L (pv (nd L0 i).x) ∧ inG L (pv (nd L0 i).y) ∧ (1 ≤ (nd L0 i).op ∧ (nd L0 i).op ≤ 16)) ∧ XM (4 * W + 2) L (nd L0 i).op (pv (nd L0 i).x) (pv (nd L0 i).y) = some r ∧ r.2.length ≤ L.length + (16 * W + 8) ∧ OfI L0 W (D ++ [i]) (upd pv i r.1) r.2 := by
 obtain ⟨p1, p2, _⟩ := Qho h0 hin h4
 have ho := QF3 h0 hin h4
 have hpx := h.pl _ hx
 have hpy := h.pl _ hy
 have dx := h.dep _ hx
 have dy := h.dep _ hy
 have hwt := QFH h0 hin
 rw [if_neg (by omega), if_pos h4] at hwt
 obtain ⟨r, hr, q1, q2, q3, q4, q5, q6, q7⟩ := Qml h.gr ho hpx hpy (W := max (wt L (pv (nd L0 i).x)) (wt L (pv (nd L0 i).y))) (by omega) (by omega)
 refine ⟨r, ⟨hpx.inn, hpy.inn, ho⟩, Qdd (by omega) _ _ _ _ _ hr, by omega, ?_⟩
 refine h.step h0 hi hD q1 q2 q3 (by omega) (fun hpl _ => ?_) (fun S C hS hC => ?_) (by omega)
 ·cases hpl with
  | leaf _ _ h => exact absurd h4 h
  | cell _ h _ => omega
  | bin _ _ a b c =>
    rw [h.id _ hx a, h.id _ hy b] at hr
    obtain ⟨g, hg⟩ := c.up h0 a.inn b.inn ho h.pre
    have k1 := Qdd (Nat.le_max_left g (2 * max (wt L (nd L0 i).x) (wt L (nd L0 i).y) + 2)) _ _ _ _ _ hg
    have k2 := Qdd (Nat.le_max_right g (2 * max (wt L (nd L0 i).x) (wt L (nd L0 i).y) + 2)) _ _ _ _ _ hr
    rw [k1] at k2
    cases k2
    exact ⟨rfl, rfl⟩
 ·rw [q7 S C hS hC, h.val _ hx S C hS hC, h.val _ hy S C hS hC, Qg9 h0.wf (Qgg h0) hin.1 hin.2]
  unfold QeO
  simp only [h4]
  simp only [show ¬ ((4 : Int) = 1) by decide, show ¬ ((4 : Int) = 2) by decide, show ¬ ((4 : Int) = 3) by decide, if_false]
theorem OfI.plain {L0 : List Nd} (h0 : okN L0) {W : Nat} {D : List Int} {pv : Int → Int} {L : List Nd} (h : OfI L0 W D pv L) {i : Int} (hi : i ∉ D) (hD : ∀ x ∈ D, inG L0 x) (hp : Pl L0 i) : OfI L0 W (D ++ [i]) (upd pv i i) L :=
 h.step h0 hi hD List.prefix_rfl h.gr (hp.up h0 h.pre) (by rw [X8 h.pre hp.inn]; omega) (fun _ _ => ⟨rfl, rfl⟩) (fun S C _ _ => YZ h.pre hp.inn) (by omega)
theorem Qxr {L0 : List Nd} (h0 : okN L0) {W : Nat} {D : List Int} {pv : Int → Int} {L : List Nd} (h : OfI L0 W D pv L) {i : Int} (hin : inG L0 i) (h4 : (nd L0 i).kind = 4) (hx : (nd L0 i).x ∈ D) (hy : (nd L0 i).y ∈ D) (hp : Pl L0 i) :
 (inG L (pv (nd L0 i).x) ∧ inG L (pv (nd L0 i).y) ∧ (1 ≤ (nd L0 i).op ∧ (nd L0 i).op ≤ 16)) ∧ ∃ f, XM f L (nd L0 i).op (pv (nd L0 i).x) (pv (nd L0 i).y) = some (i, L) := by
 have ho := QF3 h0 hin h4
 refine ⟨⟨(h.pl _ hx).inn, (h.pl _ hy).inn, ho⟩, ?_⟩
 cases hp with
 | leaf _ _ h => exact absurd h4 h
 | cell _ h _ => omega
 | bin _ _ a b c =>
   rw [h.id _ hx a, h.id _ hy b]
   exact c.up h0 a.inn b.inn ho h.pre
def Room (L : List Nd) (U : List Int) (W : Nat) : Prop := ((∀ x ∈ U, wt L x ≤ W + 1) ∧ L.length + U.length * (16 * W + 8) ≤ 1000000) ∨ ((∀ x ∈ U, Pl L x) ∧ L.length ≤ 1000000)
theorem OfI.start {L0 : List Nd} (hG : Gr L0) (W : Nat) : OfI L0 W [] (fun _ => 0) L0 :=
 ⟨List.prefix_rfl, hG, by simp, by simp, by simp, by simp, by simp, fun _ => rfl⟩
theorem Pl.uses {L : List Nd} (hok : okN L) {x : Int} (h : Pl L x) : ∀ y ∈ QN L [x], Pl L y := by
 refine Qha (Q := fun y => Pl L y) (fun y h0 h1 hy p hp => ?_) h
 have hpt : pts L y = (nd L y).parts := rfl
 rw [hpt] at hp
 cases hy with
 | leaf _ a b => simp [Nd.parts, a, b] at hp
 | cell _ a b => simp [Nd.parts, a] at hp; rw [hp]; exact b
 | bin _ a b c => simp [Nd.parts, a] at hp; rcases hp with rfl | rfl <;> assumption
theorem QlZ {L : List Nd} (hok : okN L) {id : Int} (hin : inG L id) : (QN L [id]).length ≤ id.toNat + 1 := by
 have h : okS (L.take (id.toNat + 1)) (QN L [id]) := by
  refine ⟨Qfo, fun x hx => ?_⟩
  have h1 := QeG x hx
  have h2 := QvJ hok.wf x hx
  unfold inG at hin
  rw [List.length_take]
  omega
 have := Qko h
 rw [List.length_take] at this
 omega
theorem QvI {L : List Nd} (hok : okN L) {id : Int} (h : ¬ inG L id) (y : Int) (hy : y ∈ QN L [id]) : y ∈ ([] : List Int) := by
 obtain ⟨r, h1, h2, _⟩ := (QlY hok.wf).1 hy
 rw [List.mem_singleton.1 h1] at h2
 exact absurd h2 h
def tri : Nat → Nat
 | 0 => 0
 | n + 1 => tri n + (n + 1)
theorem QDN {i j : Nat} (h : i ≤ j) : tri i ≤ tri j := by
 induction j with
 | zero => rw [Nat.le_zero.1 h]; exact lR _
 | succ j ih =>
   rcases Nat.lt_or_ge i (j + 1) with h1 | h1
   ·exact Nat.le_trans (ih (by omega)) (by simp [tri])
   ·rw [show i = j + 1 by omega]; exact lR _
theorem QwB (l : List Nd) (hl : ∀ d ∈ l, i64 d.n ∧ i64 d.a) : Gr (Qef l) := by
 have : ∀ (l : List Nd) (L : List Nd), Gr L → (∀ d ∈ l, i64 d.n ∧ i64 d.a) → Gr (l.foldl (fun L d => (addN L d).2) L) := by
  intro l
  induction l with
  | nil => intro L h _; exact h
  | cons d l ih =>
    intro L h hl
    exact ih _ (h.add (hl d (by simp)).1 (hl d (by simp)).2) fun e he => hl e (by simp [he])
 exact this l [] ⟨fun i d h => by simp at h, List.nodup_nil⟩ hl
theorem QrV {L : List Nd} (hG : Gr L) {i W : Nat} (hi : i < L.length) (hW : i ≤ W) (hL : L.length + (i + 1) * (16 * W + 8) ≤ 1000000) : Room L (QN L [(i : Int)]) W := by
 have hin : inG L (i : Int) := ⟨by omega, by omega⟩
 left
 refine ⟨fun x hx => ?_, ?_⟩
 ·have h1 := QvJ hG.ok.wf x hx
  have h2 := QeG x hx
  have := Qx0 hG.ok x
  omega
 ·have h1 := QlZ hG.ok hin
  have h2 : (QN L [(i : Int)]).length * (16 * W + 8) ≤ (i + 1) * (16 * W + 8) := Nat.mul_le_mul_right _ (by omega)
  omega
theorem QsU {L : List Nd} (hG : Gr L) {x : Int} (h : Pl L x) (hL : L.length ≤ 1000000) (W : Nat) : Room L (QN L [x]) W := .inr ⟨h.uses hG.ok, hL⟩
def Qgn (op : Int) : Option Int := if op = 2 ∨ op = 10 ∨ op = 14 ∨ op = 15 then some 0 else if op = 16 then some 1 else none
def Qtf (op c : Int) : Option Int := if (op = 3 ∨ op = 8 ∨ op = 15) ∧ c = 0 then some 0 else if op = 9 ∧ c = -1 then some (-1) else if (op = 5 ∨ op = 7) ∧ c = 1 then some 0 else none
section
variable {M : List Nd}
theorem QHa (hok : okN M) {op a n i : Int} (ho : 1 ≤ op ∧ op ≤ 16) (ha : inG M a) (hs : Qgn op = some n) (h : Bn M op a a i) : QE M i = some n := by
 cases hna : QE M a with
 | some e =>
   rw [Qa2 hna hna h]
   obtain ⟨d1, d2, _⟩ := QqT (op := op) (Xo (S := []) (C := []) hok hna).2
   unfold Qgn at hs
   split at hs
   ·rename_i k; cases hs; rw [d1 k]
   ·split at hs
    ·rename_i k; cases hs; rw [d2 k]
    ·cases hs
 | none =>
   have r := QkT hok hna hna ha ha ho h
   rw [if_pos rfl] at r
   unfold Qgn at hs
   split at hs
   ·rename_i k; cases hs; rw [if_pos k] at r; exact r
   ·rename_i k
    rw [if_neg k] at r
    split at hs
    ·rename_i k2; cases hs; rw [if_pos k2] at r; exact r
    ·cases hs
theorem QHb (hok : okN M) (h1 : One M) {op a i : Int} (ho : op = 8 ∨ op = 9) (ha : inG M a) (h : Bn M op a a i) : i = a := by
 cases hna : QE M a with
 | some e =>
   have r := Qa2 hna hna h
   obtain ⟨_, _, d3⟩ := QqT (op := op) (Xo (S := []) (C := []) hok hna).2
   rw [d3 ho] at r
   exact QR hok h1 r hna
 | none =>
   have r := QkT hok hna hna ha ha (by omega) h
   rw [if_pos rfl, if_neg (by omega), if_neg (by omega), if_pos ho] at r
   exact r
theorem fixE (hok : okN M) {op a m n i : Int} (ho : 1 ≤ op ∧ op ≤ 16) (ha : inG M a) (hf : Qtf op m = some n) (h : Ec M op a m i) : QE M i = some n := by
 unfold Qtf at hf
 cases hna : QE M a with
 | some e =>
   rw [h.const hna]
   split at hf
   ·rename_i k; cases hf; rw [k.2, QhH k.1]
   ·split at hf
    ·rename_i k; cases hf; rw [k.1, k.2, QjO]
    ·split at hf
     ·rename_i k; cases hf; rw [k.2, QwY k.1]
     ·cases hf
 | none =>
   have hr := ZK hok hna ha ho h
   unfold Qfk at hr
   split at hf
   ·rename_i k
    cases hf
    rw [if_neg (by
     obtain ⟨k1, k2⟩ := k
     rcases k1 with rfl | rfl | rfl <;> (subst k2; decide)), if_pos k] at hr
    exact hr
   ·rename_i k1
    split at hf
    ·rename_i k
     cases hf
     rw [if_neg (by obtain ⟨rfl, rfl⟩ := k; decide), if_neg k1, if_pos k] at hr
     exact hr
    ·rename_i k2
     split at hf
     ·rename_i k
      cases hf
      rw [if_neg (by
       obtain ⟨k3, k4⟩ := k
       rcases k3 with rfl | rfl <;> (subst k4; decide)), if_neg k1, if_neg k2, if_pos k] at hr
      exact hr
     ·cases hf
end
section
variable {M : List Nd}
theorem QsA {x n : Int} (h : QE M x = some n) : Yt M x = decide (n = 0 ∨ n = 1) := by
 unfold QE at h
 split at h
 ·rename_i h1
  cases h
  simp only [Yt]
  congr 1
  apply propext
  constructor
  ·rintro ⟨_, ⟨k, _⟩ | ⟨_, k⟩⟩
   ·omega
   ·exact k
  ·intro k; exact ⟨h1.1, .inr ⟨h1.2, k⟩⟩
 ·cases h
theorem Qok {x n : Int} (hb : Yt M x = true) (h : QE M x = some n) : n = 0 ∨ n = 1 := by
 rw [QsA h] at hb
 simpa using hb
theorem Nat'.boo3 {op x y i : Int} (ho : op = 14 ∨ op = 15 ∨ op = 16) (h : Nat' M op x y i) : Yt M i = true := by rw [h.boo]; simpa using ho
theorem QEm (hok : okN M) {x y i : Int} (hx : inG M x) (hy : inG M y) (h : Bn M 16 x y i) : Yt M i = true := by
 obtain ⟨f, hf⟩ := h
 exact Qct f _ _ _ _ hx hy hok hf
theorem Qxo (hok : okN M) {x c i : Int} (hx : inG M x) (h : Ec M 16 x c i) : Yt M i = true := by
 obtain ⟨z, hz, hb⟩ := h
 exact QEm hok hx (QO hz) hb
theorem QG9 (hok : okN M) {op x y i : Int} (ho : op = 14 ∨ op = 15 ∨ op = 16) (hx : inG M x) (hy : inG M y) (h : Bn M op x y i) : Yt M i = true := by
 by_cases h16 : op = 16
 ·subst h16; exact QEm hok hx hy h
 have ho2 : op = 14 ∨ op = 15 := by omega
 have hs : QaK op = false := by rcases ho2 with rfl | rfl <;> decide
 cases hnx : QE M x with
 | some a =>
   cases hny : QE M y with
   | some b =>
     have := Qa2 hnx hny h
     rw [QsA this]
     simpa [two] using Qqb ho
   | none =>
     have r := QmP hok hnx hny hy (by omega) hs h
     split at r
     ·obtain ⟨n, h1, h2⟩ := r
      exact Qxo hok (h1.inG hok hy (by omega)).1 h2
     ·exact r.boo3 ho
 | none =>
   cases hny : QE M y with
   | some b =>
     have r := ZK hok hnx hx (by omega) (Ec.of hny h)
     unfold Qfk at r
     have k0 : ¬ QQ op = some b := by rcases ho2 with rfl | rfl <;> simp [QQ]
     rw [if_neg k0] at r
     by_cases k1 : (op = 3 ∨ op = 8 ∨ op = 15) ∧ b = 0
     ·rw [if_pos k1] at r; rw [QsA r]; decide
     rw [if_neg k1, if_neg (by omega), if_neg (by omega), if_neg (by omega), if_neg (by omega), if_neg (by omega), if_neg (by omega), if_neg (by omega)] at r
     by_cases k2 : op = 15 ∧ b = 1
     ·rw [if_pos k2] at r; exact Qxo hok hx r
     have hg : XB op = false := by rcases ho2 with rfl | rfl <;> decide
     rw [if_neg k2, if_neg (by omega), if_neg (by omega), if_neg (by omega), if_neg (by rintro ⟨_, k, _⟩; omega), if_neg (by rw [hg]; simp), if_neg (by omega)] at r
     obtain ⟨w, _, r⟩ := r
     exact r.boo3 ho
   | none =>
     have r := QkT hok hnx hny hx hy (by omega) h
     split at r
     ·rw [if_pos (by omega)] at r; rw [QsA r]; decide
     ·rw [if_neg (by rw [hs]; simp)] at r; exact r.boo3 ho
theorem tr_1 (hok : okN M) (h1 : One M) {t i : Int} (hb : Yt M t = true) (h : Ec M 16 t 1 i) : i = t := by
 cases hn : QE M t with
 | some n =>
   have := h.const hn
   rw [QvM (Qok hb hn)] at this
   exact QR hok h1 this hn
 | none => exact (Qy1 hok hn hb h).1 rfl
theorem tr_2 (hok : okN M) (h1 : One M) {t n j : Int} (hp : Pl M t) (hb : Yt M t = true) (hn : Ec M 16 t 0 n) (hj : Ec M 16 n 0 j) : j = t := by
 cases hnt : QE M t with
 | some c =>
   have := hj.const (hn.const hnt)
   rw [QrL (Qok hb hnt)] at this
   exact QR hok h1 this hnt
 | none => exact (Qwc hok h1 hnt hb hp hn).2.2 j hj
theorem tr_3 (hok : okN M) (h1 : One M) {t n i : Int} (hp : Pl M t) (hb : Yt M t = true) (hi : Ec M 10 t 1 i) (hn : Ec M 16 t 0 n) : i = n := by
 cases hnt : QE M t with
 | some c =>
   have e1 := hi.const hnt
   have e2 := hn.const hnt
   rw [QvK (Qok hb hnt)] at e2
   exact QR hok h1 e1 e2
 | none =>
   have r := Qlo hok hnt hb hi
   rw [if_neg (by decide), if_pos (by decide)] at r
   obtain ⟨m, h2, h3⟩ := r
   rw [show doW 10 1 1 = 0 by decide] at h3
   have hm := (h2.inG hok hp.inn (by decide)).1
   rw [Qqw hok h1 (by decide) hm (by decide) h3]
   exact h2.fn hok h1 hn
theorem tr_4 (hok : okN M) (h1 : One M) {t i : Int} (hb : Yt M t = true) (h : Ec M 8 t 1 i) : i = t := by
 cases hn : QE M t with
 | some n =>
   have := h.const hn
   rw [Qqc (Qok hb hn), if_pos (by decide)] at this
   exact QR hok h1 this hn
 | none =>
   have r := QsE hok hn hb h
   rw [if_pos (by decide)] at r
   exact r
theorem tr_6 (hok : okN M) {t c i : Int} (hb : Yt M t = true) (h0 : c ≠ 0) (h1 : c ≠ 1) (h : Ec M 16 t c i) : QE M i = some 0 := by
 cases hn : QE M t with
 | some n =>
   have := h.const hn
   rw [QvL (Qok hb hn) h0 h1] at this
   exact this
 | none => exact (Qy1 hok hn hb h).2 h0 h1
end
theorem QGM {L M : List Nd} {op x c i : Int} (hok : okN L) (hx : inG L x) (ho : 1 ≤ op ∧ op ≤ 16) (h : Ec L op x c i) (hM : L <+: M) : Ec M op x c i := by
 obtain ⟨z, hz, hb⟩ := h
 exact ⟨z, (Qg hM (QO hz)).trans hz, hb.up hok hx (QO hz) ho hM⟩
def Isn (op a c : Int) (L : List Nd) (j : Int) : Prop := ∀ M, L <+: M → Gr M → ∀ k, Ec M op a c k → k = j
theorem Isn.up {op a c j : Int} {L L' : List Nd} (h : Isn op a c L j) (hp : L <+: L') : Isn op a c L' j := fun M hM => h M (hp.trans hM)
def pro (op : Int) (l : List Int) : Int := l.foldl (doW op) ((QQ op).getD 0)
def turned (l : List Int) (k : Nat) : List Int := (List.range l.length).map fun i => l.getD ((i + k) % l.length) 0
variable {P : Program} {G : Nat → Option V}
abbrev QxH (fmt : Int → List UInt8) (v0 v1 : Nat) (ex : List (Option Ob)) (t : Nat) (Q : Int → List Nd → Prop) : V → H → Prop := fun v σ => ∃ i L', Q i L' ∧ v = .int .i64 i ∧ ∃ t' w2 w3 w4, t ≤ t' ∧ σ = ⟨t', kG fmt v0 v1 w2 w3 w4 L' ++ ex⟩
structure StepB (L : List Nd) (op x y : Int) (W : Nat) (i : Int) (L' : List Nd) : Prop where
 pre : L <+: L'
 gr : Gr L'
 pl : Pl L' i
 bn : Bn L' op x y i
 dep : wt L' i ≤ W + 2
 len : L'.length ≤ L.length + (8 * W + 8)
structure StepN (L : List Nd) (c : Int) (i : Int) (L' : List Nd) : Prop where
 pre : L <+: L'
 gr : Gr L'
 num : QE L' i = some c
 len : L'.length ≤ L.length + 1
theorem StepN.pl {L L' : List Nd} {c i : Int} (h : StepN L c i L') : Pl L' i := Pl.num h.num
theorem QFO (L : List Nd) (hG : Gr L) {c : Int} (hc : i64 c) : StepN L c (numN L c).1 (numN L c).2 := by
 obtain ⟨h1, h2, h3, h4⟩ := QZ L c
 exact ⟨h3, hG.add hc (show i64 0 by unfold i64; omega), h2, Qab L c⟩
theorem Qad (hT : Qj P tab) (F : Fmt P G) {v0 v1 v2 v3 v4 t : Nat} {L : List Nd} {ex : List (Option Ob)} {n : Int} (hG : Gr L) (hn : i64 n) (hL : L.length ≤ 1000000) :
 C P G 0 Qcn [.ptr 1 v0 0, .int .i64 n] ⟨t, kG F.fmt v0 v1 v2 v3 v4 L ++ ex⟩ (QxH F.fmt v0 v1 ex t (StepN L n)) :=
 (Qmp hT F hn hL).conseq fun v σ hv => by
  obtain ⟨rfl, t', w2, w3, w4, ht, rfl⟩ := hv
  exact ⟨_, _, QFO L hG hn, rfl, t', w2, w3, w4, ht, rfl⟩
theorem Yx (hT : Qj P tab) (F : Fmt P G) {v0 v1 v2 v3 v4 t : Nat} {L : List Nd} {ex : List (Option Ob)} {n : Int} (hG : Gr L) (hn : i64 n) (hL : L.length ≤ 1000000) :
 C P G 0 Zv [.ptr 1 v0 0, .int .i64 n] ⟨t, kG F.fmt v0 v1 v2 v3 v4 L ++ ex⟩ (QxH F.fmt v0 v1 ex t (StepN L n)) :=
 (QkD hT F hn hL).conseq fun v σ hv => by
  obtain ⟨rfl, t', w2, w3, w4, ht, rfl⟩ := hv
  exact ⟨_, _, QFO L hG hn, rfl, t', w2, w3, w4, ht, rfl⟩
theorem Xk (hT : Qj P tab) (F : Fmt P G) (hP : Bits P G) (W : Nat) {v0 v1 v2 v3 v4 t : Nat} {L : List Nd} {ex : List (Option Ob)} {op x y : Int} (hG : Gr L) (ho : 1 ≤ op ∧ op ≤ 16) (hx : Pl L x) (hy : Pl L y) (wx : wt L x ≤ W) (wy : wt L y ≤ W) (hL : L.length + (8 * W + 8) ≤ 1000000) :
 C P G 0 Qfz [.ptr 1 v0 0, .int .u8 op, .int .i64 x, .int .i64 y] ⟨t, kG F.fmt v0 v1 v2 v3 v4 L ++ ex⟩ (QxH F.fmt v0 v1 ex t (StepB L op x y W)) := by
 obtain ⟨r, hr, h1, h2, h3, h4, h5, h6, _⟩ := Qml hG ho hx hy wx wy
 refine (QbU hT F hP (2 * W + 2) hG.ok (by omega) (r := r) (by omega) (by rw [QiC, if_pos ⟨hx.inn, hy.inn, ho⟩]; exact hr)).conseq fun v σ hv => ?_
 obtain ⟨rfl, t', w2, w3, w4, ht, rfl⟩ := hv
 exact ⟨_, _, ⟨h1, h2, h3, h4, h5, h6⟩, rfl, t', w2, w3, w4, ht, rfl⟩
structure StepT (L : List Nd) (x : Int) (W : Nat) (i : Int) (L' : List Nd) : Prop where
 pre : L <+: L'
 gr : Gr L'
 pl : Pl L' i
 ec : Ec L' 16 x 0 i
 dep : wt L' i ≤ W + 2
 len : L'.length ≤ L.length + (8 * W + 9)
theorem Qse (hT : Qj P tab) (F : Fmt P G) (hP : Bits P G) (W : Nat) {v0 v1 v2 v3 v4 t : Nat} {L : List Nd} {ex : List (Option Ob)} {x : Int} (hG : Gr L) (hx : Pl L x) (wx : wt L x ≤ W) (hL : L.length + (8 * W + 9) ≤ 1000000) :
 C P G 0 Qid [.ptr 1 v0 0, .int .i64 x] ⟨t, kG F.fmt v0 v1 v2 v3 v4 L ++ ex⟩ (QxH F.fmt v0 v1 ex t (StepT L x W)) := by
 have s := QFO L hG (c := 0) (by unfold i64; decide)
 obtain ⟨r, hr, h1, h2, h3, h4, h5, h6, _⟩ := Qml (op := 16) s.gr (by omega) (hx.up hG.ok s.pre) s.pl (W := W) (by rw [X8 s.pre hx.inn]; exact wx) (by rw [Xu s.num]; omega)
 have hl := s.len
 refine (Qws hT F hP (2 * W + 2) hG.ok (r := r) (by omega) (by rw [Qwb, if_pos hx.inn, QiC, if_pos ⟨(hx.up hG.ok s.pre).inn, s.pl.inn, by omega⟩]; exact hr)).conseq fun v σ hv => ?_
 obtain ⟨rfl, t', w2, w3, w4, ht, rfl⟩ := hv
 exact ⟨_, _, ⟨s.pre.trans h1, h2, h3, ⟨_, (Qg h1 s.pl.inn).trans s.num, h4⟩, h5, by omega⟩, rfl, t', w2, w3, w4, ht, rfl⟩
section
variable {fmt : Int → List UInt8} {v0 v1 v2 v3 v4 : Nat} {L : List Nd} {ex zs : List (Option Ob)} {y z w u : Option Ob}
theorem Qwn : (kG fmt v0 v1 v2 v3 v4 L ++ (ex ++ y :: z :: w :: zs))[5 + (ex.length + 2)]? = some w := by
 rw [List.getElem?_append_right (by rw [Qa]; omega), Qa, List.getElem?_append_right (by omega)]
 simp
theorem Qqt : (kG fmt v0 v1 v2 v3 v4 L ++ (ex ++ y :: z :: w :: zs)).set (5 + (ex.length + 2)) u = kG fmt v0 v1 v2 v3 v4 L ++ (ex ++ y :: z :: u :: zs) := by
 rw [List.set_append_right _ _ (by rw [Qa]; omega), Qa, List.set_append_right _ _ (by omega)]
 simp
end
abbrev pm (pv : Int → Int) (S : List Int) : List (V × V) := im .i64 (fun x => .int .i64 (pv x)) S
theorem pm_put {pv : Int → Int} {S : List Int} {x j : Int} (h : x ∉ S) : Qr6 [.i] (.int .i64 x) (.int .i64 j) (pm pv S) = pm (upd pv x j) (S ++ [x]) := by
 have e : pm pv S = pm (upd pv x j) S := by
  unfold pm im
  refine List.map_congr_left fun y hy => ?_
  show (V.int .i64 y, V.int .i64 (pv y)) = (V.int .i64 y, V.int .i64 (upd pv x j y))
  rw [upd_ne pv (fun e => h (by rw [← e]; exact hy))]
 rw [e]
 exact Qmg .i64 _ x _ (by simp [upd]) S h
theorem Qr0 {pv : Int → Int} {S : List Int} {x : Int} (h : x ∈ S) : (Qqq [.i] (.int .i64 x) (pm pv S)).getD (.int .i64 0) = .int .i64 (pv x) := by
 rw [Qmj, if_pos h]; rfl
structure StepO (L : List Nd) (id : Int) (Wd : Nat) (i : Int) (L' : List Nd) : Prop where
 inn : inG L id → ∃ pv, OfI L Wd (QN L [id]) pv L' ∧ i = pv id
 out : ¬ inG L id → i = -1 ∧ L' = L
abbrev ofJ (fmt : Int → List UInt8) (v0 v1 t0 mv : Nat) (b5 : Option Ob) (L : List Nd) (ex : List (Option Ob)) (U : List Int) (id : Int) (Wd : Nat) : Nat → Fr → H → Prop := fun i fr σ => ∃ t w2 w3 w4 pv L', OfI L Wd (U.take i) pv L' ∧ t0 ≤ t ∧ Qt fr 0 = .ptr 1 v0 0 ∧ Qt fr 1 = .int .i64 id ∧ Qt fr 7 = .mp (5 + (ex.length + 1)) mv ∧ Qt fr 24 = .lst 1 (U.map (V.int .i64)) false ∧ Qt fr 25 = .int .i64 U.length ∧ Qt fr 26 = .int .i64 ((i : Nat) : Int) ∧ σ = ⟨t, kG fmt v0 v1 w2 w3 w4 L' ++ (ex ++ [b5, some (.map mv (pm pv (U.take i)))])⟩
abbrev ofE (fmt : Int → List UInt8) (v0 v1 t0 mv : Nat) (b5 : Option Ob) (L : List Nd) (ex : List (Option Ob)) (U : List Int) (id : Int) (Wd : Nat) : AE → Fr → H → Prop := fun e fr σ => e = .ex 0 ∧ ∃ t w2 w3 w4 pv L', OfI L Wd U pv L' ∧ t0 ≤ t ∧ Qt fr 1 = .int .i64 id ∧ Qt fr 7 = .mp (5 + (ex.length + 1)) mv ∧ σ = ⟨t, kG fmt v0 v1 w2 w3 w4 L' ++ (ex ++ [b5, some (.map mv (pm pv U))])⟩
theorem Qyx (hT : Qj P tab) (F : Fmt P G) (hP : Bits P G) {v0 v1 t0 mv : Nat} {b5 : Option Ob} {L : List Nd} {ex : List (Option Ob)} {id : Int} {Wd : Nat} (hG : Gr L) (hB : Room L (QN L [id]) Wd) (hUl : (QN L [id]).length ≤ 1000000)
 (i : Nat) (x : Int) (hx : (QN L [id])[i]? = some x) (fr : Fr) (σ : H) (hJ : ofJ F.fmt v0 v1 t0 mv b5 L ex (QN L [id]) id Wd i fr σ) :
 W P G 75 0 (AC.seq (AC.reg Qt2 [])   (AC.seq (AC.cond (Arg.t 27)   AC.skip   (AC.exit 0))   (AC.seq (AC.block 1 (AC.seq (AC.reg Qt1 [28, 29])   (AC.seq (AC.reg Qt0 [31, 32, 33, 30, 34, 35, 11])   (AC.seq (AC.reg QtZ [36])   (AC.block 2 (AC.seq (AC.reg Qnb [42])   (AC.cond (Arg.t 41)   (AC.reg Qna [43, 44, 45, 46, 47, 48, 49, 50, 51, 52, 53, 54])   (AC.seq (AC.reg Qm9 [56])   (AC.cond (Arg.t 55)   (AC.reg Qm8 [57, 58, 59, 60, 61, 62, 63, 64, 65, 66, 67, 68, 69, 70])   (AC.reg Qm7 [38, 39, 40]))))))))))   (AC.reg Qm6 [71])))) fr σ (Qjg (fun fr σ => ∃ fr' σ', Shift G 75 0 fr σ fr' σ' ∧ ofJ F.fmt v0 v1 t0 mv b5 L ex (QN L [id]) id Wd (i + 1) fr' σ') (ofE F.fmt v0 v1 t0 mv b5 L ex (QN L [id]) id Wd)) := by
 obtain ⟨t, w2, w3, w4, pv, L', hI, ht, f0, f1, f7, f24, f25, f26, rfl⟩ := hJ
 have hlt := (List.getElem?_eq_some_iff.1 hx).1
 have hxU := List.mem_of_getElem? hx
 have hs := Qgk (L := L) (roots := [id])
 have hni := Qoj hs hx
 have hUo := QeG (L := L) (roots := [id])
 have hD : ∀ y ∈ (QN L [id]).take i, inG L y := fun y hy => hUo y (List.mem_of_mem_take hy)
 have hin : inG L x := hUo x hxU
 have hcl := fun p hp => Qdm hG.ok.wf (id := id) hxU (p := p) hp
 have hg : ((QN L [id]).map (V.int .i64)).getD i .any = V.int .i64 x := by simp [List.getD_eq_getElem?_getD, hx]
 have e2 := QvF hlt (by omega)
 have htk : (QN L [id]).take (i + 1) = (QN L [id]).take i ++ [x] := ZM hx
 have hlen : L'.length ≤ 1000000 ∧ ((wt L x ≤ Wd + 1 ∧ L'.length + (16 * Wd + 8) ≤ 1000000) ∨ Pl L x) := by
  rcases hB with ⟨hW, hL⟩ | ⟨hP, hL⟩
  ·have h1 := hI.len
   have h2 : ((QN L [id]).take i).length = i := by rw [List.length_take]; omega
   rw [h2] at h1
   have h3 : (i + 1) * (16 * Wd + 8) ≤ (QN L [id]).length * (16 * Wd + 8) := Nat.mul_le_mul_right _ hlt
   rw [Nat.add_mul] at h3
   exact ⟨by omega, .inl ⟨hW x hxU, by omega⟩⟩
  ·rw [hI.same fun y hy => hP y (List.mem_of_mem_take hy)]
   exact ⟨hL, .inr (hP x hxU)⟩
 obtain ⟨g1, g2⟩ := XF hI.pre hin
 have hgx : 0 ≤ x ∧ x < (L'.length : Int) := g1
 have e : L'.getD x.toNat zeroNd = nd L x := g2
 obtain ⟨hn64, ha64, _⟩ := hG.ok _ _ (Qk4 hin)
 have fin : ∀ {L2 : List Nd} {j : Int} {nb : Option Ob} {t2 u2 u3 u4 : Nat} {fr2 : Fr}, OfI L Wd ((QN L [id]).take i ++ [x]) (upd pv x j) L2 → t0 ≤ t2 → Qt fr2 0 = .ptr 1 v0 0 → Qt fr2 1 = .int .i64 id → Qt fr2 7 = .mp (5 + (ex.length + 1)) mv → Qt fr2 24 = .lst 1 ((QN L [id]).map (V.int .i64)) false → Qt fr2 25 = .int .i64 (QN L [id]).length → Qt fr2 26 = .int .i64 ((i + 1 : Nat) : Int) →
  ∃ fr' σ', Shift G 75 0 fr2 ⟨t2, kG F.fmt v0 v1 u2 u3 u4 L2 ++ (ex ++ [b5, some (.map mv (pm (upd pv x j) ((QN L [id]).take i ++ [x]))), nb])⟩ fr' σ' ∧ ofJ F.fmt v0 v1 t0 mv b5 L ex (QN L [id]) id Wd (i + 1) fr' σ' := by
  intro L2 j nb t2 u2 u3 u4 fr2 h1 h2 k0 k1 k7 k24 k25 k26
  refine ⟨_, _, Shift.drop (o' := kG F.fmt v0 v1 u2 u3 u4 L2 ++ (ex ++ [b5, some (.map mv (pm (upd pv x j) ((QN L [id]).take i ++ [x])))])) (t' := t2) ?_ (lR _) ?_, t2, u2, u3, u4, upd pv x j, L2, by rw [htk]; exact h1, h2, k0, k1, k7, k24, k25, k26, by rw [htk]⟩
  ·have := QbF (5 + ex.length + 2) (kG F.fmt v0 v1 u2 u3 u4 L2 ++ (ex ++ [b5, some (.map mv (pm (upd pv x j) ((QN L [id]).take i ++ [x]))), nb]))
   have e : (kG F.fmt v0 v1 u2 u3 u4 L2 ++ (ex ++ [b5, some (.map mv (pm (upd pv x j) ((QN L [id]).take i ++ [x]))), nb])).take (5 + ex.length + 2) = kG F.fmt v0 v1 u2 u3 u4 L2 ++ (ex ++ [b5, some (.map mv (pm (upd pv x j) ((QN L [id]).take i ++ [x])))]) := by
    rw [show kG F.fmt v0 v1 u2 u3 u4 L2 ++ (ex ++ [b5, some (.map mv (pm (upd pv x j) ((QN L [id]).take i ++ [x]))), nb]) = (kG F.fmt v0 v1 u2 u3 u4 L2 ++ (ex ++ [b5, some (.map mv (pm (upd pv x j) ((QN L [id]).take i ++ [x])))])) ++ [nb] by simp]
    rw [List.take_left' (by simp [kG]; omega)]
   rw [e] at this
   exact this
  ·exact zL _
 have hleaf := fun h3 h4 => hI.leaf hG.ok hni hD hin h3 h4
 have hcell := fun h3 => Qxg hG.ok hI hni hD hin h3 (QdV hs hx (hcl _ (Qr1 hG.ok hin h3).2.2) (Qr1 hG.ok hin h3).2.1)
 have hcy := fun h3 => Qr0 (pv := pv) (QdV hs hx (hcl _ (Qr1 hG.ok hin h3).2.2) (Qr1 hG.ok hin h3).2.1)
 have hbin : (nd L x).kind = 4 → ∃ f r, (inG L' (pv (nd L x).x) ∧ inG L' (pv (nd L x).y) ∧ (1 ≤ (nd L x).op ∧ (nd L x).op ≤ 16)) ∧ XM f L' (nd L x).op (pv (nd L x).x) (pv (nd L x).y) = some r ∧ r.2.length ≤ 1000000 ∧ OfI L Wd ((QN L [id]).take i ++ [x]) (upd pv x r.1) r.2 := by
  intro h4
  have m1 := QdV hs hx (hcl _ (Qho hG.ok hin h4).2.2.2.2.1) (Qho hG.ok hin h4).2.2.1
  have m2 := QdV hs hx (hcl _ (Qho hG.ok hin h4).2.2.2.2.2) (Qho hG.ok hin h4).2.2.2.1
  rcases hlen.2 with ⟨hw, hl⟩ | hp
  ·obtain ⟨r, q1, q2, q3, q4⟩ := Qzi hG.ok hI hni hD hin h4 m1 m2 hw
   exact ⟨_, r, q1, q2, by omega, q4⟩
  ·obtain ⟨q1, f, q2⟩ := Qxr hG.ok hI hin h4 m1 m2 hp
   exact ⟨f, (x, L'), q1, q2, hlen.1, hI.plain hG.ok hni hD hp⟩
 have hbx := fun h4 => Qr0 (pv := pv) (QdV hs hx (hcl _ (Qho hG.ok hin h4).2.2.2.2.1) (Qho hG.ok hin h4).2.2.1)
 have hby := fun h4 => Qr0 (pv := pv) (QdV hs hx (hcl _ (Qho hG.ok hin h4).2.2.2.2.2) (Qho hG.ok hin h4).2.2.2.1)
 have hput := fun j => pm_put (pv := pv) (j := j) hni
 have hok' := hI.gr.ok
 generalize nd L x = d at *
 replace hlen := hlen.1
 clear hcl hD hni hs hUo htk hB
 generalize QN L [id] = U at *
 refine QA [(0, .ptr 1 v0 0), (1, .int .i64 id), (7, .mp (5 + (ex.length + 1)) mv), (24, .lst 1 (U.map (V.int .i64)) false), (25, .int .i64 U.length), (26, .int .i64 ((i : Nat) : Int))] ⟨f0, f1, f7, f24, f25, f26, trivial⟩  1000 ?_
 simp -implicitDefEqProofs (disch := omega) only [go_sem, Qr, ↓reduceIte, reduceCtorEq, rq, zA, decide_true, lR, Qt2, Qt1, Qt0, QtZ, Qnb, Qna, Qm9, Qm8, Qm7, Qm6, lM, lC, lN, true_implies, and_true, hlt, hg]
 refine call hT Qu (Qfa hT) 1000 fun v σ hv => ?_
 obtain ⟨rfl, t1, ht1, rfl⟩ := hv
 rw [if_pos hgx, e]
 by_cases h3 : d.kind = 3
 ·have hy := hcy h3
  have hst := hcell h3
  have hky := YT .i64 (fun x => .int .i64 (pv x)) (U.take i) d.y
  simp -implicitDefEqProofs (disch := omega) only [go_sem, ↓reduceIte, reduceCtorEq, rA, rq, rL, rT, zA, aZ, nF, lR, zL, beq_self_eq_true, Qa, Qac, Qwn, Qqt, lA, lC, lN, aA, cA, nA, tZ, true_implies, and_true, Nd.cells, h3, hy, hky]
  refine call hT Qgm (Qwt hT F ha64 hn64 (by omega)) 1000 fun v σ hv => ?_
  obtain ⟨rfl, t2, u2, u3, u4, ht2, rfl⟩ := hv
  have hp := hput (QGY L' d.a d.n (pv d.y)).1
  have hkx := YT .i64 (fun x => .int .i64 (pv x)) (U.take i) x
  simp -implicitDefEqProofs (disch := omega) only [go_sem, ↓reduceIte, reduceCtorEq, rq, nF, zL, Qac, QbT, and_true, hp, hkx, e2]
  refine fin hst (by omega) ?_ ?_ ?_ ?_ ?_ ?_ <;> simp -implicitDefEqProofs (disch := omega) only [go_sem, ↓reduceIte, reduceCtorEq, rq]
 ·by_cases h4 : d.kind = 4
  ·have hx' := hbx h4
   have hy := hby h4
   obtain ⟨f, r, hin3, hr, hrl, hst⟩ := hbin h4
   have hkxx := YT .i64 (fun x => .int .i64 (pv x)) (U.take i) d.x
   have hky := YT .i64 (fun x => .int .i64 (pv x)) (U.take i) d.y
   simp -implicitDefEqProofs (disch := omega) only [go_sem, ↓reduceIte, reduceCtorEq, rA, rq, rL, rT, Int.reduceEq, zA, aZ, nF, lR, zL, beq_self_eq_true, Qa, Qac, Qwn, Qqt, lA, lC, lN, aA, cA, nA, tZ, false_implies, true_implies, true_and, and_true, not_false_eq_true, Nd.cells, h4, hx', hy, hkxx, hky]
   refine call hT Qe (QbU hT F hP f hok' (by omega) (r := r) (by omega) (by rw [QiC, if_pos hin3]; exact hr)) 1000 fun v σ hv => ?_
   obtain ⟨rfl, t2, u2, u3, u4, ht2, rfl⟩ := hv
   have hp := hput r.1
   have hkx := YT .i64 (fun x => .int .i64 (pv x)) (U.take i) x
   simp -implicitDefEqProofs (disch := omega) only [go_sem, ↓reduceIte, reduceCtorEq, rq, nF, zL, Qac, QbT, and_true, hp, hkx, e2]
   refine fin hst (by omega) ?_ ?_ ?_ ?_ ?_ ?_ <;> simp -implicitDefEqProofs (disch := omega) only [go_sem, ↓reduceIte, reduceCtorEq, rq]
  ·have hst := hleaf h3 h4
   have hp := hput x
   have hkx := YT .i64 (fun x => .int .i64 (pv x)) (U.take i) x
   simp -implicitDefEqProofs (disch := omega) only [go_sem, ↓reduceIte, reduceCtorEq, rA, rq, rL, rT, zA, aZ, nF, lR, zL, Qa, Qac, Qwn, QbT, Qqt, lA, lC, lN, aA, cA, nA, tZ, false_implies, true_implies, true_and, and_true, not_false_eq_true, Nd.cells, h3, h4, hp, hkx, e2]
   refine fin hst (by omega) ?_ ?_ ?_ ?_ ?_ ?_ <;> simp -implicitDefEqProofs (disch := omega) only [go_sem, ↓reduceIte, reduceCtorEq, rq]
theorem Qx3 (L : List Nd) (id : Int) : (QN L [id]).length ≤ L.length := by
 have := Qko (QcX L [id] [] ⟨List.nodup_nil, by simp⟩)
 simpa [QN] using this
theorem Qqx (hT : Qj P tab) (F : Fmt P G) (SO : ZG P) (hP : Bits P G) (Wd : Nat) {v0 v1 v2 v3 v4 t : Nat} {L : List Nd} {ex : List (Option Ob)} {id : Int} (hG : Gr L) (hB : Room L (QN L [id]) Wd) :
 C P G 0 Qkt [.ptr 1 v0 0, .int .i64 id] ⟨t, kG F.fmt v0 v1 v2 v3 v4 L ++ ex⟩ (QxH F.fmt v0 v1 ex t (StepO L id Wd)) := by
 refine Ql (5 + ex.length) (zL _) (Qx hT ZC (by simp [Qgs]) (Qs 1000 ?_))
 refine yU ?_
 refine call hT Qu (Qfa hT) 1000 fun v σ hv => ?_
 obtain ⟨rfl, t1, ht1, rfl⟩ := hv
 have hl := Qx3 L id
 have hL : L.length ≤ 1000000 := by
  rcases hB with ⟨_, h⟩ | ⟨_, h⟩ <;> omega
 by_cases hx : inG L id
 ·have hx' : 0 ≤ id ∧ id < L.length := hx
  rw [if_pos hx']
  generalize L.getD id.toNat zeroNd = d
  refine yu ?_
  refine call hT Zf (QD5 hT SO (by omega) hG.ok.wf [id] 1 true (.inl rfl) (by simp)) 1000 fun v σ hv => ?_
  obtain ⟨rfl, t2, ht2, rfl⟩ := hv
  have hself := QeF hG.ok.wf hx'.1 hx'.2
  refine yS ?_
  refine Qcw (QN L [id]) (ofJ F.fmt v0 v1 t1 (t1 + 1) (some (.arr t1 57 d.cells)) L ex (QN L [id]) id Wd) (ofE F.fmt v0 v1 t1 (t1 + 1) (some (.arr t1 57 d.cells)) L ex (QN L [id]) id Wd) ?_ (fun i x hx fr σ hJ => Qyx hT F hP hG hB (by omega) i x hx fr σ hJ) (fun i hi fr σ hJ => ?_) (fun e fr σ hE => ?_)
  ·refine ⟨t2, v2, v3, v4, fun _ => 0, L, OfI.start hG Wd, by omega, ?_⟩
   refine ya ?_
   exact ⟨rfl, rfl⟩
  ·obtain ⟨t', w2, w3, w4, pv, L', hI, ht, f0, f1, f7, f24, f25, f26, rfl⟩ := hJ
   rw [hi, List.take_length] at hI ⊢
   rw [hi] at f26
   clear hi
   generalize QN L [id] = U at *
   generalize hi : U.length = i at *
   refine QA [(0, .ptr 1 v0 0), (1, .int .i64 id), (7, .mp (5 + (ex.length + 1)) (t1 + 1)), (24, .lst 1 (U.map (V.int .i64)) false), (25, .int .i64 ((i : Nat) : Int)), (26, .int .i64 ((i : Nat) : Int))] ⟨f0, f1, f7, f24, f25, f26, trivial⟩  1000 ?_
   simp -implicitDefEqProofs (disch := omega) only [go_sem, ↓reduceIte, reduceCtorEq, rq, decide_false, Nat.lt_irrefl]
   exact ⟨rfl, t', w2, w3, w4, pv, L', hI, ht, yb, yb, rfl⟩
  ·obtain ⟨rfl, t', w2, w3, w4, pv, L', hI, ht, f1, f7, rfl⟩ := hE
   have hget := Qr0 (pv := pv) hself
   have hky := YT .i64 (fun x => .int .i64 (pv x)) (QN L [id]) id
   refine QI 1000 ?_
   simp -implicitDefEqProofs (disch := omega) only [go_sem, ↓reduceIte, rA, rq, zA, Qa, Qac, Qh, lA, lC, lN, and_true, f1, f7, hget, hky]
   exact ⟨by omega, pv id, L', ⟨fun _ => ⟨pv, hI, rfl⟩, fun h => absurd hx h⟩, rfl, t', w2, w3, w4, by omega, rfl⟩
 ·have hx' : ¬ (0 ≤ id ∧ id < L.length) := hx
  rw [if_neg hx']
  refine yQ ?_
  exact ⟨by omega, -1, L, ⟨fun h => absurd h hx, fun _ => ⟨rfl, rfl⟩⟩, rfl, _, v2, v3, v4, by omega, rfl⟩
end Go.Proofs.YtpdeoalocejodaaGreatDoor
namespace Go.Proofs.YtpdeoalocejodaaGreatDoor
open Go Go.Am
set_option maxRecDepth 100000
set_option maxHeartbeats 2000000
theorem QwC {k w z : Nat} {cs l : List V} {b : Bool} : Qc3 k w cs (.lst z l b) = .lst z l b := rfl
theorem QD7 {k w : Nat} {cs : List V} {t : IntKind} {i : Int} : Qc3 k w cs (.int t i) = .int t i := rfl
theorem QqF {k w : Nat} {cs : List V} {b : Bool} : Qc3 k w cs (.bool b) = .bool b := rfl
theorem Qmm (l : List Nd) : (Qef l).length ≤ l.length := by
 have hA := Qop l []
 have hAe : Qef l = l.foldl (fun L d => (addN L d).2) [] := rfl
 rw [← hAe] at hA
 simpa using hA
end Go.Proofs.YtpdeoalocejodaaGreatDoor
