/- Terms made plain: the graph grows by little. -/
import Derived.Test.YtpdeoalocejodaaGreatDoorJ6
namespace Go.Proofs.YtpdeoalocejodaaGreatDoor
open Go Go.Am
set_option maxRecDepth 100000
set_option maxHeartbeats 1000000
theorem Qqs (L : List Nd) (d : Nd) : (addN L d).2.length ≤ L.length + 1 := by
 unfold addN
 split
 ·split <;> simp
 ·simp
theorem Qab (L : List Nd) (n : Int) : (numN L n).2.length ≤ L.length + 1 := Qqs L _
theorem Ql1 {bin : ZR} {L : List Nd} {op x y : Int} {p q : Option Int} {r s : GR} {g : Nat} (hs : XA bin L op x y p q = some s) (h1 : s.1 ≠ -1 → s.2.length ≤ L.length + g) (h2 : s.1 = -1 → s.2.length + 1 ≤ L.length + g) (h : Y4 bin L op x y p q = some r) : r.2.length ≤ L.length + g := by
 unfold Y4 X2 at h
 rw [hs] at h
 simp only [Option.bind_some] at h
 split at h
 ·rename_i hne; cases h; exact h1 hne
 ·rename_i hne
  cases h
  have := Qqs s.2 ⟨4, 0, 0, op, x, y⟩
  have := h2 (Decidable.byContradiction fun h => hne h)
  show (addN s.2 ⟨4, 0, 0, op, x, y⟩).2.length ≤ _
  omega
theorem eq_len {bin : ZR} {L : List Nd} {b z : Int} {r : GR} (hb : Yt L b = true) (hz : QE L z = some 0) (h : QcB bin L 16 b z = some r) : r.2.length ≤ L.length + 1 := by
 unfold QcB at h
 rw [hz] at h
 cases hn : QE L b with
 | some a => rw [hn] at h; cases h; exact Qab _ _
 | none =>
   rw [hn] at h
   simp only [Option.isSome_none, reduceCtorEq, false_and, or_self, and_false, Bool.false_eq_true, if_false] at h
   have hs : ∃ s, XA bin L 16 b z none (some 0) = some s ∧ (s = numN L 1 ∨ s.2 = L) := by
    unfold XA
    split
    ·exact ⟨_, rfl, .inl (by simp [ZI])⟩
    ·have e1 : QT L 16 b 0 = (-1, L) := by simp [QT, QQ]
     have e2 : Xm bin L 16 b 0 = some (-1, L) := by simp [Xm]
     have e3 : Xf bin L 16 b 0 = some (-1, L) := by
      unfold Xf
      split
      ·simp [XB]
      ·rfl
     have o1 := Qai (op := 1) hb hn (by omega)
     have o10 := Qai (op := 10) hb hn (by omega)
     have o2 := Qai (op := 2) hb hn (by omega)
     have e4 : Q6 bin L 16 b 0 = some (-1, L) := by simp [Q6, Y8 o1, Y8 o10, o10, o2]
     simp only [QU, e1, QD, e2]
     unfold Xv
     rw [if_neg (by simp [hb]), if_neg (by omega), if_neg (by omega), if_neg (by omega)]
     split
     ·split
      ·rename_i h1
       rw [Z0 (YA (X7 h1.2.2))]; exact ⟨_, rfl, .inr rfl⟩
      ·rw [QD, e3, QD, e4]; exact ⟨_, rfl, .inr rfl⟩
     ·rw [QD, e3, QD, e4]; exact ⟨_, rfl, .inr rfl⟩
   obtain ⟨s, hs, hs2⟩ := hs
   refine Ql1 hs (fun _ => ?_) (fun hm => ?_) h
   ·rcases hs2 with rfl | h2
    ·exact Qab _ _
    ·rw [h2]; omega
   ·rcases hs2 with rfl | h2
    ·exact absurd hm (QZ L 1).2.2.2
    ·rw [h2]; omega
theorem QFE {bin : ZR} {L : List Nd} {b z c : Int} {r : GR} (hb : Yt L b = true) (hz : QE L z = some c) (hc : c % 2 = 0) (h : QcB bin L 10 b z = some r) : r.2.length ≤ L.length + 1 := by
 unfold QcB at h
 rw [hz] at h
 cases hn : QE L b with
 | some a => rw [hn] at h; cases h; exact Qab _ _
 | none =>
   rw [hn] at h
   simp only [Option.isSome_none, reduceCtorEq, false_and, or_self, and_false, Bool.false_eq_true, if_false] at h
   have hs : ∃ s, XA bin L 10 b z none (some c) = some s ∧ (s = numN L 0 ∨ s.2 = L) := by
    unfold XA
    split
    ·exact ⟨_, rfl, .inl (by simp [ZI])⟩
    ·have o10 := Qai (op := 10) hb hn (by omega)
     have e2 : Xm bin L 10 b c = some (-1, L) := by simp [Xm]
     have e3 : Xv bin L 10 b c = some (-1, L) := by
      unfold Xv
      rw [if_neg (by simp [hb]), if_neg (by omega), if_neg (by omega), if_neg (by omega)]
      split
      ·rw [if_neg (by omega)]
      ·rfl
     have e4 : Xf bin L 10 b c = some (-1, L) := by simp [Xf, Y8 o10]
     have e5 : Q6 bin L 10 b c = some (-1, L) := by simp [Q6]
     show ∃ s, QU bin L 10 b c = some s ∧ _
     unfold QU
     by_cases h0 : c = 0
     ·have e1 : QT L 10 b c = (b, L) := by simp [QT, QQ, h0]
      rw [e1, Z0 (YA (X7 hb))]; exact ⟨_, rfl, .inr rfl⟩
     ·have e1 : QT L 10 b c = (-1, L) := by
       have : ¬ (0 : Int) = c := fun h => h0 h.symm
       simp [QT, QQ, this]
      rw [e1, QD, e2, QD, e3, QD, e4, QD, e5]; exact ⟨_, rfl, .inr rfl⟩
   obtain ⟨s, hs, hs2⟩ := hs
   refine Ql1 hs (fun _ => ?_) (fun hm => ?_) h
   ·rcases hs2 with rfl | h2
    ·exact Qab _ _
    ·rw [h2]; omega
   ·rcases hs2 with rfl | h2
    ·exact absurd hm (QZ L 0).2.2.2
    ·rw [h2]; omega
def Qzn (bin : ZR) (g : Nat) : Prop := ∀ L op x y r, okN L → inG L x → inG L y → (1 ≤ op ∧ op ≤ 16) → bin L op x y = some r → r.2.length ≤ L.length + g
theorem Zx {bin : ZR} {g : Nat} (hg : Qzn bin g) {L : List Nd} (hok : okN L) {op x n : Int} (hx : inG L x) (ho : 1 ≤ op ∧ op ≤ 16) (hn : i64 n) {r : GR} (h : withN bin L op x n = some r) : r.2.length ≤ L.length + g + 1 := by
 obtain ⟨h1, h2, h3, h4⟩ := QZ L n
 have h5 : r.2.length ≤ (numN L n).2.length + g := hg _ _ _ _ _ (Xs hok hn (show i64 0 by unfold i64; omega)) (XF h3 hx).1 h1 ho h
 have := Qab L n
 omega
theorem QjB {L : List Nd} {q : Option GR} {k : List Nd → Option GR} {r : GR} {m : Nat} (hq : ∀ s, q = some s → ZL L s ∧ s.2.length ≤ m) (hk : k L = some r → r.2.length ≤ m) (h : X2 q k = some r) : r.2.length ≤ m := by
 unfold X2 at h
 cases q with
 | none => cases h
 | some s =>
   simp only [Option.bind_some] at h
   obtain ⟨h1, h2⟩ := hq s rfl
   split at h
   ·cases h; exact h2
   ·rename_i hne
    rcases h1 with h1 | h1
    ·exact absurd h1 hne
    ·rw [h1] at h; exact hk h
theorem QsZ {f g : Nat} (hg : Qzn (XM f) g) {L : List Nd} (hok : okN L) {op x c : Int} (hx : inG L x) (ho : 1 ≤ op ∧ op ≤ 16) (hc : i64 c) (hK : Yy [] [] (XM f)) {r : GR} (h : QU (XM f) L op x c = some r) : r.2.length ≤ L.length + g + 3 := by
 have i0 : i64 0 := by unfold i64; omega
 unfold QU at h
 refine QjB (fun s hs => ⟨by cases hs; exact YY hx, ?_⟩) (fun h => ?_) h
 ·cases hs
  unfold QT
  have a0 := Qab L 0
  have a1 := Qab L (-1)
  repeat' split
  all_goals (first | omega | (show L.length ≤ _; omega))
 refine QjB (fun s hs => ⟨YW hK hok hx hc hs, ?_⟩) (fun h => ?_) h
 ·unfold Xm at hs
  have h64 : i64 (c % 64) := by unfold i64; omega
  split at hs
  ·have := Zx hg hok hx (by omega) (Qq _) hs; omega
  split at hs
  ·have := Zx hg hok hx (by omega) (Qq _) hs; omega
  split at hs
  ·have := Zx hg hok hx (by omega) h64 hs; omega
  split at hs
  ·rename_i h'
   obtain ⟨k, hk'⟩ := Option.isSome_iff_exists.1 h'.2
   have hk2 := (Yf hk').1
   rw [hk'] at hs
   have := Zx hg hok hx (by omega) (show i64 ((k : Nat) : Int) by unfold i64; omega) hs; omega
  split at hs
  ·have := Zx hg hok hx (by omega) (Qq _) hs; omega
  split at hs
  ·have := Zx hg hok hx (by omega) i0 hs; omega
  ·cases hs; show L.length ≤ _; omega
 refine QjB (fun s hs => ⟨YV hK hok hc hs, ?_⟩) (fun h => ?_) h
 ·unfold Xv at hs
  split at hs
  ·cases hs; show L.length ≤ _; omega
  rename_i hbo
  have hbo : Yt L x = true := by simpa using hbo
  split at hs
  ·cases hs; show L.length ≤ _; omega
  split at hs
  ·cases hs; have := Qab L 0; omega
  split at hs
  ·rename_i h5
   cases hq : withN (XM f) L 16 x 0 with
   | none => rw [hq] at hs; cases hs
   | some q =>
     rw [hq] at hs
     simp only [Option.bind_some] at hs
     have l1 := Zx hg hok hx (by omega) i0 hq
     have hbq := QeD (Qct f) hok hx i0 hq
     obtain ⟨k1, k2, k3, k4⟩ := QZ q.2 (doW 10 c 1)
     have l2 := Qab q.2 (doW 10 c 1)
     cases f with
     | zero => cases hs
     | succ f =>
       have l3 := QFE (bin := XM f) (by rw [Qcs k3 (X7 hbq)]; exact hbq) k2 (Qj3 h5.2) hs
       omega
  split at hs
  ·split at hs
   ·cases hs; show L.length ≤ _; omega
   ·cases hs; show L.length ≤ _; omega
  ·cases hs; show L.length ≤ _; omega
 refine QjB (fun s hs => ⟨YX hK hok ho hc hs, ?_⟩) (fun h => ?_) h
 ·unfold Xf at hs
  split at hs
  ·rename_i y d hta
   obtain ⟨t1, t2, t3, _⟩ := ZJ hok hta
   split at hs
   ·have := Zx hg hok t1 ho (Xz t3 hc) hs; omega
   ·cases hs; show L.length ≤ _; omega
  ·cases hs; show L.length ≤ _; omega
 unfold Q6 at h
 split at h
 ·cases h; show L.length ≤ _; omega
 split at h
 ·rename_i y d hta
  obtain ⟨t1, t2, t3, _⟩ := ZJ hok hta
  have := Zx hg hok t1 (by omega) (Qq _) h; omega
 split at h
 ·rename_i y d hta
  obtain ⟨t1, t2, t3, _⟩ := ZJ hok hta
  have := Zx hg hok t1 (by omega) (Xz hc t3) h; omega
 split at h
 ·rename_i u v hof
  obtain ⟨t1, t2, _⟩ := Qmr hok hof
  split at h
  ·have := hg _ _ _ _ _ hok t1 t2 (by omega) h; omega
  ·cases h; show L.length ≤ _; omega
 split at h
 ·rename_i u v hof
  obtain ⟨t1, t2, _⟩ := Qmr hok hof
  split at h
  ·have := hg _ _ _ _ _ hok t1 t2 (by omega) h; omega
  ·cases h; show L.length ≤ _; omega
 ·cases h; show L.length ≤ _; omega
theorem Qn6 {f g : Nat} (hg : Qzn (XM f) g) {L : List Nd} (hok : okN L) {op x y : Int} (hx : inG L x) (hy : inG L y) (ho : 1 ≤ op ∧ op ≤ 16) (hK : Yy [] [] (XM f)) {r : GR} (h : Y4 (XM f) L op x y (QE L x) (QE L y) = some r) : r.2.length ≤ L.length + g + 4 := by
 cases hs : XA (XM f) L op x y (QE L x) (QE L y) with
 | none => unfold Y4 X2 at h; rw [hs] at h; cases h
 | some s =>
   have hl : s.2.length ≤ L.length + g + 3 := by
    unfold XA at hs
    split at hs
    ·cases hs
     have a0 := Qab L 0
     have a1 := Qab L 1
     unfold ZI
     repeat' split
     all_goals (first | omega | (show L.length ≤ _; omega))
    ·split at hs
     ·rename_i b hq
      exact QsZ hg hok hx ho (Xo (S := []) (C := []) hok hq).2 hK hs
     ·split at hs
      ·rename_i h1
       obtain ⟨hp, rfl⟩ := h1
       cases hr : XM f L 16 y x with
       | none => rw [hr] at hs; cases hs
       | some q =>
         rw [hr] at hs
         simp only [Option.bind_some] at hs
         have l1 := hg _ _ _ _ _ hok hy hx (by omega) hr
         obtain ⟨g1, g2⟩ := hK _ _ _ _ _ hok hy hx (by omega) hr
         have hbq := Qct f _ _ _ _ hy hx hok hr
         cases f with
         | zero => cases hs
         | succ f =>
           have l3 := eq_len (bin := XM f) hbq (by rw [Qg g1.pre hx]; exact hp) hs
           omega
      ·cases hs; show L.length ≤ _; omega
   have := Ql1 (g := g + 4) hs (fun _ => by omega) (fun _ => by omega) h
   omega
theorem QkW : ∀ f, Qzn (XM f) (4 * f)
 | 0 => fun L op x y r _ _ _ _ h => by cases h
 | f + 1 => fun L op x y r hok hx hy ho h => by
   have hg := QkW f
   have hK : Yy [] [] (XM f) := QdP (fun L hok x => Qcv (by simp) (by simp) (Qcx hok) x) f
   unfold XM QcB at h
   split at h
   ·rename_i a b _ _
    cases h
    have := Qab L (doW op a b)
    omega
   ·split at h
    ·have := Qn6 hg hok hy hx ho hK h; omega
    ·have := Qn6 hg hok hx hy ho hK h; omega
theorem QO {L : List Nd} {z c : Int} (h : QE L z = some c) : inG L z := by
 unfold QE at h
 split at h
 ·rename_i h1; exact h1.1
 ·cases h
theorem wt_add {L : List Nd} (hok : okN L) {op x y : Int} (ho : 1 ≤ op ∧ op ≤ 16) (hx : inG L x) (hy : inG L y) : wt (addN L ⟨4, 0, 0, op, x, y⟩).2 (addN L ⟨4, 0, 0, op, x, y⟩).1 = 1 + max (wt L x) (wt L y) := by
 obtain ⟨h1, h2⟩ := QhX (Qbq ho hx hy)
 have hok2 : okN (addN L ⟨4, 0, 0, op, x, y⟩).2 := Xs hok (show i64 0 by unfold i64; omega) (show i64 0 by unfold i64; omega)
 have hp := Qcu L ⟨4, 0, 0, op, x, y⟩
 have e : ofI (addN L ⟨4, 0, 0, op, x, y⟩).2 (addN L ⟨4, 0, 0, op, x, y⟩).1 op = some (x, y) := by
  unfold ofI; rw [h2, if_pos ⟨h1, rfl, rfl⟩]
 rw [Qp8 hok2 e, X8 hp hx, X8 hp hy]
theorem Qdi (L : List Nd) (n : Int) : wt (numN L n).2 (numN L n).1 = 0 := Xu (QZ L n).2.1
theorem Ql2 {bin : ZR} {L : List Nd} (hok : okN L) {op x y : Int} (ho : 1 ≤ op ∧ op ≤ 16) (hx : inG L x) (hy : inG L y) {p q : Option Int} {r s : GR} {g : Nat} (hs : XA bin L op x y p q = some s) (hn : ZL L s) (h1 : s.1 ≠ -1 → wt s.2 s.1 ≤ g) (h2 : 1 + max (wt L x) (wt L y) ≤ g) (h : Y4 bin L op x y p q = some r) : wt r.2 r.1 ≤ g := by
 unfold Y4 X2 at h
 rw [hs] at h
 simp only [Option.bind_some] at h
 split at h
 ·rename_i hne; cases h; exact h1 hne
 ·rename_i hne
  cases h
  rcases hn with hn | hn
  ·exact absurd hn hne
  ·subst hn
   rw [wt_add hok ho hx hy]
   exact h2
theorem eq_dep {bin : ZR} {L : List Nd} (hok : okN L) {b z : Int} {r : GR} (hb : Yt L b = true) (hz : QE L z = some 0) (h : QcB bin L 16 b z = some r) : wt r.2 r.1 ≤ wt L b + 1 := by
 have hzi : inG L z := (QO hz)
 unfold QcB at h
 rw [hz] at h
 cases hn : QE L b with
 | some a => rw [hn] at h; cases h; rw [Qdi]; omega
 | none =>
   rw [hn] at h
   simp only [Option.isSome_none, reduceCtorEq, false_and, or_self, and_false, Bool.false_eq_true, if_false] at h
   have hs : ∃ s, XA bin L 16 b z none (some 0) = some s ∧ ZL L s ∧ (s.1 ≠ -1 → wt s.2 s.1 ≤ wt L b + 1) := by
    unfold XA
    split
    ·refine ⟨_, rfl, .inl ?_, fun _ => ?_⟩
     ·simp only [ZI]; exact (QZ L 1).2.2.2
     ·simp only [ZI]
      show wt (numN L 1).2 (numN L 1).1 ≤ _
      rw [Qdi]; omega
    ·have e1 : QT L 16 b 0 = (-1, L) := by simp [QT, QQ]
     have e2 : Xm bin L 16 b 0 = some (-1, L) := by simp [Xm]
     have e3 : Xf bin L 16 b 0 = some (-1, L) := by
      unfold Xf
      split
      ·simp [XB]
      ·rfl
     have o1 := Qai (op := 1) hb hn (by omega)
     have o10 := Qai (op := 10) hb hn (by omega)
     have o2 := Qai (op := 2) hb hn (by omega)
     have e4 : Q6 bin L 16 b 0 = some (-1, L) := by simp [Q6, Y8 o1, Y8 o10, o10, o2]
     simp only [QU, e1, QD, e2]
     unfold Xv
     rw [if_neg (by simp [hb]), if_neg (by omega), if_neg (by omega), if_neg (by omega)]
     split
     ·rename_i y d hta
      split
      ·rename_i h1
       rw [Z0 (YA (X7 h1.2.2))]
       have := QeC hok hta
       exact ⟨_, rfl, .inl (YA (X7 h1.2.2)), fun _ => by show wt L y ≤ _; omega⟩
      ·rw [QD, e3, QD, e4]; exact ⟨_, rfl, .inr rfl, fun h => absurd rfl h⟩
     ·rw [QD, e3, QD, e4]; exact ⟨_, rfl, .inr rfl, fun h => absurd rfl h⟩
   obtain ⟨s, hs, hN, hs2⟩ := hs
   refine Ql2 hok (by omega) (X7 hb) hzi hs hN hs2 ?_ h
   rw [Xu hz]; omega
theorem QFF {bin : ZR} {L : List Nd} (hok : okN L) {b z c : Int} {r : GR} (hb : Yt L b = true) (hz : QE L z = some c) (hc : c % 2 = 0) (h : QcB bin L 10 b z = some r) : wt r.2 r.1 ≤ wt L b + 1 := by
 have hzi : inG L z := (QO hz)
 unfold QcB at h
 rw [hz] at h
 cases hn : QE L b with
 | some a => rw [hn] at h; cases h; rw [Qdi]; omega
 | none =>
   rw [hn] at h
   simp only [Option.isSome_none, reduceCtorEq, false_and, or_self, and_false, Bool.false_eq_true, if_false] at h
   have hs : ∃ s, XA bin L 10 b z none (some c) = some s ∧ ZL L s ∧ (s.1 ≠ -1 → wt s.2 s.1 ≤ wt L b + 1) := by
    unfold XA
    split
    ·refine ⟨_, rfl, .inl ?_, fun _ => ?_⟩
     ·simp only [ZI]; exact (QZ L 0).2.2.2
     ·simp only [ZI]
      show wt (numN L 0).2 (numN L 0).1 ≤ _
      rw [Qdi]; omega
    ·have o10 := Qai (op := 10) hb hn (by omega)
     have e2 : Xm bin L 10 b c = some (-1, L) := by simp [Xm]
     have e3 : Xv bin L 10 b c = some (-1, L) := by
      unfold Xv
      rw [if_neg (by simp [hb]), if_neg (by omega), if_neg (by omega), if_neg (by omega)]
      split
      ·rw [if_neg (by omega)]
      ·rfl
     have e4 : Xf bin L 10 b c = some (-1, L) := by simp [Xf, Y8 o10]
     have e5 : Q6 bin L 10 b c = some (-1, L) := by simp [Q6]
     show ∃ s, QU bin L 10 b c = some s ∧ _
     unfold QU
     by_cases h0 : c = 0
     ·have e1 : QT L 10 b c = (b, L) := by simp [QT, QQ, h0]
      rw [e1, Z0 (YA (X7 hb))]
      exact ⟨_, rfl, .inl (YA (X7 hb)), fun _ => by show wt L b ≤ _; omega⟩
     ·have e1 : QT L 10 b c = (-1, L) := by
       have : ¬ (0 : Int) = c := fun h => h0 h.symm
       simp [QT, QQ, this]
      rw [e1, QD, e2, QD, e3, QD, e4, QD, e5]; exact ⟨_, rfl, .inr rfl, fun h => absurd rfl h⟩
   obtain ⟨s, hs, hN, hs2⟩ := hs
   refine Ql2 hok (by omega) (X7 hb) hzi hs hN hs2 ?_ h
   rw [Xu hz]; omega
def QdI (op : Int) : Nat := if op = 16 then 1 else 2
theorem QmF (op : Int) : 1 ≤ QdI op ∧ QdI op ≤ 2 := by unfold QdI; split <;> omega
theorem QhI {op : Int} (h : op ≠ 16) : QdI op = 2 := by unfold QdI; rw [if_neg h]
def DepB (bin : ZR) : Prop := ∀ L op x y r, okN L → inG L x → inG L y → (1 ≤ op ∧ op ≤ 16) → bin L op x y = some r → wt r.2 r.1 ≤ max (wt L x) (wt L y) + QdI op
theorem Zy {bin : ZR} (hg : DepB bin) {L : List Nd} (hok : okN L) {op x n : Int} (hx : inG L x) (ho : 1 ≤ op ∧ op ≤ 16) (hn : i64 n) {r : GR} (h : withN bin L op x n = some r) : wt r.2 r.1 ≤ wt L x + QdI op := by
 obtain ⟨h1, h2, h3, h4⟩ := QZ L n
 have h5 := hg _ _ _ _ _ (Xs hok hn (show i64 0 by unfold i64; omega)) (XF h3 hx).1 h1 ho h
 have e1 := X8 h3 hx
 have e2 := Xu h2
 have e3 : wt (addN L ⟨1, n, 0, 0, 0, 0⟩).2 x = wt L x := e1
 have e4 : wt (addN L ⟨1, n, 0, 0, 0, 0⟩).2 (numN L n).1 = 0 := e2
 rw [e3, e4] at h5
 omega
theorem QjC {L : List Nd} {q : Option GR} {k : List Nd → Option GR} {r : GR} {m : Nat} (hq : ∀ s, q = some s → ZL L s ∧ (s.1 ≠ -1 → wt s.2 s.1 ≤ m)) (hk : k L = some r → (r.1 ≠ -1 → wt r.2 r.1 ≤ m)) (h : X2 q k = some r) : r.1 ≠ -1 → wt r.2 r.1 ≤ m := by
 unfold X2 at h
 cases q with
 | none => cases h
 | some s =>
   simp only [Option.bind_some] at h
   obtain ⟨h1, h2⟩ := hq s rfl
   split at h
   ·cases h; exact h2
   ·rename_i hne
    rcases h1 with h1 | h1
    ·exact absurd h1 hne
    ·rw [h1] at h; exact hk h
theorem Qs1 {f : Nat} (hg : DepB (XM f)) {L : List Nd} (hok : okN L) {op x c : Int} (hx : inG L x) (ho : 1 ≤ op ∧ op ≤ 16) (hc : i64 c) (hK : Yy [] [] (XM f)) {r : GR} (h : QU (XM f) L op x c = some r) : r.1 ≠ -1 → wt r.2 r.1 ≤ wt L x + QdI op := by
 have i0 : i64 0 := by unfold i64; omega
 have hD := QmF op
 have n0 := Qdi L 0
 have nm := Qdi L (-1)
 unfold QU at h
 refine QjC (fun s hs => ⟨by cases hs; exact YY hx, ?_⟩) (fun h => ?_) h
 ·cases hs
  unfold QT
  repeat' split
  ·intro _; show wt L x ≤ _; omega
  ·intro _; omega
  ·intro _; omega
  ·intro _; omega
  ·intro h; exact absurd rfl h
 refine QjC (fun s hs => ⟨YW hK hok hx hc hs, fun hne => ?_⟩) (fun h => ?_) h
 ·unfold Xm at hs
  have h64 : i64 (c % 64) := by unfold i64; omega
  have d1 : QdI 1 = 2 := by decide
  have d3 : QdI 3 = 2 := by decide
  have d12 : QdI 12 = 2 := by decide
  have d8 : QdI 8 = 2 := by decide
  have d16 : QdI 16 = 1 := by decide
  split at hs
  ·rename_i h'; have := Zy hg hok hx (by omega) (Qq _) hs; rw [QhI (op := op) (by omega)]; omega
  split at hs
  ·rename_i h'; have := Zy hg hok hx (by omega) (Qq _) hs; rw [QhI (op := op) (by omega)]; omega
  split at hs
  ·have := Zy hg hok hx (by omega) h64 hs; omega
  split at hs
  ·rename_i h'
   obtain ⟨k, hk'⟩ := Option.isSome_iff_exists.1 h'.2
   have hk2 := (Yf hk').1
   rw [hk'] at hs
   have := Zy hg hok hx (by omega) (show i64 ((k : Nat) : Int) by unfold i64; omega) hs; rw [QhI (op := op) (by omega)]; omega
  split at hs
  ·rename_i h'; have := Zy hg hok hx (by omega) (Qq _) hs; rw [QhI (op := op) (by omega)]; omega
  split at hs
  ·have := Zy hg hok hx (by omega) i0 hs; omega
  ·cases hs; exact absurd rfl hne
 refine QjC (fun s hs => ⟨YV hK hok hc hs, fun hne => ?_⟩) (fun h => ?_) h
 ·unfold Xv at hs
  split at hs
  ·cases hs; exact absurd rfl hne
  rename_i hbo
  have hbo : Yt L x = true := by simpa using hbo
  split at hs
  ·cases hs; show wt L x ≤ _; omega
  split at hs
  ·cases hs; omega
  split at hs
  ·rename_i h5
   cases hq : withN (XM f) L 16 x 0 with
   | none => rw [hq] at hs; cases hs
   | some q =>
     rw [hq] at hs
     simp only [Option.bind_some] at hs
     have l1 := Zy hg hok hx (by omega) i0 hq
     have hbq := QeD (Qct f) hok hx i0 hq
     obtain ⟨g1, g2⟩ := QK hK hok hx (by omega) i0 hq
     obtain ⟨k1, k2, k3, k4⟩ := QZ q.2 (doW 10 c 1)
     have hok3 : okN (numN q.2 (doW 10 c 1)).2 := Xs g1.ok (show i64 (doW 10 c 1) from Xz hc (show i64 1 by unfold i64; omega)) i0
     have e3 := X8 k3 (X7 hbq)
     have d16 : QdI 16 = 1 := by decide
     cases f with
     | zero => cases hs
     | succ f =>
       have l3 := QFF (bin := XM f) hok3 (by rw [Qcs k3 (X7 hbq)]; exact hbq) k2 (Qj3 h5.2) hs
       rw [QhI (op := op) (by omega)]
       omega
  split at hs
  ·rename_i y d hta
   split at hs
   ·cases hs; have := QeC hok hta; show wt L y ≤ _; omega
   ·cases hs; exact absurd rfl hne
  ·cases hs; exact absurd rfl hne
 refine QjC (fun s hs => ⟨YX hK hok ho hc hs, fun hne => ?_⟩) (fun h hne => ?_) h
 ·unfold Xf at hs
  split at hs
  ·rename_i y d hta
   obtain ⟨t1, t2, t3, _⟩ := ZJ hok hta
   have hl := QeC hok hta
   split at hs
   ·have := Zy hg hok t1 ho (Xz t3 hc) hs; omega
   ·cases hs; exact absurd rfl hne
  ·cases hs; exact absurd rfl hne
 unfold Q6 at h
 have d16 : QdI 16 = 1 := by decide
 split at h
 ·cases h; exact absurd rfl hne
 split at h
 ·rename_i y d hta
  obtain ⟨t1, t2, t3, _⟩ := ZJ hok hta
  have hl := QeC hok hta
  have := Zy hg hok t1 (by omega) (Qq _) h; omega
 split at h
 ·rename_i y d hta
  obtain ⟨t1, t2, t3, _⟩ := ZJ hok hta
  have hl := QeC hok hta
  have := Zy hg hok t1 (by omega) (Xz hc t3) h; omega
 split at h
 ·rename_i u v hof
  obtain ⟨t1, t2, _⟩ := Qmr hok hof
  have hl := Qp8 hok hof
  split at h
  ·have := hg _ _ _ _ _ hok t1 t2 (by omega) h; omega
  ·cases h; exact absurd rfl hne
 split at h
 ·rename_i u v hof
  obtain ⟨t1, t2, _⟩ := Qmr hok hof
  have hl := Qp8 hok hof
  split at h
  ·have := hg _ _ _ _ _ hok t1 t2 (by omega) h; omega
  ·cases h; exact absurd rfl hne
 ·cases h; exact absurd rfl hne
theorem ruleN {f : Nat} {L : List Nd} (hok : okN L) {op x c : Int} (hx : inG L x) (ho : 1 ≤ op ∧ op ≤ 16) (hc : i64 c) {r : GR} (h : QU (XM f) L op x c = some r) : ZL L r := by
 have hK : Yy [] [] (XM f) := QdP (fun L hok x => Qcv (by simp) (by simp) (Qcx hok) x) f
 have st : ∀ {q : Option GR} {k : List Nd → Option GR}, (∀ s, q = some s → ZL L s) → (k L = some r → ZL L r) → X2 q k = some r → ZL L r := by
  intro q k h1 h2 h
  unfold X2 at h
  cases q with
  | none => cases h
  | some s =>
    simp only [Option.bind_some] at h
    split at h
    ·cases h; exact h1 _ rfl
    ·rename_i hne
     rcases h1 s rfl with h3 | h3
     ·exact absurd h3 hne
     ·subst h3; exact h2 h
 unfold QU at h
 refine st (fun s hs => by cases hs; exact YY hx) (fun h => ?_) h
 refine st (fun s hs => YW hK hok hx hc hs) (fun h => ?_) h
 refine st (fun s hs => YV hK hok hc hs) (fun h => ?_) h
 refine st (fun s hs => YX hK hok ho hc hs) (fun h => ?_) h
 unfold Q6 at h
 split at h
 ·cases h; exact .inr rfl
 split at h
 ·rename_i y d hta
  obtain ⟨t1, t2, t3, t4⟩ := Q8 (S := []) (C := []) hok hta
  exact .inl (QK hK hok t1 (by omega) (Qq _) h).2
 split at h
 ·rename_i y d hta
  obtain ⟨t1, t2, t3, t4⟩ := Q8 (S := []) (C := []) hok hta
  exact .inl (QK hK hok t1 (by omega) (Xz hc t3) h).2
 split at h
 ·rename_i y z hof
  obtain ⟨t1, t2, t3⟩ := Qa7 (S := []) (C := []) hok hof
  split at h
  ·exact .inl (hK _ _ _ _ _ hok t1 t2 (by omega) h).2
  ·cases h; exact .inr rfl
 split at h
 ·rename_i y z hof
  obtain ⟨t1, t2, t3⟩ := Qa7 (S := []) (C := []) hok hof
  split at h
  ·exact .inl (hK _ _ _ _ _ hok t1 t2 (by omega) h).2
  ·cases h; exact .inr rfl
 ·cases h; exact .inr rfl
theorem Qn7 {f : Nat} (hg : DepB (XM f)) {L : List Nd} (hok : okN L) {op x y : Int} (hx : inG L x) (hy : inG L y) (ho : 1 ≤ op ∧ op ≤ 16) (hK : Yy [] [] (XM f)) {r : GR} (h : Y4 (XM f) L op x y (QE L x) (QE L y) = some r) : wt r.2 r.1 ≤ max (wt L x) (wt L y) + QdI op := by
 have hD := QmF op
 cases hs : XA (XM f) L op x y (QE L x) (QE L y) with
 | none => unfold Y4 X2 at h; rw [hs] at h; cases h
 | some s =>
   have hl : ZL L s ∧ (s.1 ≠ -1 → wt s.2 s.1 ≤ max (wt L x) (wt L y) + QdI op) := by
    unfold XA at hs
    split at hs
    ·cases hs
     unfold ZI
     have n0 := Qdi L 0
     have n1 := Qdi L 1
     split
     ·exact ⟨.inl (QZ L 0).2.2.2, fun _ => by omega⟩
     ·split
      ·exact ⟨.inl (QZ L 1).2.2.2, fun _ => by omega⟩
      ·split
       ·exact ⟨.inl (YA hx), fun _ => by show wt L x ≤ _; omega⟩
       ·exact ⟨.inr rfl, fun h => absurd rfl h⟩
    ·split at hs
     ·rename_i b hq
      have hb := (Xo (S := []) (C := []) hok hq).2
      refine ⟨ruleN hok hx ho hb hs, fun hne => ?_⟩
      have := Qs1 hg hok hx ho hb hK hs hne
      omega
     ·split at hs
      ·rename_i h1
       obtain ⟨hp, rfl⟩ := h1
       cases hr : XM f L 16 y x with
       | none => rw [hr] at hs; cases hs
       | some q =>
         rw [hr] at hs
         simp only [Option.bind_some] at hs
         have l1 := hg _ _ _ _ _ hok hy hx (by omega) hr
         obtain ⟨g1, g2⟩ := hK _ _ _ _ _ hok hy hx (by omega) hr
         have hbq := Qct f _ _ _ _ hy hx hok hr
         have gx := (XF g1.pre hx).1
         have d16 : QdI 16 = 1 := by decide
         have d15 : QdI 15 = 2 := by decide
         refine ⟨.inl (hK _ _ _ _ _ g1.ok (g1.val g2).1 gx (by omega) hs).2, fun _ => ?_⟩
         cases f with
         | zero => cases hs
         | succ f =>
           have l3 := eq_dep (bin := XM f) g1.ok hbq (by rw [Qg g1.pre hx]; exact hp) hs
           omega
      ·cases hs; exact ⟨.inr rfl, fun h => absurd rfl h⟩
   exact Ql2 hok ho hx hy hs hl.1 hl.2 (by omega) h
theorem QsD : ∀ f, DepB (XM f)
 | 0 => fun L op x y r _ _ _ _ h => by cases h
 | f + 1 => fun L op x y r hok hx hy ho h => by
   have hg := QsD f
   have hK : Yy [] [] (XM f) := QdP (fun L hok x => Qcv (by simp) (by simp) (Qcx hok) x) f
   unfold XM QcB at h
   split at h
   ·cases h; rw [Qdi]; omega
   ·split at h
    ·have := Qn7 hg hok hy hx ho hK h; omega
    ·exact Qn7 hg hok hx hy ho hK h
theorem Qqy {d : Nd} {r : List Nd} : ∀ {M : List Nd} {i : Nat}, idx d M = some i → idx d (M ++ r) = some i
 | e :: M, i, h => by
   unfold idx at h
   simp only [List.cons_append]
   unfold idx
   split at h
   ·rename_i he; rw [if_pos he]; exact h
   ·rename_i he
    rw [if_neg he]
    cases hi : idx d M with
    | none => rw [hi] at h; cases h
    | some j => rw [hi] at h; rw [Qqy hi]; exact h
theorem Qwy {d : Nd} : ∀ {L : List Nd}, idx d L = none → idx d (L ++ [d]) = some L.length
 | [], _ => by simp [idx]
 | e :: L, h => by
   unfold idx at h
   simp only [List.cons_append]
   unfold idx
   split at h
   ·cases h
   ·rename_i he
    rw [if_neg he]
    cases hi : idx d L with
    | none => rw [Qwy hi]; rfl
    | some j => rw [hi] at h; cases h
theorem QD0 {d : Nd} {n m : Nat} (h : d.may n = true) (hn : n ≤ m) : d.may m = true := by
 unfold Nd.may at *
 rw [Bool.and_eq_true] at *
 refine ⟨h.1, ?_⟩
 obtain ⟨-, h⟩ := h
 split at h
 ·rename_i k; rw [if_pos k]
 rename_i k; rw [if_neg k]
 split at h
 ·rename_i k; rw [if_pos k]; exact h
 rename_i k; rw [if_neg k]
 split at h
 ·rename_i k; rw [if_pos k]; simp only [decide_eq_true_eq] at *; omega
 rename_i k; rw [if_neg k]
 split at h
 ·rename_i k; rw [if_pos k]; simp only [decide_eq_true_eq] at *; omega
 ·cases h
theorem QpL {L L' : List Nd} {d : Nd} (hm : d.may L.length = true) (h : (addN L d).2 <+: L') : addN L' d = ((addN L d).1, L') := by
 have hl : L.length ≤ L'.length := Nat.le_trans (Qcu L d).length_le h.length_le
 have hm' := QD0 hm hl
 unfold addN at h ⊢
 rw [if_pos hm] at h ⊢
 rw [if_pos hm']
 cases hi : idx d L with
 | some i =>
   rw [hi] at h
   obtain ⟨r, rfl⟩ := h
   simp only
   rw [Qqy hi]
 | none =>
   rw [hi] at h
   obtain ⟨r, rfl⟩ := h
   simp only
   rw [Qqy (Qwy hi)]
theorem Qa8 {L L' : List Nd} {n : Int} (h : (numN L n).2 <+: L') : numN L' n = ((numN L n).1, L') := QpL (Qmb n _) h
def Qm0 (bin : ZR) : Prop := ∀ L op x y r, okN L → inG L x → inG L y → (1 ≤ op ∧ op ≤ 16) → bin L op x y = some r → ∀ L', r.2 <+: L' → bin L' op x y = some (r.1, L')
section
variable {bin : ZR}
theorem Yb (hK : Yy [] [] bin) (hS : Qm0 bin) {L L' : List Nd} (hok : okN L) {op x n : Int} (hx : inG L x) (ho : 1 ≤ op ∧ op ≤ 16) (hn : i64 n) {r : GR} (h : withN bin L op x n = some r) (hr : r.2 <+: L') : withN bin L' op x n = some (r.1, L') := by
 obtain ⟨h1, h2, h3, h4⟩ := QZ L n
 have hok2 : okN (numN L n).2 := Xs hok hn (show i64 0 by unfold i64; omega)
 have hk := (hK _ _ _ _ _ hok2 (XF h3 hx).1 h1 ho h).1.pre
 unfold withN
 rw [Qa8 (hk.trans hr)]
 exact hS _ _ _ _ _ hok2 (XF h3 hx).1 h1 ho h _ hr
theorem QqG {L L' : List Nd} {op x c : Int} (h : (QT L op x c).2 <+: L') : QT L' op x c = ((QT L op x c).1, L') := by
 unfold QT at *
 split
 ·rfl
 ·rename_i h1
  rw [if_neg h1] at h
  split
  ·rename_i h2; rw [if_pos h2] at h; exact Qa8 h
  ·rename_i h2
   rw [if_neg h2] at h
   split
   ·rename_i h3; rw [if_pos h3] at h; exact Qa8 h
   ·rename_i h3
    rw [if_neg h3] at h
    split
    ·rename_i h4; rw [if_pos h4] at h; exact Qa8 h
    ·rfl
theorem Qqp (hK : Yy [] [] bin) (hS : Qm0 bin) {L L' : List Nd} (hok : okN L) {op x c : Int} (hx : inG L x) (hc : i64 c) {r : GR} (h : Xm bin L op x c = some r) (hr : r.2 <+: L') : Xm bin L' op x c = some (r.1, L') := by
 unfold Xm at *
 have h64 : i64 (c % 64) := by unfold i64; omega
 split at h
 ·rename_i h1; rw [if_pos h1]; exact Yb hK hS hok hx (by omega) (Qq _) h hr
 rename_i h1; rw [if_neg h1]
 split at h
 ·rename_i h2; rw [if_pos h2]; exact Yb hK hS hok hx (by omega) (Qq _) h hr
 rename_i h2; rw [if_neg h2]
 split at h
 ·rename_i h3; rw [if_pos h3]; exact Yb hK hS hok hx (by omega) h64 h hr
 rename_i h3; rw [if_neg h3]
 split at h
 ·rename_i h4; rw [if_pos h4]
  obtain ⟨k, hk'⟩ := Option.isSome_iff_exists.1 h4.2
  have hk2 := (Yf hk').1
  have hki : i64 (((QeS c).getD 0 : Nat) : Int) := by rw [hk']; unfold i64; simp; omega
  exact Yb hK hS hok hx (by omega) hki h hr
 rename_i h4; rw [if_neg h4]
 split at h
 ·rename_i h5; rw [if_pos h5]; exact Yb hK hS hok hx (by omega) (Qq _) h hr
 rename_i h5; rw [if_neg h5]
 split at h
 ·rename_i h6; rw [if_pos h6]; exact Yb hK hS hok hx (by omega) (show i64 0 by unfold i64; omega) h hr
 ·rename_i h6; rw [if_neg h6]; cases h; rfl
theorem Qql {L L' : List Nd} (h : L <+: L') {x op : Int} (hx : inG L x) : ofI L' x op = ofI L x op := by
 obtain ⟨h1, h2⟩ := XF h hx
 simp only [ofI, h1, hx, h2]
theorem Qhd {L L' : List Nd} (hok : okN L) (h : L <+: L') {x op : Int} (hx : inG L x) : Xw L' x op = Xw L x op := by
 unfold Xw
 rw [Qql h hx]
 cases ho : ofI L x op with
 | none => rfl
 | some p =>
   obtain ⟨u, v⟩ := p
   have := (Qa7 (S := []) (C := []) hok ho).2.1
   simp only [Option.bind_some]
   rw [Qg h this]
theorem Qqd (hK : Yy [] [] bin) (hS : Qm0 bin) {L L' : List Nd} (hok : okN L) {op x c : Int} (hx : inG L x) (hc : i64 c) {r : GR} (h : Xv bin L op x c = some r) (hL : L <+: L') (hr : r.2 <+: L') : Xv bin L' op x c = some (r.1, L') := by
 unfold Xv at *
 rw [Qcs hL hx, Qhd hok hL hx]
 split at h
 ·rename_i h1; rw [if_pos h1]; cases h; rfl
 rename_i h1; rw [if_neg h1]
 split at h
 ·rename_i h2; rw [if_pos h2]; cases h; rfl
 rename_i h2; rw [if_neg h2]
 split at h
 ·rename_i h3; rw [if_pos h3]; cases h; rw [Qa8 hr]
 rename_i h3; rw [if_neg h3]
 split at h
 ·rename_i h4; rw [if_pos h4]
  have i0 : i64 0 := by unfold i64; omega
  cases hq : withN bin L 16 x 0 with
  | none => rw [hq] at h; cases h
  | some q =>
    rw [hq] at h
    simp only [Option.bind_some] at h
    obtain ⟨g1, g2⟩ := QK hK hok hx (by omega) i0 hq
    obtain ⟨g3, _⟩ := g1.val g2
    have hi : i64 (doW 10 c 1) := Xz hc (by unfold i64; omega)
    obtain ⟨k1, _⟩ := QK hK g1.ok g3 (by omega) hi h
    rw [Yb hK hS hok hx (by omega) i0 hq (k1.pre.trans hr)]
    simp only [Option.bind_some]
    rw [Yb hK hS g1.ok g3 (by omega) hi h hr]
 rename_i h4; rw [if_neg h4]
 cases hta : Xw L x 16 with
 | none => rw [hta] at h; cases h; rfl
 | some p =>
   obtain ⟨y, d⟩ := p
   rw [hta] at h
   simp only at h ⊢
   have hy := (Q8 (S := []) (C := []) hok hta).1
   rw [Qcs hL hy]
   split at h
   ·rename_i h5; rw [if_pos h5]; cases h; rfl
   ·rename_i h5; rw [if_neg h5]; cases h; rfl
theorem QqE (hK : Yy [] [] bin) (hS : Qm0 bin) {L L' : List Nd} (hok : okN L) {op x c : Int} (hx : inG L x) (ho : 1 ≤ op ∧ op ≤ 16) (hc : i64 c) {r : GR} (h : Xf bin L op x c = some r) (hL : L <+: L') (hr : r.2 <+: L') : Xf bin L' op x c = some (r.1, L') := by
 unfold Xf at *
 rw [Qhd hok hL hx]
 cases hta : Xw L x op with
 | none => rw [hta] at h; cases h; rfl
 | some p =>
   obtain ⟨y, d⟩ := p
   rw [hta] at h
   simp only at h ⊢
   obtain ⟨t1, t2, t3, t4⟩ := Q8 (S := []) (C := []) hok hta
   split at h
   ·rename_i h5; rw [if_pos h5]; exact Yb hK hS hok t1 ho (Xz t3 hc) h hr
   ·rename_i h5; rw [if_neg h5]; cases h; rfl
theorem QqK (hK : Yy [] [] bin) (hS : Qm0 bin) {L L' : List Nd} (hok : okN L) {op x c : Int} (hx : inG L x) (hc : i64 c) {r : GR} (h : Q6 bin L op x c = some r) (hL : L <+: L') (hr : r.2 <+: L') : Q6 bin L' op x c = some (r.1, L') := by
 unfold Q6 at *
 rw [Qhd hok hL hx, Qhd hok hL hx, Qql hL hx, Qql hL hx]
 split at h
 ·rename_i h1; rw [if_pos h1]; cases h; rfl
 rename_i h1; rw [if_neg h1]
 cases h2 : Xw L x 1 with
 | some p =>
   obtain ⟨y, d⟩ := p
   rw [h2] at h
   simp only at h ⊢
   exact Yb hK hS hok (Q8 (S := []) (C := []) hok h2).1 (by omega) (Qq _) h hr
 | none =>
   rw [h2] at h
   simp only at h ⊢
   cases h3 : Xw L x 10 with
   | some p =>
     obtain ⟨y, d⟩ := p
     rw [h3] at h
     simp only at h ⊢
     obtain ⟨t1, t2, t3, t4⟩ := Q8 (S := []) (C := []) hok h3
     exact Yb hK hS hok t1 (by omega) (Xz hc t3) h hr
   | none =>
     rw [h3] at h
     simp only at h ⊢
     cases h4 : ofI L x 10 with
     | some p =>
       obtain ⟨y, z⟩ := p
       rw [h4] at h
       simp only at h ⊢
       obtain ⟨t1, t2, _⟩ := Qa7 (S := []) (C := []) hok h4
       split at h
       ·rename_i h5; rw [if_pos h5]; exact hS _ _ _ _ _ hok t1 t2 (by omega) h _ hr
       ·rename_i h5; rw [if_neg h5]; cases h; rfl
     | none =>
       rw [h4] at h
       simp only at h ⊢
       cases h5 : ofI L x 2 with
       | some p =>
         obtain ⟨y, z⟩ := p
         rw [h5] at h
         simp only at h ⊢
         obtain ⟨t1, t2, _⟩ := Qa7 (S := []) (C := []) hok h5
         split at h
         ·rename_i h5; rw [if_pos h5]; exact hS _ _ _ _ _ hok t1 t2 (by omega) h _ hr
         ·rename_i h5; rw [if_neg h5]; cases h; rfl
       | none =>
         rw [h5] at h
         cases h; rfl
theorem QcS {L L' : List Nd} {q q' : Option GR} {k k' : List Nd → Option GR} {r : GR} (hn : ∀ s, q = some s → ZL L s) (hq : ∀ s, q = some s → s.2 <+: L' → q' = some (s.1, L')) (hk : k L = some r → k' L' = some (r.1, L')) (hL : L <+: L') (h : X2 q k = some r) (hr : r.2 <+: L') : X2 q' k' = some (r.1, L') := by
 unfold X2 at h
 cases q with
 | none => cases h
 | some s =>
   simp only [Option.bind_some] at h
   split at h
   ·rename_i hne
    cases h
    rw [hq _ rfl hr]
    exact Z0 hne
   ·rename_i hne
    rcases hn s rfl with h1 | h1
    ·exact absurd h1 hne
    ·subst h1
     rw [hq _ rfl hL, QD]
     exact hk h
theorem Qog (hK : Yy [] [] bin) (hS : Qm0 bin) {L L' : List Nd} (hok : okN L) {op x c : Int} (hx : inG L x) (ho : 1 ≤ op ∧ op ≤ 16) (hc : i64 c) {r : GR} (h : QU bin L op x c = some r) (hL : L <+: L') (hr : r.2 <+: L') : QU bin L' op x c = some (r.1, L') := by
 unfold QU at h ⊢
 refine QcS (fun s hs => by cases hs; exact YY hx) (fun s hs hp => by cases hs; rw [QqG hp]) (fun h => ?_) hL h hr
 refine QcS (fun s hs => YW hK hok hx hc hs) (fun s hs hp => Qqp hK hS hok hx hc hs hp) (fun h => ?_) hL h hr
 refine QcS (fun s hs => YV hK hok hc hs) (fun s hs hp => Qqd hK hS hok hx hc hs hL hp) (fun h => ?_) hL h hr
 refine QcS (fun s hs => YX hK hok ho hc hs) (fun s hs hp => QqE hK hS hok hx ho hc hs hL hp) (fun h => ?_) hL h hr
 exact QqK hK hS hok hx hc h hL hr
theorem QsS {L L' : List Nd} {op x : Int} (h : (ZI L op x).2 <+: L') : ZI L' op x = ((ZI L op x).1, L') := by
 unfold ZI at *
 split
 ·rename_i h1; rw [if_pos h1] at h; exact Qa8 h
 ·rename_i h1
  rw [if_neg h1] at h
  split
  ·rename_i h2; rw [if_pos h2] at h; exact Qa8 h
  ·rename_i h2
   rw [if_neg h2] at h
   split <;> rfl
theorem QsT (hK : Yy [] [] bin) (hS : Qm0 bin) {L L' : List Nd} (hok : okN L) {op x y : Int} (hx : inG L x) (hy : inG L y) (ho : 1 ≤ op ∧ op ≤ 16) {r : GR} (h : XA bin L op x y (QE L x) (QE L y) = some r) (hL : L <+: L') (hr : r.2 <+: L') : XA bin L' op x y (QE L' x) (QE L' y) = some (r.1, L') := by
 rw [Qg hL hx, Qg hL hy]
 unfold XA at *
 split at h
 ·rename_i h1; rw [if_pos h1]; cases h; rw [QsS hr]
 rename_i h1; rw [if_neg h1]
 cases hq : QE L y with
 | some b =>
   rw [hq] at h
   exact Qog hK hS hok hx ho (Xo (S := []) (C := []) hok hq).2 h hL hr
 | none =>
   rw [hq] at h
   simp only at h ⊢
   split at h
   ·rename_i h2; rw [if_pos h2]
    cases hb : bin L 16 y x with
    | none => rw [hb] at h; cases h
    | some q =>
      rw [hb] at h
      simp only [Option.bind_some] at h
      obtain ⟨g1, g2⟩ := hK _ _ _ _ _ hok hy hx (by omega) hb
      obtain ⟨g3, _⟩ := g1.val g2
      have gx := (XF g1.pre hx).1
      obtain ⟨k1, _⟩ := hK _ _ _ _ _ g1.ok g3 gx (by omega) h
      rw [hS _ _ _ _ _ hok hy hx (by omega) hb _ (k1.pre.trans hr)]
      simp only [Option.bind_some]
      exact hS _ _ _ _ _ g1.ok g3 gx (by omega) h _ hr
   ·rename_i h2; rw [if_neg h2]; cases h; rfl
end
theorem Zk (f : Nat) : Yy [] [] (XM f) := QdP (fun L hok x => Qcv (by simp) (by simp) (Qcx hok) x) f
theorem QcW {f : Nat} {L : List Nd} (hok : okN L) {op x y : Int} (hx : inG L x) (hy : inG L y) (ho : 1 ≤ op ∧ op ≤ 16) {r : GR} (h : XA (XM f) L op x y (QE L x) (QE L y) = some r) : ZL L r := by
 have hK := Zk f
 unfold XA at h
 split at h
 ·rename_i e
  cases h
  unfold ZI
  split
  ·exact .inl (QZ L 0).2.2.2
  ·split
   ·exact .inl (QZ L 1).2.2.2
   ·split
    ·exact .inl (YA hx)
    ·exact .inr rfl
 ·split at h
  ·rename_i b hq
   have hc := (Xo (S := []) (C := []) hok hq).2
   unfold QU at h
   have st : ∀ {q : Option GR} {k : List Nd → Option GR}, (∀ s, q = some s → ZL L s) → (k L = some r → ZL L r) → X2 q k = some r → ZL L r := by
    intro q k h1 h2 h
    unfold X2 at h
    cases q with
    | none => cases h
    | some s =>
      simp only [Option.bind_some] at h
      split at h
      ·cases h; exact h1 _ rfl
      ·rename_i hne
       rcases h1 s rfl with h3 | h3
       ·exact absurd h3 hne
       ·subst h3; exact h2 h
   refine st (fun s hs => by cases hs; exact YY hx) (fun h => ?_) h
   refine st (fun s hs => YW hK hok hx hc hs) (fun h => ?_) h
   refine st (fun s hs => YV hK hok hc hs) (fun h => ?_) h
   refine st (fun s hs => YX hK hok ho hc hs) (fun h => ?_) h
   unfold Q6 at h
   split at h
   ·cases h; exact .inr rfl
   split at h
   ·rename_i y d hta
    obtain ⟨t1, t2, t3, t4⟩ := Q8 (S := []) (C := []) hok hta
    exact .inl (QK hK hok t1 (by omega) (Qq _) h).2
   split at h
   ·rename_i y d hta
    obtain ⟨t1, t2, t3, t4⟩ := Q8 (S := []) (C := []) hok hta
    exact .inl (QK hK hok t1 (by omega) (Xz hc t3) h).2
   split at h
   ·rename_i y z hof
    obtain ⟨t1, t2, t3⟩ := Qa7 (S := []) (C := []) hok hof
    split at h
    ·exact .inl (hK _ _ _ _ _ hok t1 t2 (by omega) h).2
    ·cases h; exact .inr rfl
   split at h
   ·rename_i y z hof
    obtain ⟨t1, t2, t3⟩ := Qa7 (S := []) (C := []) hok hof
    split at h
    ·exact .inl (hK _ _ _ _ _ hok t1 t2 (by omega) h).2
    ·cases h; exact .inr rfl
   ·cases h; exact .inr rfl
  ·split at h
   ·cases hb : XM f L 16 y x with
    | none => rw [hb] at h; cases h
    | some q =>
      rw [hb] at h
      simp only [Option.bind_some] at h
      obtain ⟨g1, g2⟩ := hK _ _ _ _ _ hok hy hx (by omega) hb
      obtain ⟨g3, _⟩ := g1.val g2
      exact .inl (hK _ _ _ _ _ g1.ok g3 (XF g1.pre hx).1 (by omega) h).2
   ·cases h; exact .inr rfl
theorem QcR {f : Nat} (hS : Qm0 (XM f)) {L L' : List Nd} (hok : okN L) {op x y : Int} (hx : inG L x) (hy : inG L y) (ho : 1 ≤ op ∧ op ≤ 16) {r : GR} (h : Y4 (XM f) L op x y (QE L x) (QE L y) = some r) (hL : L <+: L') (hr : r.2 <+: L') : Y4 (XM f) L' op x y (QE L' x) (QE L' y) = some (r.1, L') := by
 have hK := Zk f
 unfold Y4 at h ⊢
 refine QcS (fun s hs => QcW hok hx hy ho hs) (fun s hs hp => QsT hK hS hok hx hy ho hs hL hp) (fun h => ?_) hL h hr
 cases h
 rw [QpL (Qbq ho hx hy) hr]
theorem Qbu : ∀ f, Qm0 (XM f)
 | 0 => fun L op x y r _ _ _ _ h => by cases h
 | f + 1 => fun L op x y r hok hx hy ho h L' hr => by
   have hK := Zk (f + 1) _ _ _ _ _ hok hx hy ho h
   have hL := hK.1.pre.trans hr
   unfold XM QcB at h ⊢
   rw [Qg hL hx, Qg hL hy]
   cases ha : QE L x with
   | some a =>
     cases hb : QE L y with
     | some b =>
       rw [ha, hb] at h
       cases h
       exact congrArg some (Qa8 hr)
     | none =>
       rw [ha, hb] at h
       simp only at h ⊢
       split at h
       ·rename_i h1; rw [if_pos h1]
        have := QcR (Qbu f) hok hy hx ho (by rw [ha, hb]; exact h) hL hr
        rw [Qg hL hx, Qg hL hy, ha, hb] at this
        exact this
       ·rename_i h1; rw [if_neg h1]
        have := QcR (Qbu f) hok hx hy ho (by rw [ha, hb]; exact h) hL hr
        rw [Qg hL hx, Qg hL hy, ha, hb] at this
        exact this
   | none =>
     rw [ha] at h
     simp only at h ⊢
     split at h
     ·rename_i h1; rw [if_pos h1]
      have := QcR (Qbu f) hok hy hx ho (by rw [ha]; exact h) hL hr
      rw [Qg hL hx, Qg hL hy, ha] at this
      exact this
     ·rename_i h1; rw [if_neg h1]
      have := QcR (Qbu f) hok hx hy ho (by rw [ha]; exact h) hL hr
      rw [Qg hL hx, Qg hL hy, ha] at this
      exact this
def LeB (b b' : ZR) : Prop := ∀ L op x y r, b L op x y = some r → b' L op x y = some r
section
variable {b b' : ZR}
theorem ZZ (h : LeB b b') {L : List Nd} {op x n : Int} {r : GR} (hr : withN b L op x n = some r) : withN b' L op x n = some r := h _ _ _ _ _ hr
theorem QyF (hb : LeB b b') {L : List Nd} {op x c : Int} {r : GR} (h : Xm b L op x c = some r) : Xm b' L op x c = some r := by
 unfold Xm at *
 split at h
 ·rename_i h1; rw [if_pos h1]; exact ZZ hb h
 rename_i h1; rw [if_neg h1]
 split at h
 ·rename_i h1; rw [if_pos h1]; exact ZZ hb h
 rename_i h1; rw [if_neg h1]
 split at h
 ·rename_i h1; rw [if_pos h1]; exact ZZ hb h
 rename_i h1; rw [if_neg h1]
 split at h
 ·rename_i h1; rw [if_pos h1]; exact ZZ hb h
 rename_i h1; rw [if_neg h1]
 split at h
 ·rename_i h1; rw [if_pos h1]; exact ZZ hb h
 rename_i h1; rw [if_neg h1]
 split at h
 ·rename_i h1; rw [if_pos h1]; exact ZZ hb h
 ·rename_i h1; rw [if_neg h1]; exact h
theorem Qx8 (hb : LeB b b') {L : List Nd} {op x c : Int} {r : GR} (h : Xv b L op x c = some r) : Xv b' L op x c = some r := by
 unfold Xv at *
 split at h
 ·rename_i h1; rw [if_pos h1]; exact h
 rename_i h1; rw [if_neg h1]
 split at h
 ·rename_i h1; rw [if_pos h1]; exact h
 rename_i h1; rw [if_neg h1]
 split at h
 ·rename_i h1; rw [if_pos h1]; exact h
 rename_i h1; rw [if_neg h1]
 split at h
 ·rename_i h1; rw [if_pos h1]
  cases hq : withN b L 16 x 0 with
  | none => rw [hq] at h; cases h
  | some q => rw [hq] at h; rw [ZZ hb hq]; exact ZZ hb h
 ·rename_i h1; rw [if_neg h1]; exact h
theorem QyO (hb : LeB b b') {L : List Nd} {op x c : Int} {r : GR} (h : Xf b L op x c = some r) : Xf b' L op x c = some r := by
 unfold Xf at *
 split at h
 ·split at h
  ·rename_i h1; rw [if_pos h1]; exact ZZ hb h
  ·rename_i h1; rw [if_neg h1]; exact h
 ·exact h
theorem Qy0 (hb : LeB b b') {L : List Nd} {op x c : Int} {r : GR} (h : Q6 b L op x c = some r) : Q6 b' L op x c = some r := by
 unfold Q6 at *
 split at h
 ·rename_i h1; rw [if_pos h1]; exact h
 rename_i h1; rw [if_neg h1]
 split at h
 ·exact ZZ hb h
 split at h
 ·exact ZZ hb h
 split at h
 ·split at h
  ·rename_i h1; rw [if_pos h1]; exact hb _ _ _ _ _ h
  ·rename_i h1; rw [if_neg h1]; exact h
 split at h
 ·split at h
  ·rename_i h1; rw [if_pos h1]; exact hb _ _ _ _ _ h
  ·rename_i h1; rw [if_neg h1]; exact h
 ·exact h
theorem Qka {q q' : Option GR} {k k' : List Nd → Option GR} {r : GR} (hq : ∀ s, q = some s → q' = some s) (hk : ∀ L s, k L = some s → k' L = some s) (h : X2 q k = some r) : X2 q' k' = some r := by
 unfold X2 at *
 cases q with
 | none => cases h
 | some s =>
   rw [hq s rfl]
   simp only [Option.bind_some] at *
   split at h
   ·rename_i h1; rw [if_pos h1]; exact h
   ·rename_i h1; rw [if_neg h1]; exact hk _ _ h
theorem Qv9 (hb : LeB b b') {L : List Nd} {op x c : Int} {r : GR} (h : QU b L op x c = some r) : QU b' L op x c = some r := by
 unfold QU at *
 refine Qka (fun s hs => hs) (fun L s h => ?_) h
 refine Qka (fun s hs => QyF hb hs) (fun L s h => ?_) h
 refine Qka (fun s hs => Qx8 hb hs) (fun L s h => ?_) h
 refine Qka (fun s hs => QyO hb hs) (fun L s h => ?_) h
 exact Qy0 hb h
theorem QFU (hb : LeB b b') {L : List Nd} {op x y : Int} {p q : Option Int} {r : GR} (h : XA b L op x y p q = some r) : XA b' L op x y p q = some r := by
 unfold XA at *
 split at h
 ·rename_i h1; rw [if_pos h1]; exact h
 rename_i h1; rw [if_neg h1]
 split at h
 ·exact Qv9 hb h
 ·split at h
  ·rename_i h1; rw [if_pos h1]
   cases hq : b L 16 y x with
   | none => rw [hq] at h; cases h
   | some q => rw [hq] at h; rw [hb _ _ _ _ _ hq]; exact hb _ _ _ _ _ h
  ·rename_i h1; rw [if_neg h1]; exact h
theorem QvN (hb : LeB b b') {L : List Nd} {op x y : Int} {p q : Option Int} {r : GR} (h : Y4 b L op x y p q = some r) : Y4 b' L op x y p q = some r := by
 unfold Y4 at *
 exact Qka (fun s hs => QFU hb hs) (fun L s h => h) h
theorem bin_le (hb : LeB b b') : LeB (QcB b) (QcB b') := fun L op x y r h => by
 unfold QcB at *
 split at h
 ·exact h
 ·split at h
  ·rename_i h1; rw [if_pos h1]; exact QvN hb h
  ·rename_i h1; rw [if_neg h1]; exact QvN hb h
end
theorem Qxt : ∀ f, LeB (XM f) (XM (f + 1))
 | 0 => fun L op x y r h => by cases h
 | f + 1 => bin_le (Qxt f)
theorem Qdd {f : Nat} : ∀ {g : Nat}, f ≤ g → LeB (XM f) (XM g)
 | 0, h => by cases Nat.le_zero.1 h; exact fun _ _ _ _ _ h => h
 | g + 1, h => by
   rcases Nat.lt_or_ge g f with h1 | h1
   ·have : f = g + 1 := by omega
    subst this; exact fun _ _ _ _ _ h => h
   ·exact fun L op x y r hr => Qxt g _ _ _ _ _ (Qdd h1 _ _ _ _ _ hr)
def Bn (M : List Nd) (op x y i : Int) : Prop := ∃ f, XM f M op x y = some (i, M)
theorem Bn.fn {M : List Nd} {op x y i j : Int} (h : Bn M op x y i) (h' : Bn M op x y j) : i = j := by
 obtain ⟨f, hf⟩ := h
 obtain ⟨g, hg⟩ := h'
 have h1 := Qdd (Nat.le_max_left f g) _ _ _ _ _ hf
 have h2 := Qdd (Nat.le_max_right f g) _ _ _ _ _ hg
 rw [h1] at h2
 cases h2; rfl
theorem bn_of {f : Nat} {L M : List Nd} {op x y : Int} {r : GR} (hok : okN L) (hx : inG L x) (hy : inG L y) (ho : 1 ≤ op ∧ op ≤ 16) (h : XM f L op x y = some r) (hM : r.2 <+: M) : Bn M op x y r.1 :=
 ⟨f, Qbu f _ _ _ _ _ hok hx hy ho h M hM⟩
theorem Bn.up {L M : List Nd} {op x y i : Int} (hok : okN L) (hx : inG L x) (hy : inG L y) (ho : 1 ≤ op ∧ op ≤ 16) (h : Bn L op x y i) (hM : L <+: M) : Bn M op x y i := by
 obtain ⟨f, hf⟩ := h
 exact bn_of hok hx hy ho hf hM
theorem Bn.swap {M : List Nd} {op x y i : Int} (hs : QaK op = true) (h : Bn M op x y i) : Bn M op y x i := by
 obtain ⟨f, hf⟩ := h
 refine ⟨f, ?_⟩
 cases f with
 | zero => cases hf
 | succ f =>
   unfold XM QcB at *
   cases hx : QE M x with
   | some a =>
     cases hy : QE M y with
     | some b => rw [hx, hy] at hf; simp only at *; rw [QdH hs]; exact hf
     | none => rw [hx, hy] at hf; simp [hs] at *; exact hf
   | none =>
     cases hy : QE M y with
     | some b => rw [hx, hy] at hf; simp [hs] at *; exact hf
     | none =>
       rw [hx, hy] at hf
       simp [hs] at *
       split at hf
       ·rename_i h1; rw [if_neg (by omega)]; exact hf
       ·rename_i h1
        by_cases h2 : x < y
        ·rw [if_pos h2]; exact hf
        ·rw [if_neg h2]
         have : x = y := by omega
         subst this; exact hf
def One (M : List Nd) : Prop := M.Nodup
theorem Qqz {d : Nd} : ∀ {L : List Nd}, d ∈ L → (idx d L).isSome = true
 | e :: L, h => by
   unfold idx
   split
   ·rfl
   ·rename_i hne
    rcases List.mem_cons.1 h with h | h
    ·exact absurd h hne
    ·simp [Qqz h]
theorem Qgr {L : List Nd} (h : One L) (d : Nd) : One (addN L d).2 := by
 unfold addN
 split
 ·split
  ·exact h
  ·rename_i hi
   show (L ++ [d]).Nodup
   rw [List.nodup_append]
   refine ⟨h, by simp, fun a ha b hb => ?_⟩
   simp only [List.mem_singleton] at hb
   subst hb
   rintro rfl
   have := Qqz ha
   rw [hi] at this
   cases this
 ·exact h
section
variable {M : List Nd}
theorem Qv5 (h1 : One M) {x y : Int} (hx : inG M x) (hy : inG M y) (h : nd M x = nd M y) : x = y := by
 have a := Qk4 hx
 have b := Qk4 hy
 rw [h] at a
 obtain ⟨ha, ea⟩ := List.getElem?_eq_some_iff.1 a
 obtain ⟨hb, eb⟩ := List.getElem?_eq_some_iff.1 b
 have := (List.getElem_inj h1).1 (ea.trans eb.symm)
 unfold inG at hx hy
 omega
theorem Qwe (hok : okN M) {x : Int} (hx : inG M x) : (nd M x).may x.toNat = true := (hok _ _ (Qk4 hx)).2.2
theorem Qoi (hok : okN M) {x c : Int} (h : QE M x = some c) : inG M x ∧ nd M x = ⟨1, c, 0, 0, 0, 0⟩ := by
 unfold QE at h
 split at h
 ·rename_i h1
  cases h
  refine ⟨h1.1, ?_⟩
  have hm := Qwe hok h1.1
  have hk := h1.2
  generalize nd M x = d at *
  obtain ⟨k, n, a, o, u, v⟩ := d
  simp only at hk
  subst hk
  simp [Nd.may] at hm
  simp [hm]
 ·cases h
theorem QR (hok : okN M) (h1 : One M) {x y c : Int} (hx : QE M x = some c) (hy : QE M y = some c) : x = y := by
 obtain ⟨a, b⟩ := Qoi hok hx
 obtain ⟨a', b'⟩ := Qoi hok hy
 exact Qv5 h1 a a' (b.trans b'.symm)
theorem pre_eq {L : List Nd} (h : L <+: M) (h' : M <+: L) : L = M := h.eq_of_length (Nat.le_antisymm h.length_le h'.length_le)
end
end Go.Proofs.YtpdeoalocejodaaGreatDoor
