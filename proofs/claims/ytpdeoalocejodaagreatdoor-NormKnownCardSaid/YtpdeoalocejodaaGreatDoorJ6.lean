/- Terms made plain keep their values. -/
import Derived.Test.YtpdeoalocejodaaGreatDoorJ5
import Derived.Test.YtpdeoalocejodaaGreatDoorJ3
namespace Go.Proofs.YtpdeoalocejodaaGreatDoor
open Go Go.Am
set_option maxRecDepth 100000
variable {S : List Int} {C : List Cl}
set_option maxHeartbeats 1000000
theorem Made1.after {L L1 : List Nd} {w : Int} {r : GR} (h : Made1 S C L1 w r) (hp : L <+: L1) : Made1 S C L w r := ⟨hp.trans h.pre, h.ok, h.val⟩
theorem Made1.cast {L : List Nd} {w w' : Int} {r : GR} (h : Made1 S C L w r) (e : w = w') : Made1 S C L w' r := e ▸ h
def Yy (S : List Int) (C : List Cl) (bin : ZR) : Prop := ∀ L op x y r, okN L → inG L x → inG L y → (1 ≤ op ∧ op ≤ 16) → bin L op x y = some r → Made1 S C L (doW op (val S C L x) (val S C L y)) r ∧ r.1 ≠ -1
theorem QK {bin : ZR} (hb : Yy S C bin) {L : List Nd} (hok : okN L) {op x n : Int} (hx : inG L x) (ho : 1 ≤ op ∧ op ≤ 16) (hn : i64 n) {r : GR} (h : withN bin L op x n = some r) : Made1 S C L (doW op (val S C L x) n) r ∧ r.1 ≠ -1 := by
 obtain ⟨h1, h2⟩ := Qa0 (S := S) (C := C) hok hn
 obtain ⟨h3, h4⟩ := h1.val h2
 obtain ⟨g1, g2⟩ := XF h1.pre hx
 obtain ⟨k1, k2⟩ := hb _ _ _ _ _ h1.ok g1 h3 ho h
 rw [h4, YZ h1.pre hx] at k1
 exact ⟨k1.after h1.pre, k2⟩
theorem QjD {L : List Nd} {w : Int} {r0 : Option GR} {k : List Nd → Option GR} {r : GR} (h0 : ∀ r, r0 = some r → Made1 S C L w r) (hk : ∀ L' r, L <+: L' → okN L' → k L' = some r → Made1 S C L' w r) (h : X2 r0 k = some r) : Made1 S C L w r := by
 unfold X2 at h
 cases hr : r0 with
 | none => rw [hr] at h; cases h
 | some q =>
   rw [hr] at h
   simp only [Option.bind_some] at h
   have hq := h0 q hr
   split at h
   ·cases h; exact hq
   ·exact (hk _ _ hq.pre hq.ok h).after hq.pre
theorem Zw {n : Int} (h : -9223372036854775808 ≤ n ∧ n ≤ 9223372036854775807) : i64 n := h
theorem Qym {L : List Nd} (hok : okN L) {op x : Int} (hx : inG L x) (hv : i64 (val S C L x)) : Made1 S C L (doW op (val S C L x) (val S C L x)) (ZI L op x) := by
 obtain ⟨d1, d2, d3⟩ := QqT (op := op) hv
 unfold ZI
 split
 ·rename_i h; exact (Qa0 hok (Zw (by omega))).1.cast (d1 h).symm
 ·split
  ·rename_i h; exact (Qa0 hok (Zw (by omega))).1.cast (d2 h).symm
  ·split
   ·rename_i h; exact Made1.here hok hx (d3 h).symm
   ·exact Made1.none hok _
theorem QwG {L : List Nd} (hok : okN L) {op x c : Int} (hx : inG L x) (hv : i64 (val S C L x)) : Made1 S C L (doW op (val S C L x) c) (QT L op x c) := by
 unfold QT
 split
 ·rename_i h; exact Made1.here hok hx (Qag hv h).symm
 ·split
  ·rename_i h; obtain ⟨h, rfl⟩ := h; exact (Qa0 hok (Zw (by omega))).1.cast (QhH h).symm
  ·split
   ·rename_i h; obtain ⟨rfl, rfl⟩ := h; exact (Qa0 hok (Zw (by omega))).1.cast (QjO _).symm
   ·split
    ·rename_i h; obtain ⟨h, rfl⟩ := h; exact (Qa0 hok (Zw (by omega))).1.cast (QwY h).symm
    ·exact Made1.none hok _
theorem Qwi {bin : ZR} (hb : Yy S C bin) {L : List Nd} (hok : okN L) {op x c : Int} (hx : inG L x) (hv : i64 (val S C L x)) (hc : i64 c) {r : GR} (h : Xm bin L op x c = some r) : Made1 S C L (doW op (val S C L x) c) r := by
 unfold Xm at h
 split at h
 ·rename_i h1; subst h1; exact (QK hb hok hx (by omega) (Qq _) h).1.cast do_sub.symm
 ·split at h
  ·rename_i h1; subst h1; exact (QK hb hok hx (by omega) (Qq _) h).1.cast do_shl.symm
  ·split at h
   ·rename_i h1; exact (QK hb hok hx (by omega) (Zw (by omega)) h).1.cast (QwZ h1.1).symm
   ·split at h
    ·rename_i h1
     obtain ⟨rfl, h2⟩ := h1
     obtain ⟨k, hk⟩ := Option.isSome_iff_exists.1 h2
     have hk2 := (Yf hk).1
     rw [hk] at h
     exact (QK hb hok hx (by omega) (Zw (by simp; omega)) h).1.cast (Qw2 hk).symm
    ·split at h
     ·rename_i h1
      obtain ⟨rfl, h2⟩ := h1
      obtain ⟨k, hk⟩ := Option.isSome_iff_exists.1 h2
      exact (QK hb hok hx (by omega) (Qq _) h).1.cast (QwX hv hc hk).symm
     ·split at h
      ·rename_i h1
       obtain ⟨rfl, rfl⟩ := h1
       exact (QK hb hok hx (by omega) (Zw (by omega)) h).1.cast (Qw0 _ hv).symm
      ·cases h; exact Made1.none hok _
theorem QvO {bin : ZR} (hb : Yy S C bin) {L : List Nd} (hok : okN L) {op x c : Int} (hv : i64 (val S C L x)) (hc : i64 c) {r : GR} (h : Xv bin L op x c = some r) : Made1 S C L (doW op (val S C L x) c) r := by
 unfold Xv at h
 split at h
 ·cases h; exact Made1.none hok _
 ·rename_i hbo
  obtain ⟨hx, ht⟩ := Qxp (S := S) (C := C) hok (by simpa using hbo)
  split at h
  ·rename_i h1
   cases h
   refine Made1.here hok hx ?_
   rcases h1 with ⟨rfl, h2⟩ | ⟨rfl, rfl⟩
   ·rw [Qqc ht, if_pos h2]
   ·exact (QvM ht).symm
  ·rename_i hn
   split at h
   ·rename_i h1
    cases h
    refine (Qa0 hok (Zw (by omega))).1.cast ?_
    rcases h1 with rfl | ⟨rfl, h2⟩
    ·rw [Qqc ht, if_neg fun h => hn (.inl ⟨rfl, h⟩)]
    ·exact (QvL ht h2 fun h => hn (.inr ⟨rfl, h⟩)).symm
   ·rename_i hn2
    split at h
    ·rename_i h1
     obtain ⟨rfl, h2⟩ := h1
     cases hr : withN bin L 16 x 0 with
     | none => rw [hr] at h; cases h
     | some q =>
       rw [hr] at h
       simp only [Option.bind_some] at h
       obtain ⟨g1, g2⟩ := QK hb hok hx (by omega) (Zw (by omega)) hr
       obtain ⟨g3, g4⟩ := g1.val g2
       obtain ⟨k1, k2⟩ := QK hb g1.ok g3 (by omega) (Xz hc (Zw (by omega))) h
       rw [g4] at k1
       exact (k1.after g1.pre).cast (QFK ht).symm
    ·cases hta : Xw L x 16 with
     | none => rw [hta] at h; cases h; exact Made1.none hok _
     | some p =>
       obtain ⟨y, d⟩ := p
       rw [hta] at h
       simp only at h
       split at h
       ·rename_i h1
        cases h
        obtain ⟨rfl, rfl, hby⟩ := h1
        obtain ⟨t1, t2, t3, t4⟩ := Q8 (S := S) (C := C) hok hta
        obtain ⟨_, hty⟩ := Qxp (S := S) (C := C) hok hby
        have hc0 : c = 0 := Decidable.byContradiction fun h => hn2 (.inr ⟨rfl, h⟩)
        subst hc0
        refine Made1.here hok t1 ?_
        rw [t4, QrL hty]
       ·cases h; exact Made1.none hok _
theorem QwA {bin : ZR} (hb : Yy S C bin) {L : List Nd} (hok : okN L) {op x c : Int} (ho : 1 ≤ op ∧ op ≤ 16) (hc : i64 c) {r : GR} (h : Xf bin L op x c = some r) : Made1 S C L (doW op (val S C L x) c) r := by
 unfold Xf at h
 cases hta : Xw L x op with
 | none => rw [hta] at h; cases h; exact Made1.none hok _
 | some p =>
   obtain ⟨y, d⟩ := p
   rw [hta] at h
   simp only at h
   obtain ⟨t1, t2, t3, t4⟩ := Q8 (S := S) (C := C) hok hta
   split at h
   ·rename_i hg
    refine (QK hb hok t1 ho (Xz t3 hc) h).1.cast ?_
    rw [t4, Qbs hg]
   ·cases h; exact Made1.none hok _
theorem QwO {bin : ZR} (hb : Yy S C bin) {L : List Nd} (hok : okN L) (hv : ∀ y, i64 (val S C L y)) {op x c : Int} (hc : i64 c) {r : GR} (h : Q6 bin L op x c = some r) : Made1 S C L (doW op (val S C L x) c) r := by
 unfold Q6 at h
 split at h
 ·cases h; exact Made1.none hok _
 rename_i ho
 have ho : op = 16 := by simpa using ho
 subst ho
 split at h
 ·rename_i y d hta
  obtain ⟨t1, t2, t3, t4⟩ := Q8 (S := S) (C := C) hok hta
  refine (QK hb hok t1 (by omega) (Qq _) h).1.cast ?_
  rw [t4, QoV (hv _) hc]
 ·split at h
  ·rename_i y d hta
   obtain ⟨t1, t2, t3, t4⟩ := Q8 (S := S) (C := C) hok hta
   refine (QK hb hok t1 (by omega) (Xz hc t3) h).1.cast ?_
   rw [t4, QoT (hv _) hc]
  ·split at h
   ·rename_i y z hof
    obtain ⟨t1, t2, t3, t4, t5⟩ := Qa7 (S := S) (C := C) hok hof
    split at h
    ·rename_i hc0
     subst hc0
     refine (hb _ _ _ _ _ hok t1 t2 (by omega) h).1.cast ?_
     rw [t5, Qit (hv _) (hv _)]
    ·cases h; exact Made1.none hok _
   ·split at h
    ·rename_i y z hof
     obtain ⟨t1, t2, t3, t4, t5⟩ := Qa7 (S := S) (C := C) hok hof
     split at h
     ·rename_i hc0
      subst hc0
      refine (hb _ _ _ _ _ hok t1 t2 (by omega) h).1.cast ?_
      rw [t5, QoU (hv _) (hv _)]
     ·cases h; exact Made1.none hok _
    ·cases h; exact Made1.none hok _
theorem Qs2 {bin : ZR} (hb : Yy S C bin) (hi : ∀ L, okN L → ∀ x, i64 (val S C L x)) {L : List Nd} (hok : okN L) {op x c : Int} (ho : 1 ≤ op ∧ op ≤ 16) (hx : inG L x) (hc : i64 c) {r : GR} (h : QU bin L op x c = some r) : Made1 S C L (doW op (val S C L x) c) r := by
 unfold QU at h
 refine QjD (fun r hr => ?_) (fun L1 r p1 k1 h => ?_) h
 ·cases hr; exact QwG hok hx (hi _ hok _)
 have e1 := YZ (S := S) (C := C) p1 hx
 have g1 := (XF p1 hx).1
 rw [← e1]
 refine QjD (fun r hr => ?_) (fun L2 r p2 k2 h => ?_) h
 ·exact Qwi hb k1 g1 (hi _ k1 _) hc hr
 have e2 := YZ (S := S) (C := C) p2 g1
 have g2 := (XF p2 g1).1
 rw [← e2]
 refine QjD (fun r hr => ?_) (fun L3 r p3 k3 h => ?_) h
 ·exact QvO hb k2 (hi _ k2 _) hc hr
 have e3 := YZ (S := S) (C := C) p3 g2
 have g3 := (XF p3 g2).1
 rw [← e3]
 refine QjD (fun r hr => ?_) (fun L4 r p4 k4 h => ?_) h
 ·exact QwA hb k3 ho hc hr
 have e4 := YZ (S := S) (C := C) p4 g3
 rw [← e4]
 exact QwO hb k4 (hi _ k4) hc h
theorem Qyo {bin : ZR} (hb : Yy S C bin) (hi : ∀ L, okN L → ∀ x, i64 (val S C L x)) {L : List Nd} (hok : okN L) {op x y : Int} (ho : 1 ≤ op ∧ op ≤ 16) (hx : inG L x) (hy : inG L y) {r : GR} (h : XA bin L op x y (QE L x) (QE L y) = some r) : Made1 S C L (doW op (val S C L x) (val S C L y)) r := by
 unfold XA at h
 split at h
 ·rename_i e; subst e; cases h; exact Qym hok hx (hi _ hok _)
 ·split at h
  ·rename_i b hq
   obtain ⟨n1, n2⟩ := Xo (S := S) (C := C) hok hq
   rw [n1]
   exact Qs2 hb hi hok ho hx n2 h
  ·split at h
   ·rename_i h1
    obtain ⟨hp, rfl⟩ := h1
    obtain ⟨n1, n2⟩ := Xo (S := S) (C := C) hok hp
    cases hr : bin L 16 y x with
    | none => rw [hr] at h; cases h
    | some q =>
      rw [hr] at h
      simp only [Option.bind_some] at h
      obtain ⟨g1, g2⟩ := hb _ _ _ _ _ hok hy hx (by omega) hr
      obtain ⟨g3, g4⟩ := g1.val g2
      have gx := (XF g1.pre hx).1
      have k := (hb _ _ _ _ _ g1.ok g3 gx (by omega) h).1
      rw [g4, YZ g1.pre hx, n1] at k
      rw [n1, Qw1 _ (hi _ hok _)]
      exact k.after g1.pre
   ·cases h; exact Made1.none hok _
theorem Qbq {L : List Nd} {op x y : Int} (ho : 1 ≤ op ∧ op ≤ 16) (hx : inG L x) (hy : inG L y) : Nd.may ⟨4, 0, 0, op, x, y⟩ L.length = true := by
 unfold inG at *
 simp [Nd.may]
 omega
theorem Qwd {L : List Nd} (hok : okN L) {op x y : Int} (ho : 1 ≤ op ∧ op ≤ 16) (hx : inG L x) (hy : inG L y) : Made1 S C L (doW op (val S C L x) (val S C L y)) (addN L ⟨4, 0, 0, op, x, y⟩) ∧ (addN L ⟨4, 0, 0, op, x, y⟩).1 ≠ -1 := by
 obtain ⟨h1, h2⟩ := QhX (Qbq ho hx hy)
 have hok2 : okN (addN L ⟨4, 0, 0, op, x, y⟩).2 := Xs hok (show i64 0 by unfold i64; omega) (show i64 0 by unfold i64; omega)
 have hp : L <+: (addN L ⟨4, 0, 0, op, x, y⟩).2 := Qcu _ _
 refine ⟨⟨hp, hok2, fun _ => ⟨h1, ?_⟩⟩, by have := h1.1; omega⟩
 rw [Qg9 hok2.wf (Qgg hok2) h1.1 h1.2, h2]
 simp [QeO, YZ hp hx, YZ hp hy]
theorem QrP {bin : ZR} (hb : Yy S C bin) (hi : ∀ L, okN L → ∀ x, i64 (val S C L x)) {L : List Nd} (hok : okN L) {op x y : Int} (ho : 1 ≤ op ∧ op ≤ 16) (hx : inG L x) (hy : inG L y) {r : GR} (h : Y4 bin L op x y (QE L x) (QE L y) = some r) : Made1 S C L (doW op (val S C L x) (val S C L y)) r ∧ r.1 ≠ -1 := by
 unfold Y4 X2 at h
 cases hr : XA bin L op x y (QE L x) (QE L y) with
 | none => rw [hr] at h; cases h
 | some q =>
   rw [hr] at h
   simp only [Option.bind_some] at h
   have hq := Qyo hb hi hok ho hx hy hr
   split at h
   ·rename_i hne; cases h; exact ⟨hq, hne⟩
   ·cases h
    have gx := (XF hq.pre hx).1
    have gy := (XF hq.pre hy).1
    obtain ⟨k1, k2⟩ := Qwd (S := S) (C := C) hq.ok ho gx gy
    rw [YZ hq.pre hx, YZ hq.pre hy] at k1
    exact ⟨k1.after hq.pre, k2⟩
theorem QdP (hi : ∀ L, okN L → ∀ x, i64 (val S C L x)) : ∀ f, Yy S C (XM f)
 | 0 => fun L op x y r _ _ _ _ h => by cases h
 | f + 1 => fun L op x y r hok hx hy ho h => by
   have hb := QdP hi f
   unfold XM QcB at h
   split at h
   ·rename_i a b ha hbb
    cases h
    obtain ⟨a1, a2⟩ := Xo (S := S) (C := C) hok ha
    obtain ⟨b1, b2⟩ := Xo (S := S) (C := C) hok hbb
    rw [a1, b1]
    exact Qa0 hok (Xz a2 b2)
   ·split at h
    ·rename_i hs
     rw [QdH hs.1]
     exact QrP hb hi hok ho hy hx h
    ·exact QrP hb hi hok ho hx hy h
end Go.Proofs.YtpdeoalocejodaaGreatDoor
namespace Go.Proofs.YtpdeoalocejodaaGreatDoor
open Go Go.Am
set_option maxRecDepth 100000
set_option maxHeartbeats 1000000
theorem Qg {L L' : List Nd} (h : L <+: L') {x : Int} (hx : inG L x) : QE L' x = QE L x := by
 obtain ⟨h1, h2⟩ := XF h hx
 simp only [QE, h1, hx, h2]
theorem Qcs {L L' : List Nd} (h : L <+: L') {x : Int} (hx : inG L x) : Yt L' x = Yt L x := by
 obtain ⟨h1, h2⟩ := XF h hx
 simp only [Yt, h1, hx, h2]
theorem X7 {L : List Nd} {x : Int} (h : Yt L x = true) : inG L x := by
 simp only [Yt, decide_eq_true_eq] at h
 exact h.1
theorem QZ (L : List Nd) (n : Int) : inG (numN L n).2 (numN L n).1 ∧ QE (numN L n).2 (numN L n).1 = some n ∧ L <+: (numN L n).2 ∧ (numN L n).1 ≠ -1 := by
 obtain ⟨h1, h2⟩ := QhX (Qmb n L.length)
 refine ⟨h1, ?_, Qcu _ _, ?_⟩
 ·show QE (addN L _).2 (addN L _).1 = some n
  rw [QE, if_pos ⟨h1, by rw [h2]⟩, h2]
 ·have := h1.1
  show (addN L _).1 ≠ -1
  omega
theorem Qai {L : List Nd} {b op : Int} (h : Yt L b = true) (hn : QE L b = none) (ho : op ≠ 14 ∧ op ≠ 15 ∧ op ≠ 16) : ofI L b op = none := by
 simp only [Yt, decide_eq_true_eq] at h
 obtain ⟨hx, h⟩ := h
 unfold ofI
 rw [if_neg]
 rintro ⟨_, hk, e⟩
 rcases h with ⟨_, h⟩ | ⟨h, _⟩
 ·omega
 ·omega
theorem Y8 {L : List Nd} {b op : Int} (h : ofI L b op = none) : Xw L b op = none := by simp [Xw, h]
theorem QD {L : List Nd} {k : List Nd → Option GR} : X2 (some (-1, L)) k = k L := by simp [X2]
theorem Z0 {r : GR} {k : List Nd → Option GR} (h : r.1 ≠ -1) : X2 (some r) k = some r := by simp [X2, h]
theorem Qdx {r0 : Option GR} {k : List Nd → Option GR} (h : r0.isSome = true) (hk : ∀ r, r0 = some r → (k r.2).isSome = true) : (X2 r0 k).isSome = true := by
 obtain ⟨r, hr⟩ := Option.isSome_iff_exists.1 h
 have := hk r hr
 rw [hr] at *
 by_cases h1 : r.1 = -1
 ·simp [X2, h1, this]
 ·simp [X2, h1]
theorem YA {L : List Nd} {x : Int} (h : inG L x) : x ≠ -1 := by have := h.1; omega
theorem Qq8 {L : List Nd} {n : Int} (h : two n) : Yt (numN L n).2 (numN L n).1 = true := by
 obtain ⟨h1, h2⟩ := QhX (Qmb n L.length)
 have h1' : inG (numN L n).2 (numN L n).1 := h1
 have h2' : nd (numN L n).2 (numN L n).1 = ⟨1, n, 0, 0, 0, 0⟩ := h2
 simp only [Yt, h1', h2', decide_eq_true_eq, true_and]
 exact .inr h
theorem Qzh {L : List Nd} {x y : Int} (hx : inG L x) (hy : inG L y) : Yt (addN L ⟨4, 0, 0, 16, x, y⟩).2 (addN L ⟨4, 0, 0, 16, x, y⟩).1 = true := by
 obtain ⟨h1, h2⟩ := QhX (Qbq (op := 16) (by omega) hx hy)
 simp only [Yt, h1, h2, decide_eq_true_eq, true_and]
 exact .inl (.inr (.inr trivial))
def QtU (bin : ZR) : Prop := ∀ L x y r, inG L x → inG L y → okN L → bin L 16 x y = some r → Yt r.2 r.1 = true
theorem QeD {bin : ZR} (hb : QtU bin) {L : List Nd} (hok : okN L) {x n : Int} (hx : inG L x) (hn : i64 n) {r : GR} (h : withN bin L 16 x n = some r) : Yt r.2 r.1 = true := by
 obtain ⟨h1, h2, h3, h4⟩ := QZ L n
 exact hb _ _ _ _ (XF h3 hx).1 h1 (Xs hok hn (show i64 0 by unfold i64; omega)) h
theorem Qmr {L : List Nd} (hok : okN L) {x op u v : Int} (h : ofI L x op = some (u, v)) : inG L u ∧ inG L v ∧ u < x ∧ v < x ∧ QE L x = none ∧ inG L x := by
 obtain ⟨h1, h2, h3, h4, _⟩ := Qa7 (S := []) (C := []) hok h
 unfold ofI at h
 split at h
 ·rename_i hc
  refine ⟨h1, h2, h3, h4, ?_, hc.1⟩
  rw [QE, if_neg]
  omega
 ·cases h
theorem ZJ {L : List Nd} (hok : okN L) {x op y d : Int} (h : Xw L x op = some (y, d)) : inG L y ∧ y < x ∧ i64 d ∧ QE L x = none ∧ inG L x := by
 obtain ⟨h1, h2, h3, _⟩ := Q8 (S := []) (C := []) hok h
 unfold Xw at h
 cases ho : ofI L x op with
 | none => rw [ho] at h; cases h
 | some p =>
   obtain ⟨u, v⟩ := p
   obtain ⟨_, _, _, _, h5, h6⟩ := Qmr hok ho
   exact ⟨h1, h2, h3, h5, h6⟩
theorem Qyn {bin : ZR} (hb : QtU bin) {L : List Nd} (hok : okN L) {x y : Int} (hx : inG L x) (hy : inG L y) {r : GR} (h : XA bin L 16 x y (QE L x) (QE L y) = some r) : (r.1 = -1 ∧ r.2 = L) ∨ Yt r.2 r.1 = true := by
 unfold XA at h
 split at h
 ·cases h
  right
  have e : ZI L 16 x = numN L 1 := by simp [ZI]
  rw [e]
  exact Qq8 (.inr rfl)
 ·split at h
  ·rename_i b hq
   have hbi := (Xo (S := []) (C := []) hok hq).2
   have e1 : QT L 16 x b = (-1, L) := by simp [QT, QQ]
   have e2 : Xm bin L 16 x b = some (-1, L) := by simp [Xm]
   have e3 : Xf bin L 16 x b = some (-1, L) := by
    unfold Xf
    split
    ·simp [XB]
    ·rfl
   unfold QU at h
   rw [e1, QD, e2, QD] at h
   unfold X2 at h
   cases ht : Xv bin L 16 x b with
   | none => rw [ht] at h; cases h
   | some q =>
     rw [ht] at h
     simp only [Option.bind_some] at h
     have hq2 : (q.1 = -1 ∧ q.2 = L) ∨ Yt q.2 q.1 = true := by
      unfold Xv at ht
      split at ht
      ·cases ht; exact .inl ⟨rfl, rfl⟩
      ·rename_i hbo
       split at ht
       ·cases ht; exact .inr (by simpa using hbo)
       ·split at ht
        ·cases ht; exact .inr (Qq8 (.inl rfl))
        ·split at ht
         ·rename_i h1; omega
         ·split at ht
          ·split at ht
           ·rename_i h1; cases ht; exact .inr h1.2.2
           ·cases ht; exact .inl ⟨rfl, rfl⟩
          ·cases ht; exact .inl ⟨rfl, rfl⟩
     split at h
     ·rename_i hne
      cases h
      rcases hq2 with ⟨h1, _⟩ | h1
      ·exact absurd h1 hne
      ·exact .inr h1
     ·rename_i hne
      have hqn : q.1 = -1 := Decidable.byContradiction fun h => hne h
      have hqL : q.2 = L := by
       rcases hq2 with ⟨_, h1⟩ | h1
       ·exact h1
       ·exact absurd hqn (YA (X7 h1))
      rw [hqL, e3] at h
      simp only [Option.bind_some, ne_eq, not_true_eq_false, if_false] at h
      unfold Q6 at h
      rw [if_neg (by simp)] at h
      split at h
      ·rename_i y' d hta
       obtain ⟨t1, t2, t3, t4, t5⟩ := ZJ hok hta
       exact .inr (QeD hb hok t1 (Qq _) h)
      ·split at h
       ·rename_i y' d hta
        obtain ⟨t1, t2, t3, t4, t5⟩ := ZJ hok hta
        exact .inr (QeD hb hok t1 (Xz hbi t3) h)
       ·split at h
        ·rename_i u v hof
         obtain ⟨t1, t2, _⟩ := Qmr hok hof
         split at h
         ·exact .inr (hb _ _ _ _ t1 t2 hok h)
         ·cases h; exact .inl ⟨rfl, rfl⟩
        ·split at h
         ·rename_i u v hof
          obtain ⟨t1, t2, _⟩ := Qmr hok hof
          split at h
          ·exact .inr (hb _ _ _ _ t1 t2 hok h)
          ·cases h; exact .inl ⟨rfl, rfl⟩
         ·cases h; exact .inl ⟨rfl, rfl⟩
  ·split at h
   ·rename_i h1; omega
   ·cases h; exact .inl ⟨rfl, rfl⟩
theorem QrO {bin : ZR} (hb : QtU bin) {L : List Nd} (hok : okN L) {x y : Int} (hx : inG L x) (hy : inG L y) {r : GR} (h : Y4 bin L 16 x y (QE L x) (QE L y) = some r) : Yt r.2 r.1 = true := by
 unfold Y4 X2 at h
 cases hr : XA bin L 16 x y (QE L x) (QE L y) with
 | none => rw [hr] at h; cases h
 | some q =>
   rw [hr] at h
   simp only [Option.bind_some] at h
   have hq := Qyn hb hok hx hy hr
   split at h
   ·rename_i hne
    cases h
    rcases hq with ⟨h1, _⟩ | h1
    ·exact absurd h1 hne
    ·exact h1
   ·rename_i hne
    have hqn : q.1 = -1 := Decidable.byContradiction fun h => hne h
    rcases hq with ⟨_, h1⟩ | h1
    ·rw [h1] at h; cases h; exact Qzh hx hy
    ·exact absurd hqn (YA (X7 h1))
theorem Qzj {bin : ZR} (hb : QtU bin) : QtU (QcB bin) := by
 intro L x y r hx hy hok h
 unfold QcB at h
 split at h
 ·rename_i a b _ _
  cases h
  exact Qq8 (Qqb (.inr (.inr rfl)))
 ·split at h
  ·exact QrO hb hok hy hx h
  ·exact QrO hb hok hx hy h
theorem Qct : ∀ f, QtU (XM f)
 | 0 => fun L x y r _ _ _ h => by cases h
 | f + 1 => Qzj (Qct f)
theorem QEi {bin : ZR} {L : List Nd} {b z : Int} (hb : Yt L b = true) (hz : QE L z = some 0) : (QcB bin L 16 b z).isSome = true := by
 unfold QcB
 rw [hz]
 cases hn : QE L b with
 | some a => rfl
 | none =>
   simp only [Option.isSome_none, reduceCtorEq, false_and, or_self, and_false, Bool.false_eq_true, if_false]
   unfold Y4
   refine Qdx ?_ fun r hr => rfl
   unfold XA
   split
   ·rfl
   ·have e1 : QT L 16 b 0 = (-1, L) := by simp [QT, QQ]
    have e2 : Xm bin L 16 b 0 = some (-1, L) := by simp [Xm]
    have e3 : Xf bin L 16 b 0 = some (-1, L) := by
     unfold Xf
     split
     ·simp [XB]
     ·rfl
    have o1 := Qai (op := 1) hb hn (by omega)
    have o10 := Qai (op := 10) hb hn (by omega)
    have o2 := Qai (op := 2) hb hn (by omega)
    have e4 : Q6 bin L 16 b 0 = some (-1, L) := by simp [Q6, Y8 o1, Y8 o10, o10, o2]
    simp only [QU, e1, QD, e2]
    unfold Xv
    rw [if_neg (by simp [hb]), if_neg (by omega), if_neg (by omega), if_neg (by omega)]
    split
    ·split
     ·rename_i h1
      rw [Z0 (YA (X7 h1.2.2))]; rfl
     ·rw [QD, e3, QD, e4]; rfl
    ·rw [QD, e3, QD, e4]; rfl
theorem QGL {bin : ZR} {L : List Nd} {b z c : Int} (hb : Yt L b = true) (hz : QE L z = some c) (hc : c % 2 = 0) : (QcB bin L 10 b z).isSome = true := by
 unfold QcB
 rw [hz]
 cases hn : QE L b with
 | some a => rfl
 | none =>
   simp only [Option.isSome_none, reduceCtorEq, false_and, or_self, and_false, Bool.false_eq_true, if_false]
   unfold Y4
   refine Qdx ?_ fun r hr => rfl
   unfold XA
   split
   ·rfl
   ·have o10 := Qai (op := 10) hb hn (by omega)
    have e2 : Xm bin L 10 b c = some (-1, L) := by simp [Xm]
    have e3 : Xv bin L 10 b c = some (-1, L) := by
     unfold Xv
     rw [if_neg (by simp [hb]), if_neg (by omega), if_neg (by omega), if_neg (by omega)]
     split
     ·rw [if_neg (by omega)]
     ·rfl
    have e4 : Xf bin L 10 b c = some (-1, L) := by simp [Xf, Y8 o10]
    have e5 : Q6 bin L 10 b c = some (-1, L) := by simp [Q6]
    show (QU bin L 10 b c).isSome = true
    unfold QU
    by_cases h0 : c = 0
    ·have e1 : QT L 10 b c = (b, L) := by simp [QT, QQ, h0]
     rw [e1, Z0 (YA (X7 hb))]; rfl
    ·have e1 : QT L 10 b c = (-1, L) := by
      have : ¬ (0 : Int) = c := fun h => h0 h.symm
      simp [QT, QQ, this]
     rw [e1, QD, e2, QD, e3, QD, e4, QD, e5]; rfl
theorem QwR {bin : ZR} {L : List Nd} {op x z c : Int} (ho : op = 12 ∨ op = 13) (hx : inG L x) (hz : QE L z = some c) (hc : c = c % 64) : (QcB bin L op x z).isSome = true := by
 unfold QcB
 rw [hz]
 cases hn : QE L x with
 | some a => rfl
 | none =>
   have hs : QaK op = false := by rcases ho with rfl | rfl <;> rfl
   simp only [hs, Bool.false_eq_true, false_and, if_false]
   unfold Y4
   refine Qdx ?_ fun r hr => rfl
   unfold XA
   split
   ·rfl
   ·have hg : XB op = false := by rcases ho with rfl | rfl <;> rfl
    have hk : QQ op = some 0 := by rcases ho with rfl | rfl <;> rfl
    have e2 : Xm bin L op x c = some (-1, L) := by
     unfold Xm
     rw [if_neg (by omega), if_neg (by omega), if_neg (fun h => h.2 hc), if_neg (by omega), if_neg (by omega), if_neg (by omega)]
    have e3 : Xv bin L op x c = some (-1, L) := by
     unfold Xv
     split
     ·rfl
     ·rw [if_neg (by omega), if_neg (by omega), if_neg (by omega)]
      split
      ·rw [if_neg (by omega)]
      ·rfl
    have e4 : Xf bin L op x c = some (-1, L) := by
     unfold Xf
     split
     ·rw [if_neg (by simp [hg])]
     ·rfl
    have e5 : Q6 bin L op x c = some (-1, L) := by
     unfold Q6
     rw [if_pos (by omega)]
    show (QU bin L op x c).isSome = true
    unfold QU
    by_cases h0 : c = 0
    ·have e1 : QT L op x c = (x, L) := by simp [QT, hk, h0]
     rw [e1, Z0 (YA hx)]; rfl
    ·have e1 : QT L op x c = (-1, L) := by
      have : ¬ (0 : Int) = c := fun h => h0 h.symm
      unfold QT
      rw [hk, if_neg (by simp [this]), if_neg (by omega), if_neg (by omega), if_neg (by omega)]
     rw [e1, QD, e2, QD, e3, QD, e4, QD, e5]; rfl
def Qy3 (T : List Nat) (d : Nd) : Nat := if d.kind = 1 then 0 else if d.kind = 4 then 1 + max (T.getD d.x.toNat 0) (T.getD d.y.toNat 0) else 1
def Qm5 (L : List Nd) : List Nat := L.foldl (fun T d => T ++ [Qy3 T d]) []
def wt (L : List Nd) (x : Int) : Nat := (Qm5 L).getD x.toNat 0
theorem QkN (L : List Nd) (d : Nd) : Qm5 (L ++ [d]) = Qm5 L ++ [Qy3 (Qm5 L) d] := by simp [Qm5, List.foldl_append]
theorem QjP (L : List Nd) : (Qm5 L).length = L.length := by
 refine Qbp (p := fun L => (Qm5 L).length = L.length) rfl (fun l a h => ?_) L
 rw [QkN]; simp [h]
theorem QmE {L M : List Nd} (h : L <+: M) : ∃ r, Qm5 M = Qm5 L ++ r := by
 obtain ⟨s, rfl⟩ := h
 refine Qbp (p := fun s => ∃ r, Qm5 (L ++ s) = Qm5 L ++ r) ⟨[], by simp⟩ (fun l a ⟨r, hr⟩ => ?_) s
 exact ⟨r ++ [Qy3 (Qm5 (L ++ l)) a], by rw [← List.append_assoc, QkN, hr, List.append_assoc]⟩
theorem Qsi {l m : List Nat} {i : Nat} (h : i < l.length) : (l ++ m).getD i 0 = l.getD i 0 := by
 simp [List.getD_eq_getElem?_getD, List.getElem?_append_left h]
theorem X8 {L L' : List Nd} (h : L <+: L') {x : Int} (hx : inG L x) : wt L' x = wt L x := by
 obtain ⟨r, hr⟩ := QmE h
 unfold inG at hx
 unfold wt
 rw [hr, Qsi (by rw [QjP]; omega)]
theorem QvA {L : List Nd} {i : Nat} {d : Nd} (h : L[i]? = some d) : (Qm5 L).getD i 0 = Qy3 (Qm5 (L.take i)) d := by
 have hp : L.take i ++ [d] <+: L := by
  have : L.take (i + 1) = L.take i ++ [d] := by rw [List.take_add_one, h]; rfl
  rw [← this]; exact List.take_prefix _ _
 obtain ⟨r, hr⟩ := QmE hp
 have hi := (List.getElem?_eq_some_iff.1 h).1
 have hl : (Qm5 (L.take i)).length = i := by rw [QjP, List.length_take]; omega
 rw [hr, QkN, List.append_assoc, List.getD_eq_getElem?_getD, List.getElem?_append_right (by omega), hl]
 simp
theorem Qk4 {L : List Nd} {x : Int} (hx : inG L x) : L[x.toNat]? = some (nd L x) := by
 unfold inG at hx
 have hlt : x.toNat < L.length := by omega
 simp [nd, List.getD_eq_getElem?_getD, List.getElem?_eq_getElem hlt]
theorem QlS {L : List Nd} {i p : Nat} (h : p < i) (hi : i ≤ L.length) : (Qm5 (L.take i)).getD p 0 = (Qm5 L).getD p 0 := by
 obtain ⟨r, hr⟩ := QmE (List.take_prefix i L)
 rw [hr, Qsi (by rw [QjP, List.length_take]; omega)]
theorem Xu {L : List Nd} {x n : Int} (h : QE L x = some n) : wt L x = 0 := by
 unfold QE at h
 split at h
 ·rename_i h1
  unfold wt
  rw [QvA (Qk4 h1.1), Qy3, if_pos h1.2]
 ·cases h
theorem Qj4 {L : List Nd} {x : Int} (hx : inG L x) (h : QE L x = none) : 1 ≤ wt L x := by
 have hk : (nd L x).kind ≠ 1 := fun hk => by rw [QE, if_pos ⟨hx, hk⟩] at h; cases h
 unfold wt
 rw [QvA (Qk4 hx), Qy3, if_neg hk]
 split <;> omega
theorem Qp8 {L : List Nd} (hok : okN L) {x op u v : Int} (h : ofI L x op = some (u, v)) : wt L x = 1 + max (wt L u) (wt L v) := by
 have h5 := Qa7 (S := []) (C := []) hok h
 unfold ofI at h
 split at h
 ·rename_i h1
  cases h
  have hx := h1.1
  have a := h5.1
  have b := h5.2.1
  have c := h5.2.2.1
  have d := h5.2.2.2.1
  unfold inG at hx a b
  unfold wt
  rw [QvA (Qk4 h1.1), Qy3, if_neg (by omega), if_pos h1.2.1, QlS (by omega) (by omega), QlS (by omega) (by omega)]
 ·cases h
theorem QeC {L : List Nd} (hok : okN L) {x op y d : Int} (h : Xw L x op = some (y, d)) : wt L y < wt L x := by
 unfold Xw at h
 cases ho : ofI L x op with
 | none => rw [ho] at h; cases h
 | some p =>
   obtain ⟨u, v⟩ := p
   rw [ho] at h
   cases hn : QE L v with
   | none => simp [hn] at h
   | some c =>
     simp only [Option.bind_some, hn, Option.map_some, Option.some.injEq, Prod.mk.injEq] at h
     obtain ⟨rfl, rfl⟩ := h
     have := Qp8 hok ho
     omega
theorem QGQ {L : List Nd} (hok : okN L) : ∀ i : Nat, (Qm5 L).getD i 0 ≤ i + 1 := by
 intro i
 induction i using Nat.strongRecOn with
 | _ i ih =>
   by_cases hi : i < L.length
   ·obtain ⟨d, hd⟩ : ∃ d, L[i]? = some d := ⟨_, List.getElem?_eq_getElem hi⟩
    rw [QvA hd, Qy3]
    split
    ·omega
    ·split
     ·rename_i hk
      have hp := (Qe6 (hok i d hd).2.2).1
      have h1 := hp d.x (by simp [Nd.parts, hk])
      have h2 := hp d.y (by simp [Nd.parts, hk])
      rw [QlS (by omega) (by omega), QlS (by omega) (by omega)]
      have := ih d.x.toNat (by omega)
      have := ih d.y.toNat (by omega)
      omega
     ·omega
   ·rw [List.getD_eq_getElem?_getD, List.getElem?_eq_none (by rw [QjP]; omega)]
    simp
theorem Qx0 {L : List Nd} (hok : okN L) (x : Int) : wt L x ≤ x.toNat + 1 := QGQ hok _
def Qm4 (op : Int) : Nat := if op = 2 ∨ op = 6 ∨ op = 7 ∨ op = 11 ∨ op = 15 ∨ op = 12 ∨ op = 13 then 1 else 0
theorem QqC (op : Int) : Qm4 op ≤ 1 := by unfold Qm4; split <;> omega
def Ends (bin : ZR) (N : Nat) : Prop := ∀ L op x y, okN L → inG L x → inG L y → (1 ≤ op ∧ op ≤ 16) → 2 * max (wt L x) (wt L y) + Qm4 op < N → (bin L op x y).isSome = true
theorem QbA {bin : ZR} {N : Nat} (hb : Ends bin N) {L : List Nd} (hok : okN L) {op x n : Int} (hx : inG L x) (ho : 1 ≤ op ∧ op ≤ 16) (hn : i64 n) (hw : 2 * wt L x + Qm4 op < N) : (withN bin L op x n).isSome = true := by
 obtain ⟨h1, h2, h3, h4⟩ := QZ L n
 have hok2 : okN (numN L n).2 := Xs hok hn (show i64 0 by unfold i64; omega)
 refine hb _ _ _ _ hok2 (XF h3 hx).1 h1 ho ?_
 rw [X8 h3 hx, Xu h2, Nat.max_eq_left (Nat.zero_le _)]
 exact hw
theorem Qwz : Qm4 16 = 0 := by decide
theorem QvB {x : Int} (h : x % 2 = 0) : IntKind.i64.wrap x % 2 = 0 := by
 rw [IntKind.wrap_i64]; omega
theorem QxZ {X : Nat} (h : X % 2 = 1) : (X ^^^ 1) % 2 = 0 := by
 have e3 := Qj2 1 1 (X / 2) 1 0 (by decide) (by decide)
 simp only [Nat.pow_one, Nat.mul_zero, Nat.add_zero, Nat.xor_self, Nat.zero_add, Nat.xor_zero] at e3
 rw [show 1 + 2 * (X / 2) = X by omega] at e3
 rw [e3]; omega
theorem Qj3 {c : Int} (h : c % 2 = 1) : doW 10 c 1 % 2 = 0 := by
 have e0 : doW 10 c 1 = IntKind.i64.wrap ((bv c ^^^ bv 1).toNat : Int) := by rw [Qw3, Qn0]
 have e1 : (bv 1).toNat = 1 := by decide
 have e2 : (bv c).toNat = (c % 18446744073709551616).toNat := by rw [BitVec.toNat_ofInt]; rfl
 have h3 : (c % 18446744073709551616).toNat % 2 = 1 := by omega
 have e3 := QxZ h3
 rw [e0, BitVec.toNat_xor, e1, e2]
 exact QvB (by omega)
def ZL (L : List Nd) (r : GR) : Prop := r.1 ≠ -1 ∨ r = (-1, L)
theorem YY {L : List Nd} {op x c : Int} (hx : inG L x) : ZL L (QT L op x c) := by
 have h0 := (QZ L 0).2.2.2
 have h1 := (QZ L (-1)).2.2.2
 unfold QT
 split
 ·exact .inl (YA hx)
 ·split
  ·exact .inl h0
  ·split
   ·exact .inl h1
   ·split
    ·exact .inl h0
    ·exact .inr rfl
section
variable {bin : ZR}
theorem YW (hb : Yy [] [] bin) {L : List Nd} (hok : okN L) {op x c : Int} (hx : inG L x) (hc : i64 c) {r : GR} (h : Xm bin L op x c = some r) : ZL L r := by
 unfold Xm at h
 split at h
 ·exact .inl (QK hb hok hx (by omega) (Qq _) h).2
 ·split at h
  ·exact .inl (QK hb hok hx (by omega) (Qq _) h).2
  ·split at h
   ·rename_i h1; exact .inl (QK hb hok hx (by omega) (Zw (by omega)) h).2
   ·split at h
    ·rename_i h1
     obtain ⟨k, hk⟩ := Option.isSome_iff_exists.1 h1.2
     have hk2 := (Yf hk).1
     rw [hk] at h
     exact .inl (QK hb hok hx (by omega) (Zw (by simp; omega)) h).2
    ·split at h
     ·exact .inl (QK hb hok hx (by omega) (Qq _) h).2
     ·split at h
      ·exact .inl (QK hb hok hx (by omega) (Zw (by omega)) h).2
      ·cases h; exact .inr rfl
theorem YV (hb : Yy [] [] bin) {L : List Nd} (hok : okN L) {op x c : Int} (hc : i64 c) {r : GR} (h : Xv bin L op x c = some r) : ZL L r := by
 unfold Xv at h
 split at h
 ·cases h; exact .inr rfl
 ·rename_i hbo
  have hx := X7 (by simpa using hbo : Yt L x = true)
  split at h
  ·cases h; exact .inl (YA hx)
  ·split at h
   ·cases h; exact .inl (QZ L 0).2.2.2
   ·split at h
    ·cases hr : withN bin L 16 x 0 with
     | none => rw [hr] at h; cases h
     | some q =>
       rw [hr] at h
       simp only [Option.bind_some] at h
       obtain ⟨g1, g2⟩ := QK hb hok hx (by omega) (Zw (by omega)) hr
       exact .inl (QK hb g1.ok (g1.val g2).1 (by omega) (Xz hc (Zw (by omega))) h).2
    ·split at h
     ·split at h
      ·rename_i h1; cases h; exact .inl (YA (X7 h1.2.2))
      ·cases h; exact .inr rfl
     ·cases h; exact .inr rfl
theorem YX (hb : Yy [] [] bin) {L : List Nd} (hok : okN L) {op x c : Int} (ho : 1 ≤ op ∧ op ≤ 16) (hc : i64 c) {r : GR} (h : Xf bin L op x c = some r) : ZL L r := by
 unfold Xf at h
 split at h
 ·rename_i y d hta
  obtain ⟨t1, t2, t3, _⟩ := ZJ hok hta
  split at h
  ·exact .inl (QK hb hok t1 ho (Xz t3 hc) h).2
  ·cases h; exact .inr rfl
 ·cases h; exact .inr rfl
theorem Qhi {L : List Nd} {r0 : Option GR} {k : List Nd → Option GR} (h : r0.isSome = true) (hn : ∀ r, r0 = some r → ZL L r) (hk : (k L).isSome = true) : (X2 r0 k).isSome = true := by
 obtain ⟨r, hr⟩ := Option.isSome_iff_exists.1 h
 rcases hn r hr with h1 | h1
 ·rw [hr, Z0 h1]; rfl
 ·rw [hr, h1, QD]; exact hk
end
theorem Qs0 {f : Nat} (hb : Ends (XM (f + 1)) (f + 1)) (hk : ∀ S C, (∀ x ∈ S, i64 x) → (∀ c ∈ C, i64 c.n) → Yy S C (XM (f + 1))) {L : List Nd} (hok : okN L) {op x c : Int} (hx : inG L x) (ho : 1 ≤ op ∧ op ≤ 16) (hc : i64 c) (hn : QE L x = none) (hw : 2 * wt L x + Qm4 op < f + 2) (hf : 2 ≤ f + 1) : (QU (XM (f + 1)) L op x c).isSome = true := by
 have hK := hk [] [] (by simp) (by simp)
 have hwx := Qj4 hx hn
 have i0 : i64 0 := by unfold i64; omega
 have q1 : Qm4 1 = 0 := by decide
 have q2 : Qm4 2 = 1 := by decide
 have q3 : Qm4 3 = 0 := by decide
 have q7 : Qm4 7 = 1 := by decide
 have q8 : Qm4 8 = 0 := by decide
 have q11 : Qm4 11 = 1 := by decide
 have q15 : Qm4 15 = 1 := by decide
 have q16 : Qm4 16 = 0 := by decide
 have moved : (Xm (XM (f + 1)) L op x c).isSome = true := by
  unfold Xm
  have h64 : i64 (c % 64) := by unfold i64; omega
  split
  ·rename_i h; subst h
   exact QbA hb hok hx (by omega) (Qq _) (by omega)
  ·split
   ·rename_i h; subst h
    exact QbA hb hok hx (by omega) (Qq _) (by omega)
   ·split
    ·rename_i h
     obtain ⟨h1, h2, h3, h4⟩ := QZ L (c % 64)
     exact QwR h.1 (XF h3 hx).1 h2 (by omega)
    ·split
     ·rename_i h
      obtain ⟨k, hk'⟩ := Option.isSome_iff_exists.1 h.2
      have hk2 := (Yf hk').1
      rw [hk']
      obtain ⟨h1, h2, h3, h4⟩ := QZ L ((k : Nat) : Int)
      exact QwR (.inl rfl) (XF h3 hx).1 h2 (by omega)
     ·split
      ·rename_i h
       obtain ⟨rfl, _⟩ := h
       exact QbA hb hok hx (by omega) (Qq _) (by omega)
      ·split
       ·rename_i h
        obtain ⟨rfl, _⟩ := h
        exact QbA hb hok hx (by omega) i0 (by omega)
       ·rfl
 have truth : (Xv (XM (f + 1)) L op x c).isSome = true := by
  unfold Xv
  split
  ·rfl
  ·rename_i hbo
   have hbo : Yt L x = true := by simpa using hbo
   split
   ·rfl
   ·split
    ·rfl
    ·split
     ·rename_i h1
      obtain ⟨h1, h2, h3, h4⟩ := QZ L 0
      have hok2 : okN (numN L 0).2 := Xs hok i0 i0
      have he : (withN (XM (f + 1)) L 16 x 0).isSome = true := QEi (by rw [Qcs h3 hx]; exact hbo) h2
      obtain ⟨q, hq⟩ := Option.isSome_iff_exists.1 he
      rw [hq]
      simp only [Option.bind_some]
      have hbq := QeD (Qct (f + 1)) hok hx i0 hq
      obtain ⟨k1, k2, k3, k4⟩ := QZ q.2 (doW 10 c 1)
      refine QGL (by rw [Qcs k3 (X7 hbq)]; exact hbq) k2 ?_
      rename_i h5 _ _ _
      have e : doW 10 c 1 % 2 = 0 := Qj3 (by omega)
      exact e
     ·split
      ·split <;> rfl
      ·rfl
 have hKo : ∀ y d, Xw L x op = some (y, d) → 2 * wt L y + Qm4 op < f + 1 := fun y d h => by
  obtain ⟨t1, t2, _⟩ := ZJ hok h
  have := QeC hok h
  have := QqC op
  omega
 have group : (Xf (XM (f + 1)) L op x c).isSome = true := by
  unfold Xf
  split
  ·rename_i y d hta
   obtain ⟨t1, t2, t3, _⟩ := ZJ hok hta
   split
   ·exact QbA hb hok t1 ho (Xz t3 hc) (hKo _ _ hta)
   ·rfl
  ·rfl
 have equal : (Q6 (XM (f + 1)) L op x c).isSome = true := by
  unfold Q6
  split
  ·rfl
  ·have h16 := Qwz
   split
   ·rename_i y d hta
    obtain ⟨t1, t2, t3, _⟩ := ZJ hok hta
    have := QeC hok hta
    exact QbA hb hok t1 (by omega) (Qq _) (by omega)
   ·split
    ·rename_i y d hta
     obtain ⟨t1, t2, t3, _⟩ := ZJ hok hta
     have := QeC hok hta
     exact QbA hb hok t1 (by omega) (Xz hc t3) (by omega)
    ·split
     ·rename_i u v hof
      obtain ⟨t1, t2, t3, t4, _⟩ := Qmr hok hof
      have := Qp8 hok hof
      split
      ·exact hb _ _ _ _ hok t1 t2 (by omega) (by omega)
      ·rfl
     ·split
      ·rename_i u v hof
       obtain ⟨t1, t2, t3, t4, _⟩ := Qmr hok hof
       have := Qp8 hok hof
       split
       ·exact hb _ _ _ _ hok t1 t2 (by omega) (by omega)
       ·rfl
      ·rfl
 unfold QU
 exact Qhi rfl (fun r hr => by cases hr; exact YY hx) (Qhi moved (fun r hr => YW hK hok hx hc hr) (Qhi truth (fun r hr => YV hK hok hc hr) (Qhi group (fun r hr => YX hK hok ho hc hr) equal)))
theorem QrN {f : Nat} (hb : Ends (XM (f + 1)) (f + 1)) (hk : ∀ S C, (∀ x ∈ S, i64 x) → (∀ c ∈ C, i64 c.n) → Yy S C (XM (f + 1))) {L : List Nd} (hok : okN L) {op x y : Int} (hx : inG L x) (hy : inG L y) (ho : 1 ≤ op ∧ op ≤ 16) (hn : ¬ ((QE L x).isSome = true ∧ (QE L y).isSome = true)) (hw : 2 * max (wt L x) (wt L y) + Qm4 op < f + 2) (hf : 2 ≤ f + 1) : (Y4 (XM (f + 1)) L op x y (QE L x) (QE L y)).isSome = true := by
 unfold Y4
 refine Qdx ?_ fun r hr => rfl
 unfold XA
 split
 ·rfl
 ·split
  ·rename_i b hq
   have hx0 : QE L x = none := by
    cases h : QE L x with
    | none => rfl
    | some a => exact absurd ⟨by simp [h], by simp [hq]⟩ hn
   have hbi := (Xo (S := []) (C := []) hok hq).2
   exact Qs0 hb hk hok hx ho hbi hx0 (by omega) hf
  ·rename_i hq
   split
   ·rename_i h1
    obtain ⟨hp, rfl⟩ := h1
    have h16 := Qwz
    have h15 : Qm4 15 = 1 := by decide
    have he := hb L 16 y x hok hy hx (by omega) (by rw [Nat.max_comm]; omega)
    obtain ⟨q, hq2⟩ := Option.isSome_iff_exists.1 he
    rw [hq2]
    simp only [Option.bind_some]
    have hm := (hk [] [] (by simp) (by simp)) _ _ _ _ _ hok hy hx (by omega) hq2
    have hbq := Qct (f + 1) _ _ _ _ hy hx hok hq2
    exact QEi hbq (by rw [Qg hm.1.pre hx]; exact hp)
   ·rfl
theorem QmS : ∀ f, Ends (XM f) f
 | 0 => fun L op x y _ _ _ _ h => by omega
 | 1 => fun L op x y hok hx hy ho h => by
   have hx0 : wt L x = 0 := by omega
   have hy0 : wt L y = 0 := by omega
   cases h1 : QE L x with
   | none => have := Qj4 hx h1; omega
   | some a =>
     cases h2 : QE L y with
     | none => have := Qj4 hy h2; omega
     | some b =>
       show (QcB _ L op x y).isSome = true
       unfold QcB
       rw [h1, h2]; rfl
 | f + 2 => fun L op x y hok hx hy ho h => by
   have hb := QmS (f + 1)
   have hk : ∀ S C, (∀ x ∈ S, i64 x) → (∀ c ∈ C, i64 c.n) → Yy S C (XM (f + 1)) := fun S C hS hC => QdP (fun L hok x => Qcv hS hC (Qcx hok) x) (f + 1)
   show (QcB (XM (f + 1)) L op x y).isSome = true
   unfold QcB
   split
   ·rfl
   ·rename_i hne
    have hn : ¬ ((QE L x).isSome = true ∧ (QE L y).isSome = true) := fun ⟨h1, h2⟩ => by
     obtain ⟨a, ha⟩ := Option.isSome_iff_exists.1 h1
     obtain ⟨b, hb⟩ := Option.isSome_iff_exists.1 h2
     exact hne a b ha hb
    have hm : 2 ≤ f + 1 := by
     have : wt L x ≠ 0 ∨ wt L y ≠ 0 := by
      cases h1 : QE L x with
      | none => left; have := Qj4 hx h1; omega
      | some a =>
        cases h2 : QE L y with
        | none => right; have := Qj4 hy h2; omega
        | some b => exact absurd ⟨by simp [h1], by simp [h2]⟩ hn
     omega
    split
    ·exact QrN hb hk hok hy hx ho (fun ⟨h1, h2⟩ => hn ⟨h2, h1⟩) (by rw [Nat.max_comm]; omega) hm
    ·exact QrN hb hk hok hx hy ho hn (by omega) hm
variable {P : Program} {G : Nat → Option V}
def inL (L : List Nd) (ids : List Int) : Prop := ∀ x ∈ ids, 0 ≤ x ∧ x < L.length
instance {L : List Nd} {ids : List Int} : Decidable (inL L ids) := by unfold inL; infer_instance
def QxQ (S : List Int) (C : List Cl) (L : List Nd) (ids : List Int) : V := if inL L ids then .tup [.lst 1 (Q7 (ids.map (val S C L))) false, .bool true] else .tup [.lst 0 [] true, .bool false]
theorem Qs6 {α β : Type} {f g : α → β} : ∀ {l : List α}, (∀ x ∈ l, f x = g x) → l.map f = l.map g := fun h => List.map_congr_left h
theorem c_All (hT : Qj P tab) (SO : ZG P) {fmt : Int → List UInt8} {v0 v1 v2 v3 v4 t : Nat} {L : List Nd} (hL : L.length ≤ 1000000) (hok : okN L) (S : List Int) (hS : ∀ x ∈ S, i64 x) (tS : Bool) (C' : List Cl) (hC : C'.length ≤ 1000000) (hCn : ∀ c ∈ C', i64 c.n) (tC : Bool) (ids : List Int) (tr : Bool) (hil : ids.length ≤ 1000000) :
 C P G 5 Qdu [.ptr 1 v0 0, Qfc S tS 4 C' tC, .lst 1 (Q7 ids) tr] ⟨t, kG fmt v0 v1 v2 v3 v4 L⟩ fun v σ => v = QxQ S C' L ids ∧ ∃ t', t ≤ t' ∧ σ = ⟨t', kG fmt v0 v1 v2 v3 v4 L⟩ := by
 have hku := fun x hx => Qta (S := S) (C := C') hok.wf (Qgg hok) ids (x := x) hx
 refine Ql 5 (Nat.le_refl _) (QxJ (c_All0 hT SO hL hok S hS tS C' hC hCn tC ids tr hil) fun v σ hv => ?_)
 rcases hv with ⟨rfl, ⟨x, hx, hn⟩, t', ex, ht, rfl⟩ | ⟨vo, t', ve, vm, vk, ht, rfl, hall, rfl⟩
 ·refine .inl ⟨by rw [Qcp]; omega, ?_, t', ht, by simp [kG]⟩
  rw [QxQ, if_neg]
  intro hin
  rw [hku x hx, if_pos (hin x hx)] at hn
  cases hn
 ·have hin : inL L ids := fun x hx => by
   have h1 := hall x hx
   rw [hku x hx] at h1
   by_cases hr : 0 ≤ x ∧ x < L.length
   ·exact hr
   ·rw [if_neg hr] at h1; cases h1
  have ho : Qm2 (knows S C' L (QN L ids)) ids ids.length ids.length = Q7 (ids.map (val S C' L)) := by
   rw [Qm2, List.take_length, Nat.sub_self, List.replicate_zero, List.append_nil]
   congr 1
   refine Qs6 fun x hx => ?_
   rw [hku x hx, if_pos (hin x hx)]
   rfl
  rw [ho]
  refine .inr ⟨8, vo, 2, Q7 (ids.map (val S C' L)), by omega, rfl, Qk3 _, ?_, ?_, t', ht, ?_⟩
  ·simp [Yw, kG, QhW]
  ·have := frz_n (k := 8) (w := vo) (ids.map (val S C' L))
   simp only [Qc3, QyS, List.length_map] at this ⊢
   rw [this, QxQ, if_pos hin]
  ·simp [kG, X6]
theorem Qlq {j : Nat} : ∀ (i : Nat) (L : List Nd) (a b : V), (a, b) ∈ Qgz i L → V.under j b = true
 | _, [], _, _, h => by cases h
 | i, d :: l, a, b, h => by
   simp only [Qgz, List.mem_cons, Prod.mk.injEq] at h
   rcases h with ⟨_, rfl⟩ | h
   ·rfl
   ·exact Qlq (i + 1) l a b h
theorem kG_und {fmt : Int → List UInt8} {v0 v1 v2 v3 v4 : Nat} {L : List Nd} : QpO 5 (kG fmt v0 v1 v2 v3 v4 L) = true := by
 have h := Qlq (j := 5) 0 L
 simp [kG, QpO, Ob.under, Yk, V.under, QM _ (Qck L), QM _ (Zl _)]
 exact h
theorem Qwp {f : Nat} {args : List V} {r : V} {fmt : Int → List UInt8} {v0 v1 v2 v3 v4 t base : Nat} {L : List Nd} {ex : List (Option Ob)} (h : C P G 5 f (.ptr 1 v0 0 :: args) ⟨t, kG fmt v0 v1 v2 v3 v4 L⟩ fun v σ => v = r ∧ ∃ t', t ≤ t' ∧ σ = ⟨t', kG fmt v0 v1 v2 v3 v4 L⟩) (ha : Qv args = true) (hr : Qn r = true) :
 C P G base f (.ptr 1 v0 0 :: args) ⟨t, kG fmt v0 v1 v2 v3 v4 L ++ ex⟩ fun v σ => v = r ∧ ∃ t', t ≤ t' ∧ σ = ⟨t', kG fmt v0 v1 v2 v3 v4 L ++ ex⟩ :=
 C_read (oS := kG fmt v0 v1 v2 v3 v4 L) h kG_und (by rw [Qa]; simp [Yk, V.under, QM _ ha]) (under_nameless _ hr)
theorem QHg (S : List Int) (C : List Cl) (L : List Nd) (ids : List Int) : Qn (QxQ S C L ids) = true := by unfold QxQ; split <;> rfl
theorem k_All (hT : Qj P tab) (SO : ZG P) {base : Nat} {fmt : Int → List UInt8} {v0 v1 v2 v3 v4 t : Nat} {L : List Nd} {ex : List (Option Ob)} (hL : L.length ≤ 1000000) (hok : okN L) (S : List Int) (hS : ∀ x ∈ S, i64 x) (tS : Bool) (C' : List Cl) (hC : C'.length ≤ 1000000) (hCn : ∀ c ∈ C', i64 c.n) (tC : Bool) (ids : List Int) (tr : Bool) (hil : ids.length ≤ 1000000) :
 C P G base Qdu [.ptr 1 v0 0, Qfc S tS 4 C' tC, .lst 1 (Q7 ids) tr] ⟨t, kG fmt v0 v1 v2 v3 v4 L ++ ex⟩ fun v σ => v = QxQ S C' L ids ∧ ∃ t', t ≤ t' ∧ σ = ⟨t', kG fmt v0 v1 v2 v3 v4 L ++ ex⟩ :=
 Qwp (c_All hT SO hL hok S hS tS C' hC hCn tC ids tr hil) rfl (QHg ..)
def ofV (S : List Int) (C : List Cl) (L : List Nd) (x : Int) : V := if 0 ≤ x ∧ x < L.length then .tup [.int .i64 (val S C L x), .bool true] else .tup [.int .i64 0, .bool false]
theorem c_Of (hT : Qj P tab) (SO : ZG P) {fmt : Int → List UInt8} {v0 v1 v2 v3 v4 t : Nat} {L : List Nd} (hL : L.length ≤ 1000000) (hok : okN L) (S : List Int) (hS : ∀ x ∈ S, i64 x) (tS : Bool) (C' : List Cl) (hC : C'.length ≤ 1000000) (hCn : ∀ c ∈ C', i64 c.n) (tC : Bool) (x : Int) :
 C P G 5 Qia [.ptr 1 v0 0, Qfc S tS 4 C' tC, .int .i64 x] ⟨t, kG fmt v0 v1 v2 v3 v4 L⟩ fun v σ => v = ofV S C' L x ∧ ∃ t', t ≤ t' ∧ σ = ⟨t', kG fmt v0 v1 v2 v3 v4 L⟩ := by
 have hA := fun t tr ex => k_All (P := P) (G := G) hT SO (base := 5) (fmt := fmt) (v0 := v0) (v1 := v1) (v2 := v2) (v3 := v3) (v4 := v4) (t := t) (ex := ex) hL hok S hS tS C' hC hCn tC [x] tr (by simp)
 refine Ql 5 (Nat.le_refl _) (Qx hT YB (by simp [Qg8]) (Qs 1000 ?_))
 simp -implicitDefEqProofs (disch := omega) only [go_sem, ↓reduceIte, reduceCtorEq, Nat.reduceAdd, Nat.reduceEqDiff, Nat.zero_add, Nat.le_refl, Qg8, zqp_0, zqp_1, zqp_2, zqp_3, zqp_4, Qfc, Qa, kG_5, List.length_cons, List.length_nil, List.cons_append, List.nil_append, and_true]
 refine call hT Qke (hA _ _ _) 1000 fun v σ hv => ?_
 obtain ⟨rfl, t2, ht2, rfl⟩ := hv
 by_cases hr : 0 ≤ x ∧ x < L.length
 ·have e : QxQ S C' L [x] = .tup [.lst 1 [.int .i64 (val S C' L x)] false, .bool true] := by rw [QxQ, if_pos (by simpa [inL] using hr)]; rfl
  have e2 : ofV S C' L x = .tup [.int .i64 (val S C' L x), .bool true] := by rw [ofV, if_pos hr]
  rw [e, e2]
  simp -implicitDefEqProofs (disch := omega) only [go_sem, ↓reduceIte, reduceCtorEq, Nat.reduceAdd, Nat.reduceEqDiff, Nat.reduceLeDiff, Nat.reduceLT, Int.reduceToNat, Int.reduceLE, Nat.zero_add, Bool.not_true, Nat.le_refl, Qcp, List.length_cons, List.length_nil, true_and, and_true]
  exact ⟨t2, by omega, rfl, by simp [kG]⟩
 ·have e : QxQ S C' L [x] = .tup [.lst 0 [] true, .bool false] := by rw [QxQ, if_neg (by simpa [inL] using hr)]
  have e2 : ofV S C' L x = .tup [.int .i64 0, .bool false] := by rw [ofV, if_neg hr]
  rw [e, e2]
  simp -implicitDefEqProofs (disch := omega) only [go_sem, ↓reduceIte, reduceCtorEq, Nat.reduceAdd, Nat.reduceEqDiff, Nat.reduceLeDiff, Nat.reduceLT, Nat.zero_add, Bool.not_false, Qcp, List.length_cons, List.length_nil, true_and]
  exact ⟨t2, by omega, rfl, by simp [kG]⟩
theorem ofV_nl (S : List Int) (C : List Cl) (L : List Nd) (x : Int) : Qn (ofV S C L x) = true := by unfold ofV; split <;> rfl
theorem QxN (hT : Qj P tab) (SO : ZG P) {base : Nat} {fmt : Int → List UInt8} {v0 v1 v2 v3 v4 t : Nat} {L : List Nd} {ex : List (Option Ob)} (hL : L.length ≤ 1000000) (hok : okN L) (S : List Int) (hS : ∀ x ∈ S, i64 x) (tS : Bool) (C' : List Cl) (hC : C'.length ≤ 1000000) (hCn : ∀ c ∈ C', i64 c.n) (tC : Bool) (x : Int) :
 C P G base Qia [.ptr 1 v0 0, Qfc S tS 4 C' tC, .int .i64 x] ⟨t, kG fmt v0 v1 v2 v3 v4 L ++ ex⟩ fun v σ => v = ofV S C' L x ∧ ∃ t', t ≤ t' ∧ σ = ⟨t', kG fmt v0 v1 v2 v3 v4 L ++ ex⟩ :=
 Qwp (c_Of hT SO hL hok S hS tS C' hC hCn tC x) rfl (ofV_nl ..)
end Go.Proofs.YtpdeoalocejodaaGreatDoor
