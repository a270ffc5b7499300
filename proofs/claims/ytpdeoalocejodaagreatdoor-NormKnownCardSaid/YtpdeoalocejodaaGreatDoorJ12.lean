/- Terms made plain: what is made in a graph that has it already. -/
import Derived.Test.YtpdeoalocejodaaGreatDoorJ11
namespace Go.Proofs.YtpdeoalocejodaaGreatDoor
open Go Go.Am
set_option maxRecDepth 100000
set_option maxHeartbeats 1000000
theorem Qzl {M : List Nd} (h1 : One M) {x : Int} (hx : inG M x) (hm : (nd M x).may M.length = true) : addN M (nd M x) = (x, M) := by
 unfold addN
 rw [if_pos hm]
 have hg := Qk4 hx
 obtain ⟨i, hi⟩ := Option.isSome_iff_exists.1 (Qqz (List.mem_of_getElem? hg))
 rw [hi]
 have hgi := QqA hi
 have hlt := (List.getElem?_eq_some_iff.1 hgi).1
 have e : nd M (i : Int) = nd M x := by
  have : M[((i : Nat) : Int).toNat]? = some (nd M x) := hgi
  simp [nd, List.getD_eq_getElem?_getD, hgi]
 have : (i : Int) = x := Qv5 h1 ⟨by omega, by omega⟩ hx e
 simp only [this]
theorem QvE {f : Nat} {M : List Nd} (hok : okN M) {op x n i : Int} (hx : inG M x) (ho : 1 ≤ op ∧ op ≤ 16) (hn : i64 n) (h : withN (XM f) M op x n = some (i, M)) : ∃ z, QE M z = some n ∧ XM f M op x z = some (i, M) := by
 obtain ⟨h1, h2, h3, h4⟩ := QZ M n
 have hok2 : okN (numN M n).2 := Xs hok hn (show i64 0 by unfold i64; omega)
 have hk := (Zk f _ _ _ _ _ hok2 (XF h3 hx).1 h1 ho h).1.pre
 have e := pre_eq hk h3
 unfold withN at h
 rw [e] at h h2
 exact ⟨_, h2, h⟩
def Ec (M : List Nd) (op x c i : Int) : Prop := ∃ z, QE M z = some c ∧ Bn M op x z i
theorem Ec.of {M : List Nd} {op x z c i : Int} (hz : QE M z = some c) (h : Bn M op x z i) : Ec M op x c i := ⟨z, hz, h⟩
theorem Ec.fn {M : List Nd} (hok : okN M) (h1 : One M) {op x c i j : Int} (h : Ec M op x c i) (h' : Ec M op x c j) : i = j := by
 obtain ⟨z, hz, hb⟩ := h
 obtain ⟨w, hw, hb'⟩ := h'
 rw [QR hok h1 hw hz] at hb'
 exact hb.fn hb'
theorem Ec.withN {f : Nat} {M : List Nd} (hok : okN M) {op x n i : Int} (hx : inG M x) (ho : 1 ≤ op ∧ op ≤ 16) (hn : i64 n) (h : Go.Proofs.YtpdeoalocejodaaGreatDoor.withN (XM f) M op x n = some (i, M)) : Ec M op x n i := by
 obtain ⟨z, hz, hb⟩ := QvE hok hx ho hn h
 exact ⟨z, hz, f, hb⟩
theorem QbG {M : List Nd} {c i : Int} (h : numN M c = (i, M)) : QE M i = some c := by
 have := (QZ M c).2.1
 rw [h] at this
 exact this
theorem Qa2 {M : List Nd} {op x y a b i : Int} (hx : QE M x = some a) (hy : QE M y = some b) (h : Bn M op x y i) : QE M i = some (doW op a b) := by
 obtain ⟨f, hf⟩ := h
 cases f with
 | zero => cases hf
 | succ f =>
   unfold XM QcB at hf
   rw [hx, hy] at hf
   simp only [Option.some.injEq] at hf
   exact QbG hf
theorem Ec.const {M : List Nd} {op x a c i : Int} (hx : QE M x = some a) (h : Ec M op x c i) : QE M i = some (doW op a c) := by
 obtain ⟨z, hz, hb⟩ := h
 exact Qa2 hx hz hb
def Nat' (M : List Nd) (op x y i : Int) : Prop := inG M i ∧ nd M i = ⟨4, 0, 0, op, x, y⟩
theorem Nat'.fn {M : List Nd} (h1 : One M) {op x y i j : Int} (h : Nat' M op x y i) (h' : Nat' M op x y j) : i = j := Qv5 h1 h.1 h'.1 (h.2.trans h'.2.symm)
theorem Nat'.of {M : List Nd} {op x y i : Int} (hm : Nd.may ⟨4, 0, 0, op, x, y⟩ M.length = true) (h : addN M ⟨4, 0, 0, op, x, y⟩ = (i, M)) : Nat' M op x y i := by
 obtain ⟨a, b⟩ := QhX hm
 rw [h] at a b
 exact ⟨a, b⟩
theorem Qfs {M : List Nd} {q : Option GR} {k : List Nd → Option GR} {i : Int} (hn : ∀ s, q = some s → ZL M s) (h : X2 q k = some (i, M)) : (q = some (i, M) ∧ i ≠ -1) ∨ (q = some (-1, M) ∧ k M = some (i, M)) := by
 unfold X2 at h
 cases q with
 | none => cases h
 | some s =>
   simp only [Option.bind_some] at h
   split at h
   ·rename_i hne; cases h; exact .inl ⟨rfl, hne⟩
   ·rename_i hne
    rcases hn s rfl with h1 | h1
    ·exact absurd h1 hne
    ·subst h1; exact .inr ⟨rfl, h⟩
def EqR (M : List Nd) (x c i : Int) : Prop :=
 match Xw M x 1 with
 | some (y, d) => Ec M 16 y (IntKind.i64.wrap (c - d)) i
 | none => match Xw M x 10 with
   | some (y, d) => Ec M 16 y (doW 10 c d) i
   | none => match ofI M x 10 with
     | some (y, z) => if c = 0 then Bn M 16 y z i else ∃ w, QE M w = some c ∧ Nat' M 16 x w i
     | none => match ofI M x 2 with
       | some (y, z) => if c = 0 then Bn M 16 y z i else ∃ w, QE M w = some c ∧ Nat' M 16 x w i
       | none => ∃ w, QE M w = some c ∧ Nat' M 16 x w i
def eqT (M : List Nd) (x : Int) : Option Int := match Xw M x 16 with | some (y, d) => if d = 0 ∧ Yt M y = true then some y else none | none => none
def Qfk (M : List Nd) (op x c i : Int) : Prop :=
 if QQ op = some c then i = x
 else if (op = 3 ∨ op = 8 ∨ op = 15) ∧ c = 0 then QE M i = some 0
 else if op = 9 ∧ c = -1 then QE M i = some (-1)
 else if (op = 5 ∨ op = 7) ∧ c = 1 then QE M i = some 0
 else if op = 2 then Ec M 1 x (IntKind.i64.wrap (-c)) i
 else if op = 11 then Ec M 3 x (IntKind.i64.wrap (2 ^ (c % 64).toNat)) i
 else if (op = 12 ∨ op = 13) ∧ c ≠ c % 64 then Ec M op x (c % 64) i
 else if op = 6 ∧ (QeS c).isSome = true then Ec M 12 x ((QeS c).getD 0 : Nat) i
 else if op = 7 ∧ (QeS c).isSome = true then Ec M 8 x (IntKind.i64.wrap (c - 1)) i
 else if op = 15 ∧ c = 1 then Ec M 16 x 0 i
 else if Yt M x = true ∧ ((op = 8 ∧ c % 2 = 1) ∨ (op = 16 ∧ c = 1)) then i = x
 else if Yt M x = true ∧ (op = 8 ∨ (op = 16 ∧ c ≠ 0)) then QE M i = some 0
 else if Yt M x = true ∧ op = 10 ∧ c % 2 = 1 then ∃ n, Ec M 16 x 0 n ∧ Ec M 10 n (doW 10 c 1) i
 else if Yt M x = true ∧ op = 16 ∧ (eqT M x).isSome = true then eqT M x = some i
 else if XB op = true ∧ (Xw M x op).isSome = true then ∃ y d, Xw M x op = some (y, d) ∧ Ec M op y (doW op d c) i
 else if op = 16 then EqR M x c i
 else ∃ w, QE M w = some c ∧ Nat' M op x w i
theorem Qr4 {M : List Nd} {x : Int} (hx : inG M x) (h : ((x, M) : GR) = (-1, M)) : False := by
 cases h; exact absurd hx.1 (by decide)
theorem Qmc {M : List Nd} {c : Int} (h : numN M c = (-1, M)) : False := (QZ M c).2.2.2 (by rw [h])
theorem QyV {M : List Nd} {op x c : Int} (hx : inG M x) (h : QT M op x c = (-1, M)) : ¬ QQ op = some c ∧ ¬ ((op = 3 ∨ op = 8 ∨ op = 15) ∧ c = 0) ∧ ¬ (op = 9 ∧ c = -1) ∧ ¬ ((op = 5 ∨ op = 7) ∧ c = 1) := by
 unfold QT at h
 split at h
 ·exact (Qr4 hx h).elim
 split at h
 ·exact (Qmc h).elim
 split at h
 ·exact (Qmc h).elim
 split at h
 ·exact (Qmc h).elim
 rename_i k1 k2 k3 k4
 exact ⟨k1, k2, k3, k4⟩
theorem QyE {f : Nat} {M : List Nd} (hok : okN M) {op x c : Int} (hx : inG M x) (hc : i64 c) (h : Xm (XM f) M op x c = some (-1, M)) : ¬ op = 2 ∧ ¬ op = 11 ∧ ¬ ((op = 12 ∨ op = 13) ∧ c ≠ c % 64) ∧ ¬ (op = 6 ∧ (QeS c).isSome = true) ∧ ¬ (op = 7 ∧ (QeS c).isSome = true) ∧ ¬ (op = 15 ∧ c = 1) := by
 have wn : ∀ {op n : Int}, (1 ≤ op ∧ op ≤ 16) → i64 n → withN (XM f) M op x n = some (-1, M) → False := fun ho hn h => (QK (Zk f) hok hx ho hn h).2 rfl
 have i0 : i64 0 := by unfold i64; omega
 unfold Xm at h
 split at h
 ·exact (wn (by omega) (Qq _) h).elim
 split at h
 ·exact (wn (by omega) (Qq _) h).elim
 split at h
 ·exact (wn (by omega) (by unfold i64; omega) h).elim
 split at h
 ·rename_i k
  obtain ⟨q, hk'⟩ := Option.isSome_iff_exists.1 k.2
  have hk2 := (Yf hk').1
  exact (wn (by omega) (by rw [hk']; unfold i64; simp; omega) h).elim
 split at h
 ·exact (wn (by omega) (Qq _) h).elim
 split at h
 ·exact (wn (by omega) i0 h).elim
 rename_i k1 k2 k3 k4 k5 k6
 exact ⟨k1, k2, k3, k4, k5, k6⟩
theorem Qx7 {f : Nat} {M : List Nd} (hok : okN M) {op x c : Int} (hx : inG M x) (hc : i64 c) (h : Xv (XM f) M op x c = some (-1, M)) :
 ¬ (Yt M x = true ∧ ((op = 8 ∧ c % 2 = 1) ∨ (op = 16 ∧ c = 1))) ∧ ¬ (Yt M x = true ∧ (op = 8 ∨ (op = 16 ∧ c ≠ 0))) ∧ ¬ (Yt M x = true ∧ op = 10 ∧ c % 2 = 1) ∧ ¬ (Yt M x = true ∧ op = 16 ∧ (eqT M x).isSome = true) := by
 have hK := Zk f
 have i0 : i64 0 := by unfold i64; omega
 unfold Xv at h
 split at h
 ·rename_i kb
  refine ⟨fun q => ?_, fun q => ?_, fun q => ?_, fun q => ?_⟩ <;> (have := q.1; rw [kb] at this; cases this)
 rename_i kb
 split at h
 ·exact (Qr4 hx (Option.some.inj h)).elim
 rename_i k1
 split at h
 ·exact (Qmc (Option.some.inj h)).elim
 rename_i k2
 split at h
 ·cases hq : withN (XM f) M 16 x 0 with
  | none => rw [hq] at h; cases h
  | some q =>
    rw [hq] at h
    simp only [Option.bind_some] at h
    obtain ⟨g1, g2⟩ := QK hK hok hx (by omega) i0 hq
    obtain ⟨g3, _⟩ := g1.val g2
    exact ((QK hK g1.ok g3 (by omega) (Xz hc (by unfold i64; omega)) h).2 rfl).elim
 rename_i k3
 refine ⟨fun q => k1 q.2, fun q => k2 q.2, fun q => k3 q.2, fun q => ?_⟩
 obtain ⟨q1, q2, q3⟩ := q
 unfold eqT at q3
 cases q4 : Xw M x 16 with
 | none => rw [q4] at q3; cases q3
 | some p =>
   obtain ⟨y, d⟩ := p
   rw [q4] at q3 h
   simp only at q3 h
   split at q3
   ·rename_i q5
    rw [if_pos ⟨q2, q5⟩] at h
    exact Qr4 (X7 q5.2) (Option.some.inj h)
   ·cases q3
theorem QyN {f : Nat} {M : List Nd} (hok : okN M) {op x c : Int} (ho : 1 ≤ op ∧ op ≤ 16) (hc : i64 c) (h : Xf (XM f) M op x c = some (-1, M)) : ¬ (XB op = true ∧ (Xw M x op).isSome = true) := by
 rintro ⟨k1, k2⟩
 obtain ⟨⟨y, d⟩, hta⟩ := Option.isSome_iff_exists.1 k2
 unfold Xf at h
 rw [hta] at h
 simp only at h
 rw [if_pos k1] at h
 obtain ⟨t1, t2, t3, t4⟩ := Q8 (S := []) (C := []) hok hta
 exact (QK (Zk f) hok t1 ho (Xz t3 hc) h).2 rfl
theorem QyZ {f : Nat} {M : List Nd} (hok : okN M) {x c : Int} (hc : i64 c) (h : Q6 (XM f) M 16 x c = some (-1, M)) {i : Int} (hi : ∃ w, QE M w = some c ∧ Nat' M 16 x w i) : EqR M x c i := by
 have hK := Zk f
 unfold Q6 at h
 rw [if_neg (by simp)] at h
 unfold EqR
 cases h2 : Xw M x 1 with
 | some p =>
   obtain ⟨y, d⟩ := p
   rw [h2] at h
   exact ((QK hK hok (Q8 (S := []) (C := []) hok h2).1 (by omega) (Qq _) h).2 rfl).elim
 | none =>
   rw [h2] at h
   simp only at h ⊢
   cases h3 : Xw M x 10 with
   | some p =>
     obtain ⟨y, d⟩ := p
     rw [h3] at h
     obtain ⟨t1, t2, t3, t4⟩ := Q8 (S := []) (C := []) hok h3
     exact ((QK hK hok t1 (by omega) (Xz hc t3) h).2 rfl).elim
   | none =>
     rw [h3] at h
     simp only at h ⊢
     cases h4 : ofI M x 10 with
     | some p =>
       obtain ⟨y, w⟩ := p
       rw [h4] at h
       obtain ⟨t1, t2, _⟩ := Qa7 (S := []) (C := []) hok h4
       simp only at h ⊢
       split at h
       ·exact ((hK _ _ _ _ _ hok t1 t2 (by omega) h).2 rfl).elim
       ·rename_i k; rw [if_neg k]; exact hi
     | none =>
       rw [h4] at h
       simp only at h ⊢
       cases h5 : ofI M x 2 with
       | some p =>
         obtain ⟨y, w⟩ := p
         rw [h5] at h
         obtain ⟨t1, t2, _⟩ := Qa7 (S := []) (C := []) hok h5
         simp only at h ⊢
         split at h
         ·exact ((hK _ _ _ _ _ hok t1 t2 (by omega) h).2 rfl).elim
         ·rename_i k; rw [if_neg k]; exact hi
       | none => exact hi
theorem ZK {M : List Nd} (hok : okN M) {op x c i : Int} (hx : QE M x = none) (hxi : inG M x) (ho : 1 ≤ op ∧ op ≤ 16) (h : Ec M op x c i) : Qfk M op x c i := by
 obtain ⟨z, hz, f, hf⟩ := h
 have hzi := (Qoi hok hz).1
 have hc := (Xo (S := []) (C := []) hok hz).2
 have i0 : i64 0 := by unfold i64; omega
 cases f with
 | zero => cases hf
 | succ f =>
   have hK := Zk f
   have hxz : x ≠ z := by rintro rfl; rw [hx] at hz; cases hz
   have hN : ∀ s, XA (XM f) M op x z (QE M x) (QE M z) = some s → ZL M s := fun s hs => QcW hok hxi hzi ho hs
   unfold XM QcB at hf
   rw [hx, hz] at hf hN
   simp only [Option.isSome_none, Bool.false_eq_true, reduceCtorEq, false_and, or_self, and_false, if_false] at hf
   unfold Y4 at hf
   unfold XA at hf hN
   rw [if_neg hxz] at hf
   simp only [if_neg hxz] at hf hN
   have hne : ∀ {a b : GR}, (some a : Option GR) = some b → a = b := fun h => Option.some.inj h
   have key : (QU (XM f) M op x c = some (i, M) ∧ i ≠ -1) ∨ (QU (XM f) M op x c = some (-1, M) ∧ ∃ w, QE M w = some c ∧ Nat' M op x w i) := by
    rcases Qfs hN hf with h | ⟨h, hk⟩
    ·exact .inl h
    ·exact .inr ⟨h, z, hz, Nat'.of (Qbq ho hxi hzi) (hne hk)⟩
   clear hf hN
   have st : ∀ {q : Option GR} {k : List Nd → Option GR} {X : Prop}, (∀ s, q = some s → ZL M s) → ((X2 q k = some (i, M) ∧ i ≠ -1) ∨ (X2 q k = some (-1, M) ∧ X)) → (q = some (i, M) ∧ i ≠ -1) ∨ (q = some (-1, M) ∧ ((k M = some (i, M) ∧ i ≠ -1) ∨ (k M = some (-1, M) ∧ X))) := by
    intro q k X hn h
    rcases h with ⟨h, hi⟩ | ⟨h, hX⟩
    ·rcases Qfs hn h with h | ⟨h, hk⟩
     ·exact .inl h
     ·exact .inr ⟨h, .inl ⟨hk, hi⟩⟩
    ·rcases Qfs hn h with h | ⟨h, hk⟩
     ·exact absurd rfl h.2
     ·exact .inr ⟨h, .inr ⟨hk, hX⟩⟩
   unfold QU at key
   unfold Qfk
   rcases st (fun s hs => by cases hs; exact YY hxi) key with ⟨h, hi⟩ | ⟨h1, key⟩
   ·have h := hne h
    unfold QT at h
    split at h
    ·rename_i k1; rw [if_pos k1]; cases h; rfl
    rename_i k1; rw [if_neg k1]
    split at h
    ·rename_i k2; rw [if_pos k2]; exact QbG h
    rename_i k2; rw [if_neg k2]
    split at h
    ·rename_i k3; rw [if_pos k3]; exact QbG h
    rename_i k3; rw [if_neg k3]
    split at h
    ·rename_i k4; rw [if_pos k4]; exact QbG h
    ·cases h; exact absurd rfl hi
   obtain ⟨n1, n2, n3, n4⟩ := QyV hxi (hne h1)
   clear h1
   rw [if_neg n1, if_neg n2, if_neg n3, if_neg n4]
   rcases st (fun s hs => YW hK hok hxi hc hs) key with ⟨h, hi⟩ | ⟨h1, key⟩
   ·unfold Xm at h
    split at h
    ·rename_i k; rw [if_pos k]; exact Ec.withN hok hxi (by omega) (Qq _) h
    rename_i k; rw [if_neg k]
    split at h
    ·rename_i k; rw [if_pos k]; exact Ec.withN hok hxi (by omega) (Qq _) h
    rename_i k; rw [if_neg k]
    split at h
    ·rename_i k; rw [if_pos k]; exact Ec.withN hok hxi (by omega) (by unfold i64; omega) h
    rename_i k; rw [if_neg k]
    split at h
    ·rename_i k; rw [if_pos k]
     obtain ⟨q, hk'⟩ := Option.isSome_iff_exists.1 k.2
     have hk2 := (Yf hk').1
     exact Ec.withN hok hxi (by omega) (by rw [hk']; unfold i64; simp; omega) h
    rename_i k; rw [if_neg k]
    split at h
    ·rename_i k; rw [if_pos k]; exact Ec.withN hok hxi (by omega) (Qq _) h
    rename_i k; rw [if_neg k]
    split at h
    ·rename_i k; rw [if_pos k]; exact Ec.withN hok hxi (by omega) i0 h
    ·cases h; exact absurd rfl hi
   obtain ⟨m1, m2, m3, m4, m5, m6⟩ := QyE hok hxi hc h1
   clear h1
   rw [if_neg m1, if_neg m2, if_neg m3, if_neg m4, if_neg m5, if_neg m6]
   rcases st (fun s hs => YV hK hok hc hs) key with ⟨h, hi⟩ | ⟨h1, key⟩
   ·unfold Xv at h
    split at h
    ·cases h; exact absurd rfl hi
    rename_i kb
    have kb : Yt M x = true := by simpa using kb
    split at h
    ·rename_i k; rw [if_pos ⟨kb, k⟩]; cases h; rfl
    rename_i k; rw [if_neg fun q => k q.2]
    split at h
    ·rename_i k; rw [if_pos ⟨kb, k⟩]; exact QbG (hne h)
    rename_i k; rw [if_neg fun q => k q.2]
    split at h
    ·rename_i k; rw [if_pos ⟨kb, k⟩]
     cases hq : withN (XM f) M 16 x 0 with
     | none => rw [hq] at h; cases h
     | some q =>
       rw [hq] at h
       simp only [Option.bind_some] at h
       obtain ⟨g1, g2⟩ := QK hK hok hxi (by omega) i0 hq
       obtain ⟨g3, _⟩ := g1.val g2
       have hci : i64 (doW 10 c 1) := Xz hc (by unfold i64; omega)
       have k2 := (QK hK g1.ok g3 (by omega) hci h).1.pre
       have e := pre_eq k2 g1.pre
       obtain ⟨q1, q2⟩ := q
       simp only at e g3 h
       subst e
       exact ⟨q1, Ec.withN hok hxi (by omega) i0 hq, Ec.withN hok g3 (by omega) hci h⟩
    rename_i k; rw [if_neg fun q => k q.2]
    split at h
    ·rename_i y d hta
     split at h
     ·rename_i k
      obtain ⟨k1, rfl, k3⟩ := k
      cases h
      have e : eqT M x = some i := by unfold eqT; rw [hta]; simp [k3]
      rw [if_pos ⟨kb, k1, by rw [e]; rfl⟩]
      exact e
     ·cases h; exact absurd rfl hi
    ·cases h; exact absurd rfl hi
   obtain ⟨t1, t2, t3, t4⟩ := Qx7 hok hxi hc h1
   clear h1
   rw [if_neg t1, if_neg t2, if_neg t3, if_neg t4]
   rcases st (fun s hs => YX hK hok ho hc hs) key with ⟨h, hi⟩ | ⟨h1, key⟩
   ·unfold Xf at h
    split at h
    ·rename_i y d hta
     split at h
     ·rename_i hg
      rw [if_pos ⟨hg, by rw [hta]; rfl⟩]
      obtain ⟨t1, t2, t3, t4⟩ := Q8 (S := []) (C := []) hok hta
      exact ⟨y, d, hta, Ec.withN hok t1 ho (Xz t3 hc) h⟩
     ·cases h; exact absurd rfl hi
    ·cases h; exact absurd rfl hi
   rw [if_neg (QyN hok ho hc h1)]
   clear h1
   rcases key with ⟨h, hi⟩ | ⟨h, hw⟩
   ·unfold Q6 at h
    split at h
    ·cases h; exact absurd rfl hi
    rename_i k16
    have k16 : op = 16 := by simpa using k16
    rw [if_pos k16]
    unfold EqR
    cases h2 : Xw M x 1 with
    | some p =>
      obtain ⟨y, d⟩ := p
      rw [h2] at h
      exact Ec.withN hok (Q8 (S := []) (C := []) hok h2).1 (by omega) (Qq _) h
    | none =>
      rw [h2] at h
      simp only at h ⊢
      cases h3 : Xw M x 10 with
      | some p =>
        obtain ⟨y, d⟩ := p
        rw [h3] at h
        obtain ⟨t1, t2, t3, t4⟩ := Q8 (S := []) (C := []) hok h3
        exact Ec.withN hok t1 (by omega) (Xz hc t3) h
      | none =>
        rw [h3] at h
        simp only at h ⊢
        cases h4 : ofI M x 10 with
        | some p =>
          obtain ⟨y, w⟩ := p
          rw [h4] at h
          simp only at h ⊢
          split at h
          ·rename_i k; rw [if_pos k]; exact ⟨f, h⟩
          ·cases h; exact absurd rfl hi
        | none =>
          rw [h4] at h
          simp only at h ⊢
          cases h5 : ofI M x 2 with
          | some p =>
            obtain ⟨y, w⟩ := p
            rw [h5] at h
            simp only at h ⊢
            split at h
            ·rename_i k; rw [if_pos k]; exact ⟨f, h⟩
            ·cases h; exact absurd rfl hi
          | none => rw [h5] at h; cases h; exact absurd rfl hi
   ·split
    ·rename_i k16
     subst k16
     exact QyZ hok hc h hw
    ·exact hw
-- parities
theorem QvX (v : BitVec 64) : v.toInt % 2 = ((v.toNat % 2 : Nat) : Int) := by
 have h := v.isLt
 rw [BitVec.toInt_eq_toNat_cond]
 split <;> omega
theorem Qr2 (a : Int) : (((bv a).toNat % 2 : Nat) : Int) = a % 2 := by
 rw [BitVec.toNat_ofInt]
 have e : (((2 : Nat) ^ 64 : Nat) : Int) = 18446744073709551616 := rfl
 simp only [e]
 omega
theorem QvY (a b : Int) : doW 8 a b % 2 = if a % 2 = 1 ∧ b % 2 = 1 then 1 else 0 := by
 have ha := Qr2 a
 have hb := Qr2 b
 rw [do8, QvX, BitVec.toNat_and]
 generalize (bv a).toNat = x at *
 generalize (bv b).toNat = y at *
 have e : (x &&& y) % 2 = (x % 2) &&& (y % 2) := Nat.and_mod_two_pow (n := 1) (a := x) (b := y)
 have e1 : x % 2 = 0 ∨ x % 2 = 1 := by omega
 have e2 : y % 2 = 0 ∨ y % 2 = 1 := by omega
 rw [e]
 rcases e1 with e1 | e1 <;> rcases e2 with e2 | e2 <;> rw [e1, e2] <;> simp <;> omega
theorem Qma (a b : Int) : doW 10 a b % 2 = (a + b) % 2 := by
 have ha := Qr2 a
 have hb := Qr2 b
 rw [Qw3, QvX, BitVec.toNat_xor]
 generalize (bv a).toNat = x at *
 generalize (bv b).toNat = y at *
 have e : (x ^^^ y) % 2 = (x % 2) ^^^ (y % 2) := Nat.xor_mod_two_pow (n := 1) (a := x) (b := y)
 have e1 : x % 2 = 0 ∨ x % 2 = 1 := by omega
 have e2 : y % 2 = 0 ∨ y % 2 = 1 := by omega
 rw [e]
 rcases e1 with e1 | e1 <;> rcases e2 with e2 | e2 <;> rw [e1, e2] <;> simp <;> omega
inductive Pl (M : List Nd) : Int → Prop
 | leaf {x : Int} : inG M x → (nd M x).kind ≠ 3 → (nd M x).kind ≠ 4 → Pl M x
 | cell {x : Int} : inG M x → (nd M x).kind = 3 → Pl M (nd M x).y → Pl M x
 | bin {x : Int} : inG M x → (nd M x).kind = 4 → Pl M (nd M x).x → Pl M (nd M x).y → Bn M (nd M x).op (nd M x).x (nd M x).y x → Pl M x
section
variable {M : List Nd}
theorem Pl.inn {x : Int} (h : Pl M x) : inG M x := by cases h <;> assumption
theorem Pl.num {x c : Int} (h : QE M x = some c) : Pl M x := by
 unfold QE at h
 split at h
 ·rename_i h1
  exact .leaf h1.1 (by omega) (by omega)
 ·cases h
theorem Qqk {x op u v : Int} (h : ofI M x op = some (u, v)) : inG M x ∧ (nd M x).kind = 4 ∧ (nd M x).op = op ∧ (nd M x).x = u ∧ (nd M x).y = v := by
 unfold ofI at h
 split at h
 ·rename_i h1; cases h; exact ⟨h1.1, h1.2.1, h1.2.2, rfl, rfl⟩
 ·cases h
theorem QF3 (hok : okN M) {x : Int} (hx : inG M x) (hk : (nd M x).kind = 4) : 1 ≤ (nd M x).op ∧ (nd M x).op ≤ 16 := by
 have hm := Qwe hok hx
 simp [Nd.may, hk] at hm
 omega
theorem Pl.of {x op u v : Int} (hp : Pl M x) (h : ofI M x op = some (u, v)) : Pl M u ∧ Pl M v ∧ Bn M op u v x := by
 obtain ⟨h1, h2, rfl, rfl, rfl⟩ := Qqk h
 cases hp with
 | leaf _ _ h => exact absurd h2 h
 | cell _ h _ => omega
 | bin _ _ a b c => exact ⟨a, b, c⟩
theorem Ql4 {x op y d : Int} (h : Xw M x op = some (y, d)) : ∃ z, ofI M x op = some (y, z) ∧ QE M z = some d := by
 unfold Xw at h
 cases ho : ofI M x op with
 | none => rw [ho] at h; cases h
 | some p =>
   obtain ⟨u, v⟩ := p
   rw [ho] at h
   cases hn : QE M v with
   | none => simp [hn] at h
   | some c =>
     simp only [Option.bind_some, hn, Option.map_some, Option.some.injEq, Prod.mk.injEq] at h
     obtain ⟨rfl, rfl⟩ := h
     exact ⟨v, rfl, hn⟩
theorem Pl.tail {x op y d : Int} (hp : Pl M x) (h : Xw M x op = some (y, d)) : Pl M y ∧ Ec M op y d x := by
 obtain ⟨z, h1, h2⟩ := Ql4 h
 obtain ⟨a, b, c⟩ := hp.of h1
 exact ⟨a, z, h2, c⟩
theorem Pl.up {L : List Nd} (hok : okN L) {x : Int} (h : Pl L x) (hM : L <+: M) : Pl M x := by
 induction h with
 | leaf h1 h2 h3 => obtain ⟨g1, g2⟩ := XF hM h1; exact .leaf g1 (by rw [g2]; exact h2) (by rw [g2]; exact h3)
 | cell h1 h2 h3 ih => obtain ⟨g1, g2⟩ := XF hM h1; exact .cell g1 (by rw [g2]; exact h2) (by rw [g2]; exact ih)
 | @bin x h1 h2 h3 h4 h5 ih1 ih2 =>
   obtain ⟨g1, g2⟩ := XF hM h1
   exact .bin g1 (by rw [g2]; exact h2) (by rw [g2]; exact ih1) (by rw [g2]; exact ih2) (by rw [g2]; exact h5.up hok h3.inn h4.inn (QF3 hok h1 h2) hM)
theorem Nat'.of4 {op x y i : Int} (h : Nat' M op x y i) : ofI M i op = some (x, y) := by
 unfold ofI
 rw [h.2, if_pos ⟨h.1, rfl, rfl⟩]
theorem Nat'.tail {op x w c i : Int} (h : Nat' M op x w i) (hw : QE M w = some c) : Xw M i op = some (x, c) := by
 unfold Xw
 rw [h.of4]
 simp [hw]
theorem Nat'.num {op x y i : Int} (h : Nat' M op x y i) : QE M i = none := by
 unfold QE
 rw [h.2, if_neg]
 rintro ⟨_, h⟩
 simp at h
theorem Nat'.boo {op x y i : Int} (h : Nat' M op x y i) : Yt M i = decide (op = 14 ∨ op = 15 ∨ op = 16) := by
 unfold Yt
 rw [h.2]
 simp [h.1]
theorem Ec.inG {op x c i : Int} (hok : okN M) (hx : Go.Proofs.YtpdeoalocejodaaGreatDoor.inG M x) (ho : 1 ≤ op ∧ op ≤ 16) (h : Ec M op x c i) : Go.Proofs.YtpdeoalocejodaaGreatDoor.inG M i ∧ i64 c := by
 obtain ⟨z, hz, f, hf⟩ := h
 obtain ⟨h1, h2⟩ := Zk f _ _ _ _ _ hok hx (Qoi hok hz).1 ho hf
 exact ⟨(h1.val h2).1, (Xo (S := []) (C := []) hok hz).2⟩
def QfE (op : Int) : Option Int := if op = 3 ∨ op = 8 then some 0 else if op = 9 then some (-1) else none
theorem QdG {op c d : Int} (h : QfE op = some c) : doW op c d = c ∧ doW op d c = c := by
 unfold QfE at h
 split at h
 ·rename_i h1
  cases h
  have e := QhH (op := op) (a := d) (by omega)
  have hs : QaK op = true := by rcases h1 with rfl | rfl <;> decide
  exact ⟨by rw [QdH hs, e], e⟩
 ·split at h
  ·rename_i h1
   cases h
   subst h1
   exact ⟨by rw [QdH (by decide), QjO], QjO _⟩
  ·cases h
def QsF (M : List Nd) (op x c i : Int) : Prop :=
 if QQ op = some c then i = x
 else if QfE op = some c then QE M i = some c
 else if op = 8 ∧ Yt M x = true then (if c % 2 = 1 then i = x else QE M i = some 0)
 else if op = 10 ∧ Yt M x = true ∧ c % 2 = 1 then ∃ n, Ec M 16 x 0 n ∧ Ec M 10 n (doW 10 c 1) i
 else match Xw M x op with
  | some (y, d) => Ec M op y (doW op d c) i
  | none => ∃ w, QE M w = some c ∧ Nat' M op x w i
theorem Qii {op : Int} (hg : XB op = true) : op = 1 ∨ op = 3 ∨ op = 8 ∨ op = 9 ∨ op = 10 := by simpa [XB] using hg
theorem Qd4 (hok : okN M) {op x c i : Int} (hg : XB op = true) (hx : QE M x = none) (hxi : inG M x) (h : Ec M op x c i) : QsF M op x c i := by
 have ho := Qii hg
 have hr := ZK hok hx hxi (by omega) h
 unfold Qfk at hr
 unfold QsF
 split
 ·rename_i k; rw [if_pos k] at hr; exact hr
 rename_i k1
 rw [if_neg k1] at hr
 split
 ·rename_i k
  unfold QfE at k
  split at k
  ·cases k; rw [if_pos (by omega)] at hr; exact hr
  ·split at k
   ·cases k; rw [if_neg (by omega), if_pos (by omega)] at hr; exact hr
   ·cases k
 rename_i k2
 have k3 : ¬ ((op = 3 ∨ op = 8 ∨ op = 15) ∧ c = 0) := by
  rintro ⟨a, rfl⟩
  apply k2
  unfold QfE
  rw [if_pos (by omega)]
 have k4 : ¬ (op = 9 ∧ c = -1) := by
  rintro ⟨rfl, rfl⟩; exact k2 (by decide)
 rw [if_neg k3, if_neg k4, if_neg (by omega), if_neg (by omega), if_neg (by omega), if_neg (by omega), if_neg (by omega), if_neg (by omega), if_neg (by omega)] at hr
 split
 ·rename_i k
  obtain ⟨rfl, kb⟩ := k
  split
  ·rename_i k5; rw [if_pos ⟨kb, .inl ⟨rfl, k5⟩⟩] at hr; exact hr
  ·rename_i k5; rw [if_neg (by omega), if_pos ⟨kb, .inl rfl⟩] at hr; exact hr
 rename_i k5
 rw [if_neg (by rintro ⟨a, b⟩; exact k5 ⟨by omega, a⟩), if_neg (by rintro ⟨a, b⟩; exact k5 ⟨by omega, a⟩)] at hr
 split
 ·rename_i k6; rw [if_pos ⟨k6.2.1, k6.1, k6.2.2⟩] at hr; exact hr
 rename_i k6
 rw [if_neg (by rintro ⟨a, b, c⟩; exact k6 ⟨b, a, c⟩), if_neg (by omega)] at hr
 cases ht : Xw M x op with
 | some p =>
   obtain ⟨y, d⟩ := p
   rw [ht, if_pos ⟨hg, rfl⟩] at hr
   obtain ⟨y', d', e, hr⟩ := hr
   cases e
   exact hr
 | none =>
   rw [ht, if_neg (by rintro ⟨_, a⟩; cases a), if_neg (by omega)] at hr
   exact hr
theorem Qqw (hok : okN M) (h1 : One M) {op x c i : Int} (ho : 1 ≤ op ∧ op ≤ 16) (hxi : inG M x) (hk : QQ op = some c) (h : Ec M op x c i) : i = x := by
 cases hx : QE M x with
 | some a =>
   have := h.const hx
   rw [Qag (Xo (S := []) (C := []) hok hx).2 hk] at this
   exact QR hok h1 this hx
 | none =>
   have hr := ZK hok hx hxi ho h
   unfold Qfk at hr
   rw [if_pos hk] at hr
   exact hr
theorem Qp7 (hok : okN M) {op x c i : Int} (hg : XB op = true) (hxi : inG M x) (hz : QfE op = some c) (h : Ec M op x c i) : QE M i = some c := by
 cases hx : QE M x with
 | some a => rw [h.const hx, (QdG hz).2]
 | none =>
   have hr := Qd4 hok hg hx hxi h
   unfold QsF at hr
   have : ¬ QQ op = some c := by
    intro hk
    have ho := Qii hg
    rcases ho with rfl | rfl | rfl | rfl | rfl <;> simp [QQ, QfE] at hk hz <;> omega
   rw [if_neg this, if_pos hz] at hr
   exact hr
theorem QsE (hok : okN M) {x c i : Int} (hx : QE M x = none) (hb : Yt M x = true) (h : Ec M 8 x c i) : if c % 2 = 1 then i = x else QE M i = some 0 := by
 have hr := Qd4 hok (by decide) hx (X7 hb) h
 unfold QsF at hr
 split at hr
 ·rename_i k
  have : c = -1 := by simp [QQ] at k; omega
  subst this
  exact hr
 ·split at hr
  ·rename_i k
   have : c = 0 := by simp [QfE] at k; omega
   subst this
   exact hr
  ·rw [if_pos ⟨rfl, hb⟩] at hr
   exact hr
theorem Qlo (hok : okN M) {x c i : Int} (hx : QE M x = none) (hb : Yt M x = true) (h : Ec M 10 x c i) : if c = 0 then i = x else if c % 2 = 1 then ∃ n, Ec M 16 x 0 n ∧ Ec M 10 n (doW 10 c 1) i else ∃ w, QE M w = some c ∧ Nat' M 10 x w i := by
 have hr := Qd4 hok (by decide) hx (X7 hb) h
 unfold QsF at hr
 split at hr
 ·rename_i k
  have : c = 0 := by simp [QQ] at k; omega
  rw [if_pos this]; exact hr
 ·rename_i k
  have : ¬ c = 0 := by rintro rfl; exact k (by decide)
  rw [if_neg this]
  rw [if_neg (by simp [QfE]), if_neg (by rintro ⟨a, _⟩; exact absurd a (by decide))] at hr
  split
  ·rename_i k5; rw [if_pos ⟨rfl, hb, k5⟩] at hr; exact hr
  ·rename_i k5
   rw [if_neg fun q => k5 q.2.2, Y8 (Qai hb hx (by decide))] at hr
   exact hr
theorem Qwc (hok : okN M) (h1 : One M) {b n : Int} (hx : QE M b = none) (hb : Yt M b = true) (hp : Pl M b) (h : Ec M 16 b 0 n) : QE M n = none ∧ Yt M n = true ∧ ∀ m, Ec M 16 n 0 m → m = b := by
 have hr := ZK hok hx (X7 hb) (by decide) h
 have key : eqT M b = some n ∨ ∃ w, QE M w = some 0 ∧ Nat' M 16 b w n := by
  unfold Qfk at hr
  simp only [QQ, XB] at hr
  simp (config := { decide := true }) only [hb, if_true, if_false, true_and, false_and, and_false] at hr
  split at hr
  ·exact .inl hr
  ·unfold EqR at hr
   rw [Y8 (Qai hb hx (by decide)), Y8 (Qai hb hx (by decide)), Qai hb hx (by decide), Qai hb hx (by decide)] at hr
   exact .inr hr
 rcases key with hk | ⟨w, hw, hn⟩
 ·unfold eqT at hk
  cases ht : Xw M b 16 with
  | none => rw [ht] at hk; cases hk
  | some p =>
    obtain ⟨y, d⟩ := p
    rw [ht] at hk
    simp only at hk
    split at hk
    ·rename_i k
     obtain ⟨rfl, kb⟩ := k
     cases hk
     have hE := (hp.tail ht).2
     refine ⟨?_, kb, fun m hm => hm.fn hok h1 hE⟩
     cases hn : QE M n with
     | none => rfl
     | some v => have := hE.const hn; rw [hx] at this; cases this
    ·cases hk
 ·refine ⟨hn.num, by rw [hn.boo]; decide, fun m hm => ?_⟩
  have hbn : Yt M n = true := by rw [hn.boo]; decide
  have hr := ZK hok hn.num hn.1 (by decide) hm
  have he : eqT M n = some b := by unfold eqT; rw [hn.tail hw]; simp [hb]
  unfold Qfk at hr
  simp only [QQ, XB, he] at hr
  simp (config := { decide := true }) only [hbn, if_true, if_false, and_true, false_and, and_false, Option.isSome_some, Option.some.injEq] at hr
  exact hr.symm
end
section
variable {M : List Nd}
theorem QD6 {op : Int} (hg : XB op = true) : 1 ≤ op ∧ op ≤ 16 := by have := Qii hg; omega
theorem Qsh {op : Int} (hg : XB op = true) : QaK op = true := by rcases Qii hg with rfl | rfl | rfl | rfl | rfl <;> decide
theorem Qyc {op x y d : Int} (hok : okN M) (h : Xw M x op = some (y, d)) (ho : op ≠ 14 ∧ op ≠ 15 ∧ op ≠ 16) : Yt M x = false ∧ QE M x = none := by
 obtain ⟨z, h1, h2⟩ := Ql4 h
 obtain ⟨a, b, c, _⟩ := Qqk h1
 have hn : QE M x = none := by unfold QE; rw [if_neg]; rintro ⟨_, k⟩; omega
 refine ⟨?_, hn⟩
 cases hb : Yt M x with
 | false => rfl
 | true => rw [Qai hb hn ho] at h1; cases h1
theorem QEo (hok : okN M) (h1 : One M) {op : Int} (hg : XB op = true) : ∀ (n : Nat) (a c d i j : Int), a.toNat < n → inG M a → Ec M op a c i → Ec M op i d j → QfE op = some (doW op c d) → QE M j = some (doW op c d)
 | 0, _, _, _, _, _, h, _, _, _, _ => absurd h (Nat.not_lt_zero _)
 | n + 1, a, c, d, i, j, hn, ha, hi, hj, hz => by
   have ho := QD6 hg
   have hs := Qsh hg
   obtain ⟨hii, hc⟩ := hi.inG hok ha ho
   obtain ⟨hji, hd⟩ := hj.inG hok hii ho
   cases hna : QE M a with
   | some e =>
     have e1 := hi.const hna
     rw [hj.const e1, Qbs hg, (QdG hz).2]
   | none =>
     have hr := Qd4 hok hg hna ha hi
     by_cases kd : QQ op = some d
     ·have e1 := Qqw hok h1 ho hii kd hj
      rw [Qag hc kd] at hz ⊢
      rw [e1]
      exact Qp7 hok hg ha hz hi
     by_cases zd : QfE op = some d
     ·have e1 := Qp7 hok hg hii zd hj
      rw [e1, (QdG zd).2]
     unfold QsF at hr
     split at hr
     ·rename_i k
      subst hr
      have e : doW op c d = d := by rw [QdH hs, Qag hd k]
      rw [e] at hz
      exact absurd hz zd
     split at hr
     ·rename_i k2 k
      rw [hj.const hr]
     split at hr
     ·rename_i k
      obtain ⟨rfl, kb⟩ := k
      have h0 : doW 8 c d = 0 := by simpa [QfE] using hz.symm
      have hp := QvY c d
      rw [h0] at hp ⊢
      split at hr
      ·rename_i k5
       subst hr
       have := QsE hok hna kb hj
       rw [if_neg (by intro q; rw [if_pos ⟨k5, q⟩] at hp; omega)] at this
       exact this
      ·rw [hj.const hr, (QdG (op := 8) (c := 0) (by decide)).1]
     rename_i k8
     split at hr
     ·rename_i k
      rw [k.1] at hz
      exact absurd hz (by simp [QfE])
     cases ht : Xw M a op with
     | some p =>
       obtain ⟨y, e⟩ := p
       rw [ht] at hr
       simp only at hr
       obtain ⟨t1, t2, t3, _⟩ := Q8 (S := []) (C := []) hok ht
       have e2 : doW op (doW op e c) d = doW op c d := by rw [Qbs hg, (QdG hz).2]
       have hlt : y.toNat < n := by have := t1.1; have := ha.1; omega
       have := QEo hok h1 hg n y (doW op e c) d i j hlt t1 hr hj (by rw [e2]; exact hz)
       rw [e2] at this
       exact this
     | none =>
       rw [ht] at hr
       simp only at hr
       obtain ⟨w, hw, hN⟩ := hr
       have hr2 := Qd4 hok hg hN.num hii hj
       unfold QsF at hr2
       have hbi : Yt M i = false := by rw [hN.boo]; have := Qii hg; simp; omega
       rw [if_neg kd, if_neg zd, if_neg (by rw [hbi]; rintro ⟨_, q⟩; cases q), if_neg (by rw [hbi]; rintro ⟨_, q, _⟩; cases q), hN.tail hw] at hr2
       exact Qp7 hok hg ha hz hr2
theorem QqD (hok : okN M) (h1 : One M) {op : Int} (hg : XB op = true) : ∀ (n : Nat) (a c d i j k : Int), a.toNat < n → Pl M a → Ec M op a c i → Ec M op i d j → Ec M op a (doW op c d) k → j = k
 | 0, _, _, _, _, _, _, h, _, _, _, _ => absurd h (Nat.not_lt_zero _)
 | n + 1, a, c, d, i, j, k, hn, hp, hi, hj, hk => by
   have ho := QD6 hg
   have hs := Qsh hg
   have ha := hp.inn
   obtain ⟨hii, hc⟩ := hi.inG hok ha ho
   obtain ⟨hji, hd⟩ := hj.inG hok hii ho
   cases hna : QE M a with
   | some e =>
     have e1 := hi.const hna
     have e2 := hj.const e1
     have e3 := hk.const hna
     rw [Qbs hg] at e2
     exact QR hok h1 e2 e3
   | none =>
     have hr := Qd4 hok hg hna ha hi
     by_cases kd : QQ op = some d
     ·have e1 := Qqw hok h1 ho hii kd hj
      rw [Qag hc kd] at hk
      rw [e1]
      exact hi.fn hok h1 hk
     by_cases zd : QfE op = some d
     ·have e1 := Qp7 hok hg hii zd hj
      rw [(QdG zd).2] at hk
      exact QR hok h1 e1 (Qp7 hok hg ha zd hk)
     unfold QsF at hr
     split at hr
     ·rename_i q
      subst hr
      have e : doW op c d = d := by rw [QdH hs, Qag hd q]
      rw [e] at hk
      exact hj.fn hok h1 hk
     rename_i kc
     split at hr
     ·rename_i q
      rw [(QdG q).1] at hk
      have e1 := hj.const hr
      rw [(QdG q).1] at e1
      exact QR hok h1 e1 (Qp7 hok hg ha q hk)
     rename_i zc
     split at hr
     ·rename_i q
      obtain ⟨rfl, kb⟩ := q
      have hpar := QvY c d
      have e3 := QsE hok hna kb hk
      split at hr
      ·rename_i k5
       subst hr
       have e1 := QsE hok hna kb hj
       by_cases k6 : d % 2 = 1
       ·rw [if_pos ⟨k5, k6⟩] at hpar
        rw [if_pos hpar] at e3
        rw [if_pos k6] at e1
        rw [e1, e3]
       ·rw [if_neg fun q => k6 q.2] at hpar
        rw [if_neg (by omega)] at e3
        rw [if_neg k6] at e1
        exact QR hok h1 e1 e3
      ·rename_i k5
       rw [if_neg fun q => k5 q.1] at hpar
       rw [if_neg (by omega)] at e3
       have e1 := hj.const hr
       rw [(QdG (op := 8) (c := 0) (by decide)).1] at e1
       exact QR hok h1 e1 e3
     rename_i k8
     by_cases kx : op = 10 ∧ Yt M a = true
     ·obtain ⟨rfl, kb⟩ := kx
      have c0 : ¬ c = 0 := by rintro rfl; exact kc (by decide)
      have d0 : ¬ d = 0 := by rintro rfl; exact kd (by decide)
      have hpar := Qma c d
      have hp1 := Qma c 1
      have hpd := Qma (doW 10 c 1) d
      have i1 : i64 1 := by unfold i64; omega
      have hc1 : i64 (doW 10 c 1) := Xz hc i1
      have x11 : ∀ x, i64 x → doW 10 (doW 10 x 1) 1 = x := fun x hx => by
       rw [Qbs (by decide), show doW 10 1 1 = 0 by decide]
       exact Qag hx (by decide)
      have xc : ∀ x y, doW 10 x y = doW 10 y x := fun x y => QdH (by decide)
      have xa : ∀ x y z, doW 10 (doW 10 x y) z = doW 10 x (doW 10 y z) := fun x y z => Qbs (by decide)
      have hk3 := Qlo hok hna kb hk
      have hcd : i64 (doW 10 c d) := Xz hc hd
      split at hr
      ·rename_i q
       have c1 := q.2.2
       obtain ⟨m, hm, hmi⟩ := hr
       obtain ⟨nm, bm, nn⟩ := Qwc hok h1 hna kb hp hm
       have hri := Qlo hok nm bm hmi
       -- what becomes of j
       have hjm : Ec M 10 m (doW 10 (doW 10 c 1) d) j := by
        split at hri
        ·rename_i z
         subst hri
         rw [z, xc 0 d, Qag hd (by decide)]
         exact hj
        ·split at hri
         ·rename_i z; omega
         ·obtain ⟨w, hw, hN⟩ := hri
          have hr2 := Qd4 hok (by decide) hN.num hii hj
          unfold QsF at hr2
          have hbi : Yt M i = false := by rw [hN.boo]; decide
          rw [if_neg kd, if_neg zd, if_neg (by rintro ⟨q, _⟩; exact absurd q (by decide)), if_neg (by rw [hbi]; rintro ⟨_, q, _⟩; cases q), hN.tail hw] at hr2
          exact hr2
       have e0 : doW 10 (doW 10 (doW 10 c 1) d) 1 = doW 10 c d := by rw [xc c 1, xa 1 c d, xc 1 (doW 10 c d), x11 _ hcd]
       have hrj := Qlo hok nm bm hjm
       by_cases kd2 : d % 2 = 1
       ·have o1 : doW 10 (doW 10 c 1) d % 2 = 1 := by omega
        rw [if_neg (by omega), if_pos o1] at hrj
        obtain ⟨m2, hm2, hmj⟩ := hrj
        rw [nn m2 hm2, e0] at hmj
        exact hmj.fn hok h1 hk
       ·rw [if_neg (by intro z; rw [z] at hpar; omega), if_pos (by omega)] at hk3
        obtain ⟨m3, hm3, hmk⟩ := hk3
        rw [hm3.fn hok h1 hm] at hmk
        have e1 : doW 10 (doW 10 c d) 1 = doW 10 (doW 10 c 1) d := by rw [xa, xa, xc d 1]
        rw [e1] at hmk
        exact hjm.fn hok h1 hmk
      ·rename_i q
       rw [Y8 (Qai kb hna (by decide))] at hr
       obtain ⟨w, hw, hN⟩ := hr
       have hr2 := Qd4 hok (by decide) hN.num hii hj
       unfold QsF at hr2
       have hbi : Yt M i = false := by rw [hN.boo]; decide
       rw [if_neg kd, if_neg zd, if_neg (by rintro ⟨q, _⟩; exact absurd q (by decide)), if_neg (by rw [hbi]; rintro ⟨_, q, _⟩; cases q), hN.tail hw] at hr2
       exact hr2.fn hok h1 hk
     rw [if_neg fun q => kx ⟨q.1, q.2.1⟩] at hr
     cases ht : Xw M a op with
     | some p =>
       obtain ⟨y, e⟩ := p
       rw [ht] at hr
       simp only at hr
       obtain ⟨t1, t2, t3, _⟩ := Q8 (S := []) (C := []) hok ht
       obtain ⟨hpy, hE⟩ := hp.tail ht
       have hlt : y.toNat < n := by have := t1.1; have := ha.1; omega
       have hr3 := Qd4 hok hg hna ha hk
       unfold QsF at hr3
       split at hr3
       ·rename_i q
        subst hr3
        refine QqD hok h1 hg n y (doW op e c) d i j k hlt hpy hr hj ?_
        rw [Qbs hg, Qag t3 q]
        exact hE
       split at hr3
       ·rename_i q
        have e1 := QEo hok h1 hg (a.toNat + 1) a c d i j (by omega) ha hi hj q
        exact QR hok h1 e1 hr3
       rw [if_neg fun q => kx ⟨q.1, q.2.1⟩, ht] at hr3
       simp only at hr3
       refine QqD hok h1 hg n y (doW op e c) d i j k hlt hpy hr hj ?_
       rw [Qbs hg]
       exact hr3
     | none =>
       rw [ht] at hr
       simp only at hr
       obtain ⟨w, hw, hN⟩ := hr
       have hr2 := Qd4 hok hg hN.num hii hj
       unfold QsF at hr2
       have hbi : Yt M i = false := by rw [hN.boo]; have := Qii hg; simp; omega
       rw [if_neg kd, if_neg zd, if_neg (by rw [hbi]; rintro ⟨_, q⟩; cases q), if_neg (by rw [hbi]; rintro ⟨_, q, _⟩; cases q), hN.tail hw] at hr2
       exact hr2.fn hok h1 hk
end
section
variable {M : List Nd}
theorem QkT (hok : okN M) {op x y i : Int} (hx : QE M x = none) (hy : QE M y = none) (hxi : inG M x) (hyi : inG M y) (ho : 1 ≤ op ∧ op ≤ 16) (h : Bn M op x y i) :
 if x = y then (if op = 2 ∨ op = 10 ∨ op = 14 ∨ op = 15 then QE M i = some 0 else if op = 16 then QE M i = some 1 else if op = 8 ∨ op = 9 then i = x else Nat' M op x x i)
 else if QaK op = true ∧ y < x then Nat' M op y x i else Nat' M op x y i := by
 obtain ⟨f, hf⟩ := h
 cases f with
 | zero => cases hf
 | succ f =>
   have hne : ∀ {a b : GR}, (some a : Option GR) = some b → a = b := fun h => Option.some.inj h
   have nn : ∀ {c i : Int} {L : List Nd}, numN M c = (-1, L) → False := fun {c} {i} {L} h => (QZ M c).2.2.2 (by rw [h])
   have hN1 : ∀ s, XA (XM f) M op x y (QE M x) (QE M y) = some s → ZL M s := fun s hs => QcW hok hxi hyi ho hs
   have hN2 : ∀ s, XA (XM f) M op y x (QE M y) (QE M x) = some s → ZL M s := fun s hs => QcW hok hyi hxi ho hs
   unfold XM QcB at hf
   rw [hx, hy] at hf hN1
   rw [hx, hy] at hN2
   simp only [Option.isSome_none, Bool.false_eq_true, true_and, false_or] at hf
   unfold Y4 at hf
   have oth : ∀ {x y : Int}, x ≠ y → inG M x → inG M y → (∀ s, XA (XM f) M op x y none none = some s → ZL M s) → X2 (XA (XM f) M op x y none none) (fun L => some (addN L ⟨4, 0, 0, op, x, y⟩)) = some (i, M) → Nat' M op x y i := by
    intro x y hxy hx hy hN h
    rcases Qfs hN h with ⟨h, hi⟩ | ⟨h, hk⟩
    ·unfold XA at h
     simp [hxy] at h
     exact absurd h.symm hi
    ·exact Nat'.of (Qbq ho hx hy) (hne hk)
   split
   ·rename_i e
    subst e
    rw [if_neg (by omega)] at hf
    rcases Qfs hN1 hf with ⟨h, hi⟩ | ⟨h, hk⟩
    ·unfold XA at h
     rw [if_pos rfl] at h
     have h := hne h
     unfold ZI at h
     split at h
     ·rename_i k; rw [if_pos k]; exact QbG h
     rename_i k; rw [if_neg k]
     split at h
     ·rename_i k; rw [if_pos k]; exact QbG h
     rename_i k; rw [if_neg k]
     split at h
     ·rename_i k; rw [if_pos k]; cases h; rfl
     ·cases h; exact absurd rfl hi
    ·unfold XA at h
     rw [if_pos rfl] at h
     have h := hne h
     unfold ZI at h
     split at h
     ·exact (nn (i := 0) h).elim
     rename_i k; rw [if_neg k]
     split at h
     ·exact (nn (i := 0) h).elim
     rename_i k; rw [if_neg k]
     split at h
     ·exact (Qr4 hxi h).elim
     rename_i k; rw [if_neg k]
     exact Nat'.of (Qbq ho hxi hxi) (hne hk)
   ·rename_i e
    split
    ·rename_i k; rw [if_pos k] at hf
     exact oth (fun h => e h.symm) hyi hxi hN2 hf
    ·rename_i k; rw [if_neg k] at hf
     exact oth e hxi hyi hN1 hf
theorem QmP (hok : okN M) {op x y a i : Int} (hx : QE M x = some a) (hy : QE M y = none) (hyi : inG M y) (ho : 1 ≤ op ∧ op ≤ 16) (hs : QaK op = false) (h : Bn M op x y i) :
 if op = 15 ∧ a = 0 then ∃ n, Ec M 16 y 0 n ∧ Ec M 16 n 0 i else Nat' M op x y i := by
 obtain ⟨f, hf⟩ := h
 have hxi := (Qoi hok hx).1
 cases f with
 | zero => cases hf
 | succ f =>
   have hK := Zk f
   have hxy : x ≠ y := by rintro rfl; rw [hx] at hy; cases hy
   have hne : ∀ {a b : GR}, (some a : Option GR) = some b → a = b := fun h => Option.some.inj h
   have hN1 : ∀ s, XA (XM f) M op x y (QE M x) (QE M y) = some s → ZL M s := fun s hs => QcW hok hxi hyi ho hs
   unfold XM QcB at hf
   rw [hx, hy] at hf hN1
   rw [hs] at hf
   simp only [Bool.false_eq_true, false_and, if_false] at hf
   unfold Y4 at hf
   unfold XA at hf hN1
   simp only [if_neg hxy] at hf hN1
   rcases Qfs hN1 hf with ⟨h, hi⟩ | ⟨h, hk⟩
   ·split at h
    ·rename_i k
     obtain ⟨ka, rfl⟩ := k
     cases ka
     rw [if_pos ⟨rfl, rfl⟩]
     cases hq : XM f M 16 y x with
     | none => rw [hq] at h; cases h
     | some q =>
       rw [hq] at h
       simp only [Option.bind_some] at h
       obtain ⟨g1, g2⟩ := hK _ _ _ _ _ hok hyi hxi (by omega) hq
       obtain ⟨g3, _⟩ := g1.val g2
       have k2 := (hK _ _ _ _ _ g1.ok g3 (XF g1.pre hxi).1 (by omega) h).1.pre
       have e := pre_eq k2 g1.pre
       obtain ⟨q1, q2⟩ := q
       simp only at e h
       subst e
       exact ⟨q1, ⟨x, hx, f, hq⟩, ⟨x, hx, f, h⟩⟩
    ·cases h; exact absurd rfl hi
   ·split at h
    ·rename_i k
     obtain ⟨ka, rfl⟩ := k
     cases hq : XM f M 16 y x with
     | none => rw [hq] at h; cases h
     | some q =>
       rw [hq] at h
       simp only [Option.bind_some] at h
       obtain ⟨g1, g2⟩ := hK _ _ _ _ _ hok hyi hxi (by omega) hq
       obtain ⟨g3, _⟩ := g1.val g2
       exact ((hK _ _ _ _ _ g1.ok g3 (XF g1.pre hxi).1 (by omega) h).2 rfl).elim
    ·rename_i k
     rw [if_neg fun q => k ⟨by rw [q.2], q.1⟩]
     exact Nat'.of (Qbq ho hxi hyi) (hne hk)
theorem Qy1 (hok : okN M) {b c i : Int} (hx : QE M b = none) (hb : Yt M b = true) (h : Ec M 16 b c i) : (c = 1 → i = b) ∧ (c ≠ 0 → c ≠ 1 → QE M i = some 0) := by
 have hr := ZK hok hx (X7 hb) (by decide) h
 unfold Qfk at hr
 simp only [QQ, XB] at hr
 simp (config := { decide := true }) only [hb, if_true, if_false, true_and, false_and, and_false, false_or] at hr
 refine ⟨fun h1 => ?_, fun h0 h1 => ?_⟩
 ·rw [if_pos h1] at hr; exact hr
 ·rw [if_neg h1, if_pos h0] at hr; exact hr
theorem Qmx (hok : okN M) {x c i : Int} (hx : QE M x = none) (hxi : inG M x) (hb : Yt M x = false) (h : Ec M 16 x c i) : EqR M x c i := by
 have hr := ZK hok hx hxi (by decide) h
 unfold Qfk at hr
 simp only [QQ, XB] at hr
 simp (config := { decide := true }) only [hb, if_true, if_false, true_and, false_and, and_false, false_or, Bool.false_eq_true] at hr
 exact hr
theorem Qhp {x op op' u v : Int} (h : ofI M x op = some (u, v)) (hn : op ≠ op') : ofI M x op' = none := by
 obtain ⟨_, _, h3, _⟩ := Qqk h
 unfold ofI
 rw [if_neg]
 rintro ⟨_, _, k⟩
 exact hn (h3.symm.trans k)
theorem Qya {x op y d : Int} (h : Xw M x op = some (y, d)) : ∃ z, ofI M x op = some (y, z) := by
 obtain ⟨z, h1, _⟩ := Ql4 h; exact ⟨z, h1⟩
theorem Qsp {x y d c i : Int} (h : Xw M x 1 = some (y, d)) (hr : EqR M x c i) : Ec M 16 y (IntKind.i64.wrap (c - d)) i := by
 unfold EqR at hr
 rw [h] at hr
 exact hr
theorem QhC {x y d c i : Int} (h : Xw M x 10 = some (y, d)) (hr : EqR M x c i) : Ec M 16 y (doW 10 c d) i := by
 obtain ⟨z, hz⟩ := Qya h
 unfold EqR at hr
 rw [Y8 (Qhp hz (by decide)), h] at hr
 exact hr
theorem Qyb {x op u v : Int} (h : ofI M x op = some (u, v)) (hv : QE M v = none) : Xw M x op = none := by
 unfold Xw; rw [h]; simp [hv]
theorem QwP {x y z i : Int} (h : ofI M x 10 = some (y, z)) (hz : QE M z = none) (hr : EqR M x 0 i) : Bn M 16 y z i := by
 unfold EqR at hr
 rw [Y8 (Qhp h (by decide)), Qyb h hz, h] at hr
 simp only [if_true] at hr
 exact hr
theorem eq_of2 {x y z i : Int} (h : ofI M x 2 = some (y, z)) (hr : EqR M x 0 i) : Bn M 16 y z i := by
 unfold EqR at hr
 rw [Y8 (Qhp h (by decide)), Y8 (Qhp h (by decide)), Qhp h (by decide), h] at hr
 simp only [if_true] at hr
 exact hr
theorem wadd1 {c d e : Int} : IntKind.i64.wrap (IntKind.i64.wrap (d - c) - e) = IntKind.i64.wrap (d - doW 1 e c) := by
 rw [do1]
 simp only [IntKind.wrap_i64]
 omega
theorem QGK (hok : okN M) (h1 : One M) : ∀ (n : Nat) (a c d i j k : Int), a.toNat < n → inG M a → Ec M 1 a c i → Ec M 16 i d j → Ec M 16 a (IntKind.i64.wrap (d - c)) k → j = k
 | 0, _, _, _, _, _, _, h, _, _, _, _ => absurd h (Nat.not_lt_zero _)
 | n + 1, a, c, d, i, j, k, hn, ha, hi, hj, hk => by
   obtain ⟨hii, hc⟩ := hi.inG hok ha (by decide)
   obtain ⟨hji, hd⟩ := hj.inG hok hii (by decide)
   cases hna : QE M a with
   | some e =>
     have e1 := hj.const (hi.const hna)
     have e2 := hk.const hna
     rw [QoV (Xo (S := []) (C := []) hok hna).2 hd] at e1
     exact QR hok h1 e1 e2
   | none =>
     have hr := Qd4 hok (by decide) hna ha hi
     unfold QsF at hr
     split at hr
     ·rename_i q
      have : c = 0 := by simp [QQ] at q; omega
      subst this
      subst hr
      rw [Int.sub_zero, QlW hd] at hk
      exact hj.fn hok h1 hk
     rw [if_neg (by simp [QfE]), if_neg (by rintro ⟨q, _⟩; exact absurd q (by decide)), if_neg (by rintro ⟨q, _⟩; exact absurd q (by decide))] at hr
     cases ht : Xw M a 1 with
     | some p =>
       obtain ⟨y, e⟩ := p
       rw [ht] at hr
       simp only at hr
       obtain ⟨t1, t2, t3, _⟩ := Q8 (S := []) (C := []) hok ht
       obtain ⟨b1, b2⟩ := Qyc hok ht (by decide)
       have hr3 := Qsp ht (Qmx hok hna ha b1 hk)
       rw [wadd1] at hr3
       exact QGK hok h1 n y (doW 1 e c) d i j k (by have := t1.1; have := ha.1; omega) t1 hr hj hr3
     | none =>
       rw [ht] at hr
       simp only at hr
       obtain ⟨w, hw, hN⟩ := hr
       have hbi : Yt M i = false := by rw [hN.boo]; decide
       exact (Qsp (hN.tail hw) (Qmx hok hN.num hii hbi hj)).fn hok h1 hk
theorem QGJ (hok : okN M) (h1 : One M) : ∀ (n : Nat) (a p i j k : Int), a.toNat < n → Pl M a → Ec M 10 a p i → Ec M 16 i 0 j → Ec M 16 a p k → j = k
 | 0, _, _, _, _, _, h, _, _, _, _ => absurd h (Nat.not_lt_zero _)
 | n + 1, a, p, i, j, k, hn, hp, hi, hj, hk => by
   have ha := hp.inn
   obtain ⟨hii, hpi⟩ := hi.inG hok ha (by decide)
   have xc : ∀ x y, doW 10 x y = doW 10 y x := fun x y => QdH (by decide)
   have x0 : ∀ x, i64 x → doW 10 0 x = x := fun x hx => by rw [xc]; exact Qag hx (by decide)
   have i1 : i64 1 := by unfold i64; omega
   cases hna : QE M a with
   | some e =>
     have e1 := hj.const (hi.const hna)
     have e2 := hk.const hna
     rw [Qit (Xo (S := []) (C := []) hok hna).2 hpi] at e1
     exact QR hok h1 e1 e2
   | none =>
     cases hb : Yt M a with
     | true =>
       have hr := Qlo hok hna hb hi
       split at hr
       ·rename_i q
        subst q; subst hr
        exact hj.fn hok h1 hk
       rename_i q0
       split at hr
       ·rename_i q1
        obtain ⟨m, hm, hmi⟩ := hr
        obtain ⟨nm, bm, nn⟩ := Qwc hok h1 hna hb hp hm
        have hp1 := Qma p 1
        have hri := Qlo hok nm bm hmi
        have hek := Qy1 hok hna hb hk
        have inv : p = doW 10 (doW 10 p 1) 1 := by
         rw [Qbs (by decide), show doW 10 1 1 = 0 by decide]
         exact (Qag hpi (by decide)).symm
        split at hri
        ·rename_i z
         subst hri
         have ep : p = 1 := by rw [inv, z]; decide
         rw [nn j hj, hek.1 ep]
        ·rename_i z
         rw [if_neg (by omega)] at hri
         obtain ⟨w, hw, hN⟩ := hri
         have hbi : Yt M i = false := by rw [hN.boo]; decide
         have hr3 := QhC (hN.tail hw) (Qmx hok hN.num hii hbi hj)
         rw [x0 _ (Xz hpi i1)] at hr3
         have e1 := (Qy1 hok nm bm hr3).2 z (by omega)
         have e2 := hek.2 q0 (by rintro rfl; exact z (by decide))
         exact QR hok h1 e1 e2
       ·obtain ⟨w, hw, hN⟩ := hr
        have hbi : Yt M i = false := by rw [hN.boo]; decide
        have hr3 := QhC (hN.tail hw) (Qmx hok hN.num hii hbi hj)
        rw [x0 _ hpi] at hr3
        exact hr3.fn hok h1 hk
     | false =>
       have hr := Qd4 hok (by decide) hna ha hi
       unfold QsF at hr
       split at hr
       ·rename_i q
        have : p = 0 := by simp [QQ] at q; omega
        subst this
        subst hr
        exact hj.fn hok h1 hk
       rw [if_neg (by simp [QfE]), if_neg (by rintro ⟨q, _⟩; exact absurd q (by decide)), if_neg (by rw [hb]; rintro ⟨_, q, _⟩; cases q)] at hr
       cases ht : Xw M a 10 with
       | some q =>
         obtain ⟨y, e⟩ := q
         rw [ht] at hr
         simp only at hr
         obtain ⟨t1, t2, t3, _⟩ := Q8 (S := []) (C := []) hok ht
         have hr3 := QhC ht (Qmx hok hna ha hb hk)
         rw [xc] at hr3
         exact QGJ hok h1 n y (doW 10 e p) i j k (by have := t1.1; have := ha.1; omega) (hp.tail ht).1 hr hj hr3
       | none =>
         rw [ht] at hr
         simp only at hr
         obtain ⟨w, hw, hN⟩ := hr
         have hbi : Yt M i = false := by rw [hN.boo]; decide
         have hr3 := QhC (hN.tail hw) (Qmx hok hN.num hii hbi hj)
         rw [x0 _ hpi] at hr3
         exact hr3.fn hok h1 hk
theorem QDX (hok : okN M) (h1 : One M) {a b i j k : Int} (ha : Pl M a) (hb : Pl M b) (hi : Bn M 10 a b i) (hii : inG M i) (hj : Ec M 16 i 0 j) (hk : Bn M 16 a b k) : j = k := by
 cases hna : QE M a with
 | some e =>
   cases hnb : QE M b with
   | some e' =>
     have e1 := hj.const (Qa2 hna hnb hi)
     rw [Qit (Xo (S := []) (C := []) hok hna).2 (Xo (S := []) (C := []) hok hnb).2] at e1
     exact QR hok h1 e1 (Qa2 hna hnb hk)
   | none => exact QGJ hok h1 _ b e i j k (Nat.lt_succ_self _) hb (Ec.of hna (hi.swap (by decide))) hj (Ec.of hna (hk.swap (by decide)))
 | none =>
   cases hnb : QE M b with
   | some e' => exact QGJ hok h1 _ a e' i j k (Nat.lt_succ_self _) ha (Ec.of hnb hi) hj (Ec.of hnb hk)
   | none =>
     have r1 := QkT hok hna hnb ha.inn hb.inn (by decide) hi
     split at r1
     ·rename_i e
      subst e
      have r2 := QkT hok hna hna ha.inn ha.inn (by decide) hk
      simp at r1 r2
      exact QR hok h1 (hj.const r1) r2
     ·split at r1
      ·have hbi : Yt M i = false := by rw [r1.boo]; decide
       exact (QwP r1.of4 hna (Qmx hok r1.num hii hbi hj)).fn (hk.swap (by decide))
      ·have hbi : Yt M i = false := by rw [r1.boo]; decide
       exact (QwP r1.of4 hnb (Qmx hok r1.num hii hbi hj)).fn hk
theorem mv_sub (hok : okN M) (h1 : One M) {a c i j : Int} (ha : inG M a) (hi : Ec M 2 a c i) (hj : Ec M 1 a (IntKind.i64.wrap (-c)) j) : i = j := by
 cases hna : QE M a with
 | some e =>
   have e1 := hi.const hna
   rw [do_sub] at e1
   exact QR hok h1 e1 (hj.const hna)
 | none =>
   have hr := ZK hok hna ha (by decide) hi
   unfold Qfk at hr
   by_cases q : QQ 2 = some c
   ·rw [if_pos q] at hr
    have : c = 0 := by simp [QQ] at q; omega
    subst this
    rw [hr]
    exact (Qqw hok h1 (by decide) ha (by decide) hj).symm
   ·rw [if_neg q, if_neg (by omega), if_neg (by omega), if_neg (by omega), if_pos rfl] at hr
    exact hr.fn hok h1 hj
theorem QGh (hok : okN M) (h1 : One M) {a b i j k : Int} (ha : Pl M a) (hb : Pl M b) (hi : Bn M 2 a b i) (hii : inG M i) (hj : Ec M 16 i 0 j) (hk : Bn M 16 a b k) : j = k := by
 have node : Nat' M 2 a b i → j = k := fun r1 => by
  have hbi : Yt M i = false := by rw [r1.boo]; decide
  exact (eq_of2 r1.of4 (Qmx hok r1.num hii hbi hj)).fn hk
 cases hna : QE M a with
 | some e =>
   cases hnb : QE M b with
   | some e' =>
     have e1 := hj.const (Qa2 hna hnb hi)
     rw [QoU (Xo (S := []) (C := []) hok hna).2 (Xo (S := []) (C := []) hok hnb).2] at e1
     exact QR hok h1 e1 (Qa2 hna hnb hk)
   | none =>
     have r1 := QmP hok hna hnb hb.inn (by decide) (by decide) hi
     rw [if_neg (by rintro ⟨q, _⟩; exact absurd q (by decide))] at r1
     exact node r1
 | none =>
   cases hnb : QE M b with
   | some c =>
     have hc := (Xo (S := []) (C := []) hok hnb).2
     have hr := ZK hok hna ha.inn (by decide) (Ec.of hnb hi)
     unfold Qfk at hr
     by_cases q : QQ 2 = some c
     ·rw [if_pos q] at hr
      have : c = 0 := by simp [QQ] at q; omega
      subst this
      subst hr
      exact hj.fn hok h1 (Ec.of hnb hk)
     ·rw [if_neg q, if_neg (by omega), if_neg (by omega), if_neg (by omega), if_pos rfl] at hr
      refine QGK hok h1 _ a (IntKind.i64.wrap (-c)) 0 i j k (Nat.lt_succ_self _) ha.inn hr hj ?_
      have e : IntKind.i64.wrap (0 - IntKind.i64.wrap (-c)) = c := by
       unfold i64 at hc
       simp only [IntKind.wrap_i64]
       omega
      rw [e]
      exact Ec.of hnb hk
   | none =>
     have r1 := QkT hok hna hnb ha.inn hb.inn (by decide) hi
     split at r1
     ·rename_i e
      subst e
      have r2 := QkT hok hna hna ha.inn ha.inn (by decide) hk
      simp at r1 r2
      exact QR hok h1 (hj.const r1) r2
     ·rw [if_neg (by rintro ⟨q, _⟩; exact absurd q (by decide))] at r1
      exact node r1
theorem QrZ {k : Nat} (hk : k < 64) : QeS (IntKind.i64.wrap (2 ^ k)) = some k := by
 have hp : IntKind.u64.wrap (IntKind.i64.wrap (2 ^ k)) = 2 ^ k := by
  have h2 := Qdp (k := k + 1) (by omega)
  have h3 := Xr k
  rw [Int.pow_succ] at h2
  rw [IntKind.wrap_i64, Zd]
  omega
 unfold QeS
 rw [hp, List.find?_range_eq_some]
 refine ⟨by simp, by simpa using hk, fun j hj => ?_⟩
 simp only [Bool.not_eq_true', decide_eq_false_iff_not]
 intro h
 have h4 : (2 : Int) ^ j < 2 ^ k := by
  have := Nat.pow_lt_pow_right (a := 2) (by decide) hj
  exact_mod_cast this
 omega
theorem mv_shl (hok : okN M) (h1 : One M) {a c i j : Int} (ha : inG M a) (hi : Ec M 11 a c i) (hj : Ec M 3 a (IntKind.i64.wrap (2 ^ (c % 64).toNat)) j) : i = j := by
 cases hna : QE M a with
 | some e =>
   have e1 := hi.const hna
   rw [do_shl] at e1
   exact QR hok h1 e1 (hj.const hna)
 | none =>
   have hr := ZK hok hna ha (by decide) hi
   unfold Qfk at hr
   by_cases q : QQ 11 = some c
   ·rw [if_pos q] at hr
    have : c = 0 := by simp [QQ] at q; omega
    subst this
    rw [hr]
    exact (Qqw hok h1 (by decide) ha (by decide) hj).symm
   ·rw [if_neg q, if_neg (by omega), if_neg (by omega), if_neg (by omega), if_neg (by omega), if_pos rfl] at hr
    exact hr.fn hok h1 hj
theorem Qwg (hok : okN M) (h1 : One M) {op a c i j : Int} (ho : op = 12 ∨ op = 13) (ha : inG M a) (hi : Ec M op a c i) (hj : Ec M op a (c % 64) j) : i = j := by
 by_cases hc : c = c % 64
 ·rw [← hc] at hj
  exact hi.fn hok h1 hj
 cases hna : QE M a with
 | some e =>
   have e1 := hi.const hna
   rw [QwZ ho] at e1
   exact QR hok h1 e1 (hj.const hna)
 | none =>
   have hr := ZK hok hna ha (by omega) hi
   unfold Qfk at hr
   rw [if_neg (by
    intro q
    have : c = 0 := by
     rcases ho with rfl | rfl <;> simp [QQ] at q <;> omega
    subst this; exact hc (by decide)), if_neg (by omega), if_neg (by omega), if_neg (by omega), if_neg (by omega), if_neg (by omega), if_pos ⟨ho, hc⟩] at hr
   exact hr.fn hok h1 hj
theorem mv_div (hok : okN M) (h1 : One M) {a i j : Int} {k : Nat} (hk : k < 64) (ha : inG M a) (hi : Ec M 6 a (IntKind.i64.wrap (2 ^ k)) i) (hj : Ec M 12 a k j) : i = j := by
 have hp := QrZ hk
 cases hna : QE M a with
 | some e =>
   have e1 := hi.const hna
   rw [Qw2 hp] at e1
   exact QR hok h1 e1 (hj.const hna)
 | none =>
   have hr := ZK hok hna ha (by decide) hi
   unfold Qfk at hr
   by_cases q : QQ 6 = some (IntKind.i64.wrap (2 ^ k))
   ·rw [if_pos q] at hr
    have e : IntKind.i64.wrap (2 ^ k) = 1 := by simp [QQ] at q; omega
    rw [e, show QeS 1 = some 0 by decide] at hp
    cases hp
    rw [hr]
    exact (Qqw hok h1 (by decide) ha (by decide) hj).symm
   ·rw [if_neg q, if_neg (by omega), if_neg (by omega), if_neg (by omega), if_neg (by omega), if_neg (by omega), if_neg (by omega), if_pos ⟨rfl, by rw [hp]; rfl⟩, hp, Option.getD_some] at hr
    exact hr.fn hok h1 hj
theorem mv_rem (hok : okN M) (h1 : One M) {a i j : Int} {k : Nat} (hk : k < 64) (ha : inG M a) (hi : Ec M 7 a (IntKind.i64.wrap (2 ^ k)) i) (hj : Ec M 8 a (IntKind.i64.wrap (IntKind.i64.wrap (2 ^ k) - 1)) j) : i = j := by
 have hp := QrZ hk
 cases hna : QE M a with
 | some e =>
   have e1 := hi.const hna
   rw [QwX (Xo (S := []) (C := []) hok hna).2 (Qq _) hp] at e1
   exact QR hok h1 e1 (hj.const hna)
 | none =>
   have hr := ZK hok hna ha (by decide) hi
   unfold Qfk at hr
   have k0 : ¬ QQ 7 = some (IntKind.i64.wrap (2 ^ k)) := by
    intro q
    have e : IntKind.i64.wrap (2 ^ k) = 0 := by simp [QQ] at q; omega
    rw [e, show QeS 0 = none by decide] at hp
    cases hp
   rw [if_neg k0, if_neg (by omega), if_neg (by omega)] at hr
   by_cases q : ((7 : Int) = 5 ∨ (7 : Int) = 7) ∧ IntKind.i64.wrap (2 ^ k) = 1
   ·rw [if_pos q] at hr
    rw [q.2] at hj
    exact QR hok h1 hr (Qp7 hok (by decide) ha (by decide) hj)
   ·rw [if_neg q, if_neg (by omega), if_neg (by omega), if_neg (by omega), if_neg (by omega), if_pos ⟨rfl, by rw [hp]; rfl⟩] at hr
    exact hr.fn hok h1 hj
theorem Qwh (hok : okN M) (h1 : One M) {a i j : Int} (ha : inG M a) (hi : Ec M 15 a 1 i) (hj : Ec M 16 a 0 j) : i = j := by
 cases hna : QE M a with
 | some e =>
   have e1 := hi.const hna
   rw [Qw0 _ (Xo (S := []) (C := []) hok hna).2] at e1
   exact QR hok h1 e1 (hj.const hna)
 | none =>
   have hr := ZK hok hna ha (by decide) hi
   unfold Qfk at hr
   simp (config := { decide := true }) only [if_true, if_false, false_and, and_false] at hr
   exact hr.fn hok h1 hj
theorem QGi (hok : okN M) (h1 : One M) {a z i n j : Int} (hz : QE M z = some 0) (ha : inG M a) (hi : Bn M 15 z a i) (hn : Ec M 16 a 0 n) (hj : Ec M 16 n 0 j) : i = j := by
 cases hna : QE M a with
 | some e =>
   have e1 := Qa2 hz hna hi
   rw [Qw1 _ (Xo (S := []) (C := []) hok hna).2] at e1
   exact QR hok h1 e1 (hj.const (hn.const hna))
 | none =>
   have hr := QmP hok hz hna ha (by decide) (by decide) hi
   rw [if_pos ⟨rfl, rfl⟩] at hr
   obtain ⟨m, hm, hi⟩ := hr
   rw [hm.fn hok h1 hn] at hi
   exact hi.fn hok h1 hj
end
end Go.Proofs.YtpdeoalocejodaaGreatDoor
