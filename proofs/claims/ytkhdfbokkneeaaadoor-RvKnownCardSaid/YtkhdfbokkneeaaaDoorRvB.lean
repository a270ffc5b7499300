/- Words and instructions: each is told by the other. -/
import Derived.Test.YtkhdfbokkneeaaaDoorRvA
namespace Go.Rv
open Go Go.Am
set_option maxRecDepth 100000

def ecallN : List UInt8 := [101, 99, 97, 108, 108]
def ebreakN : List UInt8 := [101, 98, 114, 101, 97, 107]

def good (r : RR) : Bool :=
  decide (0 ≤ r.code ∧ r.code < 128 ∧ 0 ≤ r.f3 ∧ r.f3 < 8 ∧ 0 ≤ r.f7 ∧ r.f7 < 128) &&
  (decide (r.form = 82 ∧ r.name ≠ ebreakN) || decide (r.form = 87 ∧ r.name ≠ ebreakN) || decide (r.form = 73 ∧ r.f7 = 0 ∧ r.name ≠ ebreakN) || decide (r.form = 72 ∧ r.f7 % 2 = 0 ∧ r.name ≠ ebreakN) || decide (r.form = 83 ∧ r.f7 = 0 ∧ r.name ≠ ebreakN) || decide (r.form = 66 ∧ r.f7 = 0 ∧ r.name ≠ ebreakN) ||
   decide (r.form = 85 ∧ r.f3 = 0 ∧ r.f7 = 0 ∧ r.name ≠ ebreakN) || decide (r.form = 74 ∧ r.f3 = 0 ∧ r.f7 = 0 ∧ r.name ≠ ebreakN) || decide (r.form = 69 ∧ r.code = 115 ∧ r.f3 = 0 ∧ r.f7 = 0 ∧ (r.name = ecallN ∨ r.name = ebreakN)))

theorem T_good : ∀ r ∈ T, good r = true := by
  have : T.all good = true := by decide +kernel
  exact List.all_eq_true.1 this
theorem T_len : T.length = 65 := rfl

/-- A word of one row's is not of another one's. -/
def apart (r s : RR) : Bool :=
  decide (r.code ≠ s.code) || decide (r.form ≠ 85 ∧ r.form ≠ 74 ∧ r.form ≠ 69 ∧ s.form ≠ 85 ∧ s.form ≠ 74 ∧ s.form ≠ 69 ∧ r.f3 ≠ s.f3) ||
  decide ((r.form = 82 ∨ r.form = 87 ∨ r.form = 72) ∧ (s.form = 82 ∨ s.form = 87 ∨ s.form = 72) ∧ r.f7 / 2 ≠ s.f7 / 2) ||
  decide ((r.form = 82 ∨ r.form = 87) ∧ (s.form = 82 ∨ s.form = 87) ∧ r.f7 ≠ s.f7) || decide (r.form = 69 ∧ s.form = 69 ∧ r.name ≠ s.name)

def apartL (r : RR) : List RR → Bool
  | [] => true
  | s :: l => apart r s && apartL r l
def apartA : List RR → Bool
  | [] => true
  | r :: l => apartL r l && apartA l
theorem T_apart : apartA T = true := by decide +kernel

/-- What a row's word is like. -/
theorem is_parts {w : Int} {r : RR} (hg : good r = true) (h : is w r = true) (h0 : 0 ≤ w) (h1 : w < 4294967296) : w % 128 = r.code ∧ (r.form ≠ 85 → r.form ≠ 74 → w / 4096 % 8 = r.f3) ∧ (r.form = 82 ∨ r.form = 87 ∨ r.form = 72 → w / 67108864 = r.f7 / 2) ∧
    (r.form = 82 ∨ r.form = 87 → w / 33554432 = r.f7) ∧ (r.form = 69 → (w = 115 ∧ r.name = ecallN) ∨ (w = 1048691 ∧ r.name = ebreakN)) := by
  simp only [good, Bool.and_eq_true, Bool.or_eq_true, decide_eq_true_eq, or_assoc] at hg
  obtain ⟨⟨c0, c1, a0, a1, b0, b1⟩, hf⟩ := hg
  rcases hf with hf | hf | hf | hf | hf | hf | hf | hf | hf <;> simp [is, hf, fld] at h ⊢ <;> (try omega)
  obtain ⟨_, hf1, hf2, hf3, hf4⟩ := hf
  simp only [ecallN, ebreakN] at *
  rcases h with ⟨h, h'⟩ | ⟨h, h'⟩
  · refine ⟨by omega, by omega, .inl ⟨h, h'⟩⟩
  · refine ⟨by omega, by omega, .inr ⟨h, h'⟩⟩

theorem is_apart {w : Int} {r s : RR} (hr : good r = true) (hs : good s = true) (h0 : 0 ≤ w) (h1 : w < 4294967296) (ha : apart r s = true) (h : is w r = true) : is w s = false := by
  cases h' : is w s with
  | false => rfl
  | true =>
    exfalso
    obtain ⟨a1, a2, a3, a4, a5⟩ := is_parts hr h h0 h1
    obtain ⟨b1, b2, b3, b4, b5⟩ := is_parts hs h' h0 h1
    simp only [apart, Bool.or_eq_true, decide_eq_true_eq, or_assoc] at ha
    rcases ha with ha | ha | ha | ha | ha
    · exact ha (a1.symm.trans b1)
    · exact ha.2.2.2.2.2.2 ((a2 ha.1 ha.2.1).symm.trans (b2 ha.2.2.2.1 ha.2.2.2.2.1))
    · exact ha.2.2 ((a3 ha.1).symm.trans (b3 ha.2.1))
    · exact ha.2.2 ((a4 ha.1).symm.trans (b4 ha.2.1))
    · rcases a5 ha.1 with ⟨c, c'⟩ | ⟨c, c'⟩ <;> rcases b5 ha.2.1 with ⟨d, d'⟩ | ⟨d, d'⟩
      · exact ha.2.2 (c'.trans d'.symm)
      · omega
      · omega
      · exact ha.2.2 (c'.trans d'.symm)

theorem apartL_get {r : RR} : ∀ {l : List RR}, apartL r l = true → ∀ s ∈ l, apart r s = true
  | s :: l, h, t, ht => by
    simp only [apartL, Bool.and_eq_true] at h
    simp only [List.mem_cons] at ht
    rcases ht with rfl | ht
    · exact h.1
    · exact apartL_get h.2 t ht

theorem first_none {w : Int} : ∀ {l : List RR} {i : Nat}, (∀ r ∈ l, is w r = false) → first w i l = none
  | [], _, _ => rfl
  | r :: l, i, h => by
    simp only [first, h r List.mem_cons_self, Bool.false_eq_true, if_false]
    exact first_none fun s hs => h s (List.mem_cons_of_mem _ hs)

/-- The row whose word it is. -/
theorem first_of {w : Int} (h0 : 0 ≤ w) (h1 : w < 4294967296) : ∀ {l : List RR} {i k : Nat} {r : RR}, (∀ r ∈ l, good r = true) → apartA l = true → l[k]? = some r → is w r = true → first w i l = some (mk (i + k) r w)
  | r :: l, i, 0, s, hg, _, hk, hi => by
    simp at hk; subst hk
    simp [first, hi]
  | r :: l, i, k + 1, s, hg, ha, hk, hi => by
    simp only [List.getElem?_cons_succ] at hk
    simp only [apartA, Bool.and_eq_true] at ha
    have hm := List.mem_of_getElem? hk
    have hr : is w r = false := by
      cases h : is w r with
      | false => rfl
      | true => rw [is_apart (hg r List.mem_cons_self) (hg s (List.mem_cons_of_mem _ hm)) h0 h1 (apartL_get ha.1 s hm) h] at hi; cases hi
    simp only [first, hr, Bool.false_eq_true, if_false]
    rw [first_of h0 h1 (fun t ht => hg t (List.mem_cons_of_mem _ ht)) ha.2 hk hi]
    congr 2; omega

theorem first_some {w : Int} : ∀ {l : List RR} {i : Nat} {x : In}, first w i l = some x → ∃ k r, l[k]? = some r ∧ is w r = true ∧ x = mk (i + k) r w
  | r :: l, i, x, h => by
    simp only [first] at h
    split at h
    · rename_i hi
      exact ⟨0, r, rfl, hi, by simpa using h.symm⟩
    · obtain ⟨k, s, h1, h2, h3⟩ := first_some h
      exact ⟨k + 1, s, h1, h2, by rw [h3]; congr 1; omega⟩


theorem sgn_ok {n : Int} {b : Nat} (p q : Int) (hp : (2 : Int) ^ b = p) (hq : (2 : Int) ^ (b - 1) = q) : (sgn n b = n ∧ n < q) ∨ (sgn n b = n - p ∧ q ≤ n) := by
  unfold sgn
  rw [hp, hq]
  split
  · exact .inr ⟨rfl, by omega⟩
  · exact .inl ⟨rfl, by omega⟩

section
variable {w : Int} (h0 : 0 ≤ w) (h1 : w < 4294967296)
include h0 h1
theorem nI : room 73 (number w 73) = true ∧ spread 73 (number w 73) = w / 1048576 * 1048576 := by
  simp only [number, room, spread, fld, Int.reduceEq, if_true, if_false, true_or, false_or, Int.reducePow, decide_eq_true_eq]
  rcases sgn_ok (n := w / 1048576 % 4096) (b := 12) 4096 2048 rfl rfl with ⟨e, h⟩ | ⟨e, h⟩ <;> rw [e] <;> omega
omit h0 h1 in
theorem nH : room 72 (number w 72) = true ∧ spread 72 (number w 72) = w / 1048576 % 64 * 1048576 := by
  simp only [number, room, spread, fld, Int.reduceEq, if_true, if_false, or_true, or_false, Int.reducePow, decide_eq_true_eq]
  omega
omit h0 h1 in
theorem nW : room 87 (number w 87) = true ∧ spread 87 (number w 87) = w / 1048576 % 32 * 1048576 := by
  simp only [number, room, spread, fld, Int.reduceEq, if_true, if_false, or_true, or_false, Int.reducePow, decide_eq_true_eq]
  omega
theorem nS : room 83 (number w 83) = true ∧ spread 83 (number w 83) = w / 33554432 * 33554432 + w / 128 % 32 * 128 := by
  simp only [number, room, spread, fld, Int.reduceEq, if_true, if_false, or_true, or_false, Int.reducePow, decide_eq_true_eq]
  obtain ⟨a, ha⟩ : ∃ a, a = w / 33554432 % 128 := ⟨_, rfl⟩
  obtain ⟨c, hc⟩ : ∃ c, c = w / 128 % 32 := ⟨_, rfl⟩
  rw [← ha, ← hc]
  have : w / 33554432 = a := by omega
  rw [this]
  have := Int.emod_nonneg (w / 33554432) (show (128 : Int) ≠ 0 by omega)
  have : 0 ≤ a ∧ a < 128 ∧ 0 ≤ c ∧ c < 32 := by omega
  clear ha hc h0 h1
  rcases sgn_ok (n := a * 32 + c) (b := 12) 4096 2048 rfl rfl with ⟨e, h⟩ | ⟨e, h⟩ <;> rw [e] <;> omega
theorem nB : room 66 (number w 66) = true ∧ spread 66 (number w 66) = w / 33554432 * 33554432 + w / 128 % 32 * 128 := by
  simp only [number, room, spread, fld, Int.reduceEq, if_true, if_false, or_false, Int.reducePow, decide_eq_true_eq]
  obtain ⟨a, ha⟩ : ∃ a, a = w / 2147483648 % 2 := ⟨_, rfl⟩
  obtain ⟨b, hb⟩ : ∃ b, b = w / 33554432 % 64 := ⟨_, rfl⟩
  obtain ⟨c, hc⟩ : ∃ c, c = w / 256 % 16 := ⟨_, rfl⟩
  obtain ⟨d, hd⟩ : ∃ d, d = w / 128 % 2 := ⟨_, rfl⟩
  rw [← ha, ← hb, ← hc, ← hd]
  have e1 : w / 33554432 = a * 64 + b := by omega
  have e2 : w / 128 % 32 = c * 2 + d := by omega
  rw [e1, e2]
  have : 0 ≤ a ∧ a < 2 ∧ 0 ≤ b ∧ b < 64 ∧ 0 ≤ c ∧ c < 16 ∧ 0 ≤ d ∧ d < 2 := by omega
  clear ha hb hc hd h0 h1 e1 e2
  rcases sgn_ok (n := a * 4096 + d * 2048 + b * 32 + c * 2) (b := 13) 8192 4096 rfl rfl with ⟨e, h⟩ | ⟨e, h⟩ <;> rw [e] <;> omega
theorem nU : room 85 (number w 85) = true ∧ spread 85 (number w 85) = w / 4096 * 4096 := by
  simp only [number, room, spread, fld, Int.reduceEq, if_true, if_false, or_false, Int.reducePow, decide_eq_true_eq]
  rcases sgn_ok (n := w / 4096 % 1048576 * 4096) (b := 32) 4294967296 2147483648 rfl rfl with ⟨e, h⟩ | ⟨e, h⟩ <;> rw [e] <;> omega
theorem nJ : room 74 (number w 74) = true ∧ spread 74 (number w 74) = w / 4096 * 4096 := by
  simp only [number, room, spread, fld, Int.reduceEq, if_true, if_false, or_false, Int.reducePow, decide_eq_true_eq]
  obtain ⟨a, ha⟩ : ∃ a, a = w / 2147483648 % 2 := ⟨_, rfl⟩
  obtain ⟨b, hb⟩ : ∃ b, b = w / 2097152 % 1024 := ⟨_, rfl⟩
  obtain ⟨c, hc⟩ : ∃ c, c = w / 1048576 % 2 := ⟨_, rfl⟩
  obtain ⟨d, hd⟩ : ∃ d, d = w / 4096 % 256 := ⟨_, rfl⟩
  rw [← ha, ← hb, ← hc, ← hd]
  have e1 : w / 4096 = a * 524288 + b * 512 + c * 256 + d := by omega
  rw [e1]
  have : 0 ≤ a ∧ a < 2 ∧ 0 ≤ b ∧ b < 1024 ∧ 0 ≤ c ∧ c < 2 ∧ 0 ≤ d ∧ d < 256 := by omega
  clear ha hb hc hd h0 h1 e1
  rcases sgn_ok (n := a * 1048576 + d * 4096 + c * 2048 + b * 2) (b := 21) 2097152 1048576 rfl rfl with ⟨e, h⟩ | ⟨e, h⟩ <;> rw [e] <;> omega
omit h0 h1 in
theorem nR : room 82 0 = true ∧ spread 82 0 = 0 ∧ number w 82 = 0 := by simp [number, room, spread]
omit h0 h1 in
theorem nE : room 69 0 = true ∧ spread 69 0 = 0 ∧ number w 69 = 0 := by simp [number, room, spread]
end

/-- What is told of a word has that word. -/
theorem enc_mk {w : Int} {k : Nat} {r : RR} (h0 : 0 ≤ w) (h1 : w < 4294967296) (hk : T[k]? = some r) (hi : is w r = true) : enc T (mk k r w) = (w, 0) := by
  have hg := T_good r (List.mem_of_getElem? hk)
  have hkl : k < 65 := by have := (List.getElem?_eq_some_iff.1 hk).1; rw [T_len] at this; exact this
  have hop : (1 : Int) ≤ (k : Int) + 1 ∧ (k : Int) + 1 ≤ T.length := by rw [T_len]; omega
  have hkk : (((k : Int) + 1) - 1).toNat = k := by omega
  simp only [good, Bool.and_eq_true, Bool.or_eq_true, decide_eq_true_eq, or_assoc] at hg
  obtain ⟨⟨c0, c1, a0, a1, b0, b1⟩, hf⟩ := hg
  simp only [ecallN, ebreakN] at hf
  have gI := nI h0 h1
  have gH := nH (w := w)
  have gW := nW (w := w)
  have gS := nS h0 h1
  have gB := nB h0 h1
  have gU := nU h0 h1
  have gJ := nJ h0 h1
  have gR := nR (w := w)
  have gE := nE (w := w)
  rcases hf with hf | hf | hf | hf | hf | hf | hf | hf | hf <;>
    simp only [enc, mk, hop, hkk, hk, hf, hasRd, hasR1, hasR2, matchOf, is, fld, gI, gH, gW, gS, gB, gU, gJ, gR, gE, and_self, if_true, Int.reduceEq, decide_true, decide_false, or_true, or_false, if_false, Bool.true_eq_false, false_and, true_and, ne_eq, not_true, decide_eq_true_eq, Bool.false_eq_true, Int.reducePow, Int.ediv_one] at hi ⊢ <;>
    clear gI gH gW gS gB gU gJ gR gE
  all_goals (try (rw [if_neg (by omega)]; simp only [Prod.mk.injEq, and_true]))
  all_goals (first | omega | skip)
  rcases hi with ⟨h, h'⟩ | ⟨h, h'⟩ <;> simp [h, h']
end Go.Rv
