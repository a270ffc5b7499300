/- Masks. -/
import Derived.Test.YtkhdfbokkneeaaaDoorRvC
namespace Go.Rv
open Go Go.Am
set_option maxRecDepth 100000

theorem and_u32 (w m : Int) (h0 : 0 ≤ w) (h1 : w < 4294967296) (g0 : 0 ≤ m) (g1 : m < 4294967296) : IntKind.u32.wrap (BitVec.ofInt 32 w &&& BitVec.ofInt 32 m).toNat = ((w.toNat &&& m.toNat : Nat) : Int) := by
  obtain ⟨x, rfl⟩ := Int.eq_ofNat_of_zero_le h0
  obtain ⟨y, rfl⟩ := Int.eq_ofNat_of_zero_le g0
  have e : ∀ z : Nat, z < 4294967296 → (BitVec.ofInt 32 (z : Int)).toNat = z := fun z hz => by
    rw [BitVec.toNat_ofInt]
    have : ((z : Int) % ((2 ^ 32 : Nat) : Int)) = z := Int.emod_eq_of_lt (by omega) (by omega)
    rw [this]; simp
  rw [BitVec.toNat_and, e x (by omega), e y (by omega)]
  simp only [Int.toNat_natCast]
  have : x &&& y ≤ x := Nat.and_le_left
  apply wrap_id
  · simp [IntKind.min, IntKind.signed]
  · simp [IntKind.max, IntKind.signed, IntKind.bits]; omega

theorem land_low (k x : Nat) (h : x < 2 ^ k) : x &&& (2 ^ k - 1) = x := by rw [Nat.and_two_pow_sub_one_eq_mod, Nat.mod_eq_of_lt h]

theorem land_mask (w c d : Nat) (hw : w < 4294967296) (h7 : (d = 127 ∨ d = 126 ∨ d = 0)) (h3 : c = 7 ∨ c = 0) :
    w &&& (127 + 2 ^ 7 * (0 + 2 ^ 5 * (c + 2 ^ 3 * (0 + 2 ^ 10 * d)))) = w % 128 + (if c = 7 then w / 4096 % 8 else 0) * 4096 + (if d = 127 then w / 33554432 else if d = 126 then w / 67108864 * 2 else 0) * 33554432 := by
  have hw2 : w = w % 128 + 2 ^ 7 * (w / 128 % 32 + 2 ^ 5 * (w / 4096 % 8 + 2 ^ 3 * (w / 32768 % 1024 + 2 ^ 10 * (w / 33554432)))) := by omega
  have hd : (w / 33554432) &&& d = (if d = 127 then w / 33554432 else if d = 126 then w / 67108864 * 2 else 0) := by
    rcases h7 with rfl | rfl | rfl
    · have := land_low 7 (w / 33554432) (by omega); simpa using this
    · have e1 := land_split 1 (w / 33554432 % 2) (w / 67108864) 0 63 (by omega) (by omega)
      have e2 : w / 33554432 % 2 + 2 ^ 1 * (w / 67108864) = w / 33554432 := by omega
      have e3 := land_low 6 (w / 67108864) (by omega)
      rw [e2] at e1
      simp at e1 e3 ⊢
      rw [e1, e3]; omega
    · simp
  have hc : (w / 4096 % 8) &&& c = if c = 7 then w / 4096 % 8 else 0 := by
    rcases h3 with rfl | rfl
    · have := land_low 3 (w / 4096 % 8) (by omega); simpa using this
    · simp
  conv => lhs; rw [hw2]
  rw [land_split 7 _ _ _ _ (by omega) (by omega), land_split 5 _ _ _ _ (by omega) (by omega), land_split 3 _ _ _ _ (by omega) (by omega), land_split 10 _ _ _ _ (by omega) (by omega), hd, hc]
  have := land_low 7 (w % 128) (by omega)
  simp at this ⊢
  rw [this]
  omega

def maskOf (f : Int) : Int := if f = 82 ∨ f = 87 then 4261441663 else if f = 72 then 4227887231 else if f = 85 ∨ f = 74 then 127 else if f = 69 then 4294967295 else 28799

theorem mask_is {w : Int} {r : RR} (hg : good r = true) (h0 : 0 ≤ w) (h1 : w < 4294967296) : (IntKind.u32.wrap (BitVec.ofInt 32 w &&& BitVec.ofInt 32 (maskOf r.form)).toNat = matchOf r) ↔ is w r = true := by
  rw [and_u32 w _ h0 h1 (by unfold maskOf; repeat' split <;> omega) (by unfold maskOf; repeat' split <;> omega)]
  obtain ⟨x, rfl⟩ := Int.eq_ofNat_of_zero_le h0
  have hx : x < 4294967296 := by omega
  simp only [Int.toNat_natCast]
  simp only [good, Bool.and_eq_true, Bool.or_eq_true, decide_eq_true_eq, or_assoc] at hg
  obtain ⟨⟨c0, c1, a0, a1, b0, b1⟩, hf⟩ := hg
  have eR := land_mask x 7 127 hx (by simp) (by simp)
  have eH := land_mask x 7 126 hx (by simp) (by simp)
  have eI := land_mask x 7 0 hx (by simp) (by simp)
  have eU := land_mask x 0 0 hx (by simp) (by simp)
  have eE := land_low 32 x (by omega)
  simp only [Nat.reducePow, Nat.reduceMul, Nat.reduceAdd, Nat.reduceSub, if_true, Nat.reduceEqDiff, if_false, reduceCtorEq] at eR eH eI eU eE
  simp only [ecallN, ebreakN] at hf
  rcases hf with hf | hf | hf | hf | hf | hf | hf | hf | hf <;>
    simp only [hf, maskOf, matchOf, is, fld, Int.reduceEq, if_true, if_false, or_true, or_false, Int.reducePow, Int.reduceToNat, eR, eH, eI, eU, eE, decide_eq_true_eq, Int.ediv_one] <;> clear eR eH eI eU eE
  all_goals (try omega)
  obtain ⟨_, _, _, _, hn | hn⟩ := hf <;> simp [hn] <;> omega
end Go.Rv
