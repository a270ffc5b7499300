/- Parts of a word that have no bit in common. -/
import Derived.Test.YtkhdfbokkneeaaaDoorRvF
namespace Go.Rv
open Go Go.Am
set_option maxRecDepth 100000

theorem or_u32 (x y : Nat) (hx : x < 4294967296) (hy : y < 4294967296) : IntKind.u32.wrap (BitVec.ofInt 32 (x : Int) ||| BitVec.ofInt 32 (y : Int)).toNat = ((x ||| y : Nat) : Int) := by
  have e : ∀ z : Nat, z < 4294967296 → (BitVec.ofInt 32 (z : Int)).toNat = z := fun z hz => by
    rw [BitVec.toNat_ofInt]
    have : ((z : Int) % ((2 ^ 32 : Nat) : Int)) = z := Int.emod_eq_of_lt (by omega) (by omega)
    rw [this]; simp
  rw [BitVec.toNat_or, e x hx, e y hy]
  have : x ||| y < 2 ^ 32 := Nat.or_lt_two_pow (by omega) (by omega)
  apply wrap_id
  · simp [IntKind.min, IntKind.signed]
  · simp [IntKind.max, IntKind.signed, IntKind.bits]; omega

def dig (a0 a1 a2 a3 a4 a5 : Nat) : Nat := a0 + 2 ^ 7 * (a1 + 2 ^ 5 * (a2 + 2 ^ 3 * (a3 + 2 ^ 5 * (a4 + 2 ^ 5 * a5))))
theorem dig_or {a0 a1 a2 a3 a4 a5 b0 b1 b2 b3 b4 b5 : Nat} (h0 : a0 < 128) (h1 : a1 < 32) (h2 : a2 < 8) (h3 : a3 < 32) (h4 : a4 < 32) (g0 : b0 < 128) (g1 : b1 < 32) (g2 : b2 < 8) (g3 : b3 < 32) (g4 : b4 < 32) :
    dig a0 a1 a2 a3 a4 a5 ||| dig b0 b1 b2 b3 b4 b5 = dig (a0 ||| b0) (a1 ||| b1) (a2 ||| b2) (a3 ||| b3) (a4 ||| b4) (a5 ||| b5) := by
  unfold dig
  rw [lor_split 7 _ _ _ _ (by omega) (by omega), lor_split 5 _ _ _ _ (by omega) (by omega), lor_split 3 _ _ _ _ (by omega) (by omega), lor_split 5 _ _ _ _ (by omega) (by omega), lor_split 5 _ _ _ _ (by omega) (by omega)]
theorem dig_lt {a0 a1 a2 a3 a4 a5 : Nat} (h0 : a0 < 128) (h1 : a1 < 32) (h2 : a2 < 8) (h3 : a3 < 32) (h4 : a4 < 32) (h5 : a5 < 128) : dig a0 a1 a2 a3 a4 a5 < 4294967296 := by unfold dig; omega

theorem or_even {f d : Nat} (hf : f % 2 = 0) (hd : d < 2) : f ||| d = f + d := by
  have := lor_split 1 0 (f / 2) d 0 (by omega) (by omega)
  have e : 0 + 2 ^ 1 * (f / 2) = f := by omega
  rw [e] at this
  simp at this
  rw [this]; omega

def orP (l : List Int) : Int := l.foldl (fun n x => IntKind.u32.wrap (BitVec.ofInt 32 n ||| BitVec.ofInt 32 x).toNat) 0

theorem orP_dig {c f3 f7 rd r1 r2 a b c' d : Nat} (h0 : c < 128) (h1 : f3 < 8) (h2 : f7 < 128) (h3 : rd < 32) (h4 : r1 < 32) (h5 : r2 < 32) (ha : a < 32) (hb : b < 256) (hc : c' < 32) (hd : d < 128)
    (k1 : rd = 0 ∨ a = 0) (k2 : f3 = 0 ∨ b = 0) (k3 : r1 = 0 ∨ b = 0) (k4 : r2 = 0 ∨ c' = 0) (k5 : f7 = 0 ∨ d = 0 ∨ (f7 % 2 = 0 ∧ d < 2)) :
    orP [((dig c 0 f3 0 0 f7 : Nat) : Int), ((dig 0 rd 0 0 0 0 : Nat) : Int), ((dig 0 0 0 r1 0 0 : Nat) : Int), ((dig 0 0 0 0 r2 0 : Nat) : Int), ((dig 0 a (b % 8) (b / 8) c' d : Nat) : Int)] =
      ((dig c 0 f3 0 0 f7 : Nat) : Int) + ((dig 0 rd 0 0 0 0 : Nat) : Int) + ((dig 0 0 0 r1 0 0 : Nat) : Int) + ((dig 0 0 0 0 r2 0 : Nat) : Int) + ((dig 0 a (b % 8) (b / 8) c' d : Nat) : Int) := by
  simp only [orP, List.foldl_cons, List.foldl_nil]
  have z : (0 : Int) = ((dig 0 0 0 0 0 0 : Nat) : Int) := by simp [dig]
  rw [z, or_u32 _ _ (dig_lt (by omega) (by omega) (by omega) (by omega) (by omega) (by omega)) (dig_lt (by omega) (by omega) (by omega) (by omega) (by omega) (by omega)), dig_or (by omega) (by omega) (by omega) (by omega) (by omega) (by omega) (by omega) (by omega) (by omega) (by omega)]
  simp only [Nat.zero_or, Nat.or_zero]
  rw [or_u32 _ _ (dig_lt (by omega) (by omega) (by omega) (by omega) (by omega) (by omega)) (dig_lt (by omega) (by omega) (by omega) (by omega) (by omega) (by omega)), dig_or (by omega) (by omega) (by omega) (by omega) (by omega) (by omega) (by omega) (by omega) (by omega) (by omega)]
  simp only [Nat.zero_or, Nat.or_zero]
  rw [or_u32 _ _ (dig_lt (by omega) (by omega) (by omega) (by omega) (by omega) (by omega)) (dig_lt (by omega) (by omega) (by omega) (by omega) (by omega) (by omega)), dig_or (by omega) (by omega) (by omega) (by omega) (by omega) (by omega) (by omega) (by omega) (by omega) (by omega)]
  simp only [Nat.zero_or, Nat.or_zero]
  rw [or_u32 _ _ (dig_lt (by omega) (by omega) (by omega) (by omega) (by omega) (by omega)) (dig_lt (by omega) (by omega) (by omega) (by omega) (by omega) (by omega)), dig_or (by omega) (by omega) (by omega) (by omega) (by omega) (by omega) (by omega) (by omega) (by omega) (by omega)]
  simp only [Nat.zero_or, Nat.or_zero]
  rw [or_u32 _ _ (dig_lt (by omega) (by omega) (by omega) (by omega) (by omega) (by omega)) (dig_lt (by omega) (by omega) (by omega) (by omega) (by omega) (by omega)), dig_or (by omega) (by omega) (by omega) (by omega) (by omega) (by omega) (by omega) (by omega) (by omega) (by omega)]
  have e1 : rd ||| a = rd + a := by rcases k1 with h | h <;> subst h <;> simp
  have e2 : f3 ||| b % 8 = f3 + b % 8 := by rcases k2 with h | h <;> subst h <;> simp
  have e3 : r1 ||| b / 8 = r1 + b / 8 := by rcases k3 with h | h <;> subst h <;> simp
  have e4 : r2 ||| c' = r2 + c' := by rcases k4 with h | h <;> subst h <;> simp
  have e5 : f7 ||| d = f7 + d := by
    rcases k5 with h | h | h
    · subst h; simp
    · subst h; simp
    · exact or_even h.1 h.2
  rw [e1, e2, e3, e4, e5, Nat.or_zero]
  unfold dig
  omega

theorem orP_lone {m : Int} (h0 : 0 ≤ m) (h1 : m < 4294967296) : orP [m, 0, 0, 0, 0] = m := by
  obtain ⟨x, rfl⟩ := Int.eq_ofNat_of_zero_le h0
  have z : (0 : Int) = ((0 : Nat) : Int) := rfl
  simp only [orP, List.foldl_cons, List.foldl_nil]
  rw [z, or_u32 0 x (by omega) (by omega), Nat.zero_or, or_u32 x 0 (by omega) (by omega), Nat.or_zero, or_u32 x 0 (by omega) (by omega), Nat.or_zero, or_u32 x 0 (by omega) (by omega), Nat.or_zero, or_u32 x 0 (by omega) (by omega), Nat.or_zero]

/-- The parts of what has a word. -/
theorem orP_enc {x : In} {r : RR} (hk : T[(x.op - 1).toNat]? = some r) (hd : 0 ≤ x.rd ∧ x.rd ≤ 31) (h1 : 0 ≤ x.rs1 ∧ x.rs1 ≤ 31) (h2 : 0 ≤ x.rs2 ∧ x.rs2 ≤ 31) (z1 : hasRd r.form = false → x.rd = 0) (z2 : hasR1 r.form = false → x.rs1 = 0)
    (z3 : hasR2 r.form = false → x.rs2 = 0) (hr : room r.form x.imm = true) :
    orP [matchOf r, x.rd * 128, x.rs1 * 32768, x.rs2 * 1048576, spread r.form x.imm] = matchOf r + x.rd * 128 + x.rs1 * 32768 + x.rs2 * 1048576 + spread r.form x.imm := by
  have hg0 := T_good r (List.mem_of_getElem? hk)
  have hg := hg0
  simp only [good, Bool.and_eq_true, Bool.or_eq_true, decide_eq_true_eq, or_assoc] at hg
  obtain ⟨⟨c0, c1, a0, a1, b0, b1⟩, hf⟩ := hg
  simp only [ecallN, ebreakN] at hf
  obtain ⟨a, b, c, d, ha0, ha1, hb0, hb1, hc0, hc1, hd0, hd1, hs, s1, s2, s3, s4, s5, s6⟩ := spread_lt r.form x.imm (by rcases hf with hf | hf | hf | hf | hf | hf | hf | hf | hf <;> simp [hf])
  by_cases hE : r.form = 69
  · rw [hE] at z1 z2 z3
    rw [hs]
    obtain ⟨rfl, rfl, rfl, rfl⟩ := s6 (.inr hE)
    rw [z1 rfl, z2 rfl, z3 rfl]
    have hm : 0 ≤ matchOf r ∧ matchOf r < 4294967296 := by unfold matchOf; split <;> omega
    simp only [Int.zero_mul, Int.add_zero]
    exact orP_lone hm.1 hm.2
  · have hm : matchOf r = r.code + r.f3 * 4096 + r.f7 * 33554432 := by
      unfold matchOf
      rw [if_neg]
      rcases hf with hf | hf | hf | hf | hf | hf | hf | hf | hf <;> first | (exact hf.2) | (exact hf.2.2) | (exact hf.2.2.2) | (exact absurd hf.1 hE)
    have key := orP_dig (c := r.code.toNat) (f3 := r.f3.toNat) (f7 := r.f7.toNat) (rd := x.rd.toNat) (r1 := x.rs1.toNat) (r2 := x.rs2.toNat) (a := a.toNat) (b := b.toNat) (c' := c.toNat) (d := d.toNat)
      (by omega) (by omega) (by omega) (by omega) (by omega) (by omega) (by omega) (by omega) (by omega) (by omega)
    have q1 : ((dig r.code.toNat 0 r.f3.toNat 0 0 r.f7.toNat : Nat) : Int) = matchOf r := by rw [hm]; unfold dig; omega
    have q2 : ((dig 0 x.rd.toNat 0 0 0 0 : Nat) : Int) = x.rd * 128 := by unfold dig; omega
    have q3 : ((dig 0 0 0 x.rs1.toNat 0 0 : Nat) : Int) = x.rs1 * 32768 := by unfold dig; omega
    have q4 : ((dig 0 0 0 0 x.rs2.toNat 0 : Nat) : Int) = x.rs2 * 1048576 := by unfold dig; omega
    have q5 : ((dig 0 a.toNat (b.toNat % 8) (b.toNat / 8) c.toNat d.toNat : Nat) : Int) = spread r.form x.imm := by rw [hs]; unfold dig; omega
    rw [q1, q2, q3, q4, q5] at key
    clear q1 q2 q3 q4 q5 hm hs
    apply key
    all_goals (rcases hf with ⟨hf, hh⟩ | ⟨hf, hh⟩ | ⟨hf, hh⟩ | ⟨hf, hh⟩ | ⟨hf, hh⟩ | ⟨hf, hh⟩ | ⟨hf, hh⟩ | ⟨hf, hh⟩ | ⟨hf, hh⟩)
    all_goals (rw [hf] at hr z1 z2 z3 s1 s2 s3 s4 s5 s6; simp only [hasRd, hasR1, hasR2, room, Int.reduceEq, or_true, or_false, if_true, if_false, decide_true, decide_false, Bool.true_eq_false, false_implies, decide_eq_true_eq, forall_const] at hr z1 z2 z3 s1 s2 s3 s4 s5 s6)
    all_goals (first | omega | (exact absurd hf hE))
end Go.Rv
