/- Instructions' words are told to be them. -/
import Derived.Test.YtkhdfbokkneeaaaDoorRvB
namespace Go.Rv
open Go Go.Am
set_option maxRecDepth 100000

section
variable {w n : Int}
theorem mI (h : room 73 n = true) (hw : w / 1048576 % 4096 = n % 4096) : number w 73 = n := by
  simp only [number, room, fld, Int.reduceEq, if_true, if_false, true_or, Int.reducePow, decide_eq_true_eq] at *
  rw [hw]
  rcases sgn_ok (n := n % 4096) (b := 12) 4096 2048 rfl rfl with ⟨e, h⟩ | ⟨e, h⟩ <;> rw [e] <;> omega
theorem mS (h : room 83 n = true) (hw : w / 33554432 % 128 = n / 32 % 128) (hv : w / 128 % 32 = n % 32) : number w 83 = n := by
  simp only [number, room, fld, Int.reduceEq, if_true, if_false, or_true, Int.reducePow, decide_eq_true_eq] at *
  rw [hw, hv]
  have e : n / 32 % 128 * 32 + n % 32 = n % 4096 := by omega
  rw [e]
  rcases sgn_ok (n := n % 4096) (b := 12) 4096 2048 rfl rfl with ⟨e, h⟩ | ⟨e, h⟩ <;> rw [e] <;> omega
theorem mH (h : room 72 n = true) (hw : w / 1048576 % 64 = n) : number w 72 = n := by
  simp only [number, fld, Int.reduceEq, if_true, if_false, Int.reducePow] at *
  exact hw
theorem mW (h : room 87 n = true) (hw : w / 1048576 % 32 = n) : number w 87 = n := by
  simp only [number, fld, Int.reduceEq, if_true, if_false, Int.reducePow] at *
  exact hw
theorem mB (h : room 66 n = true) (h1 : w / 2147483648 % 2 = n / 4096 % 2) (h2 : w / 33554432 % 64 = n / 32 % 64) (h3 : w / 256 % 16 = n / 2 % 16) (h4 : w / 128 % 2 = n / 2048 % 2) : number w 66 = n := by
  simp only [number, room, fld, Int.reduceEq, if_true, if_false, or_false, Int.reducePow, decide_eq_true_eq] at *
  rw [h1, h2, h3, h4]
  have e : n / 4096 % 2 * 4096 + n / 2048 % 2 * 2048 + n / 32 % 64 * 32 + n / 2 % 16 * 2 = n % 8192 := by
    clear h1 h2 h3 h4
    have a1 : n % 8192 = n % 4096 + n / 4096 % 2 * 4096 := by omega
    have a2 : n % 4096 = n % 2048 + n / 2048 % 2 * 2048 := by omega
    have a3 : n % 2048 = n % 32 + n / 32 % 64 * 32 := by omega
    have a4 : n % 32 = n / 2 % 16 * 2 := by omega
    omega
  rw [e]
  rcases sgn_ok (n := n % 8192) (b := 13) 8192 4096 rfl rfl with ⟨e, h⟩ | ⟨e, h⟩ <;> rw [e] <;> omega
theorem mU (h : room 85 n = true) (h1 : w / 4096 % 1048576 = n / 4096 % 1048576) : number w 85 = n := by
  simp only [number, room, fld, Int.reduceEq, if_true, if_false, or_false, Int.reducePow, decide_eq_true_eq] at *
  rw [h1]
  rcases sgn_ok (n := n / 4096 % 1048576 * 4096) (b := 32) 4294967296 2147483648 rfl rfl with ⟨e, h⟩ | ⟨e, h⟩ <;> rw [e] <;> omega
theorem mJ (h : room 74 n = true) (h1 : w / 2147483648 % 2 = n / 1048576 % 2) (h2 : w / 2097152 % 1024 = n / 2 % 1024) (h3 : w / 1048576 % 2 = n / 2048 % 2) (h4 : w / 4096 % 256 = n / 4096 % 256) : number w 74 = n := by
  simp only [number, room, fld, Int.reduceEq, if_true, if_false, or_false, Int.reducePow, decide_eq_true_eq] at *
  rw [h1, h2, h3, h4]
  have e : n / 1048576 % 2 * 1048576 + n / 4096 % 256 * 4096 + n / 2048 % 2 * 2048 + n / 2 % 1024 * 2 = n % 2097152 := by
    clear h1 h2 h3 h4
    have a1 : n % 2097152 = n % 1048576 + n / 1048576 % 2 * 1048576 := by omega
    have a2 : n % 1048576 = n % 4096 + n / 4096 % 256 * 4096 := by omega
    have a3 : n % 4096 = n % 2048 + n / 2048 % 2 * 2048 := by omega
    have a4 : n % 2048 = n / 2 % 1024 * 2 := by omega
    omega
  rw [e]
  rcases sgn_ok (n := n % 2097152) (b := 21) 2097152 1048576 rfl rfl with ⟨e, h⟩ | ⟨e, h⟩ <;> rw [e] <;> omega
end

/-- A number's part of a word. -/
theorem spread_lt (f n : Int) (hf : f = 73 ∨ f = 72 ∨ f = 87 ∨ f = 83 ∨ f = 66 ∨ f = 85 ∨ f = 74 ∨ f = 82 ∨ f = 69) :
    ∃ a b c d : Int, 0 ≤ a ∧ a < 32 ∧ 0 ≤ b ∧ b < 256 ∧ 0 ≤ c ∧ c < 32 ∧ 0 ≤ d ∧ d < 128 ∧ spread f n = a * 128 + b * 4096 + c * 1048576 + d * 33554432 ∧
      (f = 73 ∨ f = 72 ∨ f = 87 → a = 0 ∧ b = 0 ∧ d * 32 + c = n % 4096) ∧ (f = 83 → b = 0 ∧ c = 0 ∧ a = n % 32 ∧ d = n / 32 % 128) ∧
      (f = 66 → b = 0 ∧ c = 0 ∧ a = n / 2 % 16 * 2 + n / 2048 % 2 ∧ d = n / 4096 % 2 * 64 + n / 32 % 64) ∧ (f = 85 → a = 0 ∧ d * 8192 + c * 256 + b = n / 4096 % 1048576) ∧
      (f = 74 → a = 0 ∧ b = n / 4096 % 256 ∧ d * 32 + c = n / 1048576 % 2 * 2048 + n / 2 % 1024 * 2 + n / 2048 % 2) ∧ (f = 82 ∨ f = 69 → a = 0 ∧ b = 0 ∧ c = 0 ∧ d = 0) := by
  rcases hf with rfl | rfl | rfl | rfl | rfl | rfl | rfl | rfl | rfl
  · exact ⟨0, 0, n % 32, n / 32 % 128, by omega, by omega, by omega, by omega, by omega, by omega, by omega, by omega, by simp [spread]; omega, by simp; omega, by simp, by simp, by simp, by simp, by simp⟩
  · exact ⟨0, 0, n % 32, n / 32 % 128, by omega, by omega, by omega, by omega, by omega, by omega, by omega, by omega, by simp [spread]; omega, by simp; omega, by simp, by simp, by simp, by simp, by simp⟩
  · exact ⟨0, 0, n % 32, n / 32 % 128, by omega, by omega, by omega, by omega, by omega, by omega, by omega, by omega, by simp [spread]; omega, by simp; omega, by simp, by simp, by simp, by simp, by simp⟩
  · exact ⟨n % 32, 0, 0, n / 32 % 128, by omega, by omega, by omega, by omega, by omega, by omega, by omega, by omega, by simp [spread]; omega, by simp, by simp, by simp, by simp, by simp, by simp⟩
  · exact ⟨n / 2 % 16 * 2 + n / 2048 % 2, 0, 0, n / 4096 % 2 * 64 + n / 32 % 64, by omega, by omega, by omega, by omega, by omega, by omega, by omega, by omega, by simp [spread]; omega, by simp, by simp, by simp, by simp, by simp, by simp⟩
  · exact ⟨0, n / 4096 % 256, n / 1048576 % 32, n / 33554432 % 128, by omega, by omega, by omega, by omega, by omega, by omega, by omega, by omega, by simp [spread]; omega, by simp, by simp, by simp, by simp; omega, by simp, by simp⟩
  · exact ⟨0, n / 4096 % 256, (n / 2 % 16) * 2 + n / 2048 % 2, n / 1048576 % 2 * 64 + n / 32 % 64, by omega, by omega, by omega, by omega, by omega, by omega, by omega, by omega, by simp [spread]; omega, by simp, by simp, by simp, by simp, by simp; omega, by simp⟩
  · exact ⟨0, 0, 0, 0, by omega, by omega, by omega, by omega, by omega, by omega, by omega, by omega, by simp [spread], by simp, by simp, by simp, by simp, by simp, by simp⟩
  · exact ⟨0, 0, 0, 0, by omega, by omega, by omega, by omega, by omega, by omega, by omega, by omega, by simp [spread], by simp, by simp, by simp, by simp, by simp, by simp⟩


theorem digits {w a0 a1 a2 a3 a4 a5 : Int} (h : w = a0 + a1 * 128 + a2 * 4096 + a3 * 32768 + a4 * 1048576 + a5 * 33554432) (h0 : 0 ≤ a0) (g0 : a0 < 128) (h1 : 0 ≤ a1) (g1 : a1 < 32) (h2 : 0 ≤ a2) (g2 : a2 < 8)
    (h3 : 0 ≤ a3) (g3 : a3 < 32) (h4 : 0 ≤ a4) (g4 : a4 < 32) (h5 : 0 ≤ a5) (g5 : a5 < 128) : 0 ≤ w ∧ w < 4294967296 ∧ w % 128 = a0 ∧ w / 128 % 32 = a1 ∧ w / 4096 % 8 = a2 ∧ w / 32768 % 32 = a3 ∧ w / 1048576 % 32 = a4 ∧ w / 33554432 % 128 = a5 ∧
      w / 33554432 = a5 ∧ w / 1048576 = a4 + a5 * 32 ∧ w / 4096 = a2 + a3 * 8 + a4 * 256 + a5 * 8192 := by
  subst h
  refine ⟨by omega, by omega, by omega, by omega, by omega, by omega, by omega, by omega, by omega, by omega, by omega⟩

theorem z1 {p q c : Int} (k : Int) (hk : 0 < k) (h : c = p * k + q) (h1 : 0 ≤ q) (h2 : q < k) : c / k = p ∧ c % k = q := by
  subst h
  have e : p * k + q = q + k * p := by rw [Int.mul_comm]; omega
  rw [e, Int.add_mul_ediv_left _ _ (by omega), Int.add_mul_emod_self_left, Int.ediv_eq_zero_of_lt h1 h2, Int.emod_eq_of_lt h1 h2]
  omega
theorem q1 (w : Int) : w / 2147483648 = w / 33554432 / 64 := by omega
theorem q2 (w : Int) : w / 33554432 % 64 = w / 33554432 % 128 % 64 := by omega
theorem q3 (w : Int) : w / 256 % 16 = w / 128 % 32 / 2 := by omega
theorem q4 (w : Int) : w / 128 % 2 = w / 128 % 32 % 2 := by omega
theorem q5 (w : Int) : w / 2147483648 = w / 1048576 / 2048 := by omega
theorem q6 (w : Int) : w / 2097152 = w / 1048576 / 2 := by omega
theorem q7 (w : Int) : w / 67108864 = w / 33554432 / 2 := by omega

/-- What has a word: the word is told to be it. -/
theorem dec_enc {x : In} {w : Int} (h : enc T x = (w, 0)) (hd : 0 ≤ x.rd) (h1 : 0 ≤ x.rs1) (h2 : 0 ≤ x.rs2) : 0 ≤ w ∧ w < 4294967296 ∧ first w 0 T = some x := by
  unfold enc at h
  split at h
  rotate_left
  · simp at h
  rename_i hop
  have hop2 := hop.2
  rw [T_len] at hop2
  obtain ⟨r, hk⟩ : ∃ r, T[(x.op - 1).toNat]? = some r := ⟨_, List.getElem?_eq_getElem (by rw [T_len]; omega)⟩
  rw [hk] at h
  simp only at h
  split at h
  · simp at h
  rename_i hc
  split at h
  · simp at h
  rename_i hr
  simp only [Prod.mk.injEq, and_true] at h
  have hr : room r.form x.imm = true := by simpa using hr
  have hg0 := T_good r (List.mem_of_getElem? hk)
  have hg := hg0
  simp only [good, Bool.and_eq_true, Bool.or_eq_true, decide_eq_true_eq, or_assoc] at hg
  obtain ⟨⟨c0, c1, a0, a1, b0, b1⟩, hf⟩ := hg
  simp only [ecallN, ebreakN] at hf
  obtain ⟨a, b, c, d, ha0, ha1, hb0, hb1, hc0, hc1, hd0, hd1, hs, s1, s2, s3, s4, s5, s6⟩ := spread_lt r.form x.imm (by rcases hf with hf | hf | hf | hf | hf | hf | hf | hf | hf <;> simp [hf])
  rw [hs] at h
  have key : 0 ≤ w ∧ w < 4294967296 ∧ is w r = true ∧ mk (x.op - 1).toNat r w = x := by
    obtain ⟨xop, xrd, xr1, xr2, imm⟩ := x
    simp only at *
    have hopn : (((xop - 1).toNat : Nat) : Int) + 1 = xop := by omega
    clear hk hop hop2
    have nn : ∀ p : Prop, (¬¬p) = p := fun p => by simp
    try simp only [nn] at hc
    rcases hf with hf | hf | hf | hf | hf | hf | hf | hf | hf
    rotate_left 8
    have hnm : ∃ b : Bool, r.name = cond b [101, 98, 114, 101, 97, 107] [101, 99, 97, 108, 108] := by
      obtain ⟨_, _, _, _, hn | hn⟩ := hf
      · exact ⟨false, hn⟩
      · exact ⟨true, hn⟩
    rotate_left 4
    have hev : ∃ q, r.f7 = 2 * q := ⟨r.f7 / 2, by omega⟩
    rotate_right 3
    all_goals (obtain ⟨hf0, hf⟩ := hf; simp only [hf0, hf, is, mk, hopn, matchOf, hasRd, hasR1, hasR2, fld, In.mk.injEq, if_true, if_false, Int.reduceEq, or_true, false_or, or_false, true_implies, false_implies, ne_eq, not_false_eq_true, true_and, and_true, false_and, and_false, decide_true, decide_false, Bool.true_eq_false, Int.reducePow, Int.ediv_one, decide_eq_true_eq, Bool.false_eq_true, not_or, nn] at *)
    · obtain ⟨rfl, rfl, rfl, rfl⟩ := s6
      obtain ⟨d0, d1, d2, d3, d4, d5, d6, d7, d8, d9, d10⟩ := digits (w := w) (a0 := r.code) (a1 := xrd) (a2 := r.f3) (a3 := xr1) (a4 := xr2) (a5 := r.f7) (by omega) (by omega) (by omega) (by omega) (by omega) (by omega) (by omega) (by omega) (by omega) (by omega) (by omega) (by omega) (by omega)
      refine ⟨d0, d1, ⟨d2, d4, d7⟩, d3, d5, d6, ?_⟩
      rw [hc.2.2.2]; simp [number]
    · obtain ⟨rfl, rfl, s1⟩ := s1
      have hq : 0 ≤ imm ∧ imm ≤ 31 := by simpa [room] using hr
      obtain ⟨d0, d1, d2, d3, d4, d5, d6, d7, d8, d9, d10⟩ := digits (w := w) (a0 := r.code) (a1 := xrd) (a2 := r.f3) (a3 := xr1) (a4 := imm) (a5 := r.f7) (by omega) (by omega) (by omega) (by omega) (by omega) (by omega) (by omega) (by omega) (by omega) (by omega) (by omega) (by omega) (by omega)
      exact ⟨d0, d1, ⟨d2, d4, d7⟩, d3, d5, hc.2.2.2.symm, mW hr d6⟩
    · obtain ⟨rfl, rfl, s1⟩ := s1
      obtain ⟨d0, d1, d2, d3, d4, d5, d6, d7, d8, d9, d10⟩ := digits (w := w) (a0 := r.code) (a1 := xrd) (a2 := r.f3) (a3 := xr1) (a4 := c) (a5 := d) (by omega) (by omega) (by omega) (by omega) (by omega) (by omega) (by omega) (by omega) (by omega) (by omega) (by omega) (by omega) (by omega)
      exact ⟨d0, d1, ⟨d2, d4⟩, d3, d5, hc.2.2.2.symm, mI hr (by omega)⟩
    · obtain ⟨rfl, rfl, s1⟩ := s1
      have hq : 0 ≤ imm ∧ imm ≤ 63 := by simpa [room] using hr
      obtain ⟨q, hev⟩ := hev
      have e1 : c + d * 32 = imm := by omega
      obtain ⟨d0, d1, d2, d3, d4, d5, d6, d7, d8, d9, d10⟩ := digits (w := w) (a0 := r.code) (a1 := xrd) (a2 := r.f3) (a3 := xr1) (a4 := c) (a5 := r.f7 + d) (by omega) (by omega) (by omega) (by omega) (by omega) (by omega) (by omega) (by omega) (by omega) (by omega) (by omega) (by omega) (by omega)
      refine ⟨d0, d1, ⟨d2, d4, ?_⟩, d3, d5, hc.2.2.2.symm, mH hr ?_⟩
      · rw [q7, d8]; clear h d9 d10 d8 d7 d6 d5 d4 d3 d2; omega
      · rw [d9]; clear h d9 d10 d8 d7 d6 d5 d4 d3 d2; omega
    · obtain ⟨rfl, rfl, s1, s2⟩ := s2
      obtain ⟨d0, d1, d2, d3, d4, d5, d6, d7, d8, d9, d10⟩ := digits (w := w) (a0 := r.code) (a1 := a) (a2 := r.f3) (a3 := xr1) (a4 := xr2) (a5 := d) (by omega) (by omega) (by omega) (by omega) (by omega) (by omega) (by omega) (by omega) (by omega) (by omega) (by omega) (by omega) (by omega)
      exact ⟨d0, d1, ⟨d2, d4⟩, hc.2.2.2.symm, d5, d6, mS hr (by omega) (by omega)⟩
    · obtain ⟨rfl, rfl, s1, s2⟩ := s3
      obtain ⟨d0, d1, d2, d3, d4, d5, d6, d7, d8, d9, d10⟩ := digits (w := w) (a0 := r.code) (a1 := a) (a2 := r.f3) (a3 := xr1) (a4 := xr2) (a5 := d) (by omega) (by omega) (by omega) (by omega) (by omega) (by omega) (by omega) (by omega) (by omega) (by omega) (by omega) (by omega) (by omega)
      refine ⟨d0, d1, ⟨d2, d4⟩, hc.2.2.2.symm, d5, d6, mB hr ?_ ?_ ?_ ?_⟩
      · rw [q1, d8, (z1 64 (by omega) s2 (by omega) (by omega)).1]; omega
      · rw [q2, d7]; clear h d9 d10 d8 d7 d6 d5 d4 d3 d2; omega
      · rw [q3, d3]; clear h d9 d10 d8 d7 d6 d5 d4 d3 d2; omega
      · rw [q4, d3]; clear h d9 d10 d8 d7 d6 d5 d4 d3 d2; omega
    · obtain ⟨rfl, s1⟩ := s4
      obtain ⟨d0, d1, d2, d3, d4, d5, d6, d7, d8, d9, d10⟩ := digits (w := w) (a0 := r.code) (a1 := xrd) (a2 := b % 8) (a3 := b / 8) (a4 := c) (a5 := d) (by omega) (by omega) (by omega) (by omega) (by omega) (by omega) (by omega) (by omega) (by omega) (by omega) (by omega) (by omega) (by omega)
      refine ⟨d0, d1, d2, d3, hc.2.2.2.1.symm, hc.2.2.2.2.symm, mU hr ?_⟩
      rw [d10]; omega
    · obtain ⟨rfl, s1, s2⟩ := s5
      obtain ⟨d0, d1, d2, d3, d4, d5, d6, d7, d8, d9, d10⟩ := digits (w := w) (a0 := r.code) (a1 := xrd) (a2 := b % 8) (a3 := b / 8) (a4 := c) (a5 := d) (by omega) (by omega) (by omega) (by omega) (by omega) (by omega) (by omega) (by omega) (by omega) (by omega) (by omega) (by omega) (by omega)
      refine ⟨d0, d1, d2, d3, hc.2.2.2.1.symm, hc.2.2.2.2.symm, mJ hr ?_ ?_ ?_ ?_⟩
      · rw [q5, d9, Int.add_comm, s2, (z1 (p := imm / 1048576 % 2) 2048 (by omega) (Int.add_assoc _ _ _) (by omega) (by omega)).1]; omega
      · rw [q6, d9, Int.add_comm, s2, (z1 (p := imm / 1048576 % 2 * 1024 + imm / 2 % 1024) (q := imm / 2048 % 2) 2 (by omega) (by omega) (by omega) (by omega)).1, (z1 (p := imm / 1048576 % 2) (q := imm / 2 % 1024) 1024 (by omega) rfl (by omega) (by omega)).2]
      · rw [d9]; clear h d9 d10 d8 d7 d6 d5 d4 d3 d2; omega
      · rw [d10]; clear h d9 d10 d8 d7 d6 d5 d4 d3 d2; omega
    · obtain ⟨rfl, rfl, rfl, rfl⟩ := s6
      have hi0 : imm = 0 := by omega
      obtain ⟨b, hn⟩ := hnm
      cases b
      · have hw : w = 115 := by simp [hn] at h; omega
        subst hw
        exact ⟨by omega, by omega, .inl ⟨rfl, hn⟩, by omega, by omega, by omega, by rw [hi0]; simp [number]⟩
      · have hw : w = 1048691 := by simp [hn] at h; omega
        subst hw
        exact ⟨by omega, by omega, .inr ⟨rfl, hn⟩, by omega, by omega, by omega, by rw [hi0]; simp [number]⟩
  refine ⟨key.1, key.2.1, ?_⟩
  rw [first_of key.1 key.2.1 T_good T_apart hk key.2.2.1, Nat.zero_add, key.2.2.2]
end Go.Rv
