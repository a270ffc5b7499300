/- A number put into a word: what comes of it; the contract. -/
import Derived.Test.YtkhdfbokkneeaaaDoorRvS2
import Derived.Test.YtkhdfbokkneeaaaDoorRw4
import Derived.Test.YtkhdfbokkneeaaaDoorTabEq
namespace Go.Proofs.YtkhdfbokkneeaaaDoor
open Go Go.Am Go.Rv
set_option maxRecDepth 100000

theorem stepA_eq (p : Int) (y : Nat × (Nat × Nat)) (h : y.2.2 ≤ 30) : stepA p y = p % 2 ^ y.2.2 := by
  have e1 : min y.2.2 64 = y.2.2 := by omega
  obtain ⟨g1, g2⟩ := pow_lt y.2.2 30 h
  have e2 : IntKind.i64.wrap (2 ^ y.2.2) = 2 ^ y.2.2 := wrap_i64 (by omega) (by omega)
  have e3 : IntKind.i64.wrap ((2 : Int) ^ y.2.2 - 1) = 2 ^ y.2.2 - 1 := wrap_i64 (by omega) (by omega)
  unfold stepA stepM
  rw [e1, e2, e3]
  exact and_low .i64 y.2.2 _ _ rfl (by simp [IntKind.bits]; omega)
theorem wrap_u32 {x : Int} (h1 : 0 ≤ x) (h2 : x < 4294967296) : IntKind.u32.wrap x = x := wrap_id _ (by simpa [IntKind.min, IntKind.signed] using h1) (by simp [IntKind.max, IntKind.signed, IntKind.bits]; omega)
/-- A round, where no bit is put twice. -/
theorem stepB_eq (p n : Int) (i a m : Nat) (hm : m ≤ 30) (ham : a + m ≤ 32) (h0 : 0 ≤ p) (hp : p + n % 2 ^ m * 2 ^ a < 4294967296) (hd : p % 2 ^ (a + m) = 0 ∨ p < 2 ^ a) : stepB (p, n) (i, (a, m)) = (p + n % 2 ^ m * 2 ^ a, n / 2 ^ m) := by
  have e1 : min m 64 = m := by omega
  have e2 : min a 32 = a := by omega
  obtain ⟨g1, g2⟩ := pow_lt m 30 hm
  obtain ⟨q1, q2⟩ := pow_lt (a + m) 32 ham
  obtain ⟨r1, _⟩ := pow_lt a 32 (by omega)
  have s1 := Int.emod_nonneg n (show (2 : Int) ^ m ≠ 0 by omega)
  have s2 := Int.emod_lt_of_pos n (show (0 : Int) < 2 ^ m by omega)
  have h1 := Int.mul_nonneg s1 (show (0 : Int) ≤ 2 ^ a by omega)
  have h2 := Int.mul_le_mul_of_nonneg_right (show n % 2 ^ m + 1 ≤ 2 ^ m by omega) (show (0 : Int) ≤ 2 ^ a by omega)
  rw [Int.add_mul, Int.mul_comm (2 ^ m) (2 ^ a), ← Int.pow_add] at h2
  unfold stepB
  simp only [e1, e2, stepA_eq _ (i, (a, m)) hm]
  rw [wrap_u32 s1 (by omega), wrap_u32 h1 (by omega)]
  congr 1
  rcases hd with hd | hd
  · exact or_add .u32 (a + m) _ _ h0 h1 (by omega) hd (by simp [IntKind.max, IntKind.signed, IntKind.bits]; omega)
  · exact or_add' .u32 a _ _ h0 h1 hd (Int.mul_emod_left _ _) (by simp [IntKind.max, IntKind.signed, IntKind.bits]; omega)

theorem sp_eq {f : Int} (x : Int) (h : f = 82 ∨ f = 87 ∨ f = 73 ∨ f = 72 ∨ f = 83 ∨ f = 66 ∨ f = 85 ∨ f = 74 ∨ f = 69) :
    (spB x (upto (fun j => ((bitsOf f).length - 1 - j, (bitsOf f).getD ((bitsOf f).length - 1 - j) (0, 0))) (bitsOf f).length)).1 = (sprP (bitsOf f) x).1 := by
  rcases h with rfl | rfl | rfl | rfl | rfl | rfl | rfl | rfl | rfl
  · rfl
  · simp only [bitsOf, Int.reduceEq, if_true, if_false, List.length_cons, List.length_nil, upto, List.range_succ, List.range_zero, List.nil_append, List.map_cons, List.map_nil, spB, List.foldl_cons, List.foldl_nil, sprP, List.foldr_cons, List.foldr_nil, Nat.reduceAdd, Nat.reduceSub, List.getD_cons_zero]
    rw [stepB_eq _ _ _ _ _ (by omega) (by omega) (by omega) (by omega) (by omega)]
  · simp only [bitsOf, Int.reduceEq, if_true, if_false, List.length_cons, List.length_nil, upto, List.range_succ, List.range_zero, List.nil_append, List.map_cons, List.map_nil, spB, List.foldl_cons, List.foldl_nil, sprP, List.foldr_cons, List.foldr_nil, Nat.reduceAdd, Nat.reduceSub, List.getD_cons_zero]
    rw [stepB_eq _ _ _ _ _ (by omega) (by omega) (by omega) (by omega) (by omega)]
  · simp only [bitsOf, Int.reduceEq, if_true, if_false, List.length_cons, List.length_nil, upto, List.range_succ, List.range_zero, List.nil_append, List.map_cons, List.map_nil, spB, List.foldl_cons, List.foldl_nil, sprP, List.foldr_cons, List.foldr_nil, Nat.reduceAdd, Nat.reduceSub, List.getD_cons_zero]
    rw [stepB_eq _ _ _ _ _ (by omega) (by omega) (by omega) (by omega) (by omega)]
  · simp only [bitsOf, Int.reduceEq, if_true, if_false, List.length_cons, List.length_nil, upto, List.range_succ, List.range_zero, List.nil_append, List.cons_append, List.map_cons, List.map_nil, spB, List.foldl_cons, List.foldl_nil, sprP, List.foldr_cons, List.foldr_nil, Nat.reduceAdd, Nat.reduceSub, List.getD_cons_zero, List.getD_cons_succ]
    rw [stepB_eq _ _ 1 7 5 (by omega) (by omega) (by omega) (by omega) (by omega), stepB_eq _ _ 0 25 7 (by omega) (by omega) (by omega) (by omega) (by omega)]
  · simp only [bitsOf, Int.reduceEq, if_true, if_false, List.length_cons, List.length_nil, upto, List.range_succ, List.range_zero, List.nil_append, List.cons_append, List.map_cons, List.map_nil, spB, List.foldl_cons, List.foldl_nil, sprP, List.foldr_cons, List.foldr_nil, Nat.reduceAdd, Nat.reduceSub, List.getD_cons_zero, List.getD_cons_succ]
    rw [stepB_eq _ _ 3 8 4 (by omega) (by omega) (by omega) (by omega) (by omega), stepB_eq _ _ 2 25 6 (by omega) (by omega) (by omega) (by omega) (by omega), stepB_eq _ _ 1 7 1 (by omega) (by omega) (by omega) (by omega) (by omega), stepB_eq _ _ 0 31 1 (by omega) (by omega) (by omega) (by omega) (by omega)]
  · simp only [bitsOf, Int.reduceEq, if_true, if_false, List.length_cons, List.length_nil, upto, List.range_succ, List.range_zero, List.nil_append, List.map_cons, List.map_nil, spB, List.foldl_cons, List.foldl_nil, sprP, List.foldr_cons, List.foldr_nil, Nat.reduceAdd, Nat.reduceSub, List.getD_cons_zero]
    rw [stepB_eq _ _ _ _ _ (by omega) (by omega) (by omega) (by omega) (by omega)]
  · simp only [bitsOf, Int.reduceEq, if_true, if_false, List.length_cons, List.length_nil, upto, List.range_succ, List.range_zero, List.nil_append, List.cons_append, List.map_cons, List.map_nil, spB, List.foldl_cons, List.foldl_nil, sprP, List.foldr_cons, List.foldr_nil, Nat.reduceAdd, Nat.reduceSub, List.getD_cons_zero, List.getD_cons_succ]
    rw [stepB_eq _ _ 3 21 10 (by omega) (by omega) (by omega) (by omega) (by omega), stepB_eq _ _ 2 20 1 (by omega) (by omega) (by omega) (by omega) (by omega), stepB_eq _ _ 1 12 8 (by omega) (by omega) (by omega) (by omega) (by omega), stepB_eq _ _ 0 31 1 (by omega) (by omega) (by omega) (by omega) (by omega)]
  · rfl

theorem vr_int {I : Imm} {ρ : Names} {k : IntKind} {n : Int} {x : Value} (h : VR I ρ (.int k n) x) : x = .int k n := by cases h; rfl
theorem vr_pr {I : Imm} {a b : Nat} {j : Nat} {g : Nat → Value} (h : ∀ (i : Nat) (c : V), (pr a b).cells[i]? = some c → VR I noNames c (g i)) : g 0 = .int .i64 (a : Int) ∧ g 1 = .int .i64 (b : Int) :=
  ⟨vr_int (h 0 (.int .i64 a) rfl), vr_int (h 1 (.int .i64 b) rfl)⟩

theorem bitsAt_of {I : Imm} {w : World} {l : List (Nat × Nat)} {x : Value} (hI : ∀ b o x, I b o = some x → w.cell? ⟨b, o, none⟩ = some x) (h : VR I noNames (bitsV l) x) :
    ∃ a cap, x = .slice a l.length cap ∧ BitsAt w.heap.size w x l.length (fun j => l.getD j (0, 0)) := by
  cases l with
  | nil =>
    cases h with
    | lst _ _ _ _ _ _ _ _ h0 => exact absurd rfl h0
    | lstN _ _ _ a cap h0 => exact ⟨a, cap, rfl, .inl ⟨a, cap, rfl, rfl⟩⟩
  | cons p l =>
    generalize hv : bitsV (p :: l) = v at h
    have e : v = .lst 2 ((p :: l).map fun b => pr b.1 b.2) true := hv.symm
    rw [e] at h
    cases h with
    | lst _ _ _ _ b o cap g h0 h1 h2 h3 h4 h5 =>
      have hlen : ((p :: l).map fun b => pr b.1 b.2).length = (p :: l).length := by simp
      have key : ∀ j, j < (p :: l).length → I b (o + j * 2) = some (.int .i64 (((p :: l).getD j (0, 0)).1 : Int)) ∧ I b (o + j * 2 + 1) = some (.int .i64 (((p :: l).getD j (0, 0)).2 : Int)) := by
        intro j hj
        obtain ⟨q, hq⟩ : ∃ q, (p :: l)[j]? = some q := ⟨_, List.getElem?_eq_getElem hj⟩
        have hm : ((p :: l).map fun b => pr b.1 b.2)[j]? = some (pr q.1 q.2) := by rw [List.getElem?_map, hq]; rfl
        have hgd : (p :: l).getD j (0, 0) = q := by rw [List.getD_eq_getElem?_getD, hq]; rfl
        obtain ⟨e1, e2⟩ := vr_pr (j := j) (h5 j _ hm)
        rw [hgd]
        have a0 := h4 j _ hm 0 (.int .i64 q.1) rfl
        have a1 := h4 j _ hm 1 (.int .i64 q.2) rfl
        rw [e1] at a0
        rw [e2] at a1
        exact ⟨a0, a1⟩
      rw [hlen]
      refine ⟨_, cap, rfl, .inr ⟨b, o, cap, rfl, ?_, fun j hj => ⟨hI _ _ _ (key j hj).1, hI _ _ _ (key j hj).2⟩⟩⟩
      exact block_lt_of_cell (hI _ _ _ (key 0 (by simp)).1)

theorem c_spread {G : Nat → Option V} {f : Int} (n : Int) (h : f = 82 ∨ f = 87 ∨ f = 73 ∨ f = 72 ∨ f = 83 ∨ f = 66 ∨ f = 85 ∨ f = 74 ∨ f = 69) :
    Pure Tryd.prog G n_rv_form_spread [.agg (formC f), .int .i64 n] fun v => v = .int .u32 (spreadP f n) := by
  refine pure_of_calls (fun I w xs _ hI hc => ?_) (by rcases h with rfl | rfl | rfl | rfl | rfl | rfl | rfl | rfl | rfl <;> rfl)
  obtain ⟨hs, hv⟩ := hc
  obtain ⟨x0, x1, rfl⟩ : ∃ x0 x1, xs = #[x0, x1] := by
    obtain ⟨l⟩ := xs
    simp at hs
    match l, hs with
    | [a, b], _ => exact ⟨a, b, rfl⟩
  have h0 := hv 0 _ x0 rfl rfl
  have h1 := vr_int (hv 1 _ x1 rfl rfl)
  subst h1
  cases h0 with
  | agg _ _ cs hl hcs =>
    obtain ⟨v0, v1, v2, v3, v4, v5, v6, rfl⟩ : ∃ v0 v1 v2 v3 v4 v5 v6, cs = #[v0, v1, v2, v3, v4, v5, v6] := by
      obtain ⟨l⟩ := cs
      simp [formC] at hl
      match l, hl with
      | [a, b, c, d, e, f, g], _ => exact ⟨a, b, c, d, e, f, g, rfl⟩
    have g3 := hcs 3 _ v3 rfl rfl
    have g4 := vr_int (hcs 4 _ v4 rfl rfl)
    have g6 := vr_int (hcs 6 _ v6 rfl rfl)
    subst g4 g6
    obtain ⟨a, cap, rfl, hb⟩ := bitsAt_of hI g3
    have hz : nghts f ≤ 30 := by rcases h with rfl | rfl | rfl | rfl | rfl | rfl | rfl | rfl | rfl <;> decide
    have hlen : (bitsOf f).length ≤ 1000 := by rcases h with rfl | rfl | rfl | rfl | rfl | rfl | rfl | rfl | rfl <;> decide
    have := (callsIn_wide (n := 3)).1 (spread_in 3 (by omega) v0 v1 v2 v5 a (bitsOf f).length cap (nghts f) (maskOf f) n hz (fun j => (bitsOf f).getD j (0, 0)) hlen w hb)
    refine this.mono fun e w' ⟨he, hw⟩ => ?_
    rw [sp_eq _ h] at he
    exact ⟨_, _, he, .int _ _ _, rfl, rfl, ⟨hw.os, hw.tape, hw.output, hw.size, hw.block⟩⟩
end Go.Proofs.YtkhdfbokkneeaaaDoor
