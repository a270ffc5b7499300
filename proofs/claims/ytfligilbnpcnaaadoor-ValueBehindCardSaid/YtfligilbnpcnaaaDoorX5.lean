/- The law ValueBehind: its other loops. -/
import Derived.Test.YtfligilbnpcnaaaDoorX4
namespace Go.Proofs.YtfligilbnpcnaaaDoor
open Go Go.Am
set_option maxRecDepth 100000
set_option maxHeartbeats 1000000
variable {P : Program} {G : Nat → Option V}

/-- Does one of these stand behind? -/
def farS (n : Nat) (l : List Int) : Bool := l.any fun k => decide ((n : Int) ≤ k)
theorem farS_snoc {n : Nat} {l : List Int} {i : Nat} {k : Int} (h : l[i]? = some k) : farS n (l.take (i + 1)) = (farS n (l.take i) || decide ((n : Int) ≤ k)) := by rw [take_snoc2 h, farS, List.any_append]; simp [farS]
theorem farS_false {n : Nat} {l : List Int} (h : farS n l = false) : ∀ k ∈ l, k < (n : Int) := by
  intro k hk
  rw [farS, List.any_eq_false] at h
  have := h k hk
  simp at this
  omega
theorem vb2 (hT : TabOk P tab) {σ : H} {v0 i : Nat} {S S2 ss : List Int} {tS tC : Bool} {C' C2 : List Cl} (hss : ss.length ≤ 1000000) {Q : AE → Fr → H → Prop} {fr : Fr} {k : Nat} {b : Bool} (hk0 : k = 0) (hb0 : b = false) (hJ0 : fget fr 4 = .ref (.agg [.lst 1 (nints S) tS, .lst 4 (C'.map Cl.v) tC]) 0 ∧ fget fr 7 = .ptr 1 v0 0 ∧ fget fr 9 = .ref (.agg [.lst 1 (nints S2) false, .lst 4 (C2.map Cl.v) false]) 0 ∧ fget fr 12 = .int .i64 ((i : Nat) : Int) ∧ fget fr 13 = .int .i64 ((i : Nat) : Int) ∧ fget fr 14 = .lst 1 (nints ss) false ∧ fget fr 16 = .bool b ∧ fget fr 17 = .int .i64 ((k : Nat) : Int))
    (hQ : ∀ fr k b, b = farS S.length ss → fget fr 4 = .ref (.agg [.lst 1 (nints S) tS, .lst 4 (C'.map Cl.v) tC]) 0 ∧ fget fr 7 = .ptr 1 v0 0 ∧ fget fr 9 = .ref (.agg [.lst 1 (nints S2) false, .lst 4 (C2.map Cl.v) false]) 0 ∧ fget fr 12 = .int .i64 ((i : Nat) : Int) ∧ fget fr 13 = .int .i64 ((i : Nat) : Int) ∧ fget fr 14 = .lst 1 (nints ss) false ∧ fget fr 16 = .bool b ∧ fget fr 17 = .int .i64 ((k : Nat) : Int) → Q (.ex 4) fr σ) :
    W P G 151 0 (.loop (AC.seq (AC.seq (AC.reg proofmarklaw03_ValueBehind_r20 [95, 96, 97])   (AC.cond (Arg.t 98)   AC.skip   (AC.exit 4)))   (AC.seq (AC.block 5 (AC.seq (AC.reg proofmarklaw03_ValueBehind_r21 [101, 102, 103, 104, 105, 106, 107, 108, 109, 110, 111])   (AC.seq (AC.reg proofmarklaw03_ValueBehind_r22 [112, 113, 114, 115, 116, 117, 118, 119, 120, 121, 122, 123, 124, 125, 126, 127])   (AC.cond (Arg.t 128)   (AC.seq (AC.reg proofmarklaw03_ValueBehind_r23 [])   AC.ret)   AC.skip))))   (AC.reg proofmarklaw03_ValueBehind_r24 [99, 100])))) fr σ Q := by
  subst hk0 hb0
  obtain ⟨f4, f7, f9, f12, f13, f14, f16, f17⟩ := hJ0
  refine sem_for (s := []) ss (fun k fr σ' => ∃ b, b = farS S.length (ss.take k) ∧ fget fr 4 = .ref (.agg [.lst 1 (nints S) tS, .lst 4 (C'.map Cl.v) tC]) 0 ∧ fget fr 7 = .ptr 1 v0 0 ∧ fget fr 9 = .ref (.agg [.lst 1 (nints S2) false, .lst 4 (C2.map Cl.v) false]) 0 ∧ fget fr 12 = .int .i64 ((i : Nat) : Int) ∧ fget fr 13 = .int .i64 ((i : Nat) : Int) ∧ fget fr 14 = .lst 1 (nints ss) false ∧ fget fr 16 = .bool b ∧ fget fr 17 = .int .i64 ((k : Nat) : Int) ∧ σ' = σ) (fun e fr σ' => e = .ex 4 ∧ (∃ k b, b = farS S.length ss ∧ fget fr 4 = .ref (.agg [.lst 1 (nints S) tS, .lst 4 (C'.map Cl.v) tC]) 0 ∧ fget fr 7 = .ptr 1 v0 0 ∧ fget fr 9 = .ref (.agg [.lst 1 (nints S2) false, .lst 4 (C2.map Cl.v) false]) 0 ∧ fget fr 12 = .int .i64 ((i : Nat) : Int) ∧ fget fr 13 = .int .i64 ((i : Nat) : Int) ∧ fget fr 14 = .lst 1 (nints ss) false ∧ fget fr 16 = .bool b ∧ fget fr 17 = .int .i64 ((k : Nat) : Int)) ∧ σ' = σ)
    ⟨false, rfl, f4, f7, f9, f12, f13, f14, f16, f17, rfl⟩ (fun k x hx fr σ' hJ => ?_) (fun k hk fr σ' hJ => ?_) (fun e fr σ' hE => ?_)
  · clear f4 f7 f9 f12 f13 f14 f16 f17
    obtain ⟨b, hb, f4, f7, f9, f12, f13, f14, f16, f17, rfl⟩ := hJ
    have hlt := (List.getElem?_eq_some_iff.1 hx).1
    have hg := nints_get hx
    have e2 := w_nx hlt (by omega)
    have hs := farS_snoc (n := S.length) hx
    rw [← hb] at hs
    clear hb
    have hsym := c_Sym (P := P) (G := G) hT S2 false 4 C2 false x
    by_cases hf : (S2.length : Int) ≤ x
    · have h0 := symE_far hf
      rw [h0] at hsym
      by_cases hS : (S.length : Int) ≤ x <;> rcases Bool.eq_false_or_eq_true b with hbb | hbb <;> (
        simp only [hbb, hS, decide_true, decide_false, Bool.or_true, Bool.or_false] at hs
        refine W_round [(4, .ref (.agg [.lst 1 (nints S) tS, .lst 4 (C'.map Cl.v) tC]) 0), (7, .ptr 1 v0 0), (9, .ref (.agg [.lst 1 (nints S2) false, .lst 4 (C2.map Cl.v) false]) 0), (12, .int .i64 ((i : Nat) : Int)), (13, .int .i64 ((i : Nat) : Int)), (14, .lst 1 (nints ss) false), (16, .bool b), (17, .int .i64 ((k : Nat) : Int))] ⟨f4, f7, f9, f12, f13, f14, f16, f17, trivial⟩  1000 ?_
        simp -implicitDefEqProofs (disch := omega) only [go_sem, need_of, ↓reduceIte, reduceCtorEq, Nat.reduceAdd, Nat.reduceEqDiff, Nat.reduceLeDiff, Nat.zero_add, Nat.add_zero, decide_true, decide_false, Nat.le_refl, ge_iff_le, proofmarklaw03_ValueBehind_r20, proofmarklaw03_ValueBehind_r21, proofmarklaw03_ValueBehind_r22, proofmarklaw03_ValueBehind_r23, proofmarklaw03_ValueBehind_r24, nints_length, List.length_cons, List.length_nil, false_implies, true_implies, and_true, hlt, hg, hf, hS, hbb]
        refine callPS hT t_value_Env_Sym hsym rfl 1000 ?_
        simp -implicitDefEqProofs (disch := omega) only [go_sem, ↓reduceIte, Nat.reduceAdd, Nat.reduceEqDiff, bne_self_eq_false, bne_self_eq_false, e2]
        refine ⟨_, _, Shift.refl _ _ _ _, _, hs.symm, ?_⟩
        simp -implicitDefEqProofs (disch := omega) only [go_sem, ↓reduceIte, Nat.reduceEqDiff])
    · by_cases hS : (S.length : Int) ≤ x <;> rcases Bool.eq_false_or_eq_true b with hbb | hbb <;> (
        simp only [hbb, hS, decide_true, decide_false, Bool.or_true, Bool.or_false] at hs
        refine W_round [(4, .ref (.agg [.lst 1 (nints S) tS, .lst 4 (C'.map Cl.v) tC]) 0), (7, .ptr 1 v0 0), (9, .ref (.agg [.lst 1 (nints S2) false, .lst 4 (C2.map Cl.v) false]) 0), (12, .int .i64 ((i : Nat) : Int)), (13, .int .i64 ((i : Nat) : Int)), (14, .lst 1 (nints ss) false), (16, .bool b), (17, .int .i64 ((k : Nat) : Int))] ⟨f4, f7, f9, f12, f13, f14, f16, f17, trivial⟩  1000 ?_
        simp -implicitDefEqProofs (disch := omega) only [go_sem, need_of, ↓reduceIte, Nat.reduceAdd, Nat.reduceEqDiff, Nat.reduceLeDiff, Nat.zero_add, Nat.add_zero, decide_true, decide_false, Nat.le_refl, ge_iff_le, proofmarklaw03_ValueBehind_r20, proofmarklaw03_ValueBehind_r21, proofmarklaw03_ValueBehind_r22, proofmarklaw03_ValueBehind_r23, proofmarklaw03_ValueBehind_r24, nints_length, List.length_cons, List.length_nil, true_implies, and_true, hlt, hg, hf, hS, e2, hbb]
        refine ⟨_, _, Shift.refl _ _ _ _, _, hs.symm, ?_⟩
        simp -implicitDefEqProofs (disch := omega) only [go_sem, ↓reduceIte, Nat.reduceEqDiff])
  · obtain ⟨b, hb, f4, f7, f9, f12, f13, f14, f16, f17, rfl⟩ := hJ
    rw [hk, List.take_length] at hb
    refine W_round [(4, .ref (.agg [.lst 1 (nints S) tS, .lst 4 (C'.map Cl.v) tC]) 0), (7, .ptr 1 v0 0), (9, .ref (.agg [.lst 1 (nints S2) false, .lst 4 (C2.map Cl.v) false]) 0), (12, .int .i64 ((i : Nat) : Int)), (13, .int .i64 ((i : Nat) : Int)), (14, .lst 1 (nints ss) false), (16, .bool b), (17, .int .i64 ((k : Nat) : Int))] ⟨f4, f7, f9, f12, f13, f14, f16, f17, trivial⟩  1000 ?_
    simp -implicitDefEqProofs (disch := omega) only [go_sem, ↓reduceIte, Nat.reduceEqDiff, decide_false, proofmarklaw03_ValueBehind_r20, proofmarklaw03_ValueBehind_r21, proofmarklaw03_ValueBehind_r22, proofmarklaw03_ValueBehind_r23, proofmarklaw03_ValueBehind_r24, nints_length, true_and, and_true, hk, Nat.lt_irrefl]
    exact ⟨_, b, hb, rfl, rfl⟩
  · obtain ⟨rfl, ⟨k, b, hb, f4, f7, f9, f12, f13, f14, f16, f17⟩, rfl⟩ := hE
    exact hQ fr k b hb ⟨f4, f7, f9, f12, f13, f14, f16, f17⟩
end Go.Proofs.YtfligilbnpcnaaaDoor

