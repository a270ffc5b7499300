/- The law ValueNeeded: its inner loop. -/
import Derived.Test.YtfligilbnpcnaaaGreatDoorWo15
namespace Go.Proofs.YtfligilbnpcnaaaGreatDoor
open Go Go.Am
set_option maxRecDepth 100000
set_option maxHeartbeats 1000000
variable {P : Program} {G : Nat → Option V}

/-- What the other environment tells of a symbol. -/
def newS (S O ss : List Int) (k : Nat) : Int := if (k : Int) ∉ ss ∧ k < O.length then O.getD k 0 else symE S k
def newL (S O ss : List Int) (n : Nat) : List Int := (List.range n).map (newS S O ss)
theorem newL_snoc {S O ss : List Int} {n : Nat} {x : Int} (h : newS S O ss n = x) : nints (newL S O ss n) ++ [V.int .i64 x] = nints (newL S O ss (n + 1)) := by
  rw [newL, newL, List.range_succ, List.map_append, ← h]; simp [nints]
theorem newL_len {S O ss : List Int} {n : Nat} : (newL S O ss n).length = n := by simp [newL]
theorem vd_in (hT : TabOk P tab) {fmt : Int → List UInt8} {v0 v1 v2 v3 v4 t r0 vf i : Nat} {L : List Nd} {O S ss cs : List Int} {tO tS tC : Bool} {C' : List Cl} (hss : ss.length ≤ 1000000) {Q : AE → Fr → H → Prop} {fr : Fr} {k : Nat} (hk0 : k = 0) (hJ0 : fget fr 2 = .lst 1 (nints O) tO ∧ fget fr 4 = .ref (.agg [.lst 1 (nints S) tS, .lst 4 (C'.map Cl.v) tC]) 0 ∧ fget fr 7 = .ptr 1 v0 0 ∧ fget fr 9 = .int .i64 ((i : Nat) : Int) ∧ fget fr 10 = .int .i64 ((i : Nat) : Int) ∧ fget fr 11 = .lst 1 (nints ss) false ∧ fget fr 12 = .lst 1 (nints cs) false ∧ fget fr 13 = .ptr 5 vf 0 ∧ fget fr 14 = .int .i64 ((k : Nat) : Int))
    (hQ : ∀ fr' t' r, fget fr' 2 = .lst 1 (nints O) tO → fget fr' 4 = .ref (.agg [.lst 1 (nints S) tS, .lst 4 (C'.map Cl.v) tC]) 0 → fget fr' 7 = .ptr 1 v0 0 → fget fr' 9 = .int .i64 ((i : Nat) : Int) → fget fr' 10 = .int .i64 ((i : Nat) : Int) → fget fr' 12 = .lst 1 (nints cs) false → fget fr' 13 = .ptr 5 vf 0 → Q (.ex 2) fr' ⟨t', kG fmt v0 v1 v2 v3 v4 L ++ [some (.arr vf 26 [.sl 6 r 0 1 60 none, .lst 4 (C'.map Cl.v) tC]), some (.arr r 2 (nints (newL S O ss 60)))]⟩) :
    W P G 154 0 (.loop (AC.seq (AC.seq (AC.reg zqf_10 [62])   (AC.cond (Arg.t 63)   AC.skip   (AC.exit 2)))   (AC.seq (AC.block 3 (AC.seq (AC.reg zqf_11 [66, 67, 68])   (AC.seq (AC.seq (AC.reg zqf_12 [69, 70, 71, 72, 73, 74, 75, 76, 77])   (AC.cond (Arg.t 78)   (AC.reg zqf_13 [79, 80, 81, 82])   AC.skip))   (AC.reg zqf_14 [83, 84, 85, 86, 87, 88]))))   (AC.reg zqf_15 [64, 65])))) fr ⟨t, kG fmt v0 v1 v2 v3 v4 L ++ [some (.arr vf 26 [.sl 6 r0 0 1 0 none, .lst 4 (C'.map Cl.v) tC]), some (.arr r0 2 [])]⟩ Q := by
  subst hk0
  obtain ⟨f2, f4, f7, f9, f10, f11, f12, f13, f14⟩ := hJ0
  refine sem_upto (s := []) 60 (fun k fr σ => ∃ t' r, fget fr 2 = .lst 1 (nints O) tO ∧ fget fr 4 = .ref (.agg [.lst 1 (nints S) tS, .lst 4 (C'.map Cl.v) tC]) 0 ∧ fget fr 7 = .ptr 1 v0 0 ∧ fget fr 9 = .int .i64 ((i : Nat) : Int) ∧ fget fr 10 = .int .i64 ((i : Nat) : Int) ∧ fget fr 11 = .lst 1 (nints ss) false ∧ fget fr 12 = .lst 1 (nints cs) false ∧ fget fr 13 = .ptr 5 vf 0 ∧ fget fr 14 = .int .i64 ((k : Nat) : Int) ∧ σ = ⟨t', kG fmt v0 v1 v2 v3 v4 L ++ [some (.arr vf 26 [.sl 6 r 0 1 k none, .lst 4 (C'.map Cl.v) tC]), some (.arr r 2 (nints (newL S O ss k)))]⟩)
    (fun e fr σ => e = .ex 2 ∧ ∃ t' r k, k = 60 ∧ fget fr 2 = .lst 1 (nints O) tO ∧ fget fr 4 = .ref (.agg [.lst 1 (nints S) tS, .lst 4 (C'.map Cl.v) tC]) 0 ∧ fget fr 7 = .ptr 1 v0 0 ∧ fget fr 9 = .int .i64 ((i : Nat) : Int) ∧ fget fr 10 = .int .i64 ((i : Nat) : Int) ∧ fget fr 11 = .lst 1 (nints ss) false ∧ fget fr 12 = .lst 1 (nints cs) false ∧ fget fr 13 = .ptr 5 vf 0 ∧ fget fr 14 = .int .i64 ((k : Nat) : Int) ∧ σ = ⟨t', kG fmt v0 v1 v2 v3 v4 L ++ [some (.arr vf 26 [.sl 6 r 0 1 60 none, .lst 4 (C'.map Cl.v) tC]), some (.arr r 2 (nints (newL S O ss 60)))]⟩)
    ⟨t, r0, f2, f4, f7, f9, f10, f11, f12, f13, f14, rfl⟩ (fun k hk fr σ hJ => ?_) (fun k hk fr σ hJ => ?_) (fun e fr σ hE => ?_)
  · clear f2 f4 f7 f9 f10 f11 f12 f13 f14
    obtain ⟨t', r, f2, f4, f7, f9, f10, f11, f12, f13, f14, rfl⟩ := hJ
    have hki : (k : Int) < 60 := by omega
    have hl := newL_len (S := S) (O := O) (ss := ss) (n := k)
    have e2 : IntKind.i64.wrap ((k : Int) + 1) = (k : Int) + 1 := w_nx hk (by omega)
    have hsym := c_Sym (P := P) (G := G) hT S tS 4 C' tC (k : Int)
    have hhas := c_hasN (P := P) (G := G) hT ss false hss (k : Int)
    by_cases hm : (k : Int) ∈ ss
    · have hx : newS S O ss k = symE S k := by rw [newS, if_neg fun h => h.1 hm]
      have hs := newL_snoc hx
      refine W_round [(2, .lst 1 (nints O) tO), (4, .ref (.agg [.lst 1 (nints S) tS, .lst 4 (C'.map Cl.v) tC]) 0), (7, .ptr 1 v0 0), (9, .int .i64 ((i : Nat) : Int)), (10, .int .i64 ((i : Nat) : Int)), (11, .lst 1 (nints ss) false), (12, .lst 1 (nints cs) false), (13, .ptr 5 vf 0), (14, .int .i64 ((k : Nat) : Int))] ⟨f2, f4, f7, f9, f10, f11, f12, f13, f14, trivial⟩  1000 ?_
      simp -implicitDefEqProofs (disch := omega) only [go_sem, ↓reduceIte, reduceCtorEq, Nat.reduceAdd, Nat.reduceEqDiff, Nat.zero_add, decide_true, Nat.le_refl, zqf_10, zqf_11, zqf_12, zqf_13, zqf_14, zqf_15, List.length_cons, List.length_nil, false_implies, and_true, hki]
      refine callPS hT t_value_Env_Sym hsym rfl 1000 ?_
      simp -implicitDefEqProofs (disch := omega) only [go_sem, ↓reduceIte, Nat.reduceEqDiff]
      refine callPS hT t_proofmarklaw03_has hhas rfl 1000 ?_
      simp -implicitDefEqProofs (disch := omega) only [go_sem, need_of, ↓reduceIte, reduceCtorEq, Nat.reduceAdd, Nat.reduceEqDiff, Nat.reduceLeDiff, Nat.zero_add, Nat.add_zero, Nat.mul_one, decide_true, Bool.not_true, Bool.not_false, Nat.le_refl, Nat.zero_le, kG_5, kGs_5, kG_6, kGs_6, nints_length, List.length_cons, List.length_nil, true_implies, true_and, and_true, List.cons_append, List.nil_append, hm, decide_true, hl, e2]
      refine ⟨_, _, Shift.refl _ _ _ _, t' + 1, t', ?_⟩
      simp -implicitDefEqProofs (disch := omega) only [go_sem, ↓reduceIte, Nat.reduceEqDiff, true_and, and_true, hs]
      rfl
    · by_cases ho : k < O.length
      · have hlt : (k : Int) < (O.length : Int) := by omega
        have hx : newS S O ss k = O.getD k 0 := by rw [newS, if_pos ⟨hm, ho⟩]
        obtain ⟨y, hy⟩ : ∃ y, O[k]? = some y := ⟨_, List.getElem?_eq_getElem ho⟩
        have hg := nints_get hy
        have hy2 : O.getD k 0 = y := by simp [List.getD_eq_getElem?_getD, hy]
        rw [hy2] at hx
        have hs := newL_snoc hx
        refine W_round [(2, .lst 1 (nints O) tO), (4, .ref (.agg [.lst 1 (nints S) tS, .lst 4 (C'.map Cl.v) tC]) 0), (7, .ptr 1 v0 0), (9, .int .i64 ((i : Nat) : Int)), (10, .int .i64 ((i : Nat) : Int)), (11, .lst 1 (nints ss) false), (12, .lst 1 (nints cs) false), (13, .ptr 5 vf 0), (14, .int .i64 ((k : Nat) : Int))] ⟨f2, f4, f7, f9, f10, f11, f12, f13, f14, trivial⟩  1000 ?_
        simp -implicitDefEqProofs (disch := omega) only [go_sem, ↓reduceIte, reduceCtorEq, Nat.reduceAdd, Nat.reduceEqDiff, Nat.zero_add, decide_true, Nat.le_refl, zqf_10, zqf_11, zqf_12, zqf_13, zqf_14, zqf_15, List.length_cons, List.length_nil, false_implies, and_true, hki]
        refine callPS hT t_value_Env_Sym hsym rfl 1000 ?_
        simp -implicitDefEqProofs (disch := omega) only [go_sem, ↓reduceIte, Nat.reduceEqDiff]
        refine callPS hT t_proofmarklaw03_has hhas rfl 1000 ?_
        simp -implicitDefEqProofs (disch := omega) only [go_sem, need_of, ↓reduceIte, reduceCtorEq, Nat.reduceAdd, Nat.reduceEqDiff, Nat.reduceLeDiff, Nat.zero_add, Nat.add_zero, Nat.mul_one, decide_true, decide_false, Bool.not_true, Bool.not_false, Nat.le_refl, Nat.zero_le, kG_5, kGs_5, kG_6, kGs_6, nints_length, List.length_cons, List.length_nil, true_implies, true_and, and_true, List.cons_append, List.nil_append, hm, decide_false, hl, e2, ho, hlt, hg]
        refine ⟨_, _, Shift.refl _ _ _ _, t' + 1, t', ?_⟩
        simp -implicitDefEqProofs (disch := omega) only [go_sem, ↓reduceIte, Nat.reduceEqDiff, true_and, and_true, hs]
        rfl
      · have hlt : ¬ (k : Int) < (O.length : Int) := by omega
        have hx : newS S O ss k = symE S k := by rw [newS, if_neg fun h => ho h.2]
        have hs := newL_snoc hx
        refine W_round [(2, .lst 1 (nints O) tO), (4, .ref (.agg [.lst 1 (nints S) tS, .lst 4 (C'.map Cl.v) tC]) 0), (7, .ptr 1 v0 0), (9, .int .i64 ((i : Nat) : Int)), (10, .int .i64 ((i : Nat) : Int)), (11, .lst 1 (nints ss) false), (12, .lst 1 (nints cs) false), (13, .ptr 5 vf 0), (14, .int .i64 ((k : Nat) : Int))] ⟨f2, f4, f7, f9, f10, f11, f12, f13, f14, trivial⟩  1000 ?_
        simp -implicitDefEqProofs (disch := omega) only [go_sem, ↓reduceIte, reduceCtorEq, Nat.reduceAdd, Nat.reduceEqDiff, Nat.zero_add, decide_true, Nat.le_refl, zqf_10, zqf_11, zqf_12, zqf_13, zqf_14, zqf_15, List.length_cons, List.length_nil, false_implies, and_true, hki]
        refine callPS hT t_value_Env_Sym hsym rfl 1000 ?_
        simp -implicitDefEqProofs (disch := omega) only [go_sem, ↓reduceIte, Nat.reduceEqDiff]
        refine callPS hT t_proofmarklaw03_has hhas rfl 1000 ?_
        simp -implicitDefEqProofs (disch := omega) only [go_sem, need_of, ↓reduceIte, reduceCtorEq, Nat.reduceAdd, Nat.reduceEqDiff, Nat.reduceLeDiff, Nat.zero_add, Nat.add_zero, Nat.mul_one, decide_false, Bool.not_true, Bool.not_false, Nat.le_refl, Nat.zero_le, kG_5, kGs_5, kG_6, kGs_6, nints_length, List.length_cons, List.length_nil, true_implies, true_and, and_true, List.cons_append, List.nil_append, hm, decide_false, hl, e2, hlt]
        refine ⟨_, _, Shift.refl _ _ _ _, t' + 1, t', ?_⟩
        simp -implicitDefEqProofs (disch := omega) only [go_sem, ↓reduceIte, Nat.reduceEqDiff, true_and, and_true, hs]
        rfl
  · obtain ⟨t', r, f2, f4, f7, f9, f10, f11, f12, f13, f14, rfl⟩ := hJ
    have hki : ¬ ((k : Int) < 60) := by omega
    refine W_round [(2, .lst 1 (nints O) tO), (4, .ref (.agg [.lst 1 (nints S) tS, .lst 4 (C'.map Cl.v) tC]) 0), (7, .ptr 1 v0 0), (9, .int .i64 ((i : Nat) : Int)), (10, .int .i64 ((i : Nat) : Int)), (11, .lst 1 (nints ss) false), (12, .lst 1 (nints cs) false), (13, .ptr 5 vf 0), (14, .int .i64 ((k : Nat) : Int))] ⟨f2, f4, f7, f9, f10, f11, f12, f13, f14, trivial⟩  1000 ?_
    simp -implicitDefEqProofs (disch := omega) only [go_sem, ↓reduceIte, Nat.reduceEqDiff, decide_false, zqf_10, zqf_11, zqf_12, zqf_13, zqf_14, zqf_15, true_and, hki]
    exact ⟨t', r, k, hk, rfl, rfl, by rw [hk]⟩
  · obtain ⟨rfl, t', r, k, hk, f2, f4, f7, f9, f10, f11, f12, f13, f14, rfl⟩ := hE
    exact hQ fr t' r f2 f4 f7 f9 f10 f12 f13
end Go.Proofs.YtfligilbnpcnaaaGreatDoor

