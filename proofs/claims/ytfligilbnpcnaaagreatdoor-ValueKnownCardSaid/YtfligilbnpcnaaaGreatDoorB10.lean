/- The law ValueOf: its loops. -/
import Derived.Test.YtfligilbnpcnaaaGreatDoorB9
namespace Go.Proofs.YtfligilbnpcnaaaGreatDoor
open Go Go.Am
set_option maxRecDepth 100000
set_option maxHeartbeats 1000000
variable {P : Program} {G : Nat → Option V}

/-- The numbers from the last one down. -/
def revI (n i : Nat) : List Int := (List.range i).map fun j : Nat => (n : Int) - 1 - (j : Int)
theorem revI_len {n i : Nat} : (revI n i).length = i := by simp [revI]
theorem revI_snoc {n i : Nat} : nints (revI n i) ++ [V.int .i64 ((n : Int) - 1 - (i : Int))] = nints (revI n (i + 1)) := by simp [revI, List.range_succ, nints]
theorem revI_in {L : List Nd} : inL L (revI L.length L.length) := by
  intro x hx
  obtain ⟨j, hj, rfl⟩ := List.mem_map.1 hx
  simp at hj
  omega
abbrev voJ (fmt : Int → List UInt8) (v0 v1 v2 v3 v4 : Nat) (L : List Nd) (S : List Int) (tS : Bool) (C' : List Cl) (tC : Bool) (W : List Int) : Nat → Fr → H → Prop := fun i fr σ => ∃ t' r, fget fr 7 = .ref (.agg [.lst 1 (nints S) tS, .lst 4 (C'.map Cl.v) tC]) 0 ∧ fget fr 13 = .ptr 1 v0 0 ∧ fget fr 17 = .lst 1 (nints W) false ∧ fget fr 18 = .sl 5 r 0 1 i none ∧ fget fr 19 = .int .i64 ((i : Nat) : Int) ∧ σ = ⟨t', kG fmt v0 v1 v2 v3 v4 L ++ [some (.arr r 44 (nints (revI L.length i)))]⟩
abbrev voE (fmt : Int → List UInt8) (v0 v1 v2 v3 v4 : Nat) (L : List Nd) (S : List Int) (tS : Bool) (C' : List Cl) (tC : Bool) (W : List Int) : AE → Fr → H → Prop := fun e fr σ => e = .ex 0 ∧ ∃ i, i = L.length ∧ voJ fmt v0 v1 v2 v3 v4 L S tS C' tC W i fr σ
theorem vo_round (hT : TabOk P tab) (SO : SortOk P) {fmt : Int → List UInt8} {v0 v1 v2 v3 v4 i : Nat} {L : List Nd} (hL : L.length ≤ 1000) (hok : okN L) {S : List Int} {tS tC : Bool} {C' : List Cl} (hS : ∀ x ∈ S, i64 x) (hC : C'.length ≤ 1000) (hCn : ∀ c ∈ C', i64 c.n) {W : List Int} (hW : W = vals S C' L) {x : Int} (hx : W[i]? = some x) {fr : Fr} {σ : H} (hJ : voJ fmt v0 v1 v2 v3 v4 L S tS C' tC W i fr σ) :
    Am.W P G 167 0 (AC.seq (AC.seq (AC.reg zq0_11 [70, 71, 72])   (AC.cond (Arg.t 73)   AC.skip   (AC.exit 0)))   (AC.seq (AC.block 1 (AC.seq (AC.reg zq0_12 [77, 78, 79, 80, 76, 81, 82])   (AC.seq (AC.seq (AC.reg zq0_13 [83, 84, 85, 86, 87, 88, 89, 90, 91])   (AC.cond (Arg.t 92)   (AC.seq (AC.reg zq0_14 [])   AC.ret)   AC.skip))   (AC.reg zq0_15 [93, 94, 95, 96, 97, 98, 99, 100]))))   (AC.reg zq0_16 [74, 75]))) fr σ (seqQ (fun fr σ => ∃ fr' σ', Shift G 167 0 fr σ fr' σ' ∧ voJ fmt v0 v1 v2 v3 v4 L S tS C' tC W (i + 1) fr' σ') (voE fmt v0 v1 v2 v3 v4 L S tS C' tC W)) := by
  obtain ⟨t', r, f7, f13, f17, f18, f19, rfl⟩ := hJ
  have hlt := (List.getElem?_eq_some_iff.1 hx).1
  have hWl : W.length = L.length := by rw [hW, vals_len]
  have hltL : i < L.length := by omega
  have hg := nints_get hx
  have e2 := w_nx hlt (by omega)
  have hvx : val S C' L (i : Int) = x := by
    rw [val, ← hW, Int.toNat_natCast, List.getD_eq_getElem?_getD, hx]; rfl
  have hO1 := fun t ex => k_Of (P := P) (G := G) hT SO (base := 0) (fmt := fmt) (v0 := v0) (v1 := v1) (v2 := v2) (v3 := v3) (v4 := v4) (t := t) (L := L) (ex := ex) (by omega) hok S hS tS C' (by omega) hCn tC (i : Int)
  have e1 : ofV S C' L (i : Int) = .tup [.int .i64 x, .bool true] := by rw [ofV, if_pos ⟨by omega, by omega⟩, hvx]
  simp only [e1] at hO1
  have hrl := revI_len (n := L.length) (i := i)
  have hs := revI_snoc (n := L.length) (i := i)
  have w1 : IntKind.i64.wrap ((L.length : Int) - 1) = (L.length : Int) - 1 := by rw [IntKind.wrap_i64]; omega
  have w2 : IntKind.i64.wrap ((L.length : Int) - 1 - (i : Int)) = (L.length : Int) - 1 - (i : Int) := by rw [IntKind.wrap_i64]; omega
  refine W_round [(7, .ref (.agg [.lst 1 (nints S) tS, .lst 4 (C'.map Cl.v) tC]) 0), (13, .ptr 1 v0 0), (17, .lst 1 (nints W) false), (18, .sl 5 r 0 1 i none), (19, .int .i64 ((i : Nat) : Int))] ⟨f7, f13, f17, f18, f19, trivial⟩  1000 ?_
  simp -implicitDefEqProofs (disch := omega) only [go_sem, ↓reduceIte, reduceCtorEq, Nat.reduceAdd, Nat.reduceEqDiff, Nat.zero_add, decide_true, Nat.le_refl, zq0_11, zq0_12, zq0_13, zq0_14, zq0_15, zq0_16, nints_length, List.length_cons, List.length_nil, false_implies, and_true, hlt]
  refine call hT t_value_Of (hO1 _ _) 1000 fun u σ hu => ?_
  obtain ⟨rfl, t1, ht1, rfl⟩ := hu
  simp -implicitDefEqProofs (disch := omega) only [go_sem, need_of, ↓reduceIte, reduceCtorEq, Nat.reduceAdd, Nat.reduceEqDiff, Nat.reduceLeDiff, Nat.reduceLT, Nat.zero_add, Nat.mul_one, Bool.not_true, Nat.le_refl, Nat.zero_le, bne_self_eq_false, kG_5, kGs_5, nints_length, List.length_cons, List.length_nil, true_implies, true_and, and_true, List.cons_append, List.nil_append, hg, bne_self_eq_false, hWl, hltL, w1, w2, hrl, e2, hs]
  refine ⟨_, _, Shift.refl _ _ _ _, t1 + 1, t1, ?_⟩
  simp -implicitDefEqProofs (disch := omega) only [go_sem, ↓reduceIte, Nat.reduceEqDiff]
theorem vo2 {σ : H} {v0 r n i : Nat} {S W R : List Int} {tS tC : Bool} {C' : List Cl} (hl : R.length = W.length) (hWl : W.length ≤ 1000) (hrw : ∀ (i : Nat) (x : Int), R[i]? = some x → W[W.length - 1 - i]? = some x) {Q : AE → Fr → H → Prop} {fr : Fr} (hi0 : i = 0) (hJ0 : fget fr 7 = .ref (.agg [.lst 1 (nints S) tS, .lst 4 (C'.map Cl.v) tC]) 0 ∧ fget fr 13 = .ptr 1 v0 0 ∧ fget fr 17 = .lst 1 (nints W) false ∧ fget fr 18 = .sl 5 r 0 1 n none ∧ fget fr 22 = .lst 1 (nints R) false ∧ fget fr 24 = .int .i64 ((i : Nat) : Int))
    (hQ : ∀ fr i, fget fr 7 = .ref (.agg [.lst 1 (nints S) tS, .lst 4 (C'.map Cl.v) tC]) 0 ∧ fget fr 13 = .ptr 1 v0 0 ∧ fget fr 17 = .lst 1 (nints W) false ∧ fget fr 18 = .sl 5 r 0 1 n none ∧ fget fr 22 = .lst 1 (nints R) false ∧ fget fr 24 = .int .i64 ((i : Nat) : Int) → Q (.ex 2) fr σ) :
    Am.W P G 167 0 (.loop (AC.seq (AC.seq (AC.reg zq0_21 [117, 118, 119])   (AC.cond (Arg.t 120)   AC.skip   (AC.exit 2)))   (AC.seq (AC.block 3 (AC.seq (AC.reg zq0_22 [123, 124, 125, 126, 127, 128, 129, 130, 131, 132, 133, 134])   (AC.cond (Arg.t 135)   (AC.seq (AC.reg zq0_23 [])   AC.ret)   AC.skip)))   (AC.reg zq0_24 [121, 122])))) fr σ Q := by
  subst hi0
  obtain ⟨f7, f13, f17, f18, f22, f24⟩ := hJ0
  refine sem_for (s := []) R (fun i fr σ' => fget fr 7 = .ref (.agg [.lst 1 (nints S) tS, .lst 4 (C'.map Cl.v) tC]) 0 ∧ fget fr 13 = .ptr 1 v0 0 ∧ fget fr 17 = .lst 1 (nints W) false ∧ fget fr 18 = .sl 5 r 0 1 n none ∧ fget fr 22 = .lst 1 (nints R) false ∧ fget fr 24 = .int .i64 ((i : Nat) : Int) ∧ σ' = σ) (fun e fr σ' => e = .ex 2 ∧ (∃ i, fget fr 7 = .ref (.agg [.lst 1 (nints S) tS, .lst 4 (C'.map Cl.v) tC]) 0 ∧ fget fr 13 = .ptr 1 v0 0 ∧ fget fr 17 = .lst 1 (nints W) false ∧ fget fr 18 = .sl 5 r 0 1 n none ∧ fget fr 22 = .lst 1 (nints R) false ∧ fget fr 24 = .int .i64 ((i : Nat) : Int)) ∧ σ' = σ)
    ⟨f7, f13, f17, f18, f22, f24, rfl⟩ (fun i x hx fr σ' hJ => ?_) (fun i hi fr σ' hJ => ?_) (fun e fr σ' hE => ?_)
  · clear f7 f13 f17 f18 f22 f24
    obtain ⟨f7, f13, f17, f18, f22, f24, rfl⟩ := hJ
    have hlt := (List.getElem?_eq_some_iff.1 hx).1
    have hg := nints_get hx
    have e2 := w_nx hlt (by omega)
    have hg2 := nints_get (hrw i x hx)
    have w1 : IntKind.i64.wrap ((W.length : Int) - 1) = (W.length : Int) - 1 := by rw [IntKind.wrap_i64]; omega
    have w2 : IntKind.i64.wrap ((W.length : Int) - 1 - (i : Int)) = ((W.length - 1 - i : Nat) : Int) := by rw [IntKind.wrap_i64]; omega
    have w3 : W.length - 1 - i < W.length := by omega
    refine W_round [(7, .ref (.agg [.lst 1 (nints S) tS, .lst 4 (C'.map Cl.v) tC]) 0), (13, .ptr 1 v0 0), (17, .lst 1 (nints W) false), (18, .sl 5 r 0 1 n none), (22, .lst 1 (nints R) false), (24, .int .i64 ((i : Nat) : Int))] ⟨f7, f13, f17, f18, f22, f24, trivial⟩  1000 ?_
    simp -implicitDefEqProofs (disch := omega) only [go_sem, need_of, ↓reduceIte, Nat.reduceEqDiff, Nat.zero_add, decide_true, Nat.le_refl, bne_self_eq_false, zq0_21, zq0_22, zq0_23, zq0_24, nints_length, List.length_cons, List.length_nil, true_implies, and_true, hlt, hg, w1, w2, w3, hg2, bne_self_eq_false, e2]
    refine ⟨_, _, Shift.refl _ _ _ _, ?_⟩
    simp -implicitDefEqProofs (disch := omega) only [go_sem, ↓reduceIte, Nat.reduceEqDiff]
  · obtain ⟨f7, f13, f17, f18, f22, f24, rfl⟩ := hJ
    refine W_round [(7, .ref (.agg [.lst 1 (nints S) tS, .lst 4 (C'.map Cl.v) tC]) 0), (13, .ptr 1 v0 0), (17, .lst 1 (nints W) false), (18, .sl 5 r 0 1 n none), (22, .lst 1 (nints R) false), (24, .int .i64 ((i : Nat) : Int))] ⟨f7, f13, f17, f18, f22, f24, trivial⟩  1000 ?_
    simp -implicitDefEqProofs (disch := omega) only [go_sem, ↓reduceIte, Nat.reduceEqDiff, decide_false, zq0_21, zq0_22, zq0_23, zq0_24, nints_length, true_and, and_true, hi, Nat.lt_irrefl]
    exact ⟨_, rfl⟩
  · obtain ⟨rfl, ⟨i, f7, f13, f17, f18, f22, f24⟩, rfl⟩ := hE
    exact hQ fr i ⟨f7, f13, f17, f18, f22, f24⟩
end Go.Proofs.YtfligilbnpcnaaaGreatDoor

