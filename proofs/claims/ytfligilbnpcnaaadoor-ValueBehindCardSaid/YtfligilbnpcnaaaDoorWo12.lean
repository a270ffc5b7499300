/- The values of terms: a round of the second loop of the program's All. -/
import Derived.Test.YtfligilbnpcnaaaDoorWo11
namespace Go.Proofs.YtfligilbnpcnaaaDoor
open Go Go.Am
set_option maxRecDepth 100000
set_option maxHeartbeats 1000000
variable {P : Program} {G : Nat → Option V}

abbrev ouJ (fmt : Int → List UInt8) (v0 v1 v2 v3 v4 ve vm vk vo t : Nat) (L : List Nd) (S : List Int) (tS : Bool) (C' : List Cl) (tC : Bool) (K : List (Int × Int)) (ids : List Int) (tr : Bool) : Nat → Fr → H → Prop := fun i fr σ => (∀ x ∈ ids.take i, (kAt K x).isSome = true) ∧ fget fr 8 = .ptr 7 vk 0 ∧ fget fr 14 = .sl 8 vo 0 1 ids.length none ∧ fget fr 44 = .lst 1 (nints ids) tr ∧ fget fr 45 = .int .i64 ids.length ∧ fget fr 46 = .int .i64 ((i : Nat) : Int) ∧ σ = ⟨t, kG fmt v0 v1 v2 v3 v4 L ++ (allH ve vm vk S tS C' tC K ++ [some (.arr vo 2 (outs K ids i ids.length))])⟩
abbrev ouE (fmt : Int → List UInt8) (v0 v1 v2 v3 v4 ve vm vk vo t : Nat) (L : List Nd) (S : List Int) (tS : Bool) (C' : List Cl) (tC : Bool) (K : List (Int × Int)) (ids : List Int) : AE → Fr → H → Prop := fun e fr σ => (e = .ret ∧ (∃ x ∈ ids, kAt K x = none) ∧ fget fr 6 = .lst 0 [] true ∧ fget fr 7 = .bool false ∧ ∃ i, σ = ⟨t, kG fmt v0 v1 v2 v3 v4 L ++ (allH ve vm vk S tS C' tC K ++ [some (.arr vo 2 (outs K ids i ids.length))])⟩) ∨ (e = .ex 2 ∧ (∀ x ∈ ids, (kAt K x).isSome = true) ∧ fget fr 14 = .sl 8 vo 0 1 ids.length none ∧ σ = ⟨t, kG fmt v0 v1 v2 v3 v4 L ++ (allH ve vm vk S tS C' tC K ++ [some (.arr vo 2 (outs K ids ids.length ids.length))])⟩)
theorem out_round {fmt : Int → List UInt8} {v0 v1 v2 v3 v4 ve vm vk vo t i : Nat} {L : List Nd} {S : List Int} {tS tC tr : Bool} {C' : List Cl} {K : List (Int × Int)} {ids : List Int} (hl : ids.length ≤ 1000000) {x : Int} (hx : ids[i]? = some x) {fr : Fr} {σ : H} (hJ : ouJ fmt v0 v1 v2 v3 v4 ve vm vk vo t L S tS C' tC K ids tr i fr σ) :
    W P G 65 5 (AC.seq (AC.reg value_All_r11 [])   (AC.seq (AC.cond (Arg.t 47)   AC.skip   (AC.exit 2))   (AC.seq (AC.block 3 (AC.seq (AC.reg value_All_r12 [48, 49, 50])   (AC.seq (AC.reg value_All_r13 [52, 53, 54, 51, 55, 56])   (AC.seq (AC.seq (AC.reg value_All_r14 [57])   (AC.cond (Arg.t 58)   (AC.seq (AC.reg value_All_r15 [])   AC.ret)   AC.skip))   (AC.reg value_All_r16 [59, 60, 61, 62])))))   (AC.reg value_All_r17 [63])))) fr σ (seqQ (fun fr σ => ∃ fr' σ', Shift G 65 5 fr σ fr' σ' ∧ ouJ fmt v0 v1 v2 v3 v4 ve vm vk vo t L S tS C' tC K ids tr (i + 1) fr' σ') (ouE fmt v0 v1 v2 v3 v4 ve vm vk vo t L S tS C' tC K ids)) := by
  obtain ⟨hall, f8, f14, f44, f45, f46, rfl⟩ := hJ
  have hlt := (List.getElem?_eq_some_iff.1 hx).1
  have hD := nints_get hx
  have e2 := w_nx hlt (by omega)
  have hol : (outs K ids i ids.length).length = ids.length := outs_length (by omega) rfl
  cases hk : kAt K x with
  | none =>
    refine W_round [(8, .ptr 7 vk 0), (14, .sl 8 vo 0 1 ids.length none), (44, .lst 1 (nints ids) tr), (45, .int .i64 ids.length), (46, .int .i64 ((i : Nat) : Int))] ⟨f8, f14, f44, f45, f46, trivial⟩  1000 ?_
    simp -implicitDefEqProofs (disch := omega) only [go_sem, need_of, ↓reduceIte, Nat.reduceAdd, Nat.reduceEqDiff, Nat.reduceLT, Nat.zero_add, decide_true, Bool.not_false, Nat.le_refl, Option.isSome_none, Option.getD_none, value_All_r11, value_All_r12, value_All_r13, value_All_r14, value_All_r15, value_All_r16, value_All_r17, kG_6, kG_7, allH, nints_length, mget_kEs, keysOk_kEs, List.length_nil, List.length_cons, List.nil_append, List.cons_append, true_implies, and_true, hlt, hD, hk, Option.map_none, Option.isSome_none]
    exact .inl ⟨rfl, ⟨x, List.mem_of_getElem? hx, hk⟩, by simp -implicitDefEqProofs (disch := omega) only [go_sem, ↓reduceIte, Nat.reduceEqDiff], by simp -implicitDefEqProofs (disch := omega) only [go_sem, ↓reduceIte, Nat.reduceEqDiff], i, rfl⟩
  | some y =>
    have hs := outs_set hx rfl hk
    rw [List.set_eq_take_append_cons_drop, if_pos (by omega)] at hs
    have hs' : List.take i (outs K ids i ids.length) ++ [V.int .i64 y] ++ List.drop (i + 1) (outs K ids i ids.length) = outs K ids (i + 1) ids.length := by rw [List.append_assoc]; exact hs
    refine W_round [(8, .ptr 7 vk 0), (14, .sl 8 vo 0 1 ids.length none), (44, .lst 1 (nints ids) tr), (45, .int .i64 ids.length), (46, .int .i64 ((i : Nat) : Int))] ⟨f8, f14, f44, f45, f46, trivial⟩  1000 ?_
    simp -implicitDefEqProofs (disch := omega) only [go_sem, need_of, ↓reduceIte, Nat.reduceAdd, Nat.reduceEqDiff, Nat.reduceLeDiff, Nat.reduceLT, Nat.zero_add, Nat.mul_one, decide_true, Bool.not_true, Bool.not_false, Nat.le_refl, Option.isSome_some, Option.getD_some, value_All_r11, value_All_r12, value_All_r13, value_All_r14, value_All_r15, value_All_r16, value_All_r17, kG_6, kG_7, kG_8, kGs_8, allH, nints_length, mget_kEs, keysOk_kEs, List.length_nil, List.length_cons, List.nil_append, List.cons_append, true_implies, true_and, and_true, hlt, hD, e2, hk, Option.map_some, Option.isSome_some, hol]
    refine ⟨_, _, Shift.refl _ _ _ _, fun w hw => ?_, ?_⟩
    · rw [take_snoc2 hx] at hw
      rcases List.mem_append.1 hw with h | h
      · exact hall w h
      · rw [List.mem_singleton.1 h, hk]; rfl
    · simp -implicitDefEqProofs (disch := omega) only [go_sem, ↓reduceIte, Nat.reduceEqDiff, allH, List.nil_append, List.cons_append, and_true, hs']
end Go.Proofs.YtfligilbnpcnaaaDoor

