/- Contracts: Solve: what is laid. -/
import Derived.Test.YtpepmhmgfpkdmaaSw16
import Derived.Test.YtpepmhmgfpkdmaaAmE
namespace Go.Proofs.Ytpepmhmgfpkdmaa
open Go Go.Am Go.Cl Go.Sat
set_option maxRecDepth 100000
variable {P : Program} {G : Nat → Option V}

/-- Four rows that are nil, as rows of ours. -/
theorem own4 {t vs T : Nat} {o : List (Option Ob)} {c1 c2 c3 c4 c5 c7 c10 c11 : V} (hl : o.length = 8) (o7 : o[7]? = some (some (.arr vs T [.lst 0 [] true, c1, c2, c3, c4, c5, .lst 0 [] true, c7, .lst 0 [] true, .lst 0 [] true, c10, c11]))) :
    HShift G 0 ⟨t, o⟩ ⟨t + 4, o.set 7 (some (.arr vs T [.sl 10 (t + 2) 0 1 0 none, c1, c2, c3, c4, c5, .sl 8 t 0 1 0 none, c7, .sl 9 (t + 1) 0 1 0 none, .sl 11 (t + 3) 0 1 0 none, c10, c11])) ++ [some (.arr t 3 []), some (.arr (t + 1) 3 []), some (.arr (t + 2) 37 []), some (.arr (t + 3) 37 [])]⟩ := by
  have h1 := HShift.ownAt (G := G) (base := 0) (t := t) 1 3 (p := 6) (Nat.zero_le 7) o7 rfl
  simp only [List.set_cons_succ, List.set_cons_zero, hl] at h1
  have h2 := HShift.ownAt (G := G) (base := 0) (t := t + 1) (k := 7) (o := o.set 7 (some (.arr vs T [.lst 0 [] true, c1, c2, c3, c4, c5, .sl 8 t 0 1 0 none, c7, .lst 0 [] true, .lst 0 [] true, c10, c11])) ++ [some (.arr t 3 [])]) 1 3 (p := 8) (Nat.zero_le 7) (by rw [List.getElem?_append_left (by simp [hl])]; exact List.getElem?_set_self (by omega)) rfl
  simp only [List.set_cons_succ, List.set_cons_zero, hl, List.length_append, List.length_set, List.set_append, List.set_set, List.length_singleton, if_pos (show 7 < 8 by decide)] at h2
  have h3 := HShift.ownAt (G := G) (base := 0) (t := t + 2) (k := 7) (o := o.set 7 (some (.arr vs T [.lst 0 [] true, c1, c2, c3, c4, c5, .sl 8 t 0 1 0 none, c7, .sl 9 (t + 1) 0 1 0 none, .lst 0 [] true, c10, c11])) ++ [some (.arr t 3 [])] ++ [some (.arr (t + 1) 3 [])]) 1 37 (p := 0) (Nat.zero_le 7) (by rw [List.append_assoc, List.getElem?_append_left (by simp [hl])]; exact List.getElem?_set_self (by omega)) rfl
  simp only [List.set_cons_zero, hl, List.length_append, List.length_set, List.set_append, List.set_set, List.length_singleton, if_pos (show 7 < 8 by decide), if_pos (show 7 < 8 + 1 by decide)] at h3
  have h4 := HShift.ownAt (G := G) (base := 0) (t := t + 3) (k := 7) (o := o.set 7 (some (.arr vs T [.sl 10 (t + 2) 0 1 0 none, c1, c2, c3, c4, c5, .sl 8 t 0 1 0 none, c7, .sl 9 (t + 1) 0 1 0 none, .lst 0 [] true, c10, c11])) ++ [some (.arr t 3 [])] ++ [some (.arr (t + 1) 3 [])] ++ [some (.arr (t + 2) 37 [])]) 1 37 (p := 9) (Nat.zero_le 7) (by rw [List.append_assoc, List.append_assoc, List.getElem?_append_left (by simp [hl])]; exact List.getElem?_set_self (by omega)) rfl
  simp only [List.set_cons_succ, List.set_cons_zero, hl, List.length_append, List.length_set, List.set_append, List.set_set, List.length_singleton, if_pos (show 7 < 8 by decide), if_pos (show 7 < 8 + 1 by decide), if_pos (show 7 < 8 + 1 + 1 by decide)] at h4
  have := h1.trans (h2.trans (h3.trans h4))
  simpa only [List.append_assoc, List.singleton_append, List.cons_append, List.nil_append] using this

def qT (im iv il ir ih n : Nat) : Nat := if n = 7 then 2 else if n = im then 3 else if n = iv then 4 else if n = il then 5 else if n = ir then 6 else if n = ih then 7 else n
def rT (im iv il ir ih m : Nat) : Nat := [0, 1, 7, im, iv, il, ir, ih].getD m m

/-- What is laid: the formula, the answer, a solver. -/
def AllocJ (vars fu t0 : Nat) (F : List (List Int)) (fr : Fr) (σ : H) : Prop := ∃ K wf wa t', t0 ≤ t' ∧ fget fr 1 = .int .i64 (fu : Int) ∧ fget fr 2 = .ptr 0 wf 0 ∧ fget fr 4 = .ptr 1 wa 0 ∧ fget fr 7 = .ptr 2 K.s 0 ∧
  σ = ⟨t', behind [some (.arr wf 24 [.int .i64 (vars : Int), .lst 1 (F.map row) false]), some (.arr wa 32 [.int .u8 0, .lst 0 [] true, .lst 0 [] true, .int .i64 0])] (hp K (S.new vars fu) fu t' [] [] [] []).o⟩

theorem flat_one (x : V) : ∀ n : Nat, (List.replicate n [x]).flatten = List.replicate n x
  | 0 => rfl
  | n + 1 => by rw [List.replicate_succ, List.replicate_succ, List.flatten_cons, flat_one x n]; rfl

theorem alloc_leaf {vars fu t0 t vf va vs vm vv vl vr vh : Nat} {F : List (List Int)} {fr : Fr} {o : List (Option Ob)} (im iv il ir ih : Nat) (hl : o.length = 8)
    (o7 : o[7]? = some (some (.arr vs 46 [.lst 0 [] true, .mp im vm, .sl iv vv 0 1 (vars + 1) none, .sl il vl 0 1 (vars + 1) none, .sl ir vr 0 1 (vars + 1) none, .sl ih vh 0 1 (vars + 1) none, .lst 0 [] true, .int .i64 0, .lst 0 [] true, .lst 0 [] true, .int .i64 (fu : Int), .int .i64 0])))
    (o0 : o[0]? = some (some (.arr vf 24 [.int .i64 (vars : Int), .lst 1 (F.map row) false]))) (o1 : o[1]? = some (some (.arr va 32 [.int .u8 0, .lst 0 [] true, .lst 0 [] true, .int .i64 0])))
    (om : o[im]? = some (some (.map vm []))) (ov : o[iv]? = some (some (.arr vv 50 (.int .i8 0 :: (List.replicate vars [V.int .i8 0]).flatten)))) (ol : o[il]? = some (some (.arr vl 3 (.int .i64 0 :: (List.replicate vars [V.int .i64 0]).flatten))))
    (or : o[ir]? = some (some (.arr vr 3 (.int .i64 0 :: (List.replicate vars [V.int .i64 0]).flatten)))) (oh : o[ih]? = some (some (.arr vh 3 (.int .i64 0 :: (List.replicate vars [V.int .i64 0]).flatten))))
    (hqr : ∀ m < 8, qT im iv il ir ih (rT im iv il ir ih m) = m) (hrq : ∀ n < 8, rT im iv il ir ih (qT im iv il ir ih n) = n)
    (f1 : fget fr 1 = .int .i64 (fu : Int)) (f2 : fget fr 2 = .ptr 0 vf 0) (f4 : fget fr 4 = .ptr 1 va 0) (f7 : fget fr 7 = .ptr 7 vs 0) (ht : t0 ≤ t) :
    ∃ fr' σ', Shift G 90 0 fr ⟨t, o⟩ fr' σ' ∧ AllocJ vars fu t0 F fr' σ' := by
  have fl : ∀ x : V, x :: (List.replicate vars [x]).flatten = List.replicate (vars + 1) x := fun x => by
    rw [List.replicate_succ, flat_one]
  rw [fl] at ov ol or oh
  have hlt : ∀ {k x}, o[k]? = some (some x) → k < 8 := fun {k x} h => by rw [← hl]; exact (List.getElem?_eq_some_iff.1 h).1
  have lm := hlt om
  have lv := hlt ov
  have ll := hlt ol
  have lr := hlt or
  have lh := hlt oh
  have h4 := own4 (G := G) (t := t) hl o7
  generalize hq : qT im iv il ir ih = q at hqr hrq
  have q0 : q 0 = 0 := hqr 0 (by decide)
  have q1 : q 1 = 1 := hqr 1 (by decide)
  have q7 : q 7 = 2 := hqr 2 (by decide)
  have qm : q im = 3 := hqr 3 (by decide)
  have qv : q iv = 4 := hqr 4 (by decide)
  have ql : q il = 5 := hqr 5 (by decide)
  have qr : q ir = 6 := hqr 6 (by decide)
  have qh : q ih = 7 := hqr 7 (by decide)
  have q8 : ∀ n, 8 ≤ n → q n = n := fun n h => by
    rw [← hq]; unfold qT
    rw [if_neg (by omega), if_neg (by omega), if_neg (by omega), if_neg (by omega), if_neg (by omega), if_neg (by omega)]
  have r8 : ∀ n, 8 ≤ n → rT im iv il ir ih n = n := fun n h => by
    unfold rT
    rw [List.getD_eq_getElem?_getD, List.getElem?_eq_none (by simpa using h)]; rfl
  have hrq' : ∀ n, rT im iv il ir ih (q n) = n := fun n => by
    rcases Nat.lt_or_ge n 8 with h | h
    · exact hrq n h
    · rw [q8 n h, r8 n h]
  generalize hS : (some (Ob.arr vs 46 [.sl 10 (t + 2) 0 1 0 none, .mp im vm, .sl iv vv 0 1 (vars + 1) none, .sl il vl 0 1 (vars + 1) none, .sl ir vr 0 1 (vars + 1) none, .sl ih vh 0 1 (vars + 1) none, .sl 8 t 0 1 0 none, .int .i64 0, .sl 9 (t + 1) 0 1 0 none, .sl 11 (t + 3) 0 1 0 none, .int .i64 (fu : Int), .int .i64 0])) = sv at h4
  have old : ∀ {k x} e, k ≠ 7 → o[k]? = some x → (o.set 7 sv ++ e)[k]? = some x := fun {k x} e hk h => by
    have := (List.getElem?_eq_some_iff.1 h).1
    rw [List.getElem?_append_left (by simpa using this), List.getElem?_set_ne (Ne.symm hk)]; exact h
  have new : ∀ {k} e, (o.set 7 sv ++ e)[k + 8]? = e[k]? := fun {k} e => by
    rw [List.getElem?_append_right (by simp [hl]), List.length_set, hl, Nat.add_sub_cancel]
  have nm : im ≠ 7 := fun e => by rw [e, q7] at qm; omega
  have nv : iv ≠ 7 := fun e => by rw [e, q7] at qv; omega
  have nl : il ≠ 7 := fun e => by rw [e, q7] at ql; omega
  have nr : ir ≠ 7 := fun e => by rw [e, q7] at qr; omega
  have nh : ih ≠ 7 := fun e => by rw [e, q7] at qh; omega
  refine ⟨[(1, .int .i64 (fu : Int)), (2, .ptr 0 (vf + (t + 4)) 0), (4, .ptr 1 (va + (t + 4)) 0), (7, .ptr 2 (vs + (t + 4)) 0)], _, (h4.shift).trans (Shift.ren hrq' (t' := 2 * (t + 4)) (o' := behind [some (.arr (vf + (t + 4)) 24 [.int .i64 (vars : Int), .lst 1 (F.map row) false]), some (.arr (va + (t + 4)) 32 [.int .u8 0, .lst 0 [] true, .lst 0 [] true, .int .i64 0])]
    (hp ⟨vs + (t + 4), vm + (t + 4), vv + (t + 4), vl + (t + 4), vr + (t + 4), vh + (t + 4), t + (t + 4), t + 1 + (t + 4), t + 2 + (t + 4), t + 3 + (t + 4)⟩ (S.new vars fu) fu (2 * (t + 4)) [] [] [] []).o) (Nat.le_refl _) (fun m ob' hm => ?_) fun s => ?_), _, _, _, 2 * (t + 4), by omega, rfl, rfl, rfl, rfl, rfl⟩
  · simp only [behind, hp, sc, S.new, List.map_cons, List.map_nil, Option.map_some, Ob.ren, renL, V.ren, List.cons_append, List.nil_append, List.length_cons, List.length_nil] at hm
    match m, hm with
    | 0, hm => cases hm; exact ⟨0, _, q0, old _ (by omega) o0, rfl⟩
    | 1, hm => cases hm; exact ⟨1, _, q1, old _ (by omega) o1, rfl⟩
    | 2, hm => cases hm; exact ⟨7, _, q7, by rw [List.getElem?_append_left (by simp [hl]), List.getElem?_set_self (by omega), ← hS], by simp [Ob.mv, mvL, V.mv, qm, qv, ql, qr, qh, q8]⟩
    | 3, hm => cases hm; exact ⟨im, _, qm, old _ nm om, rfl⟩
    | 4, hm => cases hm; exact ⟨iv, _, qv, old _ nv ov, by simp [Ob.mv, mvL_map, renL_map, V.mv, V.ren, i8s]⟩
    | 5, hm => cases hm; exact ⟨il, _, ql, old _ nl ol, by simp [Ob.mv, mvL_map, renL_map, V.mv, V.ren, nts]⟩
    | 6, hm => cases hm; exact ⟨ir, _, qr, old _ nr or, by simp [Ob.mv, mvL_map, renL_map, V.mv, V.ren, ints]⟩
    | 7, hm => cases hm; exact ⟨ih, _, qh, old _ nh oh, by simp [Ob.mv, mvL_map, renL_map, V.mv, V.ren, nts]⟩
    | 8, hm => cases hm; exact ⟨8, _, q8 8 (by omega), new (k := 0) _, rfl⟩
    | 9, hm => cases hm; exact ⟨9, _, q8 9 (by omega), new (k := 1) _, rfl⟩
    | 10, hm => cases hm; exact ⟨10, _, q8 10 (by omega), new (k := 2) _, rfl⟩
    | 11, hm => cases hm; exact ⟨11, _, q8 11 (by omega), new (k := 3) _, rfl⟩
    | m + 12, hm => simp at hm
  · by_cases h1 : s = 1
    · subst h1; exact .inr (by rw [f1]; rfl)
    by_cases h2 : s = 2
    · subst h2; exact .inr (by rw [f2, V.mv, q0]; rfl)
    by_cases h3 : s = 4
    · subst h3; exact .inr (by rw [f4, V.mv, q1]; rfl)
    by_cases h5 : s = 7
    · subst h5; exact .inr (by rw [f7, V.mv, q7]; rfl)
    exact .inl (by simp [fget, Ne.symm h1, Ne.symm h2, Ne.symm h3, Ne.symm h5])

set_option maxHeartbeats 4000000 in
theorem so_alloc (hT : TabOk Try.prog tab) {vars fu t vf va : Nat} {F : List (List Int)} {fr : Fr} (hv : vars ≤ 1000) (f1 : fget fr 1 = .int .i64 (fu : Int)) (f2 : fget fr 2 = .ptr 0 vf 0) (f4 : fget fr 4 = .ptr 1 va 0) (f6 : fget fr 6 = .int .i64 ((vars + 1 : Nat) : Int)) :
    W Try.prog G 90 0 (.reg sat_Solve_r4 [23, 24, 25, 26, 27, 28, 29, 30, 31, 32, 33, 34]) fr ⟨t, [some (.arr vf 24 [.int .i64 (vars : Int), .lst 1 (F.map row) false]), some (.arr va 32 [.int .u8 0, .lst 0 [] true, .lst 0 [] true, .int .i64 0])]⟩ fun e fr' σ' => e = .nrm ∧ AllocJ vars fu t F fr' σ' := by
  have n0 : ¬ ((vars + 1 : Nat) : Int) < 0 := by omega
  have n1 : (vars + 1) * 8 ≤ 140737488355328 := by omega
  have n2 : vars + 1 ≤ 9223372036854775807 := by omega
  have n3 : vars + 1 ≤ 140737488355328 := by omega
  refine W_post ?_
  refine W_round [(1, .int .i64 (fu : Int)), (2, .ptr 0 vf 0), (4, .ptr 1 va 0), (6, .int .i64 ((vars + 1 : Nat) : Int))] ⟨f1, f2, f4, f6, trivial⟩  6 ?_
  simp -implicitDefEqProofs (disch := omega) only [go_sem, ↓reduceIte, Nat.reduceEqDiff, sat_Solve_r4]
  refine run_sem 1 ?_
  simp -implicitDefEqProofs (disch := omega) only [go_sem]
  repeat' first
    | refine And.intro ?_ ?_
    | exact alloc_leaf _ _ _ _ _ rfl rfl rfl rfl rfl rfl rfl rfl rfl (by decide) (by decide) rfl rfl rfl rfl (by omega)
    | (refine run_sem 2 ?_
       simp -implicitDefEqProofs (disch := omega) only [go_sem, need_of, ↓reduceIte, Nat.reduceAdd, Nat.reduceEqDiff, Nat.reduceLeDiff, Nat.zero_add, Nat.le_refl, Int.toNat_natCast])
end Go.Proofs.Ytpepmhmgfpkdmaa

