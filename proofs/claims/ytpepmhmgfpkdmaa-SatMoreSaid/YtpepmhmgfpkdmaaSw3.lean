/- Contracts: a clause is added. -/
import Derived.Test.YtpepmhmgfpkdmaaSw2
namespace Go.Proofs.Ytpepmhmgfpkdmaa
open Go Go.Am Go.Cl Go.Sat
set_option maxRecDepth 100000
variable {P : Program} {G : Nat → Option V}

theorem nodup_lt : ∀ {n : Nat} {l : List Nat}, l.Nodup → (∀ x ∈ l, x < n) → l.length ≤ n
  | 0, [], _, _ => by simp
  | 0, x :: l, _, h => by have := h x (by simp); omega
  | n + 1, l, h, hl => by
    have h1 : (l.erase n).length ≤ n := nodup_lt (h.erase n) fun x hx => by
      have := hl x (List.mem_of_mem_erase hx)
      have : x ≠ n := fun e => by subst e; exact (List.Nodup.mem_erase_iff h).1 hx |>.1 rfl
      omega
    have h2 := List.length_erase (a := n) (l := l)
    split at h2 <;> omega
theorem wt_len {N : Nat} {s : S} (h : Inv N s) (l : Int) : (s.wt l).length ≤ s.cl.length := nodup_lt (h.wat l).1 fun m hm => (((h.wat l).2 m).1 hm).lt

/-- The state, when the clause is there and so many of its literals are watched. -/
def adds (s : S) (c : List Int) : Nat → S
  | 0 => { s with cl := s.cl ++ [c] }
  | 1 => ({ s with cl := s.cl ++ [c] } : S).push (c.getD 0 0) s.cl.length
  | _ => s.add c

theorem adds_next {s : S} {c : List Int} {i : Nat} (hi : i < 2) : adds s c (i + 1) = (adds s c i).push (c.getD i 0) s.cl.length := by
  match i, hi with
  | 0, _ => rfl
  | 1, _ => rfl
theorem adds_wt {s : S} {c : List Int} (h : c.getD 0 0 ≠ c.getD 1 0) {i : Nat} (hi : i < 2) : (adds s c i).wt (c.getD i 0) = s.wt (c.getD i 0) := by
  match i, hi with
  | 0, _ => rfl
  | 1, _ => show (if c.getD 1 0 = c.getD 0 0 then _ else s.wt _) = _; rw [if_neg (Ne.symm h)]
theorem hp_wt {K : Vs} {s s' : S} {fu t : Nat} {es : List (Int × V)} {cs ps : List V} {rest : List (Option Ob)} (h1 : s'.va = s.va) (h2 : s'.lv = s.lv) (h3 : s'.re = s.re) (h4 : s'.he = s.he) (h5 : s'.tr = s.tr) (h6 : s'.dn = s.dn) (h7 : s'.ms = s.ms) (h8 : s'.lf = s.lf) : hp K s' fu t es cs ps rest = hp K s fu t es cs ps rest := by
  unfold hp sc; rw [h1, h2, h3, h4, h5, h6, h7, h8]

abbrev adJ (K : Vs) (s : S) (c : List Int) (fu t j w : Nat) (cs ps : List V) : Nat → Fr → H → Prop := fun i fr σ => ∃ es rest ow t', t ≤ t' ∧ RW (adds s c i) es cs rest ow ∧ rest[j]? = some (some (.arr w 3 (ints c))) ∧ ow j = .cl s.cl.length ∧
  fget fr 0 = .ptr 0 K.s 0 ∧ fget fr 5 = .int .i64 (s.cl.length : Int) ∧ fget fr 24 = .sl (j + 10) w 0 1 2 none ∧ fget fr 25 = .int .i64 2 ∧ fget fr 26 = .int .i64 (i : Int) ∧ σ = hp K s fu t' es cs ps rest
abbrev adE (K : Vs) (s : S) (c : List Int) (fu t j w : Nat) (cs ps : List V) : AE → Fr → H → Prop := fun e fr σ => e = .ex 0 ∧ ∃ es rest ow t', t ≤ t' ∧ RW (adds s c 2) es cs rest ow ∧ rest[j]? = some (some (.arr w 3 (ints c))) ∧ fget fr 5 = .int .i64 (s.cl.length : Int) ∧ σ = hp K s fu t' es cs ps rest

theorem add_round (hT : TabOk P tab) {N fu t j w : Nat} {K : Vs} {s : S} {c : List Int} {cs ps : List V} (hi : Inv N s) (hb : Bd fu N s) (hc : 2 ≤ c.length ∧ Okc N c) {i : Nat} (h2 : i < 2) {fr : Fr} {σ : H} (hJ : adJ K s c fu t j w cs ps i fr σ) :
    W P G 46 0 (AC.seq (AC.reg sat_solver_add_r4 [])   (AC.seq (AC.cond (Arg.t 27)   AC.skip   (AC.exit 0))   (AC.seq (AC.block 1 (AC.seq (AC.reg sat_solver_add_r5 [28, 29])   (AC.reg sat_solver_add_r6 [30, 31, 32, 33, 34, 35, 36, 37, 38, 39, 40, 41, 42, 43])))   (AC.reg sat_solver_add_r7 [44])))) fr σ (seqQ (fun fr σ => ∃ fr' σ', Shift G 46 0 fr σ fr' σ' ∧ adJ K s c fu t j w cs ps (i + 1) fr' σ') (adE K s c fu t j w cs ps)) := by
  obtain ⟨es, rest, ow, t', ht, hw, hj, ho, f0, f5, f24, f25, f26, rfl⟩ := hJ
  have hil : i < c.length := by omega
  have hD := ints_getD' hil
  have e2 := wnext (i := i) (n := 2) h2 (by omega)
  have h0 : c[0]? = some (c.getD 0 0) := some_getD (by omega)
  have h1 : c[1]? = some (c.getD 1 0) := some_getD (by omega)
  have hne : c.getD 0 0 ≠ c.getD 1 0 := fun e => by have := nodup_at hc.2.nodup (e ▸ h0) h1; omega
  have hwl : ((adds s c i).wt (c.getD i 0)).length ≤ 8388608 := by
    rw [adds_wt hne h2]; have := wt_len hi (c.getD i 0); have := hb.cl; omega
  have hlt : (i : Int) < 2 := by omega
  generalize hx : c.getD i 0 = x at *
  rcases hw.wt x with ⟨hw0, hv⟩ | ⟨j', w', hv, hj', ho'⟩
  · refine W_round [(0, .ptr 0 K.s 0), (5, .int .i64 (s.cl.length : Int)), (24, .sl (j + 10) w 0 1 2 none), (25, .int .i64 2), (26, .int .i64 (i : Int))] ⟨f0, f5, f24, f25, f26, trivial⟩  1000 ?_
    simp -implicitDefEqProofs (disch := omega) only [go_sem, need_of, ↓reduceIte, reduceCtorEq, Nat.reduceAdd, Nat.reduceEqDiff, Nat.reduceLeDiff, Nat.reduceLT, Nat.zero_add, Nat.mul_one, Nat.one_mul, decide_true, Bool.not_false, Nat.le_refl, Nat.zero_le, sat_solver_add_r4, sat_solver_add_r5, sat_solver_add_r6, sat_solver_add_r7, hp, sc, mget_kv, mput_kv, keysOk_kv, ints_length, Int.toNat_natCast, hlt, hj, hD, e2, hv]
    have hnew := hw.neww (l := x) (w := t') (x := [s.cl.length])
    rw [show (adds s c i).sub x [s.cl.length] = adds s c (i + 1) by rw [adds_next h2, hx]; unfold S.push; rw [hw0]; rfl] at hnew
    have hjl := (List.getElem?_eq_some_iff.1 hj).1
    exact ⟨_, _, Shift.refl _ _ _ _, _, _, _, t' + 1, by omega, hnew, by rw [List.getElem?_append_left hjl]; exact hj, by show (if j = _ then _ else _) = _; rw [if_neg (by omega)]; exact ho, rfl, rfl, rfl, rfl, rfl, rfl⟩
  · have hjl' := (List.getElem?_eq_some_iff.1 hj').1
    have hjj : j ≠ j' := fun e => by rw [← e, ho] at ho'; cases ho'
    refine W_round [(0, .ptr 0 K.s 0), (5, .int .i64 (s.cl.length : Int)), (24, .sl (j + 10) w 0 1 2 none), (25, .int .i64 2), (26, .int .i64 (i : Int))] ⟨f0, f5, f24, f25, f26, trivial⟩  1000 ?_
    simp -implicitDefEqProofs (disch := omega) only [go_sem, need_of, ↓reduceIte, reduceCtorEq, Nat.reduceAdd, Nat.reduceEqDiff, Nat.reduceLeDiff, Nat.zero_add, Nat.mul_one, decide_true, Bool.not_true, Bool.not_false, Nat.le_refl, Nat.zero_le, sat_solver_add_r4, sat_solver_add_r5, sat_solver_add_r6, sat_solver_add_r7, hp, sc, mget_kv, mput_kv, keysOk_kv, ints_length, nts_length, Int.toNat_natCast, hlt, hj, hD, e2, hv, hj', nts_snoc]
    have hnew := hw.setw (l := x) (j := j') (w := t') (x := (adds s c i).wt x ++ [s.cl.length]) hjl' (.inl ho')
    rw [show (adds s c i).sub x ((adds s c i).wt x ++ [s.cl.length]) = adds s c (i + 1) by rw [adds_next h2, hx]; rfl, List.length_append] at hnew
    exact ⟨_, _, Shift.refl _ _ _ _, _, _, _, t' + 1, by omega, hnew, by rw [List.getElem?_set_ne (Ne.symm hjj)]; exact hj, by show (if j = _ then _ else _) = _; rw [if_neg hjj]; exact ho, rfl, rfl, rfl, rfl, rfl, rfl⟩

theorem c_add (hT : TabOk P tab) {N fu t j w : Nat} {K : Vs} {s : S} {c : List Int} {es : List (Int × V)} {cs ps : List V} {rest : List (Option Ob)} {ow : Nat → Own} (hi : Inv N s) (hb : Bd fu N s) (hw : RW s es cs rest ow) (hc : 2 ≤ c.length ∧ Okc N c) (hj : rest[j]? = some (some (.arr w 3 (ints c)))) (ho : ow j = .no) :
    C P G 0 n_sat_solver_add [.ptr 0 K.s 0, .sl (j + 10) w 0 1 c.length none] (hp K s fu t es cs ps rest) fun v σ => v = .int .i64 (s.cl.length : Int) ∧ ∃ w' es' cs' rest' ow' t', t ≤ t' ∧ RW (s.add c) es' cs' rest' ow' ∧ rest'[j]? = some (some (.arr w 3 (ints c))) ∧ σ = hp { K with c := w' } (s.add c) fu t' es' cs' ps rest' := by
  have hcl := hb.cl
  have hjl := (List.getElem?_eq_some_iff.1 hj).1
  refine C_tab hT t_sat_solver_add (by simp [sat_solver_add]) (W_run 1000 ?_)
  simp -implicitDefEqProofs (disch := omega) only [go_sem, need_of, ↓reduceIte, reduceCtorEq, Nat.reduceAdd, Nat.reduceEqDiff, Nat.reduceLeDiff, Nat.reduceLT, Nat.reduceSub, Int.reduceToNat, Int.reduceLE, Nat.zero_add, Nat.add_zero, Nat.mul_one, Bool.not_true, Bool.not_false, Nat.le_refl, Nat.zero_le, sat_solver_add, sat_solver_add_r0, sat_solver_add_r1, sat_solver_add_r2, sat_solver_add_r3, sat_solver_add_r4, sat_solver_add_r5, sat_solver_add_r6, sat_solver_add_r7, sat_solver_add_r8, hp, sc, hw.len, List.getElem?_concat_length]
  have hadd := (hw.addc hj ho).app (ex := [some (.arr t 37 [.sl (j + 10) w 0 1 c.length none])])
  refine sem_upto 2 (adJ { K with c := t + 1 } s c fu t j w (cs ++ [.sl (j + 10) w 0 1 c.length none]) ps) (adE { K with c := t + 1 } s c fu t j w (cs ++ [.sl (j + 10) w 0 1 c.length none]) ps) ?_ (fun i hi2 fr σ hJ => add_round hT hi hb hc hi2 hJ) (fun i hi2 fr σ hJ => ?_) (fun e fr σ hE => ?_)
  · refine ⟨es, _, _, t + 2, by omega, hadd, by rw [List.getElem?_append_left hjl]; exact hj, by show (if j = j then _ else _) = _; rw [if_pos rfl], rfl, rfl, rfl, rfl, rfl, ?_⟩
    simp [hp, sc, hw.len]
  · subst hi2
    obtain ⟨es, rest, ow, t', ht, hw, hj, ho, f0, f5, f24, f25, f26, rfl⟩ := hJ
    refine W_round [(0, .ptr 0 K.s 0), (5, .int .i64 (s.cl.length : Int)), (24, .sl (j + 10) w 0 1 2 none), (25, .int .i64 2), (26, .int .i64 ((2 : Nat) : Int))] ⟨f0, f5, f24, f25, f26, trivial⟩  1000 ?_
    have g : ¬ ((2 : Nat) : Int) < 2 := by decide
    simp -implicitDefEqProofs (disch := omega) only [go_sem, ↓reduceIte, reduceCtorEq, Nat.reduceEqDiff, decide_false, g]
    exact ⟨rfl, es, rest, ow, t', ht, hw, hj, rfl, rfl⟩
  · obtain ⟨rfl, es', rest', ow', t', ht, hw', hj', f5, rfl⟩ := hE
    refine run_sem 1000 ?_
    simp -implicitDefEqProofs (disch := omega) only [go_sem, ↓reduceIte, Nat.reduceEqDiff, f5]
    exact ⟨t + 1, es', _, rest', ow', t', by omega, hw', hj', hp_wt rfl rfl rfl rfl rfl rfl rfl rfl⟩
end Go.Proofs.Ytpepmhmgfpkdmaa

