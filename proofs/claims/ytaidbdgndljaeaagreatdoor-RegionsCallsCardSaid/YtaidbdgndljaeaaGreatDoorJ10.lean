/- Who is called. -/
import Derived.Test.YtaidbdgndljaeaaGreatDoorJ9
/- Who is called. -/
namespace Go.Proofs.YtaidbdgndljaeaaGreatDoor
open Go Go.Am Go.Rv Go.Rg
set_option maxRecDepth 100000
variable {P : Program} {G : Nat → Option V}
def fV (f : Rg.Fn) : V := .agg (fC f)
theorem c_IdxFn (hT : TabOk P tab) {base t : Nat} {o : List (Option Ob)} {f : V} {p : Nat → Bool} {l : List Rg.Fn} {tg : Bool} (Inv : Nat → H → Prop) (End : H → Prop) (hl : l.length ≤ 9223372036854775807)
    (hp : ∀ i a, l[i]? = some a → ∀ σ, Inv i σ → CV P G base f [fV a] σ fun v σ' => v = .bool (p i) ∧ (p i = false → Inv (i + 1) σ') ∧ (p i = true → End σ')) (h0 : Inv 0 ⟨t, o⟩) :
    C P G base n_slices_IndexFunc_regions_Func_regions_Func [.lst 5 (l.map fV) tg, f] ⟨t, o⟩ fun v σ => (∃ i, i < l.length ∧ (∀ j, j < i → p j = false) ∧ p i = true ∧ v = .int .i64 ((i : Nat) : Int) ∧ End σ) ∨ ((∀ j, j < l.length → p j = false) ∧ v = .int .i64 (-1) ∧ Inv l.length σ) := by
  refine C_tab hT t_slices_IndexFunc_regions_Func_regions_Func (by simp [slices_IndexFunc_regions_Func_regions_Func]) (W_run 1000 ?_)
  simp -implicitDefEqProofs (disch := omega) only [go_sem, ↓reduceIte, reduceCtorEq, Nat.reduceEqDiff, Nat.zero_add, slices_IndexFunc_regions_Func_regions_Func, zqz_0, zqz_1, zqz_2, zqz_3, zqz_4, zqz_5, zqz_6, zqz_7, List.length_map]
  refine sem_invE (fun m fr σ => ∃ i, i ≤ l.length ∧ m = l.length - i ∧ (∀ j, j < i → p j = false) ∧ fget fr 0 = .lst 5 (l.map fV) tg ∧ fget fr 1 = f ∧ fget fr 7 = .int .i64 l.length ∧ fget fr 8 = .int .i64 i ∧ Inv i σ)
    (fun e fr σ => (e = .ret ∧ ∃ i, i < l.length ∧ (∀ j, j < i → p j = false) ∧ p i = true ∧ fget fr 4 = .int .i64 ((i : Nat) : Int) ∧ End σ) ∨ (e = .ex 0 ∧ (∀ j, j < l.length → p j = false) ∧ Inv l.length σ))
    (m0 := l.length) ⟨0, by omega, rfl, (fun j h => absurd h (Nat.not_lt_zero j)), ?_⟩ (fun m fr σ hJ => ?_) (fun e fr σ hE => ?_)
  · simp -implicitDefEqProofs (disch := omega) only [go_sem, ↓reduceIte, reduceCtorEq, Nat.reduceEqDiff]
    simpa using h0
  · obtain ⟨i, hi, rfl, hno, h0', h1', h7', h8', hI⟩ := hJ
    refine W_run 1000 ?_
    rcases Nat.lt_or_ge i l.length with hlt | hge
    · obtain ⟨x, hx⟩ : ∃ x, l[i]? = some x := ⟨_, List.getElem?_eq_getElem hlt⟩
      have hD : (l.map fV).getD i V.any = fV x := by simp [List.getD_eq_getElem?_getD, hx]
      have e2 := wnext hlt hl
      simp -implicitDefEqProofs (disch := omega) only [go_sem, need_of, ↓reduceIte, reduceCtorEq, Nat.reduceAdd, Nat.reduceEqDiff, Nat.succ_ne_zero, Nat.zero_add, decide_true, Nat.le_refl, List.length_map, fV, fC, fnC, insV, cutsV, inC, V.cells, List.length_cons, List.length_nil, h0', h1', h7', h8', hlt, hD]
      refine CV.use 1000 (hp i x hx σ hI) fun v σ hv => ?_
      obtain ⟨rfl, hv⟩ := hv
      cases hpn : p i with
      | true =>
        simp -implicitDefEqProofs (disch := omega) only [go_sem, ↓reduceIte, reduceCtorEq, Nat.reduceEqDiff]
        exact ⟨i, hlt, hno, hpn, rfl, hv.2 hpn⟩
      | false =>
        simp -implicitDefEqProofs (disch := omega) only [go_sem, ↓reduceIte, Nat.reduceEqDiff, h8']
        refine ⟨l.length - (i + 1), _, _, by omega, Shift.refl _ _ _ _, i + 1, by omega, rfl, fun j hj => ?_, ?_⟩
        · rcases Nat.lt_or_ge j i with h | h
          · exact hno j h
          · rw [show j = i by omega]; exact hpn
        · simp -implicitDefEqProofs (disch := omega) only [go_sem, ↓reduceIte, reduceCtorEq, Nat.reduceEqDiff, Nat.succ_ne_zero, h0', h1', h7', e2]
          exact hv.1 hpn
    · have hi : i = l.length := by omega
      subst hi
      simp -implicitDefEqProofs (disch := omega) only [go_sem, ↓reduceIte, reduceCtorEq, Nat.reduceEqDiff, decide_false, h7', h8', Nat.lt_irrefl]
      exact ⟨hno, hI⟩
  · rcases hE with ⟨rfl, i, hlt, hno, hpi, f4, hEn⟩ | ⟨rfl, hno, hI⟩
    · refine run_sem 1000 ?_
      simp -implicitDefEqProofs (disch := omega) only [go_sem, f4]
      exact .inl ⟨i, hlt, hno, hpi, rfl, hEn⟩
    · refine run_sem 1000 ?_
      simp -implicitDefEqProofs (disch := omega) only [go_sem, ↓reduceIte]
      exact .inr ⟨hno, hI⟩
theorem c_calleeS1 (hT : TabOk P tab) {base t w T k : Nat} {o : List (Option Ob)} {at_ : Int} (ho : o[k]? = some (some (.arr w T [.int .i64 at_]))) (hb : base ≤ o.length) (f : Rg.Fn) :
    C P G base n_regions_Callee_S1 [fV f, .ptr k w 0] ⟨t, o⟩ fun v σ => v = .bool (decide (f.pl = at_)) ∧ ∃ t', t ≤ t' ∧ σ = ⟨t', o⟩ := by
  have hk := (List.getElem?_eq_some_iff.1 ho).1
  have h1 : ∀ X, (o ++ [X])[k]? = some (some (.arr w T [.int .i64 at_])) := fun X => by rw [List.getElem?_append_left hk]; exact ho
  have h2 : ∀ X, (o ++ [X])[o.length]? = some X := fun X => List.getElem?_concat_length
  have h3 : ∀ X : Option Ob, List.take o.length (o ++ [X]) = o := fun X => by simp
  refine C_keep o.length hb (C_tab hT t_regions_Callee_S1 (by simp [regions_Callee_S1]) (W_run 20 ?_))
  simp -implicitDefEqProofs (disch := omega) only [go_sem, ↓reduceIte, reduceCtorEq, Nat.reduceAdd, Nat.reduceEqDiff, Nat.reduceLeDiff, Nat.zero_add, Nat.le_refl, regions_Callee_S1, zq10_0, zq10_1, fV, fC, fnC, insV, cutsV, V.cells, h1, h2]
  refine ⟨by simp, by rw [ibeq], t + 1, Nat.le_succ t, by simp [h3]⟩
theorem c_find (hT : TabOk P tab) {base t w T k : Nat} {o : List (Option Ob)} {at_ : Int} (ho : o[k]? = some (some (.arr w T [.int .i64 at_]))) (hb : base ≤ o.length) (l : List Rg.Fn) (hl : l.length ≤ 1000) :
    C P G base n_slices_IndexFunc_regions_Func_regions_Func [.lst 5 (l.map fV) false, .fn (.func n_regions_Callee_S1) [] [.ptr k w 0]] ⟨t, o⟩ fun v σ => v = .int .i64 (match l.findIdx? fun f => decide (f.pl = at_) with | some i => (i : Int) | none => -1) ∧ ∃ t', t ≤ t' ∧ σ = ⟨t', o⟩ := by
  have hI := c_IdxFn (P := P) (G := G) hT (base := base) (t := t) (o := o) (f := .fn (.func n_regions_Callee_S1) [] [.ptr k w 0]) (p := fun i => match l[i]? with | some s => decide (s.pl = at_) | none => false) (l := l) (tg := false)
    (fun _ σ => ∃ t', t ≤ t' ∧ σ = ⟨t', o⟩) (fun σ => ∃ t', t ≤ t' ∧ σ = ⟨t', o⟩) (by omega) (fun i s hs σ hI => ?_) ⟨t, Nat.le_refl _, rfl⟩
  · refine hI.conseq fun v σ hv => ?_
    rcases hv with ⟨i, hlt, hno, hpi, rfl, h⟩ | ⟨hno, rfl, h⟩
    · refine ⟨?_, h⟩
      have : l.findIdx? (fun f => decide (f.pl = at_)) = some i := by
        rw [List.findIdx?_eq_some_iff_getElem]
        refine ⟨hlt, ?_, fun j hj => ?_⟩
        · simpa [List.getElem?_eq_getElem hlt] using hpi
        · have := hno j hj
          simpa [List.getElem?_eq_getElem (show j < l.length by omega)] using this
      rw [this]
    · refine ⟨?_, h⟩
      have : l.findIdx? (fun f => decide (f.pl = at_)) = none := by
        rw [List.findIdx?_eq_none_iff]
        intro x hx
        obtain ⟨j, hj, e⟩ := List.mem_iff_getElem.1 hx
        have := hno j hj
        rw [List.getElem?_eq_getElem hj, e] at this
        exact this
      rw [this]
  · obtain ⟨t1, ht1, rfl⟩ := hI
    refine CV.of hT t_regions_Callee_S1 ((c_calleeS1 (P := P) (G := G) hT ho hb s).conseq fun v σ hv => ?_)
    obtain ⟨rfl, t2, ht2, rfl⟩ := hv
    simp only [hs]
    exact ⟨trivial, fun _ => ⟨t2, by omega, rfl⟩, fun _ => ⟨t2, by omega, rfl⟩⟩
end Go.Proofs.YtaidbdgndljaeaaGreatDoor
/- Who is called: the function, and the law. -/
namespace Go.Proofs.YtaidbdgndljaeaaGreatDoor
open Go Go.Am Go.Rv Go.Rg
set_option maxRecDepth 100000
def calI (r : List Rg.Fn) (f : Rg.Fn) (i : Int) : Option Nat :=
  match nth f.code i with
  | none => none
  | some x => if x.op = 3 ∧ x.rd = 1 then r.findIdx? fun g => decide (g.pl = f.pl + 4 * i + x.imm) else none
def calV : Option Nat → V
  | none => .tup [.int .i64 0, .bool false]
  | some k => .tup [.int .i64 ((k : Nat) : Int), .bool true]
structure FnB (f : Rg.Fn) : Prop where
  len : f.code.length ≤ 1000
  pl : 0 ≤ f.pl ∧ f.pl ≤ 4000
  imm : ∀ x ∈ f.code, -8589934592 ≤ x.imm ∧ x.imm ≤ 8589934592
theorem fnB_of {m : Im} {r : List Rg.Fn} (h : ofS m = .inl r) (hw : ∀ w ∈ m.code, 0 ≤ w ∧ w < 4294967296) (hl : m.code.length ≤ 1000) {n : Nat} {f : Rg.Fn} (hn : r[n]? = some f) : FnB f := by
  obtain ⟨hr, hlen, hg⟩ := ofS_good h
  obtain ⟨s, hs, rfl, hgd⟩ := hg n f hn
  obtain ⟨a, b, _, _, hab, hbl, es, ew⟩ := (right_rt hr).bounds hs
  have hwl : (words m n).length = b - a := by rw [ew]; simp; omega
  have hcl : (codeOf (words m n)).length = b - a := by simp [codeOf, hwl]
  have hwb : ∀ w ∈ words m n, 0 ≤ w ∧ w < 4294967296 := fun w h => by
    rw [ew] at h
    exact hw w (List.mem_of_mem_drop (List.mem_of_mem_take h))
  refine ⟨by show (codeOf (words m n)).length ≤ _; omega, by show 0 ≤ s.2 ∧ s.2 ≤ 4000; omega, fun x hx => ?_⟩
  obtain ⟨w, hw, rfl⟩ := List.mem_map.1 hx
  cases hd : dec w with
  | none => simp [zeroI]
  | some y => exact (dec_le (hwb w hw).1 hd).2
theorem pls_of {m : Im} {r : List Rg.Fn} (h : ofS m = .inl r) : r.map (·.pl) = ats m := by
  obtain ⟨hr, hlen, hg⟩ := ofS_good h
  unfold ats
  apply List.ext_getElem?
  intro n
  rw [List.getElem?_map, List.getElem?_map]
  rcases Nat.lt_or_ge n r.length with hlt | hge
  · obtain ⟨f, hf⟩ : ∃ f, r[n]? = some f := ⟨_, List.getElem?_eq_getElem hlt⟩
    obtain ⟨s, hs, rfl, _⟩ := hg n f hf
    rw [hf, hs]; rfl
  · rw [List.getElem?_eq_none hge, List.getElem?_eq_none (by omega)]; rfl
theorem calI_call {m : Im} {r : List Rg.Fn} (h : ofS m = .inl r) {n : Nat} {f : Rg.Fn} (hn : r[n]? = some f) {i : Nat} {x : In} (hx : f.code[i]? = some x) (hc : x.op = 3 ∧ x.rd = 1) : ∃ k g, calI r f i = some k ∧ r[k]? = some g ∧ g.pl = f.pl + 4 * i + x.imm := by
  obtain ⟨hr, hlen, hg⟩ := ofS_good h
  obtain ⟨s, hs, he, hgd, _⟩ := hg n f hn
  have hp : f.pl = s.2 := by rw [he]; rfl
  have hm := hgd.called hx hc
  rw [← hp, ← pls_of h] at hm
  obtain ⟨g, hgm, hge⟩ := List.mem_map.1 hm
  unfold calI
  rw [nth_nat, hx]
  simp only [hc, and_self, if_true]
  cases hi : r.findIdx? fun g => decide (g.pl = f.pl + 4 * (i : Int) + x.imm) with
  | none =>
    rw [List.findIdx?_eq_none_iff] at hi
    have := hi g hgm
    simp [hge] at this
  | some k =>
    obtain ⟨hlt, hk, _⟩ := List.findIdx?_eq_some_iff_getElem.1 hi
    exact ⟨k, _, rfl, List.getElem?_eq_getElem hlt, by simpa using hk⟩
theorem c_Callee (hT : TabOk Tryz.prog tab) (r : List Rg.Fn) (hr : r.length ≤ 1000) (f : Rg.Fn) (hf : FnB f) (i : Int) (hi : -9 ≤ i ∧ i ≤ 2000) : Am.Pure Tryz.prog G0 n_regions_Callee [funsV r, .agg (fC f), .int .i64 i] fun v => v = calV (calI r f i) := by
  have hnl : namelessL (fC f) = true := fn_nl
  have hl := hf.len
  have hpl := hf.pl
  intro t
  refine C_keep 0 (Nat.zero_le _) (C_tab hT t_regions_Callee (by simp [regions_Callee]) (W_run 6 ?_))
  simp -implicitDefEqProofs (disch := omega) only [go_sem, ↓reduceIte, reduceCtorEq, Nat.reduceAdd, Nat.reduceEqDiff, Nat.zero_add, regions_Callee, zqe_0, zqe_1, zqe_2, zqe_3, zqe_4, zqe_5, zqe_6, zqe_7, inC, insV, fC, fnC, cutsV, V.cells, and_true, List.nil_append, funsV]
  refine sem_shift (Shift.freeze (k := 0) (v := t) (T := 37) (cs := fC f) (Nat.zero_le _) rfl hnl) ?_
  simp only [fC, fnC, insV, cutsV, inC, frzFr_cons, frzFr_nil, frzL, frzV, mapFrom, List.set_cons_zero, Option.map_none]
  refine run_sem 12 ?_
  by_cases h0 : i < 0
  · have h0' : decide (i < 0) = true := decide_eq_true h0
    have hc : calI r f i = none := by unfold calI nth; rw [if_pos h0]
    rw [hc]
    simp -implicitDefEqProofs (disch := omega) only [go_sem, ↓reduceIte, reduceCtorEq, Nat.reduceEqDiff, decide_true, and_true, h0]
    iterate 9 (try (refine run_sem 4 ?_; simp -implicitDefEqProofs (disch := omega) only [go_sem, ↓reduceIte, reduceCtorEq, Nat.reduceEqDiff, Nat.zero_add, Nat.zero_le, true_and]))
    try simp [calV]
  have h0' : decide (i < 0) = false := decide_eq_false h0
  obtain ⟨k, rfl⟩ : ∃ k : Nat, i = k := ⟨i.toNat, by omega⟩
  by_cases h1 : f.code.length ≤ k
  · have h1' : decide ((f.code.length : Int) ≤ (k : Int)) = true := decide_eq_true (by omega)
    have hc : calI r f k = none := by unfold calI; rw [nth_nat, List.getElem?_eq_none h1]
    rw [hc]
    simp -implicitDefEqProofs (disch := omega) only [go_sem, ↓reduceIte, reduceCtorEq, Nat.reduceAdd, Nat.reduceEqDiff, Nat.reduceLeDiff, Nat.zero_add, decide_false, ge_iff_le, V.cells, List.length_map, true_implies, and_true, ge_iff_le, h0]
    iterate 9 (try (refine run_sem 4 ?_; simp -implicitDefEqProofs (disch := omega) only [go_sem, ↓reduceIte, reduceCtorEq, Nat.reduceEqDiff, Nat.zero_add, decide_true, Nat.zero_le, true_and, h1]))
    try simp [calV]
  have h1' : decide ((f.code.length : Int) ≤ (k : Int)) = false := decide_eq_false (by omega)
  have h1'' : ¬ (f.code.length : Int) ≤ (k : Int) := by omega
  have hlt : k < f.code.length := by omega
  obtain ⟨x, hx⟩ : ∃ x, f.code[k]? = some x := ⟨_, List.getElem?_eq_getElem hlt⟩
  have hD := ins_getD hx
  simp only [inC] at hD
  have hcal : calI r f k = if x.op = 3 ∧ x.rd = 1 then r.findIdx? fun g => decide (g.pl = f.pl + 4 * (k : Int) + x.imm) else none := by unfold calI; rw [nth_nat, hx]
  by_cases h3 : x.op = 3
  · have h3' : (x.op != 3) = false := by simp [h3]
    by_cases h4 : x.rd = 1
    · have h4' : (x.rd != 1) = false := by simp [h4]
      rw [if_pos ⟨h3, h4⟩] at hcal
      have hxb := hf.imm x (List.mem_of_getElem? hx)
      have w1 : IntKind.i64.wrap (4 * (k : Int)) = 4 * (k : Int) := wself (by omega)
      have w2 : IntKind.i64.wrap (f.pl + 4 * (k : Int)) = f.pl + 4 * (k : Int) := wself (by omega)
      have w3 : IntKind.i64.wrap (f.pl + 4 * (k : Int) + x.imm) = f.pl + 4 * (k : Int) + x.imm := wself (by omega)
      have hF := c_find (P := Tryz.prog) (G := G0) hT (base := 0) (t := t + 1 + 1) (w := t + 1) (T := 2) (k := 1) (o := [none, some (.arr (t + 1) 2 [.int .i64 (f.pl + 4 * (k : Int) + x.imm)])]) (at_ := f.pl + 4 * (k : Int) + x.imm) rfl (Nat.zero_le _) r hr
      have hFl := @List.findIdx?_eq_some_iff_getElem _ r (fun g => decide (g.pl = f.pl + 4 * (k : Int) + x.imm))
      rw [← hcal] at hF hFl
      generalize calI r f k = c at *
      have hfv : fV = fun f => V.agg (fC f) := rfl
      simp only [hfv, fC, fnC, insV, cutsV, inC] at hF
      simp -implicitDefEqProofs (disch := omega) only [go_sem, ↓reduceIte, reduceCtorEq, Nat.reduceAdd, Nat.reduceEqDiff, Nat.reduceLeDiff, Nat.zero_add, decide_false, ge_iff_le, V.cells, List.length_map, true_implies, and_true, ge_iff_le, h0]
      iterate 16 (try (refine run_sem 4 ?_; simp -implicitDefEqProofs (disch := omega) only [go_sem, need_of, ↓reduceIte, reduceCtorEq, Nat.reduceAdd, Nat.reduceEqDiff, Nat.reduceLeDiff, Nat.zero_add, Nat.add_zero, decide_false, Bool.not_false, Nat.le_refl, Nat.zero_le, V.cells, List.length_map, true_implies, and_true, Bool.not_false, List.cons_append, List.nil_append, h1, hD, hlt, h3', h4', w1, w2, w3]))
      refine call hT t_slices_IndexFunc_regions_Func_regions_Func hF 4 fun v σ hv => ?_
      obtain ⟨rfl, t', ht, rfl⟩ := hv
      cases c with
      | none =>
        simp -implicitDefEqProofs (disch := omega) only [go_sem, ↓reduceIte, reduceCtorEq, Nat.reduceEqDiff]
        iterate 4 (try (refine run_sem 4 ?_; simp -implicitDefEqProofs (disch := omega) only [go_sem, ↓reduceIte, reduceCtorEq, Nat.reduceAdd, Nat.reduceEqDiff, Int.reduceLT, Nat.zero_add, decide_true, Nat.zero_le, true_and]))
        try simp [calV]
      | some j =>
        have hj : ¬ ((j : Int) < 0) := by omega
        have hj' : decide ((j : Int) < 0) = false := decide_eq_false hj
        simp -implicitDefEqProofs (disch := omega) only [go_sem, ↓reduceIte, reduceCtorEq, Nat.reduceEqDiff]
        iterate 4 (try (refine run_sem 4 ?_; simp -implicitDefEqProofs (disch := omega) only [go_sem, ↓reduceIte, reduceCtorEq, Nat.reduceAdd, Nat.reduceEqDiff, Nat.zero_add, decide_false, Nat.zero_le, true_and, hj]))
        try simp [calV]
    · have h4' : (x.rd != 1) = true := by simp [h4]
      rw [if_neg fun h => h4 h.2] at hcal
      rw [hcal]
      simp -implicitDefEqProofs (disch := omega) only [go_sem, ↓reduceIte, reduceCtorEq, Nat.reduceAdd, Nat.reduceEqDiff, Nat.reduceLeDiff, Nat.zero_add, decide_false, ge_iff_le, V.cells, List.length_map, true_implies, and_true, ge_iff_le, h0]
      iterate 9 (try (refine run_sem 4 ?_; simp -implicitDefEqProofs (disch := omega) only [go_sem, need_of, ↓reduceIte, reduceCtorEq, Nat.reduceAdd, Nat.reduceEqDiff, Nat.reduceLeDiff, Nat.zero_add, Nat.add_zero, decide_false, Nat.zero_le, V.cells, List.length_map, true_implies, true_and, and_true, h1, hD, hlt, h3', h4']))
      try simp [calV]
  · have h3' : (x.op != 3) = true := by simp [h3]
    rw [if_neg fun h => h3 h.1] at hcal
    rw [hcal]
    simp -implicitDefEqProofs (disch := omega) only [go_sem, ↓reduceIte, reduceCtorEq, Nat.reduceAdd, Nat.reduceEqDiff, Nat.reduceLeDiff, Nat.zero_add, decide_false, ge_iff_le, V.cells, List.length_map, true_implies, and_true, ge_iff_le, h0]
    iterate 9 (try (refine run_sem 4 ?_; simp -implicitDefEqProofs (disch := omega) only [go_sem, need_of, ↓reduceIte, reduceCtorEq, Nat.reduceAdd, Nat.reduceEqDiff, Nat.reduceLeDiff, Nat.zero_add, Nat.add_zero, decide_false, Nat.zero_le, V.cells, List.length_map, true_implies, true_and, and_true, h1, hD, hlt, h3']))
    try simp [calV]
end Go.Proofs.YtaidbdgndljaeaaGreatDoor
/- The law RegionsCalls. -/
namespace Go.Proofs.YtaidbdgndljaeaaGreatDoor
open Go Go.Am Go.Rv Go.Rg
set_option maxRecDepth 100000
set_option maxHeartbeats 2000000
abbrev kjJ (m : Im) (r : List Rg.Fn) (n : Nat) : Nat → Fr → H → Prop := fun j fr σ => ∃ t o, fget fr 1 = .ref (.agg (imgC m)) 0 ∧ fget fr 3 = .lst 5 (r.map fun f => V.agg (fC f)) false ∧ fget fr 5 = .int .i64 ((n : Nat) : Int) ∧ fget fr 6 = .int .i64 ((j : Int) - 1) ∧ σ = ⟨t, o⟩
abbrev kjE (m : Im) (r : List Rg.Fn) (n : Nat) : AE → Fr → H → Prop := fun e fr σ => ∃ t o, e = .ex 2 ∧ fget fr 1 = .ref (.agg (imgC m)) 0 ∧ fget fr 3 = .lst 5 (r.map fun f => V.agg (fC f)) false ∧ fget fr 5 = .int .i64 ((n : Nat) : Int) ∧ σ = ⟨t, o⟩
theorem kj_round (hT : TabOk Tryz.prog tab) {m : Im} {r : List Rg.Fn} (hof : ofS m = .inl r) (hrl : r.length ≤ 1000) {n : Nat} {f : Rg.Fn} (hn : r[n]? = some f) (hf : FnB f) {j : Nat} (hj : j < f.code.length + 2) {fr : Fr} {σ : H} (hJ : kjJ m r n j fr σ) :
    W Tryz.prog G0 151 0 (AC.seq (AC.seq (AC.reg zq2_9 [36, 37, 38, 39, 40, 41, 42])   (AC.cond (Arg.t 43)   AC.skip   (AC.exit 2)))   (AC.seq (AC.block 3 (AC.seq (AC.reg zq2_10 [47, 48, 49, 50, 51, 52, 53, 46, 54, 55])   (AC.seq (AC.reg zq2_11 [56, 57, 58, 59, 60, 61, 62, 63, 64, 65, 66, 67, 68, 69, 70, 71, 72, 73, 74, 75, 76, 77, 78, 79, 80, 81, 82, 83, 84, 85, 86, 87, 88, 89, 90, 91])   (AC.seq (AC.reg zq2_12 [92, 93, 94, 95, 96, 97, 98, 99, 100, 101, 102, 103, 104, 105, 106, 107, 108, 109, 110, 111, 112, 113, 114, 115, 116, 117, 118, 119, 120, 121, 122, 123, 124, 125, 126, 127, 128, 129, 130, 131, 132, 133, 134, 135, 136, 137, 138, 139, 140])   (AC.cond (Arg.t 141)   (AC.seq (AC.reg zq2_13 [])   AC.ret)   AC.skip)))))   (AC.reg zq2_14 [44, 45]))) fr σ (seqQ (fun fr σ => ∃ fr' σ', Shift G0 151 0 fr σ fr' σ' ∧ kjJ m r n (j + 1) fr' σ') (kjE m r n)) := by
  obtain ⟨t, o, f1, f3, f5, f6, rfl⟩ := hJ
  have hlt := (List.getElem?_eq_some_iff.1 hn).1
  have hl := hf.len
  have hpl := hf.pl
  have hD : (r.map fun f => V.agg (fC f)).getD n V.any = .agg [.str f.name, .int .i64 f.pl, .lst 5 (f.code.map fun x => V.agg [.int .u8 x.op, .int .u8 x.rd, .int .u8 x.rs1, .int .u8 x.rs2, .int .i64 x.imm]) false, .int .i64 f.frame, .lst 1 (ints f.cuts) false] := by simp [List.getD_eq_getElem?_getD, hn]; rfl
  simp only [fC, fnC, insV, cutsV, inC] at hD
  obtain ⟨i, hi⟩ : ∃ i : Int, i = (j : Int) - 1 := ⟨_, rfl⟩
  rw [← hi] at f6
  have hC := c_Callee hT r hrl f hf i (by omega)
  have hnl : namelessL [funsV r, .agg (fC f), .int .i64 i] = true := by simp [namelessL, nameless, funsV, fC, fn_nl]
  have hle : decide (i ≤ (f.code.length : Int)) = true := decide_eq_true (by omega)
  have hle' : (i ≤ (f.code.length : Int)) = True := eq_true (by omega)
  have w1 : IntKind.i64.wrap (i + 1) = ((j + 1 : Nat) : Int) - 1 := by rw [wself (by omega)]; omega
  have hcase : (calI r f i = none ∧ (i < 0 ∨ (f.code.length : Int) ≤ i ∨ ∃ k x, i = (k : Nat) ∧ k < f.code.length ∧ f.code[k]? = some x ∧ (x.op ≠ 3 ∨ (x.op = 3 ∧ x.rd ≠ 1)))) ∨ (∃ (k q : Nat) (x : In) (g : Rg.Fn), i = k ∧ k < f.code.length ∧ f.code[k]? = some x ∧ x.op = 3 ∧ x.rd = 1 ∧ calI r f i = some q ∧ r[q]? = some g ∧ g.pl = f.pl + 4 * i + x.imm ∧ (-8589934592 ≤ x.imm ∧ x.imm ≤ 8589934592)) := by
    by_cases h0 : i < 0
    · exact .inl ⟨by unfold calI nth; rw [if_pos h0], .inl h0⟩
    obtain ⟨k, rfl⟩ : ∃ k : Nat, i = k := ⟨i.toNat, by omega⟩
    by_cases h1 : f.code.length ≤ k
    · exact .inl ⟨by unfold calI; rw [nth_nat, List.getElem?_eq_none h1], .inr (.inl (by omega))⟩
    have hlk : k < f.code.length := by omega
    obtain ⟨x, hx⟩ : ∃ x, f.code[k]? = some x := ⟨_, List.getElem?_eq_getElem hlk⟩
    by_cases hc : x.op = 3 ∧ x.rd = 1
    · obtain ⟨q, g, h1, h2, h3⟩ := calI_call hof hn hx hc
      exact .inr ⟨k, q, x, g, rfl, hlk, hx, hc.1, hc.2, h1, h2, h3, hf.imm x (List.mem_of_getElem? hx)⟩
    · refine .inl ⟨by unfold calI; rw [nth_nat, hx]; simp only [if_neg hc], .inr (.inr ⟨k, x, rfl, hlk, hx, ?_⟩)⟩
      by_cases h3 : x.op = 3
      · exact .inr ⟨h3, fun h => hc ⟨h3, h⟩⟩
      · exact .inl h3
  simp only [funsV, fC, fnC, insV, cutsV, inC] at hC hnl
  refine W_round [(1, .ref (.agg (imgC m)) 0), (3, .lst 5 (r.map fun f => V.agg (fC f)) false), (5, .int .i64 ((n : Nat) : Int)), (6, .int .i64 i)] ⟨f1, f3, f5, f6, trivial⟩  12 ?_
  simp -implicitDefEqProofs (disch := omega) only [go_sem, need_of, ↓reduceIte, Nat.reduceAdd, Nat.reduceEqDiff, Nat.reduceLeDiff, Nat.zero_add, decide_true, zq2_9, zq2_10, zq2_11, zq2_12, zq2_13, zq2_14, inC, insV, fC, fnC, cutsV, V.cells, List.length_map, true_implies, and_true, hlt, hD, hle']
  iterate 6 (try (refine run_sem 4 ?_; simp -implicitDefEqProofs (disch := omega) only [go_sem, need_of, ↓reduceIte, reduceCtorEq, Nat.reduceAdd, Nat.reduceEqDiff, Nat.zero_add, Nat.le_refl, V.cells, List.length_map, false_implies, and_true, hlt, hD]))
  refine callPS hT t_regions_Callee hC hnl 4 ?_
  rcases hcase with ⟨hc, h⟩ | ⟨k, q, x, g, rfl, hlk, hx, h3, h4, hc, hg, hge, hxb⟩
  · rw [hc]
    simp only [calV]
    rcases h with h | h | ⟨k, x, rfl, hlk, hx, h⟩
    · have g0 : decide (0 ≤ i) = false := decide_eq_false (by omega)
      have g0' : (0 ≤ i) = False := eq_false (by omega)
      simp -implicitDefEqProofs (disch := omega) only [go_sem, ↓reduceIte, Nat.reduceAdd, Nat.reduceEqDiff, Nat.reduceLT, Nat.zero_add]
      iterate 30 (try (refine run_sem 4 ?_; simp -implicitDefEqProofs (disch := omega) only [go_sem, ↓reduceIte, Nat.reduceAdd, Nat.reduceEqDiff, Nat.zero_add, decide_false, Bool.not_false, ge_iff_le, bne_self_eq_false, Bool.not_false, ge_iff_le, g0', w1]))
      exact ⟨_, _, Shift.refl _ _ _ _, _, _, rfl, rfl, rfl, rfl, rfl⟩
    · have g0 : decide (0 ≤ i) = true := decide_eq_true (by omega)
      have g0' : (0 ≤ i) = True := eq_true (by omega)
      have g1 : decide (i < (f.code.length : Int)) = false := decide_eq_false (by omega)
      have g1' : (i < (f.code.length : Int)) = False := eq_false (by omega)
      simp -implicitDefEqProofs (disch := omega) only [go_sem, ↓reduceIte, Nat.reduceAdd, Nat.reduceEqDiff, Nat.reduceLT, Nat.zero_add]
      iterate 30 (try (refine run_sem 4 ?_; simp -implicitDefEqProofs (disch := omega) only [go_sem, need_of, ↓reduceIte, Nat.reduceAdd, Nat.reduceEqDiff, Nat.reduceLeDiff, Nat.zero_add, decide_true, decide_false, Bool.not_false, ge_iff_le, bne_self_eq_false, V.cells, List.length_map, true_implies, and_true, Bool.not_false, ge_iff_le, g0', g1', hlt, hD, w1]))
      exact ⟨_, _, Shift.refl _ _ _ _, _, _, rfl, rfl, rfl, rfl, rfl⟩
    · have hDk := ins_getD hx
      simp only [inC] at hDk
      have g0 : decide (0 ≤ (k : Int)) = true := decide_eq_true (by omega)
      have g0' : (0 ≤ (k : Int)) = True := eq_true (by omega)
      have g1 : decide ((k : Int) < (f.code.length : Int)) = true := decide_eq_true (by omega)
      have g1' : ((k : Int) < (f.code.length : Int)) = True := eq_true (by omega)
      rcases h with h | ⟨h, h'⟩
      · have g2 : (x.op == 3) = false := by simp [h]
        simp -implicitDefEqProofs (disch := omega) only [go_sem, ↓reduceIte, Nat.reduceAdd, Nat.reduceEqDiff, Nat.reduceLT, Nat.zero_add]
        iterate 30 (try (refine run_sem 4 ?_; simp -implicitDefEqProofs (disch := omega) only [go_sem, need_of, ↓reduceIte, Nat.reduceAdd, Nat.reduceEqDiff, Nat.reduceLeDiff, Nat.zero_add, Nat.add_zero, decide_true, Bool.not_false, ge_iff_le, bne_self_eq_false, V.cells, List.length_map, true_implies, and_true, Bool.not_false, ge_iff_le, g0', g1', g2, hlt, hlk, hD, hDk, w1]))
        exact ⟨_, _, Shift.refl _ _ _ _, _, _, rfl, rfl, rfl, rfl, rfl⟩
      · have g2 : (x.op == 3) = true := by simp [h]
        have g3 : (x.rd == 1) = false := by simp [h']
        simp -implicitDefEqProofs (disch := omega) only [go_sem, ↓reduceIte, Nat.reduceAdd, Nat.reduceEqDiff, Nat.reduceLT, Nat.zero_add]
        iterate 30 (try (refine run_sem 4 ?_; simp -implicitDefEqProofs (disch := omega) only [go_sem, need_of, ↓reduceIte, Nat.reduceAdd, Nat.reduceEqDiff, Nat.reduceLeDiff, Nat.zero_add, Nat.add_zero, decide_true, Bool.not_false, ge_iff_le, bne_self_eq_false, V.cells, List.length_map, true_implies, and_true, Bool.not_false, ge_iff_le, g0', g1', g2, g3, hlt, hlk, hD, hDk, w1]))
        exact ⟨_, _, Shift.refl _ _ _ _, _, _, rfl, rfl, rfl, rfl, rfl⟩
  · rw [hc]
    simp only [calV]
    have hDk := ins_getD hx
    simp only [inC] at hDk
    have g0 : decide (0 ≤ (k : Int)) = true := decide_eq_true (by omega)
    have g0' : (0 ≤ (k : Int)) = True := eq_true (by omega)
    have g1 : decide ((k : Int) < (f.code.length : Int)) = true := decide_eq_true (by omega)
    have g1' : ((k : Int) < (f.code.length : Int)) = True := eq_true (by omega)
    have g2 : (x.op == 3) = true := by simp [h3]
    have g3 : (x.rd == 1) = true := by simp [h4]
    have hql := (List.getElem?_eq_some_iff.1 hg).1
    have hDg : (r.map fun f => V.agg (fC f)).getD q V.any = .agg [.str g.name, .int .i64 g.pl, .lst 5 (g.code.map fun x => V.agg [.int .u8 x.op, .int .u8 x.rd, .int .u8 x.rs1, .int .u8 x.rs2, .int .i64 x.imm]) false, .int .i64 g.frame, .lst 1 (ints g.cuts) false] := by simp [List.getD_eq_getElem?_getD, hg]; rfl
    simp only [fC, fnC, insV, cutsV, inC] at hDg
    have p0 : decide ((q : Int) < 0) = false := decide_eq_false (by omega)
    have p0' : ((q : Int) < 0) = False := eq_false (by omega)
    have p1 : decide ((r.length : Int) ≤ (q : Int)) = false := decide_eq_false (by omega)
    have p1' : ((r.length : Int) ≤ (q : Int)) = False := eq_false (by omega)
    have w2 : IntKind.i64.wrap (4 * (k : Int)) = 4 * (k : Int) := wself (by omega)
    have w3 : IntKind.i64.wrap (f.pl + 4 * (k : Int)) = f.pl + 4 * (k : Int) := wself (by omega)
    have w4 : IntKind.i64.wrap (f.pl + 4 * (k : Int) + x.imm) = g.pl := by rw [wself (by omega), hge]
    simp -implicitDefEqProofs (disch := omega) only [go_sem, ↓reduceIte, Nat.reduceAdd, Nat.reduceEqDiff, Nat.reduceLT, Nat.zero_add]
    iterate 30 (try (refine run_sem 4 ?_; simp -implicitDefEqProofs (disch := omega) only [go_sem, need_of, ↓reduceIte, Nat.reduceAdd, Nat.reduceEqDiff, Nat.reduceLeDiff, Nat.zero_add, Nat.add_zero, decide_true, decide_false, Bool.not_true, Nat.le_refl, ge_iff_le, bne_self_eq_false, V.cells, List.length_map, true_implies, and_true, Bool.not_true, ge_iff_le, g0', g1', g2, g3, hlt, hlk, hql, hD, hDk, hDg, w1, w2, w3, w4, p0', p1']))
    exact ⟨_, _, Shift.refl _ _ _ _, _, _, rfl, rfl, rfl, rfl, rfl⟩
abbrev knJ (m : Im) (r : List Rg.Fn) : Nat → Fr → H → Prop := fun n fr σ => ∃ t o, fget fr 1 = .ref (.agg (imgC m)) 0 ∧ fget fr 3 = .lst 5 (r.map fun f => V.agg (fC f)) false ∧ fget fr 5 = .int .i64 ((n : Nat) : Int) ∧ σ = ⟨t, o⟩
abbrev knE (m : Im) (r : List Rg.Fn) : AE → Fr → H → Prop := fun e fr σ => ∃ t o, e = .ex 0 ∧ fget fr 1 = .ref (.agg (imgC m)) 0 ∧ fget fr 3 = .lst 5 (r.map fun f => V.agg (fC f)) false ∧ σ = ⟨t, o⟩
theorem kn_round (hT : TabOk Tryz.prog tab) {m : Im} {r : List Rg.Fn} (hof : ofS m = .inl r) (hw : ∀ w ∈ m.code, 0 ≤ w ∧ w < 4294967296) (hml : m.code.length ≤ 1000) (hrl : r.length ≤ 1000) {n : Nat} {f : Rg.Fn} (hn : r[n]? = some f) {fr : Fr} {σ : H} (hJ : knJ m r n fr σ) :
    W Tryz.prog G0 151 0 (AC.seq (AC.seq (AC.reg zq2_7 [30, 31, 32])   (AC.cond (Arg.t 33)   AC.skip   (AC.exit 0)))   (AC.seq (AC.block 1 (AC.seq (AC.reg zq2_8 [])   (AC.block 2 (AC.loop (AC.seq (AC.seq (AC.reg zq2_9 [36, 37, 38, 39, 40, 41, 42])   (AC.cond (Arg.t 43)   AC.skip   (AC.exit 2)))   (AC.seq (AC.block 3 (AC.seq (AC.reg zq2_10 [47, 48, 49, 50, 51, 52, 53, 46, 54, 55])   (AC.seq (AC.reg zq2_11 [56, 57, 58, 59, 60, 61, 62, 63, 64, 65, 66, 67, 68, 69, 70, 71, 72, 73, 74, 75, 76, 77, 78, 79, 80, 81, 82, 83, 84, 85, 86, 87, 88, 89, 90, 91])   (AC.seq (AC.reg zq2_12 [92, 93, 94, 95, 96, 97, 98, 99, 100, 101, 102, 103, 104, 105, 106, 107, 108, 109, 110, 111, 112, 113, 114, 115, 116, 117, 118, 119, 120, 121, 122, 123, 124, 125, 126, 127, 128, 129, 130, 131, 132, 133, 134, 135, 136, 137, 138, 139, 140])   (AC.cond (Arg.t 141)   (AC.seq (AC.reg zq2_13 [])   AC.ret)   AC.skip)))))   (AC.reg zq2_14 [44, 45])))))))   (AC.reg zq2_15 [34, 35]))) fr σ (seqQ (fun fr σ => ∃ fr' σ', Shift G0 151 0 fr σ fr' σ' ∧ knJ m r (n + 1) fr' σ') (knE m r)) := by
  obtain ⟨t, o, f1, f3, f5, rfl⟩ := hJ
  have hlt := (List.getElem?_eq_some_iff.1 hn).1
  have hf := fnB_of hof hw hml hn
  have hl := hf.len
  have e2 := wnext hlt (by omega)
  refine W_round [(1, .ref (.agg (imgC m)) 0), (3, .lst 5 (r.map fun f => V.agg (fC f)) false), (5, .int .i64 ((n : Nat) : Int))] ⟨f1, f3, f5, trivial⟩  20 ?_
  simp -implicitDefEqProofs (disch := omega) only [go_sem, ↓reduceIte, Nat.reduceEqDiff, decide_true, zq2_7, zq2_8, zq2_9, zq2_10, zq2_11, zq2_12, zq2_13, zq2_14, zq2_15, inC, insV, fC, fnC, cutsV, List.length_map, hlt]
  refine sem_for (List.range (f.code.length + 2)) (kjJ m r n) (kjE m r n) ⟨t, o, ?_⟩ (fun j x hj fr σ hJ => kj_round hT hof hrl hn hf (by have := (List.getElem?_eq_some_iff.1 hj).1; simpa using this) hJ) (fun j hj fr σ hJ => ?_) (fun e fr σ hE => ?_)
  · simp -implicitDefEqProofs (disch := omega) only [go_sem, ↓reduceIte, Nat.reduceEqDiff, inC, insV, fC, fnC, cutsV, true_and, and_true]
    try simp
  · obtain ⟨t2, o2, f1, f3, f5, f6, rfl⟩ := hJ
    rw [List.length_range] at hj
    have hD : (r.map fun f => V.agg (fC f)).getD n V.any = .agg [.str f.name, .int .i64 f.pl, .lst 5 (f.code.map fun x => V.agg [.int .u8 x.op, .int .u8 x.rd, .int .u8 x.rs1, .int .u8 x.rs2, .int .i64 x.imm]) false, .int .i64 f.frame, .lst 1 (ints f.cuts) false] := by simp [List.getD_eq_getElem?_getD, hn]; rfl
    simp only [fC, fnC, insV, cutsV, inC] at hD
    obtain ⟨i, hi⟩ : ∃ i : Int, i = (j : Int) - 1 := ⟨_, rfl⟩
    rw [← hi] at f6
    have hle : decide (i ≤ (f.code.length : Int)) = false := decide_eq_false (by omega)
    have hle' : (i ≤ (f.code.length : Int)) = False := eq_false (by omega)
    refine W_round [(1, .ref (.agg (imgC m)) 0), (3, .lst 5 (r.map fun f => V.agg (fC f)) false), (5, .int .i64 ((n : Nat) : Int)), (6, .int .i64 i)] ⟨f1, f3, f5, f6, trivial⟩  20 ?_
    simp -implicitDefEqProofs (disch := omega) only [go_sem, need_of, ↓reduceIte, Nat.reduceAdd, Nat.reduceEqDiff, Nat.reduceLeDiff, Nat.zero_add, decide_false, inC, insV, fC, fnC, cutsV, V.cells, List.length_map, true_implies, and_true, hlt, hD, hle']
    exact ⟨t2, o2, rfl, rfl, rfl, rfl, rfl⟩
  · obtain ⟨t2, o2, rfl, f1, f3, f5, rfl⟩ := hE
    refine sem_exit2 [(1, .ref (.agg (imgC m)) 0), (3, .lst 5 (r.map fun f => V.agg (fC f)) false), (5, .int .i64 ((n : Nat) : Int))] ⟨f1, f3, f5, trivial⟩ 12 ?_
    simp -implicitDefEqProofs (disch := omega) only [go_sem, ↓reduceIte, Nat.reduceEqDiff, inC, insV, fC, fnC, cutsV, e2]
    exact ⟨_, _, Shift.refl _ _ _ _, t2, o2, rfl, rfl, rfl, rfl⟩
theorem c_RegionsCalls (hT : TabOk Tryz.prog tab) (m : Im) (hsn : ∀ s ∈ m.syms, s.1.length ≤ 9223372036854775807) (hw : ∀ w ∈ m.code, 0 ≤ w ∧ w < 4294967296) :
    Am.Pure Tryz.prog G0 n_proofmarklaw22_RegionsCalls [imgV m] fun v => v = .bool true := by
  have hWk := c_works hT
  have hin := img_nl m
  intro t
  refine C_keep 0 (Nat.zero_le _) (C_tab hT t_proofmarklaw22_RegionsCalls (by simp [proofmarklaw22_RegionsCalls]) (W_run 5 ?_))
  simp -implicitDefEqProofs (disch := omega) only [go_sem, ↓reduceIte, reduceCtorEq, Nat.reduceEqDiff, proofmarklaw22_RegionsCalls, zq2_0, zq2_1, zq2_2, zq2_3, zq2_4, zq2_5, zq2_6, zq2_7, zq2_8, zq2_9, zq2_10, zq2_11, zq2_12, zq2_13, zq2_14, zq2_15, zq2_16, V.cells, and_true, List.nil_append, imgV, imgC, symsV, codeV]
  refine sem_shift (Shift.freeze (k := 0) (v := t) (T := 25) (cs := imgC m) (Nat.zero_le _) rfl (imgC_nl m)) ?_
  simp only [imgC, symsV, codeV, frzFr_cons, frzFr_nil, frzL, frzV, mapFrom, List.set_cons_zero, Option.map_none]
  refine run_sem 8 ?_
  by_cases g1 : 150 < m.code.length
  · have g1' : decide ((150 : Int) < (m.code.length : Int)) = true := decide_eq_true (by omega)
    have g1'' : ((150 : Int) < (m.code.length : Int)) = True := eq_true (by omega)
    simp -implicitDefEqProofs (disch := omega) only [go_sem, ↓reduceIte, reduceCtorEq, Nat.reduceAdd, Nat.reduceEqDiff, Nat.zero_add, decide_true, Nat.le_refl, gt_iff_lt, V.cells, List.length_map, true_implies, and_true, gt_iff_lt, g1'']
    iterate 6 (try (refine run_sem 8 ?_; simp -implicitDefEqProofs (disch := omega) only [go_sem, ↓reduceIte, reduceCtorEq, Nat.reduceEqDiff]))
    refine callPS hT t_proofmarklaw22_works hWk rfl 8 ?_
    simp -implicitDefEqProofs (disch := omega) only [go_sem, ↓reduceIte, reduceCtorEq, Nat.reduceEqDiff, Nat.zero_add, Nat.zero_le, and_true]
  have g1' : decide ((150 : Int) < (m.code.length : Int)) = false := decide_eq_false (by omega)
  have g1'' : ((150 : Int) < (m.code.length : Int)) = False := eq_false (by omega)
  by_cases g2 : 20 < m.syms.length
  · have g2' : decide ((20 : Int) < (m.syms.length : Int)) = true := decide_eq_true (by omega)
    have g2'' : ((20 : Int) < (m.syms.length : Int)) = True := eq_true (by omega)
    simp -implicitDefEqProofs (disch := omega) only [go_sem, ↓reduceIte, reduceCtorEq, Nat.reduceAdd, Nat.reduceEqDiff, Nat.zero_add, decide_false, Nat.le_refl, gt_iff_lt, V.cells, List.length_map, true_implies, and_true, gt_iff_lt, g1'']
    iterate 6 (try (refine run_sem 8 ?_; simp -implicitDefEqProofs (disch := omega) only [go_sem, ↓reduceIte, reduceCtorEq, Nat.reduceAdd, Nat.reduceEqDiff, Nat.reduceLeDiff, Nat.zero_add, decide_true, gt_iff_lt, V.cells, List.length_map, true_implies, and_true, gt_iff_lt, g2'']))
    refine callPS hT t_proofmarklaw22_works hWk rfl 8 ?_
    simp -implicitDefEqProofs (disch := omega) only [go_sem, ↓reduceIte, reduceCtorEq, Nat.reduceEqDiff, Nat.zero_add, Nat.zero_le, and_true]
  have g2' : decide ((20 : Int) < (m.syms.length : Int)) = false := decide_eq_false (by omega)
  have g2'' : ((20 : Int) < (m.syms.length : Int)) = False := eq_false (by omega)
  have hO := c_Of hT m ⟨by omega, by omega, hsn⟩ hw (by omega)
  simp only [imgV, imgC, symsV, codeV] at hO hin
  simp -implicitDefEqProofs (disch := omega) only [go_sem, ↓reduceIte, reduceCtorEq, Nat.reduceAdd, Nat.reduceEqDiff, Nat.zero_add, decide_false, Nat.le_refl, gt_iff_lt, V.cells, List.length_map, true_implies, and_true, gt_iff_lt, g1'']
  iterate 6 (try (refine run_sem 8 ?_; simp -implicitDefEqProofs (disch := omega) only [go_sem, ↓reduceIte, reduceCtorEq, Nat.reduceAdd, Nat.reduceEqDiff, Nat.reduceLeDiff, Nat.zero_add, decide_false, Nat.le_refl, gt_iff_lt, V.cells, List.length_map, false_implies, true_implies, and_true, gt_iff_lt, g2'']))
  refine callPS hT t_regions_Of hO hin 8 ?_
  cases hr : ofS m with
  | inr e =>
    obtain ⟨a, b, e⟩ := e
    have hne : e ≠ 0 := by
      unfold ofS at hr
      split at hr
      · exact readAll_ne hr
      · simp only [Sum.inr.injEq, Prod.mk.injEq] at hr; omega
    have hne' : (e != 0) = true := by simp [hne]
    simp only [ofV, funsV, List.map_nil]
    simp -implicitDefEqProofs (disch := omega) only [go_sem, ↓reduceIte, reduceCtorEq, Nat.reduceAdd, Nat.reduceEqDiff, Nat.reduceLT, Nat.zero_add, Bool.not_false, Nat.le_refl, Nat.zero_le, V.cells, and_true, Bool.not_false, List.cons_append, List.nil_append, flt]
    iterate 4 (try (refine run_sem 8 ?_; simp -implicitDefEqProofs (disch := omega) only [go_sem, ↓reduceIte, reduceCtorEq, Nat.reduceAdd, Nat.reduceEqDiff, Nat.zero_add, Nat.le_refl, true_implies, and_true, hne']))
    refine callPS hT t_proofmarklaw22_works hWk rfl 8 ?_
    simp -implicitDefEqProofs (disch := omega) only [go_sem, ↓reduceIte, reduceCtorEq, Nat.reduceAdd, Nat.reduceEqDiff, Nat.zero_add, Nat.zero_le, and_true]
  | inl r =>
    have hlen := (ofS_good hr).2.1
    simp only [ofV, funsV]
    simp -implicitDefEqProofs (disch := omega) only [go_sem, ↓reduceIte, reduceCtorEq, Nat.reduceAdd, Nat.reduceEqDiff, Nat.reduceLT, Nat.zero_add, Bool.not_false, Nat.le_refl, Nat.zero_le, inC, insV, fC, fnC, cutsV, V.cells, and_true, Bool.not_false, List.cons_append, List.nil_append, flt]
    iterate 4 (try (refine run_sem 8 ?_; simp -implicitDefEqProofs (disch := omega) only [go_sem, ↓reduceIte, reduceCtorEq, Nat.reduceAdd, Nat.reduceEqDiff, Nat.zero_add, Nat.le_refl, bne_self_eq_false, true_implies, and_true]))
    refine sem_for r (knJ m r) (knE m r) (by exact ⟨_, _, rfl, rfl, rfl, rfl⟩) (fun n f hn fr σ hJ => kn_round hT hr hw (by omega) (by omega) hn hJ) (fun n hn fr σ hJ => ?_) (fun e fr σ hE => ?_)
    · obtain ⟨t2, o, f1, f3, f5, rfl⟩ := hJ
      refine W_round [(1, .ref (.agg (imgC m)) 0), (3, .lst 5 (r.map fun f => V.agg (fC f)) false), (5, .int .i64 ((n : Nat) : Int))] ⟨f1, f3, f5, trivial⟩  12 ?_
      simp -implicitDefEqProofs (disch := omega) only [go_sem, ↓reduceIte, Nat.reduceEqDiff, decide_false, inC, insV, fC, fnC, cutsV, List.length_map, hn, Nat.lt_irrefl]
      exact ⟨t2, o, rfl, rfl, rfl, rfl⟩
    · obtain ⟨t2, o, rfl, f1, f3, rfl⟩ := hE
      refine sem_exit [(1, .ref (.agg (imgC m)) 0), (3, .lst 5 (r.map fun f => V.agg (fC f)) false)] ⟨f1, f3, trivial⟩ 12 ?_
      have hl' : ((r.length : Int) == (m.syms.length : Int)) = true := by simp [hlen]
      have hl'' : ((r.length : Int) = (m.syms.length : Int)) = True := eq_true (by omega)
      simp -implicitDefEqProofs (disch := omega) only [go_sem, ↓reduceIte, Nat.reduceAdd, Nat.reduceEqDiff, Nat.reduceLeDiff, Nat.zero_add, inC, insV, fC, fnC, cutsV, V.cells, List.length_map, true_implies, and_true, imgC, symsV, codeV, hl']
      iterate 2 (try (refine run_sem 8 ?_; simp -implicitDefEqProofs (disch := omega) only [go_sem, need_of, ↓reduceIte, reduceCtorEq, Nat.reduceAdd, Nat.reduceEqDiff, Nat.reduceLeDiff, Nat.reduceLT, Nat.reduceSub, Nat.reduceMul, Int.reduceToNat, Int.reduceLE, Int.reduceLT, Int.reduceEq, Int.reduceNe, Nat.succ_ne_zero, Nat.zero_add, Nat.add_zero, Nat.mul_one, Nat.one_mul, Nat.zero_mul, decide_true, decide_false, Bool.not_true, Bool.not_false, Nat.le_refl, Nat.zero_le, ge_iff_le, gt_iff_lt, Nat.reduceBEq, Nat.reduceBNe, beq_self_eq_true, bne_self_eq_false, Option.isSome_some, Option.isSome_none, Option.getD_some, Option.getD_none, proofmarklaw22_RegionsCalls, zq2_0, zq2_1, zq2_2, zq2_3, zq2_4, zq2_5, zq2_6, zq2_7, zq2_8, zq2_9, zq2_10, zq2_11, zq2_12, zq2_13, zq2_14, zq2_15, zq2_16, inC, insV, fC, fnC, cutsV, V.cells, List.length_map, ints_length, false_implies, true_implies, true_and, and_true, not_true_eq_false, not_false_eq_true, Int.reduceBEq, Int.reduceBNe, Bool.not_true, Bool.not_false, List.cons_append, List.nil_append, ge_iff_le, gt_iff_lt, imgV, imgC, symsV, codeV, flt, hl', hl'']))
      refine callPS hT t_proofmarklaw22_works hWk rfl 8 ?_
      simp -implicitDefEqProofs (disch := omega) only [go_sem, ↓reduceIte, Nat.reduceEqDiff, Nat.zero_le, and_true]
end Go.Proofs.YtaidbdgndljaeaaGreatDoor
