/- Text: walked. -/
import Derived.Test.YtkhdfbokkneeaaaDoorRw5
import Derived.Test.YtkhdfbokkneeaaaDoorRvH
import Derived.Test.YtkhdfbokkneeaaaDoorAmD
namespace Go.Proofs.YtkhdfbokkneeaaaDoor
open Go Go.Am Go.Rv
set_option maxRecDepth 100000

theorem C_hpre {P : Program} {G : Nat → Option V} {base f : Nat} {args : List V} {σ σ' : H} {Q : V → H → Prop} (s : HShift G base σ σ') (h : C P G base f args σ' Q) : C P G base f args σ Q := fun I ρ w xs hR hb hc => by
  obtain ⟨I1, ρ1, R1, S1, hb1⟩ := s I ρ w hR hb
  exact (h I1 ρ1 w xs R1 hb1 ⟨hc.1, fun j v x h1 h2 => (hc.2 j v x h1 h2).mono S1.imms S1.names⟩).mono fun e w' ⟨v, x, I', ρ', σ2, h1, h2, h3, h4, h5, h6⟩ => ⟨v, x, I', ρ', σ2, h1, h2, h3, S1.trans h4, h5, h6⟩

/-- What is asked of the library: numbers and joins as text. -/
structure Lb (P : Program) where
  fmt : Int → List UInt8
  ok : NumOk fmt
  le : ∀ i, (fmt i).length ≤ 24
  last : ∀ i, i64 i → lastOk (fmt i)
  int : ∀ i : Int, i64 i → Pure P G0 n_strconv_FormatInt [.int .i64 i, .int .i64 10] fun v => v = .str (fmt i)
  itoa : ∀ i : Int, i64 i → Pure P G0 n_strconv_Itoa [.int .i64 i] fun v => v = .str (fmt i)
  join : ∀ (base k v t : Nat) (o : List (Option Ob)) (ps : List (List UInt8)) (n : Nat), o[k]? = some (some (.arr v 9 (ps.map V.str))) → n = ps.length → (∀ p ∈ ps, p.length ≤ 1000) → n ≤ 100 →
    C P G0 base n_strings_Join [.sl k v 0 1 n none, .str [44, 32]] ⟨t, o⟩ fun u σ' => u = .str (Lib.join ps [44, 32]) ∧ σ' = ⟨t, o⟩
  trim : ∀ s : List UInt8, s.length ≤ 1000000 → Pure P G0 n_strings_TrimSuffix [.str s, .str [32]] fun v => v = .str (Lib.trimSuffix s [32])

def tS (t t2 r : Nat) (x : In) (fc : List V) (ps : List (List UInt8)) : List (Option Ob) :=
  [some (.arr t 24 (inC x)), some (.arr (t + 1) 48 fc), some (.arr t2 41 [.sl 3 r 0 1 ps.length none]), some (.arr r 9 (ps.map V.str))]

theorem c_add {P : Program} (hT : TabOk P tab) (F : Lb P) (b : Bool) (a : Int) (ha : 0 ≤ a ∧ a ≤ 255) {t0 t t2 r : Nat} {x : In} {fc : List V} {ps : List (List UInt8)} (hps : ps.length ≤ 3) :
    C P G0 0 n_rv_Text_S1 [.bool b, .int .u8 a, .ptr 2 t2 0] ⟨t0, tS t t2 r x fc ps⟩ fun v σ => v = .tup [] ∧ ∃ t' r', σ = ⟨t', tS t t2 r' x fc (ps ++ if b then [120 :: F.fmt a] else [])⟩ := by
  cases b with
  | false =>
    refine C_tab hT t_rv_Text_S1 (by simp [rv_Text_S1]) (W_run 1000 ?_)
    simp -implicitDefEqProofs (disch := omega) only [go_sem, ↓reduceIte, reduceCtorEq, Nat.reduceAdd, Nat.reduceEqDiff, Nat.zero_add, rv_Text_S1, rv_Text_S1_r0, rv_Text_S1_r1, tS]
    exact ⟨_, r, rfl, by simp⟩
  | true =>
    refine C_tab hT t_rv_Text_S1 (by simp [rv_Text_S1]) (W_run 1000 ?_)
    have hw : IntKind.i64.wrap a = a := wrap_id _ (by simp [IntKind.min, IntKind.signed, IntKind.bits]; omega) (by simp [IntKind.max, IntKind.signed, IntKind.bits]; omega)
    simp -implicitDefEqProofs (disch := omega) only [go_sem, ↓reduceIte, reduceCtorEq, Nat.reduceAdd, Nat.reduceEqDiff, Nat.zero_add, Nat.le_refl, rv_Text_S1, rv_Text_S1_r0, rv_Text_S1_r1, tS, hw]
    refine callP hT t_strconv_Itoa (F.itoa a ⟨by omega, by omega⟩) rfl 1000 fun v hv => ?_
    subst hv
    simp -implicitDefEqProofs (disch := omega) only [go_sem, need_of, ↓reduceIte, reduceCtorEq, Nat.reduceEqDiff, Nat.reduceLeDiff, Nat.zero_add, Nat.mul_one, Bool.not_true, Bool.not_false, Nat.le_refl, Nat.zero_le, List.length_map]
    exact ⟨by have := F.le a; omega, _, t0, rfl, by simp⟩

theorem join_len : ∀ l : List (List UInt8), (∀ p ∈ l, p.length ≤ 1000) → (Lib.join l [44, 32]).length ≤ 1002 * l.length
  | [], _ => by simp [Lib.join_nil]
  | [p], h => by rw [Lib.join_one]; have := h p (by simp); simp; omega
  | p :: q :: l, h => by
    have ih := join_len (q :: l) (fun r hr => h r (by simp at hr ⊢; right; exact hr))
    have hp := h p (by simp)
    rw [Lib.join_cons, Lib.joinTail, List.map_cons, List.flatten_cons]
    rw [Lib.join_cons, Lib.joinTail] at ih
    simp only [List.length_append, List.length_cons, List.length_nil] at ih ⊢
    omega
theorem T_nl : ∀ r ∈ T, r.name.length ≤ 100 := by decide +kernel
theorem last_cons {c : UInt8} {s : List UInt8} (h : lastOk s) : lastOk (c :: s) := by
  obtain ⟨u, d, rfl, hd⟩ := h
  exact ⟨c :: u, d, rfl, hd⟩
theorem bits_pos {f : Int} (h : f = 82 ∨ f = 87 ∨ f = 73 ∨ f = 72 ∨ f = 83 ∨ f = 66 ∨ f = 85 ∨ f = 74 ∨ f = 69) : (0 < (bitsOf f).length ↔ ¬ (f = 82 ∨ f = 69)) := by
  rcases h with rfl | rfl | rfl | rfl | rfl | rfl | rfl | rfl | rfl <;> decide

theorem c_Text (hT : TabOk Tryd.prog tab) (F : Lb Tryd.prog) (x : In) (hx : InOk x) : Pure Tryd.prog G0 n_rv_Text [.agg (inC x)] fun v => v = .str (txt F.fmt T x) := by
  have hE := c_Encode hT x hx
  obtain ⟨⟨o0, o1⟩, ⟨a0, a1⟩, ⟨b0, b1⟩, ⟨c0, c1⟩, hi⟩ := hx
  intro t
  by_cases he : (enc T x).2 = 0
  · obtain ⟨r, hk, p0, p1, _⟩ := enc_ok he
    have hrow : rowOf x.op = rowC r := by
      unfold rowOf
      rw [if_pos ⟨p0, p1⟩]
      have : x.op.toNat - 1 = (x.op - 1).toNat := by omega
      rw [this, List.getD_eq_getElem?_getD, hk]; rfl
    have hf := forms (T_good r (List.mem_of_getElem? hk))
    have htx : txt F.fmt T x = r.name ++ (glue (parts F.fmt r.form x)).tail := by
      unfold txt
      rw [if_pos he, List.getD_eq_getElem?_getD, hk]; rfl
    rw [htx]
    obtain ⟨y, hy, hyl⟩ := bitsV_len (bitsOf r.form)
    refine C_keep 0 (Nat.zero_le _) (C_tab hT t_rv_Text (by simp [rv_Text]) (W_run 1000 ?_))
    simp -implicitDefEqProofs (disch := omega) only [go_sem, ↓reduceIte, reduceCtorEq, Nat.reduceAdd, Nat.reduceEqDiff, Nat.zero_add, Nat.le_refl, rv_Text, rv_Text_r0, rv_Text_r1, rv_Text_r2, rv_Text_r3, rv_Text_r4, rv_Text_r5, rv_Text_r6, rv_Text_r7, rv_Text_r8, rv_Text_r9, rv_Text_r10, rv_Text_r11, rv_Text_r12, inC]
    refine callP hT t_rv_Encode hE rfl 1000 fun v hv => ?_
    subst hv
    rw [he]
    simp -implicitDefEqProofs (disch := omega) only [go_sem, ↓reduceIte, reduceCtorEq, Nat.reduceAdd, Nat.reduceEqDiff, Nat.reduceLeDiff, Nat.reduceLT, Nat.zero_add, Nat.add_zero, bne_self_eq_false]
    refine callP hT t_rv_of (c_ofop hT x.op o0 o1) rfl 1000 fun v hv => ?_
    subst hv
    rw [hrow, show decide (1 ≤ x.op ∧ x.op ≤ 65) = true from by simp [p0, p1]]
    simp -implicitDefEqProofs (disch := omega) only [go_sem, ↓reduceIte, reduceCtorEq, Nat.reduceAdd, Nat.reduceEqDiff, Nat.reduceLeDiff, Nat.reduceLT, Nat.zero_add, Nat.add_zero, Bool.not_false, Nat.le_refl, Nat.zero_le, rowC, formC, hy, List.cons_append, List.nil_append]
    refine callK hT t_rv_Text_S1 (C_hpre (HShift.ownAt 1 9 (k := 2) (p := 0) (by omega) rfl rfl) (c_add hT F (hasRd r.form) x.rd ⟨a0, a1⟩ (t := t) (t2 := t + 1 + 1) (r := t + 1 + 1 + 1) (x := x)
      (fc := [V.bool (hasRd r.form), V.bool (hasR1 r.form), V.bool (hasR2 r.form), V.lst y (List.map (fun (b : Nat × Nat) => pr (b.1 : Int) (b.2 : Int)) (bitsOf r.form)) true, V.int IntKind.i64 (nghts r.form : Int), V.bool (isSgn r.form), V.int IntKind.u32 (maskOf r.form), V.str r.name, V.int IntKind.u32 (matchOf r)]) (ps := []) (by simp))) 1000 fun v σ hv => ?_
    obtain ⟨rfl, t1, r1, rfl⟩ := hv
    have l1 : ([] ++ if hasRd r.form then [120 :: F.fmt x.rd] else []).length ≤ 1 := by cases hasRd r.form <;> simp
    generalize hq1 : ([] ++ if hasRd r.form then [120 :: F.fmt x.rd] else []) = q1 at l1 ⊢
    simp -implicitDefEqProofs (disch := omega) only [go_sem, ↓reduceIte, reduceCtorEq, Nat.reduceAdd, Nat.reduceEqDiff, Nat.reduceLeDiff, Nat.zero_add, Nat.add_zero, tS, inC]
    refine callK hT t_rv_Text_S1 (c_add hT F (hasR1 r.form) x.rs1 ⟨b0, b1⟩ (t := t) (t2 := t + 1 + 1) (r := r1) (x := x)
      (fc := [V.bool (hasRd r.form), V.bool (hasR1 r.form), V.bool (hasR2 r.form), V.lst y (List.map (fun (b : Nat × Nat) => pr (b.1 : Int) (b.2 : Int)) (bitsOf r.form)) true, V.int IntKind.i64 (nghts r.form : Int), V.bool (isSgn r.form), V.int IntKind.u32 (maskOf r.form), V.str r.name, V.int IntKind.u32 (matchOf r)]) (ps := q1) (by omega)) 1000 fun v σ hv => ?_
    obtain ⟨rfl, t2, r2, rfl⟩ := hv
    have l2 : (q1 ++ if hasR1 r.form then [120 :: F.fmt x.rs1] else []).length ≤ 2 := by cases hasR1 r.form <;> simp <;> omega
    generalize hq2 : (q1 ++ if hasR1 r.form then [120 :: F.fmt x.rs1] else []) = q2 at l2 ⊢
    simp -implicitDefEqProofs (disch := omega) only [go_sem, ↓reduceIte, reduceCtorEq, Nat.reduceAdd, Nat.reduceEqDiff, Nat.reduceLeDiff, Nat.zero_add, Nat.add_zero, tS, inC]
    refine callK hT t_rv_Text_S1 (c_add hT F (hasR2 r.form) x.rs2 ⟨c0, c1⟩ (t := t) (t2 := t + 1 + 1) (r := r2) (x := x)
      (fc := [V.bool (hasRd r.form), V.bool (hasR1 r.form), V.bool (hasR2 r.form), V.lst y (List.map (fun (b : Nat × Nat) => pr (b.1 : Int) (b.2 : Int)) (bitsOf r.form)) true, V.int IntKind.i64 (nghts r.form : Int), V.bool (isSgn r.form), V.int IntKind.u32 (maskOf r.form), V.str r.name, V.int IntKind.u32 (matchOf r)]) (ps := q2) (by omega)) 1000 fun v σ hv => ?_
    obtain ⟨rfl, t3, r3, rfl⟩ := hv
    have l3 : (q2 ++ if hasR2 r.form then [120 :: F.fmt x.rs2] else []).length ≤ 3 := by cases hasR2 r.form <;> simp <;> omega
    generalize hq3 : (q2 ++ if hasR2 r.form then [120 :: F.fmt x.rs2] else []) = q3 at l3 ⊢
    simp -implicitDefEqProofs (disch := omega) only [go_sem, ↓reduceIte, reduceCtorEq, Nat.reduceAdd, Nat.reduceEqDiff, Nat.reduceLeDiff, Nat.zero_add, Nat.add_zero, Nat.le_refl, gt_iff_lt, tS, inC, List.length_map]
    have hq : q3 = (if hasRd r.form then [120 :: F.fmt x.rd] else []) ++ (if hasR1 r.form then [120 :: F.fmt x.rs1] else []) ++ (if hasR2 r.form then [120 :: F.fmt x.rs2] else []) := by
      rw [← hq3, ← hq2, ← hq1]; simp
    have hm : ∀ p ∈ q3, p.length ≤ 1000 ∧ lastOk p := by
      have g : ∀ a : Int, 0 ≤ a ∧ a ≤ 255 → ∀ p ∈ [120 :: F.fmt a], p.length ≤ 1000 ∧ lastOk p := fun a ha p hp => by
        simp only [List.mem_singleton] at hp
        subst hp
        have := F.le a
        exact ⟨by simp; omega, last_cons (F.last a ⟨by omega, by omega⟩)⟩
      intro p hp
      rw [hq] at hp
      simp only [List.mem_append] at hp
      rcases hp with (hp | hp) | hp
      · split at hp
        · exact g _ ⟨a0, a1⟩ p hp
        · cases hp
      · split at hp
        · exact g _ ⟨b0, b1⟩ p hp
        · cases hp
      · split at hp
        · exact g _ ⟨c0, c1⟩ p hp
        · cases hp
    have hnl := T_nl r (List.mem_of_getElem? hk)
    have hbp := bits_pos hf
    refine ⟨fun hl => ?_, fun hl => ?_⟩
    · have hb := hbp.1 (by omega)
      have hpa : parts F.fmt r.form x = q3 ++ [F.fmt x.imm] := by rw [hq]; unfold parts; rw [if_neg hb]
      have hfl := F.le x.imm
      rw [hpa]
      refine callP hT t_strconv_FormatInt (F.int x.imm hi) rfl 1000 fun v hv => ?_
      subst hv
      simp -implicitDefEqProofs (disch := omega) only [go_sem, need_of, ↓reduceIte, reduceCtorEq, Nat.reduceAdd, Nat.reduceEqDiff, Nat.reduceLeDiff, Nat.zero_add, Nat.mul_one, Bool.not_true, Bool.not_false, Nat.le_refl, Nat.zero_le, List.length_map]
      have hm1 : ∀ p ∈ q3 ++ [F.fmt x.imm], p.length ≤ 1000 ∧ lastOk p := fun p hp => by
        simp only [List.mem_append, List.mem_singleton] at hp
        rcases hp with hp | rfl
        · exact hm p hp
        · exact ⟨by omega, F.last _ hi⟩
      have hjl := join_len (q3 ++ [F.fmt x.imm]) fun p hp => (hm1 p hp).1
      have hql : (q3 ++ [F.fmt x.imm]).length = q3.length + 1 := by simp
      rw [hql] at hjl
      have hte := text_is r.name (q3 ++ [F.fmt x.imm]) fun p hp => (hm1 p hp).2
      refine callS hT t_strings_Join (F.join 4 3 t3 _ _ (q3 ++ [F.fmt x.imm]) _ (by simp) (by simp) (fun p hp => (hm1 p hp).1) (by omega)) 1000 ?_
      have htr := fun h => F.trim (r.name ++ [32] ++ Lib.join (q3 ++ [F.fmt x.imm]) [44, 32]) h
      rw [hte] at htr
      generalize Lib.join (q3 ++ [F.fmt x.imm]) [44, 32] = jj at hjl htr ⊢
      simp -implicitDefEqProofs (disch := omega) only [go_sem, ↓reduceIte, reduceCtorEq, Nat.reduceEqDiff]
      refine ⟨by simp only [List.length_append, List.length_cons, List.length_nil]; omega, ?_⟩
      refine callPS hT t_strings_TrimSuffix (htr (by simp only [List.length_append, List.length_cons, List.length_nil]; omega)) rfl 1000 ?_
      simp -implicitDefEqProofs (disch := omega) only [go_sem, ↓reduceIte, reduceCtorEq, Nat.reduceAdd, Nat.reduceEqDiff, Nat.zero_add, Nat.zero_le]
    · have hb : r.form = 82 ∨ r.form = 69 := by
        by_cases h : r.form = 82 ∨ r.form = 69
        · exact h
        · have := hbp.2 h; omega
      have hpa : parts F.fmt r.form x = q3 := by rw [hq]; unfold parts; rw [if_pos hb, List.append_nil]
      rw [hpa]
      have hjl := join_len q3 fun p hp => (hm p hp).1
      have hte := text_is r.name q3 fun p hp => (hm p hp).2
      refine ⟨by omega, ?_⟩
      refine callS hT t_strings_Join (F.join 4 3 r3 _ _ q3 _ (by simp) rfl (fun p hp => (hm p hp).1) (by omega)) 1000 ?_
      have htr := fun h => F.trim (r.name ++ [32] ++ Lib.join q3 [44, 32]) h
      rw [hte] at htr
      generalize Lib.join q3 [44, 32] = jj at hjl htr ⊢
      simp -implicitDefEqProofs (disch := omega) only [go_sem, ↓reduceIte, reduceCtorEq, Nat.reduceEqDiff]
      refine ⟨by simp only [List.length_append, List.length_cons, List.length_nil]; omega, ?_⟩
      refine callPS hT t_strings_TrimSuffix (htr (by simp only [List.length_append, List.length_cons, List.length_nil]; omega)) rfl 1000 ?_
      simp -implicitDefEqProofs (disch := omega) only [go_sem, ↓reduceIte, reduceCtorEq, Nat.reduceAdd, Nat.reduceEqDiff, Nat.zero_add, Nat.zero_le]
  · have htx : txt F.fmt T x = [] := by unfold txt; rw [if_neg he]
    rw [htx]
    refine C_keep 0 (Nat.zero_le _) (C_tab hT t_rv_Text (by simp [rv_Text]) (W_run 1000 ?_))
    simp -implicitDefEqProofs (disch := omega) only [go_sem, ↓reduceIte, reduceCtorEq, Nat.reduceAdd, Nat.reduceEqDiff, Nat.zero_add, Nat.le_refl, rv_Text, rv_Text_r0, rv_Text_r1, rv_Text_r2, rv_Text_r3, rv_Text_r4, rv_Text_r5, rv_Text_r6, rv_Text_r7, rv_Text_r8, rv_Text_r9, rv_Text_r10, rv_Text_r11, rv_Text_r12, inC]
    refine callP hT t_rv_Encode hE rfl 1000 fun v hv => ?_
    subst hv
    simp -implicitDefEqProofs (disch := omega) only [go_sem, ↓reduceIte, reduceCtorEq, Nat.reduceAdd, Nat.reduceEqDiff, Nat.reduceLeDiff, Nat.reduceLT, Nat.zero_add, Nat.add_zero, Nat.zero_le, he]
    exact fun h => h.elim
end Go.Proofs.YtkhdfbokkneeaaaDoor
