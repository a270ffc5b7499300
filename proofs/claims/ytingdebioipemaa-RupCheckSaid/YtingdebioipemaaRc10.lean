/- Contracts: the document's side of proofs: what is not needed. -/
import Derived.Test.YtingdebioipemaaRc9
namespace Go.Proofs.Ytingdebioipemaa
open Go Go.Am Go.Cl
set_option maxRecDepth 100000
variable {P : Program} {G : Nat → Option V}

theorem frz_rows {k w : Nat} {l : List (List Int)} : frzV k w (l.map row) (.sl k w 0 1 l.length none) = rows l := by
  have h : (l.map row).take l.length = l.map row := List.take_of_length_le (by simp)
  simp [frzV, rowsV, rows, h]
theorem nameless_rowsV (l : List (List Int)) : nameless (rows l) = true := by simp [rows, nameless]
theorem c_rWithout (hT : TabOk P tab) (p : List (List Int)) (i : Nat) (hi : i < p.length) (hl : p.length ≤ 1000) : Pure P G n_proofmarkref08_without [rows p, .int .i64 i] fun u => u = rows (dropAt p i) := by
  refine Pure_frz (fun t => ?_) (nameless_rowsV _)
  simp only [rows]
  have e2 := wnext hi (by omega)
  refine C_tab hT t_proofmarkref08_without (by simp [proofmarkref08_without]) (W_run 1000 ?_)
  have h1 : List.take (i - 0) (p.map row) = (p.take i).map row := by simp [List.map_take]
  have h2 : List.take (p.length - (i + 1)) (List.drop (i + 1) (p.map row)) = (p.drop (i + 1)).map row := by
    rw [← List.map_drop, List.take_of_length_le]; simp
  have ha : (p.take i).length + (p.drop (i + 1)).length + 1 = p.length := by simp; omega
  have h3 : dropAt p i = p.take i ++ p.drop (i + 1) := rfl
  rw [h3]
  have hlt : (i : Int) ≤ p.length := by omega
  have hlt2 : ((i + 1 : Nat) : Int) ≤ p.length := by omega
  simp -implicitDefEqProofs (disch := omega) only [go_sem, need_of, ↓reduceIte, reduceCtorEq, Nat.reduceEqDiff, Nat.zero_add, Nat.mul_one, decide_true, Bool.not_true, Nat.le_refl, proofmarkref08_without, proofmarkref08_without_r0, proofmarkref08_without_r1, proofmarkref08_without_r2, proofmarkref08_without_r3, List.length_map, true_and, e2, h1, h2]
  generalize p.take i = a at *
  generalize p.drop (i + 1) = b at *
  have f1 := rows_flat a
  have f2 := rows_flat b
  have f3 := frz_rows (k := 0) (w := t + 1) (l := a ++ b)
  have f4 := nameless_rows (a ++ b)
  have f5 := nameless_rowsV (a ++ b)
  simp -implicitDefEqProofs (disch := omega) only [go_sem, need_of, List.length_map, true_and, f1, f2]
  rw [← List.length_append] at *
  exact ⟨0, t + 1, _, (a ++ b).map row, by rw [List.map_append]; rfl, f4, by rw [f3]; exact f5, by rw [f3]; exact .refl _⟩
abbrev soJ (t : Nat) (v : Int) (F p : List (List Int)) : Nat → Fr → H → Prop := fun m fr σ => ∃ out, m < out.length ∧ out.length ≤ p.length ∧ (∀ c ∈ out, c ∈ p) ∧ shortS v F m out = shortS v F (p.length - 1) p ∧ fget fr 2 = .ptr 0 t 0 ∧ fget fr 6 = .lst 1 (out.map row) false ∧ fget fr 7 = .int .i64 ((m : Int) - 1) ∧ σ = ⟨t + 1, rfH t v F⟩
abbrev soE (v : Int) (F p : List (List Int)) : AE → Fr → H → Prop := fun e fr _ => e = .ex 0 ∧ fget fr 6 = .lst 1 ((shortS v F (p.length - 1) p).map row) false
theorem rdrop_mem {p : List (List Int)} {i : Nat} {c : List Int} (h : c ∈ dropAt p i) : c ∈ p := by
  unfold dropAt at h
  exact (List.mem_append.1 h).elim List.mem_of_mem_take List.mem_of_mem_drop
theorem rdrop_length {p : List (List Int)} {i : Nat} (h : i < p.length) : (dropAt p i).length = p.length - 1 := by simp [dropAt]; omega
theorem so_round (hT : TabOk P tab) {t : Nat} {v : Int} {F p : List (List Int)} (hF : F.length + p.length ≤ 500) (hc : ∀ c ∈ F, c.length ≤ 500) (hp : ∀ c ∈ p, c.length ≤ 500) (hb : ∀ c ∈ p, ∀ n ∈ c, -9223372036854775808 ≤ n ∧ n ≤ 9223372036854775807) {m : Nat} {fr : Fr} {σ : H} (hJ : soJ t v F p m fr σ) :
    W P G 29 0 (AC.seq (AC.seq (AC.reg proofmarkref08_Short_r5 [17])   (AC.cond (Arg.t 18)   AC.skip   (AC.exit 0)))   (AC.seq (AC.block 1 (AC.seq (AC.reg proofmarkref08_Short_r6 [21, 22, 23])   (AC.seq (AC.reg proofmarkref08_Short_r7 [24, 25])   (AC.cond (Arg.t 26)   (AC.reg proofmarkref08_Short_r8 [27])   AC.skip))))   (AC.reg proofmarkref08_Short_r9 [19, 20]))) fr σ (seqQ (fun fr σ => ∃ m' fr' σ', m' < m ∧ Shift G 29 0 fr σ fr' σ' ∧ soJ t v F p m' fr' σ') (soE v F p)) := by
  obtain ⟨out, hm, ho, hop, hs, f2, f6, f7, rfl⟩ := hJ
  cases m with
  | zero =>
    have h0 : ¬ (0 : Int) ≤ ((0 : Nat) : Int) - 1 := by omega
    refine W_round [(2, .ptr 0 t 0), (6, .lst 1 (out.map row) false), (7, .int .i64 (((0 : Nat) : Int) - 1))] ⟨f2, f6, f7, trivial⟩  1000 ?_
    simp -implicitDefEqProofs (disch := omega) only [go_sem, ↓reduceIte, Nat.reduceEqDiff, decide_false, ge_iff_le, proofmarkref08_Short_r5, proofmarkref08_Short_r6, proofmarkref08_Short_r7, proofmarkref08_Short_r8, proofmarkref08_Short_r9, h0]
    exact ⟨rfl, by rw [← hs]; rfl⟩
  | succ m =>
    have h0 : (0 : Int) ≤ ((m + 1 : Nat) : Int) - 1 := by omega
    have h1 : ((m + 1 : Nat) : Int) - 1 = (m : Int) := by omega
    have e2 : IntKind.i64.wrap ((m : Int) - 1) = (m : Int) - 1 := wself (by omega)
    have hW := c_rWithout (P := P) (G := G) hT out m (by omega) (by omega)
    have hdm : ∀ c ∈ dropAt out m, c ∈ p := fun c h => hop c (rdrop_mem h)
    have hdl := rdrop_length (p := out) (i := m) (by omega)
    have hC := c_rCheck (P := P) (G := G) hT v F (dropAt out m) (by omega) hc (fun c h => hp c (hdm c h)) (fun c h => hb c (hdm c h))
    rw [h1] at f7
    rw [shortS] at hs
    simp only [fml, rows] at hW hC
    refine W_round [(2, .ptr 0 t 0), (6, .lst 1 (out.map row) false), (7, .int .i64 (m : Int))] ⟨f2, f6, f7, trivial⟩  1000 ?_
    have hm0 : (0 : Int) ≤ (m : Int) := by omega
    simp -implicitDefEqProofs (disch := omega) only [go_sem, ↓reduceIte, Nat.reduceEqDiff, decide_true, ge_iff_le, proofmarkref08_Short_r5, proofmarkref08_Short_r6, proofmarkref08_Short_r7, proofmarkref08_Short_r8, proofmarkref08_Short_r9, hm0]
    refine callPS hT t_proofmarkref08_without hW (by simp [namelessL, nameless]) 1000 ?_
    simp -implicitDefEqProofs (disch := omega) only [go_sem, ↓reduceIte, reduceCtorEq, Nat.reduceAdd, Nat.reduceEqDiff, Nat.zero_add, Nat.le_refl, false_implies, and_true, rfH]
    refine callPS hT t_proofmarkref08_Check hC (by simp [namelessL, nameless]) 1000 ?_
    cases hck : checkS v F (dropAt out m) with
    | false =>
      rw [hck, if_neg (by simp)] at hs
      simp -implicitDefEqProofs (disch := omega) only [go_sem, ↓reduceIte, Nat.reduceEqDiff]
      refine ⟨m, _, _, by omega, Shift.refl _ _ _ _, out, by omega, ho, hop, hs, ?_⟩
      simp -implicitDefEqProofs (disch := omega) only [go_sem, ↓reduceIte, Nat.reduceEqDiff, and_true, e2, rfH]
    | true =>
      rw [hck, if_pos rfl] at hs
      simp -implicitDefEqProofs (disch := omega) only [go_sem, ↓reduceIte, Nat.reduceEqDiff]
      refine ⟨m, _, _, by omega, Shift.refl _ _ _ _, dropAt out m, by omega, by omega, hdm, hs, ?_⟩
      simp -implicitDefEqProofs (disch := omega) only [go_sem, ↓reduceIte, Nat.reduceEqDiff, and_true, e2, rfH]
theorem c_rShort (hT : TabOk P tab) (v : Int) (F p : List (List Int)) (hF : F.length + p.length ≤ 500) (hc : ∀ c ∈ F, c.length ≤ 500) (hp : ∀ c ∈ p, c.length ≤ 500) (hb : ∀ c ∈ p, ∀ n ∈ c, -9223372036854775808 ≤ n ∧ n ≤ 9223372036854775807) :
    Pure P G n_proofmarkref08_Short [fml v F, rows p] fun u => u = .tup [rows (short v F p).1, .bool (short v F p).2] := by
  have hC := c_rCheck (P := P) (G := G) hT v F p hF hc hp hb
  refine Pure_frz (fun t0 => ?_) (by simp [nameless, namelessL, nameless_rowsV])
  simp only [fml, rows] at hC ⊢
  refine C_tab hT t_proofmarkref08_Short (by simp [proofmarkref08_Short]) (W_run 1000 ?_)
  simp -implicitDefEqProofs (disch := omega) only [go_sem, ↓reduceIte, reduceCtorEq, Nat.reduceAdd, Nat.reduceEqDiff, Nat.zero_add, Nat.le_refl, proofmarkref08_Short, proofmarkref08_Short_r0, proofmarkref08_Short_r1, proofmarkref08_Short_r2, proofmarkref08_Short_r3, proofmarkref08_Short_r4, proofmarkref08_Short_r5, proofmarkref08_Short_r6, proofmarkref08_Short_r7, proofmarkref08_Short_r8, proofmarkref08_Short_r9, proofmarkref08_Short_r10, false_implies, and_true]
  refine callPS hT t_proofmarkref08_Check hC (by simp [namelessL, nameless]) 1000 ?_
  cases hck : checkS v F p with
  | false =>
    have hs : short v F p = ([], false) := by simp [short, hck]
    simp -implicitDefEqProofs (disch := omega) only [go_sem, ↓reduceIte, reduceCtorEq, Nat.reduceEqDiff, Bool.not_false, true_and, Bool.not_false, hs]
    exact .inl (.tup _ _ (.cons _ _ _ _ (.lst _ _ _ _ _ .nil (.inl rfl)) (.cons _ _ _ _ (.refl _) .nil)))
  | true =>
    have hs : short v F p = (shortS v F (p.length - 1) p, true) := by simp [short, hck]
    have hpos : 0 < p.length := by rw [checkS_eq] at hck; simp at hck; omega
    have e1 : IntKind.i64.wrap ((p.length : Int) - 2) = ((p.length - 1 : Nat) : Int) - 1 := by rw [wself (by omega)]; omega
    simp -implicitDefEqProofs (disch := omega) only [go_sem, ↓reduceIte, reduceCtorEq, Nat.reduceEqDiff, Bool.not_true, List.length_map, Bool.not_true, e1, hs]
    refine sem_invE (soJ t0 v F p) (soE v F p) (m0 := p.length - 1) ⟨p, by omega, Nat.le_refl _, fun c h => h, rfl, ?_⟩ (fun m fr σ hJ => so_round hT hF hc hp hb hJ) (fun e fr σ hE => ?_)
    · simp -implicitDefEqProofs (disch := omega) only [go_sem, ↓reduceIte, reduceCtorEq, Nat.reduceEqDiff, and_true, rfH]
    · obtain ⟨rfl, f6⟩ := hE
      refine sem_exit [(6, .lst 1 ((shortS v F (p.length - 1) p).map row) false)] ⟨f6, trivial⟩ 1000 ?_
      simp -implicitDefEqProofs (disch := omega) only [go_sem, ↓reduceIte, Nat.reduceEqDiff, true_and]
      exact .inl (.refl _)
end Go.Proofs.Ytingdebioipemaa
