/- The law ClauseModels: one model; all models. -/
import Derived.Test.YtingdebioipemaaDoorJ9
import Derived.Test.YtingdebioipemaaDoorJ4
namespace Go.Proofs.YtingdebioipemaaDoor
open Go Go.Am Go.Cl
set_option maxRecDepth 100000
variable {P : Program} {G : Nat → Option V}
structure Mdl (v : Nat) (w : Int) (F A : List (List Int)) (L l a b c : List Int) (ok can made : Bool) : Prop where
  v8 : v ≤ 8
  hr : right v F = true
  hF : F.length ≤ 30
  hc : ∀ c ∈ F, c.length ≤ 30
  hL : L.length ≤ 10
  okA : ok = true → w = v ∧ A = assign F L ∧ ∀ n ∈ L, n ≠ 0 ∧ -(v : Int) ≤ n ∧ n ≤ v
  lA : A.length ≤ 1000 ∧ ∀ c ∈ A, c.length ≤ 1000
  un : (can = false ∧ units F = none) ∨ (can = true ∧ units F = some l)
  ul : l.length ≤ 1000
  ra : a.length ≤ 1000 ∧ ∀ n ∈ a, n ≠ 0 ∧ -(v : Int) ≤ n ∧ n ≤ v
  rb : b.length ≤ 1000 ∧ ∀ n ∈ b, n ≠ 0 ∧ -(v : Int) ≤ n ∧ n ≤ v
  cm : ∃ V, resolveS a b V = (c, made)
theorem Mdl.rl {v : Nat} {w : Int} {F A : List (List Int)} {L l a b c : List Int} {ok can made : Bool} (X : Mdl v w F A L l a b c ok can made) (h : can = true) : units F = some l ∧ ∀ n ∈ l, n ≠ 0 ∧ -(v : Int) ≤ n ∧ n ≤ v := by
  rcases X.un with ⟨e, _⟩ | ⟨_, e⟩
  · rw [h] at e; cases e
  · refine ⟨e, fun n hn => ?_⟩
    obtain ⟨_, hm⟩ := units_some (right_nz X.hr) e
    obtain ⟨d, hd, hnd⟩ := ((hm n).1 hn).in
    exact (right_iff.1 X.hr).2 d hd n hnd
theorem Mdl.rc {v : Nat} {w : Int} {F A : List (List Int)} {L l a b c : List Int} {ok can made : Bool} (X : Mdl v w F A L l a b c ok can made) (h : made = true) : ∀ n ∈ c, n ≠ 0 ∧ -(v : Int) ≤ n ∧ n ≤ v := fun n hn => by
  obtain ⟨V, hV⟩ := X.cm
  subst h
  have e : c = (resolveS a b V).1 := by rw [hV]
  have e2 : (resolveS a b V).2 = true := by rw [hV]
  rw [e] at hn
  unfold resolveS at hn e2
  split at hn
  · simp at hn
  · rename_i hno
    rw [if_neg hno] at e2
    unfold cleanS at hn e2
    split at hn
    · simp at hn
    · have := (List.mem_filter.1 (mem_canon.1 hn)).1
      rcases List.mem_append.1 this with h | h
      · exact X.ra.2 n h
      · exact X.rb.2 n h
theorem canon_len (c : List Int) : (canon c).length ≤ c.length := by
  have h1 : ∀ c : List Int, (dd c).length ≤ c.length := by
    intro c
    induction c with
    | nil => simp [dd]
    | cons a l ih => unfold dd; split <;> simp <;> omega
  unfold canon; rw [sortV_length]; exact h1 c
theorem Mdl.lc {v : Nat} {w : Int} {F A : List (List Int)} {L l a b c : List Int} {ok can made : Bool} (X : Mdl v w F A L l a b c ok can made) : c.length ≤ 2000 := by
  obtain ⟨V, hV⟩ := X.cm
  have e : c = (resolveS a b V).1 := by rw [hV]
  rw [e]
  have h1 := X.ra.1
  have h2 := X.rb.1
  unfold resolveS
  split
  · simp
  · unfold cleanS
    split
    · simp
    · have := canon_len ((a ++ b).filter fun n => decide (n ≠ V ∧ n ≠ -V))
      have h3 := List.length_filter_le (fun n => decide (n ≠ V ∧ n ≠ -V)) (a ++ b)
      rw [List.length_append] at h3
      show (canon _).length ≤ _
      omega
def RowV (x : V) (a : List Int) : Prop := x = row a ∨ (a = [] ∧ x = .lst 0 [] true)
theorem RowV.facts {x : V} {a : List Int} (h : RowV x a) : Wk x (row a) ∧ nameless x = true ∧ ∀ k tm cs, frzV k tm cs x = x := by
  rcases h with rfl | ⟨rfl, rfl⟩
  · exact ⟨.refl _, by simp [row, nameless], fun k tm cs => by simp [row, frzV]⟩
  · exact ⟨.lst 0 1 [] [] true .nil (.inl rfl), rfl, fun k tm cs => rfl⟩
theorem rowV_nil : RowV (.lst 0 [] true) [] := .inr ⟨rfl, rfl⟩
theorem rowV_row (a : List Int) : RowV (row a) a := .inl rfl
abbrev moJ (tf tl v : Nat) (w : Int) (F A : List (List Int)) (L l a b c : List Int) (xa xb : V) (ok can made : Bool) : Nat → Fr → H → Prop := fun z fr σ => ∃ M t, M ≤ 2 ^ v ∧ z = 2 ^ v - M ∧ fget fr 1 = .lst 1 (ints L) false ∧ fget fr 5 = .ptr 0 tf 0 ∧ fget fr 11 = .ptr 1 tl 0 ∧ fget fr 12 = .bool ok ∧ fget fr 13 = .lst 1 (ints l) false ∧ fget fr 14 = .bool can ∧ fget fr 15 = xa ∧ fget fr 16 = xb ∧ fget fr 17 = .lst 1 (ints c) false ∧ fget fr 18 = .bool made ∧ fget fr 19 = .int .i64 ((M : Nat) : Int) ∧ σ = ⟨t, mH tf tl v w F A⟩
abbrev moE (tf tl v : Nat) (w : Int) (F A : List (List Int)) : AE → Fr → H → Prop := fun e fr σ => ∃ t, e = .ex 0 ∧ σ = ⟨t, mH tf tl v w F A⟩
theorem all_lit (m : List Bool) (l : List Int) : (l.all fun n => clauseT m [n]) = true ↔ ∀ n ∈ l, litT m n = true := by simp [clauseT]
theorem mo_round (hT : TabOk P tab) {tf tl v : Nat} {w : Int} {F A : List (List Int)} {L l a b c : List Int} {xa xb : V} {ok can made : Bool} (X : Mdl v w F A L l a b c ok can made) (qa : RowV xa a) (qb : RowV xb b) {z : Nat} {fr : Fr} {σ : H} (hJ : moJ tf tl v w F A L l a b c xa xb ok can made z fr σ) :
    W P G 153 0 (AC.seq (AC.seq (AC.reg zq2_11 [82, 83, 84, 85])   (AC.cond (Arg.t 86)   AC.skip   (AC.exit 0)))   (AC.seq (AC.block 1 (AC.seq (AC.reg zq2_12 [89, 90, 91])   (AC.seq (AC.seq (AC.reg zq2_13 [])   (AC.block 2 (AC.loop (AC.seq (AC.seq (AC.reg zq2_14 [92, 93, 94])   (AC.cond (Arg.t 95)   AC.skip   (AC.exit 2)))   (AC.seq (AC.block 3 (AC.reg zq2_15 [98, 99, 100, 101, 102, 103, 104, 105]))   (AC.reg zq2_16 [96, 97]))))))   (AC.seq (AC.reg zq2_17 [106, 107, 108])   (AC.seq (AC.seq (AC.reg zq2_18 [109, 110, 111, 112, 113, 114, 115, 116, 117, 118, 119, 120, 121, 122, 123, 124, 125, 126, 127, 128, 129, 130, 131, 132, 133])   (AC.cond (Arg.t 134)   (AC.seq (AC.reg zq2_19 [])   AC.ret)   AC.skip))   (AC.seq (AC.reg zq2_20 [135, 136, 137, 138, 139, 140, 141, 142, 143, 144, 145, 146, 147, 148, 149, 150])   (AC.cond (Arg.t 151)   (AC.seq (AC.reg zq2_21 [])   AC.ret)   AC.skip)))))))   (AC.reg zq2_22 [87, 88]))) fr σ (seqQ (fun fr σ => ∃ m' fr' σ', m' < z ∧ Shift G 153 0 fr σ fr' σ' ∧ moJ tf tl v w F A L l a b c xa xb ok can made m' fr' σ') (moE tf tl v w F A)) := by
  obtain ⟨ha, hna, hfa⟩ := qa.facts
  obtain ⟨hb, hnb, hfb⟩ := qb.facts
  obtain ⟨M, t, hM, rfl, f1, f5, f11, f12, f13, f14, f15, f16, f17, f18, f19, rfl⟩ := hJ
  have hv8 := X.v8
  have hp : (2 : Nat) ^ v ≤ 256 := Nat.pow_le_pow_right (n := 2) (by omega) hv8
  have hmin : min v 64 = v := by omega
  have hpc : ((2 : Int) ^ v) = ((2 ^ v : Nat) : Int) := by simp
  have hw : IntKind.i64.wrap (1 * 2 ^ min v 64) = ((2 ^ v : Nat) : Int) := by
    rw [hmin, Int.one_mul, hpc, wself (by omega)]
  rcases Nat.lt_or_ge M (2 ^ v) with hlt | hge
  · have hml := modelS_len v M
    have hMc : (((M : Nat) : Int) < ((2 ^ v : Nat) : Int)) = True := eq_true (by omega)
    have e2 : IntKind.i64.wrap ((M : Int) + 1) = ((M + 1 : Nat) : Int) := by rw [wself (by omega)]; omega
    have hF9 : F.length ≤ 9223372036854775807 := by have := X.hF; omega
    have hc9 : ∀ c ∈ F, c.length ≤ 9223372036854775807 := fun c h => by have := X.hc c h; omega
    have hA9 : A.length ≤ 9223372036854775807 := by have := X.lA.1; omega
    have hAc9 : ∀ c ∈ A, c.length ≤ 9223372036854775807 := fun c h => by have := X.lA.2 c h; omega
    have hrr := right_iff.1 X.hr
    have cH := c_Holds (P := P) (G := G) hT v F (modelS v M) hF9 hc9 (by omega)
    have cH2 := c_Holds (P := P) (G := G) hT w A (modelS v M) hA9 hAc9 (by omega)
    have eh : holdsS v F (modelS v M) = F.all (clauseT (modelS v M)) := by unfold holdsS; rw [X.hr, hml]; simp
    have cA := Pure.args (.cons _ _ _ _ ha (.cons _ _ _ _ (.refl _) .nil)) <| c_rClause (P := P) (G := G) hT a (modelS v M) (fun n hn => by rw [hml]; exact X.ra.2 n hn) (by omega) (by have := X.ra.1; omega)
    have cB := Pure.args (.cons _ _ _ _ hb (.cons _ _ _ _ (.refl _) .nil)) <| c_rClause (P := P) (G := G) hT b (modelS v M) (fun n hn => by rw [hml]; exact X.rb.2 n hn) (by omega) (by have := X.rb.1; omega)
    have k1 : holdsS v F (modelS v M) = true → can = true ∧ Am.Pure P G n_proofmarklaw05_each [row l, bools (modelS v M)] fun u => u = .bool true := fun h => by
      rw [eh] at h
      obtain ⟨l', e1, h1⟩ := units_hold (right_nz X.hr) h
      have hcan : can = true := by
        rcases X.un with ⟨_, e⟩ | ⟨e, _⟩
        · rw [e1] at e; cases e
        · exact e
      obtain ⟨e3, hl⟩ := X.rl hcan
      rw [e1] at e3; cases e3
      have := c_each (P := P) (G := G) hT l (modelS v M) (fun n hn => by rw [hml]; exact hl n hn) (by omega) (by have := X.ul; omega)
      rw [(all_lit _ _).2 h1] at this
      exact ⟨hcan, this⟩
    have k2 : ok = true → Am.Pure P G n_proofmarklaw05_each [row L, bools (modelS v M)] fun u => u = .bool (L.all fun n => clauseT (modelS v M) [n]) := fun h =>
      c_each (P := P) (G := G) hT L (modelS v M) (fun n hn => by rw [hml]; exact (X.okA h).2.2 n hn) (by omega) (by have := X.hL; omega)
    have k3 : ok = true → (L.all fun n => clauseT (modelS v M) [n]) = true → holdsS w A (modelS v M) = holdsS v F (modelS v M) := fun h h' => by
      obtain ⟨rfl, rfl, _⟩ := X.okA h
      have := assign_holds (F := F) ((all_lit _ _).1 h')
      unfold holdsS
      rw [right_assign X.hr, X.hr, this]
    have k4 : made = true → clauseT (modelS v M) a = true → clauseT (modelS v M) b = true → Am.Pure P G n_proofmarkref05_Clause [row c, bools (modelS v M)] fun u => u = .bool true := fun h ha hb => by
      have := c_rClause (P := P) (G := G) hT c (modelS v M) (fun n hn => by rw [hml]; exact X.rc h n hn) (by omega) (by have := X.lc; omega)
      obtain ⟨V, hV⟩ := X.cm
      have e : clauseT (modelS v M) c = true := by
        have := resolve_holds (v := V) (by rw [hV]; exact h) ha hb
        rwa [hV] at this
      rwa [e] at this
    have nFm : namelessL [V.agg [.int .i64 v, .lst 1 (F.map row) false], .lst 1 ((modelS v M).map V.bool) false] = true := by simp [namelessL, nameless]
    have hnm : namelessL ((modelS v M).map V.bool) = true := nameless_bools _
    have htm : List.take v ((modelS v M).map V.bool) = (modelS v M).map V.bool := List.take_of_length_le (by simp [hml])
    have hmF : ∀ tm, (F.map row).map (frzV 2 tm ((modelS v M).map V.bool)) = F.map row := fun tm => by simp [frzV, row]
    have hmA : ∀ tm, (A.map row).map (frzV 2 tm ((modelS v M).map V.bool)) = A.map row := fun tm => by simp [frzV, row]
    simp only [fml, rows, row, bools] at cH cH2 cA cB k1 k2 k4
    have hv0 : ¬ ((v : Int) < 0) := by omega
    refine W_round [(1, .lst 1 (ints L) false), (5, .ptr 0 tf 0), (11, .ptr 1 tl 0), (12, .bool ok), (13, .lst 1 (ints l) false), (14, .bool can), (15, xa), (16, xb), (17, .lst 1 (ints c) false), (18, .bool made), (19, .int .i64 ((M : Nat) : Int))] ⟨f1, f5, f11, f12, f13, f14, f15, f16, f17, f18, f19, trivial⟩  1000 ?_
    simp -implicitDefEqProofs (disch := omega) only [go_sem, need_of, ↓reduceIte, Nat.reduceAdd, Nat.reduceEqDiff, Nat.reduceLeDiff, Nat.zero_add, Nat.add_zero, decide_true, Nat.le_refl, zq2_11, zq2_12, zq2_13, zq2_14, zq2_15, zq2_16, zq2_17, zq2_18, zq2_19, zq2_20, zq2_21, zq2_22, mH, true_implies, true_and, and_true, List.length_cons, List.length_nil, List.cons_append, List.nil_append, hw, hMc]
    refine sem_invE (fiJ tf tl v w F A L l a b c xa xb ok can made M) (fiE tf tl v w F A L l a b c xa xb ok can made M) (m0 := v) ⟨0, t + 1, t, by omega, rfl, ?_⟩ (fun z fr σ hJ => fi_round hv8 (by omega) hJ) (fun e fr σ hE => ?_)
    · simp -implicitDefEqProofs (disch := omega) only [go_sem, ↓reduceIte, Nat.reduceEqDiff, mH, true_and, List.cons_append, List.nil_append]
      simp
    · obtain ⟨t4, tm, rfl, f1, f5, f11, f12, f13, f14, f15, f16, f17, f18, f19, f20, rfl⟩ := hE
      have hmF := hmF tm
      have hmA := hmA tm
      refine sem_exitS [(1, .lst 1 (ints L) false), (5, .ptr 0 tf 0), (11, .ptr 1 tl 0), (12, .bool ok), (13, .lst 1 (ints l) false), (14, .bool can), (15, xa), (16, xb), (17, .lst 1 (ints c) false), (18, .bool made), (19, .int .i64 ((M : Nat) : Int)), (20, .sl 2 tm 0 1 v none)] ⟨f1, f5, f11, f12, f13, f14, f15, f16, f17, f18, f19, f20, trivial⟩ ?_
      refine sem_shift (Shift.freeze (k := 2) (v := tm) (T := 4) (cs := (modelS v M).map V.bool) (Nat.zero_le _) rfl hnm) ?_
      simp only [frzFr_cons, frzFr_nil, frzV, rowsV, mH, mapFrom, Ob.mapV, List.set_cons_succ, List.set_cons_zero, Option.map_some, Option.map_none, List.map_cons, List.map_nil, List.length_map, List.cons_append, List.nil_append, hfa, hfb]
      refine run_sem 8 ?_
      simp -implicitDefEqProofs (disch := omega) only [go_sem, ↓reduceIte, reduceCtorEq, Nat.reduceAdd, Nat.reduceEqDiff, Nat.succ_ne_zero, Nat.zero_add, Nat.mul_one, Nat.le_refl, false_implies, and_true, not_false_eq_true, List.length_cons, List.length_nil, htm, hml, Nat.le_refl]
      refine callPS hT t_clause_Holds cH nFm 3 ?_
      simp -implicitDefEqProofs (disch := omega) only [go_sem, ↓reduceIte, Nat.reduceEqDiff]
      refine sem_cut (fun fr σ => fget fr 1 = .lst 1 (ints L) false ∧ fget fr 5 = .ptr 0 tf 0 ∧ fget fr 11 = .ptr 1 tl 0 ∧ fget fr 12 = .bool ok ∧ fget fr 13 = .lst 1 (ints l) false ∧ fget fr 14 = .bool can ∧ fget fr 15 = xa ∧ fget fr 16 = xb ∧ fget fr 17 = .lst 1 (ints c) false ∧ fget fr 18 = .bool made ∧ fget fr 19 = .int .i64 ((M : Nat) : Int) ∧ fget fr 20 = .lst 1 ((modelS v M).map V.bool) false ∧ σ = ⟨t4, mH tf tl v w F A ++ [none]⟩) ?_ fun fr σ hJ => ?_
      · refine st_A (a := a) (b := b) hT k1 k2 cH2 k3 ?_
        simp -implicitDefEqProofs (disch := omega) only [go_sem, ↓reduceIte, Nat.reduceEqDiff]
      clear f1 f5 f11 f12 f13 f14 f15 f16 f17 f18 f19 f20
      obtain ⟨f1, f5, f11, f12, f13, f14, f15, f16, f17, f18, f19, f20, rfl⟩ := hJ
      refine sem_slots [(1, .lst 1 (ints L) false), (5, .ptr 0 tf 0), (11, .ptr 1 tl 0), (12, .bool ok), (13, .lst 1 (ints l) false), (14, .bool can), (15, xa), (16, xb), (17, .lst 1 (ints c) false), (18, .bool made), (19, .int .i64 ((M : Nat) : Int)), (20, .lst 1 ((modelS v M).map V.bool) false)] ⟨f1, f5, f11, f12, f13, f14, f15, f16, f17, f18, f19, f20, trivial⟩ ?_
      refine sem_cut (fun fr σ => fget fr 1 = .lst 1 (ints L) false ∧ fget fr 5 = .ptr 0 tf 0 ∧ fget fr 11 = .ptr 1 tl 0 ∧ fget fr 12 = .bool ok ∧ fget fr 13 = .lst 1 (ints l) false ∧ fget fr 14 = .bool can ∧ fget fr 15 = xa ∧ fget fr 16 = xb ∧ fget fr 17 = .lst 1 (ints c) false ∧ fget fr 18 = .bool made ∧ fget fr 19 = .int .i64 ((M : Nat) : Int) ∧ fget fr 20 = .lst 1 ((modelS v M).map V.bool) false ∧ σ = ⟨t4, mH tf tl v w F A ++ [none]⟩) ?_ fun fr σ hJ => ?_
      · refine st_B (a := a) (b := b) hT cA cB hna hnb k4 ?_
        simp -implicitDefEqProofs (disch := omega) only [go_sem, ↓reduceIte, Nat.reduceEqDiff]
      clear f1 f5 f11 f12 f13 f14 f15 f16 f17 f18 f19 f20
      obtain ⟨f1, f5, f11, f12, f13, f14, f15, f16, f17, f18, f19, f20, rfl⟩ := hJ
      refine sem_slots [(1, .lst 1 (ints L) false), (5, .ptr 0 tf 0), (11, .ptr 1 tl 0), (12, .bool ok), (13, .lst 1 (ints l) false), (14, .bool can), (15, xa), (16, xb), (17, .lst 1 (ints c) false), (18, .bool made), (19, .int .i64 ((M : Nat) : Int)), (20, .lst 1 ((modelS v M).map V.bool) false)] ⟨f1, f5, f11, f12, f13, f14, f15, f16, f17, f18, f19, f20, trivial⟩ (run_sem 1000 ?_)
      simp -implicitDefEqProofs (disch := omega) only [go_sem, ↓reduceIte, Nat.reduceEqDiff, mH, List.cons_append, List.nil_append]
      refine ⟨2 ^ v - (M + 1), _, _, by omega, Shift.drop (o' := mH tf tl v w F A) (t' := t4) (by simp [subObs, mH]) (Nat.le_refl _) (Nat.zero_le _), M + 1, t4, by omega, rfl, ?_⟩
      simp -implicitDefEqProofs (disch := omega) only [go_sem, ↓reduceIte, Nat.reduceEqDiff, mH, and_true, e2]
  · have hMc : (((M : Nat) : Int) < ((2 ^ v : Nat) : Int)) = False := eq_false (by omega)
    refine W_round [(1, .lst 1 (ints L) false), (5, .ptr 0 tf 0), (11, .ptr 1 tl 0), (12, .bool ok), (13, .lst 1 (ints l) false), (14, .bool can), (15, xa), (16, xb), (17, .lst 1 (ints c) false), (18, .bool made), (19, .int .i64 ((M : Nat) : Int))] ⟨f1, f5, f11, f12, f13, f14, f15, f16, f17, f18, f19, trivial⟩  1000 ?_
    simp -implicitDefEqProofs (disch := omega) only [go_sem, need_of, ↓reduceIte, Nat.reduceAdd, Nat.reduceEqDiff, Nat.reduceLeDiff, Nat.zero_add, Nat.add_zero, decide_false, zq2_11, zq2_12, zq2_13, zq2_14, zq2_15, zq2_16, zq2_17, zq2_18, zq2_19, zq2_20, zq2_21, zq2_22, mH, true_implies, and_true, List.length_cons, List.length_nil, hw, hMc]
    exact ⟨t, rfl, rfl⟩
theorem units_len8 {v : Int} {F : List (List Int)} (hr : right v F = true) (hv : v ≤ 8) {l : List Int} (h : units F = some l) : l.length ≤ 1000 := by
  obtain ⟨hs, hm⟩ := units_some (right_nz hr) h
  obtain ⟨h1, h2⟩ := right_iff.1 hr
  have := srt_len (V := v) (lo := 0) hs (fun n hn => by
    obtain ⟨c, hc, hnc⟩ := ((hm n).1 hn).in
    have := h2 c hc n hnc
    unfold av; split <;> omega) (by omega)
  omega
theorem assign_ok {v : Int} {F : List (List Int)} {L : List Int} {w : Int} {A : List (List Int)} {b : Bool} (h : assignV v F L = .tup [fml w A, .bool b]) (hb : b = true) : w = v ∧ A = assign F L ∧ ∀ n ∈ L, n ≠ 0 ∧ -v ≤ n ∧ n ≤ v := by
  subst hb
  unfold assignV at h
  split at h
  · rename_i hc
    simp only [Bool.and_eq_true] at hc
    have hr := (right_iff.1 hc.2.1).2 L (by simp)
    have e := h
    simp only [fml, rows, V.tup.injEq, List.cons.injEq, V.agg.injEq, V.int.injEq, V.lst.injEq, and_true, true_and] at e
    refine ⟨e.1.symm, ?_, hr⟩
    have hinj : ∀ X Y : List (List Int), X.map row = Y.map row → X = Y := by
      intro X
      induction X with
      | nil => intro Y h; cases Y <;> simp at h; rfl
      | cons x X ih =>
        intro Y h
        cases Y with
        | nil => simp at h
        | cons y Y =>
          simp only [List.map_cons, List.cons.injEq, row, V.lst.injEq, true_and, and_true] at h
          obtain ⟨h1, h2⟩ := h
          have hx : x = y := by
            have := congrArg (List.map fun u : V => match u with | .int _ n => n | _ => 0) h1
            simpa [ints, List.map_map, Function.comp_def] using this
          rw [hx, ih Y h2]
    exact (hinj _ _ e.2).symm
  · simp at h
theorem c_ClauseModels (hT : TabOk Tryd.prog tab) (K : BufK Tryd.prog) (It : ItoaK Tryd.prog G) (v : Int) (F : List (List Int)) (L : List Int) (i1 i2 V : Int) (hF : F.length ≤ 9223372036854775807) (hFc : ∀ c ∈ F, c.length ≤ 9223372036854775807) (hL : L.length ≤ 9223372036854775807) (hb : ∀ n ∈ L, -9223372036854775808 ≤ n ∧ n ≤ 9223372036854775807)
    (hi1 : -9223372036854775808 ≤ i1 ∧ i1 ≤ 9223372036854775807) (hi2 : -9223372036854775808 ≤ i2 ∧ i2 ≤ 9223372036854775807) (hV : -9223372036854775808 ≤ V ∧ V ≤ 9223372036854775807) :
    Am.Pure Tryd.prog G n_proofmarklaw05_ClauseModels [fml v F, row L, .int .i64 i1, .int .i64 i2, .int .i64 V] fun u => u = .bool true := by
  have hW := c_works (G := G) hT K It
  have hf := c_few5 (P := Tryd.prog) (G := G) hT v F 30 (by omega) hF hFc
  have hR := c_Right (P := Tryd.prog) (G := G) hT v F hF hFc
  have nF : namelessL [fml v F] = true := by simp [fml, rows, namelessL, nameless]
  have nFL : namelessL [fml v F, row L] = true := by simp [fml, rows, row, namelessL, nameless]
  have nF30 : namelessL [fml v F, .int .i64 30] = true := by simp [fml, rows, namelessL, nameless]
  intro t
  simp only [fml, rows, row] at hf hR nF nFL nF30 ⊢
  refine C_keep 0 (Nat.zero_le _) (C_tab hT t_proofmarklaw05_ClauseModels (by simp [proofmarklaw05_ClauseModels]) (W_run 12 ?_))
  simp -implicitDefEqProofs (disch := omega) only [go_sem, ↓reduceIte, reduceCtorEq, Nat.reduceAdd, Nat.reduceEqDiff, Nat.zero_add, Nat.le_refl, proofmarklaw05_ClauseModels, zq2_0, zq2_1, zq2_2, zq2_3, zq2_4, zq2_5, zq2_6, zq2_7, zq2_8, zq2_9, zq2_10, zq2_11, zq2_12, zq2_13, zq2_14, zq2_15, zq2_16, zq2_17, zq2_18, zq2_19, zq2_20, zq2_21, zq2_22, zq2_23]
  refine callPS hT t_proofmarklaw05_few hf nF30 4 ?_
  cases h1 : few5 F 30 with
  | false =>
    simp -implicitDefEqProofs (disch := omega) only [go_sem, ↓reduceIte, reduceCtorEq, Nat.reduceEqDiff, Bool.not_false]
    iterate 9 (try (refine run_sem 4 ?_; simp -implicitDefEqProofs (disch := omega) only [go_sem, ↓reduceIte, reduceCtorEq, Nat.reduceEqDiff]))
    refine callPS hT t_proofmarklaw05_works hW rfl 4 ?_
    simp -implicitDefEqProofs (disch := omega) only [go_sem, ↓reduceIte, reduceCtorEq, Nat.reduceEqDiff]
    iterate 4 (try (refine run_sem 4 ?_; simp -implicitDefEqProofs (disch := omega) only [go_sem, ↓reduceIte, reduceCtorEq, Nat.reduceEqDiff, Nat.zero_add, Nat.zero_le]))
  | true =>
    have hfw : F.length ≤ 30 ∧ ∀ c ∈ F, c.length ≤ 30 := by
      unfold few5 at h1
      simp only [Bool.and_eq_true, decide_eq_true_eq, List.all_eq_true] at h1
      exact h1
    simp -implicitDefEqProofs (disch := omega) only [go_sem, ↓reduceIte, reduceCtorEq, Nat.reduceAdd, Nat.reduceEqDiff, Nat.zero_add, Bool.not_true, Nat.le_refl]
    iterate 9 (try (refine run_sem 4 ?_; simp -implicitDefEqProofs (disch := omega) only [go_sem, need_of, ↓reduceIte, reduceCtorEq, Nat.reduceAdd, Nat.reduceEqDiff, Nat.reduceLeDiff, Nat.reduceLT, Nat.reduceSub, Nat.reduceMul, Int.reduceToNat, Int.reduceLE, Int.reduceLT, Int.reduceEq, Int.reduceNe, Nat.succ_ne_zero, Nat.zero_add, Nat.add_zero, Nat.mul_one, Nat.one_mul, Nat.zero_mul, decide_true, decide_false, Bool.not_true, Bool.not_false, Nat.le_refl, Nat.zero_le, ge_iff_le, gt_iff_lt, Nat.reduceBEq, Nat.reduceBNe, beq_self_eq_true, bne_self_eq_false, Option.isSome_some, Option.isSome_none, Option.getD_some, Option.getD_none, proofmarklaw05_ClauseModels, zq2_0, zq2_1, zq2_2, zq2_3, zq2_4, zq2_5, zq2_6, zq2_7, zq2_8, zq2_9, zq2_10, zq2_11, zq2_12, zq2_13, zq2_14, zq2_15, zq2_16, zq2_17, zq2_18, zq2_19, zq2_20, zq2_21, zq2_22, zq2_23, List.length_map, ints_length, Int.reduceBEq, Int.reduceBNe]))
    refine callPS hT t_clause_Right hR nF 4 ?_
    cases hr : right v F with
    | false =>
      simp -implicitDefEqProofs (disch := omega) only [go_sem, ↓reduceIte, reduceCtorEq, Nat.reduceAdd, Nat.reduceEqDiff, Bool.not_false]
      iterate 12 (try (refine run_sem 4 ?_; simp -implicitDefEqProofs (disch := omega) only [go_sem, ↓reduceIte, reduceCtorEq, Nat.reduceEqDiff]))
      refine callPS hT t_proofmarklaw05_works hW rfl 4 ?_
      simp -implicitDefEqProofs (disch := omega) only [go_sem, ↓reduceIte, reduceCtorEq, Nat.reduceEqDiff]
      iterate 4 (try (refine run_sem 4 ?_; simp -implicitDefEqProofs (disch := omega) only [go_sem, ↓reduceIte, reduceCtorEq, Nat.reduceEqDiff, Nat.zero_add, Nat.zero_le]))
    | true =>
      rcases Int.lt_or_le 8 v with hv8 | hv8
      · have hv8' : decide ((8 : Int) < v) = true := decide_eq_true hv8
        simp -implicitDefEqProofs (disch := omega) only [go_sem, ↓reduceIte, reduceCtorEq, Nat.reduceAdd, Nat.reduceEqDiff, Nat.zero_add, Nat.add_zero, Bool.not_true]
        iterate 12 (try (refine run_sem 4 ?_; simp -implicitDefEqProofs (disch := omega) only [go_sem, ↓reduceIte, reduceCtorEq, Nat.reduceAdd, Nat.reduceEqDiff, Nat.reduceLeDiff, Nat.zero_add, decide_true, gt_iff_lt, hv8]))
        refine callPS hT t_proofmarklaw05_works hW rfl 4 ?_
        simp -implicitDefEqProofs (disch := omega) only [go_sem, ↓reduceIte, reduceCtorEq, Nat.reduceEqDiff]
        iterate 4 (try (refine run_sem 4 ?_; simp -implicitDefEqProofs (disch := omega) only [go_sem, ↓reduceIte, reduceCtorEq, Nat.reduceEqDiff, Nat.zero_add, Nat.zero_le]))
      · have hv8' : decide ((8 : Int) < v) = false := decide_eq_false (by omega)
        have hv8'' : ¬ (8 : Int) < v := by omega
        rcases Nat.lt_or_ge 10 L.length with h2 | h2
        · have h2' : decide ((10 : Int) < (L.length : Int)) = true := decide_eq_true (by omega)
          have h2'' : (10 : Int) < (L.length : Int) := by omega
          simp -implicitDefEqProofs (disch := omega) only [go_sem, ↓reduceIte, reduceCtorEq, Nat.reduceAdd, Nat.reduceEqDiff, Nat.zero_add, Nat.add_zero, Bool.not_true]
          iterate 12 (try (refine run_sem 4 ?_; simp -implicitDefEqProofs (disch := omega) only [go_sem, ↓reduceIte, reduceCtorEq, Nat.reduceAdd, Nat.reduceEqDiff, Nat.reduceLeDiff, Nat.zero_add, decide_true, decide_false, gt_iff_lt, ints_length, hv8'', h2'']))
          refine callPS hT t_proofmarklaw05_works hW rfl 4 ?_
          simp -implicitDefEqProofs (disch := omega) only [go_sem, ↓reduceIte, reduceCtorEq, Nat.reduceEqDiff]
          iterate 4 (try (refine run_sem 4 ?_; simp -implicitDefEqProofs (disch := omega) only [go_sem, ↓reduceIte, reduceCtorEq, Nat.reduceEqDiff, Nat.zero_add, Nat.zero_le]))
        · have h2' : decide ((10 : Int) < (L.length : Int)) = false := decide_eq_false (by omega)
          have h2'' : ¬ (10 : Int) < (L.length : Int) := by omega
          have hc30 : ∀ c ∈ F, c.length ≤ 1000 := fun c h => by have := hfw.2 c h; omega
          have hrr := right_iff.1 hr
          obtain ⟨vn, rfl⟩ : ∃ vn : Nat, v = vn := ⟨v.toNat, by omega⟩
          have hA := c_Assign (P := Tryd.prog) (G := G) hT vn F L (by omega) hc30 (by omega) hb
          have hU := c_Units (P := Tryd.prog) (G := G) hT sortU vn F (by omega) hc30
          obtain ⟨w, A, ok, ea, la, lc⟩ := assign_form vn F L (by omega) hc30
          have hok := fun h => assign_ok ea h
          rw [ea] at hA
          obtain ⟨l, can, eu, _⟩ := units_form vn F
          replace hU : Am.Pure Tryd.prog G n_clause_Units [fml vn F] fun u => u = .tup [row l, .bool can] := by
            rcases eu with ⟨e1, rfl, rfl⟩ | ⟨e1, e2, rfl, rfl⟩ | ⟨e1, e2, rfl⟩
            · simpa [e1] using hU
            · simpa [e1, e2] using hU
            · simpa [e1, e2] using hU
          have hun : ((can = false ∧ units F = none) ∨ (can = true ∧ units F = some l)) ∧ l.length ≤ 1000 := by
            rcases eu with ⟨e1, rfl, rfl⟩ | ⟨e1, e2, rfl, rfl⟩ | ⟨e1, e2, rfl⟩
            · rw [hr] at e1; cases e1
            · exact ⟨.inl ⟨rfl, e2⟩, by simp⟩
            · exact ⟨.inr ⟨rfl, e2⟩, units_len8 hr hv8 e2⟩
          simp only [fml, rows, row] at hA hU
          simp -implicitDefEqProofs (disch := omega) only [go_sem, ↓reduceIte, reduceCtorEq, Nat.reduceAdd, Nat.reduceEqDiff, Nat.zero_add, Nat.add_zero, Bool.not_true]
          iterate 12 (try (refine run_sem 4 ?_; simp -implicitDefEqProofs (disch := omega) only [go_sem, ↓reduceIte, reduceCtorEq, Nat.reduceAdd, Nat.reduceEqDiff, Nat.reduceLeDiff, Nat.zero_add, decide_false, Nat.le_refl, gt_iff_lt, ints_length, hv8'', h2'']))
          refine callPS hT t_clause_Assign hA nFL 40 ?_
          simp -implicitDefEqProofs (disch := omega) only [go_sem, ↓reduceIte, reduceCtorEq, Nat.reduceAdd, Nat.reduceEqDiff, Nat.reduceLT, Nat.zero_add, Bool.not_false, Nat.le_refl, Nat.zero_le]
          refine callPS hT t_clause_Units hU nF 40 ?_
          simp -implicitDefEqProofs (disch := omega) only [go_sem, ↓reduceIte, reduceCtorEq, Nat.reduceAdd, Nat.reduceEqDiff, Nat.reduceLT, Nat.zero_add, Nat.le_refl, gt_iff_lt, List.length_map]
          by_cases hF0 : F = []
          · have hpos' : ((0 : Int) < (F.length : Int)) = False := eq_false (by simp [hF0])
            simp -implicitDefEqProofs (disch := omega) only [go_sem, decide_false, hpos', false_implies, true_implies, not_false_eq_true]
            have hRs := Pure.args (.cons _ _ _ _ (rowV_nil.facts).1 (.cons _ _ _ _ (rowV_nil.facts).1 (.cons _ _ _ _ (.refl _) .nil))) (c_Resolve (G := G) hT [] [] V (by simp) (by simp) (by simp) (by simp) hV.2)
            obtain ⟨c, made, hcm⟩ : ∃ c made, resolveS [] [] V = (c, made) := ⟨_, _, rfl⟩
            rw [hcm] at hRs
            have X : Mdl vn w F A L l [] [] c ok can made := ⟨by omega, hr, hfw.1, hfw.2, h2, fun h => hok h, ⟨la, lc⟩, hun.1, hun.2, ⟨by simp, by simp⟩, ⟨by simp, by simp⟩, ⟨V, hcm⟩⟩
            simp only [row] at hRs
            refine callPS hT t_clause_Resolve hRs (by simp [namelessL, nameless]) 40 ?_
            simp -implicitDefEqProofs (disch := omega) only [go_sem, ↓reduceIte, reduceCtorEq, Nat.reduceAdd, Nat.reduceEqDiff, Nat.reduceLT, Nat.zero_add]
            refine sem_invE (moJ t (t + 1) vn w F A L l [] [] c (.lst 0 [] true) (.lst 0 [] true) ok can made) (moE t (t + 1) vn w F A) (m0 := 2 ^ vn) ⟨0, t + 1 + 1, Nat.zero_le _, rfl, ?_⟩ (fun z fr σ hJ => mo_round hT X rowV_nil rowV_nil hJ) (fun e fr σ hE => ?_)
            · simp -implicitDefEqProofs (disch := omega) only [go_sem, ↓reduceIte, reduceCtorEq, Nat.reduceEqDiff, mH, true_and, and_true]
              rfl
            · obtain ⟨t5, rfl, rfl⟩ := hE
              refine run_sem 40 ?_
              simp -implicitDefEqProofs (disch := omega) only [go_sem, ↓reduceIte, mH]
              refine callPS hT t_proofmarklaw05_works hW rfl 40 ?_
              simp -implicitDefEqProofs (disch := omega) only [go_sem, ↓reduceIte, Nat.reduceAdd, Nat.reduceEqDiff, Nat.zero_add, Nat.zero_le, and_true, List.length_cons, List.length_nil]
          · have hpos : 0 < F.length := List.length_pos_iff.2 hF0
            have hpos' : ((0 : Int) < (F.length : Int)) = True := eq_true (by omega)
            obtain ⟨k1, _, hk1, cP1⟩ := c_Pick (P := Tryd.prog) (G := G) hT i1 F.length hi1 (by omega)
            obtain ⟨k2, _, hk2, cP2⟩ := c_Pick (P := Tryd.prog) (G := G) hT i2 F.length hi2 (by omega)
            have hk1 := hk1 hpos
            have hk2 := hk2 hpos
            obtain ⟨a1, ha1⟩ : ∃ a1, F[k1]? = some a1 := ⟨_, List.getElem?_eq_getElem hk1⟩
            obtain ⟨a2, ha2⟩ : ∃ a2, F[k2]? = some a2 := ⟨_, List.getElem?_eq_getElem hk2⟩
            obtain ⟨hlt1, hD1, _⟩ := at_rows ha1 (by omega)
            obtain ⟨hlt2, hD2, _⟩ := at_rows ha2 (by omega)
            have m1 := List.mem_of_getElem? ha1
            have m2 := List.mem_of_getElem? ha2
            simp -implicitDefEqProofs (disch := omega) only [go_sem, decide_true, hpos', false_implies, true_implies, not_true_eq_false, and_true]
            refine callPS hT t_proofmarkkit_Pick cP1 rfl 40 ?_
            simp -implicitDefEqProofs (disch := omega) only [go_sem, need_of, ↓reduceIte, reduceCtorEq, Nat.reduceAdd, Nat.reduceEqDiff, Nat.zero_add, Nat.le_refl, List.length_map, hlt1, hD1]
            refine callPS hT t_proofmarkkit_Pick cP2 rfl 40 ?_
            simp -implicitDefEqProofs (disch := omega) only [go_sem, need_of, ↓reduceIte, reduceCtorEq, Nat.reduceEqDiff, Nat.zero_add, Nat.le_refl, List.length_map, hlt2, hD2]
            have hRs := Pure.args (.cons _ _ _ _ (rowV_row a1).facts.1 (.cons _ _ _ _ (rowV_row a2).facts.1 (.cons _ _ _ _ (.refl _) .nil))) (c_Resolve (G := G) hT a1 a2 V (by have := hfw.2 a1 m1; omega) (by have := hfw.2 a2 m2; omega) (by intro n hn; have := hrr.2 a1 m1 n hn; omega) (by intro n hn; have := hrr.2 a2 m2 n hn; omega) hV.2)
            obtain ⟨c, made, hcm⟩ : ∃ c made, resolveS a1 a2 V = (c, made) := ⟨_, _, rfl⟩
            rw [hcm] at hRs
            have X : Mdl vn w F A L l a1 a2 c ok can made := ⟨by omega, hr, hfw.1, hfw.2, h2, fun h => hok h, ⟨la, lc⟩, hun.1, hun.2, ⟨by have := hfw.2 a1 m1; omega, hrr.2 a1 m1⟩, ⟨by have := hfw.2 a2 m2; omega, hrr.2 a2 m2⟩, ⟨V, hcm⟩⟩
            simp only [row] at hRs
            refine callPS hT t_clause_Resolve hRs (by simp [namelessL, nameless]) 40 ?_
            simp -implicitDefEqProofs (disch := omega) only [go_sem, ↓reduceIte, reduceCtorEq, Nat.reduceAdd, Nat.reduceEqDiff, Nat.reduceLT, Nat.zero_add]
            refine sem_invE (moJ t (t + 1) vn w F A L l a1 a2 c (row a1) (row a2) ok can made) (moE t (t + 1) vn w F A) (m0 := 2 ^ vn) ⟨0, t + 1 + 1, Nat.zero_le _, rfl, ?_⟩ (fun z fr σ hJ => mo_round hT X (rowV_row a1) (rowV_row a2) hJ) (fun e fr σ hE => ?_)
            · simp -implicitDefEqProofs (disch := omega) only [go_sem, ↓reduceIte, reduceCtorEq, Nat.reduceEqDiff, mH, true_and, and_true]
              exact ⟨rfl, rfl, rfl⟩
            · obtain ⟨t5, rfl, rfl⟩ := hE
              refine run_sem 40 ?_
              simp -implicitDefEqProofs (disch := omega) only [go_sem, ↓reduceIte, mH]
              refine callPS hT t_proofmarklaw05_works hW rfl 40 ?_
              simp -implicitDefEqProofs (disch := omega) only [go_sem, ↓reduceIte, Nat.reduceAdd, Nat.reduceEqDiff, Nat.zero_add, Nat.zero_le, and_true, List.length_cons, List.length_nil]
end Go.Proofs.YtingdebioipemaaDoor
