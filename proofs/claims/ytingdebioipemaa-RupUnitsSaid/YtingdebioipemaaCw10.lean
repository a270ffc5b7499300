/- Contracts: the first row that does not follow. -/
import Derived.Test.YtingdebioipemaaCw9
namespace Go.Proofs.Ytingdebioipemaa
open Go Go.Am Go.Cl
set_option maxRecDepth 100000
variable {G : Nat → Option V}

theorem rows_flat (F : List (List Int)) : ((F.map row).map V.cells).flatten = F.map row := by
  induction F with
  | nil => rfl
  | cons c F ih => simp only [List.map_cons, List.flatten_cons] at ih ⊢; rw [ih]; rfl
theorem c_CloneR {P : Program} (hT : TabOk P tab) {base t : Nat} {o : List (Option Ob)} (F : List (List Int)) (hl : F.length ≤ 1000000) :
    C P G base n_slices_Clone_int_int_29 [.lst 1 (F.map row) false] ⟨t, o⟩ fun v σ => ∃ t' w, t ≤ t' ∧ v = .sl o.length w 0 1 F.length none ∧ σ = ⟨t', o ++ [some (.arr w 25 (F.map row))]⟩ := by
  refine C_own 1 25 (Q := fun v σ => (v = .sl o.length t 0 1 F.length none ∧ σ = ⟨t + 1, o ++ [some (.arr t 25 (F.map row))]⟩) ∨ (F = [] ∧ v = .lst 0 [] true ∧ σ = ⟨t, o⟩)) ?_ fun v σ hv => ?_
  · refine C_tab hT t_slices_Clone_int_int_29 (by simp [slices_Clone_int_int_29]) (W_run 1000 ?_)
    have hfl := rows_flat F
    simp -implicitDefEqProofs (disch := omega) only [go_sem, need_of, ↓reduceIte, reduceCtorEq, Nat.reduceEqDiff, Nat.zero_add, Bool.not_false, slices_Clone_int_int_29, slices_Clone_int_int_29_r0, slices_Clone_int_int_29_r1, slices_Clone_int_int_29_r2, slices_Clone_int_int_29_r3, hfl, List.length_map]
    cases F with
    | nil => exact rfl
    | cons n c => exact trivial
  · rcases hv with ⟨rfl, rfl⟩ | ⟨rfl, rfl, rfl⟩
    · exact .inl ⟨_, _, by omega, rfl, rfl⟩
    · exact .inr ⟨0, rfl, _, _, Nat.le_succ _, rfl, rfl⟩

theorem seen_rows {o : List (Option Ob)} {k w T : Nat} {R : List (List Int)} (h : o[k]? = some (some (.arr w T (R.map row)))) : Seen o (.sl k w 0 1 R.length none) (.lst 1 (R.map row) false) := by
  have := Seen.row (o := o) k w 0 1 none T (R.map row) (R.map row) h (fun j u hj => ?_) (fun _ => rfl)
  · rwa [List.length_map] at this
  · simp only [List.getElem?_map, Option.map_eq_some_iff] at hj
    obtain ⟨c, hc, rfl⟩ := hj
    refine ⟨rfl, fun i d hd => ?_⟩
    cases i with
    | zero => simp [row, V.cells] at hd; subst hd; simp [hc, row, nameless]
    | succ i => simp [row, V.cells] at hd

def gAH (tf tg tw : Nat) (v : Int) (F R : List (List Int)) : List (Option Ob) := [some (.arr tf 24 [.int .i64 v, .lst 1 (F.map row) false]), some (.arr tw 25 (R.map row)), some (.arr tg 24 [.int .i64 v, .sl 1 tw 0 1 R.length none])]
abbrev gAJ (tf tg : Nat) (v : Int) (F p : List (List Int)) : Nat → Fr → H → Prop := fun m fr σ => ∃ i t tw, i ≤ p.length ∧ m = p.length - i ∧ firstS v F p = i + firstS v (F ++ p.take i) (p.drop i) ∧ fget fr 5 = .ptr 2 tg 0 ∧ fget fr 1 = .lst 1 (p.map row) false ∧ fget fr 14 = .lst 1 (p.map row) false ∧ fget fr 15 = .int .i64 p.length ∧ fget fr 16 = .int .i64 ((i : Nat) : Int) ∧ σ = ⟨t, gAH tf tg tw v F (F ++ p.take i)⟩
abbrev gAE (v : Int) (F p : List (List Int)) : AE → Fr → H → Prop := fun e fr _ => (e = .ret ∧ fget fr 4 = .int .i64 (firstS v F p)) ∨ (e = .ex 0 ∧ fget fr 1 = .lst 1 (p.map row) false ∧ firstS v F p = p.length)
set_option maxHeartbeats 1000000 in
theorem gA_round (hT : TabOk Try.prog tab) {tf tg : Nat} {v : Int} {F p : List (List Int)} (hF : F.length + p.length ≤ 1000) (hc : ∀ c ∈ F, c.length ≤ 1000) (hp : ∀ c ∈ p, c.length ≤ 1000) (hb : ∀ c ∈ p, ∀ n ∈ c, -9223372036854775808 ≤ n ∧ n ≤ 9223372036854775807) {m : Nat} {fr : Fr} {σ : H} (hJ : gAJ tf tg v F p m fr σ) :
    W Try.prog G 35 0 (AC.seq (AC.reg rup_First_r3 [])   (AC.seq (AC.cond (Arg.t 17)   AC.skip   (AC.exit 0))   (AC.seq (AC.block 1 (AC.seq (AC.reg rup_First_r4 [18, 19, 20])   (AC.seq (AC.seq (AC.reg rup_First_r5 [21, 22, 23])   (AC.cond (Arg.t 24)   (AC.seq (AC.reg rup_First_r6 [25])   AC.ret)   AC.skip))   (AC.reg rup_First_r7 [26, 27, 28, 29, 30, 31]))))   (AC.reg rup_First_r8 [32])))) fr σ (seqQ (fun fr σ => ∃ m' fr' σ', m' < m ∧ Shift G 35 0 fr σ fr' σ' ∧ gAJ tf tg v F p m' fr' σ') (gAE v F p)) := by
  obtain ⟨i, t, tw, hi, rfl, hfi, f5, f1, f14, f15, f16, rfl⟩ := hJ
  rcases Nat.lt_or_ge i p.length with hlt | hge
  · obtain ⟨c, hci⟩ : ∃ c, p[i]? = some c := ⟨_, List.getElem?_eq_getElem hlt⟩
    have hD := rows_getD hci
    have hcm := List.mem_of_getElem? hci
    have e2 := wnext hlt (by omega)
    have hd : p.drop i = c :: p.drop (i + 1) := by
      rw [List.drop_eq_getElem_cons hlt]
      congr 1
      exact (List.getElem?_eq_some_iff.1 hci).2
    have hts := take_snoc hci
    have hRl : (F ++ p.take i).length ≤ 999 := by rw [List.length_append, List.length_take]; omega
    have hRc : ∀ d ∈ F ++ p.take i, d.length ≤ 1000 := fun d h => (List.mem_append.1 h).elim (hc d) fun h => hp d (List.mem_of_mem_take h)
    have hFo := c_Follows (G := G) hT v (F ++ p.take i) c (by omega) hRc (hp c hcm) (hb c hcm)
    rw [hd, firstS] at hfi
    have happ : F ++ p.take (i + 1) = (F ++ p.take i) ++ [c] := by rw [hts, List.append_assoc]
    generalize F ++ p.take i = R at *
    simp only [fml, rows, row] at hFo
    cases hfo : follows v R c with
    | false =>
      rw [hfo] at hFo hfi
      have hres : firstS v F p = i := by simpa using hfi
      refine W_round [(5, .ptr 2 tg 0), (1, .lst 1 (p.map row) false), (14, .lst 1 (p.map row) false), (15, .int .i64 p.length), (16, .int .i64 ((i : Nat) : Int))] ⟨f5, f1, f14, f15, f16, trivial⟩  1000 ?_
      simp -implicitDefEqProofs (disch := omega) only [go_sem, need_of, ↓reduceIte, reduceCtorEq, Nat.reduceAdd, Nat.reduceEqDiff, Nat.zero_add, decide_true, Nat.le_refl, rup_First_r3, rup_First_r4, rup_First_r5, rup_First_r6, rup_First_r7, rup_First_r8, List.length_map, List.length_cons, List.length_nil, gAH, hlt, hD]
      refine callView hT t_rup_Follows hFo (.cons _ _ _ _ (.agg _ _ (.cons _ _ _ _ (.same _ rfl) (.cons _ _ _ _ (seen_rows rfl) .nil))) (.cons _ _ _ _ (.same _ rfl) .nil)) rfl 1000 ?_
      simp -implicitDefEqProofs (disch := omega) only [go_sem, ↓reduceIte, Nat.reduceEqDiff, Bool.not_false]
      exact .inl ⟨rfl, by rw [hres]; rfl⟩
    | true =>
      rw [hfo] at hFo hfi
      rw [if_pos rfl, ← happ] at hfi
      refine W_round [(5, .ptr 2 tg 0), (1, .lst 1 (p.map row) false), (14, .lst 1 (p.map row) false), (15, .int .i64 p.length), (16, .int .i64 ((i : Nat) : Int))] ⟨f5, f1, f14, f15, f16, trivial⟩  1000 ?_
      simp -implicitDefEqProofs (disch := omega) only [go_sem, need_of, ↓reduceIte, reduceCtorEq, Nat.reduceAdd, Nat.reduceEqDiff, Nat.zero_add, decide_true, Nat.le_refl, rup_First_r3, rup_First_r4, rup_First_r5, rup_First_r6, rup_First_r7, rup_First_r8, List.length_map, List.length_cons, List.length_nil, gAH, hlt, hD]
      refine callView hT t_rup_Follows hFo (.cons _ _ _ _ (.agg _ _ (.cons _ _ _ _ (.same _ rfl) (.cons _ _ _ _ (seen_rows rfl) .nil))) (.cons _ _ _ _ (.same _ rfl) .nil)) rfl 1000 ?_
      simp -implicitDefEqProofs (disch := omega) only [go_sem, need_of, ↓reduceIte, reduceCtorEq, Nat.reduceAdd, Nat.reduceEqDiff, Nat.reduceLeDiff, Nat.zero_add, Nat.mul_one, Bool.not_true, Bool.not_false, Nat.le_refl, Nat.zero_le, List.length_map, List.length_cons, List.length_nil, List.cons_append, List.nil_append]
      refine ⟨p.length - (i + 1), _, _, by omega, Shift.refl _ _ _ _, i + 1, t + 1, t, by omega, rfl, by omega, ?_⟩
      simp -implicitDefEqProofs (disch := omega) only [go_sem, ↓reduceIte, Nat.reduceEqDiff, Nat.zero_add, List.length_cons, List.length_nil, gAH, e2, happ, List.length_append, List.map_append, row]
  · have hi : i = p.length := by omega
    have hres : firstS v F p = p.length := by rw [hi, List.drop_length] at hfi; simpa [firstS] using hfi
    refine W_round [(5, .ptr 2 tg 0), (1, .lst 1 (p.map row) false), (14, .lst 1 (p.map row) false), (15, .int .i64 p.length), (16, .int .i64 ((i : Nat) : Int))] ⟨f5, f1, f14, f15, f16, trivial⟩  1000 ?_
    simp -implicitDefEqProofs (disch := omega) only [go_sem, ↓reduceIte, Nat.reduceEqDiff, decide_false, rup_First_r3, rup_First_r4, rup_First_r5, rup_First_r6, rup_First_r7, rup_First_r8, hi, Nat.lt_irrefl]
    exact .inr ⟨rfl, rfl, hres⟩
def gBH (tf tg tw : Nat) (v : Int) (F R : List (List Int)) : List (Option Ob) := [some (.arr tf 24 [.int .i64 v, .lst 1 (F.map row) false]), some (.arr tg 24 [.int .i64 v, .sl 2 tw 0 1 R.length none]), some (.arr tw 25 (R.map row))]
abbrev gBJ (tf tg : Nat) (v : Int) (F p : List (List Int)) : Nat → Fr → H → Prop := fun m fr σ => ∃ i t tw, i ≤ p.length ∧ m = p.length - i ∧ firstS v F p = i + firstS v (F ++ p.take i) (p.drop i) ∧ fget fr 5 = .ptr 1 tg 0 ∧ fget fr 1 = .lst 1 (p.map row) false ∧ fget fr 14 = .lst 1 (p.map row) false ∧ fget fr 15 = .int .i64 p.length ∧ fget fr 16 = .int .i64 ((i : Nat) : Int) ∧ σ = ⟨t, gBH tf tg tw v F (F ++ p.take i)⟩
abbrev gBE (v : Int) (F p : List (List Int)) : AE → Fr → H → Prop := fun e fr _ => (e = .ret ∧ fget fr 4 = .int .i64 (firstS v F p)) ∨ (e = .ex 0 ∧ fget fr 1 = .lst 1 (p.map row) false ∧ firstS v F p = p.length)
set_option maxHeartbeats 1000000 in
theorem gB_round (hT : TabOk Try.prog tab) {tf tg : Nat} {v : Int} {F p : List (List Int)} (hF : F.length + p.length ≤ 1000) (hc : ∀ c ∈ F, c.length ≤ 1000) (hp : ∀ c ∈ p, c.length ≤ 1000) (hb : ∀ c ∈ p, ∀ n ∈ c, -9223372036854775808 ≤ n ∧ n ≤ 9223372036854775807) {m : Nat} {fr : Fr} {σ : H} (hJ : gBJ tf tg v F p m fr σ) :
    W Try.prog G 35 0 (AC.seq (AC.reg rup_First_r3 [])   (AC.seq (AC.cond (Arg.t 17)   AC.skip   (AC.exit 0))   (AC.seq (AC.block 1 (AC.seq (AC.reg rup_First_r4 [18, 19, 20])   (AC.seq (AC.seq (AC.reg rup_First_r5 [21, 22, 23])   (AC.cond (Arg.t 24)   (AC.seq (AC.reg rup_First_r6 [25])   AC.ret)   AC.skip))   (AC.reg rup_First_r7 [26, 27, 28, 29, 30, 31]))))   (AC.reg rup_First_r8 [32])))) fr σ (seqQ (fun fr σ => ∃ m' fr' σ', m' < m ∧ Shift G 35 0 fr σ fr' σ' ∧ gBJ tf tg v F p m' fr' σ') (gBE v F p)) := by
  obtain ⟨i, t, tw, hi, rfl, hfi, f5, f1, f14, f15, f16, rfl⟩ := hJ
  rcases Nat.lt_or_ge i p.length with hlt | hge
  · obtain ⟨c, hci⟩ : ∃ c, p[i]? = some c := ⟨_, List.getElem?_eq_getElem hlt⟩
    have hD := rows_getD hci
    have hcm := List.mem_of_getElem? hci
    have e2 := wnext hlt (by omega)
    have hd : p.drop i = c :: p.drop (i + 1) := by
      rw [List.drop_eq_getElem_cons hlt]
      congr 1
      exact (List.getElem?_eq_some_iff.1 hci).2
    have hts := take_snoc hci
    have hRl : (F ++ p.take i).length ≤ 999 := by rw [List.length_append, List.length_take]; omega
    have hRc : ∀ d ∈ F ++ p.take i, d.length ≤ 1000 := fun d h => (List.mem_append.1 h).elim (hc d) fun h => hp d (List.mem_of_mem_take h)
    have hFo := c_Follows (G := G) hT v (F ++ p.take i) c (by omega) hRc (hp c hcm) (hb c hcm)
    rw [hd, firstS] at hfi
    have happ : F ++ p.take (i + 1) = (F ++ p.take i) ++ [c] := by rw [hts, List.append_assoc]
    generalize F ++ p.take i = R at *
    simp only [fml, rows, row] at hFo
    cases hfo : follows v R c with
    | false =>
      rw [hfo] at hFo hfi
      have hres : firstS v F p = i := by simpa using hfi
      refine W_round [(5, .ptr 1 tg 0), (1, .lst 1 (p.map row) false), (14, .lst 1 (p.map row) false), (15, .int .i64 p.length), (16, .int .i64 ((i : Nat) : Int))] ⟨f5, f1, f14, f15, f16, trivial⟩  1000 ?_
      simp -implicitDefEqProofs (disch := omega) only [go_sem, need_of, ↓reduceIte, reduceCtorEq, Nat.reduceAdd, Nat.reduceEqDiff, Nat.zero_add, decide_true, Nat.le_refl, rup_First_r3, rup_First_r4, rup_First_r5, rup_First_r6, rup_First_r7, rup_First_r8, List.length_map, List.length_cons, List.length_nil, gBH, hlt, hD]
      refine callView hT t_rup_Follows hFo (.cons _ _ _ _ (.agg _ _ (.cons _ _ _ _ (.same _ rfl) (.cons _ _ _ _ (seen_rows rfl) .nil))) (.cons _ _ _ _ (.same _ rfl) .nil)) rfl 1000 ?_
      simp -implicitDefEqProofs (disch := omega) only [go_sem, ↓reduceIte, Nat.reduceEqDiff, Bool.not_false]
      exact .inl ⟨rfl, by rw [hres]; rfl⟩
    | true =>
      rw [hfo] at hFo hfi
      rw [if_pos rfl, ← happ] at hfi
      refine W_round [(5, .ptr 1 tg 0), (1, .lst 1 (p.map row) false), (14, .lst 1 (p.map row) false), (15, .int .i64 p.length), (16, .int .i64 ((i : Nat) : Int))] ⟨f5, f1, f14, f15, f16, trivial⟩  1000 ?_
      simp -implicitDefEqProofs (disch := omega) only [go_sem, need_of, ↓reduceIte, reduceCtorEq, Nat.reduceAdd, Nat.reduceEqDiff, Nat.zero_add, decide_true, Nat.le_refl, rup_First_r3, rup_First_r4, rup_First_r5, rup_First_r6, rup_First_r7, rup_First_r8, List.length_map, List.length_cons, List.length_nil, gBH, hlt, hD]
      refine callView hT t_rup_Follows hFo (.cons _ _ _ _ (.agg _ _ (.cons _ _ _ _ (.same _ rfl) (.cons _ _ _ _ (seen_rows rfl) .nil))) (.cons _ _ _ _ (.same _ rfl) .nil)) rfl 1000 ?_
      simp -implicitDefEqProofs (disch := omega) only [go_sem, need_of, ↓reduceIte, reduceCtorEq, Nat.reduceAdd, Nat.reduceEqDiff, Nat.reduceLeDiff, Nat.zero_add, Nat.mul_one, Bool.not_true, Bool.not_false, Nat.le_refl, Nat.zero_le, List.length_map, List.length_cons, List.length_nil, List.cons_append, List.nil_append]
      refine ⟨p.length - (i + 1), _, _, by omega, Shift.refl _ _ _ _, i + 1, t + 1, t, by omega, rfl, by omega, ?_⟩
      simp -implicitDefEqProofs (disch := omega) only [go_sem, ↓reduceIte, Nat.reduceEqDiff, Nat.zero_add, List.length_cons, List.length_nil, gBH, e2, happ, List.length_append, List.map_append, row]
  · have hi : i = p.length := by omega
    have hres : firstS v F p = p.length := by rw [hi, List.drop_length] at hfi; simpa [firstS] using hfi
    refine W_round [(5, .ptr 1 tg 0), (1, .lst 1 (p.map row) false), (14, .lst 1 (p.map row) false), (15, .int .i64 p.length), (16, .int .i64 ((i : Nat) : Int))] ⟨f5, f1, f14, f15, f16, trivial⟩  1000 ?_
    simp -implicitDefEqProofs (disch := omega) only [go_sem, ↓reduceIte, Nat.reduceEqDiff, decide_false, rup_First_r3, rup_First_r4, rup_First_r5, rup_First_r6, rup_First_r7, rup_First_r8, hi, Nat.lt_irrefl]
    exact .inr ⟨rfl, rfl, hres⟩

theorem firstS_le (v : Int) : ∀ (p F : List (List Int)), firstS v F p ≤ p.length
  | [], _ => Nat.le_refl _
  | c :: p, F => by
    unfold firstS
    split
    · have := firstS_le v p (F ++ [c]); simp; omega
    · exact Nat.zero_le _
set_option maxHeartbeats 1000000 in
theorem c_First (hT : TabOk Try.prog tab) (v : Int) (F p : List (List Int)) (hF : F.length + p.length ≤ 1000) (hc : ∀ c ∈ F, c.length ≤ 1000) (hp : ∀ c ∈ p, c.length ≤ 1000) (hb : ∀ c ∈ p, ∀ n ∈ c, -9223372036854775808 ≤ n ∧ n ≤ 9223372036854775807) :
    Pure Try.prog G n_rup_First [fml v F, rows p] fun u => u = .int .i64 (firstS v F p) := by
  intro t
  simp only [fml, rows]
  refine C_keep 0 (Nat.zero_le _) (C_tab hT t_rup_First (by simp [rup_First]) (W_run 1000 ?_))
  simp -implicitDefEqProofs (disch := omega) only [go_sem, ↓reduceIte, reduceCtorEq, Nat.reduceAdd, Nat.reduceEqDiff, Nat.reduceLeDiff, Nat.zero_add, Nat.add_zero, Nat.le_refl, rup_First, rup_First_r0, rup_First_r1, rup_First_r2, rup_First_r3, rup_First_r4, rup_First_r5, rup_First_r6, rup_First_r7, rup_First_r8, rup_First_r9, List.length_cons, List.length_nil, List.cons_append, List.nil_append]
  refine And.intro ?_ ?_
  · refine call hT t_slices_Clone_int_int_29 (c_CloneR hT F (by omega)) 1000 fun u σ hu => ?_
    obtain ⟨t1, w, ht1, rfl, rfl⟩ := hu
    simp -implicitDefEqProofs (disch := omega) only [go_sem, ↓reduceIte, reduceCtorEq, Nat.reduceAdd, Nat.reduceEqDiff, Nat.reduceLeDiff, Nat.zero_add, Bool.not_false, Nat.le_refl, Nat.zero_le, List.length_map, List.length_cons, List.length_nil, List.cons_append, List.nil_append]
    refine sem_invE (gAJ t t1 v F p) (gAE v F p) (m0 := p.length) ⟨0, t1 + 1, w, by omega, rfl, by simp, ?_⟩ (fun m fr σ hJ => gA_round hT hF hc hp hb hJ) (fun e fr σ hE => ?_)
    · simp -implicitDefEqProofs (disch := omega) only [go_sem, ↓reduceIte, reduceCtorEq, Nat.reduceEqDiff, gAH, List.take_zero, List.append_nil]
      first | rfl | exact ⟨rfl, rfl⟩
    · rcases hE with ⟨rfl, f4⟩ | ⟨rfl, f1, hres⟩
      · refine run_sem 1000 ?_
        simp -implicitDefEqProofs (disch := omega) only [go_sem, Nat.zero_le, f4]
      · refine run_sem 1000 ?_
        simp -implicitDefEqProofs (disch := omega) only [go_sem, ↓reduceIte, Nat.reduceEqDiff, Nat.zero_le, List.length_map, f1, hres]
  · refine call hT t_slices_Clone_int_int_29 (c_CloneR hT F (by omega)) 1000 fun u σ hu => ?_
    obtain ⟨t1, w, ht1, rfl, rfl⟩ := hu
    simp -implicitDefEqProofs (disch := omega) only [go_sem, ↓reduceIte, reduceCtorEq, Nat.reduceAdd, Nat.reduceEqDiff, Nat.reduceLeDiff, Nat.zero_add, Bool.not_false, Nat.le_refl, Nat.zero_le, List.length_map, List.length_cons, List.length_nil, List.cons_append, List.nil_append]
    refine sem_invE (gBJ t (t + 1) v F p) (gBE v F p) (m0 := p.length) ⟨0, t1, w, by omega, rfl, by simp, ?_⟩ (fun m fr σ hJ => gB_round hT hF hc hp hb hJ) (fun e fr σ hE => ?_)
    · simp -implicitDefEqProofs (disch := omega) only [go_sem, ↓reduceIte, reduceCtorEq, Nat.reduceEqDiff, gBH, List.take_zero, List.append_nil]
      first | rfl | exact ⟨rfl, rfl⟩
    · rcases hE with ⟨rfl, f4⟩ | ⟨rfl, f1, hres⟩
      · refine run_sem 1000 ?_
        simp -implicitDefEqProofs (disch := omega) only [go_sem, Nat.zero_le, f4]
      · refine run_sem 1000 ?_
        simp -implicitDefEqProofs (disch := omega) only [go_sem, ↓reduceIte, Nat.reduceEqDiff, Nat.zero_le, List.length_map, f1, hres]

theorem checkS_eq {v : Int} {F p : List (List Int)} : checkS v F p = (decide (0 < p.length) && (decide (p.getLast? = some []) && decide (firstS v F p = p.length))) := by
  unfold checkS
  congr 1
  cases p <;> simp
theorem c_Check (hT : TabOk Try.prog tab) (v : Int) (F p : List (List Int)) (hF : F.length + p.length ≤ 1000) (hc : ∀ c ∈ F, c.length ≤ 1000) (hp : ∀ c ∈ p, c.length ≤ 1000) (hb : ∀ c ∈ p, ∀ n ∈ c, -9223372036854775808 ≤ n ∧ n ≤ 9223372036854775807) :
    Pure Try.prog G n_rup_Check [fml v F, rows p] fun u => u = .bool (checkS v F p) := by
  intro t
  have hFi := c_First (G := G) hT v F p hF hc hp hb
  have hle := firstS_le v p F
  simp only [fml, rows] at hFi ⊢
  refine C_keep 0 (Nat.zero_le _) (C_tab hT t_rup_Check (by simp [rup_Check]) (W_run 14 ?_))
  have hnF : namelessL [V.agg [V.int .i64 v, V.lst 1 (F.map row) false], V.lst 1 (p.map row) false] = true := by simp [namelessL, nameless]
  rcases Nat.eq_zero_or_pos p.length with hz | hpos
  · have hcs : checkS v F p = false := by rw [checkS_eq]; simp [hz]
    have h0 : ¬ (0 < (p.length : Int)) := by omega
    have h0' : decide (0 < (p.length : Int)) = false := by simpa using h0
    simp -implicitDefEqProofs (disch := omega) only [go_sem, ↓reduceIte, reduceCtorEq, Nat.reduceEqDiff, Nat.zero_add, rup_Check, rup_Check_r0, rup_Check_r1, rup_Check_r2, List.length_map, and_true]
    iterate 14 (try (refine run_sem 2 ?_; simp -implicitDefEqProofs (disch := omega) only [go_sem, ↓reduceIte, reduceCtorEq, Nat.reduceEqDiff, Nat.zero_add, decide_false, Nat.zero_le, gt_iff_lt, true_and, h0]))
    rw [hcs]
  · have h0 : 0 < (p.length : Int) := by omega
    have h0' : decide (0 < (p.length : Int)) = true := by simpa using h0
    obtain ⟨c, hci⟩ : ∃ c, p[p.length - 1]? = some c := ⟨_, List.getElem?_eq_getElem (by omega)⟩
    have hD := rows_getD hci
    have hlast : p.getLast? = some c := by rw [List.getLast?_eq_getElem?]; exact hci
    have e4 : IntKind.i64.wrap ((p.length : Int) - 1) = ((p.length - 1 : Nat) : Int) := by
      rw [wrap_id]
      · omega
      · simp [IntKind.min, IntKind.signed, IntKind.bits]; omega
      · simp [IntKind.max, IntKind.signed, IntKind.bits]; omega
    have hlt : p.length - 1 < p.length := by omega
    by_cases hcn : c = []
    · have hcl : ((c.length : Int) == 0) = true := by rw [hcn]; rfl
      have hcs : checkS v F p = decide (firstS v F p = p.length) := by rw [checkS_eq]; simp [hpos, hlast, hcn]
      simp -implicitDefEqProofs (disch := omega) only [go_sem, ↓reduceIte, reduceCtorEq, Nat.reduceEqDiff, Nat.zero_add, rup_Check, rup_Check_r0, rup_Check_r1, rup_Check_r2, List.length_map, and_true]
      iterate 6 (try (refine run_sem 2 ?_; simp -implicitDefEqProofs (disch := omega) only [go_sem, need_of, ↓reduceIte, reduceCtorEq, Nat.reduceAdd, Nat.reduceEqDiff, Nat.zero_add, decide_true, Nat.le_refl, gt_iff_lt, List.length_map, ints_length, false_implies, true_implies, and_true, h0, e4, hD, hlt, hcl]))
      iterate 2 (try (refine run_sem 2 ?_; simp -implicitDefEqProofs (disch := omega) only [go_sem, ↓reduceIte, reduceCtorEq, Nat.reduceAdd, Nat.reduceEqDiff, Nat.zero_add]))
      refine callPS hT t_rup_First hFi hnF 2 ?_
      simp -implicitDefEqProofs (disch := omega) only [go_sem, ↓reduceIte, reduceCtorEq, Nat.reduceAdd, Nat.reduceEqDiff, Nat.zero_add]
      iterate 9 (try (refine run_sem 2 ?_; simp -implicitDefEqProofs (disch := omega) only [go_sem, ↓reduceIte, reduceCtorEq, Nat.reduceEqDiff, Nat.zero_add, Nat.zero_le, true_and]))
      rw [hcs]
      congr 1
      rw [Bool.eq_iff_iff, beq_iff_eq, decide_eq_true_eq]
      omega
    · have hcl : ((c.length : Int) == 0) = false := by
        rw [beq_eq_false_iff_ne]; have := List.length_pos_iff.2 hcn; omega
      have hcs : checkS v F p = false := by rw [checkS_eq]; simp [hlast, hcn]
      simp -implicitDefEqProofs (disch := omega) only [go_sem, ↓reduceIte, reduceCtorEq, Nat.reduceEqDiff, Nat.zero_add, rup_Check, rup_Check_r0, rup_Check_r1, rup_Check_r2, List.length_map, and_true]
      iterate 14 (try (refine run_sem 2 ?_; simp -implicitDefEqProofs (disch := omega) only [go_sem, need_of, ↓reduceIte, reduceCtorEq, Nat.reduceAdd, Nat.reduceEqDiff, Nat.zero_add, decide_true, Nat.le_refl, Nat.zero_le, gt_iff_lt, List.length_map, ints_length, true_implies, true_and, and_true, h0, e4, hD, hlt, hcl]))
      rw [hcs]
end Go.Proofs.Ytingdebioipemaa
