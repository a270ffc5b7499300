/- Contracts: what follows by clauses of one literal. -/
import Derived.Test.YtingdebioipemaaCw5
namespace Go.Proofs.Ytingdebioipemaa
open Go Go.Am Go.Cl
set_option maxRecDepth 100000
variable {P : Program} {G : Nat → Option V}

/-- What is asked of the library's sort. -/
def SortU (P : Program) (G : Nat → Option V) : Prop := ∀ (base k v t : Nat) (o : List (Option Ob)) (zs : List Int), base ≤ k → o[k]? = some (some (.arr v 3 (ints zs))) → Once zs → (∀ n ∈ zs, -16777216 ≤ n ∧ n ≤ 16777216) → zs.length ≤ 1000000 →
  C P G base n_slices_SortFunc_int_int [.sl k v 0 1 zs.length none, .fn (.func n_clause_Units_S4) [] []] ⟨t, o⟩ fun r σ' => r = .tup [] ∧ ∃ t', t ≤ t' ∧ σ' = ⟨t', o.set k (some (.arr v 3 (ints (sortV zs))))⟩

def uH (tf tm tb tw : Nat) (v : Int) (F : List (List Int)) (S : List Int) : List (Option Ob) :=
  [some (.arr tf 24 [.int .i64 v, .lst 1 (F.map row) false]), some (.map tm (kn S)), some (.arr tb 60 [.mp 1 tm]), some (.arr tw 3 (ints S))]

theorem ins_length (n : Int) : ∀ l : List Int, (ins n l).length = l.length + 1
  | [] => rfl
  | a :: l => by unfold ins; split <;> simp [ins_length n l]
theorem sortV_length : ∀ l : List Int, (sortV l).length = l.length
  | [] => rfl
  | a :: l => by simp [sortV, ins_length, sortV_length l]
theorem passU_append (S : List Int) : ∀ (A B : List (List Int)), passU S (A ++ B) = (passU S A).bind fun S => passU S B
  | [], B => rfl
  | c :: A, B => by
    simp only [List.cons_append, passU]
    cases stepU S c with
    | none => rfl
    | some S1 => simp only [Option.bind_some]; exact passU_append S1 A B
theorem passU_snoc {S S1 : List Int} {F : List (List Int)} {i : Nat} {c : List Int} (hi : F[i]? = some c) (h : passU S (F.take i) = some S1) : passU S (F.take (i + 1)) = stepU S1 c := by
  rw [take_snoc hi, passU_append, h, Option.bind_some]
  simp only [passU]
  cases stepU S1 c <;> rfl
theorem passU_fail {S S1 : List Int} {F : List (List Int)} {i : Nat} {c : List Int} (hi : F[i]? = some c) (h : passU S (F.take i) = some S1) (hs : stepU S1 c = none) : passU S F = none := by
  have := passU_append S (F.take (i + 1)) (F.drop (i + 1))
  rw [List.take_append_drop, passU_snoc hi h, hs] at this
  exact this

/-- A clause, case by case. -/
theorem stepU_cases (S c : List Int) : (c.any (fun n => decide (n ∈ S)) = true ∧ stepU S c = some S) ∨ (c.any (fun n => decide (n ∈ S)) = false ∧ c.filter (fun n => !decide (-n ∈ S)) = [] ∧ stepU S c = none) ∨
    (c.any (fun n => decide (n ∈ S)) = false ∧ ∃ a l, c.filter (fun n => !decide (-n ∈ S)) = a :: l ∧ a ∈ c ∧ a ∉ S ∧ l.length + 1 ≤ c.length ∧ (((a :: l).all (fun n => n == a) = true ∧ stepU S c = some (S ++ [a])) ∨ ((a :: l).all (fun n => n == a) = false ∧ stepU S c = some S))) := by
  cases hany : c.any (fun n => decide (n ∈ S)) with
  | true => exact .inl ⟨rfl, if_pos hany⟩
  | false =>
    have hst : stepU S c = match c.filter (fun n => !decide (-n ∈ S)) with
        | [] => none
        | a :: l => if l.all fun n => decide (n = a) then some (S ++ [a]) else some S := if_neg (by simp [hany])
    refine .inr ?_
    generalize hlf : c.filter (fun n => !decide (-n ∈ S)) = left at hst
    cases left with
    | nil => exact .inl ⟨rfl, rfl, hst⟩
    | cons a l =>
      refine .inr ⟨rfl, a, l, rfl, ?_, ?_, ?_, ?_⟩
      · have : a ∈ c.filter (fun n => !decide (-n ∈ S)) := by rw [hlf]; simp
        exact (List.mem_filter.1 this).1
      · intro h
        have : a ∈ c.filter (fun n => !decide (-n ∈ S)) := by rw [hlf]; simp
        have := List.any_eq_false.1 hany a (List.mem_filter.1 this).1
        simp [h] at this
      · have := List.length_filter_le (fun n => !decide (-n ∈ S)) c
        rw [hlf, List.length_cons] at this; omega
      · have hal : (a :: l).all (fun n => n == a) = l.all fun n => decide (n = a) := by simp [List.all_cons]; rfl
        rw [hal]
        simp only at hst
        cases hall : l.all fun n => decide (n = a) with
        | false => rw [hall] at hst; exact .inr ⟨rfl, hst⟩
        | true => rw [hall, if_pos rfl] at hst; exact .inl ⟨rfl, hst⟩

theorem flat_len {F : List (List Int)} {k : Nat} (h : ∀ c ∈ F, c.length ≤ k) : F.flatten.length ≤ F.length * k := by
  induction F with
  | nil => simp
  | cons c F ih =>
    have h1 := h c (by simp)
    have h2 := ih fun d hd => h d (by simp [hd])
    rw [List.flatten_cons, List.length_append, List.length_cons, Nat.succ_mul]
    omega
/-- The clauses gone through, from one on. -/
abbrev uJ (v : Int) (F : List (List Int)) (S : List Int) (tf tb : Nat) : Nat → Fr → H → Prop := fun m fr σ => ∃ (i : Nat) (S1 : List Int) (t' tm tw : Nat), i ≤ F.length ∧ m = F.length - i ∧ passU S (F.take i) = some S1 ∧ Inv F S1 ∧ S.length ≤ S1.length ∧ fget fr 1 = .ptr 0 tf 0 ∧ fget fr 4 = .ptr 2 tb 0 ∧ fget fr 5 = .sl 3 tw 0 1 S1.length none ∧ fget fr 6 = .int .i64 S.length ∧ fget fr 21 = .lst 1 (F.map row) false ∧ fget fr 22 = .int .i64 F.length ∧ fget fr 23 = .int .i64 i ∧ σ = ⟨t', uH tf tm tb tw v F S1⟩
abbrev uE (v : Int) (F : List (List Int)) (S : List Int) (tf tb : Nat) : AE → Fr → H → Prop := fun e fr σ => (e = .ret ∧ passU S F = none ∧ fget fr 2 = .lst 0 [] true ∧ fget fr 3 = .bool false) ∨ (∃ (S1 : List Int) (t' tm tw : Nat), e = .ex 2 ∧ passU S F = some S1 ∧ Inv F S1 ∧ S.length ≤ S1.length ∧ fget fr 1 = .ptr 0 tf 0 ∧ fget fr 4 = .ptr 2 tb 0 ∧ fget fr 5 = .sl 3 tw 0 1 S1.length none ∧ fget fr 6 = .int .i64 S.length ∧ σ = ⟨t', uH tf tm tb tw v F S1⟩)
set_option maxHeartbeats 1000000 in
theorem u_round (hT : TabOk P tab) {v : Int} {F : List (List Int)} (hF : F.length ≤ 1000) (hc : ∀ c ∈ F, c.length ≤ 1000) (hz : Nz F) (hrt : ∀ c ∈ F, ∀ n ∈ c, -16777216 ≤ n ∧ n ≤ 16777216) {S : List Int} {tf tb m : Nat} {fr : Fr} {σ : H} (hJ : uJ v F S tf tb m fr σ) :
    W P G 56 0 (AC.seq (AC.reg clause_Units_r9 [])   (AC.seq (AC.cond (Arg.t 24)   AC.skip   (AC.exit 2))   (AC.seq (AC.block 3 (AC.seq (AC.reg clause_Units_r10 [25, 26])   (AC.seq (AC.seq (AC.reg clause_Units_r11 [27, 28])   (AC.cond (Arg.t 29)   (AC.exit 3)   AC.skip))   (AC.seq (AC.reg clause_Units_r12 [30, 31, 32, 33])   (AC.block 4 (AC.seq (AC.reg clause_Units_r13 [35, 36, 37])   (AC.cond (Arg.t 34)   (AC.seq (AC.reg clause_Units_r14 [])   AC.ret)   (AC.seq (AC.reg clause_Units_r15 [39, 40, 41])   (AC.cond (Arg.t 38)   (AC.seq (AC.reg clause_Units_r16 [42, 43, 44, 45])   (AC.reg clause_Units_r17 [46, 47, 48, 49, 50, 51]))   AC.skip)))))))))   (AC.reg clause_Units_r18 [52])))) fr σ (seqQ (fun fr σ => ∃ m' fr' σ', m' < m ∧ Shift G 56 0 fr σ fr' σ' ∧ uJ v F S tf tb m' fr' σ') (uE v F S tf tb)) := by
  obtain ⟨i, S1, t', tm, tw, hi, rfl, hp, hI1, hl1, f1, f4, f5, f6, f21, f22, f23, rfl⟩ := hJ
  have hSl : S1.length ≤ 1000000 := by
    have h1 := hI1.len
    have h2 := flat_len hc
    have h3 : F.length * 1000 ≤ 1000 * 1000 := Nat.mul_le_mul_right _ hF
    omega
  rcases Nat.lt_or_ge i F.length with hlt | hge
  · obtain ⟨c, hci⟩ : ∃ c, F[i]? = some c := ⟨_, List.getElem?_eq_getElem hlt⟩
    have hD := rows_getD hci
    have hcm := List.mem_of_getElem? hci
    have e2 := wnext hlt (by omega)
    have hcl := hc c hcm
    have hb64 : ∀ n ∈ c, -9223372036854775808 ≤ n ∧ n ≤ 9223372036854775807 := fun n hn => by have := hrt c hcm n hn; omega
    have hps := passU_snoc hci hp
    have hneg2 : c.filter (fun n => !decide (neg n ∈ S1)) = c.filter (fun n => !decide (-n ∈ S1)) := by
      refine List.filter_congr fun n hn => ?_
      have hne : n ≠ mn := by have := hrt c hcm n hn; unfold mn; omega
      rw [neg_ne hne]
    have hsome := fun t => c_some (P := P) (G := G) (base := 0) (t := t) hT (k_clause_Units_S1 (c := c) hT (kb := 2) (tb := tb) (T := 60) (km := 1) (vm := tm) (S := S1) (o := [some (.arr tf 24 [.int .i64 v, .lst 1 (F.map row) false]), some (.map tm (kn S1)), some (.arr tb 60 [.mp 1 tm]), some (.arr tw 3 (ints S1))]) rfl rfl) (by omega)
    have hdel := fun t w => c_DeleteFunc (P := P) (G := G) (base := 0) (t := t) (w := w) hT (o := [some (.arr tf 24 [.int .i64 v, .lst 1 (F.map row) false]), some (.map tm (kn S1)), some (.arr tb 60 [.mp 1 tm]), some (.arr tw 3 (ints S1))]) (Nat.zero_le _) (fun w' cells => k_clause_Units_S2 (c := c) hT (kb := 2) (km := 1) (S := S1) hb64 rfl rfl) (by omega)
    rw [hneg2] at hdel
    rcases stepU_cases S1 c with ⟨hany, hst⟩ | ⟨hany, hlf, hst⟩ | ⟨hany, a, l, hlf, hac, haS, hlen, hall⟩
    · refine W_round [(1, .ptr 0 tf 0), (4, .ptr 2 tb 0), (5, .sl 3 tw 0 1 S1.length none), (6, .int .i64 S.length), (21, .lst 1 (F.map row) false), (22, .int .i64 F.length), (23, .int .i64 i)] ⟨f1, f4, f5, f6, f21, f22, f23, trivial⟩  1000 ?_
      simp -implicitDefEqProofs (disch := omega) only [go_sem, need_of, ↓reduceIte, Nat.reduceEqDiff, Nat.zero_add, decide_true, Nat.le_refl, clause_Units_r9, clause_Units_r10, clause_Units_r11, clause_Units_r12, clause_Units_r13, clause_Units_r14, clause_Units_r15, clause_Units_r16, clause_Units_r17, clause_Units_r18, uH, List.length_map, List.length_cons, List.length_nil, hlt, hD]
      refine call hT t_clause_some_int (hsome _) 1000 fun u σ hu => ?_
      obtain ⟨rfl, t1, ht1, rfl⟩ := hu
      rw [hany]
      simp -implicitDefEqProofs (disch := omega) only [go_sem, ↓reduceIte, Nat.reduceEqDiff]
      refine ⟨F.length - (i + 1), _, _, by omega, Shift.refl _ _ _ _, i + 1, S1, t1, tm, tw, by omega, rfl, by rw [hps, hst], hI1, hl1, ?_⟩
      simp -implicitDefEqProofs (disch := omega) only [go_sem, ↓reduceIte, Nat.reduceEqDiff, uH, e2]
    · refine W_round [(1, .ptr 0 tf 0), (4, .ptr 2 tb 0), (5, .sl 3 tw 0 1 S1.length none), (6, .int .i64 S.length), (21, .lst 1 (F.map row) false), (22, .int .i64 F.length), (23, .int .i64 i)] ⟨f1, f4, f5, f6, f21, f22, f23, trivial⟩  1000 ?_
      simp -implicitDefEqProofs (disch := omega) only [go_sem, need_of, ↓reduceIte, Nat.reduceEqDiff, Nat.zero_add, decide_true, Nat.le_refl, clause_Units_r9, clause_Units_r10, clause_Units_r11, clause_Units_r12, clause_Units_r13, clause_Units_r14, clause_Units_r15, clause_Units_r16, clause_Units_r17, clause_Units_r18, uH, List.length_map, List.length_cons, List.length_nil, hlt, hD]
      refine call hT t_clause_some_int (hsome _) 1000 fun u σ hu => ?_
      obtain ⟨rfl, t1, ht1, rfl⟩ := hu
      rw [hany]
      simp -implicitDefEqProofs (disch := omega) only [go_sem, ↓reduceIte, Nat.reduceEqDiff]
      refine call hT t_slices_Clone_int_int (c_Clone hT c (by omega)) 1000 fun u σ hu => ?_
      obtain ⟨t2, w, ht2, rfl, rfl⟩ := hu
      simp -implicitDefEqProofs (disch := omega) only [go_sem, ↓reduceIte, Nat.reduceAdd, Nat.reduceEqDiff, Nat.zero_add, List.length_cons, List.length_nil]
      refine call hT t_slices_DeleteFunc_int_int (hdel _ _) 1000 fun u σ hu => ?_
      obtain ⟨t3, cells, ht3, _, rfl, rfl⟩ := hu
      rw [hlf]
      simp -implicitDefEqProofs (disch := omega) only [go_sem, ↓reduceIte, reduceCtorEq, Nat.reduceAdd, Nat.reduceEqDiff, Nat.zero_add, Bool.not_false, Nat.le_refl, Nat.zero_le, uH, List.length_cons, List.length_nil, List.cons_append, List.nil_append, uE]
      exact ⟨fun _ => .inl (passU_fail hci hp hst), fun h => absurd rfl h⟩
    · have hallS : ∀ (t t3 w : Nat) (cells : List V), C P G 0 41 [.sl 4 w 0 1 (l.length + 1) none, .fn (.func 42) [] [.ptr 5 t3 0]] ⟨t, [some (.arr tf 24 [.int .i64 v, .lst 1 (F.map row) false]), some (.map tm (kn S1)), some (.arr tb 60 [.mp 1 tm]), some (.arr tw 3 (ints S1)), some (.arr w 3 (ints (a :: l) ++ cells)), some (.arr t3 25 [.sl 4 w 0 1 (l.length + 1) none])]⟩ fun u σ => u = .bool ((a :: l).all (fun n => n == a)) ∧ ∃ t', t ≤ t' ∧ σ = ⟨t', [some (.arr tf 24 [.int .i64 v, .lst 1 (F.map row) false]), some (.map tm (kn S1)), some (.arr tb 60 [.mp 1 tm]), some (.arr tw 3 (ints S1)), some (.arr w 3 (ints (a :: l) ++ cells)), some (.arr t3 25 [.sl 4 w 0 1 (l.length + 1) none])]⟩ := fun t t3 w cells => c_allS (P := P) (G := G) (base := 0) (t := t) hT (c := a :: l) (k := 4) (w := w) (T := 3) (cs := cells) (lim := none) (o := [some (.arr tf 24 [.int .i64 v, .lst 1 (F.map row) false]), some (.map tm (kn S1)), some (.arr tb 60 [.mp 1 tm]), some (.arr tw 3 (ints S1)), some (.arr w 3 (ints (a :: l) ++ cells)), some (.arr t3 25 [.sl 4 w 0 1 (l.length + 1) none])]) (Nat.zero_le _) (fun ex => k_clause_Units_S3 hT (kb := 5) (k := 4) (w := w) (cs := cells) (get_ext rfl) (get_ext rfl)) (by rw [List.length_cons]; omega) rfl
      have hne0 : ¬ (((l.length + 1 : Nat) : Int) = 0) := by omega
      refine W_round [(1, .ptr 0 tf 0), (4, .ptr 2 tb 0), (5, .sl 3 tw 0 1 S1.length none), (6, .int .i64 S.length), (21, .lst 1 (F.map row) false), (22, .int .i64 F.length), (23, .int .i64 i)] ⟨f1, f4, f5, f6, f21, f22, f23, trivial⟩  1000 ?_
      simp -implicitDefEqProofs (disch := omega) only [go_sem, need_of, ↓reduceIte, Nat.reduceEqDiff, Nat.zero_add, decide_true, Nat.le_refl, clause_Units_r9, clause_Units_r10, clause_Units_r11, clause_Units_r12, clause_Units_r13, clause_Units_r14, clause_Units_r15, clause_Units_r16, clause_Units_r17, clause_Units_r18, uH, List.length_map, List.length_cons, List.length_nil, hlt, hD]
      refine call hT t_clause_some_int (hsome _) 1000 fun u σ hu => ?_
      obtain ⟨rfl, t1, ht1, rfl⟩ := hu
      rw [hany]
      simp -implicitDefEqProofs (disch := omega) only [go_sem, ↓reduceIte, Nat.reduceEqDiff]
      refine call hT t_slices_Clone_int_int (c_Clone hT c (by omega)) 1000 fun u σ hu => ?_
      obtain ⟨t2, w, ht2, rfl, rfl⟩ := hu
      simp -implicitDefEqProofs (disch := omega) only [go_sem, ↓reduceIte, Nat.reduceAdd, Nat.reduceEqDiff, Nat.zero_add, List.length_cons, List.length_nil]
      refine call hT t_slices_DeleteFunc_int_int (hdel _ _) 1000 fun u σ hu => ?_
      obtain ⟨t3, cells, ht3, _, rfl, rfl⟩ := hu
      rw [hlf]
      simp -implicitDefEqProofs (disch := omega) only [go_sem, ↓reduceIte, Nat.reduceAdd, Nat.reduceEqDiff, Nat.zero_add, Bool.not_false, Nat.le_refl, Nat.zero_le, List.length_cons, List.length_nil, List.cons_append, List.nil_append, hne0, false_implies, true_implies, true_and, not_false_eq_true]
      refine call hT t_clause_all_int (hallS (t3 + 1) t3 w cells) 1000 fun u σ hu => ?_
      obtain ⟨rfl, t4, ht4, rfl⟩ := hu
      rcases hall with ⟨hall, hst⟩ | ⟨hall, hst⟩
      · have hD0 := ints_getDA (c := a :: l) (i := 0) cells rfl
        have h3 := keysOk_im .i64 (fun _ => .int .i64 1) S1 a
        have hput := mput_im .i64 (fun _ => .int .i64 1) a (.int .i64 1) rfl S1 haS
        rw [hall]
        simp -implicitDefEqProofs (disch := omega) only [go_sem, need_of, ↓reduceIte, reduceCtorEq, Nat.reduceEqDiff, Nat.reduceLeDiff, Int.reduceToNat, Int.reduceLE, Nat.zero_add, Nat.add_zero, Nat.mul_one, Bool.not_true, Bool.not_false, Nat.le_refl, Nat.zero_le, ints_length, List.length_cons, List.length_nil, hD0, List.length_append, kn, hput]
        have hI2 := ((stepU_inv hz hI1 hcm).2 _ hst).1
        refine ⟨F.length - (i + 1), _, _, by omega, Shift.drop (o' := uH tf tm tb t4 v F (S1 ++ [a])) (t' := t4 + 1) (by simp [subObs, uH, kn, ints]) (Nat.le_refl _) (Nat.zero_le _), i + 1, S1 ++ [a], t4 + 1, tm, t4, by omega, rfl, by rw [hps, hst], hI2, by simp; omega, ?_⟩
        simp -implicitDefEqProofs (disch := omega) only [go_sem, ↓reduceIte, Nat.reduceEqDiff, Nat.zero_add, uH, List.length_cons, List.length_nil, e2, List.length_append]
        try simp [ints]
      · rw [hall]
        simp -implicitDefEqProofs (disch := omega) only [go_sem, ↓reduceIte, Nat.reduceEqDiff]
        refine ⟨F.length - (i + 1), _, _, by omega, Shift.drop (o' := uH tf tm tb tw v F S1) (t' := t4) (by simp [subObs, uH]) (Nat.le_refl _) (Nat.zero_le _), i + 1, S1, t4, tm, tw, by omega, rfl, by rw [hps, hst], hI1, hl1, ?_⟩
        simp -implicitDefEqProofs (disch := omega) only [go_sem, ↓reduceIte, Nat.reduceEqDiff, uH, e2]
  · have hi : i = F.length := by omega
    subst hi
    rw [List.take_length] at hp
    refine W_round [(1, .ptr 0 tf 0), (4, .ptr 2 tb 0), (5, .sl 3 tw 0 1 S1.length none), (6, .int .i64 S.length), (21, .lst 1 (F.map row) false), (22, .int .i64 F.length), (23, .int .i64 F.length)] ⟨f1, f4, f5, f6, f21, f22, f23, trivial⟩  1000 ?_
    simp -implicitDefEqProofs (disch := omega) only [go_sem, ↓reduceIte, reduceCtorEq, Nat.reduceEqDiff, decide_false, clause_Units_r9, clause_Units_r10, clause_Units_r11, clause_Units_r12, clause_Units_r13, clause_Units_r14, clause_Units_r15, clause_Units_r16, clause_Units_r17, clause_Units_r18, uH, Nat.lt_irrefl, uE]
    exact ⟨S1, t', tm, tw, hp, hI1, hl1, rfl, rfl, rfl⟩

set_option maxHeartbeats 1000000 in
theorem c_Units (hT : TabOk P tab) (hs : SortU P G) (v : Int) (F : List (List Int)) (hF : F.length ≤ 1000) (hc : ∀ c ∈ F, c.length ≤ 1000) :
    Pure P G n_clause_Units [fml v F] fun u => u = if right v F then (match units F with | none => .tup [row [], .bool false] | some l => .tup [row l, .bool true]) else .tup [row [], .bool false] := by
  intro t
  refine C_res (Q := fun u _ => nameless u = true ∧ ((u = .tup [.lst 0 [] true, .bool false] ∧ (right v F = false ∨ units F = none)) ∨ ∃ l, right v F = true ∧ units F = some l ∧ u = .tup [row l, .bool true]))
    (C_freezeO (Q := fun u σ => (u = .tup [.lst 0 [] true, .bool false] ∧ (right v F = false ∨ units F = none)) ∨ ∃ l tw, right v F = true ∧ units F = some l ∧ u = .tup [.sl 3 tw 0 1 l.length none, .bool true] ∧ σ.o[3]? = some (some (.arr tw 3 (ints l)))) ?_ fun u σ hu => ?_) fun u σ hu => ?_
  · have hR := c_Right (P := P) (G := G) hT v F (by omega) (fun c h => by have := hc c h; omega)
    simp only [fml, rows] at hR ⊢
    refine C_tab hT t_clause_Units (by simp [clause_Units]) (W_run 1000 ?_)
    simp -implicitDefEqProofs (disch := omega) only [go_sem, ↓reduceIte, reduceCtorEq, Nat.reduceAdd, Nat.reduceEqDiff, Nat.zero_add, Nat.le_refl, clause_Units, clause_Units_r0, clause_Units_r1, clause_Units_r2, clause_Units_r3, clause_Units_r4, clause_Units_r5, clause_Units_r6, clause_Units_r7, clause_Units_r8, clause_Units_r9, clause_Units_r10, clause_Units_r11, clause_Units_r12, clause_Units_r13, clause_Units_r14, clause_Units_r15, clause_Units_r16, clause_Units_r17, clause_Units_r18, clause_Units_r19, clause_Units_r20]
    refine callPS hT t_clause_Right hR (by simp [namelessL, nameless]) 1000 ?_
    cases hr : right v F with
    | false =>
      simp -implicitDefEqProofs (disch := omega) only [go_sem, ↓reduceIte, reduceCtorEq, Nat.reduceEqDiff, Bool.not_false]
      try simp
    | true =>
      have hrt := (right_iff.1 hr)
      have hz := right_nz hr
      simp -implicitDefEqProofs (disch := omega) only [go_sem, ↓reduceIte, reduceCtorEq, Nat.reduceAdd, Nat.reduceEqDiff, Nat.zero_add, Bool.not_true, Bool.not_false, Nat.le_refl, Nat.zero_le]
      refine ⟨rfl, ?_⟩
      refine sem_shift (Shift.own (s := 5) (z := 0) (sz := 1) (T := 3) (by simp -implicitDefEqProofs (disch := omega) only [go_sem, ↓reduceIte, reduceCtorEq, Nat.reduceEqDiff]) (by decide)) ?_
      simp -implicitDefEqProofs (disch := omega) only [go_sem, ↓reduceIte, reduceCtorEq, Nat.reduceAdd, Nat.reduceEqDiff, Nat.zero_add, H.push, List.length_cons, List.length_nil, List.cons_append, List.nil_append]
      refine sem_invE (fun m fr σ => ∃ (S : List Int) (n0 : Int) (k t' tf tm tb tw : Nat), Inv F S ∧ ((n0 < (S.length : Int) ∧ m = k + 1 ∧ F.flatten.length + 1 ≤ k + S.length ∧ loopU F k S = foundU F) ∨ (n0 = (S.length : Int) ∧ m = 0 ∧ foundU F = some S)) ∧ fget fr 1 = .ptr 0 tf 0 ∧ fget fr 4 = .ptr 2 tb 0 ∧ fget fr 5 = .sl 3 tw 0 1 S.length none ∧ fget fr 6 = .int .i64 n0 ∧ σ = ⟨t', uH tf tm tb tw v F S⟩)
        (fun e fr σ => (e = .ret ∧ foundU F = none ∧ fget fr 2 = .lst 0 [] true ∧ fget fr 3 = .bool false) ∨ (∃ S t' tf tm tb tw, e = .ex 0 ∧ foundU F = some S ∧ fget fr 5 = .sl 3 tw 0 1 S.length none ∧ σ = ⟨t', uH tf tm tb tw v F S⟩))
        (m0 := F.flatten.length + 2) ⟨[], -1, F.flatten.length + 1, t + 1 + 1 + 1 + 1, t, t + 1, t + 1 + 1, t + 1 + 1 + 1, inv_nil F, .inl ⟨by simp, rfl, by simp, rfl⟩, ?_⟩ (fun m fr σ hJ => ?_) (fun e fr σ hE => ?_)
      · simp -implicitDefEqProofs (disch := omega) only [go_sem, ↓reduceIte, reduceCtorEq, Nat.reduceEqDiff, uH, List.length_nil]
        rfl
      · obtain ⟨S, n0, k, t', tf, tm, tb, tw, hI, hk, f1, f4, f5, f6, rfl⟩ := hJ
        refine W_run 1000 ?_
        rcases hk with ⟨hn0, rfl, hkl, hlu⟩ | ⟨rfl, rfl, hlu⟩
        · simp -implicitDefEqProofs (disch := omega) only [go_sem, ↓reduceIte, Nat.reduceAdd, Nat.reduceEqDiff, Nat.zero_add, decide_true, Nat.le_refl, uH, List.length_map, List.length_cons, List.length_nil, f1, f5, f6, hn0]
          refine sem_invE (uJ v F S tf tb) (uE v F S tf tb) (m0 := F.length) ⟨0, S, t', tm, tw, by omega, rfl, rfl, hI, Nat.le_refl _, ?_⟩ (fun m fr σ hJ => u_round hT hF hc hz (fun c h n hn => by have := hrt.2 c h n hn; omega) hJ) (fun e fr σ hE => ?_)
          · simp -implicitDefEqProofs (disch := omega) only [go_sem, ↓reduceIte, Nat.reduceEqDiff, uH, f1, f4, f5]
            rfl
          · rcases hE with ⟨rfl, hp, f2, f3⟩ | ⟨S1, t', tm, tw, rfl, hp, hI1, hl1, f1, f4, f5, f6, rfl⟩
            · have hno : foundU F = none := by
                rw [← hlu]
                cases k with
                | zero => rfl
                | succ k => rw [loopU, hp]
              refine run_sem 1000 ?_
              simp -implicitDefEqProofs (disch := omega) only [go_sem, reduceCtorEq, f2, f3]
              exact .inl hno
            · refine run_sem 1000 ?_
              simp -implicitDefEqProofs (disch := omega) only [go_sem, ↓reduceIte, uH]
              have hk : k ≠ 0 := by have := hI.len; omega
              obtain ⟨k, rfl⟩ := Nat.exists_eq_succ_of_ne_zero hk
              rw [loopU, hp] at hlu
              simp only at hlu
              by_cases hlen : S1.length = S.length
              · rw [if_pos hlen] at hlu
                refine ⟨0, _, _, by omega, Shift.refl _ _ _ _, S1, S.length, 0, t', tf, tm, tb, tw, hI1, .inr ⟨by rw [hlen], rfl, hlu.symm⟩, ?_⟩
                simp -implicitDefEqProofs (disch := omega) only [go_sem, f1, f4, f5, f6]
              · rw [if_neg hlen] at hlu
                refine ⟨k + 1, _, _, by omega, Shift.refl _ _ _ _, S1, S.length, k, t', tf, tm, tb, tw, hI1, .inl ⟨by omega, rfl, by omega, hlu⟩, ?_⟩
                simp -implicitDefEqProofs (disch := omega) only [go_sem, f1, f4, f5, f6]
        · simp -implicitDefEqProofs (disch := omega) only [go_sem, ↓reduceIte, reduceCtorEq, Nat.reduceEqDiff, decide_false, uH, f5, f6, Int.lt_irrefl]
          exact ⟨S, t', tf, tm, tb, tw, hlu, rfl, rfl, rfl⟩
      · rcases hE with ⟨rfl, hno, f2, f3⟩ | ⟨S, t', tf, tm, tb, tw, rfl, hSo, f5, rfl⟩
        · refine run_sem 1000 ?_
          have hu : units F = none := by rw [units, hno]; rfl
          simp -implicitDefEqProofs (disch := omega) only [go_sem, reduceCtorEq, f2, f3, hu]
          try simp
        · obtain ⟨hI, hm⟩ := foundU_some hz hSo
          have hu : units F = some (sortV S) := by rw [units, hSo]; rfl
          have hSl : S.length ≤ 1000000 := by
            have h1 := hI.len
            have h2 := flat_len hc
            have h3 : F.length * 1000 ≤ 1000 * 1000 := Nat.mul_le_mul_right _ hF
            omega
          refine run_sem 1000 ?_
          simp -implicitDefEqProofs (disch := omega) only [go_sem, ↓reduceIte, uH, f5]
          refine call hT t_slices_SortFunc_int_int (hs 0 3 tw t' _ S (Nat.zero_le _) rfl hI.once (fun n hn => by
            obtain ⟨c, hc, hnc⟩ := (hI.up n hn).in
            have := hrt.2 c hc n hnc; omega) hSl) 1000 fun u σ hu' => ?_
          obtain ⟨rfl, t1, ht1, rfl⟩ := hu'
          simp -implicitDefEqProofs (disch := omega) only [go_sem, ↓reduceIte, reduceCtorEq, Nat.reduceEqDiff, f5, hu]
          exact ⟨sortV S, tw, rfl, by rw [sortV_length], rfl⟩
  · rcases hu with ⟨rfl, hu⟩ | ⟨l, tw, hr, hu, rfl, ho⟩
    · exact .inl ⟨rfl, .inl ⟨rfl, hu⟩⟩
    · refine .inr ⟨3, tw, 3, ints l, Nat.zero_le _, ho, ints_nameless l, ?_, .inr ⟨l, hr, hu, ?_⟩⟩
      · simp [frzV, frzL, nameless, namelessL, ints_length]
      · simp [frzV, frzL, rowsV, ints_length, row]
        rw [← ints_length l, List.take_length]
  · rcases hu with ⟨hn, ⟨rfl, hu⟩ | ⟨l, hr, hu, rfl⟩⟩
    · refine ⟨.tup [row [], .bool false], .tup _ _ (.cons _ _ _ _ (.lst _ _ _ _ _ .nil (.inl rfl)) (.cons _ _ _ _ (.refl _) .nil)), rfl, ?_⟩
      rcases hu with hu | hu
      · rw [hu]; rfl
      · rw [hu]; simp
    · exact ⟨_, .refl _, hn, by rw [hr, hu]; rfl⟩
end Go.Proofs.Ytingdebioipemaa
