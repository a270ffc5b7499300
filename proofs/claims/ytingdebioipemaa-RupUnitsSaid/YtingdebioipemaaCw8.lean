/- Contracts: literals let hold. -/
import Derived.Test.YtingdebioipemaaCw7
namespace Go.Proofs.Ytingdebioipemaa
open Go Go.Am Go.Cl
set_option maxRecDepth 100000
variable {P : Program} {G : Nat → Option V}

theorem mput_im_mem (k : IntKind) (f : Int → V) (a : Int) (v : V) (hv : v = f a) : ∀ S : List Int, a ∈ S → mput [.i] (.int k a) v (im k f S) = im k f S
  | [], h => absurd h (by simp)
  | b :: S, h => by
    by_cases e : a = b
    · subst e
      simp [im, mput, keyEq_i, hv]
    · have ih := mput_im_mem k f a v hv S (by simpa [e] using h)
      unfold im at ih ⊢
      simp only [List.map_cons, mput, keyEq_i, e, decide_false]
      rw [ih]; simp

/-- The same numbers, each once. -/
def addN (S : List Int) (a : Int) : List Int := if a ∈ S then S else S ++ [a]
theorem mem_addN {S : List Int} {a n : Int} : n ∈ addN S a ↔ n ∈ S ∨ n = a := by
  unfold addN; split
  · rename_i h; exact ⟨.inl, fun x => x.elim id fun e => e ▸ h⟩
  · simp
theorem mput_kn (S : List Int) (a : Int) : mput [Kd.i] (V.int .i64 a) (V.int .i64 1) (im .i64 (fun _ => V.int .i64 1) S) = im .i64 (fun _ => V.int .i64 1) (addN S a) := by
  unfold addN; split
  · rename_i h; exact mput_im_mem .i64 (fun _ => V.int .i64 1) a _ rfl S h
  · rename_i h; exact mput_im .i64 (fun _ => V.int .i64 1) a _ rfl S h
def knOf (L : List Int) : List Int := L.foldl addN []
theorem mem_foldl_addN {n : Int} : ∀ {L S : List Int}, n ∈ L.foldl addN S ↔ n ∈ S ∨ n ∈ L
  | [], S => by simp
  | a :: L, S => by
    rw [List.foldl_cons, mem_foldl_addN (L := L), mem_addN, List.mem_cons, or_assoc]
theorem mem_knOf {n : Int} {L : List Int} : n ∈ knOf L ↔ n ∈ L := by rw [knOf, mem_foldl_addN]; simp

def aH (tf tr tm tb : Nat) (v : Int) (F : List (List Int)) (S : List Int) : List (Option Ob) :=
  [some (.arr tf 24 [.int .i64 v, .lst 1 (F.map row) false]), some (.arr tr 24 [.int .i64 0, .lst 0 [] true]), some (.map tm (kn S)), some (.arr tb 60 [.mp 2 tm])]
def bH (to tw : Nat) (v : Int) (R : List (List Int)) : List (Option Ob) := [some (.arr to 24 [.int .i64 v, .sl 5 tw 0 1 R.length none]), some (.arr tw 25 (R.map row))]

/-- What is left of a clause, as a row that stays. -/
theorem c_left (hT : TabOk P tab) {tf tr tm tb to tw w t : Nat} {v : Int} {F R : List (List Int)} {S c : List Int} (hb : ∀ n ∈ c, -9223372036854775808 ≤ n ∧ n ≤ 9223372036854775807) (hl : c.length ≤ 1000000) :
    C P G 0 n_slices_DeleteFunc_int_int [.sl 6 w 0 1 c.length none, .fn (.func n_clause_Assign_S3) [] [.ptr 3 tb 0]] ⟨t, aH tf tr tm tb v F S ++ bH to tw v R ++ [some (.arr w 3 (ints c))]⟩
      fun u σ => u = .lst 1 (ints (c.filter fun n => !decide (neg n ∈ S))) false ∧ ∃ t', t ≤ t' ∧ σ = ⟨t', aH tf tr tm tb v F S ++ bH to tw v R ++ [none]⟩ := by
  have h := c_DeleteFunc (P := P) (G := G) (base := 6) (t := t) (w := w) hT (o := aH tf tr tm tb v F S ++ bH to tw v R) (c := c) (Nat.le_refl _) (fun w' cells => k_clause_Assign_S3 hT (kb := 3) (km := 2) (S := S) hb rfl rfl) hl
  refine C.wk (base' := 6) (Nat.zero_le _) (by simp [aH, bH]) (C_freeze h fun u σ ⟨t', cells, ht, hn, e1, e2⟩ => ?_)
  subst e1 e2
  refine ⟨6, w, 3, _, Nat.le_refl _, rfl, namelessL_append (ints_nameless _) hn, ?_, t', ht, ?_⟩
  · simp [frzV, rowsV, ints_length, aH, bH]
  · simp [mapFrom, aH, bH]

theorem knOf_snoc {L : List Int} {i : Nat} {n : Int} (h : L[i]? = some n) : knOf (L.take (i + 1)) = addN (knOf (L.take i)) n := by
  unfold knOf; rw [take_snoc h, List.foldl_append]; rfl

abbrev aJ (tf tr tb : Nat) (v : Int) (F : List (List Int)) (L : List Int) : Nat → Fr → H → Prop := fun m fr σ => ∃ i t tm, i ≤ L.length ∧ m = L.length - i ∧ fget fr 1 = .lst 1 (ints L) false ∧ fget fr 2 = .ptr 0 tf 0 ∧ fget fr 4 = .ptr 1 tr 0 ∧ fget fr 6 = .ptr 3 tb 0 ∧ fget fr 26 = .lst 1 (ints L) false ∧ fget fr 27 = .int .i64 L.length ∧ fget fr 28 = .int .i64 ((i : Nat) : Int) ∧ σ = ⟨t, aH tf tr tm tb v F (knOf (L.take i))⟩
abbrev aE (tf tr tb : Nat) (v : Int) (F : List (List Int)) (L : List Int) : AE → Fr → H → Prop := fun e fr σ => ∃ t tm, e = .ex 0 ∧ fget fr 1 = .lst 1 (ints L) false ∧ fget fr 2 = .ptr 0 tf 0 ∧ fget fr 4 = .ptr 1 tr 0 ∧ fget fr 6 = .ptr 3 tb 0 ∧ σ = ⟨t, aH tf tr tm tb v F (knOf L)⟩
theorem a_round (hT : TabOk P tab) {tf tr tb : Nat} {v : Int} {F : List (List Int)} {L : List Int} (hl : L.length ≤ 1000000) {m : Nat} {fr : Fr} {σ : H} (hJ : aJ tf tr tb v F L m fr σ) :
    W P G 64 0 (AC.seq (AC.reg clause_Assign_r5 [])   (AC.seq (AC.cond (Arg.t 29)   AC.skip   (AC.exit 0))   (AC.seq (AC.block 1 (AC.seq (AC.reg clause_Assign_r6 [30, 31])   (AC.reg clause_Assign_r7 [32, 33])))   (AC.reg clause_Assign_r8 [34])))) fr σ (seqQ (fun fr σ => ∃ m' fr' σ', m' < m ∧ Shift G 64 0 fr σ fr' σ' ∧ aJ tf tr tb v F L m' fr' σ') (aE tf tr tb v F L)) := by
  obtain ⟨i, t, tm, hi, rfl, f1, f2, f4, f6, f26, f27, f28, rfl⟩ := hJ
  rcases Nat.lt_or_ge i L.length with hlt | hge
  · obtain ⟨n, hni⟩ : ∃ n, L[i]? = some n := ⟨_, List.getElem?_eq_getElem hlt⟩
    have hD := ints_getD hni
    have e2 := wnext hlt (by omega)
    have h3 := keysOk_im .i64 (fun _ => .int .i64 1) (knOf (L.take i)) n
    have hput := mput_kn (knOf (L.take i)) n
    have hk := knOf_snoc hni
    refine W_round [(1, .lst 1 (ints L) false), (2, .ptr 0 tf 0), (4, .ptr 1 tr 0), (6, .ptr 3 tb 0), (26, .lst 1 (ints L) false), (27, .int .i64 L.length), (28, .int .i64 ((i : Nat) : Int))] ⟨f1, f2, f4, f6, f26, f27, f28, trivial⟩  1000 ?_
    simp -implicitDefEqProofs (disch := omega) only [go_sem, need_of, ↓reduceIte, Nat.reduceEqDiff, Nat.zero_add, decide_true, Bool.not_false, Nat.le_refl, Nat.zero_le, clause_Assign_r5, clause_Assign_r6, clause_Assign_r7, clause_Assign_r8, aH, ints_length, List.length_cons, List.length_nil, hlt, hD, kn, hput]
    refine ⟨L.length - (i + 1), _, _, by omega, Shift.refl _ _ _ _, i + 1, t, tm, by omega, rfl, ?_⟩
    simp -implicitDefEqProofs (disch := omega) only [go_sem, ↓reduceIte, Nat.reduceEqDiff, aH, e2, kn, hk]
  · have hi : i = L.length := by omega
    refine W_round [(1, .lst 1 (ints L) false), (2, .ptr 0 tf 0), (4, .ptr 1 tr 0), (6, .ptr 3 tb 0), (26, .lst 1 (ints L) false), (27, .int .i64 L.length), (28, .int .i64 ((i : Nat) : Int))] ⟨f1, f2, f4, f6, f26, f27, f28, trivial⟩  1000 ?_
    simp -implicitDefEqProofs (disch := omega) only [go_sem, ↓reduceIte, Nat.reduceEqDiff, decide_false, clause_Assign_r5, clause_Assign_r6, clause_Assign_r7, clause_Assign_r8, aH, hi, Nat.lt_irrefl]
    exact ⟨t, tm, rfl, rfl, rfl, rfl, rfl, by rw [List.take_length]; rfl⟩

theorem assign_snoc {F : List (List Int)} {L : List Int} {i : Nat} {c : List Int} (h : F[i]? = some c) : assign (F.take (i + 1)) L = assign (F.take i) L ++ if c.any (fun n => decide (n ∈ L)) then [] else [assignC L c] := by
  unfold assign
  rw [take_snoc h, List.filter_append, List.map_append]
  congr 1
  cases hc : c.any fun n => decide (n ∈ L) <;> simp [hc]

abbrev bJ (tf tr tm tb to : Nat) (v : Int) (F : List (List Int)) (L : List Int) : Nat → Fr → H → Prop := fun m fr σ => ∃ i t tw, i ≤ F.length ∧ m = F.length - i ∧ fget fr 2 = .ptr 0 tf 0 ∧ fget fr 4 = .ptr 1 tr 0 ∧ fget fr 6 = .ptr 3 tb 0 ∧ fget fr 9 = .ptr 4 to 0 ∧ fget fr 43 = .lst 1 (F.map row) false ∧ fget fr 44 = .int .i64 F.length ∧ fget fr 45 = .int .i64 ((i : Nat) : Int) ∧ σ = ⟨t, aH tf tr tm tb v F (knOf L) ++ bH to tw v (assign (F.take i) L)⟩
abbrev bE (tf tr tm tb to : Nat) (v : Int) (F : List (List Int)) (L : List Int) : AE → Fr → H → Prop := fun e fr σ => ∃ t tw, e = .ex 2 ∧ fget fr 4 = .ptr 1 tr 0 ∧ fget fr 9 = .ptr 4 to 0 ∧ σ = ⟨t, aH tf tr tm tb v F (knOf L) ++ bH to tw v (assign F L)⟩
set_option maxHeartbeats 1000000 in
theorem b_round (hT : TabOk P tab) {tf tr tm tb to : Nat} {v : Int} {F : List (List Int)} {L : List Int} (hF : F.length ≤ 1000) (hc : ∀ c ∈ F, c.length ≤ 1000) (hrt : ∀ c ∈ F, ∀ n ∈ c, -16777216 ≤ n ∧ n ≤ 16777216) {m : Nat} {fr : Fr} {σ : H} (hJ : bJ tf tr tm tb to v F L m fr σ) :
    W P G 64 0 (AC.seq (AC.reg clause_Assign_r13 [])   (AC.seq (AC.cond (Arg.t 46)   AC.skip   (AC.exit 2))   (AC.seq (AC.block 3 (AC.seq (AC.reg clause_Assign_r14 [47, 48])   (AC.seq (AC.reg clause_Assign_r15 [49, 50, 51])   (AC.cond (Arg.t 52)   (AC.reg clause_Assign_r16 [53, 54, 55, 56, 57, 58, 59, 60, 61])   AC.skip))))   (AC.reg clause_Assign_r17 [62])))) fr σ (seqQ (fun fr σ => ∃ m' fr' σ', m' < m ∧ Shift G 64 0 fr σ fr' σ' ∧ bJ tf tr tm tb to v F L m' fr' σ') (bE tf tr tm tb to v F L)) := by
  obtain ⟨i, t, tw, hi, rfl, f2, f4, f6, f9, f43, f44, f45, rfl⟩ := hJ
  rcases Nat.lt_or_ge i F.length with hlt | hge
  · obtain ⟨c, hci⟩ : ∃ c, F[i]? = some c := ⟨_, List.getElem?_eq_getElem hlt⟩
    have hD := rows_getD hci
    have hcm := List.mem_of_getElem? hci
    have e2 := wnext hlt (by omega)
    have hcl := hc c hcm
    have hb64 : ∀ n ∈ c, -9223372036854775808 ≤ n ∧ n ≤ 9223372036854775807 := fun n hn => by have := hrt c hcm n hn; omega
    have hsn := assign_snoc (L := L) hci
    have hany : c.any (fun n => decide (n ∈ knOf L)) = c.any (fun n => decide (n ∈ L)) := by
      congr 1; funext n; simp [mem_knOf]
    have hfil : c.filter (fun n => !decide (neg n ∈ knOf L)) = assignC L c := by
      unfold assignC
      refine List.filter_congr fun n hn => ?_
      have hne : n ≠ mn := by have := hrt c hcm n hn; unfold mn; omega
      rw [neg_ne hne]; simp [mem_knOf]
    have hsome := fun t => c_some (P := P) (G := G) (base := 0) (t := t) hT (k_clause_Assign_S2 (c := c) hT (kb := 3) (tb := tb) (T := 60) (km := 2) (vm := tm) (S := knOf L) (o := aH tf tr tm tb v F (knOf L) ++ bH to tw v (assign (F.take i) L)) rfl rfl) (by omega)
    rw [hany] at hsome
    have hleft := fun t w => c_left (P := P) (G := G) (t := t) (w := w) (tf := tf) (tr := tr) (tm := tm) (tb := tb) (to := to) (tw := tw) (v := v) (F := F) (R := assign (F.take i) L) (S := knOf L) hT hb64 (by omega)
    rw [hfil] at hleft
    have hRl : (assign (F.take i) L).length ≤ 1000 := by
      unfold assign; rw [List.length_map]
      have := List.length_filter_le (fun c : List Int => !c.any fun n => decide (n ∈ L)) (F.take i)
      rw [List.length_take] at this
      omega
    generalize assign (F.take i) L = R at *
    cases hcc : c.any fun n => decide (n ∈ L) with
    | true =>
      rw [hcc, if_pos rfl, List.append_nil] at hsn
      rw [hcc] at hsome
      refine W_round [(2, .ptr 0 tf 0), (4, .ptr 1 tr 0), (6, .ptr 3 tb 0), (9, .ptr 4 to 0), (43, .lst 1 (F.map row) false), (44, .int .i64 F.length), (45, .int .i64 ((i : Nat) : Int))] ⟨f2, f4, f6, f9, f43, f44, f45, trivial⟩  1000 ?_
      simp -implicitDefEqProofs (disch := omega) only [go_sem, need_of, ↓reduceIte, Nat.reduceEqDiff, Nat.zero_add, decide_true, Nat.le_refl, clause_Assign_r13, clause_Assign_r14, clause_Assign_r15, clause_Assign_r16, clause_Assign_r17, aH, bH, List.length_map, List.length_cons, List.length_nil, List.cons_append, List.nil_append, hlt, hD]
      refine call hT t_clause_some_int (hsome _) 1000 fun u σ hu => ?_
      obtain ⟨rfl, t1, ht1, rfl⟩ := hu
      simp -implicitDefEqProofs (disch := omega) only [go_sem, ↓reduceIte, Nat.reduceEqDiff, Bool.not_true, aH, bH, List.cons_append, List.nil_append]
      refine ⟨F.length - (i + 1), _, _, by omega, Shift.refl _ _ _ _, i + 1, t1, tw, by omega, rfl, ?_⟩
      simp -implicitDefEqProofs (disch := omega) only [go_sem, ↓reduceIte, Nat.reduceEqDiff, aH, bH, List.cons_append, List.nil_append, e2, hsn]
    | false =>
      rw [hcc, if_neg (by simp)] at hsn
      rw [hcc] at hsome
      refine W_round [(2, .ptr 0 tf 0), (4, .ptr 1 tr 0), (6, .ptr 3 tb 0), (9, .ptr 4 to 0), (43, .lst 1 (F.map row) false), (44, .int .i64 F.length), (45, .int .i64 ((i : Nat) : Int))] ⟨f2, f4, f6, f9, f43, f44, f45, trivial⟩  1000 ?_
      simp -implicitDefEqProofs (disch := omega) only [go_sem, need_of, ↓reduceIte, Nat.reduceEqDiff, Nat.zero_add, decide_true, Nat.le_refl, clause_Assign_r13, clause_Assign_r14, clause_Assign_r15, clause_Assign_r16, clause_Assign_r17, aH, bH, List.length_map, List.length_cons, List.length_nil, List.cons_append, List.nil_append, hlt, hD]
      refine call hT t_clause_some_int (hsome _) 1000 fun u σ hu => ?_
      obtain ⟨rfl, t1, ht1, rfl⟩ := hu
      simp -implicitDefEqProofs (disch := omega) only [go_sem, ↓reduceIte, Nat.reduceAdd, Nat.reduceEqDiff, Nat.zero_add, Bool.not_false, Nat.le_refl, aH, bH, List.length_cons, List.length_nil, List.cons_append, List.nil_append]
      refine And.intro ?_ ?_
      all_goals (refine call hT t_slices_Clone_int_int (c_Clone hT c (by omega)) 1000 fun u σ hu => ?_)
      all_goals (obtain ⟨t2, w, ht2, rfl, rfl⟩ := hu)
      all_goals simp -implicitDefEqProofs (disch := omega) only [go_sem, ↓reduceIte, Nat.reduceAdd, Nat.reduceEqDiff, Nat.zero_add, Nat.le_refl, List.length_cons, List.length_nil, List.cons_append, List.nil_append]
      all_goals repeat' (first | with_reducible refine And.intro ?_ ?_ | with_reducible intro _)
      all_goals (refine call hT t_slices_DeleteFunc_int_int (hleft _ _) 1000 fun u σ hu => ?_)
      all_goals (obtain ⟨rfl, t3, ht3, rfl⟩ := hu)
      all_goals simp -implicitDefEqProofs (disch := omega) only [go_sem, need_of, ↓reduceIte, reduceCtorEq, Nat.reduceAdd, Nat.reduceEqDiff, Nat.reduceLeDiff, Nat.zero_add, Nat.mul_one, Bool.not_true, Bool.not_false, Nat.le_refl, Nat.zero_le, aH, bH, List.length_map, List.length_cons, List.length_nil, List.cons_append, List.nil_append]
      all_goals repeat' (first | with_reducible refine And.intro ?_ ?_ | with_reducible intro _)
      all_goals (refine ⟨F.length - (i + 1), _, _, by omega, Shift.drop (o' := aH tf tr tm tb v F (knOf L) ++ bH to t3 v (R ++ [assignC L c])) (t' := t3 + 1) (by simp [subObs, aH, bH, row]) (Nat.le_refl _) (Nat.zero_le _), i + 1, t3 + 1, t3, by omega, rfl, ?_⟩)
      all_goals simp -implicitDefEqProofs (disch := omega) only [go_sem, ↓reduceIte, Nat.reduceEqDiff, Nat.zero_add, aH, bH, List.length_cons, List.length_nil, List.cons_append, List.nil_append, e2, hsn, List.length_append, List.map_append]
  · have hi : i = F.length := by omega
    refine W_round [(2, .ptr 0 tf 0), (4, .ptr 1 tr 0), (6, .ptr 3 tb 0), (9, .ptr 4 to 0), (43, .lst 1 (F.map row) false), (44, .int .i64 F.length), (45, .int .i64 ((i : Nat) : Int))] ⟨f2, f4, f6, f9, f43, f44, f45, trivial⟩  1000 ?_
    simp -implicitDefEqProofs (disch := omega) only [go_sem, ↓reduceIte, Nat.reduceEqDiff, decide_false, clause_Assign_r13, clause_Assign_r14, clause_Assign_r15, clause_Assign_r16, clause_Assign_r17, aH, bH, List.cons_append, List.nil_append, hi, Nat.lt_irrefl]
    exact ⟨t, tw, rfl, rfl, rfl, by rw [List.take_length]; rfl⟩

theorem rows_nameless : ∀ F : List (List Int), namelessL (F.map row) = true
  | [] => rfl
  | c :: F => by have := rows_nameless F; simpa [namelessL, nameless, row] using this
def assignV (v : Int) (F : List (List Int)) (L : List Int) : V :=
  if right v F && (right v [L] && !(L.any fun n => decide (neg n ∈ L))) then .tup [fml v (assign F L), .bool true] else .tup [fml 0 [], .bool false]

set_option maxHeartbeats 1000000 in
theorem c_Assign (hT : TabOk P tab) (v : Int) (F : List (List Int)) (L : List Int) (hF : F.length ≤ 1000) (hc : ∀ c ∈ F, c.length ≤ 1000) (hl : L.length ≤ 1000) (hb : ∀ n ∈ L, -9223372036854775808 ≤ n ∧ n ≤ 9223372036854775807) :
    Pure P G n_clause_Assign [fml v F, row L] fun u => u = assignV v F L := by
  intro t
  refine C_res (Q := fun u _ => nameless u = true ∧ ((u = .tup [.agg [.int .i64 0, .lst 0 [] true], .bool false] ∧ assignV v F L = .tup [fml 0 [], .bool false]) ∨ u = assignV v F L))
    (C_freezeO (Q := fun u σ => (u = .tup [.agg [.int .i64 0, .lst 0 [] true], .bool false] ∧ assignV v F L = .tup [fml 0 [], .bool false]) ∨ ∃ tw, assignV v F L = .tup [fml v (assign F L), .bool true] ∧ u = .tup [.agg [.int .i64 v, .sl 5 tw 0 1 (assign F L).length none], .bool true] ∧ σ.o[5]? = some (some (.arr tw 25 ((assign F L).map row)))) ?_ fun u σ hu => ?_) fun u σ hu => ?_
  · have hR := c_Right (P := P) (G := G) hT v F (by omega) (fun c h => by have := hc c h; omega)
    have hR2 := c_Right (P := P) (G := G) hT v [L] (by simp) (fun c h => by simp at h; subst h; omega)
    simp only [fml, rows, row, List.map_cons, List.map_nil] at hR hR2 ⊢
    refine C_tab hT t_clause_Assign (by simp [clause_Assign]) (W_run 12 ?_)
    have hR3 : Pure P G n_clause_Right [.agg [.int .i64 v, .lst 1 [.lst 1 (ints L) false] true]] fun u => u = .bool (right v [L]) :=
      hR2.args (.cons _ _ _ _ (.agg _ _ (.cons _ _ _ _ (.refl _) (.cons _ _ _ _ (.lst _ _ _ _ _ (.refl _) (.inr rfl)) .nil))) .nil)
    have hnF : namelessL [V.agg [V.int .i64 v, V.lst 1 (F.map row) false]] = true := by simp [namelessL, nameless]
    have hnL : namelessL [V.agg [V.int .i64 v, V.lst 1 [V.lst 1 (ints L) false] true]] = true := by simp [namelessL, nameless]
    cases hr : right v F with
    | false =>
      have hav : assignV v F L = .tup [fml 0 [], .bool false] := by unfold assignV; rw [hr]; rfl
      simp only [fml, rows, List.map_nil] at hav
      rw [hr] at hR
      simp -implicitDefEqProofs (disch := omega) only [go_sem, ↓reduceIte, reduceCtorEq, Nat.reduceAdd, Nat.reduceEqDiff, Nat.zero_add, Nat.le_refl, clause_Assign, clause_Assign_r0, clause_Assign_r1, clause_Assign_r2, clause_Assign_r3, clause_Assign_r4, clause_Assign_r5, clause_Assign_r6, clause_Assign_r7, clause_Assign_r8, clause_Assign_r9, clause_Assign_r10, clause_Assign_r11, clause_Assign_r12, clause_Assign_r13, clause_Assign_r14, clause_Assign_r15, clause_Assign_r16, clause_Assign_r17, clause_Assign_r18, List.length_cons, List.length_nil, List.cons_append, List.nil_append]
      refine callPS hT t_clause_Right hR hnF 2 ?_
      simp -implicitDefEqProofs (disch := omega) only [go_sem, ↓reduceIte, reduceCtorEq, Nat.reduceEqDiff, Bool.not_false]
      iterate 9 (try (refine run_sem 2 ?_; simp -implicitDefEqProofs (disch := omega) only [go_sem, ↓reduceIte, reduceCtorEq, Nat.reduceAdd, Nat.reduceEqDiff, Nat.zero_add, Bool.not_false, Nat.le_refl, Nat.zero_le, List.length_cons, List.length_nil, List.cons_append, List.nil_append, and_true, Bool.not_false]))
      try refine run_sem 1000 ?_
      try simp -implicitDefEqProofs (disch := omega) only [go_sem, ↓reduceIte, reduceCtorEq, Nat.reduceAdd, Nat.reduceEqDiff, Nat.zero_add, Nat.le_refl, List.length_cons, List.length_nil]
      exact .inl hav
    | true =>
      rw [hr] at hR
      cases hr2 : right v [L] with
      | false =>
        have hav : assignV v F L = .tup [fml 0 [], .bool false] := by unfold assignV; rw [hr, hr2]; rfl
        simp only [fml, rows, List.map_nil] at hav
        rw [hr2] at hR3
        simp -implicitDefEqProofs (disch := omega) only [go_sem, ↓reduceIte, reduceCtorEq, Nat.reduceAdd, Nat.reduceEqDiff, Nat.zero_add, Nat.le_refl, clause_Assign, clause_Assign_r0, clause_Assign_r1, clause_Assign_r2, clause_Assign_r3, clause_Assign_r4, clause_Assign_r5, clause_Assign_r6, clause_Assign_r7, clause_Assign_r8, clause_Assign_r9, clause_Assign_r10, clause_Assign_r11, clause_Assign_r12, clause_Assign_r13, clause_Assign_r14, clause_Assign_r15, clause_Assign_r16, clause_Assign_r17, clause_Assign_r18, List.length_cons, List.length_nil, List.cons_append, List.nil_append]
        refine callPS hT t_clause_Right hR hnF 2 ?_
        simp -implicitDefEqProofs (disch := omega) only [go_sem, ↓reduceIte, reduceCtorEq, Nat.reduceEqDiff, Bool.not_true]
        iterate 5 (try (refine run_sem 2 ?_; simp -implicitDefEqProofs (disch := omega) only [go_sem, ↓reduceIte, reduceCtorEq, Nat.reduceAdd, Nat.reduceEqDiff, Nat.reduceLeDiff, Nat.zero_add, Nat.add_zero, Nat.le_refl, List.length_cons, List.length_nil, List.cons_append, List.nil_append, true_implies, and_true]))
        refine callPS hT t_clause_Right hR3 hnL 2 ?_
        simp -implicitDefEqProofs (disch := omega) only [go_sem, ↓reduceIte, reduceCtorEq, Nat.reduceAdd, Nat.reduceEqDiff, Bool.not_false]
        iterate 5 (try (refine run_sem 2 ?_; simp -implicitDefEqProofs (disch := omega) only [go_sem, ↓reduceIte, reduceCtorEq, Nat.reduceAdd, Nat.reduceEqDiff, Nat.zero_add, Bool.not_false, Nat.le_refl, Nat.zero_le, List.length_cons, List.length_nil, List.cons_append, List.nil_append, and_true, Bool.not_false]))
        try refine run_sem 1000 ?_
        try simp -implicitDefEqProofs (disch := omega) only [go_sem, ↓reduceIte, reduceCtorEq, Nat.reduceAdd, Nat.reduceEqDiff, Nat.zero_add, Nat.le_refl, List.length_cons, List.length_nil]
        exact .inl hav
      | true =>
        rw [hr2] at hR3
        have hrt := (right_iff.1 hr)
        simp -implicitDefEqProofs (disch := omega) only [go_sem, ↓reduceIte, reduceCtorEq, Nat.reduceAdd, Nat.reduceEqDiff, Nat.zero_add, Nat.le_refl, clause_Assign, clause_Assign_r0, clause_Assign_r1, clause_Assign_r2, clause_Assign_r3, clause_Assign_r4, clause_Assign_r5, clause_Assign_r6, clause_Assign_r7, clause_Assign_r8, clause_Assign_r9, clause_Assign_r10, clause_Assign_r11, clause_Assign_r12, clause_Assign_r13, clause_Assign_r14, clause_Assign_r15, clause_Assign_r16, clause_Assign_r17, clause_Assign_r18, List.length_cons, List.length_nil, List.cons_append, List.nil_append]
        refine callPS hT t_clause_Right hR hnF 2 ?_
        simp -implicitDefEqProofs (disch := omega) only [go_sem, ↓reduceIte, reduceCtorEq, Nat.reduceEqDiff, Bool.not_true]
        iterate 5 (try (refine run_sem 2 ?_; simp -implicitDefEqProofs (disch := omega) only [go_sem, ↓reduceIte, reduceCtorEq, Nat.reduceAdd, Nat.reduceEqDiff, Nat.reduceLeDiff, Nat.zero_add, Nat.add_zero, Nat.le_refl, List.length_cons, List.length_nil, List.cons_append, List.nil_append, true_implies, and_true]))
        refine callPS hT t_clause_Right hR3 hnL 2 ?_
        simp -implicitDefEqProofs (disch := omega) only [go_sem, ↓reduceIte, reduceCtorEq, Nat.reduceAdd, Nat.reduceEqDiff, Bool.not_true]
        iterate 2 (try (refine run_sem 2 ?_; simp -implicitDefEqProofs (disch := omega) only [go_sem, ↓reduceIte, reduceCtorEq, Nat.reduceEqDiff]))
        try refine run_sem 1000 ?_
        try simp -implicitDefEqProofs (disch := omega) only [go_sem, ↓reduceIte, reduceCtorEq, Nat.reduceAdd, Nat.reduceEqDiff, Nat.zero_add, Bool.not_false, Nat.le_refl, Nat.zero_le, ints_length, List.length_cons, List.length_nil, List.cons_append, List.nil_append]
        refine ⟨rfl, ?_⟩
        refine sem_invE (aJ t (t + 1) (t + 1 + 1 + 1) v F L) (aE t (t + 1) (t + 1 + 1 + 1) v F L) (m0 := L.length) ⟨0, t + 1 + 1 + 1 + 1, t + 1 + 1, by omega, rfl, ?_⟩ (fun m fr σ hJ => a_round hT (by omega) hJ) (fun e fr σ hE => ?_)
        · simp -implicitDefEqProofs (disch := omega) only [go_sem, ↓reduceIte, reduceCtorEq, Nat.reduceEqDiff, aH]
          exact ⟨rfl, rfl⟩
        · obtain ⟨t1, tm, rfl, f1, f2, f4, f6, rfl⟩ := hE
          have hsome := c_some (P := P) (G := G) (base := 0) (t := t1) hT (k_clause_Assign_S1 (c := L) hT (kb := 3) (tb := t + 1 + 1 + 1) (T := 60) (km := 2) (vm := tm) (S := knOf L) hb (o := aH t (t + 1) tm (t + 1 + 1 + 1) v F (knOf L)) rfl rfl) (by omega)
          have hany : L.any (fun n => decide (neg n ∈ knOf L)) = L.any (fun n => decide (neg n ∈ L)) := by
            congr 1; funext n; simp [mem_knOf]
          rw [hany] at hsome
          refine run_sem 1000 ?_
          simp -implicitDefEqProofs (disch := omega) only [go_sem, ↓reduceIte, Nat.reduceEqDiff, aH, f1, f6]
          refine call hT t_clause_some_int hsome 1000 fun u σ hu => ?_
          obtain ⟨rfl, t2, ht2, rfl⟩ := hu
          cases hcc : L.any fun n => decide (neg n ∈ L) with
          | true =>
            have hav : assignV v F L = .tup [fml 0 [], .bool false] := by unfold assignV; rw [hr, hr2, hcc]; rfl
            simp only [fml, rows, List.map_nil] at hav
            simp -implicitDefEqProofs (disch := omega) only [go_sem, ↓reduceIte, reduceCtorEq, Nat.reduceAdd, Nat.reduceEqDiff, Nat.zero_add, Bool.not_false, Nat.le_refl, Nat.zero_le, aH, List.length_cons, List.length_nil, List.cons_append, List.nil_append, f4]
            exact .inl hav
          | false =>
            have hav : assignV v F L = .tup [fml v (assign F L), .bool true] := by unfold assignV; rw [hr, hr2, hcc]; rfl
            simp only [fml, rows] at hav
            simp -implicitDefEqProofs (disch := omega) only [go_sem, ↓reduceIte, Nat.reduceAdd, Nat.reduceEqDiff, Nat.reduceLeDiff, Nat.zero_add, Nat.add_zero, Bool.not_false, Nat.le_refl, Nat.zero_le, aH, List.length_map, List.length_cons, List.length_nil, List.cons_append, List.nil_append, f2]
            refine sem_shift (HShift.shift (HShift.ownAt 1 25 (k := 4) (p := 1) (Nat.zero_le _) rfl rfl)) ?_
            simp -implicitDefEqProofs (disch := omega) only [go_sem, Nat.reduceAdd, Nat.zero_add, List.length_cons, List.length_nil, List.cons_append, List.nil_append, List.set_cons_succ, List.set_cons_zero]
            refine sem_invE (bJ t (t + 1) tm (t + 1 + 1 + 1) t2 v F L) (bE t (t + 1) tm (t + 1 + 1 + 1) t2 v F L) (m0 := F.length) ⟨0, t2 + 1 + 1, t2 + 1, by omega, rfl, ?_⟩ (fun m fr σ hJ => b_round hT hF hc (fun c h n hn => by have := hrt.2 c h n hn; omega) hJ) (fun e fr σ hE => ?_)
            · simp -implicitDefEqProofs (disch := omega) only [go_sem, ↓reduceIte, Nat.reduceEqDiff, aH, bH, List.cons_append, List.nil_append, f2, f4, f6]
              exact ⟨rfl, rfl⟩
            · obtain ⟨t3, tw, rfl, f4, f9, rfl⟩ := hE
              refine run_sem 1000 ?_
              simp -implicitDefEqProofs (disch := omega) only [go_sem, ↓reduceIte, reduceCtorEq, Nat.reduceAdd, Nat.reduceEqDiff, Nat.zero_add, Bool.not_false, Nat.le_refl, Nat.zero_le, aH, bH, List.length_cons, List.length_nil, List.cons_append, List.nil_append, f4, f9]
              exact .inr ⟨tw, hav, rfl, rfl⟩
  · rcases hu with ⟨rfl, hu⟩ | ⟨tw, hr, rfl, ho⟩
    · exact .inl ⟨rfl, .inl ⟨rfl, hu⟩⟩
    · refine .inr ⟨5, tw, 25, _, Nat.zero_le _, ho, ?_, ?_, .inr ?_⟩
      · exact rows_nameless _
      · simp [frzV, frzL, nameless, namelessL]
      · rw [hr]
        simp [frzV, frzL, rowsV, fml, rows]
        rw [List.take_of_length_le (by simp)]
  · rcases hu with ⟨hn, ⟨rfl, hu⟩ | rfl⟩
    · exact ⟨.tup [fml 0 [], .bool false], .tup _ _ (.cons _ _ _ _ (.agg _ _ (.cons _ _ _ _ (.refl _) (.cons _ _ _ _ (.lst _ _ _ _ _ .nil (.inl rfl)) .nil))) (.cons _ _ _ _ (.refl _) .nil)), rfl, by rw [hu]⟩
    · exact ⟨_, .refl _, hn, rfl⟩
end Go.Proofs.Ytingdebioipemaa
