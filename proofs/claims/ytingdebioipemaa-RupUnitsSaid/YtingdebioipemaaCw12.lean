/- Contracts: what goes before the rounds of Short. -/
import Derived.Test.YtingdebioipemaaCw11
import Derived.Test.YtingdebioipemaaAmD
namespace Go.Proofs.Ytingdebioipemaa
open Go Go.Am Go.Cl
set_option maxRecDepth 100000
variable {G : Nat → Option V}

theorem nameless_ints : ∀ c : List Int, namelessL (ints c) = true
  | [] => rfl
  | _ :: c => by simpa [ints, namelessL, nameless] using nameless_ints c
theorem p_Clone {P : Program} (hT : TabOk P tab) (c : List Int) (hl : c.length ≤ 1000000) : Pure P G n_slices_Clone_int_int [row c] fun v => v = row c := fun t => by
  refine C_freezeO (c_Clone hT c hl) fun v σ hv => .inr ?_
  obtain ⟨t', w, ht, rfl, rfl⟩ := hv
  refine ⟨0, w, 3, ints c, Nat.le_refl _, rfl, nameless_ints c, ?_⟩
  have e : (ints c).take c.length = ints c := List.take_of_length_le (by rw [ints_length]; omega)
  simp [frzV, rowsV, ints_length, row, nameless, e]
theorem c_back {P : Program} (hT : TabOk P tab) {base t : Nat} {o : List (Option Ob)} (n : Nat) : C P G base n_rup_back [.int .i64 n] ⟨t, o⟩ fun v σ => v = .fn (.func n_rup_back_S1) [] [.ptr o.length t 0] ∧ σ = ⟨t + 1, o ++ [some (.arr t 3 [.int .i64 n])]⟩ := by
  refine C_tab hT t_rup_back (by simp [rup_back]) (W_run 1000 ?_)
  simp -implicitDefEqProofs (disch := omega) only [go_sem, ↓reduceIte, reduceCtorEq, Nat.reduceEqDiff, rup_back, rup_back_r0, rup_back_r1]
def shH (t : Nat) (v : Int) (F : List (List Int)) (cs : List V) (n : Nat) : List (Option Ob) := [some (.arr t 24 [.int .i64 v, .lst 1 (F.map row) false]), some (.arr (t + 1) 25 cs), some (.arr (t + 2) 22 [.sl 1 (t + 1) 0 1 n none])]
def shG (t : Nat) (v : Int) (F : List (List Int)) (cs : List V) (n : Nat) : List (Option Ob) := [some (.arr t 24 [.int .i64 v, .lst 1 (F.map row) false]), some (.arr (t + 1) 25 cs), some (.arr (t + 2) 22 [.sl 1 (t + 1) 0 1 n none]), some (.arr (t + 3) 51 [.fn (.func n_rup_Short_S1) [] [.ptr 0 t 0, .ptr 2 (t + 2) 0]])]
theorem sh_set {p : List (List Int)} {i : Nat} {c : List Int} {z : V} (h : p[i]? = some c) :
    ((p.take i).map row ++ List.replicate (p.length - i) z).take i ++ [row c] ++ ((p.take i).map row ++ List.replicate (p.length - i) z).drop (i + 1) = (p.take (i + 1)).map row ++ List.replicate (p.length - (i + 1)) z := by
  have hlt := (List.getElem?_eq_some_iff.1 h).1
  have l1 : ((p.take i).map row).length = i := by simp; omega
  obtain ⟨m, hm⟩ : ∃ m, p.length - i = m + 1 := ⟨p.length - i - 1, by omega⟩
  rw [take_snoc h, hm, show p.length - (i + 1) = m by omega, List.take_append_of_le_length (by omega), List.take_of_length_le (by omega), List.drop_append, l1, List.drop_eq_nil_of_le (by omega), show i + 1 - i = 1 by omega, List.replicate_succ]
  simp
abbrev shJ (t : Nat) (v : Int) (F p : List (List Int)) : Nat → Fr → H → Prop := fun m fr σ => ∃ i, i ≤ p.length ∧ m = p.length - i ∧ fget fr 2 = .ptr 0 t 0 ∧ fget fr 6 = .ptr 2 (t + 2) 0 ∧ fget fr 1 = .lst 1 (p.map row) false ∧ fget fr 18 = .lst 1 (p.map row) false ∧ fget fr 19 = .int .i64 p.length ∧ fget fr 20 = .int .i64 ((i : Nat) : Int) ∧ σ = ⟨t + 3, shH t v F ((p.take i).map row ++ List.replicate (p.length - i) (.lst 0 [] true)) p.length⟩
abbrev shE (t : Nat) (v : Int) (F p : List (List Int)) : AE → Fr → H → Prop := fun e fr σ => e = .ex 0 ∧ fget fr 2 = .ptr 0 t 0 ∧ fget fr 6 = .ptr 2 (t + 2) 0 ∧ fget fr 1 = .lst 1 (p.map row) false ∧ σ = ⟨t + 3, shH t v F (p.map row) p.length⟩
set_option maxHeartbeats 1000000 in
theorem sh_round (hT : TabOk Try.prog tab) {t : Nat} {v : Int} {F p : List (List Int)} (hl : p.length ≤ 1000) (hp : ∀ c ∈ p, c.length ≤ 1000) {m : Nat} {fr : Fr} {σ : H} (hJ : shJ t v F p m fr σ) :
    W Try.prog G 46 0 (AC.seq (AC.reg rup_Short_r5 [])   (AC.seq (AC.cond (Arg.t 21)   AC.skip   (AC.exit 0))   (AC.seq (AC.block 1 (AC.seq (AC.reg rup_Short_r6 [22, 23, 24])   (AC.reg rup_Short_r7 [25, 26, 27, 28, 29])))   (AC.reg rup_Short_r8 [30])))) fr σ (seqQ (fun fr σ => ∃ m' fr' σ', m' < m ∧ Shift G 46 0 fr σ fr' σ' ∧ shJ t v F p m' fr' σ') (shE t v F p)) := by
  obtain ⟨i, hi, rfl, f2, f6, f1, f18, f19, f20, rfl⟩ := hJ
  rcases Nat.lt_or_ge i p.length with hlt | hge
  · obtain ⟨c, hci⟩ : ∃ c, p[i]? = some c := ⟨_, List.getElem?_eq_getElem hlt⟩
    have hD := rows_getD hci
    have hcl := hp c (List.mem_of_getElem? hci)
    have e2 := wnext hlt (by omega)
    have hts := take_snoc hci
    have hlen : ((p.take i).map row ++ List.replicate (p.length - i) (V.lst 0 [] true)).length = p.length := by simp; omega
    have hCl := p_Clone (G := G) hT c (by omega)
    have e3 : i + 1 ≤ p.length := hlt
    have hset := sh_set (z := V.lst 0 [] true) hci
    generalize (p.take i).map row ++ List.replicate (p.length - i) (V.lst 0 [] true) = X at *
    simp only [row] at hCl hset
    refine W_round [(2, .ptr 0 t 0), (6, .ptr 2 (t + 2) 0), (1, .lst 1 (p.map row) false), (18, .lst 1 (p.map row) false), (19, .int .i64 p.length), (20, .int .i64 ((i : Nat) : Int))] ⟨f2, f6, f1, f18, f19, f20, trivial⟩  1000 ?_
    simp -implicitDefEqProofs (disch := omega) only [go_sem, need_of, ↓reduceIte, Nat.reduceAdd, Nat.reduceEqDiff, Nat.zero_add, decide_true, Nat.le_refl, rup_Short_r5, rup_Short_r6, rup_Short_r7, rup_Short_r8, List.length_map, List.length_cons, List.length_nil, shH, hlt, hD]
    refine callPS hT t_slices_Clone_int_int hCl (by simp [namelessL, nameless]) 1000 ?_
    simp -implicitDefEqProofs (disch := omega) only [go_sem, need_of, ↓reduceIte, Nat.reduceEqDiff, Nat.zero_add, Nat.mul_one, Bool.not_false, Nat.zero_le, List.length_cons, List.length_nil, hlen, hlt, e3, hset]
    refine ⟨p.length - (i + 1), _, _, by omega, Shift.refl _ _ _ _, i + 1, by omega, rfl, ?_⟩
    simp -implicitDefEqProofs (disch := omega) only [go_sem, ↓reduceIte, Nat.reduceEqDiff, shH, e2]
  · have hi : i = p.length := by omega
    refine W_round [(2, .ptr 0 t 0), (6, .ptr 2 (t + 2) 0), (1, .lst 1 (p.map row) false), (18, .lst 1 (p.map row) false), (19, .int .i64 p.length), (20, .int .i64 ((i : Nat) : Int))] ⟨f2, f6, f1, f18, f19, f20, trivial⟩  1000 ?_
    simp -implicitDefEqProofs (disch := omega) only [go_sem, ↓reduceIte, Nat.reduceEqDiff, decide_false, rup_Short_r5, rup_Short_r6, rup_Short_r7, rup_Short_r8, shH, hi, Nat.lt_irrefl, List.take_length, Nat.sub_self, List.replicate_zero, List.append_nil]
    exact ⟨rfl, rfl, rfl, rfl, rfl⟩
theorem rep_flat (z : V) : ∀ n : Nat, (List.replicate n [z]).flatten = List.replicate n z
  | 0 => rfl
  | n + 1 => by rw [List.replicate_succ, List.flatten_cons, rep_flat z n]; rfl
abbrev shP : List KI := [.ac (AC.reg rup_Short_r0 []), .ac (AC.seq (AC.reg rup_Short_r1 [11, 12, 13]) (AC.cond (Arg.t 14) (AC.seq (AC.reg rup_Short_r2 []) AC.ret) AC.skip)), .ac (AC.reg rup_Short_r3 [15, 16, 17]),
  .ac (AC.seq (AC.reg rup_Short_r4 []) (AC.block 0 (AC.loop (AC.seq (AC.reg rup_Short_r5 [])   (AC.seq (AC.cond (Arg.t 21)   AC.skip   (AC.exit 0))   (AC.seq (AC.block 1 (AC.seq (AC.reg rup_Short_r6 [22, 23, 24])   (AC.reg rup_Short_r7 [25, 26, 27, 28, 29])))   (AC.reg rup_Short_r8 [30]))))))), .ac (AC.reg rup_Short_r9 [31])]
abbrev shQ (t : Nat) (v : Int) (F p : List (List Int)) : AE → Fr → H → Prop := fun e fr σ => (e = .ret ∧ checkS v F p = false ∧ fget fr 4 = .lst 0 [] true ∧ fget fr 5 = .bool false) ∨
  (e = .nrm ∧ checkS v F p = true ∧ fget fr 1 = .lst 1 (p.map row) false ∧ fget fr 6 = .ptr 2 (t + 2) 0 ∧ fget fr 9 = .ptr 3 (t + 3) 0 ∧ σ = ⟨t + 4, shG t v F (p.map row) p.length⟩)
set_option maxHeartbeats 1000000 in
theorem sh_pre (hT : TabOk Try.prog tab) (t : Nat) (v : Int) (F p : List (List Int)) (hF : F.length + p.length ≤ 1000) (hc : ∀ c ∈ F, c.length ≤ 1000) (hp : ∀ c ∈ p, c.length ≤ 1000) (hb : ∀ c ∈ p, ∀ n ∈ c, -9223372036854775808 ≤ n ∧ n ≤ 9223372036854775807) :
    sem Try.prog G 46 0 (shQ t v F p) shP .nrm (mkFr 0 [fml v F, rows p]) ⟨t, []⟩ := by
  have hCk := c_Check (G := G) hT v F p hF hc hp hb
  have hnF : namelessL [V.agg [V.int .i64 v, V.lst 1 (F.map row) false], V.lst 1 (p.map row) false] = true := by simp [namelessL, nameless]
  simp only [fml, rows] at hCk ⊢
  refine run_sem 1000 ?_
  simp -implicitDefEqProofs (disch := omega) only [go_sem, ↓reduceIte, reduceCtorEq, Nat.reduceAdd, Nat.reduceEqDiff, Nat.zero_add, Nat.le_refl, rup_Short_r0, rup_Short_r1, rup_Short_r2, rup_Short_r3, rup_Short_r4, rup_Short_r5, rup_Short_r6, rup_Short_r7, rup_Short_r8, rup_Short_r9, List.length_cons, List.length_nil, List.nil_append]
  refine callPS hT t_rup_Check hCk hnF 1000 ?_
  cases hck : checkS v F p with
  | false =>
    simp -implicitDefEqProofs (disch := omega) only [go_sem, ↓reduceIte, reduceCtorEq, Nat.reduceEqDiff, Bool.not_false]
    exact .inl ⟨rfl, hck, rfl, rfl⟩
  | true =>
    simp -implicitDefEqProofs (disch := omega) only [go_sem, need_of, ↓reduceIte, reduceCtorEq, Nat.reduceAdd, Nat.reduceEqDiff, Nat.zero_add, Bool.not_true, Bool.not_false, Nat.le_refl, Nat.zero_le, List.length_map, List.length_cons, List.length_nil, List.cons_append, List.nil_append, rep_flat]
    refine sem_invE (shJ t v F p) (shE t v F p) (m0 := p.length) ⟨0, by omega, rfl, ?_⟩ (fun m fr σ hJ => sh_round hT (by omega) hp hJ) (fun e fr σ hE => ?_)
    · simp -implicitDefEqProofs (disch := omega) only [go_sem, ↓reduceIte, reduceCtorEq, Nat.reduceEqDiff, List.nil_append, shH, List.take_zero, List.map_nil, Nat.sub_zero]
      rfl
    · obtain ⟨rfl, f2, f6, f1, rfl⟩ := hE
      refine run_sem 1000 ?_
      have hnf : Value.nilFunc.oneCell' = true := rfl
      simp -implicitDefEqProofs (disch := omega) only [go_sem, ↓reduceIte, Nat.reduceAdd, Nat.reduceEqDiff, Nat.zero_add, Bool.not_false, Nat.le_refl, Nat.zero_le, List.length_cons, List.length_nil, List.cons_append, List.nil_append, f2, f6, shH, hnf]
      refine .inr ⟨rfl, hck, ?_, ?_, ?_, rfl⟩ <;> simp [fget_fdel, fget_fset, f1, f6]
end Go.Proofs.Ytingdebioipemaa
