/- Contracts: the document's models. -/
import Derived.Test.YtingdebioipemaaRl1
namespace Go.Proofs.Ytingdebioipemaa
open Go Go.Am Go.Cl
set_option maxRecDepth 100000
variable {P : Program} {G : Nat → Option V}

theorem seen_one {o : List (Option Ob)} {k w T : Nat} {cs : List V} (h : o[k]? = some (some (.arr w T cs))) (hc : ∀ u ∈ cs, u.cells = [u] ∧ nameless u = true) : Seen o (.sl k w 0 1 cs.length none) (.lst 1 cs false) :=
  Seen.row (o := o) k w 0 1 none T cs cs h (fun j u hj => by
    have hm := hc u (List.mem_of_getElem? hj)
    rw [hm.1]
    refine ⟨rfl, fun i d hd => ?_⟩
    cases i with
    | zero =>
      simp at hd; subst hd
      refine ⟨?_, hm.2⟩
      rw [show 0 + j * 1 + 0 = j by omega]; exact hj
    | succ i => simp at hd) (fun _ => rfl)
theorem seen_bools {o : List (Option Ob)} {k w T : Nat} {m : List Bool} (h : o[k]? = some (some (.arr w T (m.map V.bool)))) : Seen o (.sl k w 0 1 m.length none) (.lst 1 (m.map V.bool) false) := by
  have := seen_one h (fun u hu => by
    obtain ⟨b, _, rfl⟩ := List.mem_map.1 hu
    exact ⟨rfl, rfl⟩)
  rwa [List.length_map] at this
theorem put_bools {m : List Bool} {k : Nat} (hk : k < m.length) (b : Bool) : List.take k (m.map V.bool) ++ [V.bool b] ++ List.drop (k + 1) (m.map V.bool) = (m.set k b).map V.bool := by
  rw [List.set_eq_take_append_cons_drop, if_pos hk]
  simp [List.map_take, List.map_drop]
theorem shl1 : ∀ n : Nat, n < 9 → IntKind.i64.wrap (1 * 2 ^ min n 64) = ((2 ^ n : Nat) : Int) := by decide
theorem pow8 : ∀ n : Nat, n < 9 → 2 ^ n ≤ 256 := by decide

abbrev mbJ (t0 tw t' n i : Nat) (F : List (List Int)) : Nat → Fr → H → Prop := fun k fr σ => ∃ m : List Bool, m.length = n ∧ fget fr 1 = .ptr 0 t0 0 ∧ fget fr 3 = .int .i64 ((i : Nat) : Int) ∧ fget fr 4 = .sl 1 tw 0 1 n none ∧ fget fr 5 = .int .i64 ((k : Nat) : Int) ∧ σ = ⟨t', rfH t0 n F ++ [some (.arr tw 4 (m.map V.bool))]⟩
abbrev mbE (t0 tw t' n i : Nat) (F : List (List Int)) : AE → Fr → H → Prop := fun e fr σ => e = .ex 2 ∧ ∃ m : List Bool, m.length = n ∧ fget fr 1 = .ptr 0 t0 0 ∧ fget fr 3 = .int .i64 ((i : Nat) : Int) ∧ fget fr 4 = .sl 1 tw 0 1 n none ∧ σ = ⟨t', rfH t0 n F ++ [some (.arr tw 4 (m.map V.bool))]⟩
theorem mb_round {t0 tw t' n i : Nat} {F : List (List Int)} (hn : n ≤ 8) {k : Nat} (hk : k < n) {fr : Fr} {σ : H} (hJ : mbJ t0 tw t' n i F k fr σ) :
    W P G 33 0 (AC.seq (AC.seq (AC.reg proofmarkref07_Model_r5 [16, 17, 18])   (AC.cond (Arg.t 19)   AC.skip   (AC.exit 2)))   (AC.seq (AC.block 3 (AC.reg proofmarkref07_Model_r6 [22, 23, 24, 25, 26, 27, 28, 29]))   (AC.reg proofmarkref07_Model_r7 [20, 21]))) fr σ (seqQ (fun fr σ => ∃ fr' σ', Shift G 33 0 fr σ fr' σ' ∧ mbJ t0 tw t' n i F (k + 1) fr' σ') (mbE t0 tw t' n i F)) := by
  obtain ⟨m, hm, f1, f3, f4, f5, rfl⟩ := hJ
  have e2 := wnext hk (by omega)
  have hput := put_bools (m := m) (k := k) (by omega)
  have hlt : (k : Int) < (n : Int) := by omega
  refine W_round [(1, .ptr 0 t0 0), (3, .int .i64 ((i : Nat) : Int)), (4, .sl 1 tw 0 1 n none), (5, .int .i64 ((k : Nat) : Int))] ⟨f1, f3, f4, f5, trivial⟩  1000 ?_
  simp -implicitDefEqProofs (disch := omega) only [go_sem, need_of, ↓reduceIte, Nat.reduceAdd, Nat.reduceEqDiff, Nat.reduceLeDiff, Nat.zero_add, Nat.add_zero, Nat.mul_one, decide_true, Bool.not_false, Nat.zero_le, proofmarkref07_Model_r5, proofmarkref07_Model_r6, proofmarkref07_Model_r7, rfH, List.length_map, true_implies, true_and, and_true, Bool.not_false, List.cons_append, List.nil_append, hlt, hm, hput]
  exact ⟨_, _, Shift.refl _ _ _ _, m.set k (andI IntKind.i64 (Int.fdiv (i : Int) (2 ^ min k 64)) 1 == 1), by simp [hm], rfl, rfl, rfl, by rw [e2]; rfl, rfl⟩
abbrev moJ (t0 n : Nat) (F : List (List Int)) : Nat → Fr → H → Prop := fun i fr σ => ∃ t', fget fr 1 = .ptr 0 t0 0 ∧ fget fr 3 = .int .i64 ((i : Nat) : Int) ∧ σ = ⟨t', rfH t0 n F⟩
abbrev moE (n : Nat) (F : List (List Int)) : AE → Fr → H → Prop := fun e fr _ => (e = .ret ∧ fget fr 2 = .bool true ∧ ∃ m, holdsS n F m = true) ∨ e = .ex 0
theorem mo_round (hT : TabOk P tab) {t0 : Nat} {n : Nat} {F : List (List Int)} (hn : n ≤ 8) (hF : F.length ≤ 1000) (hc : ∀ c ∈ F, c.length ≤ 1000) {i : Nat} (hi : i < 2 ^ n) {fr : Fr} {σ : H} (hJ : moJ t0 n F i fr σ) :
    W P G 33 0 (AC.seq (AC.seq (AC.reg proofmarkref07_Model_r2 [6, 7, 8, 9])   (AC.cond (Arg.t 10)   AC.skip   (AC.exit 0)))   (AC.seq (AC.block 1 (AC.seq (AC.reg proofmarkref07_Model_r3 [13, 14, 15])   (AC.seq (AC.seq (AC.reg proofmarkref07_Model_r4 [])   (AC.block 2 (AC.loop (AC.seq (AC.seq (AC.reg proofmarkref07_Model_r5 [16, 17, 18])   (AC.cond (Arg.t 19)   AC.skip   (AC.exit 2)))   (AC.seq (AC.block 3 (AC.reg proofmarkref07_Model_r6 [22, 23, 24, 25, 26, 27, 28, 29]))   (AC.reg proofmarkref07_Model_r7 [20, 21]))))))   (AC.seq (AC.reg proofmarkref07_Model_r8 [30, 31])   (AC.cond (Arg.t 32)   (AC.seq (AC.reg proofmarkref07_Model_r9 [])   AC.ret)   AC.skip)))))   (AC.reg proofmarkref07_Model_r10 [11, 12]))) fr σ (seqQ (fun fr σ => ∃ fr' σ', Shift G 33 0 fr σ fr' σ' ∧ moJ t0 n F (i + 1) fr' σ') (moE n F)) := by
  obtain ⟨t', f1, f3, rfl⟩ := hJ
  have hp := pow8 n (by omega)
  have e2 := wnext hi (by omega)
  have hlt : (i : Int) < ((2 ^ n : Nat) : Int) := by omega
  have hrep : (List.replicate n [V.bool false]).flatten = (List.replicate n false).map V.bool := by
    clear hi e2 hlt hp hn
    induction n with
    | zero => rfl
    | succ n ih => rw [List.replicate_succ, List.flatten_cons, ih, List.replicate_succ]; rfl
  have hs := shl1 n (by omega)
  generalize 2 ^ n = z at *
  refine W_round [(1, .ptr 0 t0 0), (3, .int .i64 ((i : Nat) : Int))] ⟨f1, f3, trivial⟩  1000 ?_
  simp -implicitDefEqProofs (disch := omega) only [go_sem, need_of, ↓reduceIte, Nat.reduceAdd, Nat.reduceEqDiff, Nat.reduceLeDiff, Nat.zero_add, Nat.add_zero, decide_true, Nat.le_refl, proofmarkref07_Model_r2, proofmarkref07_Model_r3, proofmarkref07_Model_r4, proofmarkref07_Model_r5, proofmarkref07_Model_r6, proofmarkref07_Model_r7, proofmarkref07_Model_r8, proofmarkref07_Model_r9, proofmarkref07_Model_r10, rfH, true_implies, true_and, and_true, hs, hlt, hrep]
  refine sem_upto n (mbJ t0 t' (t' + 1) n i F) (mbE t0 t' (t' + 1) n i F) ⟨List.replicate n false, by simp, ?_⟩ (fun k hk fr σ hJ => mb_round hn hk hJ) (fun k hk fr σ hJ => ?_) (fun e fr σ hE => ?_)
  · simp -implicitDefEqProofs (disch := omega) only [go_sem, ↓reduceIte, Nat.reduceEqDiff, rfH, true_and, and_true, List.cons_append, List.nil_append]
    simp
  · obtain ⟨m, hm, f1, f3, f4, f5, rfl⟩ := hJ
    refine W_round [(1, .ptr 0 t0 0), (3, .int .i64 ((i : Nat) : Int)), (4, .sl 1 t' 0 1 n none), (5, .int .i64 ((k : Nat) : Int))] ⟨f1, f3, f4, f5, trivial⟩ 1000 ?_
    simp -implicitDefEqProofs (disch := omega) only [go_sem, ↓reduceIte, Nat.reduceAdd, Nat.reduceEqDiff, Nat.reduceLeDiff, Nat.zero_add, Nat.add_zero, decide_false, rfH, true_implies, and_true, hk, Int.lt_irrefl]
    exact ⟨rfl, m, hm, rfl, rfl, rfl, rfl⟩
  · obtain ⟨rfl, m, hm, f1, f3, f4, rfl⟩ := hE
    have hH := c_rHolds (P := P) (G := G) hT n F m (by omega) (fun c h => by have := hc c h; omega) (by omega)
    simp only [fml, rows, bools] at hH
    have hV : ∀ (o : List (Option Ob)) (k w T : Nat), o[k]? = some (some (.arr w T (m.map V.bool))) → Seen o (.sl k w 0 1 n none) (.lst 1 (m.map V.bool) false) := fun o k w T h => by
      rw [← hm]; exact seen_bools h
    refine sem_exit [(1, .ptr 0 t0 0), (3, .int .i64 ((i : Nat) : Int)), (4, .sl 1 t' 0 1 n none)] ⟨f1, f3, f4, trivial⟩ 1000 ?_
    simp -implicitDefEqProofs (disch := omega) only [go_sem, ↓reduceIte, reduceCtorEq, Nat.reduceAdd, Nat.reduceEqDiff, Nat.zero_add, Nat.le_refl, rfH, false_implies, and_true, List.cons_append, List.nil_append]
    refine callView hT t_proofmarkref05_Holds hH (.cons _ _ _ _ (.same _ (by simp [nameless, namelessL])) (.cons _ _ _ _ (hV _ _ _ _ rfl) .nil)) rfl 1000 ?_
    cases hh : holdsS n F m with
    | true =>
      simp -implicitDefEqProofs (disch := omega) only [go_sem, ↓reduceIte, Nat.reduceEqDiff]
      exact .inl ⟨rfl, rfl, m, hh⟩
    | false =>
      simp -implicitDefEqProofs (disch := omega) only [go_sem, ↓reduceIte, Nat.reduceEqDiff]
      refine ⟨_, _, Shift.drop (o' := rfH t0 n F) (t' := t' + 1) (by simp [subObs, rfH]) (Nat.le_refl _) (Nat.zero_le _), t' + 1, ?_⟩
      simp -implicitDefEqProofs (disch := omega) only [go_sem, ↓reduceIte, Nat.reduceEqDiff, rfH, and_true, e2]
theorem c_Model (hT : TabOk P tab) (n : Nat) (F : List (List Int)) (hn : n ≤ 8) (hF : F.length ≤ 1000) (hc : ∀ c ∈ F, c.length ≤ 1000) :
    Pure P G n_proofmarkref07_Model [fml n F] fun u => u = .bool false ∨ (u = .bool true ∧ ∃ m, holdsS n F m = true) := by
  intro t0
  simp only [fml, rows]
  refine C_keep 0 (Nat.zero_le _) (C_tab hT t_proofmarkref07_Model (by simp [proofmarkref07_Model]) (W_run 1000 ?_))
  simp -implicitDefEqProofs (disch := omega) only [go_sem, ↓reduceIte, reduceCtorEq, Nat.reduceEqDiff, proofmarkref07_Model, proofmarkref07_Model_r0, proofmarkref07_Model_r1, proofmarkref07_Model_r2, proofmarkref07_Model_r3, proofmarkref07_Model_r4, proofmarkref07_Model_r5, proofmarkref07_Model_r6, proofmarkref07_Model_r7, proofmarkref07_Model_r8, proofmarkref07_Model_r9, proofmarkref07_Model_r10, proofmarkref07_Model_r11, and_true]
  refine sem_upto (2 ^ n) (moJ t0 n F) (moE n F) ⟨t0 + 1, ?_⟩ (fun i hi fr σ hJ => mo_round hT hn hF hc hi hJ) (fun i hi fr σ hJ => ?_) (fun e fr σ hE => ?_)
  · simp -implicitDefEqProofs (disch := omega) only [go_sem, ↓reduceIte, reduceCtorEq, Nat.reduceEqDiff, rfH, true_and, and_true]
    simp
  · obtain ⟨t', f1, f3, rfl⟩ := hJ
    have hs := shl1 n (by omega)
    rw [← hi] at hs
    refine W_round [(1, .ptr 0 t0 0), (3, .int .i64 ((i : Nat) : Int))] ⟨f1, f3, trivial⟩  1000 ?_
    simp -implicitDefEqProofs (disch := omega) only [go_sem, need_of, ↓reduceIte, Nat.reduceAdd, Nat.reduceEqDiff, Nat.reduceLeDiff, Nat.zero_add, Nat.add_zero, decide_false, rfH, true_implies, and_true, hs, Int.lt_irrefl]
    exact .inr rfl
  · rcases hE with ⟨rfl, f2, hm⟩ | rfl
    · refine run_sem 1000 ?_
      simp -implicitDefEqProofs (disch := omega) only [go_sem, Nat.zero_le, true_and, f2]
      first | exact hm | exact .inr ⟨rfl, hm⟩ | exact .inr hm
    · refine run_sem 1000 ?_
      simp -implicitDefEqProofs (disch := omega) only [go_sem, ↓reduceIte, Nat.zero_le, and_true]
      try simp
end Go.Proofs.Ytingdebioipemaa
