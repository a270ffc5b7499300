/- What is told of instructions. -/
import Derived.Test.YtkhdfbokkneeaaaDoorRt5
import Derived.Test.YtkhdfbokkneeaaaDoorRw13
namespace Go.Proofs.YtkhdfbokkneeaaaDoor
open Go Go.Am Go.Rv
set_option maxRecDepth 100000
variable {P : Program} {G : Nat → Option V}

theorem us_length (l : List Int) : (us l).length = l.length := by simp [us]
theorem us_getD {l : List Int} {i : Nat} {a : Int} (h : l[i]? = some a) : (us l).getD i V.any = .int .u8 a := by simp [us, List.getD_eq_getElem?_getD, h]
theorem us_nameless (l : List Int) : namelessL (us l) = true := by
  induction l with
  | nil => rfl
  | cons a l ih =>
    show (nameless (V.int .u8 a) && namelessL (us l)) = true
    rw [ih]; rfl
theorem us_cells (l : List Int) : ∀ u ∈ us l, u.cells = [u] ∧ nameless u = true := fun u hu => by
  obtain ⟨a, _, rfl⟩ := List.mem_map.1 hu
  exact ⟨rfl, rfl⟩
theorem wnx {i n : Nat} (h : i < n) (hn : n ≤ 9223372036854775807) : IntKind.i64.wrap ((i : Int) + 1) = ((i + 1 : Nat) : Int) := by
  rw [wrap_id]
  · omega
  · simp [IntKind.min, IntKind.signed, IntKind.bits]; omega
  · simp [IntKind.max, IntKind.signed, IntKind.bits]; omega
theorem c_same (hT : TabOk P tab) (a : List Int) (hl : a.length ≤ 1000000) : Pure P G n_proofmarklaw10_same [.lst 1 (us a) false, .lst 1 (us a) false] fun u => u = .bool true := by
  intro t
  refine C_keep 0 (Nat.zero_le _) (C_tab hT t_proofmarklaw10_same (by simp [proofmarklaw10_same]) (W_run 1000 ?_))
  simp -implicitDefEqProofs (disch := omega) only [go_sem, ↓reduceIte, reduceCtorEq, Nat.reduceEqDiff, Nat.zero_add, bne_self_eq_false, proofmarklaw10_same, proofmarklaw10_same_r0, proofmarklaw10_same_r1, proofmarklaw10_same_r2, proofmarklaw10_same_r3, proofmarklaw10_same_r4, proofmarklaw10_same_r5, proofmarklaw10_same_r6, proofmarklaw10_same_r7, proofmarklaw10_same_r8, us_length]
  refine sem_for a (fun i fr σ => fget fr 0 = .lst 1 (us a) false ∧ fget fr 1 = .lst 1 (us a) false ∧ fget fr 5 = .int .i64 ((i : Nat) : Int) ∧ σ = ⟨t, []⟩) (fun e fr σ => e = .ex 0) ⟨rfl, rfl, rfl, rfl⟩ (fun i x hx fr σ hJ => ?_) (fun i hi fr σ hJ => ?_) (fun e fr σ hE => ?_)
  · obtain ⟨f0, f1, f5, rfl⟩ := hJ
    have hlt := (List.getElem?_eq_some_iff.1 hx).1
    have hD := us_getD hx
    have e2 := wnx hlt (by omega)
    refine W_round [(0, .lst 1 (us a) false), (1, .lst 1 (us a) false), (5, .int .i64 ((i : Nat) : Int))] ⟨f0, f1, f5, trivial⟩  1000 ?_
    simp -implicitDefEqProofs (disch := omega) only [go_sem, need_of, ↓reduceIte, reduceCtorEq, Nat.reduceEqDiff, Nat.zero_add, decide_true, Nat.le_refl, bne_self_eq_false, us_length, true_implies, and_true, hlt, hD]
    refine ⟨_, _, Shift.refl _ _ _ _, ?_⟩
    simp -implicitDefEqProofs (disch := omega) only [go_sem, ↓reduceIte, reduceCtorEq, Nat.reduceEqDiff, and_true, e2]
  · obtain ⟨f0, f1, f5, rfl⟩ := hJ
    refine W_round [(0, .lst 1 (us a) false), (1, .lst 1 (us a) false), (5, .int .i64 ((i : Nat) : Int))] ⟨f0, f1, f5, trivial⟩  1000 ?_
    simp -implicitDefEqProofs (disch := omega) only [go_sem, ↓reduceIte, reduceCtorEq, Nat.reduceEqDiff, decide_false, us_length, hi, Nat.lt_irrefl]
  · obtain rfl := hE
    refine run_sem 1000 ?_
    simp -implicitDefEqProofs (disch := omega) only [go_sem, ↓reduceIte, Nat.zero_le, and_true]
def tlH (t : Nat) (x : In) : List (Option Ob) := [some (.arr t 24 [.int .u8 x.op, .int .u8 x.rd, .int .u8 x.rs1, .int .u8 x.rs2, .int .i64 x.imm])]
abbrev tjJ (t0 t' w n i : Nat) (x : In) (B : Option Ob) : Nat → Fr → H → Prop := fun j fr σ => ∃ cs : List V, n ≤ cs.length ∧ fget fr 1 = .ptr 0 t0 0 ∧ fget fr 3 = .int .u8 (wrs x).1 ∧ fget fr 4 = .bool (wrs x).2 ∧ fget fr 5 = .int .u8 (wrs x).1 ∧ fget fr 6 = .bool (wrs x).2 ∧ fget fr 7 = .int .i64 ((i : Nat) : Int) ∧ fget fr 8 = .sl 2 w 0 1 n none ∧ fget fr 9 = .int .i64 ((j : Nat) : Int) ∧ σ = ⟨t', tlH t0 x ++ [B, some (.arr w 5 cs)]⟩
abbrev tkE (t0 i : Nat) (x : In) : AE → Fr → H → Prop := fun e fr σ => e = .ex 2 ∧ ∃ t' ex, fget fr 1 = .ptr 0 t0 0 ∧ fget fr 3 = .int .u8 (wrs x).1 ∧ fget fr 4 = .bool (wrs x).2 ∧ fget fr 5 = .int .u8 (wrs x).1 ∧ fget fr 6 = .bool (wrs x).2 ∧ fget fr 7 = .int .i64 ((i : Nat) : Int) ∧ σ = ⟨t', tlH t0 x ++ ex⟩
theorem tj_round {t0 t' w n i : Nat} {x : In} {B : Option Ob} (hn : n ≤ 1000) {j : Nat} (hj : j < n) {fr : Fr} {σ : H} (hJ : tjJ t0 t' w n i x B j fr σ) :
    W P G 70 0 (AC.seq (AC.seq (AC.reg proofmarklaw10_RvTells_r9 [33, 34, 35])   (AC.cond (Arg.t 36)   AC.skip   (AC.exit 2)))   (AC.seq (AC.block 3 (AC.reg proofmarklaw10_RvTells_r10 [39, 40, 41]))   (AC.reg proofmarklaw10_RvTells_r11 [37, 38]))) fr σ (seqQ (fun fr σ => ∃ fr' σ', Shift G 70 0 fr σ fr' σ' ∧ tjJ t0 t' w n i x B (j + 1) fr' σ') (tkE t0 i x)) := by
  obtain ⟨cs, hcs, f1, f3, f4, f5, f6, f7, f8, f9, rfl⟩ := hJ
  have e2 := wnx hj (by omega)
  refine W_round [(1, .ptr 0 t0 0), (3, .int .u8 (wrs x).1), (4, .bool (wrs x).2), (5, .int .u8 (wrs x).1), (6, .bool (wrs x).2), (7, .int .i64 ((i : Nat) : Int)), (8, .sl 2 w 0 1 n none), (9, .int .i64 ((j : Nat) : Int))] ⟨f1, f3, f4, f5, f6, f7, f8, f9, trivial⟩  1000 ?_
  simp -implicitDefEqProofs (disch := omega) only [go_sem, need_of, ↓reduceIte, Nat.reduceEqDiff, Nat.zero_add, Nat.mul_one, decide_true, Bool.not_false, Nat.zero_le, proofmarklaw10_RvTells_r9, proofmarklaw10_RvTells_r10, proofmarklaw10_RvTells_r11, true_and, and_true, Bool.not_false, tlH, hj, List.cons_append, List.nil_append]
  refine ⟨_, _, Shift.refl _ _ _ _, List.take j cs ++ [.int .u8 77] ++ List.drop (j + 1) cs, by simp; omega, ?_⟩
  simp -implicitDefEqProofs (disch := omega) only [go_sem, ↓reduceIte, Nat.reduceEqDiff, and_true, tlH, e2, List.cons_append, List.nil_append]
abbrev tiJ (t0 : Nat) (x : In) : Nat → Fr → H → Prop := fun i fr σ => ∃ t', fget fr 1 = .ptr 0 t0 0 ∧ fget fr 3 = .int .u8 (wrs x).1 ∧ fget fr 4 = .bool (wrs x).2 ∧ fget fr 5 = .int .u8 (wrs x).1 ∧ fget fr 6 = .bool (wrs x).2 ∧ fget fr 7 = .int .i64 ((i : Nat) : Int) ∧ σ = ⟨t', tlH t0 x⟩
theorem ti_round (hT : TabOk Tryd.prog tab) {t0 : Nat} {x : In} (hx : InOk x) {i : Nat} (hi : i < 2) {fr : Fr} {σ : H} (hJ : tiJ t0 x i fr σ) :
    W Tryd.prog G0 70 0 (AC.seq (AC.seq (AC.reg proofmarklaw10_RvTells_r4 [21])   (AC.cond (Arg.t 22)   AC.skip   (AC.exit 0)))   (AC.seq (AC.block 1 (AC.seq (AC.reg proofmarklaw10_RvTells_r5 [25, 26])   (AC.seq (AC.seq (AC.reg proofmarklaw10_RvTells_r6 [27, 28, 29, 30, 31])   (AC.cond (Arg.t 32)   (AC.seq (AC.reg proofmarklaw10_RvTells_r7 [])   AC.ret)   AC.skip))   (AC.seq (AC.reg proofmarklaw10_RvTells_r8 [])   (AC.block 2 (AC.loop (AC.seq (AC.seq (AC.reg proofmarklaw10_RvTells_r9 [33, 34, 35])   (AC.cond (Arg.t 36)   AC.skip   (AC.exit 2)))   (AC.seq (AC.block 3 (AC.reg proofmarklaw10_RvTells_r10 [39, 40, 41]))   (AC.reg proofmarklaw10_RvTells_r11 [37, 38])))))))))   (AC.reg proofmarklaw10_RvTells_r12 [23, 24]))) fr σ (seqQ (fun fr σ => ∃ fr' σ', Shift G0 70 0 fr σ fr' σ' ∧ tiJ t0 x (i + 1) fr' σ') fun e fr σ => e = .ex 0 ∧ fget fr 1 = .ptr 0 t0 0 ∧ fget fr 3 = .int .u8 (wrs x).1 ∧ fget fr 4 = .bool (wrs x).2 ∧ fget fr 5 = .int .u8 (wrs x).1 ∧ fget fr 6 = .bool (wrs x).2 ∧ ∃ t', σ = ⟨t', tlH t0 x⟩) := by
  obtain ⟨t', f1, f3, f4, f5, f6, f7, rfl⟩ := hJ
  have hR := c_Reads hT x hx (X := some (.arr t0 24 [.int .u8 x.op, .int .u8 x.rd, .int .u8 x.rs1, .int .u8 x.rs2, .int .i64 x.imm])) (t := t')
  have hp := c_plain (P := Tryd.prog) (G := G0) hT x
  have hr := c_rReads (P := Tryd.prog) hT x hx
  have hs := c_same (P := Tryd.prog) (G := G0) hT (rds x) (by have := rds_len x; omega)
  have hlt : (i : Int) < 2 := by omega
  have e2 := wnx hi (by omega)
  simp only [inC] at hR hp hr
  refine W_round [(1, .ptr 0 t0 0), (3, .int .u8 (wrs x).1), (4, .bool (wrs x).2), (5, .int .u8 (wrs x).1), (6, .bool (wrs x).2), (7, .int .i64 ((i : Nat) : Int))] ⟨f1, f3, f4, f5, f6, f7, trivial⟩  1000 ?_
  simp -implicitDefEqProofs (disch := omega) only [go_sem, ↓reduceIte, reduceCtorEq, Nat.reduceAdd, Nat.reduceEqDiff, Nat.zero_add, decide_true, Nat.le_refl, proofmarklaw10_RvTells_r4, proofmarklaw10_RvTells_r5, proofmarklaw10_RvTells_r6, proofmarklaw10_RvTells_r7, proofmarklaw10_RvTells_r8, proofmarklaw10_RvTells_r9, proofmarklaw10_RvTells_r10, proofmarklaw10_RvTells_r11, proofmarklaw10_RvTells_r12, false_implies, and_true, tlH, hlt]
  refine call hT t_rv_Reads hR 40 fun v σ hv => ?_
  rcases hv with ⟨hnil, rfl, t2, ex, rfl⟩ | ⟨t2, w, B, cs, rfl, rfl⟩
  · have hs0 := Pure.args (.cons _ _ _ _ (.lst 0 1 [] (us []) true .nil (.inl rfl)) (.cons _ _ _ _ (.refl _) .nil)) (hnil ▸ hs)
    rw [hnil] at hr
    simp -implicitDefEqProofs (disch := omega) only [go_sem, ↓reduceIte, reduceCtorEq, Nat.reduceAdd, Nat.reduceEqDiff, Nat.zero_add, Nat.le_refl, false_implies, and_true]
    refine callPS hT t_proofmarklaw10_plain hp rfl 40 ?_
    simp -implicitDefEqProofs (disch := omega) only [go_sem, ↓reduceIte, Nat.reduceEqDiff]
    refine callPS hT t_proofmarkref10_Reads hr rfl 40 ?_
    simp -implicitDefEqProofs (disch := omega) only [go_sem, ↓reduceIte, Nat.reduceEqDiff]
    refine callPS hT t_proofmarklaw10_same hs0 (by simp [nameless, namelessL]) 40 ?_
    simp -implicitDefEqProofs (disch := omega) only [go_sem, ↓reduceIte, Nat.reduceEqDiff, Bool.not_true, Bool.not_true]
    refine sem_rounds 1 40 ?_
    simp -implicitDefEqProofs (disch := omega) only [go_sem, ↓reduceIte, reduceCtorEq, Nat.reduceEqDiff, Nat.reduceLT, Int.reduceToNat, Int.reduceLE, true_and, List.length_nil]
    refine ⟨fun h => absurd h (by simp), fun _ => ?_⟩
    refine ⟨_, _, Shift.drop (o' := tlH t0 x) (t' := t2) (by simp [subObs, tlH]) (Nat.le_refl _) (Nat.zero_le _), t2, ?_⟩
    simp -implicitDefEqProofs (disch := omega) only [go_sem, ↓reduceIte, Nat.reduceEqDiff, and_true, e2, tlH]
  · simp -implicitDefEqProofs (disch := omega) only [go_sem, ↓reduceIte, reduceCtorEq, Nat.reduceAdd, Nat.reduceEqDiff, Nat.zero_add, Nat.le_refl, false_implies, and_true, h3]
    refine callPS hT t_proofmarklaw10_plain hp rfl 40 ?_
    simp -implicitDefEqProofs (disch := omega) only [go_sem, ↓reduceIte, Nat.reduceEqDiff]
    refine callPS hT t_proofmarkref10_Reads hr rfl 40 ?_
    simp -implicitDefEqProofs (disch := omega) only [go_sem, ↓reduceIte, Nat.reduceEqDiff]
    refine callView hT t_proofmarklaw10_same hs (.cons _ _ _ _ (seen_pre rfl (us_length _).symm (us_cells _)) (.cons _ _ _ _ (.same _ (by simp [nameless])) .nil)) rfl 40 ?_
    simp -implicitDefEqProofs (disch := omega) only [go_sem, ↓reduceIte, Nat.reduceEqDiff, Bool.not_true, Bool.not_true]
    refine sem_upto (rds x).length (tjJ t0 t2 w (rds x).length i x B) (tkE t0 i x) ⟨us (rds x) ++ cs, by simp [us], rfl, rfl, rfl, rfl, rfl, rfl, rfl, rfl, rfl⟩ (fun j hj fr σ hJ => tj_round (by have := rds_len x; omega) hj hJ) (fun j hj fr σ hJ => ?_) (fun e fr σ hE => ?_)
    · obtain ⟨cs, hcs, f1, f3, f4, f5, f6, f7, f8, f9, rfl⟩ := hJ
      refine W_round [(1, .ptr 0 t0 0), (3, .int .u8 (wrs x).1), (4, .bool (wrs x).2), (5, .int .u8 (wrs x).1), (6, .bool (wrs x).2), (7, .int .i64 ((i : Nat) : Int)), (8, .sl 2 w 0 1 (rds x).length none), (9, .int .i64 ((j : Nat) : Int))] ⟨f1, f3, f4, f5, f6, f7, f8, f9, trivial⟩ 1000 ?_
      simp -implicitDefEqProofs (disch := omega) only [go_sem, ↓reduceIte, Nat.reduceEqDiff, decide_false, tlH, hj, Int.lt_irrefl]
      exact ⟨rfl, _, _, rfl, rfl, rfl, rfl, rfl, rfl, rfl⟩
    · obtain ⟨rfl, t3, ex, f1, f3, f4, f5, f6, f7, rfl⟩ := hE
      refine sem_exit2 [(1, .ptr 0 t0 0), (3, .int .u8 (wrs x).1), (4, .bool (wrs x).2), (5, .int .u8 (wrs x).1), (6, .bool (wrs x).2), (7, .int .i64 ((i : Nat) : Int))] ⟨f1, f3, f4, f5, f6, f7, trivial⟩ 1000 ?_
      simp -implicitDefEqProofs (disch := omega) only [go_sem, ↓reduceIte, Nat.reduceEqDiff]
      refine ⟨_, _, Shift.drop (o' := tlH t0 x) (t' := t3) (by simp [subObs, tlH]) (Nat.le_refl _) (Nat.zero_le _), t3, ?_⟩
      simp -implicitDefEqProofs (disch := omega) only [go_sem, ↓reduceIte, Nat.reduceEqDiff, and_true, e2, tlH]
set_option maxHeartbeats 1000000 in
theorem c_RvTells (hT : TabOk Tryd.prog tab) (F : Lb Tryd.prog) (hf : F.fmt = fmt10) (h2 : F.fmt 2 = [50]) (h16 : F.fmt (-16) = [45, 49, 54]) (x : In) (hx : InOk x) :
    Pure Tryd.prog G0 n_proofmarklaw10_RvTells [.agg (inC x)] fun u => u = .bool true := by
  have hW := c_works hT F h2 h16
  have hw := c_Writes hT x hx
  have hw2 := c_rWrites (P := Tryd.prog) hT x hx
  have hp := c_plain (P := Tryd.prog) (G := G0) hT x
  have hn := c_Name (P := Tryd.prog) hT x.op hx.1.1 hx.1.2
  have hn2 := c_rName (P := Tryd.prog) hT x.op hx.1.1 hx.1.2
  have ht := c_Text hT F x hx
  have ht2 := c_rText (P := Tryd.prog) hT x hx
  rw [hf] at ht
  intro t
  simp only [inC] at hw hw2 hp ht ht2 ⊢
  refine C_keep 0 (Nat.zero_le _) (C_tab hT t_proofmarklaw10_RvTells (by simp [proofmarklaw10_RvTells]) (W_run 1000 ?_))
  simp -implicitDefEqProofs (disch := omega) only [go_sem, ↓reduceIte, reduceCtorEq, Nat.reduceAdd, Nat.reduceEqDiff, Nat.zero_add, Nat.le_refl, proofmarklaw10_RvTells, proofmarklaw10_RvTells_r0, proofmarklaw10_RvTells_r1, proofmarklaw10_RvTells_r2, proofmarklaw10_RvTells_r3, proofmarklaw10_RvTells_r4, proofmarklaw10_RvTells_r5, proofmarklaw10_RvTells_r6, proofmarklaw10_RvTells_r7, proofmarklaw10_RvTells_r8, proofmarklaw10_RvTells_r9, proofmarklaw10_RvTells_r10, proofmarklaw10_RvTells_r11, proofmarklaw10_RvTells_r12, proofmarklaw10_RvTells_r13, false_implies, and_true]
  refine callPS hT t_rv_Writes hw rfl 40 ?_
  simp -implicitDefEqProofs (disch := omega) only [go_sem, ↓reduceIte, reduceCtorEq, Nat.reduceAdd, Nat.reduceEqDiff, Nat.reduceLT, Nat.zero_add, Nat.le_refl, false_implies, and_true]
  refine callPS hT t_proofmarklaw10_plain hp rfl 40 ?_
  simp -implicitDefEqProofs (disch := omega) only [go_sem, ↓reduceIte, reduceCtorEq, Nat.reduceEqDiff]
  refine callPS hT t_proofmarkref10_Writes hw2 rfl 40 ?_
  simp -implicitDefEqProofs (disch := omega) only [go_sem, ↓reduceIte, reduceCtorEq, Nat.reduceAdd, Nat.reduceEqDiff, Nat.reduceLT, Nat.zero_add]
  refine sem_upto 2 (tiJ t x) _ ⟨t + 1, rfl, rfl, rfl, rfl, rfl, rfl, rfl⟩ (fun i hi fr σ hJ => ti_round hT hx hi hJ) (fun i hi fr σ hJ => ?_) (fun e fr σ hE => ?_)
  · obtain ⟨t', f1, f3, f4, f5, f6, f7, rfl⟩ := hJ
    refine W_round [(1, .ptr 0 t 0), (3, .int .u8 (wrs x).1), (4, .bool (wrs x).2), (5, .int .u8 (wrs x).1), (6, .bool (wrs x).2), (7, .int .i64 ((i : Nat) : Int))] ⟨f1, f3, f4, f5, f6, f7, trivial⟩ 1000 ?_
    have hi2 : ¬ ((i : Int) < 2) := by omega
    simp -implicitDefEqProofs (disch := omega) only [go_sem, ↓reduceIte, Nat.reduceEqDiff, decide_false, true_and, and_true, hi2]
    exact ⟨t', rfl⟩
  · obtain ⟨rfl, f1, f3, f4, f5, f6, t', rfl⟩ := hE
    refine sem_exit [(1, .ptr 0 t 0), (3, .int .u8 (wrs x).1), (4, .bool (wrs x).2), (5, .int .u8 (wrs x).1), (6, .bool (wrs x).2)] ⟨f1, f3, f4, f5, f6, trivial⟩ 4 ?_
    simp -implicitDefEqProofs (disch := omega) only [go_sem, ↓reduceIte, Nat.reduceEqDiff, tlH]
    iterate 9 (try (refine run_sem 4 ?_; simp -implicitDefEqProofs (disch := omega) only [go_sem, ↓reduceIte, Nat.reduceAdd, Nat.reduceEqDiff, Nat.reduceLeDiff, Nat.zero_add, Nat.add_zero, beq_self_eq_true, true_implies, and_true]))
    refine callPS hT t_rv_Name hn rfl 4 ?_
    simp -implicitDefEqProofs (disch := omega) only [go_sem, ↓reduceIte, Nat.reduceAdd, Nat.reduceEqDiff]
    iterate 9 (try (refine run_sem 4 ?_; simp -implicitDefEqProofs (disch := omega) only [go_sem, need_of, ↓reduceIte, reduceCtorEq, Nat.reduceAdd, Nat.reduceEqDiff, Nat.reduceLeDiff, Nat.reduceLT, Nat.reduceSub, Nat.reduceMul, Int.reduceToNat, Int.reduceLE, Int.reduceLT, Int.reduceEq, Int.reduceNe, Nat.succ_ne_zero, Nat.zero_add, Nat.add_zero, Nat.mul_one, Nat.one_mul, Nat.zero_mul, decide_true, decide_false, Bool.not_true, Bool.not_false, Nat.le_refl, Nat.zero_le, ge_iff_le, gt_iff_lt, Nat.reduceBEq, Nat.reduceBNe, beq_self_eq_true, bne_self_eq_false, Option.isSome_some, Option.isSome_none, Option.getD_some, Option.getD_none, proofmarklaw10_RvTells, proofmarklaw10_RvTells_r0, proofmarklaw10_RvTells_r1, proofmarklaw10_RvTells_r2, proofmarklaw10_RvTells_r3, proofmarklaw10_RvTells_r4, proofmarklaw10_RvTells_r5, proofmarklaw10_RvTells_r6, proofmarklaw10_RvTells_r7, proofmarklaw10_RvTells_r8, proofmarklaw10_RvTells_r9, proofmarklaw10_RvTells_r10, proofmarklaw10_RvTells_r11, proofmarklaw10_RvTells_r12, proofmarklaw10_RvTells_r13, inC, us_length, not_true_eq_false, not_false_eq_true, false_implies, true_implies, true_and, and_true, Bool.not_true, Bool.not_false, h3]))
    refine callPS hT t_proofmarkref10_Name hn2 rfl 4 ?_
    simp -implicitDefEqProofs (disch := omega) only [go_sem, ↓reduceIte, reduceCtorEq, Nat.reduceAdd, Nat.reduceEqDiff, Nat.zero_add, Nat.le_refl, beq_self_eq_true, false_implies, and_true]
    iterate 9 (try (refine run_sem 4 ?_; simp -implicitDefEqProofs (disch := omega) only [go_sem, ↓reduceIte, reduceCtorEq, Nat.reduceAdd, Nat.reduceEqDiff, Nat.zero_add, Nat.le_refl, false_implies, and_true]))
    refine callPS hT t_rv_Text ht rfl 4 ?_
    simp -implicitDefEqProofs (disch := omega) only [go_sem, ↓reduceIte, Nat.reduceAdd, Nat.reduceEqDiff]
    iterate 9 (try (refine run_sem 4 ?_; simp -implicitDefEqProofs (disch := omega) only [go_sem, need_of, ↓reduceIte, reduceCtorEq, Nat.reduceAdd, Nat.reduceEqDiff, Nat.reduceLeDiff, Nat.reduceLT, Nat.reduceSub, Nat.reduceMul, Int.reduceToNat, Int.reduceLE, Int.reduceLT, Int.reduceEq, Int.reduceNe, Nat.succ_ne_zero, Nat.zero_add, Nat.add_zero, Nat.mul_one, Nat.one_mul, Nat.zero_mul, decide_true, decide_false, Bool.not_true, Bool.not_false, Nat.le_refl, Nat.zero_le, ge_iff_le, gt_iff_lt, Nat.reduceBEq, Nat.reduceBNe, beq_self_eq_true, bne_self_eq_false, Option.isSome_some, Option.isSome_none, Option.getD_some, Option.getD_none, proofmarklaw10_RvTells, proofmarklaw10_RvTells_r0, proofmarklaw10_RvTells_r1, proofmarklaw10_RvTells_r2, proofmarklaw10_RvTells_r3, proofmarklaw10_RvTells_r4, proofmarklaw10_RvTells_r5, proofmarklaw10_RvTells_r6, proofmarklaw10_RvTells_r7, proofmarklaw10_RvTells_r8, proofmarklaw10_RvTells_r9, proofmarklaw10_RvTells_r10, proofmarklaw10_RvTells_r11, proofmarklaw10_RvTells_r12, proofmarklaw10_RvTells_r13, inC, us_length, not_true_eq_false, not_false_eq_true, false_implies, true_implies, true_and, and_true, Bool.not_true, Bool.not_false, h3]))
    refine callPS hT t_proofmarklaw10_plain hp rfl 4 ?_
    simp -implicitDefEqProofs (disch := omega) only [go_sem, ↓reduceIte, Nat.reduceAdd, Nat.reduceEqDiff]
    iterate 9 (try (refine run_sem 4 ?_; simp -implicitDefEqProofs (disch := omega) only [go_sem, need_of, ↓reduceIte, reduceCtorEq, Nat.reduceAdd, Nat.reduceEqDiff, Nat.reduceLeDiff, Nat.reduceLT, Nat.reduceSub, Nat.reduceMul, Int.reduceToNat, Int.reduceLE, Int.reduceLT, Int.reduceEq, Int.reduceNe, Nat.succ_ne_zero, Nat.zero_add, Nat.add_zero, Nat.mul_one, Nat.one_mul, Nat.zero_mul, decide_true, decide_false, Bool.not_true, Bool.not_false, Nat.le_refl, Nat.zero_le, ge_iff_le, gt_iff_lt, Nat.reduceBEq, Nat.reduceBNe, beq_self_eq_true, bne_self_eq_false, Option.isSome_some, Option.isSome_none, Option.getD_some, Option.getD_none, proofmarklaw10_RvTells, proofmarklaw10_RvTells_r0, proofmarklaw10_RvTells_r1, proofmarklaw10_RvTells_r2, proofmarklaw10_RvTells_r3, proofmarklaw10_RvTells_r4, proofmarklaw10_RvTells_r5, proofmarklaw10_RvTells_r6, proofmarklaw10_RvTells_r7, proofmarklaw10_RvTells_r8, proofmarklaw10_RvTells_r9, proofmarklaw10_RvTells_r10, proofmarklaw10_RvTells_r11, proofmarklaw10_RvTells_r12, proofmarklaw10_RvTells_r13, inC, us_length, not_true_eq_false, not_false_eq_true, false_implies, true_implies, true_and, and_true, Bool.not_true, Bool.not_false, h3]))
    refine callPS hT t_proofmarkref10_Text ht2 rfl 4 ?_
    simp -implicitDefEqProofs (disch := omega) only [go_sem, ↓reduceIte, Nat.reduceAdd, Nat.reduceEqDiff, Nat.zero_add, beq_self_eq_true]
    iterate 9 (try (refine run_sem 4 ?_; simp -implicitDefEqProofs (disch := omega) only [go_sem, need_of, ↓reduceIte, reduceCtorEq, Nat.reduceAdd, Nat.reduceEqDiff, Nat.reduceLeDiff, Nat.reduceLT, Nat.reduceSub, Nat.reduceMul, Int.reduceToNat, Int.reduceLE, Int.reduceLT, Int.reduceEq, Int.reduceNe, Nat.succ_ne_zero, Nat.zero_add, Nat.add_zero, Nat.mul_one, Nat.one_mul, Nat.zero_mul, decide_true, decide_false, Bool.not_true, Bool.not_false, Nat.le_refl, Nat.zero_le, ge_iff_le, gt_iff_lt, Nat.reduceBEq, Nat.reduceBNe, beq_self_eq_true, bne_self_eq_false, Option.isSome_some, Option.isSome_none, Option.getD_some, Option.getD_none, proofmarklaw10_RvTells, proofmarklaw10_RvTells_r0, proofmarklaw10_RvTells_r1, proofmarklaw10_RvTells_r2, proofmarklaw10_RvTells_r3, proofmarklaw10_RvTells_r4, proofmarklaw10_RvTells_r5, proofmarklaw10_RvTells_r6, proofmarklaw10_RvTells_r7, proofmarklaw10_RvTells_r8, proofmarklaw10_RvTells_r9, proofmarklaw10_RvTells_r10, proofmarklaw10_RvTells_r11, proofmarklaw10_RvTells_r12, proofmarklaw10_RvTells_r13, inC, us_length, not_true_eq_false, not_false_eq_true, false_implies, true_implies, true_and, and_true, Bool.not_true, Bool.not_false, h3]))
    refine callPS hT t_proofmarklaw10_works hW rfl 4 ?_
    simp -implicitDefEqProofs (disch := omega) only [go_sem, ↓reduceIte, Nat.reduceEqDiff]
    iterate 9 (try (refine run_sem 4 ?_; simp -implicitDefEqProofs (disch := omega) only [go_sem, ↓reduceIte, Nat.reduceEqDiff, Nat.zero_add, Nat.zero_le, and_true]))
end Go.Proofs.YtkhdfbokkneeaaaDoor
