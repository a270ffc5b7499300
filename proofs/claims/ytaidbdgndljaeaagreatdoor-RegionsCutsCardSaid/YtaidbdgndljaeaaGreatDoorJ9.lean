/- One function's code; the examples. -/
import Derived.Test.YtaidbdgndljaeaaGreatDoorJ8
/- One function's code; the examples. -/
namespace Go.Proofs.YtaidbdgndljaeaaGreatDoor
open Go Go.Am Go.Rv Go.Rg
set_option maxRecDepth 100000
theorem imgS1 (l : List In) : imgS [l] 0 = ⟨0, [(nameAt 0, 0)], encs l⟩ := imgS_one l 0
theorem img1_B {l : List In} (hl : l.length ≤ 1000) : ImB (imgS [l] 0) := by
  rw [imgS1]
  exact ⟨by simp, by have := encs_le l; simp; omega, by simp [nameAt]⟩
theorem enc_b {l : List In} (hok : ∀ x ∈ l, InOk x) : ∀ w ∈ encs l, 0 ≤ w ∧ w < 4294967296 := fun w hw => by
  obtain ⟨x, hx, he⟩ := enc_u w hw
  have := hok x hx
  obtain ⟨h1, h2, _⟩ := dec_enc he this.2.1.1 this.2.2.1.1 this.2.2.2.1.1
  exact ⟨h1, h2⟩
theorem wk_no2 {a b c : Int} : Wk (.tup [.agg zF, .agg (flt a b c)]) (.tup [.agg (fnC [] 0 [] 0 []), .agg (flt a b c)]) := .tup _ _ (.cons _ _ _ _ wk_zF (.cons _ _ _ _ (.refl _) .nil))
theorem c_of0 (hT : TabOk Tryz.prog tab) (l : List In) (hl : l.length ≤ 1000) (hok : ∀ x ∈ l, InOk x) : Am.Pure Tryz.prog G0 n_proofmarklaw22_of [insV l] fun v => Wk v (onV (ofS (imgS [l] 0))) := by
  intro t
  have hI := Pure.args (.cons _ _ _ _ (.lst 1 1 _ _ true (WkL.refl _) (.inr rfl)) (.cons _ _ _ _ (.refl _) .nil)) (c_Image (ls := [l]) (d := 0) hT (by simp) (by simpa using hl) (by simpa using hok))
  have hO := c_Of hT (imgS [l] 0) (img1_B hl) (by rw [imgS1]; exact enc_b hok) (by rw [imgS1]; have := encs_le l; simp; omega)
  have hin := img_nl (imgS [l] 0)
  generalize imgS [l] 0 = m at *
  simp only [insV, inC, List.map_cons, List.map_nil, imgV, imgC, symsV, codeV] at hI hO hin
  have h01 : (((0 : Nat) : Int) = 1) = False := eq_false (by decide)
  have h11 : (((1 : Nat) : Int) = 1) = True := eq_true (by decide)
  have l01 : ((0 : Int) < ((1 : Nat) : Int)) = True := eq_true (by decide)
  refine C_keep 0 (Nat.zero_le _) (C_tab hT t_proofmarklaw22_of (by simp [proofmarklaw22_of]) (W_run 20 ?_))
  simp -implicitDefEqProofs (disch := omega) only [go_sem, ↓reduceIte, reduceCtorEq, Nat.reduceEqDiff, Nat.zero_add, Nat.le_refl, proofmarklaw22_of, zqi_0, zqi_1, zqi_2, zqi_3, zqi_4, inC, insV, V.cells, and_true, List.cons_append, List.nil_append]
  refine callPS hT t_proofmarkkit_Image hI (by simp [namelessL, nameless]) 20 ?_
  simp -implicitDefEqProofs (disch := omega) only [go_sem, ↓reduceIte, reduceCtorEq, Nat.reduceEqDiff]
  refine callPS hT t_regions_Of hO hin 30 ?_
  cases hr : ofS m with
  | inr e =>
    simp only [ofV, funsV, onV, List.map_nil]
    simp -implicitDefEqProofs (disch := omega) only [go_sem, ↓reduceIte, reduceCtorEq, Nat.reduceAdd, Nat.reduceEqDiff, Nat.reduceLT, Int.reduceToNat, Int.reduceLE, Nat.zero_add, Bool.not_false, Nat.le_refl, Nat.zero_le, inC, insV, fnC, cutsV, flt, V.cells, false_implies, true_implies, true_and, and_true, not_false_eq_true, Bool.not_false, List.cons_append, List.nil_append, List.length_nil, h01]
    exact wk_no2
  | inl r =>
    cases r with
    | nil =>
      simp only [ofV, funsV, onV, List.map_nil]
      simp -implicitDefEqProofs (disch := omega) only [go_sem, ↓reduceIte, reduceCtorEq, Nat.reduceAdd, Nat.reduceEqDiff, Nat.reduceLT, Int.reduceToNat, Int.reduceLE, Nat.zero_add, Bool.not_false, Nat.le_refl, Nat.zero_le, inC, insV, fnC, cutsV, flt, V.cells, false_implies, true_implies, true_and, and_true, not_false_eq_true, Bool.not_false, List.cons_append, List.nil_append, List.length_nil, h01]
      exact wk_no2
    | cons f r =>
      cases r with
      | nil =>
        simp only [ofV, funsV, onV, List.map_nil, List.map_cons]
        simp -implicitDefEqProofs (disch := omega) only [go_sem, ↓reduceIte, reduceCtorEq, Nat.reduceAdd, Nat.reduceEqDiff, Nat.reduceLT, Int.reduceToNat, Int.reduceLE, Nat.zero_add, Bool.not_false, Nat.le_refl, Nat.zero_le, inC, insV, fC, fnC, cutsV, flt, V.cells, false_implies, true_implies, true_and, and_true, not_true_eq_false, Bool.not_false, List.cons_append, List.nil_append, List.length_nil, List.length_cons, h11]
        exact .refl _
      | cons g r =>
        simp only [ofV, funsV, onV, List.map_cons]
        have hk : (((r.length + 1 + 1 : Nat) : Int) = 1) = False := eq_false (by omega)
        simp -implicitDefEqProofs (disch := omega) only [go_sem, ↓reduceIte, reduceCtorEq, Nat.reduceAdd, Nat.reduceEqDiff, Nat.reduceLT, Int.reduceToNat, Int.reduceLE, Nat.zero_add, Bool.not_false, Nat.le_refl, Nat.zero_le, inC, insV, fC, fnC, cutsV, flt, V.cells, List.length_map, false_implies, true_implies, true_and, and_true, not_false_eq_true, Bool.not_false, List.cons_append, List.nil_append, List.length_nil, List.length_cons, hk]
        exact wk_no2
theorem c_ofL (hT : TabOk Tryz.prog tab) (l : List In) (hl : l.length ≤ 1000) (hok : ∀ x ∈ l, InOk x) : Am.Pure Tryz.prog G0 n_proofmarklaw22_of [insV l] fun v => v = onV (ofS (imgS [l] 0)) := fun t =>
  C_res (c_of0 hT l hl hok t) fun v σ ⟨_, h⟩ => ⟨_, h, onV_nl _, rfl⟩
end Go.Proofs.YtaidbdgndljaeaaGreatDoor
/- The kit's question of two rows of numbers. -/
namespace Go.Proofs.YtaidbdgndljaeaaGreatDoor
open Go Go.Am Go.Rv Go.Rg
set_option maxRecDepth 100000
variable {P : Program} {G : Nat → Option V}
abbrev siJ (t : Nat) (a b : List Int) : Nat → Fr → H → Prop := fun m fr σ => ∃ i, i ≤ a.length ∧ m = a.length - i ∧ a.take i = b.take i ∧ fget fr 0 = .lst 1 (ints a) false ∧ fget fr 1 = .lst 1 (ints b) false ∧ fget fr 5 = .int .i64 ((i : Nat) : Int) ∧ σ = ⟨t, []⟩
abbrev siE (t : Nat) (a b : List Int) : AE → Fr → H → Prop := fun e fr σ => (e = .ret ∧ fget fr 4 = .bool false ∧ a ≠ b) ∨ (e = .ex 0 ∧ a = b)
theorem si_round (hT : TabOk P tab) {t : Nat} {a b : List Int} (hab : a.length = b.length) (hl : a.length ≤ 9223372036854775807) {m : Nat} {fr : Fr} {σ : H} (hJ : siJ t a b m fr σ) :
    W P G 26 0 (AC.seq (AC.seq (AC.reg zqb_4 [11, 12, 13])   (AC.cond (Arg.t 14)   AC.skip   (AC.exit 0)))   (AC.seq (AC.block 1 (AC.seq (AC.reg zqb_5 [17, 18, 19, 20, 21, 22, 23, 24])   (AC.cond (Arg.t 25)   (AC.seq (AC.reg zqb_6 [])   AC.ret)   AC.skip)))   (AC.reg zqb_7 [15, 16]))) fr σ (seqQ (fun fr σ => ∃ m' fr' σ', m' < m ∧ Shift G 26 0 fr σ fr' σ' ∧ siJ t a b m' fr' σ') (siE t a b)) := by
  obtain ⟨i, hi, rfl, heq, f0, f1, f5, rfl⟩ := hJ
  rcases Nat.lt_or_ge i a.length with hlt | hge
  · obtain ⟨x, hx⟩ : ∃ x, a[i]? = some x := ⟨_, List.getElem?_eq_getElem hlt⟩
    obtain ⟨y, hy⟩ : ∃ y, b[i]? = some y := ⟨_, List.getElem?_eq_getElem (by omega)⟩
    have hltb : i < b.length := by omega
    have hD1 := ints_getD hx
    have hD2 := ints_getD hy
    have e2 := wnext hlt hl
    by_cases hxy : x = y
    · subst hxy
      have hb : (x == x) = true := by simp
      refine W_round [(0, .lst 1 (ints a) false), (1, .lst 1 (ints b) false), (5, .int .i64 ((i : Nat) : Int))] ⟨f0, f1, f5, trivial⟩  1000 ?_
      simp -implicitDefEqProofs (disch := omega) only [go_sem, need_of, ↓reduceIte, reduceCtorEq, Nat.reduceEqDiff, Nat.zero_add, decide_true, Nat.le_refl, bne_self_eq_false, zqb_4, zqb_5, zqb_6, zqb_7, ints_length, true_implies, and_true, hlt, hltb, hD1, hD2]
      refine ⟨a.length - (i + 1), _, _, by omega, Shift.refl _ _ _ _, i + 1, by omega, rfl, by rw [take_snoc hx, take_snoc hy, heq], ?_⟩
      simp -implicitDefEqProofs (disch := omega) only [go_sem, ↓reduceIte, reduceCtorEq, Nat.reduceEqDiff, and_true, e2]
    · have hb : (x = y) = False := eq_false hxy
      have hne : a ≠ b := fun e => by rw [e, hy] at hx; exact hxy (Option.some.inj hx).symm
      refine W_round [(0, .lst 1 (ints a) false), (1, .lst 1 (ints b) false), (5, .int .i64 ((i : Nat) : Int))] ⟨f0, f1, f5, trivial⟩  1000 ?_
      simp -implicitDefEqProofs (disch := omega) only [go_sem, need_of, ↓reduceIte, reduceCtorEq, Nat.reduceEqDiff, Nat.zero_add, decide_true, Nat.le_refl, zqb_4, zqb_5, zqb_6, zqb_7, ints_length, not_false_eq_true, false_implies, true_implies, and_true, hlt, hltb, hD1, hD2, hb]
      exact .inl ⟨rfl, rfl, hne⟩
  · have hi : i = a.length := by omega
    rw [hi, List.take_length, hab, List.take_length] at heq
    refine W_round [(0, .lst 1 (ints a) false), (1, .lst 1 (ints b) false), (5, .int .i64 ((i : Nat) : Int))] ⟨f0, f1, f5, trivial⟩  1000 ?_
    simp -implicitDefEqProofs (disch := omega) only [go_sem, ↓reduceIte, reduceCtorEq, Nat.reduceEqDiff, decide_false, zqb_4, zqb_5, zqb_6, zqb_7, ints_length, hi, Nat.lt_irrefl]
    exact .inr ⟨rfl, heq⟩
theorem c_SameInts (hT : TabOk P tab) (a b : List Int) (hl : a.length ≤ 9223372036854775807) (hl' : b.length ≤ 9223372036854775807) :
    Am.Pure P G n_proofmarkkit_SameInts [cutsV a, cutsV b] fun u => u = .bool (decide (a = b)) := by
  intro t
  simp only [cutsV]
  refine C_keep 0 (Nat.zero_le _) (C_tab hT t_proofmarkkit_SameInts (by simp [proofmarkkit_SameInts]) (W_run 1000 ?_))
  by_cases h : a.length = b.length
  · have h' : ((a.length : Int) = (b.length : Int)) = True := eq_true (by omega)
    simp -implicitDefEqProofs (disch := omega) only [go_sem, ↓reduceIte, reduceCtorEq, Nat.reduceEqDiff, Nat.zero_add, Nat.le_refl, proofmarkkit_SameInts, zqb_0, zqb_1, zqb_2, zqb_3, zqb_4, zqb_5, zqb_6, zqb_7, zqb_8, ints_length, not_true_eq_false, false_implies, true_implies, true_and, h']
    refine sem_invE (siJ t a b) (siE t a b) (m0 := a.length) ⟨0, by omega, rfl, by simp, ?_⟩ (fun m fr σ hJ => si_round hT h hl hJ) (fun e fr σ hE => ?_)
    · simp -implicitDefEqProofs (disch := omega) only [go_sem, ↓reduceIte, reduceCtorEq, Nat.reduceEqDiff, true_and, and_true]
      rfl
    · rcases hE with ⟨rfl, f4, hh⟩ | ⟨rfl, hh⟩
      · refine run_sem 1000 ?_
        simp -implicitDefEqProofs (disch := omega) only [go_sem, decide_false, Nat.zero_le, and_true, f4, hh]
      · refine run_sem 1000 ?_
        simp -implicitDefEqProofs (disch := omega) only [go_sem, ↓reduceIte, decide_true, Nat.zero_le, and_true, hh]
  · have h' : ((a.length : Int) = (b.length : Int)) = False := eq_false (by omega)
    have hne : a ≠ b := fun e => h (by rw [e])
    simp -implicitDefEqProofs (disch := omega) only [go_sem, ↓reduceIte, reduceCtorEq, Nat.reduceEqDiff, Nat.zero_add, decide_false, Nat.le_refl, proofmarkkit_SameInts, zqb_0, zqb_1, zqb_2, zqb_3, zqb_4, zqb_5, zqb_6, zqb_7, zqb_8, ints_length, not_false_eq_true, false_implies, true_implies, and_true, h', hne]
end Go.Proofs.YtaidbdgndljaeaaGreatDoor
/- The chapter's examples. -/
namespace Go.Proofs.YtaidbdgndljaeaaGreatDoor
open Go Go.Am Go.Rv Go.Rg
set_option maxRecDepth 100000
def l1 : List In := [jr]
def l2 : List In := [addiI 2 2 (-16), addiI 2 2 16, jr]
def l3 : List In := [addiI 2 2 (-16), jr]
def l4 : List In := [addiI 5 2 0]
def l5 : List In := [addiI 5 5 1, ⟨3, 0, 0, 0, -4⟩]
def l6 : List In := [addiI 17 0 3, ecallI, jr]
def l7 : List In := [addiI 5 5 1, addiI 6 6 1, ⟨5, 0, 5, 6, -4⟩, jr]
def okB (l : List In) : Bool := l.all fun x => decide (0 ≤ x.op ∧ x.op ≤ 255) && (decide (0 ≤ x.rd ∧ x.rd ≤ 255) && (decide (0 ≤ x.rs1 ∧ x.rs1 ≤ 255) && (decide (0 ≤ x.rs2 ∧ x.rs2 ≤ 255) && decide (-9223372036854775808 ≤ x.imm ∧ x.imm ≤ 9223372036854775807))))
theorem okB_ok {l : List In} (h : okB l = true) : ∀ x ∈ l, InOk x := fun x hx => by
  have := List.all_eq_true.1 h x hx
  simp only [Bool.and_eq_true, decide_eq_true_eq] at this
  exact ⟨this.1, this.2.1, this.2.2.1, this.2.2.2.1, by unfold i64; omega⟩
theorem r1 : ofS (imgS [l1] 0) = .inl [⟨nameAt 0, 0, l1, 0, []⟩] := by kernel_rfl
theorem r2 : ofS (imgS [l2] 0) = .inl [⟨nameAt 0, 0, l2, 16, []⟩] := by kernel_rfl
theorem r3 : ofS (imgS [l3] 0) = .inr (0, 1, 223) := by kernel_rfl
theorem r4 : ofS (imgS [l4] 0) = .inr (0, 0, 221) := by kernel_rfl
theorem r5 : ofS (imgS [l5] 0) = .inr (0, 1, 222) := by kernel_rfl
theorem r6 : ofS (imgS [l6] 0) = .inl [⟨nameAt 0, 0, l6, 0, []⟩] := by kernel_rfl
theorem r7 : ofS (imgS [l7] 0) = .inl [⟨nameAt 0, 0, l7, 0, [1]⟩] := by kernel_rfl
theorem ofX (hT : TabOk Tryz.prog tab) (l : List In) (hl : l.length ≤ 1000) (hok : okB l = true) {r : List Rg.Fn ⊕ (Nat × Nat × Int)} (hr : ofS (imgS [l] 0) = r) : Am.Pure Tryz.prog G0 n_proofmarklaw22_of [.lst 5 (l.map fun x => V.agg (inC x)) true] fun v => v = onV r := by
  have := Pure.args (.cons _ _ _ _ (.lst 5 5 _ _ true (WkL.refl _) (.inr rfl)) .nil) (c_ofL hT l hl (okB_ok hok))
  rw [hr] at this
  exact this
theorem c_works (hT : TabOk Tryz.prog tab) : Am.Pure Tryz.prog G0 n_proofmarklaw22_works [] fun v => v = .bool true := by
  have o1 := ofX hT l1 (by decide) rfl r1
  have o2 := ofX hT l2 (by decide) rfl r2
  have o3 := ofX hT l3 (by decide) rfl r3
  have o4 := ofX hT l4 (by decide) rfl r4
  have o5 := ofX hT l5 (by decide) rfl r5
  have o6 := ofX hT l6 (by decide) rfl r6
  have o7 := ofX hT l7 (by decide) rfl r7
  have hJ := c_jr (P := Tryz.prog) (G := G0) hT
  have hA := c_addi (P := Tryz.prog) (G := G0) hT
  have z0 : ((0 : Nat) : Int) = 0 := rfl
  have z1 : ((1 : Nat) : Int) = 1 := rfl
  simp only [l1, l2, l3, l4, l5, l6, l7, inC, insV, fC, fnC, cutsV, flt, onV, List.map_cons, List.map_nil, addiI, jr, ecallI, z0, z1] at o1 o2 o3 o4 o5 o6 o7 hJ hA
  have ok6 : ∀ x ∈ l6, InOk x := okB_ok rfl
  have q1 := c_Return (P := Tryz.prog) (G := G0) hT (nameAt 0) 0 0 l1 [] 0 (by decide) (by decide)
  have q2 := c_Return (P := Tryz.prog) (G := G0) hT (nameAt 0) 0 16 l2 [] 2 (by decide) (by decide)
  have q3 := Pure.args (.cons _ _ _ _ (.refl _) (.cons _ _ _ _ (.lst 1 1 _ _ true (WkL.refl _) (.inr rfl)) .nil)) (c_SameInts (P := Tryz.prog) (G := G0) hT [1] [1] (by decide) (by decide))
  have q4 := c_Ends (P := Tryz.prog) (G := G0) hT (nameAt 0) 0 0 l6 [] 1 (by decide) ok6 (by decide)
  have q5 := c_Next (G := G0) hT (nameAt 0) 0 0 l6 [] 1 (by decide) ok6 (by decide)
  rw [show ret l1 0 0 = true from rfl] at q1
  rw [show ret l2 16 2 = true from rfl] at q2
  rw [show decide (([1] : List Int) = [1]) = true from rfl] at q3
  rw [show ends l6 1 = true from rfl] at q4
  rw [show next l6 0 1 = [] from rfl] at q5
  have i1 : ints [1] = [.int .i64 1] := rfl
  simp only [l1, l2, l6, inC, insV, fnC, cutsV, List.map_cons, List.map_nil, addiI, jr, ecallI, i1] at q1 q2 q3 q4 q5
  intro t
  refine C_keep 0 (Nat.zero_le _) (C_tab hT t_proofmarklaw22_works (by simp [proofmarklaw22_works]) (W_run 20 ?_))
  simp -implicitDefEqProofs (disch := omega) only [go_sem, ↓reduceIte, proofmarklaw22_works, zq4_0, zq4_1, zq4_2, zq4_3, zq4_4, zq4_5, zq4_6, zq4_7, zq4_8, List.map_nil]
  refine callPS hT t_proofmarklaw22_back hJ (by simp [namelessL]) 16 ?_
  simp -implicitDefEqProofs (disch := omega) only [go_sem, ↓reduceIte, reduceCtorEq, Nat.reduceAdd, Nat.reduceEqDiff, Nat.zero_add, Nat.le_refl, V.cells, and_true, List.cons_append, List.nil_append, List.map_cons, List.map_nil]
  refine callPS hT t_proofmarklaw22_of o1 (by simp [namelessL, nameless]) 16 ?_
  simp -implicitDefEqProofs (disch := omega) only [go_sem, ↓reduceIte, reduceCtorEq, Nat.reduceAdd, Nat.reduceEqDiff, Nat.reduceLT, Nat.zero_add, Bool.not_false, Nat.le_refl, Nat.zero_le, V.cells, and_true, Bool.not_false, List.cons_append, List.nil_append, List.map_cons, List.map_nil]
  refine callPS hT t_proofmarklaw22_addi (hA 2 2 (-16)) (by simp [namelessL, nameless]) 16 ?_
  simp -implicitDefEqProofs (disch := omega) only [go_sem, ↓reduceIte, reduceCtorEq, Nat.reduceEqDiff, List.map_cons, List.map_nil]
  refine callPS hT t_proofmarklaw22_addi (hA 2 2 16) (by simp [namelessL, nameless]) 16 ?_
  simp -implicitDefEqProofs (disch := omega) only [go_sem, ↓reduceIte, reduceCtorEq, Nat.reduceEqDiff, List.map_nil]
  refine callPS hT t_proofmarklaw22_back hJ (by simp [namelessL]) 16 ?_
  simp -implicitDefEqProofs (disch := omega) only [go_sem, ↓reduceIte, reduceCtorEq, Nat.reduceAdd, Nat.reduceEqDiff, Nat.reduceLeDiff, Nat.zero_add, Nat.le_refl, V.cells, and_true, List.cons_append, List.nil_append, List.map_cons, List.map_nil]
  refine callPS hT t_proofmarklaw22_of o2 (by simp [namelessL, nameless]) 16 ?_
  simp -implicitDefEqProofs (disch := omega) only [go_sem, ↓reduceIte, reduceCtorEq, Nat.reduceAdd, Nat.reduceEqDiff, Nat.reduceLT, Nat.zero_add, Bool.not_false, Nat.le_refl, Nat.zero_le, V.cells, and_true, Bool.not_false, List.cons_append, List.nil_append, List.map_cons, List.map_nil]
  refine callPS hT t_proofmarklaw22_addi (hA 2 2 (-16)) (by simp [namelessL, nameless]) 16 ?_
  simp -implicitDefEqProofs (disch := omega) only [go_sem, ↓reduceIte, reduceCtorEq, Nat.reduceEqDiff, List.map_nil]
  refine callPS hT t_proofmarklaw22_back hJ (by simp [namelessL]) 16 ?_
  simp -implicitDefEqProofs (disch := omega) only [go_sem, ↓reduceIte, reduceCtorEq, Nat.reduceAdd, Nat.reduceEqDiff, Nat.reduceLeDiff, Nat.zero_add, Nat.le_refl, V.cells, and_true, List.cons_append, List.nil_append, List.map_cons, List.map_nil]
  refine callPS hT t_proofmarklaw22_of o3 (by simp [namelessL, nameless]) 16 ?_
  simp -implicitDefEqProofs (disch := omega) only [go_sem, ↓reduceIte, reduceCtorEq, Nat.reduceAdd, Nat.reduceEqDiff, Nat.reduceLT, Nat.zero_add, Bool.not_false, Nat.le_refl, Nat.zero_le, V.cells, and_true, Bool.not_false, List.cons_append, List.nil_append, List.map_cons, List.map_nil]
  refine callPS hT t_proofmarklaw22_addi (hA 5 2 0) (by simp [namelessL, nameless]) 16 ?_
  simp -implicitDefEqProofs (disch := omega) only [go_sem, ↓reduceIte, reduceCtorEq, Nat.reduceAdd, Nat.reduceEqDiff, Nat.zero_add, Nat.le_refl, V.cells, and_true, List.cons_append, List.nil_append, List.map_cons, List.map_nil]
  refine callPS hT t_proofmarklaw22_of o4 (by simp [namelessL, nameless]) 16 ?_
  simp -implicitDefEqProofs (disch := omega) only [go_sem, ↓reduceIte, reduceCtorEq, Nat.reduceAdd, Nat.reduceEqDiff, Nat.reduceLT, Nat.zero_add, Bool.not_false, Nat.le_refl, Nat.zero_le, V.cells, and_true, Bool.not_false, List.cons_append, List.nil_append, List.map_cons, List.map_nil]
  refine callPS hT t_proofmarklaw22_addi (hA 5 5 1) (by simp [namelessL, nameless]) 16 ?_
  simp -implicitDefEqProofs (disch := omega) only [go_sem, ↓reduceIte, reduceCtorEq, Nat.reduceAdd, Nat.reduceEqDiff, Nat.reduceLeDiff, Nat.zero_add, Nat.le_refl, V.cells, and_true, List.cons_append, List.nil_append, List.map_cons, List.map_nil]
  refine callPS hT t_proofmarklaw22_of o5 (by simp [namelessL, nameless]) 16 ?_
  simp -implicitDefEqProofs (disch := omega) only [go_sem, ↓reduceIte, reduceCtorEq, Nat.reduceAdd, Nat.reduceEqDiff, Nat.reduceLT, Nat.zero_add, Bool.not_false, Nat.le_refl, Nat.zero_le, V.cells, and_true, Bool.not_false, List.cons_append, List.nil_append, List.map_cons, List.map_nil]
  refine callPS hT t_proofmarklaw22_addi (hA 17 0 3) (by simp [namelessL, nameless]) 16 ?_
  simp -implicitDefEqProofs (disch := omega) only [go_sem, ↓reduceIte, reduceCtorEq, Nat.reduceAdd, Nat.reduceEqDiff, Nat.reduceLeDiff, Nat.zero_add, V.cells, and_true, List.cons_append, List.nil_append, List.map_nil]
  refine callPS hT t_proofmarklaw22_back hJ (by simp [namelessL]) 16 ?_
  simp -implicitDefEqProofs (disch := omega) only [go_sem, ↓reduceIte, reduceCtorEq, Nat.reduceAdd, Nat.reduceEqDiff, Nat.reduceLeDiff, Nat.zero_add, Nat.le_refl, V.cells, and_true, List.cons_append, List.nil_append, List.map_cons, List.map_nil]
  refine callPS hT t_proofmarklaw22_of o6 (by simp [namelessL, nameless]) 16 ?_
  simp -implicitDefEqProofs (disch := omega) only [go_sem, ↓reduceIte, reduceCtorEq, Nat.reduceAdd, Nat.reduceEqDiff, Nat.reduceLT, Nat.zero_add, Bool.not_false, Nat.le_refl, Nat.zero_le, V.cells, and_true, Bool.not_false, List.cons_append, List.nil_append, List.map_cons, List.map_nil]
  refine callPS hT t_proofmarklaw22_addi (hA 5 5 1) (by simp [namelessL, nameless]) 16 ?_
  simp -implicitDefEqProofs (disch := omega) only [go_sem, ↓reduceIte, reduceCtorEq, Nat.reduceEqDiff, List.map_cons, List.map_nil]
  refine callPS hT t_proofmarklaw22_addi (hA 6 6 1) (by simp [namelessL, nameless]) 16 ?_
  simp -implicitDefEqProofs (disch := omega) only [go_sem, ↓reduceIte, reduceCtorEq, Nat.reduceAdd, Nat.reduceEqDiff, Nat.reduceLeDiff, Nat.zero_add, Nat.le_refl, V.cells, and_true, List.cons_append, List.nil_append, List.map_nil]
  refine callPS hT t_proofmarklaw22_back hJ (by simp [namelessL]) 16 ?_
  simp -implicitDefEqProofs (disch := omega) only [go_sem, ↓reduceIte, reduceCtorEq, Nat.reduceAdd, Nat.reduceEqDiff, Nat.reduceLeDiff, Nat.zero_add, Nat.le_refl, V.cells, and_true, List.cons_append, List.nil_append, List.map_cons, List.map_nil]
  refine callPS hT t_proofmarklaw22_of o7 (by simp [namelessL, nameless]) 16 ?_
  simp -implicitDefEqProofs (disch := omega) only [go_sem, ↓reduceIte, reduceCtorEq, Nat.reduceAdd, Nat.reduceEqDiff, Nat.reduceLeDiff, Nat.reduceLT, Nat.zero_add, Bool.not_false, Nat.le_refl, Nat.zero_le, beq_self_eq_true, V.cells, true_implies, and_true, Bool.not_false, List.cons_append, List.nil_append]
  iterate 1 (try (refine run_sem 8 ?_; simp -implicitDefEqProofs (disch := omega) only [go_sem, ↓reduceIte, reduceCtorEq, Nat.reduceAdd, Nat.reduceEqDiff, Nat.zero_add, Nat.le_refl, beq_self_eq_true, false_implies, and_true, List.map_cons, List.map_nil]))
  refine callPS hT t_regions_Func_Return q1 (by simp [namelessL, nameless]) 8 ?_
  simp -implicitDefEqProofs (disch := omega) only [go_sem, ↓reduceIte, reduceCtorEq, Nat.reduceAdd, Nat.reduceEqDiff, Nat.zero_add, Nat.le_refl, beq_self_eq_true, true_implies, and_true, i1]
  iterate 1 (try (refine run_sem 8 ?_; simp -implicitDefEqProofs (disch := omega) only [go_sem, ↓reduceIte, reduceCtorEq, Nat.reduceAdd, Nat.reduceEqDiff, Nat.reduceLeDiff, Nat.zero_add, Nat.le_refl, beq_self_eq_true, false_implies, true_implies, and_true, List.map_cons, List.map_nil]))
  refine callPS hT t_regions_Func_Return q2 (by simp [namelessL, nameless]) 8 ?_
  simp -implicitDefEqProofs (disch := omega) only [go_sem, ↓reduceIte, reduceCtorEq, Nat.reduceAdd, Nat.reduceEqDiff, Nat.reduceLeDiff, Nat.zero_add, Nat.le_refl, beq_self_eq_true, V.cells, false_implies, and_true, List.cons_append, List.nil_append]
  iterate 5 (try (refine run_sem 8 ?_; simp -implicitDefEqProofs (disch := omega) only [go_sem, ↓reduceIte, reduceCtorEq, Nat.reduceAdd, Nat.reduceEqDiff, Nat.reduceLeDiff, Nat.zero_add, Nat.le_refl, beq_self_eq_true, V.cells, false_implies, true_implies, and_true, List.cons_append, List.nil_append, List.map_cons, List.map_nil]))
  refine callPS hT t_proofmarkkit_SameInts q3 (by simp [namelessL, nameless]) 8 ?_
  simp -implicitDefEqProofs (disch := omega) only [go_sem, ↓reduceIte, reduceCtorEq, Nat.reduceAdd, Nat.reduceEqDiff, Nat.zero_add, Nat.le_refl, beq_self_eq_true, false_implies, true_implies, and_true]
  iterate 3 (try (refine run_sem 8 ?_; simp -implicitDefEqProofs (disch := omega) only [go_sem, ↓reduceIte, reduceCtorEq, Nat.reduceAdd, Nat.reduceEqDiff, List.map_cons, List.map_nil]))
  refine callPS hT t_regions_Func_Ends q4 (by simp [namelessL, nameless]) 8 ?_
  simp -implicitDefEqProofs (disch := omega) only [go_sem, ↓reduceIte, reduceCtorEq, Nat.reduceAdd, Nat.reduceEqDiff, Nat.zero_add, Nat.le_refl, false_implies, and_true, List.map_cons, List.map_nil]
  iterate 1 (try (refine run_sem 8 ?_; simp -implicitDefEqProofs (disch := omega) only [go_sem, need_of, ↓reduceIte, reduceCtorEq, Nat.reduceAdd, Nat.reduceEqDiff, Nat.reduceLeDiff, Nat.reduceLT, Nat.reduceSub, Nat.reduceMul, Int.reduceToNat, Int.reduceLE, Int.reduceLT, Int.reduceEq, Int.reduceNe, Nat.succ_ne_zero, Nat.zero_add, Nat.add_zero, Nat.mul_one, Nat.one_mul, Nat.zero_mul, decide_true, decide_false, Bool.not_true, Bool.not_false, Nat.le_refl, Nat.zero_le, ge_iff_le, gt_iff_lt, Nat.reduceBEq, Nat.reduceBNe, beq_self_eq_true, bne_self_eq_false, Option.isSome_some, Option.isSome_none, Option.getD_some, Option.getD_none, proofmarklaw22_works, zq4_0, zq4_1, zq4_2, zq4_3, zq4_4, zq4_5, zq4_6, zq4_7, zq4_8, inC, insV, fC, fnC, cutsV, flt, onV, V.cells, List.length_map, ints_length, false_implies, true_implies, true_and, and_true, not_true_eq_false, not_false_eq_true, Int.reduceBEq, Int.reduceBNe, Bool.not_true, Bool.not_false, List.cons_append, List.nil_append, ge_iff_le, gt_iff_lt, List.map_cons, List.map_nil, addiI, jr, ecallI, i1]))
  refine callPS hT t_regions_Func_Next q5 (by simp [namelessL, nameless]) 8 ?_
  simp -implicitDefEqProofs (disch := omega) only [go_sem, ↓reduceIte, reduceCtorEq, Nat.reduceAdd, Nat.reduceEqDiff, Nat.zero_add, Nat.zero_le, ints_length, true_and]
  iterate 2 (try (refine run_sem 8 ?_; simp -implicitDefEqProofs (disch := omega) only [go_sem, need_of, ↓reduceIte, reduceCtorEq, Nat.reduceAdd, Nat.reduceEqDiff, Nat.reduceLeDiff, Nat.reduceLT, Nat.reduceSub, Nat.reduceMul, Int.reduceToNat, Int.reduceLE, Int.reduceLT, Int.reduceEq, Int.reduceNe, Nat.succ_ne_zero, Nat.zero_add, Nat.add_zero, Nat.mul_one, Nat.one_mul, Nat.zero_mul, decide_true, decide_false, Bool.not_true, Bool.not_false, Nat.le_refl, Nat.zero_le, ge_iff_le, gt_iff_lt, Nat.reduceBEq, Nat.reduceBNe, beq_self_eq_true, bne_self_eq_false, Option.isSome_some, Option.isSome_none, Option.getD_some, Option.getD_none, proofmarklaw22_works, zq4_0, zq4_1, zq4_2, zq4_3, zq4_4, zq4_5, zq4_6, zq4_7, zq4_8, inC, insV, fC, fnC, cutsV, flt, onV, V.cells, List.length_map, ints_length, false_implies, true_implies, true_and, and_true, not_true_eq_false, not_false_eq_true, Int.reduceBEq, Int.reduceBNe, Bool.not_true, Bool.not_false, List.cons_append, List.nil_append, ge_iff_le, gt_iff_lt, List.map_cons, List.map_nil, addiI, jr, ecallI, i1]))
  rfl
end Go.Proofs.YtaidbdgndljaeaaGreatDoor
/- Is x2 written where it may be? -/
namespace Go.Proofs.YtaidbdgndljaeaaGreatDoor
open Go Go.Am Go.Rv Go.Rg
set_option maxRecDepth 100000
structure FnOk (m : Im) (f : Rg.Fn) : Prop where
  good : Rg.Good (ats m) f.pl f.code f.frame
  ok : ∀ x ∈ f.code, InOk x
  len : f.code.length ≤ 1000
  cu : f.cuts = Rg.cuts f.code f.frame
  fr : 0 ≤ f.frame ∧ f.frame ≤ 1984
theorem let_round (hT : TabOk Tryz.prog tab) {m : Im} {f : Rg.Fn} (hf : FnOk m f) {i : Nat} {x : In} (hx : f.code[i]? = some x) {t : Nat} {fr : Fr} {σ : H} (hJ : fget fr 1 = .ref (.agg (fC f)) 0 ∧ fget fr 3 = .int .i64 ((i : Nat) : Int) ∧ σ = ⟨t, [none]⟩) :
    W Tryz.prog G0 91 0 (AC.seq (AC.seq (AC.reg zq8_2 [6, 7, 8, 9])   (AC.cond (Arg.t 10)   AC.skip   (AC.exit 0)))   (AC.seq (AC.block 1 (AC.seq (AC.reg zq8_3 [14, 15, 16, 17, 18, 19, 13, 20, 21])   (AC.seq (AC.seq (AC.reg zq8_4 [22, 23, 24, 25, 26, 27, 28, 29, 30, 31, 32, 33, 34, 35, 36, 37, 38, 39, 40, 41, 42, 43, 44, 45, 46, 47, 48, 49, 50, 51, 52, 53, 54, 55, 56, 57, 58, 59, 60, 61, 62, 63, 64, 65])   (AC.cond (Arg.t 66)   (AC.seq (AC.reg zq8_5 [])   AC.ret)   AC.skip))   (AC.seq (AC.reg zq8_6 [67, 68, 69, 70, 71, 72, 73, 74, 75, 76, 77, 78, 79, 80, 81, 82, 83, 84, 85, 86, 87, 88, 89])   (AC.cond (Arg.t 90)   (AC.seq (AC.reg zq8_7 [])   AC.ret)   AC.skip)))))   (AC.reg zq8_8 [11, 12]))) fr σ (seqQ (fun fr' σ' => ∃ fr'' σ'', Shift G0 91 0 fr' σ' fr'' σ'' ∧ fget fr'' 1 = .ref (.agg (fC f)) 0 ∧ fget fr'' 3 = .int .i64 ((i + 1 : Nat) : Int) ∧ σ'' = ⟨t, [none]⟩) (fun e _ σ' => e = .ex 0)) := by
  obtain ⟨f1, f3, rfl⟩ := hJ
  have hlt := (List.getElem?_eq_some_iff.1 hx).1
  have hl := hf.len
  have hfr := hf.fr
  have hD := ins_getD hx
  have e2 := wnext hlt (by omega)
  have hW := c_Writes hT x (hf.ok x (List.mem_of_getElem? hx))
  have hgw := hf.good.writes hx
  have hR1 := c_Return (P := Tryz.prog) (G := G0) hT f.name f.pl f.frame f.code f.cuts ((i : Int) + 1) (by omega) (by omega)
  have hR := c_Return (P := Tryz.prog) (G := G0) hT f.name f.pl f.frame f.code f.cuts (i : Int) (by omega) (by omega)
  have w1 : IntKind.i64.wrap ((i : Int) + 1) = (i : Int) + 1 := wself (by omega)
  have wF : IntKind.i64.wrap (0 - f.frame) = -f.frame := by rw [wself (by omega)]; omega
  have hn := fun n => show namelessL [.agg (fC f), .int .i64 n] = true by simp [namelessL, nameless, fC, fn_nl]
  have hb2 := ret_behind (c := f.code) (F := f.frame) (i := (i : Int))
  simp only [inC] at hW hD
  simp only [fC, fnC, insV, cutsV, inC] at hR hR1 hn
  refine W_round [(1, .ref (.agg (fC f)) 0), (3, .int .i64 ((i : Nat) : Int))] ⟨f1, f3, trivial⟩  20 ?_
  simp -implicitDefEqProofs (disch := omega) only [go_sem, need_of, ↓reduceIte, reduceCtorEq, Nat.reduceAdd, Nat.reduceEqDiff, Nat.reduceLeDiff, Nat.zero_add, decide_true, Nat.le_refl, zq8_2, zq8_3, zq8_4, zq8_5, zq8_6, zq8_7, zq8_8, inC, insV, fC, fnC, cutsV, V.cells, List.length_map, false_implies, true_implies, and_true, hlt, hD]
  iterate 4 (try (refine run_sem 4 ?_; simp -implicitDefEqProofs (disch := omega) only [go_sem, ↓reduceIte, Nat.reduceEqDiff]))
  refine callPS hT t_rv_Writes hW rfl 7 ?_
  simp -implicitDefEqProofs (disch := omega) only [go_sem, ↓reduceIte, Nat.reduceAdd, Nat.reduceEqDiff, Nat.reduceLT, Nat.zero_add]
  refine sem_cut (fun fr σ => fget fr 1 = .ref (.agg (fC f)) 0 ∧ fget fr 3 = .int .i64 ((i : Nat) : Int) ∧ σ = ⟨t, [none]⟩) ?_ fun fr σ hJ => ?_
  · refine W_run 8 ?_
    generalize hwx : wrs x = wx at *
    obtain ⟨wd, wb⟩ := wx
    simp only at hW hgw
    cases wb with
    | false =>
      simp -implicitDefEqProofs (disch := omega) only [go_sem, ↓reduceIte, Nat.reduceEqDiff, inC, insV, fC, fnC, cutsV]
      iterate 12 (try (refine run_sem 8 ?_; simp -implicitDefEqProofs (disch := omega) only [go_sem, ↓reduceIte, Nat.reduceEqDiff, and_true]))
    | true =>
      by_cases h2 : wd = 2
      · have h2' : (wd == 2) = true := by simp [h2]
        by_cases g1 : i = 0 ∧ x.imm = -f.frame
        · have g1' : ((i : Int) == 0) = true := by simp [g1.1]
          have g1'' : ((i : Int) = 0) = True := eq_true (by omega)
          have g2' : (x.imm == -f.frame) = true := by simp [g1.2]
          have g2'' : (x.imm = -f.frame) = True := eq_true g1.2
          simp -implicitDefEqProofs (disch := omega) only [go_sem, ↓reduceIte, Nat.reduceAdd, Nat.reduceEqDiff, inC, insV, fC, fnC, cutsV, h2']
          iterate 12 (try (refine run_sem 8 ?_; simp -implicitDefEqProofs (disch := omega) only [go_sem, need_of, ↓reduceIte, Nat.reduceAdd, Nat.reduceEqDiff, Nat.reduceLeDiff, Nat.zero_add, Bool.not_true, Nat.le_refl, V.cells, List.length_map, true_implies, and_true, Bool.not_true, g1', g2', hlt, hD, wF]))
        · obtain ⟨q1, q2, q3⟩ := (hgw (by rw [h2])).resolve_left g1
          rw [q1] at hR1
          have p2 : (x.imm == f.frame) = true := by simp [q2]
          have p3 : decide (0 < f.frame) = true := decide_eq_true q3
          have p3' : ((0 : Int) < f.frame) = True := eq_true q3
          by_cases z : i = 0
          · have g1' : ((i : Int) == 0) = true := by simp [z]
            have g1'' : ((i : Int) = 0) = True := eq_true (by omega)
            have g2' : (x.imm == -f.frame) = false := by rw [ibeq]; exact decide_eq_false fun h => g1 ⟨z, h⟩
            simp -implicitDefEqProofs (disch := omega) only [go_sem, ↓reduceIte, Nat.reduceAdd, Nat.reduceEqDiff, inC, insV, fC, fnC, cutsV, h2']
            iterate 6 (try (refine run_sem 8 ?_; simp -implicitDefEqProofs (disch := omega) only [go_sem, need_of, ↓reduceIte, reduceCtorEq, Nat.reduceAdd, Nat.reduceEqDiff, Nat.reduceLeDiff, Nat.zero_add, Bool.not_false, Nat.le_refl, V.cells, List.length_map, false_implies, true_implies, and_true, Bool.not_false, g1', g2', hlt, hD, wF, w1]))
            refine callPS hT t_regions_Func_Return hR1 (hn _) 8 ?_
            simp -implicitDefEqProofs (disch := omega) only [go_sem, need_of, ↓reduceIte, Nat.reduceAdd, Nat.reduceEqDiff, Nat.reduceLeDiff, Nat.zero_add, Nat.le_refl, V.cells, List.length_map, true_implies, and_true, hlt, hD]
            iterate 6 (try (refine run_sem 8 ?_; simp -implicitDefEqProofs (disch := omega) only [go_sem, ↓reduceIte, Nat.reduceAdd, Nat.reduceEqDiff, Nat.reduceLeDiff, Nat.zero_add, decide_true, Bool.not_true, gt_iff_lt, V.cells, true_implies, and_true, Bool.not_true, gt_iff_lt, p2, p3']))
          · have g1' : ((i : Int) == 0) = false := by simp [z]
            have g1'' : ((i : Int) = 0) = False := eq_false (by omega)
            simp -implicitDefEqProofs (disch := omega) only [go_sem, ↓reduceIte, Nat.reduceAdd, Nat.reduceEqDiff, inC, insV, fC, fnC, cutsV, h2']
            iterate 6 (try (refine run_sem 8 ?_; simp -implicitDefEqProofs (disch := omega) only [go_sem, ↓reduceIte, reduceCtorEq, Nat.reduceAdd, Nat.reduceEqDiff, Nat.zero_add, Bool.not_false, Nat.le_refl, V.cells, false_implies, and_true, Bool.not_false, g1', w1]))
            refine callPS hT t_regions_Func_Return hR1 (hn _) 8 ?_
            simp -implicitDefEqProofs (disch := omega) only [go_sem, need_of, ↓reduceIte, Nat.reduceAdd, Nat.reduceEqDiff, Nat.reduceLeDiff, Nat.zero_add, Nat.le_refl, V.cells, List.length_map, true_implies, and_true, hlt, hD]
            iterate 6 (try (refine run_sem 8 ?_; simp -implicitDefEqProofs (disch := omega) only [go_sem, ↓reduceIte, Nat.reduceAdd, Nat.reduceEqDiff, Nat.reduceLeDiff, Nat.zero_add, decide_true, Bool.not_true, gt_iff_lt, V.cells, true_implies, and_true, Bool.not_true, gt_iff_lt, p2, p3']))
      · have h2' : (wd == 2) = false := by simp [h2]
        simp -implicitDefEqProofs (disch := omega) only [go_sem, ↓reduceIte, Nat.reduceAdd, Nat.reduceEqDiff, inC, insV, fC, fnC, cutsV, h2']
        iterate 12 (try (refine run_sem 8 ?_; simp -implicitDefEqProofs (disch := omega) only [go_sem, ↓reduceIte, Nat.reduceEqDiff, and_true]))
  clear f1 f3
  obtain ⟨f1, f3, rfl⟩ := hJ
  refine sem_slots [(1, .ref (.agg (fC f)) 0), (3, .int .i64 ((i : Nat) : Int))] ⟨f1, f3, trivial⟩ ?_
  refine run_sem 8 ?_
  simp -implicitDefEqProofs (disch := omega) only [go_sem, ↓reduceIte, reduceCtorEq, Nat.reduceAdd, Nat.reduceEqDiff, Nat.zero_add, Nat.le_refl, inC, insV, fC, fnC, cutsV, V.cells, false_implies, and_true]
  refine callPS hT t_regions_Func_Return hR (hn _) 8 ?_
  cases hrt : ret f.code f.frame i with
  | false =>
    simp -implicitDefEqProofs (disch := omega) only [go_sem, ↓reduceIte, Nat.reduceEqDiff]
    iterate 9 (try (refine run_sem 8 ?_; simp -implicitDefEqProofs (disch := omega) only [go_sem, ↓reduceIte, Nat.reduceEqDiff, e2]))
    exact ⟨_, _, Shift.refl _ _ _ _, rfl, rfl, rfl⟩
  | true =>
    by_cases h0 : 0 < f.frame
    · have h0' : decide (0 < f.frame) = true := decide_eq_true h0
      obtain ⟨k, hk, y, hy, hyF⟩ := hb2 hrt (by omega)
      obtain rfl : i = k + 1 := by omega
      have hDy := ins_getD hy
      simp only [inC] at hDy
      have wk : IntKind.i64.wrap (((k + 1 : Nat) : Int) - 1) = ((k : Nat) : Int) := by rw [wself (by omega)]; omega
      have z' : (((k + 1 : Nat) : Int) == 0) = false := by rw [ibeq]; exact decide_eq_false (by omega)
      have z'' : ((((k + 1 : Nat) : Int)) = 0) = False := eq_false (by omega)
      have hlk : k < f.code.length := by omega
      have y' : (y.imm != f.frame) = false := by simp [hyF]
      simp -implicitDefEqProofs (disch := omega) only [go_sem, ↓reduceIte, Nat.reduceAdd, Nat.reduceEqDiff, Nat.reduceLeDiff, Nat.zero_add, decide_true, gt_iff_lt, V.cells, true_implies, and_true, gt_iff_lt, h0, z']
      iterate 9 (try (refine run_sem 8 ?_; simp -implicitDefEqProofs (disch := omega) only [go_sem, need_of, ↓reduceIte, Nat.reduceAdd, Nat.reduceEqDiff, Nat.reduceLeDiff, Nat.zero_add, Nat.le_refl, V.cells, List.length_map, true_implies, and_true, e2, wk, hDy, hlk, y']))
      exact ⟨_, _, Shift.refl _ _ _ _, rfl, rfl, rfl⟩
    · have h0' : decide (0 < f.frame) = false := decide_eq_false h0
      simp -implicitDefEqProofs (disch := omega) only [go_sem, ↓reduceIte, Nat.reduceAdd, Nat.reduceEqDiff, Nat.reduceLeDiff, Nat.zero_add, decide_false, gt_iff_lt, V.cells, true_implies, and_true, gt_iff_lt, h0]
      iterate 9 (try (refine run_sem 8 ?_; simp -implicitDefEqProofs (disch := omega) only [go_sem, ↓reduceIte, Nat.reduceEqDiff, e2]))
      exact ⟨_, _, Shift.refl _ _ _ _, rfl, rfl, rfl⟩
theorem c_let (hT : TabOk Tryz.prog tab) {m : Im} {f : Rg.Fn} (hf : FnOk m f) : Am.Pure Tryz.prog G0 n_proofmarklaw22_let [.agg (fC f)] fun v => v = .bool true := by
  have hnl : namelessL (fC f) = true := fn_nl
  have hl := hf.len
  intro t
  refine C_keep 0 (Nat.zero_le _) (C_tab hT t_proofmarklaw22_let (by simp [proofmarklaw22_let]) (W_run 5 ?_))
  simp -implicitDefEqProofs (disch := omega) only [go_sem, ↓reduceIte, reduceCtorEq, Nat.reduceEqDiff, proofmarklaw22_let, zq8_0, zq8_1, zq8_2, zq8_3, zq8_4, zq8_5, zq8_6, zq8_7, zq8_8, zq8_9, inC, insV, fC, fnC, cutsV, V.cells, and_true, List.nil_append]
  refine sem_shift (Shift.freeze (k := 0) (v := t) (T := 37) (cs := fC f) (Nat.zero_le _) rfl hnl) ?_
  simp only [fC, fnC, insV, cutsV, inC, frzFr_cons, frzFr_nil, frzL, frzV, mapFrom, List.set_cons_zero, Option.map_none]
  refine run_sem 12 ?_
  simp -implicitDefEqProofs (disch := omega) only [go_sem, ↓reduceIte, reduceCtorEq, Nat.reduceEqDiff, and_true]
  refine sem_for f.code (fun i fr σ => fget fr 1 = .ref (.agg (fC f)) 0 ∧ fget fr 3 = .int .i64 ((i : Nat) : Int) ∧ σ = ⟨t + 1, [none]⟩) (fun e _ _ => e = .ex 0) ?_ (fun i x hx fr σ hJ => let_round hT hf hx hJ) (fun i hi fr σ hJ => ?_) (fun e fr σ hE => ?_)
  · simp -implicitDefEqProofs (disch := omega) only [go_sem, ↓reduceIte, reduceCtorEq, Nat.reduceEqDiff, inC, insV, fC, fnC, cutsV, true_and, and_true]
    rfl
  · obtain ⟨f1, f3, rfl⟩ := hJ
    refine W_round [(1, .ref (.agg (fC f)) 0), (3, .int .i64 ((i : Nat) : Int))] ⟨f1, f3, trivial⟩  12 ?_
    simp -implicitDefEqProofs (disch := omega) only [go_sem, ↓reduceIte, Nat.reduceAdd, Nat.reduceEqDiff, Nat.reduceLeDiff, Nat.zero_add, decide_false, inC, insV, fC, fnC, cutsV, V.cells, List.length_map, true_implies, and_true, hi, Nat.lt_irrefl]
    exact rfl
  · subst hE
    refine run_sem 12 ?_
    simp -implicitDefEqProofs (disch := omega) only [go_sem, ↓reduceIte, Nat.zero_le, and_true]
end Go.Proofs.YtaidbdgndljaeaaGreatDoor
/- The law RegionsCuts: one step of a way. -/
namespace Go.Proofs.YtaidbdgndljaeaaGreatDoor
open Go Go.Am Go.Rv Go.Rg
set_option maxRecDepth 100000
def seenV (n : Nat) (l : List Int) : List V := (List.range n).map fun k : Nat => V.bool (decide ((k : Int) ∈ l))
theorem seenV_len (n : Nat) (l : List Int) : (seenV n l).length = n := by simp [seenV]
theorem seenV_get {n k : Nat} {l : List Int} (h : k < n) : (seenV n l).getD k V.any = .bool (decide ((k : Int) ∈ l)) := by
  simp [seenV, List.getD_eq_getElem?_getD, h]
theorem seenV_set {n k : Nat} {l : List Int} (h : k < n) : (seenV n l).set k (.bool true) = seenV n ((k : Int) :: l) := by
  apply List.ext_getElem?
  intro i
  by_cases hi : i < n
  · by_cases hik : i = k
    · subst hik
      rw [List.getElem?_set_self (by rw [seenV_len]; exact hi)]
      simp [seenV, hi]
    · rw [List.getElem?_set_ne (Ne.symm hik)]
      have : ((i : Int) = (k : Int)) = False := eq_false (by omega)
      simp [seenV, hi, this]
  · rw [List.getElem?_eq_none (by rw [List.length_set, seenV_len]; omega), List.getElem?_eq_none (by rw [seenV_len]; omega)]
theorem seenV_nil (n : Nat) : (List.replicate n [V.bool false]).flatten = seenV n [] := by
  apply List.ext_getElem?
  intro i
  have h1 : (List.replicate n [V.bool false]).flatten = List.replicate n (V.bool false) := by
    induction n with
    | zero => rfl
    | succ n ih => rw [List.replicate_succ, List.flatten_cons, ih, List.replicate_succ]; rfl
  rw [h1]
  by_cases hi : i < n
  · simp [seenV, hi]
  · simp [seenV, hi]
abbrev rcJ (f : Rg.Fn) (ws : List Int) (x5 x7 : V) : Nat → Fr → H → Prop := fun j fr σ => ∃ t k w o at_ l, Tr f.code f.frame at_ l ∧ 0 ≤ at_ ∧ at_ < f.code.length ∧ o[k]? = some (some (.arr w 4 (seenV f.code.length l))) ∧ fget fr 1 = .lst 1 (us ws) false ∧ fget fr 5 = x5 ∧ fget fr 7 = x7 ∧ fget fr 8 = .ref (.agg (fC f)) 0 ∧ fget fr 9 = .sl k w 0 1 f.code.length none ∧ fget fr 10 = .int .i64 at_ ∧ fget fr 11 = .int .i64 ((j : Nat) : Int) ∧ σ = ⟨t, o⟩
abbrev rcE (f : Rg.Fn) (ws : List Int) (x5 x7 : V) : AE → Fr → H → Prop := fun e fr _ => e = .ex 2 ∧ fget fr 1 = .lst 1 (us ws) false ∧ fget fr 5 = x5 ∧ fget fr 7 = x7 ∧ fget fr 8 = .ref (.agg (fC f)) 0
theorem rc_round (hT : TabOk Tryz.prog tab) {m : Im} {f : Rg.Fn} (hf : FnOk m f) {ws : List Int} (hws : ws.length ≤ 1000) (hwb : ∀ w ∈ ws, 0 ≤ w ∧ w ≤ 255) {x5 x7 : V} {j : Nat} {wj : Int} (hj : ws[j]? = some wj) {fr : Fr} {σ : H} (hJ : rcJ f ws x5 x7 j fr σ) :
    W Tryz.prog G0 107 0 (AC.seq (AC.seq (AC.reg zq0_14 [56, 57, 58])   (AC.cond (Arg.t 59)   AC.skip   (AC.exit 2)))   (AC.seq (AC.block 3 (AC.seq (AC.seq (AC.reg zq0_15 [62, 63, 64])   (AC.cond (Arg.t 65)   (AC.reg zq0_16 [66, 67, 68, 69])   AC.skip))   (AC.seq (AC.seq (AC.reg zq0_17 [70, 71, 72])   (AC.cond (Arg.t 73)   (AC.seq (AC.reg zq0_18 [])   AC.ret)   AC.skip))   (AC.seq (AC.reg zq0_19 [74, 75, 76])   (AC.seq (AC.reg zq0_20 [77, 78, 79])   (AC.seq (AC.seq (AC.reg zq0_21 [80, 81])   (AC.cond (Arg.t 82)   (AC.exit 2)   AC.skip))   (AC.seq (AC.reg zq0_22 [83, 84, 85, 86, 87, 88, 89, 90, 91, 92, 93])   (AC.seq (AC.reg zq0_23 [94, 95, 96, 97, 98, 99, 100, 101])   (AC.cond (Arg.t 102)   (AC.seq (AC.reg zq0_24 [])   AC.ret)   AC.skip)))))))))   (AC.reg zq0_25 [60, 61]))) fr σ (seqQ (fun fr σ => ∃ fr' σ', Shift G0 107 0 fr σ fr' σ' ∧ rcJ f ws x5 x7 (j + 1) fr' σ') (rcE f ws x5 x7)) := by
  obtain ⟨t, k, w, o, at_, l, hTr, ha0, ha1, ho, f1, f5, f7, f8, f9, f10, f11, rfl⟩ := hJ
  have hlt := (List.getElem?_eq_some_iff.1 hj).1
  have hl := hf.len
  have hfr := hf.fr
  have e2 := wnext hlt (by omega)
  obtain ⟨an, rfl⟩ : ∃ an : Nat, at_ = an := ⟨at_.toNat, by omega⟩
  have han : an < f.code.length := by omega
  have hDw : (ws.map (V.int .u8)).getD j V.any = .int .u8 wj := by simp [List.getD_eq_getElem?_getD, hj]
  have hH := c_has (P := Tryz.prog) (G := G0) hT f.cuts an (by
    rw [hf.cu]; unfold Rg.cuts; rw [List.length_map]
    have := List.length_filter_le (fun k : Nat => decide (1 < waysIn f.code f.frame f.code.length (k : Int))) (List.range f.code.length)
    rw [List.length_range] at this; omega)
  have hN := c_Next (G := G0) hT f.name f.pl f.frame f.code f.cuts an (by omega) hf.ok (by omega)
  have hn1 : namelessL [cutsV f.cuts, .int .i64 (an : Int)] = true := by simp [namelessL, nameless, cutsV]
  have hn2 : namelessL [.agg (fC f), .int .i64 (an : Int)] = true := by simp [namelessL, nameless, fC, fn_nl]
  have hnx := fun q hq => next_in (c := f.code) (F := f.frame) (i := (an : Int)) (k := q) hq
  have hn0 := hf.good.first an
  have hnl := next_len f.code f.frame an
  have hgo := fun l q (h : Tr f.code f.frame an l) (hc : (an : Int) ∉ Rg.cuts f.code f.frame ∨ l = []) (hq : q ∈ next f.code f.frame an) => Tr.go (k := q) h hc hq
  simp only [cutsV] at hH hn1
  simp only [fC, fnC, insV, cutsV, inC] at hN hn2
  have hl1 : ((f.code.length : Nat) : Int) * 1 ≤ 140737488355328 := by omega
  have hl2 : (0 ≤ (f.code.length : Int) ∧ (f.code.length : Int) ≤ f.code.length ∧ (f.code.length : Int) * ((1 : Nat) : Int) ≤ 140737488355328 ∧ (f.code.length : Int) ≤ 9223372036854775807 ∧ ones [V.bool false]) = True := eq_true ⟨by omega, by omega, by omega, by omega, by intro u hu; simp at hu; subst hu; rfl⟩
  refine W_round [(1, .lst 1 (us ws) false), (5, x5), (7, x7), (8, .ref (.agg (fC f)) 0), (9, .sl k w 0 1 f.code.length none), (10, .int .i64 ((an : Nat) : Int)), (11, .int .i64 ((j : Nat) : Int))] ⟨f1, f5, f7, f8, f9, f10, f11, trivial⟩  20 ?_
  simp -implicitDefEqProofs (disch := omega) only [go_sem, ↓reduceIte, Nat.reduceAdd, Nat.reduceEqDiff, Nat.zero_add, decide_true, Nat.le_refl, zq0_14, zq0_15, zq0_16, zq0_17, zq0_18, zq0_19, zq0_20, zq0_21, zq0_22, zq0_23, zq0_24, zq0_25, inC, insV, fC, fnC, cutsV, us, V.cells, List.length_map, true_implies, and_true, hlt]
  refine callPS hT t_proofmarklaw22_has hH hn1 1 ?_
  simp -implicitDefEqProofs (disch := omega) only [go_sem, ↓reduceIte, Nat.reduceEqDiff]
  refine sem_cut (fun fr σ => ∃ t k w o l, Tr f.code f.frame an l ∧ ((an : Int) ∉ Rg.cuts f.code f.frame ∨ l = []) ∧ (an : Int) ∉ l ∧ o[k]? = some (some (.arr w 4 (seenV f.code.length l))) ∧ fget fr 1 = .lst 1 (us ws) false ∧ fget fr 5 = x5 ∧ fget fr 7 = x7 ∧ fget fr 8 = .ref (.agg (fC f)) 0 ∧ fget fr 9 = .sl k w 0 1 f.code.length none ∧ fget fr 10 = .int .i64 ((an : Nat) : Int) ∧ fget fr 11 = .int .i64 ((j : Nat) : Int) ∧ σ = ⟨t, o⟩) ?_ fun fr σ hJ => ?_
  · refine W_run 12 ?_
    by_cases hc : (an : Int) ∈ f.cuts
    · rw [decide_eq_true hc]
      simp -implicitDefEqProofs (disch := omega) only [go_sem, need_of, ↓reduceIte, Nat.reduceAdd, Nat.reduceEqDiff, Nat.reduceLeDiff, Nat.zero_add, Nat.le_refl, inC, insV, fC, fnC, cutsV, us, V.cells, List.length_map, true_implies, true_and, and_true, Int.toNat_natCast, seenV_nil]
      exact ⟨t + 1, o.length, t, _, [], Tr.again (hf.cu ▸ hc), .inr rfl, by simp, List.getElem?_concat_length, rfl, rfl, rfl⟩
    · rw [decide_eq_false hc]
      simp -implicitDefEqProofs (disch := omega) only [go_sem, ↓reduceIte, Nat.reduceEqDiff, inC, insV, fC, fnC, cutsV, us, true_and]
      rw [hf.cu] at hc
      exact ⟨t, k, w, o, l, hTr, .inl hc, hTr.fresh hf.good.first hc, ho, rfl, rfl, rfl⟩
  clear f1 f5 f7 f8 f9 f10 f11 ho hTr
  obtain ⟨t, k, w, o, l, hTr, hcl, hno, ho, f1, f5, f7, f8, f9, f10, f11, rfl⟩ := hJ
  have hDs : (seenV f.code.length l).getD an V.any = .bool false := by rw [seenV_get han, decide_eq_false hno]
  have hset : List.take an (seenV f.code.length l) ++ [V.bool true] ++ List.drop (an + 1) (seenV f.code.length l) = seenV f.code.length (an :: l) := by
    rw [← seenV_set han, List.set_eq_take_append_cons_drop, if_pos (by rw [seenV_len]; exact han)]; simp
  have hkl := (List.getElem?_eq_some_iff.1 ho).1
  have hoS : ∀ X, (o.set k X)[k]? = some X := fun X => List.getElem?_set_self hkl
  have han' : ((an : Int) < (f.code.length : Int)) = True := eq_true (by omega)
  refine sem_slots [(1, .lst 1 (us ws) false), (5, x5), (7, x7), (8, .ref (.agg (fC f)) 0), (9, .sl k w 0 1 f.code.length none), (10, .int .i64 ((an : Nat) : Int)), (11, .int .i64 ((j : Nat) : Int))] ⟨f1, f5, f7, f8, f9, f10, f11, trivial⟩ ?_
  refine run_sem 30 ?_
  simp -implicitDefEqProofs (disch := omega) only [go_sem, need_of, ↓reduceIte, reduceCtorEq, Nat.reduceAdd, Nat.reduceEqDiff, Nat.zero_add, Nat.mul_one, Bool.not_false, Nat.le_refl, Nat.zero_le, inC, insV, fC, fnC, cutsV, us, V.cells, seenV_len, false_implies, true_implies, true_and, and_true, Bool.not_false, ho, hDs, han, hset]
  refine callPS hT t_regions_Func_Next hN hn2 4 ?_
  simp -implicitDefEqProofs (disch := omega) only [go_sem, ↓reduceIte, Nat.reduceEqDiff]
  have hwj := hwb wj (List.mem_of_getElem? hj)
  have wc : IntKind.i64.wrap wj = wj := wself (by omega)
  have hgo' := hgo l
  generalize hL : next f.code f.frame an = L at *
  by_cases hz : L.length = 0
  · have hz' : ((L.length : Int) == 0) = true := by simp [hz]
    have hz'' : ((L.length : Int) = 0) = True := eq_true (by omega)
    iterate 4 (try (refine run_sem 8 ?_; simp -implicitDefEqProofs (disch := omega) only [go_sem, ↓reduceIte, Nat.reduceEqDiff, ints_length, hz']))
    exact ⟨rfl, rfl, rfl, rfl, rfl⟩
  · have hz' : ((L.length : Int) == 0) = false := by simp [hz]
    have hz'' : ((L.length : Int) = 0) = False := eq_false (by omega)
    have hzn : (¬ ((L.length : Int) = 0)) = True := eq_true (by omega)
    have hmod : wj.tmod (L.length : Int) = ((wj.toNat % L.length : Nat) : Int) := by
      rw [Int.tmod_eq_emod_of_nonneg hwj.1]
      obtain ⟨wn, hwn⟩ : ∃ wn : Nat, wj = wn := ⟨wj.toNat, by omega⟩
      rw [hwn]; rfl
    have hrl : wj.toNat % L.length < L.length := Nat.mod_lt _ (by omega)
    obtain ⟨q, hq⟩ : ∃ q, L[wj.toNat % L.length]? = some q := ⟨_, List.getElem?_eq_getElem hrl⟩
    have hDq := ints_getD hq
    have hqm := List.mem_of_getElem? hq
    obtain ⟨q0, q1⟩ := hnx q hqm
    have hq0 : q ≠ 0 := fun e => hn0 (e ▸ hqm)
    have hT2 := hgo' q hTr hcl hqm
    have p1 : decide (q < 1) = false := decide_eq_false (by omega)
    have p1' : (q < 1) = False := eq_false (by omega)
    have p2 : decide ((f.code.length : Int) ≤ q) = false := decide_eq_false (by omega)
    have p2' : ((f.code.length : Int) ≤ q) = False := eq_false (by omega)
    have hlt' : ((j : Int) < (ws.length : Int)) = True := eq_true (by omega)
    iterate 8 (try (refine run_sem 8 ?_; simp -implicitDefEqProofs (disch := omega) only [go_sem, need_of, ↓reduceIte, Nat.reduceAdd, Nat.reduceEqDiff, Nat.reduceLeDiff, Nat.zero_add, decide_false, Nat.le_refl, ge_iff_le, V.cells, List.length_map, ints_length, true_implies, and_true, ge_iff_le, hz', hzn, hmod, hrl, hDq, hDw, hlt, wc, p1', p2', e2]))
    refine ⟨_, _, Shift.refl _ _ _ _, t, k, w, o.set k (some (.arr w 4 (seenV f.code.length (an :: l)))), q, an :: l, hT2, by omega, q1, hoS _, ?_⟩
    simp -implicitDefEqProofs (disch := omega) only [go_sem, ↓reduceIte, Nat.reduceEqDiff, inC, insV, fC, fnC, cutsV, us, and_true]
    try simp
end Go.Proofs.YtaidbdgndljaeaaGreatDoor
/- The law RegionsCuts. -/
namespace Go.Proofs.YtaidbdgndljaeaaGreatDoor
open Go Go.Am Go.Rv Go.Rg
set_option maxRecDepth 100000
theorem frameOf_b (x : In) : 0 ≤ frameOf x ∧ frameOf x ≤ 1984 := by
  unfold frameOf; split <;> omega
theorem fnOk_of {m : Im} {r : List Rg.Fn} (h : ofS m = .inl r) (hw : ∀ w ∈ m.code, 0 ≤ w ∧ w < 4294967296) (hl : m.code.length ≤ 1000) {n : Nat} {f : Rg.Fn} (hn : r[n]? = some f) : FnOk m f ∧ 0 < f.code.length := by
  obtain ⟨hr, hlen, hg⟩ := ofS_good h
  obtain ⟨s, hs, rfl, hgd⟩ := hg n f hn
  obtain ⟨a, b, _, _, hab, hbl, es, ew⟩ := (right_rt hr).bounds hs
  have hwl : (words m n).length = b - a := by rw [ew]; simp; omega
  have hcl : (codeOf (words m n)).length = b - a := by simp [codeOf, hwl]
  have hwb : ∀ w ∈ words m n, 0 ≤ w ∧ w < 4294967296 := fun w h => by
    rw [ew] at h
    exact hw w (List.mem_of_mem_drop (List.mem_of_mem_take h))
  refine ⟨⟨hgd.1, fun x hx => ?_, by show (codeOf (words m n)).length ≤ _; omega, rfl, frameOf_b _⟩, by show 0 < (codeOf (words m n)).length; omega⟩
  obtain ⟨w, hw, rfl⟩ := List.mem_map.1 hx
  cases hd : dec w with
  | none => simp [InOk, zeroI, i64]
  | some y =>
    obtain ⟨d1, d2⟩ := dec_le (hwb w hw).1 hd
    exact ⟨d1.1, d1.2.1, d1.2.2.1, d1.2.2.2, by show i64 y.imm; unfold i64; omega⟩
theorem rn_round (hT : TabOk Tryz.prog tab) {m : Im} {r : List Rg.Fn} (hr : ∀ (n : Nat) (f : Rg.Fn), r[n]? = some f → FnOk m f ∧ 0 < f.code.length) (hrl : r.length ≤ 1000) {ws : List Int} (hws : ws.length ≤ 1000) (hwb : ∀ w ∈ ws, 0 ≤ w ∧ w ≤ 255) {n : Nat} {f : Rg.Fn} (hn : r[n]? = some f) {fr : Fr} {σ : H} (hJ : ∃ t o, fget fr 1 = .lst 1 (us ws) false ∧ fget fr 5 = .lst 5 (r.map fun f => V.agg (fC f)) false ∧ fget fr 7 = .int .i64 ((n : Nat) : Int) ∧ σ = ⟨t, o⟩) :
    W Tryz.prog G0 107 0 (AC.seq (AC.seq (AC.reg zq0_7 [38, 39, 40])   (AC.cond (Arg.t 41)   AC.skip   (AC.exit 0)))   (AC.seq (AC.block 1 (AC.seq (AC.reg zq0_8 [44, 45, 46, 47])   (AC.seq (AC.seq (AC.reg zq0_9 [48, 49, 50])   (AC.cond (Arg.t 51)   (AC.seq (AC.reg zq0_10 [])   AC.ret)   AC.skip))   (AC.seq (AC.reg zq0_11 [52, 53, 54, 55])   (AC.seq (AC.reg zq0_12 [])   (AC.seq (AC.seq (AC.reg zq0_13 [])   (AC.block 2 (AC.loop (AC.seq (AC.seq (AC.reg zq0_14 [56, 57, 58])   (AC.cond (Arg.t 59)   AC.skip   (AC.exit 2)))   (AC.seq (AC.block 3 (AC.seq (AC.seq (AC.reg zq0_15 [62, 63, 64])   (AC.cond (Arg.t 65)   (AC.reg zq0_16 [66, 67, 68, 69])   AC.skip))   (AC.seq (AC.seq (AC.reg zq0_17 [70, 71, 72])   (AC.cond (Arg.t 73)   (AC.seq (AC.reg zq0_18 [])   AC.ret)   AC.skip))   (AC.seq (AC.reg zq0_19 [74, 75, 76])   (AC.seq (AC.reg zq0_20 [77, 78, 79])   (AC.seq (AC.seq (AC.reg zq0_21 [80, 81])   (AC.cond (Arg.t 82)   (AC.exit 2)   AC.skip))   (AC.seq (AC.reg zq0_22 [83, 84, 85, 86, 87, 88, 89, 90, 91, 92, 93])   (AC.seq (AC.reg zq0_23 [94, 95, 96, 97, 98, 99, 100, 101])   (AC.cond (Arg.t 102)   (AC.seq (AC.reg zq0_24 [])   AC.ret)   AC.skip)))))))))   (AC.reg zq0_25 [60, 61]))))))   (AC.seq (AC.reg zq0_26 [103, 104])   (AC.cond (Arg.t 105)   (AC.seq (AC.reg zq0_27 [])   AC.ret)   AC.skip))))))))   (AC.reg zq0_28 [42, 43]))) fr σ (seqQ (fun fr σ => ∃ fr' σ', Shift G0 107 0 fr σ fr' σ' ∧ ∃ t o, fget fr' 1 = .lst 1 (us ws) false ∧ fget fr' 5 = .lst 5 (r.map fun f => V.agg (fC f)) false ∧ fget fr' 7 = .int .i64 ((n + 1 : Nat) : Int) ∧ σ' = ⟨t, o⟩) (fun e _ _ => e = .ex 0)) := by
  obtain ⟨t, o, f1, f5, f7, rfl⟩ := hJ
  have hlt := (List.getElem?_eq_some_iff.1 hn).1
  have e2 := wnext hlt (by omega)
  obtain ⟨hf, h0⟩ := hr n f hn
  have hl := hf.len
  have hD : (r.map fun f => V.agg (fC f)).getD n V.any = .agg [.str f.name, .int .i64 f.pl, .lst 5 (f.code.map fun x => V.agg [.int .u8 x.op, .int .u8 x.rd, .int .u8 x.rs1, .int .u8 x.rs2, .int .i64 x.imm]) false, .int .i64 f.frame, .lst 1 (ints f.cuts) false] := by simp [List.getD_eq_getElem?_getD, hn]; rfl
  have hnl : namelessL (fC f) = true := fn_nl
  have hcat : ∀ X : Option Ob, (o ++ [X])[o.length]? = some X := fun X => List.getElem?_concat_length
  have hset : ∀ X Y : Option Ob, (o ++ [X]).set o.length Y = o ++ [Y] := fun X Y => set_snoc o X Y
  refine W_round [(1, .lst 1 (us ws) false), (5, .lst 5 (r.map fun f => V.agg (fC f)) false), (7, .int .i64 ((n : Nat) : Int))] ⟨f1, f5, f7, trivial⟩  21 ?_
  simp -implicitDefEqProofs (disch := omega) only [go_sem, need_of, ↓reduceIte, reduceCtorEq, Nat.reduceAdd, Nat.reduceEqDiff, Nat.zero_add, decide_true, Bool.not_false, Nat.le_refl, Nat.zero_le, zq0_7, zq0_8, zq0_9, zq0_10, zq0_11, zq0_12, zq0_13, zq0_14, zq0_15, zq0_16, zq0_17, zq0_18, zq0_19, zq0_20, zq0_21, zq0_22, zq0_23, zq0_24, zq0_25, zq0_26, zq0_27, zq0_28, hlt, hD, hcat, hset, V.cells, List.length_map, List.cons_append, List.nil_append]
  refine sem_shift (Shift.freeze (k := o.length) (v := t) (T := 37) (cs := fC f) (Nat.zero_le _) (hcat _) hnl) ?_
  simp only [fC, fnC, insV, cutsV, inC, frzFr_cons, frzFr_nil, frzV, and_self, if_true, reduceCtorEq, if_false]
  generalize mapFrom _ _ _ = o'
  have hz' : ((f.code.length : Int) == 0) = false := by rw [ibeq]; exact decide_eq_false (by omega)
  have hz'' : ((f.code.length : Int) = 0) = False := eq_false (by omega)
  have hl2 : (0 ≤ (f.code.length : Int) ∧ (f.code.length : Int) ≤ f.code.length ∧ (f.code.length : Int) * ((1 : Nat) : Int) ≤ 140737488355328 ∧ (f.code.length : Int) ≤ 9223372036854775807 ∧ ones [V.bool false]) = True := eq_true ⟨by omega, by omega, by omega, by omega, by intro u hu; simp at hu; subst hu; rfl⟩
  have hL := c_let hT hf
  simp only [fC, fnC, insV, cutsV, inC] at hL
  refine run_sem 40 ?_
  simp -implicitDefEqProofs (disch := omega) only [go_sem, need_of, ↓reduceIte, Nat.reduceAdd, Nat.reduceEqDiff, Nat.reduceLeDiff, Nat.zero_add, Nat.le_refl, us, V.cells, List.length_map, true_implies, true_and, and_true, hz', Int.toNat_natCast, seenV_nil, H.push]
  refine sem_for ws (rcJ f ws (.lst 5 (r.map fun f => V.agg (fC f)) false) (.int .i64 ((n : Nat) : Int))) (rcE f ws (.lst 5 (r.map fun f => V.agg (fC f)) false) (.int .i64 ((n : Nat) : Int))) ⟨t + 1 + 1, o'.length, t + 1, _, 0, [], Tr.first, by omega, by omega, List.getElem?_concat_length, ?_⟩ (fun j w hj fr σ hJ => rc_round hT hf hws hwb hj hJ) (fun j hj fr σ hJ => ?_) (fun e fr σ hE => ?_)
  · simp -implicitDefEqProofs (disch := omega) only [go_sem, ↓reduceIte, Nat.reduceEqDiff, inC, insV, fC, fnC, cutsV, us, true_and, and_true]
    rfl
  · obtain ⟨t2, k, w, o2, at_, l, hTr, ha0, ha1, ho, f1, f5, f7, f8, f9, f10, f11, rfl⟩ := hJ
    refine W_round [(1, .lst 1 (us ws) false), (5, .lst 5 (r.map fun f => V.agg (fC f)) false), (7, .int .i64 ((n : Nat) : Int)), (8, .ref (.agg (fC f)) 0), (11, .int .i64 ((j : Nat) : Int))] ⟨f1, f5, f7, f8, f11, trivial⟩  20 ?_
    simp -implicitDefEqProofs (disch := omega) only [go_sem, ↓reduceIte, Nat.reduceEqDiff, decide_false, inC, insV, fC, fnC, cutsV, us, List.length_map, hj, Nat.lt_irrefl]
    exact ⟨rfl, rfl, rfl, rfl, rfl⟩
  · obtain ⟨rfl, f1, f5, f7, f8⟩ := hE
    obtain ⟨t3, o3⟩ := σ
    refine sem_exit [(1, .lst 1 (us ws) false), (5, .lst 5 (r.map fun f => V.agg (fC f)) false), (7, .int .i64 ((n : Nat) : Int)), (8, .ref (.agg (fC f)) 0)] ⟨f1, f5, f7, f8, trivial⟩ 20 ?_
    simp -implicitDefEqProofs (disch := omega) only [go_sem, ↓reduceIte, reduceCtorEq, Nat.reduceAdd, Nat.reduceEqDiff, Nat.zero_add, Nat.le_refl, inC, insV, fC, fnC, cutsV, us, V.cells, false_implies, and_true]
    refine callPS hT t_proofmarklaw22_let hL (by simp [namelessL, nameless]) 20 ?_
    simp -implicitDefEqProofs (disch := omega) only [go_sem, ↓reduceIte, Nat.reduceEqDiff, Bool.not_true, Bool.not_true, e2]
    exact ⟨_, _, Shift.refl _ _ _ _, t3, o3, rfl, rfl, rfl, rfl⟩
theorem c_RegionsCuts (hT : TabOk Tryz.prog tab) (m : Im) (ws : List Int) (hsn : ∀ s ∈ m.syms, s.1.length ≤ 9223372036854775807) (hw : ∀ w ∈ m.code, 0 ≤ w ∧ w < 4294967296) (hwb : ∀ w ∈ ws, 0 ≤ w ∧ w ≤ 255) :
    Am.Pure Tryz.prog G0 n_proofmarklaw22_RegionsCuts [imgV m, .lst 1 (us ws) false] fun v => v = .bool true := by
  have hWk := c_works hT
  have hin := img_nl m
  intro t
  refine C_keep 0 (Nat.zero_le _) (C_tab hT t_proofmarklaw22_RegionsCuts (by simp [proofmarklaw22_RegionsCuts]) (W_run 5 ?_))
  simp -implicitDefEqProofs (disch := omega) only [go_sem, ↓reduceIte, reduceCtorEq, Nat.reduceEqDiff, Nat.zero_add, proofmarklaw22_RegionsCuts, zq0_0, zq0_1, zq0_2, zq0_3, zq0_4, zq0_5, zq0_6, zq0_7, zq0_8, zq0_9, zq0_10, zq0_11, zq0_12, zq0_13, zq0_14, zq0_15, zq0_16, zq0_17, zq0_18, zq0_19, zq0_20, zq0_21, zq0_22, zq0_23, zq0_24, zq0_25, zq0_26, zq0_27, zq0_28, zq0_29, us, V.cells, and_true, List.nil_append, imgV, imgC, symsV, codeV]
  refine sem_shift (Shift.freeze (k := 0) (v := t) (T := 25) (cs := imgC m) (Nat.zero_le _) rfl (imgC_nl m)) ?_
  simp only [imgC, symsV, codeV, frzFr_cons, frzFr_nil, frzL, frzV, mapFrom, List.set_cons_zero, Option.map_none]
  refine run_sem 8 ?_
  by_cases g1 : 150 < m.code.length
  · have g1' : decide ((150 : Int) < (m.code.length : Int)) = true := decide_eq_true (by omega)
    have g1'' : ((150 : Int) < (m.code.length : Int)) = True := eq_true (by omega)
    simp -implicitDefEqProofs (disch := omega) only [go_sem, ↓reduceIte, reduceCtorEq, Nat.reduceAdd, Nat.reduceEqDiff, Nat.zero_add, decide_true, Nat.le_refl, gt_iff_lt, V.cells, List.length_map, true_implies, and_true, gt_iff_lt, g1'']
    iterate 6 (try (refine run_sem 8 ?_; simp -implicitDefEqProofs (disch := omega) only [go_sem, ↓reduceIte, reduceCtorEq, Nat.reduceEqDiff]))
    refine callPS hT t_proofmarklaw22_works hWk rfl 8 ?_
    simp -implicitDefEqProofs (disch := omega) only [go_sem, ↓reduceIte, reduceCtorEq, Nat.reduceEqDiff, Nat.zero_add, Nat.zero_le, and_true]
  have g1' : decide ((150 : Int) < (m.code.length : Int)) = false := decide_eq_false (by omega)
  have g1'' : ((150 : Int) < (m.code.length : Int)) = False := eq_false (by omega)
  by_cases g2 : 20 < m.syms.length
  · have g2' : decide ((20 : Int) < (m.syms.length : Int)) = true := decide_eq_true (by omega)
    have g2'' : ((20 : Int) < (m.syms.length : Int)) = True := eq_true (by omega)
    simp -implicitDefEqProofs (disch := omega) only [go_sem, ↓reduceIte, reduceCtorEq, Nat.reduceAdd, Nat.reduceEqDiff, Nat.zero_add, decide_false, Nat.le_refl, gt_iff_lt, V.cells, List.length_map, true_implies, and_true, gt_iff_lt, g1'']
    iterate 6 (try (refine run_sem 8 ?_; simp -implicitDefEqProofs (disch := omega) only [go_sem, ↓reduceIte, reduceCtorEq, Nat.reduceAdd, Nat.reduceEqDiff, Nat.reduceLeDiff, Nat.zero_add, decide_true, gt_iff_lt, V.cells, List.length_map, true_implies, and_true, gt_iff_lt, g2'']))
    refine callPS hT t_proofmarklaw22_works hWk rfl 8 ?_
    simp -implicitDefEqProofs (disch := omega) only [go_sem, ↓reduceIte, reduceCtorEq, Nat.reduceEqDiff, Nat.zero_add, Nat.zero_le, and_true]
  have g2' : decide ((20 : Int) < (m.syms.length : Int)) = false := decide_eq_false (by omega)
  have g2'' : ((20 : Int) < (m.syms.length : Int)) = False := eq_false (by omega)
  by_cases g3 : 200 < ws.length
  · have g3' : decide ((200 : Int) < (ws.length : Int)) = true := decide_eq_true (by omega)
    have g3'' : ((200 : Int) < (ws.length : Int)) = True := eq_true (by omega)
    simp -implicitDefEqProofs (disch := omega) only [go_sem, ↓reduceIte, reduceCtorEq, Nat.reduceAdd, Nat.reduceEqDiff, Nat.zero_add, decide_false, Nat.le_refl, gt_iff_lt, V.cells, List.length_map, true_implies, and_true, gt_iff_lt, g1'']
    iterate 6 (try (refine run_sem 8 ?_; simp -implicitDefEqProofs (disch := omega) only [go_sem, ↓reduceIte, reduceCtorEq, Nat.reduceAdd, Nat.reduceEqDiff, Nat.reduceLeDiff, Nat.zero_add, decide_true, decide_false, gt_iff_lt, V.cells, List.length_map, true_implies, and_true, gt_iff_lt, g2'', g3'']))
    refine callPS hT t_proofmarklaw22_works hWk rfl 8 ?_
    simp -implicitDefEqProofs (disch := omega) only [go_sem, ↓reduceIte, reduceCtorEq, Nat.reduceEqDiff, Nat.zero_add, Nat.zero_le, and_true]
  have g3' : decide ((200 : Int) < (ws.length : Int)) = false := decide_eq_false (by omega)
  have g3'' : ((200 : Int) < (ws.length : Int)) = False := eq_false (by omega)
  have hO := c_Of hT m ⟨by omega, by omega, hsn⟩ hw (by omega)
  simp only [imgV, imgC, symsV, codeV] at hO hin
  simp -implicitDefEqProofs (disch := omega) only [go_sem, ↓reduceIte, reduceCtorEq, Nat.reduceAdd, Nat.reduceEqDiff, Nat.zero_add, decide_false, Nat.le_refl, gt_iff_lt, V.cells, List.length_map, true_implies, and_true, gt_iff_lt, g1'']
  iterate 6 (try (refine run_sem 8 ?_; simp -implicitDefEqProofs (disch := omega) only [go_sem, ↓reduceIte, reduceCtorEq, Nat.reduceAdd, Nat.reduceEqDiff, Nat.reduceLeDiff, Nat.zero_add, decide_false, Nat.le_refl, gt_iff_lt, V.cells, List.length_map, false_implies, true_implies, and_true, gt_iff_lt, g2'', g3'']))
  refine callPS hT t_regions_Of hO hin 8 ?_
  cases hr : ofS m with
  | inr e =>
    obtain ⟨a, b, e⟩ := e
    have hne : e ≠ 0 := by
      unfold ofS at hr
      split at hr
      · exact readAll_ne hr
      · simp only [Sum.inr.injEq, Prod.mk.injEq] at hr; omega
    have hne' : (e != 0) = true := by simp [hne]
    simp only [ofV, funsV, List.map_nil]
    simp -implicitDefEqProofs (disch := omega) only [go_sem, ↓reduceIte, reduceCtorEq, Nat.reduceAdd, Nat.reduceEqDiff, Nat.reduceLT, Nat.zero_add, Bool.not_false, Nat.le_refl, Nat.zero_le, V.cells, and_true, Bool.not_false, List.cons_append, List.nil_append, flt]
    iterate 4 (try (refine run_sem 8 ?_; simp -implicitDefEqProofs (disch := omega) only [go_sem, ↓reduceIte, reduceCtorEq, Nat.reduceAdd, Nat.reduceEqDiff, Nat.zero_add, Nat.le_refl, true_implies, and_true, hne']))
    refine callPS hT t_proofmarklaw22_works hWk rfl 8 ?_
    simp -implicitDefEqProofs (disch := omega) only [go_sem, ↓reduceIte, reduceCtorEq, Nat.reduceAdd, Nat.reduceEqDiff, Nat.zero_add, Nat.zero_le, and_true]
  | inl r =>
    have hlen := (ofS_good hr).2.1
    simp only [ofV, funsV]
    simp -implicitDefEqProofs (disch := omega) only [go_sem, ↓reduceIte, reduceCtorEq, Nat.reduceAdd, Nat.reduceEqDiff, Nat.reduceLT, Nat.zero_add, Bool.not_false, Nat.le_refl, Nat.zero_le, inC, insV, fC, fnC, cutsV, V.cells, and_true, Bool.not_false, List.cons_append, List.nil_append, flt]
    iterate 4 (try (refine run_sem 8 ?_; simp -implicitDefEqProofs (disch := omega) only [go_sem, ↓reduceIte, reduceCtorEq, Nat.reduceAdd, Nat.reduceEqDiff, Nat.zero_add, Nat.le_refl, bne_self_eq_false, true_implies, and_true]))
    refine sem_for r (fun n fr σ => ∃ t o, fget fr 1 = .lst 1 (us ws) false ∧ fget fr 5 = .lst 5 (r.map fun f => V.agg (fC f)) false ∧ fget fr 7 = .int .i64 ((n : Nat) : Int) ∧ σ = ⟨t, o⟩) (fun e _ _ => e = .ex 0) (by exact ⟨_, _, rfl, rfl, rfl, rfl⟩) (fun n f hn fr σ hJ => rn_round hT (fun n f hn => fnOk_of hr hw (by omega) hn) (by omega) (by omega) hwb hn hJ) (fun n hn fr σ hJ => ?_) (fun e fr σ hE => ?_)
    · obtain ⟨t2, o, f1, f5, f7, rfl⟩ := hJ
      refine W_round [(1, .lst 1 (us ws) false), (5, .lst 5 (r.map fun f => V.agg (fC f)) false), (7, .int .i64 ((n : Nat) : Int))] ⟨f1, f5, f7, trivial⟩  12 ?_
      simp -implicitDefEqProofs (disch := omega) only [go_sem, ↓reduceIte, Nat.reduceEqDiff, decide_false, inC, insV, fC, fnC, cutsV, us, List.length_map, hn, Nat.lt_irrefl]
    · subst hE
      refine run_sem 8 ?_
      simp -implicitDefEqProofs (disch := omega) only [go_sem, ↓reduceIte]
      refine callPS hT t_proofmarklaw22_works hWk rfl 8 ?_
      simp -implicitDefEqProofs (disch := omega) only [go_sem, ↓reduceIte, Nat.reduceEqDiff, Nat.zero_le, and_true]
end Go.Proofs.YtaidbdgndljaeaaGreatDoor
