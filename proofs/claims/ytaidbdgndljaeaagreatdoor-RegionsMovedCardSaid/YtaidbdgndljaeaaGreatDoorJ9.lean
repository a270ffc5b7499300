/- One function's code; the examples. -/
import Derived.Test.YtaidbdgndljaeaaGreatDoorJ8
/- One function's code; the examples. -/
namespace Go.Proofs.YtaidbdgndljaeaaGreatDoor
open Go Go.Am Go.Rv Go.Rg
set_option maxRecDepth 100000
theorem imgS1 (l : List In) : imgS [l] 0 = ⟨0, [(nameAt 0, 0)], encs l⟩ := imgS_one l 0
theorem img1_B {l : List In} (hl : l.length ≤ 1000) : ImB (imgS [l] 0) := by
  rw [imgS1]
  exact ⟨by simp, by have := encs_le l; simp; omega, by simp [nameAt]⟩
theorem enc_b {l : List In} (hok : ∀ x ∈ l, InOk x) : ∀ w ∈ encs l, 0 ≤ w ∧ w < 4294967296 := fun w hw => by
  obtain ⟨x, hx, he⟩ := enc_u w hw
  have := hok x hx
  obtain ⟨h1, h2, _⟩ := dec_enc he this.2.1.1 this.2.2.1.1 this.2.2.2.1.1
  exact ⟨h1, h2⟩
theorem wk_no2 {a b c : Int} : Wk (.tup [.agg zF, .agg (flt a b c)]) (.tup [.agg (fnC [] 0 [] 0 []), .agg (flt a b c)]) := .tup _ _ (.cons _ _ _ _ wk_zF (.cons _ _ _ _ (.refl _) .nil))
theorem c_of0 (hT : TabOk Tryz.prog tab) (l : List In) (hl : l.length ≤ 1000) (hok : ∀ x ∈ l, InOk x) : Am.Pure Tryz.prog G0 n_proofmarklaw22_of [insV l] fun v => Wk v (onV (ofS (imgS [l] 0))) := by
  intro t
  have hI := Pure.args (.cons _ _ _ _ (.lst 1 1 _ _ true (WkL.refl _) (.inr rfl)) (.cons _ _ _ _ (.refl _) .nil)) (c_Image (ls := [l]) (d := 0) hT (by simp) (by simpa using hl) (by simpa using hok))
  have hO := c_Of hT (imgS [l] 0) (img1_B hl) (by rw [imgS1]; exact enc_b hok) (by rw [imgS1]; have := encs_le l; simp; omega)
  have hin := img_nl (imgS [l] 0)
  generalize imgS [l] 0 = m at *
  simp only [insV, inC, List.map_cons, List.map_nil, imgV, imgC, symsV, codeV] at hI hO hin
  have h01 : (((0 : Nat) : Int) = 1) = False := eq_false (by decide)
  have h11 : (((1 : Nat) : Int) = 1) = True := eq_true (by decide)
  have l01 : ((0 : Int) < ((1 : Nat) : Int)) = True := eq_true (by decide)
  refine C_keep 0 (Nat.zero_le _) (C_tab hT t_proofmarklaw22_of (by simp [proofmarklaw22_of]) (W_run 20 ?_))
  simp -implicitDefEqProofs (disch := omega) only [go_sem, ↓reduceIte, reduceCtorEq, Nat.reduceEqDiff, Nat.zero_add, Nat.le_refl, proofmarklaw22_of, zqi_0, zqi_1, zqi_2, zqi_3, zqi_4, inC, insV, V.cells, and_true, List.cons_append, List.nil_append]
  refine callPS hT t_proofmarkkit_Image hI (by simp [namelessL, nameless]) 20 ?_
  simp -implicitDefEqProofs (disch := omega) only [go_sem, ↓reduceIte, reduceCtorEq, Nat.reduceEqDiff]
  refine callPS hT t_regions_Of hO hin 30 ?_
  cases hr : ofS m with
  | inr e =>
    simp only [ofV, funsV, onV, List.map_nil]
    simp -implicitDefEqProofs (disch := omega) only [go_sem, ↓reduceIte, reduceCtorEq, Nat.reduceAdd, Nat.reduceEqDiff, Nat.reduceLT, Int.reduceToNat, Int.reduceLE, Nat.zero_add, Bool.not_false, Nat.le_refl, Nat.zero_le, inC, insV, fnC, cutsV, flt, V.cells, false_implies, true_implies, true_and, and_true, not_false_eq_true, Bool.not_false, List.cons_append, List.nil_append, List.length_nil, h01]
    exact wk_no2
  | inl r =>
    cases r with
    | nil =>
      simp only [ofV, funsV, onV, List.map_nil]
      simp -implicitDefEqProofs (disch := omega) only [go_sem, ↓reduceIte, reduceCtorEq, Nat.reduceAdd, Nat.reduceEqDiff, Nat.reduceLT, Int.reduceToNat, Int.reduceLE, Nat.zero_add, Bool.not_false, Nat.le_refl, Nat.zero_le, inC, insV, fnC, cutsV, flt, V.cells, false_implies, true_implies, true_and, and_true, not_false_eq_true, Bool.not_false, List.cons_append, List.nil_append, List.length_nil, h01]
      exact wk_no2
    | cons f r =>
      cases r with
      | nil =>
        simp only [ofV, funsV, onV, List.map_nil, List.map_cons]
        simp -implicitDefEqProofs (disch := omega) only [go_sem, ↓reduceIte, reduceCtorEq, Nat.reduceAdd, Nat.reduceEqDiff, Nat.reduceLT, Int.reduceToNat, Int.reduceLE, Nat.zero_add, Bool.not_false, Nat.le_refl, Nat.zero_le, inC, insV, fC, fnC, cutsV, flt, V.cells, false_implies, true_implies, true_and, and_true, not_true_eq_false, Bool.not_false, List.cons_append, List.nil_append, List.length_nil, List.length_cons, h11]
        exact .refl _
      | cons g r =>
        simp only [ofV, funsV, onV, List.map_cons]
        have hk : (((r.length + 1 + 1 : Nat) : Int) = 1) = False := eq_false (by omega)
        simp -implicitDefEqProofs (disch := omega) only [go_sem, ↓reduceIte, reduceCtorEq, Nat.reduceAdd, Nat.reduceEqDiff, Nat.reduceLT, Int.reduceToNat, Int.reduceLE, Nat.zero_add, Bool.not_false, Nat.le_refl, Nat.zero_le, inC, insV, fC, fnC, cutsV, flt, V.cells, List.length_map, false_implies, true_implies, true_and, and_true, not_false_eq_true, Bool.not_false, List.cons_append, List.nil_append, List.length_nil, List.length_cons, hk]
        exact wk_no2
theorem c_ofL (hT : TabOk Tryz.prog tab) (l : List In) (hl : l.length ≤ 1000) (hok : ∀ x ∈ l, InOk x) : Am.Pure Tryz.prog G0 n_proofmarklaw22_of [insV l] fun v => v = onV (ofS (imgS [l] 0)) := fun t =>
  C_res (c_of0 hT l hl hok t) fun v σ ⟨_, h⟩ => ⟨_, h, onV_nl _, rfl⟩
end Go.Proofs.YtaidbdgndljaeaaGreatDoor
/- The kit's question of two rows of numbers. -/
namespace Go.Proofs.YtaidbdgndljaeaaGreatDoor
open Go Go.Am Go.Rv Go.Rg
set_option maxRecDepth 100000
variable {P : Program} {G : Nat → Option V}
abbrev siJ (t : Nat) (a b : List Int) : Nat → Fr → H → Prop := fun m fr σ => ∃ i, i ≤ a.length ∧ m = a.length - i ∧ a.take i = b.take i ∧ fget fr 0 = .lst 1 (ints a) false ∧ fget fr 1 = .lst 1 (ints b) false ∧ fget fr 5 = .int .i64 ((i : Nat) : Int) ∧ σ = ⟨t, []⟩
abbrev siE (t : Nat) (a b : List Int) : AE → Fr → H → Prop := fun e fr σ => (e = .ret ∧ fget fr 4 = .bool false ∧ a ≠ b) ∨ (e = .ex 0 ∧ a = b)
theorem si_round (hT : TabOk P tab) {t : Nat} {a b : List Int} (hab : a.length = b.length) (hl : a.length ≤ 9223372036854775807) {m : Nat} {fr : Fr} {σ : H} (hJ : siJ t a b m fr σ) :
    W P G 26 0 (AC.seq (AC.seq (AC.reg zqb_4 [11, 12, 13])   (AC.cond (Arg.t 14)   AC.skip   (AC.exit 0)))   (AC.seq (AC.block 1 (AC.seq (AC.reg zqb_5 [17, 18, 19, 20, 21, 22, 23, 24])   (AC.cond (Arg.t 25)   (AC.seq (AC.reg zqb_6 [])   AC.ret)   AC.skip)))   (AC.reg zqb_7 [15, 16]))) fr σ (seqQ (fun fr σ => ∃ m' fr' σ', m' < m ∧ Shift G 26 0 fr σ fr' σ' ∧ siJ t a b m' fr' σ') (siE t a b)) := by
  obtain ⟨i, hi, rfl, heq, f0, f1, f5, rfl⟩ := hJ
  rcases Nat.lt_or_ge i a.length with hlt | hge
  · obtain ⟨x, hx⟩ : ∃ x, a[i]? = some x := ⟨_, List.getElem?_eq_getElem hlt⟩
    obtain ⟨y, hy⟩ : ∃ y, b[i]? = some y := ⟨_, List.getElem?_eq_getElem (by omega)⟩
    have hltb : i < b.length := by omega
    have hD1 := ints_getD hx
    have hD2 := ints_getD hy
    have e2 := wnext hlt hl
    by_cases hxy : x = y
    · subst hxy
      have hb : (x == x) = true := by simp
      refine W_round [(0, .lst 1 (ints a) false), (1, .lst 1 (ints b) false), (5, .int .i64 ((i : Nat) : Int))] ⟨f0, f1, f5, trivial⟩  1000 ?_
      simp -implicitDefEqProofs (disch := omega) only [go_sem, need_of, ↓reduceIte, reduceCtorEq, Nat.reduceEqDiff, Nat.zero_add, decide_true, Nat.le_refl, bne_self_eq_false, zqb_4, zqb_5, zqb_6, zqb_7, ints_length, true_implies, and_true, hlt, hltb, hD1, hD2]
      refine ⟨a.length - (i + 1), _, _, by omega, Shift.refl _ _ _ _, i + 1, by omega, rfl, by rw [take_snoc hx, take_snoc hy, heq], ?_⟩
      simp -implicitDefEqProofs (disch := omega) only [go_sem, ↓reduceIte, reduceCtorEq, Nat.reduceEqDiff, and_true, e2]
    · have hb : (x = y) = False := eq_false hxy
      have hne : a ≠ b := fun e => by rw [e, hy] at hx; exact hxy (Option.some.inj hx).symm
      refine W_round [(0, .lst 1 (ints a) false), (1, .lst 1 (ints b) false), (5, .int .i64 ((i : Nat) : Int))] ⟨f0, f1, f5, trivial⟩  1000 ?_
      simp -implicitDefEqProofs (disch := omega) only [go_sem, need_of, ↓reduceIte, reduceCtorEq, Nat.reduceEqDiff, Nat.zero_add, decide_true, Nat.le_refl, zqb_4, zqb_5, zqb_6, zqb_7, ints_length, not_false_eq_true, false_implies, true_implies, and_true, hlt, hltb, hD1, hD2, hb]
      exact .inl ⟨rfl, rfl, hne⟩
  · have hi : i = a.length := by omega
    rw [hi, List.take_length, hab, List.take_length] at heq
    refine W_round [(0, .lst 1 (ints a) false), (1, .lst 1 (ints b) false), (5, .int .i64 ((i : Nat) : Int))] ⟨f0, f1, f5, trivial⟩  1000 ?_
    simp -implicitDefEqProofs (disch := omega) only [go_sem, ↓reduceIte, reduceCtorEq, Nat.reduceEqDiff, decide_false, zqb_4, zqb_5, zqb_6, zqb_7, ints_length, hi, Nat.lt_irrefl]
    exact .inr ⟨rfl, heq⟩
theorem c_SameInts (hT : TabOk P tab) (a b : List Int) (hl : a.length ≤ 9223372036854775807) (hl' : b.length ≤ 9223372036854775807) :
    Am.Pure P G n_proofmarkkit_SameInts [cutsV a, cutsV b] fun u => u = .bool (decide (a = b)) := by
  intro t
  simp only [cutsV]
  refine C_keep 0 (Nat.zero_le _) (C_tab hT t_proofmarkkit_SameInts (by simp [proofmarkkit_SameInts]) (W_run 1000 ?_))
  by_cases h : a.length = b.length
  · have h' : ((a.length : Int) = (b.length : Int)) = True := eq_true (by omega)
    simp -implicitDefEqProofs (disch := omega) only [go_sem, ↓reduceIte, reduceCtorEq, Nat.reduceEqDiff, Nat.zero_add, Nat.le_refl, proofmarkkit_SameInts, zqb_0, zqb_1, zqb_2, zqb_3, zqb_4, zqb_5, zqb_6, zqb_7, zqb_8, ints_length, not_true_eq_false, false_implies, true_implies, true_and, h']
    refine sem_invE (siJ t a b) (siE t a b) (m0 := a.length) ⟨0, by omega, rfl, by simp, ?_⟩ (fun m fr σ hJ => si_round hT h hl hJ) (fun e fr σ hE => ?_)
    · simp -implicitDefEqProofs (disch := omega) only [go_sem, ↓reduceIte, reduceCtorEq, Nat.reduceEqDiff, true_and, and_true]
      rfl
    · rcases hE with ⟨rfl, f4, hh⟩ | ⟨rfl, hh⟩
      · refine run_sem 1000 ?_
        simp -implicitDefEqProofs (disch := omega) only [go_sem, decide_false, Nat.zero_le, and_true, f4, hh]
      · refine run_sem 1000 ?_
        simp -implicitDefEqProofs (disch := omega) only [go_sem, ↓reduceIte, decide_true, Nat.zero_le, and_true, hh]
  · have h' : ((a.length : Int) = (b.length : Int)) = False := eq_false (by omega)
    have hne : a ≠ b := fun e => h (by rw [e])
    simp -implicitDefEqProofs (disch := omega) only [go_sem, ↓reduceIte, reduceCtorEq, Nat.reduceEqDiff, Nat.zero_add, decide_false, Nat.le_refl, proofmarkkit_SameInts, zqb_0, zqb_1, zqb_2, zqb_3, zqb_4, zqb_5, zqb_6, zqb_7, zqb_8, ints_length, not_false_eq_true, false_implies, true_implies, and_true, h', hne]
end Go.Proofs.YtaidbdgndljaeaaGreatDoor
/- The chapter's examples. -/
namespace Go.Proofs.YtaidbdgndljaeaaGreatDoor
open Go Go.Am Go.Rv Go.Rg
set_option maxRecDepth 100000
def l1 : List In := [jr]
def l2 : List In := [addiI 2 2 (-16), addiI 2 2 16, jr]
def l3 : List In := [addiI 2 2 (-16), jr]
def l4 : List In := [addiI 5 2 0]
def l5 : List In := [addiI 5 5 1, ⟨3, 0, 0, 0, -4⟩]
def l6 : List In := [addiI 17 0 3, ecallI, jr]
def l7 : List In := [addiI 5 5 1, addiI 6 6 1, ⟨5, 0, 5, 6, -4⟩, jr]
def okB (l : List In) : Bool := l.all fun x => decide (0 ≤ x.op ∧ x.op ≤ 255) && (decide (0 ≤ x.rd ∧ x.rd ≤ 255) && (decide (0 ≤ x.rs1 ∧ x.rs1 ≤ 255) && (decide (0 ≤ x.rs2 ∧ x.rs2 ≤ 255) && decide (-9223372036854775808 ≤ x.imm ∧ x.imm ≤ 9223372036854775807))))
theorem okB_ok {l : List In} (h : okB l = true) : ∀ x ∈ l, InOk x := fun x hx => by
  have := List.all_eq_true.1 h x hx
  simp only [Bool.and_eq_true, decide_eq_true_eq] at this
  exact ⟨this.1, this.2.1, this.2.2.1, this.2.2.2.1, by unfold i64; omega⟩
theorem r1 : ofS (imgS [l1] 0) = .inl [⟨nameAt 0, 0, l1, 0, []⟩] := by kernel_rfl
theorem r2 : ofS (imgS [l2] 0) = .inl [⟨nameAt 0, 0, l2, 16, []⟩] := by kernel_rfl
theorem r3 : ofS (imgS [l3] 0) = .inr (0, 1, 223) := by kernel_rfl
theorem r4 : ofS (imgS [l4] 0) = .inr (0, 0, 221) := by kernel_rfl
theorem r5 : ofS (imgS [l5] 0) = .inr (0, 1, 222) := by kernel_rfl
theorem r6 : ofS (imgS [l6] 0) = .inl [⟨nameAt 0, 0, l6, 0, []⟩] := by kernel_rfl
theorem r7 : ofS (imgS [l7] 0) = .inl [⟨nameAt 0, 0, l7, 0, [1]⟩] := by kernel_rfl
theorem ofX (hT : TabOk Tryz.prog tab) (l : List In) (hl : l.length ≤ 1000) (hok : okB l = true) {r : List Rg.Fn ⊕ (Nat × Nat × Int)} (hr : ofS (imgS [l] 0) = r) : Am.Pure Tryz.prog G0 n_proofmarklaw22_of [.lst 5 (l.map fun x => V.agg (inC x)) true] fun v => v = onV r := by
  have := Pure.args (.cons _ _ _ _ (.lst 5 5 _ _ true (WkL.refl _) (.inr rfl)) .nil) (c_ofL hT l hl (okB_ok hok))
  rw [hr] at this
  exact this
theorem c_works (hT : TabOk Tryz.prog tab) : Am.Pure Tryz.prog G0 n_proofmarklaw22_works [] fun v => v = .bool true := by
  have o1 := ofX hT l1 (by decide) rfl r1
  have o2 := ofX hT l2 (by decide) rfl r2
  have o3 := ofX hT l3 (by decide) rfl r3
  have o4 := ofX hT l4 (by decide) rfl r4
  have o5 := ofX hT l5 (by decide) rfl r5
  have o6 := ofX hT l6 (by decide) rfl r6
  have o7 := ofX hT l7 (by decide) rfl r7
  have hJ := c_jr (P := Tryz.prog) (G := G0) hT
  have hA := c_addi (P := Tryz.prog) (G := G0) hT
  have z0 : ((0 : Nat) : Int) = 0 := rfl
  have z1 : ((1 : Nat) : Int) = 1 := rfl
  simp only [l1, l2, l3, l4, l5, l6, l7, inC, insV, fC, fnC, cutsV, flt, onV, List.map_cons, List.map_nil, addiI, jr, ecallI, z0, z1] at o1 o2 o3 o4 o5 o6 o7 hJ hA
  have ok6 : ∀ x ∈ l6, InOk x := okB_ok rfl
  have q1 := c_Return (P := Tryz.prog) (G := G0) hT (nameAt 0) 0 0 l1 [] 0 (by decide) (by decide)
  have q2 := c_Return (P := Tryz.prog) (G := G0) hT (nameAt 0) 0 16 l2 [] 2 (by decide) (by decide)
  have q3 := Pure.args (.cons _ _ _ _ (.refl _) (.cons _ _ _ _ (.lst 1 1 _ _ true (WkL.refl _) (.inr rfl)) .nil)) (c_SameInts (P := Tryz.prog) (G := G0) hT [1] [1] (by decide) (by decide))
  have q4 := c_Ends (P := Tryz.prog) (G := G0) hT (nameAt 0) 0 0 l6 [] 1 (by decide) ok6 (by decide)
  have q5 := c_Next (G := G0) hT (nameAt 0) 0 0 l6 [] 1 (by decide) ok6 (by decide)
  rw [show ret l1 0 0 = true from rfl] at q1
  rw [show ret l2 16 2 = true from rfl] at q2
  rw [show decide (([1] : List Int) = [1]) = true from rfl] at q3
  rw [show ends l6 1 = true from rfl] at q4
  rw [show next l6 0 1 = [] from rfl] at q5
  have i1 : ints [1] = [.int .i64 1] := rfl
  simp only [l1, l2, l6, inC, insV, fnC, cutsV, List.map_cons, List.map_nil, addiI, jr, ecallI, i1] at q1 q2 q3 q4 q5
  intro t
  refine C_keep 0 (Nat.zero_le _) (C_tab hT t_proofmarklaw22_works (by simp [proofmarklaw22_works]) (W_run 20 ?_))
  simp -implicitDefEqProofs (disch := omega) only [go_sem, ↓reduceIte, proofmarklaw22_works, zq4_0, zq4_1, zq4_2, zq4_3, zq4_4, zq4_5, zq4_6, zq4_7, zq4_8, List.map_nil]
  refine callPS hT t_proofmarklaw22_back hJ (by simp [namelessL]) 16 ?_
  simp -implicitDefEqProofs (disch := omega) only [go_sem, ↓reduceIte, reduceCtorEq, Nat.reduceAdd, Nat.reduceEqDiff, Nat.zero_add, Nat.le_refl, V.cells, and_true, List.cons_append, List.nil_append, List.map_cons, List.map_nil]
  refine callPS hT t_proofmarklaw22_of o1 (by simp [namelessL, nameless]) 16 ?_
  simp -implicitDefEqProofs (disch := omega) only [go_sem, ↓reduceIte, reduceCtorEq, Nat.reduceAdd, Nat.reduceEqDiff, Nat.reduceLT, Nat.zero_add, Bool.not_false, Nat.le_refl, Nat.zero_le, V.cells, and_true, Bool.not_false, List.cons_append, List.nil_append, List.map_cons, List.map_nil]
  refine callPS hT t_proofmarklaw22_addi (hA 2 2 (-16)) (by simp [namelessL, nameless]) 16 ?_
  simp -implicitDefEqProofs (disch := omega) only [go_sem, ↓reduceIte, reduceCtorEq, Nat.reduceEqDiff, List.map_cons, List.map_nil]
  refine callPS hT t_proofmarklaw22_addi (hA 2 2 16) (by simp [namelessL, nameless]) 16 ?_
  simp -implicitDefEqProofs (disch := omega) only [go_sem, ↓reduceIte, reduceCtorEq, Nat.reduceEqDiff, List.map_nil]
  refine callPS hT t_proofmarklaw22_back hJ (by simp [namelessL]) 16 ?_
  simp -implicitDefEqProofs (disch := omega) only [go_sem, ↓reduceIte, reduceCtorEq, Nat.reduceAdd, Nat.reduceEqDiff, Nat.reduceLeDiff, Nat.zero_add, Nat.le_refl, V.cells, and_true, List.cons_append, List.nil_append, List.map_cons, List.map_nil]
  refine callPS hT t_proofmarklaw22_of o2 (by simp [namelessL, nameless]) 16 ?_
  simp -implicitDefEqProofs (disch := omega) only [go_sem, ↓reduceIte, reduceCtorEq, Nat.reduceAdd, Nat.reduceEqDiff, Nat.reduceLT, Nat.zero_add, Bool.not_false, Nat.le_refl, Nat.zero_le, V.cells, and_true, Bool.not_false, List.cons_append, List.nil_append, List.map_cons, List.map_nil]
  refine callPS hT t_proofmarklaw22_addi (hA 2 2 (-16)) (by simp [namelessL, nameless]) 16 ?_
  simp -implicitDefEqProofs (disch := omega) only [go_sem, ↓reduceIte, reduceCtorEq, Nat.reduceEqDiff, List.map_nil]
  refine callPS hT t_proofmarklaw22_back hJ (by simp [namelessL]) 16 ?_
  simp -implicitDefEqProofs (disch := omega) only [go_sem, ↓reduceIte, reduceCtorEq, Nat.reduceAdd, Nat.reduceEqDiff, Nat.reduceLeDiff, Nat.zero_add, Nat.le_refl, V.cells, and_true, List.cons_append, List.nil_append, List.map_cons, List.map_nil]
  refine callPS hT t_proofmarklaw22_of o3 (by simp [namelessL, nameless]) 16 ?_
  simp -implicitDefEqProofs (disch := omega) only [go_sem, ↓reduceIte, reduceCtorEq, Nat.reduceAdd, Nat.reduceEqDiff, Nat.reduceLT, Nat.zero_add, Bool.not_false, Nat.le_refl, Nat.zero_le, V.cells, and_true, Bool.not_false, List.cons_append, List.nil_append, List.map_cons, List.map_nil]
  refine callPS hT t_proofmarklaw22_addi (hA 5 2 0) (by simp [namelessL, nameless]) 16 ?_
  simp -implicitDefEqProofs (disch := omega) only [go_sem, ↓reduceIte, reduceCtorEq, Nat.reduceAdd, Nat.reduceEqDiff, Nat.zero_add, Nat.le_refl, V.cells, and_true, List.cons_append, List.nil_append, List.map_cons, List.map_nil]
  refine callPS hT t_proofmarklaw22_of o4 (by simp [namelessL, nameless]) 16 ?_
  simp -implicitDefEqProofs (disch := omega) only [go_sem, ↓reduceIte, reduceCtorEq, Nat.reduceAdd, Nat.reduceEqDiff, Nat.reduceLT, Nat.zero_add, Bool.not_false, Nat.le_refl, Nat.zero_le, V.cells, and_true, Bool.not_false, List.cons_append, List.nil_append, List.map_cons, List.map_nil]
  refine callPS hT t_proofmarklaw22_addi (hA 5 5 1) (by simp [namelessL, nameless]) 16 ?_
  simp -implicitDefEqProofs (disch := omega) only [go_sem, ↓reduceIte, reduceCtorEq, Nat.reduceAdd, Nat.reduceEqDiff, Nat.reduceLeDiff, Nat.zero_add, Nat.le_refl, V.cells, and_true, List.cons_append, List.nil_append, List.map_cons, List.map_nil]
  refine callPS hT t_proofmarklaw22_of o5 (by simp [namelessL, nameless]) 16 ?_
  simp -implicitDefEqProofs (disch := omega) only [go_sem, ↓reduceIte, reduceCtorEq, Nat.reduceAdd, Nat.reduceEqDiff, Nat.reduceLT, Nat.zero_add, Bool.not_false, Nat.le_refl, Nat.zero_le, V.cells, and_true, Bool.not_false, List.cons_append, List.nil_append, List.map_cons, List.map_nil]
  refine callPS hT t_proofmarklaw22_addi (hA 17 0 3) (by simp [namelessL, nameless]) 16 ?_
  simp -implicitDefEqProofs (disch := omega) only [go_sem, ↓reduceIte, reduceCtorEq, Nat.reduceAdd, Nat.reduceEqDiff, Nat.reduceLeDiff, Nat.zero_add, V.cells, and_true, List.cons_append, List.nil_append, List.map_nil]
  refine callPS hT t_proofmarklaw22_back hJ (by simp [namelessL]) 16 ?_
  simp -implicitDefEqProofs (disch := omega) only [go_sem, ↓reduceIte, reduceCtorEq, Nat.reduceAdd, Nat.reduceEqDiff, Nat.reduceLeDiff, Nat.zero_add, Nat.le_refl, V.cells, and_true, List.cons_append, List.nil_append, List.map_cons, List.map_nil]
  refine callPS hT t_proofmarklaw22_of o6 (by simp [namelessL, nameless]) 16 ?_
  simp -implicitDefEqProofs (disch := omega) only [go_sem, ↓reduceIte, reduceCtorEq, Nat.reduceAdd, Nat.reduceEqDiff, Nat.reduceLT, Nat.zero_add, Bool.not_false, Nat.le_refl, Nat.zero_le, V.cells, and_true, Bool.not_false, List.cons_append, List.nil_append, List.map_cons, List.map_nil]
  refine callPS hT t_proofmarklaw22_addi (hA 5 5 1) (by simp [namelessL, nameless]) 16 ?_
  simp -implicitDefEqProofs (disch := omega) only [go_sem, ↓reduceIte, reduceCtorEq, Nat.reduceEqDiff, List.map_cons, List.map_nil]
  refine callPS hT t_proofmarklaw22_addi (hA 6 6 1) (by simp [namelessL, nameless]) 16 ?_
  simp -implicitDefEqProofs (disch := omega) only [go_sem, ↓reduceIte, reduceCtorEq, Nat.reduceAdd, Nat.reduceEqDiff, Nat.reduceLeDiff, Nat.zero_add, Nat.le_refl, V.cells, and_true, List.cons_append, List.nil_append, List.map_nil]
  refine callPS hT t_proofmarklaw22_back hJ (by simp [namelessL]) 16 ?_
  simp -implicitDefEqProofs (disch := omega) only [go_sem, ↓reduceIte, reduceCtorEq, Nat.reduceAdd, Nat.reduceEqDiff, Nat.reduceLeDiff, Nat.zero_add, Nat.le_refl, V.cells, and_true, List.cons_append, List.nil_append, List.map_cons, List.map_nil]
  refine callPS hT t_proofmarklaw22_of o7 (by simp [namelessL, nameless]) 16 ?_
  simp -implicitDefEqProofs (disch := omega) only [go_sem, ↓reduceIte, reduceCtorEq, Nat.reduceAdd, Nat.reduceEqDiff, Nat.reduceLeDiff, Nat.reduceLT, Nat.zero_add, Bool.not_false, Nat.le_refl, Nat.zero_le, beq_self_eq_true, V.cells, true_implies, and_true, Bool.not_false, List.cons_append, List.nil_append]
  iterate 1 (try (refine run_sem 8 ?_; simp -implicitDefEqProofs (disch := omega) only [go_sem, ↓reduceIte, reduceCtorEq, Nat.reduceAdd, Nat.reduceEqDiff, Nat.zero_add, Nat.le_refl, beq_self_eq_true, false_implies, and_true, List.map_cons, List.map_nil]))
  refine callPS hT t_regions_Func_Return q1 (by simp [namelessL, nameless]) 8 ?_
  simp -implicitDefEqProofs (disch := omega) only [go_sem, ↓reduceIte, reduceCtorEq, Nat.reduceAdd, Nat.reduceEqDiff, Nat.zero_add, Nat.le_refl, beq_self_eq_true, true_implies, and_true, i1]
  iterate 1 (try (refine run_sem 8 ?_; simp -implicitDefEqProofs (disch := omega) only [go_sem, ↓reduceIte, reduceCtorEq, Nat.reduceAdd, Nat.reduceEqDiff, Nat.reduceLeDiff, Nat.zero_add, Nat.le_refl, beq_self_eq_true, false_implies, true_implies, and_true, List.map_cons, List.map_nil]))
  refine callPS hT t_regions_Func_Return q2 (by simp [namelessL, nameless]) 8 ?_
  simp -implicitDefEqProofs (disch := omega) only [go_sem, ↓reduceIte, reduceCtorEq, Nat.reduceAdd, Nat.reduceEqDiff, Nat.reduceLeDiff, Nat.zero_add, Nat.le_refl, beq_self_eq_true, V.cells, false_implies, and_true, List.cons_append, List.nil_append]
  iterate 5 (try (refine run_sem 8 ?_; simp -implicitDefEqProofs (disch := omega) only [go_sem, ↓reduceIte, reduceCtorEq, Nat.reduceAdd, Nat.reduceEqDiff, Nat.reduceLeDiff, Nat.zero_add, Nat.le_refl, beq_self_eq_true, V.cells, false_implies, true_implies, and_true, List.cons_append, List.nil_append, List.map_cons, List.map_nil]))
  refine callPS hT t_proofmarkkit_SameInts q3 (by simp [namelessL, nameless]) 8 ?_
  simp -implicitDefEqProofs (disch := omega) only [go_sem, ↓reduceIte, reduceCtorEq, Nat.reduceAdd, Nat.reduceEqDiff, Nat.zero_add, Nat.le_refl, beq_self_eq_true, false_implies, true_implies, and_true]
  iterate 3 (try (refine run_sem 8 ?_; simp -implicitDefEqProofs (disch := omega) only [go_sem, ↓reduceIte, reduceCtorEq, Nat.reduceAdd, Nat.reduceEqDiff, List.map_cons, List.map_nil]))
  refine callPS hT t_regions_Func_Ends q4 (by simp [namelessL, nameless]) 8 ?_
  simp -implicitDefEqProofs (disch := omega) only [go_sem, ↓reduceIte, reduceCtorEq, Nat.reduceAdd, Nat.reduceEqDiff, Nat.zero_add, Nat.le_refl, false_implies, and_true, List.map_cons, List.map_nil]
  iterate 1 (try (refine run_sem 8 ?_; simp -implicitDefEqProofs (disch := omega) only [go_sem, need_of, ↓reduceIte, reduceCtorEq, Nat.reduceAdd, Nat.reduceEqDiff, Nat.reduceLeDiff, Nat.reduceLT, Nat.reduceSub, Nat.reduceMul, Int.reduceToNat, Int.reduceLE, Int.reduceLT, Int.reduceEq, Int.reduceNe, Nat.succ_ne_zero, Nat.zero_add, Nat.add_zero, Nat.mul_one, Nat.one_mul, Nat.zero_mul, decide_true, decide_false, Bool.not_true, Bool.not_false, Nat.le_refl, Nat.zero_le, ge_iff_le, gt_iff_lt, Nat.reduceBEq, Nat.reduceBNe, beq_self_eq_true, bne_self_eq_false, Option.isSome_some, Option.isSome_none, Option.getD_some, Option.getD_none, proofmarklaw22_works, zq4_0, zq4_1, zq4_2, zq4_3, zq4_4, zq4_5, zq4_6, zq4_7, zq4_8, inC, insV, fC, fnC, cutsV, flt, onV, V.cells, List.length_map, ints_length, false_implies, true_implies, true_and, and_true, not_true_eq_false, not_false_eq_true, Int.reduceBEq, Int.reduceBNe, Bool.not_true, Bool.not_false, List.cons_append, List.nil_append, ge_iff_le, gt_iff_lt, List.map_cons, List.map_nil, addiI, jr, ecallI, i1]))
  refine callPS hT t_regions_Func_Next q5 (by simp [namelessL, nameless]) 8 ?_
  simp -implicitDefEqProofs (disch := omega) only [go_sem, ↓reduceIte, reduceCtorEq, Nat.reduceAdd, Nat.reduceEqDiff, Nat.zero_add, Nat.zero_le, ints_length, true_and]
  iterate 2 (try (refine run_sem 8 ?_; simp -implicitDefEqProofs (disch := omega) only [go_sem, need_of, ↓reduceIte, reduceCtorEq, Nat.reduceAdd, Nat.reduceEqDiff, Nat.reduceLeDiff, Nat.reduceLT, Nat.reduceSub, Nat.reduceMul, Int.reduceToNat, Int.reduceLE, Int.reduceLT, Int.reduceEq, Int.reduceNe, Nat.succ_ne_zero, Nat.zero_add, Nat.add_zero, Nat.mul_one, Nat.one_mul, Nat.zero_mul, decide_true, decide_false, Bool.not_true, Bool.not_false, Nat.le_refl, Nat.zero_le, ge_iff_le, gt_iff_lt, Nat.reduceBEq, Nat.reduceBNe, beq_self_eq_true, bne_self_eq_false, Option.isSome_some, Option.isSome_none, Option.getD_some, Option.getD_none, proofmarklaw22_works, zq4_0, zq4_1, zq4_2, zq4_3, zq4_4, zq4_5, zq4_6, zq4_7, zq4_8, inC, insV, fC, fnC, cutsV, flt, onV, V.cells, List.length_map, ints_length, false_implies, true_implies, true_and, and_true, not_true_eq_false, not_false_eq_true, Int.reduceBEq, Int.reduceBNe, Bool.not_true, Bool.not_false, List.cons_append, List.nil_append, ge_iff_le, gt_iff_lt, List.map_cons, List.map_nil, addiI, jr, ecallI, i1]))
  rfl
end Go.Proofs.YtaidbdgndljaeaaGreatDoor
/- Is x2 written where it may be? -/
namespace Go.Proofs.YtaidbdgndljaeaaGreatDoor
open Go Go.Am Go.Rv Go.Rg
set_option maxRecDepth 100000
structure FnOk (m : Im) (f : Rg.Fn) : Prop where
  good : Rg.Good (ats m) f.pl f.code f.frame
  ok : ∀ x ∈ f.code, InOk x
  len : f.code.length ≤ 1000
  cu : f.cuts = Rg.cuts f.code f.frame
  fr : 0 ≤ f.frame ∧ f.frame ≤ 1984
end Go.Proofs.YtaidbdgndljaeaaGreatDoor
/- The law RegionsCuts: one step of a way. -/
namespace Go.Proofs.YtaidbdgndljaeaaGreatDoor
open Go Go.Am Go.Rv Go.Rg
set_option maxRecDepth 100000
end Go.Proofs.YtaidbdgndljaeaaGreatDoor
/- The law RegionsCuts. -/
namespace Go.Proofs.YtaidbdgndljaeaaGreatDoor
open Go Go.Am Go.Rv Go.Rg
set_option maxRecDepth 100000
theorem frameOf_b (x : In) : 0 ≤ frameOf x ∧ frameOf x ≤ 1984 := by
  unfold frameOf; split <;> omega
theorem fnOk_of {m : Im} {r : List Rg.Fn} (h : ofS m = .inl r) (hw : ∀ w ∈ m.code, 0 ≤ w ∧ w < 4294967296) (hl : m.code.length ≤ 1000) {n : Nat} {f : Rg.Fn} (hn : r[n]? = some f) : FnOk m f ∧ 0 < f.code.length := by
  obtain ⟨hr, hlen, hg⟩ := ofS_good h
  obtain ⟨s, hs, rfl, hgd⟩ := hg n f hn
  obtain ⟨a, b, _, _, hab, hbl, es, ew⟩ := (right_rt hr).bounds hs
  have hwl : (words m n).length = b - a := by rw [ew]; simp; omega
  have hcl : (codeOf (words m n)).length = b - a := by simp [codeOf, hwl]
  have hwb : ∀ w ∈ words m n, 0 ≤ w ∧ w < 4294967296 := fun w h => by
    rw [ew] at h
    exact hw w (List.mem_of_mem_drop (List.mem_of_mem_take h))
  refine ⟨⟨hgd.1, fun x hx => ?_, by show (codeOf (words m n)).length ≤ _; omega, rfl, frameOf_b _⟩, by show 0 < (codeOf (words m n)).length; omega⟩
  obtain ⟨w, hw, rfl⟩ := List.mem_map.1 hx
  cases hd : dec w with
  | none => simp [InOk, zeroI, i64]
  | some y =>
    obtain ⟨d1, d2⟩ := dec_le (hwb w hw).1 hd
    exact ⟨d1.1, d1.2.1, d1.2.2.1, d1.2.2.2, by show i64 y.imm; unfold i64; omega⟩
end Go.Proofs.YtaidbdgndljaeaaGreatDoor
