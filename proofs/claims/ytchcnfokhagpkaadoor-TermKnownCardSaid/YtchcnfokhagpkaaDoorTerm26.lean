/- The closed law TermKnown. -/
import Derived.Test.YtchcnfokhagpkaaDoorTerm25
namespace Go.Proofs.YtchcnfokhagpkaaDoor
open Go Go.Am
set_option maxRecDepth 100000
set_option maxHeartbeats 1000000
variable {P : Program} {G : Nat → Option V}

/-- A chain of terms, each one twice in the next. -/
def lnk (i : Nat) : Nd := ⟨4, 0, 0, 2, i, i⟩
theorem lnk_ok (k : Nat) : i64 (lnk k).n ∧ i64 (lnk k).a := by simp [lnk, i64]
def chain (k : Nat) : List Nd := ⟨2, 1, 0, 0, 0, 0⟩ :: (List.range k).map lnk
theorem chain_len (k : Nat) : (chain k).length = k + 1 := by simp [chain]
theorem chain_succ (k : Nat) : chain (k + 1) = chain k ++ [lnk k] := by simp [chain, List.range_succ]
theorem chain_get {k i : Nat} (h : i < k) : (chain k)[i + 1]? = some (lnk i) := by simp [chain, h]
theorem chain_zero : addN [] ⟨2, 1, 0, 0, 0, 0⟩ = (0, chain 0) := by
  simp [addN, Nd.may, idx, chain]
theorem chain_add (k : Nat) : addN (chain k) (lnk k) = (((k + 1 : Nat) : Int), chain (k + 1)) := by
  have hm : (lnk k).may (chain k).length = true := by
    rw [chain_len]
    simp [Nd.may, lnk]
    omega
  have hi : idx (lnk k) (chain k) = none := by
    refine idx_none fun j hj h => ?_
    rw [chain_len] at hj
    cases j with
    | zero => simp [chain, lnk] at h
    | succ j =>
      rw [chain_get (by omega)] at h
      simp [lnk] at h
      omega
  unfold addN
  rw [if_pos hm, hi, chain_succ, chain_len]
theorem chain_ok : ∀ k, okN (chain k)
  | 0 => by
    have := okN_addN (L := []) okN_nil (d := ⟨2, 1, 0, 0, 0, 0⟩) ⟨by decide, by decide⟩ ⟨by decide, by decide⟩
    rwa [chain_zero] at this
  | k + 1 => by
    have := okN_addN (L := chain k) (chain_ok k) (d := lnk k) (lnk_ok k).1 (lnk_ok k).2
    rwa [chain_add] at this

theorem chain_long {fmt : Int → List UInt8} (h1 : (fmt 1).length = 1) (n : Nat) : ∀ j, j ≤ n → j ≤ 13 → (longs fmt (chain n)).getD j 0 = 7 * ((2 ^ j : Nat) : Int) - 5 := by
  intro j
  induction j with
  | zero =>
    intro _ _
    have hg : (chain n)[0]? = some ⟨2, 1, 0, 0, 0, 0⟩ := rfl
    rw [longs_at fmt hg]
    have hp : (⟨2, 1, 0, 0, 0, 0⟩ : Nd).parts = [] := rfl
    simp [longF, longA, hp, Nd.words, h1]
  | succ j ih =>
    intro hn h13
    have ih := ih (by omega) (by omega)
    have hg := chain_get (k := n) (i := j) (by omega)
    rw [longs_at fmt hg]
    have hp : (lnk j).parts = [(j : Int), (j : Int)] := by simp [lnk, Nd.parts]
    have ht := longs_take fmt (L := chain n) (i := j + 1) (p := j) (by omega) (by rw [chain_len]; omega)
    have hw : ((lnk j).words fmt [] []).length = 5 := by simp [lnk, Nd.words, signs]
    have hpw : ((2 ^ (j + 1) : Nat) : Int) = 2 * ((2 ^ j : Nat) : Int) := by rw [Nat.pow_succ]; omega
    have hle : ((2 ^ j : Nat) : Int) ≤ 4096 := by
      have : 2 ^ j ≤ 2 ^ 12 := Nat.pow_le_pow_right (by omega) (by omega)
      omega
    rw [hpw]
    generalize ((2 ^ j : Nat) : Int) = B at *
    simp only [longF, longA, hp, List.foldl_cons, List.foldl_nil, Int.toNat_natCast, ht, ih, hw]
    split <;> omega
theorem chain_last {fmt : Int → List UInt8} (h1 : (fmt 1).length = 1) : 65536 < (longs fmt (chain 14)).getD 14 0 := by
  have ih := chain_long h1 14 13 (by omega) (by omega)
  have hg := chain_get (k := 14) (i := 13) (by omega)
  rw [longs_at fmt hg]
  have hp : (lnk 13).parts = [((13 : Nat) : Int), ((13 : Nat) : Int)] := by simp [lnk, Nd.parts]
  have ht := longs_take fmt (L := chain 14) (i := 13 + 1) (p := 13) (by omega) (by rw [chain_len]; omega)
  simp only [longF, longA, hp, List.foldl_cons, List.foldl_nil, Int.toNat_natCast, ht, ih]
  have : ((2 ^ 13 : Nat) : Int) = 8192 := by decide
  rw [this]
  split <;> omega
theorem chain_text13 {fmt : Int → List UInt8} (h1 : (fmt 1).length = 1) : (textL fmt (chain 13) 13).length = 57339 := by
  have hl := chain_long h1 13 13 (by omega) (by omega)
  have h2 : ((2 ^ 13 : Nat) : Int) = 8192 := by decide
  rw [h2] at hl
  have hg := chain_get (k := 13) (i := 12) (by omega)
  have := (long_len fmt (chain_ok 13) 13 _ hg (by omega)).1
  have h13 : ((13 : Int)).toNat = 13 := rfl
  have hcl := chain_len 13
  rw [textL, h13, if_pos ⟨⟨by omega, by omega⟩, by omega⟩]
  omega
theorem chain_text14 {fmt : Int → List UInt8} (h1 : (fmt 1).length = 1) : textL fmt (chain 14) 14 = [] := by
  have := chain_last h1
  have h14 : ((14 : Int)).toNat = 14 := rfl
  rw [textL, h14, if_neg (by omega)]

theorem callNew (hT : TabOk P tab) {n : Nat} {Q : AE → Fr → H → Prop} {t : AT} {dd : Option Nat} {dead : List Nat} {s : List KI} {fr : Fr} {c : Nat} (fmt : Int → List UInt8) (fuel : Nat)
    (k : ∀ v0 v1 v2 v3 v4 c', c ≤ c' → run P G n 0 Q fuel (.at t dead :: s) .nrm (fput fr dd (.ptr 1 v0 0)) ⟨c', kG fmt v0 v1 v2 v3 v4 [] ++ []⟩) :
    CV P G 0 (.fn (.func n_term_New) [] []) [] ⟨c, []⟩ (kC P G n 0 Q dd t dead s fr) :=
  call hT t_term_New (c_New hT (Nat.zero_le _)) fuel fun v σ hv => by
    obtain ⟨v0, v1, v2, v3, v4, t1, i1, i2, i3, i4, ht1, rfl, rfl, rfl, rfl, rfl, rfl⟩ := hv
    exact k v0 v1 v2 v3 v4 t1 ht1
theorem callAddE (hT : TabOk P tab) (F : Fmt P G) {n : Nat} {Q : AE → Fr → H → Prop} {t : AT} {dd : Option Nat} {dead : List Nat} {s : List KI} {fr : Fr} {v0 v1 v2 v3 v4 c : Nat} {L L' : List Nd} {x : Int} {ex : List (Option Ob)} {cs : List V} (d : Nd) (hcs : cs = d.cells) (hL : L.length ≤ 1000000) (hn : i64 d.n) (ha : i64 d.a) (hadd : addN L d = (x, L')) (fuel : Nat)
    (k : ∀ c' w2 w3 w4, c ≤ c' → run P G n 0 Q fuel (.at t dead :: s) .nrm (fput fr dd (.int .i64 x)) ⟨c', kG F.fmt v0 v1 w2 w3 w4 L' ++ ex⟩) :
    CV P G 0 (.fn (.func n_term_Graph_Add) [] []) [.ptr 1 v0 0, .agg cs] ⟨c, kG F.fmt v0 v1 v2 v3 v4 L ++ ex⟩ (kC P G n 0 Q dd t dead s fr) := by
  subst hcs
  exact callAdd hT F d hL hn ha fuel fun c' w2 w3 w4 hc => by
    have := k c' w2 w3 w4 hc
    rw [hadd]
    exact this

theorem chunk_ndC : ∀ ns : List Nd, chunkV 6 ns.length (ndC ns) = ns.map fun d => .agg d.cells
  | [] => rfl
  | d :: ns => by
    have h : ndC (d :: ns) = d.cells ++ ndC ns := by simp [ndC]
    rw [h, List.length_cons, chunkV, List.map_cons, ← chunk_ndC ns]
    rfl
theorem sem_frz {n r t : Nat} {ns : List Nd} {Q : AE → Fr → H → Prop} {s : List KI} {c : AC} {fr : Fr} (g1 : fget fr 1 = baseV) (g2 : fget fr 2 = .sl 0 r 0 6 ns.length none)
    (k : ∀ fr2, fget fr2 1 = baseV → fget fr2 2 = .lst 6 (ns.map fun d => .agg d.cells) false → sem P G n 0 Q (.ac c :: s) .nrm fr2 ⟨t, []⟩) : sem P G n 0 Q (.ac c :: s) .nrm fr ⟨t, [some (.arr r 34 (ndC ns))]⟩ := by
  refine sem_shift (Shift.freeze (σ := ⟨t, [some (.arr r 34 (ndC ns))]⟩) (k := 0) (v := r) (T := 34) (cs := ndC ns) (Nat.zero_le _) rfl (ndC_nameless ns)) ?_
  refine sem_shift (Shift.drop (o' := []) (t' := t) trivial (Nat.le_refl _) (Nat.zero_le _)) ?_
  have hf : ∀ i, fget (frzFr 0 r (ndC ns) fr) i = frzV 0 r (ndC ns) (fget fr i) := fun i => fget_map _ (by simp [frzV]) fr i
  refine k _ ?_ ?_
  · rw [hf, g1]; exact frzV_nl _ rfl
  · rw [hf, g2]
    have hl := ndC_length ns
    simp only [frzV]
    rw [if_pos ⟨trivial, trivial⟩, if_pos ⟨by omega, by omega⟩, rowsV, if_neg (by omega), List.drop_zero, chunk_ndC]

theorem tk0 (hT : TabOk P tab) (F : Fmt P G) (SO : SortOk P) (hW : Pure P G n_proofmarklaw02_works [] fun v => v = .bool true) {r0 t : Nat} {Q : AE → Fr → H → Prop} {fr : Fr}
    (f1 : fget fr 1 = baseV) (f2 : fget fr 2 = .sl 0 r0 0 6 0 none) (f3 : fget fr 3 = .int .u8 0)
    (hQ : ∀ fr' t' r ns, (∀ d ∈ ns, i64 d.n ∧ i64 d.a) → fget fr' 1 = baseV → fget fr' 2 = .sl 0 r 0 6 ns.length none → Q (.ex 0) fr' ⟨t', [some (.arr r 34 (ndC ns))]⟩) :
    W P G 167 0 (.loop (AC.seq (AC.seq (AC.reg proofmarklaw02_TermKnown_r4 [18])   (AC.cond (Arg.t 19)   AC.skip   (AC.exit 0)))   (AC.seq (AC.block 1 (AC.seq (AC.reg proofmarklaw02_TermKnown_r5 [])   (AC.block 2 (AC.loop (AC.seq (AC.seq (AC.reg proofmarklaw02_TermKnown_r6 [22])   (AC.cond (Arg.t 23)   AC.skip   (AC.exit 2)))   (AC.seq (AC.block 3 (AC.seq (AC.reg proofmarklaw02_TermKnown_r7 [26, 27])   (AC.seq (AC.seq (AC.reg proofmarklaw02_TermKnown_r8 [28])   (AC.cond (Arg.t 29)   (AC.reg proofmarklaw02_TermKnown_r9 [30])   AC.skip))   (AC.seq (AC.seq (AC.reg proofmarklaw02_TermKnown_r10 [])   (AC.block 4 (AC.seq (AC.reg proofmarklaw02_TermKnown_r11 [33])   (AC.cond (Arg.t 32)   (AC.reg proofmarklaw02_TermKnown_r12 [34])   (AC.seq (AC.reg proofmarklaw02_TermKnown_r13 [36])   (AC.cond (Arg.t 35)   (AC.reg proofmarklaw02_TermKnown_r14 [37])   (AC.seq (AC.reg proofmarklaw02_TermKnown_r15 [39])   (AC.cond (Arg.t 38)   (AC.reg proofmarklaw02_TermKnown_r16 [40])   (AC.seq (AC.reg proofmarklaw02_TermKnown_r17 [42])   (AC.cond (Arg.t 41)   (AC.reg proofmarklaw02_TermKnown_r18 [43])   (AC.seq (AC.reg proofmarklaw02_TermKnown_r19 [45])   (AC.cond (Arg.t 44)   (AC.reg proofmarklaw02_TermKnown_r20 [46])   (AC.seq (AC.reg proofmarklaw02_TermKnown_r21 [48])   (AC.cond (Arg.t 47)   (AC.reg proofmarklaw02_TermKnown_r22 [49])   (AC.seq (AC.reg proofmarklaw02_TermKnown_r23 [51])   (AC.cond (Arg.t 50)   (AC.reg proofmarklaw02_TermKnown_r24 [52])   (AC.seq (AC.reg proofmarklaw02_TermKnown_r25 [54])   (AC.cond (Arg.t 53)   (AC.reg proofmarklaw02_TermKnown_r26 [55])   (AC.seq (AC.reg proofmarklaw02_TermKnown_r27 [57])   (AC.cond (Arg.t 56)   (AC.reg proofmarklaw02_TermKnown_r28 [58])   (AC.seq (AC.reg proofmarklaw02_TermKnown_r29 [60])   (AC.cond (Arg.t 59)   (AC.reg proofmarklaw02_TermKnown_r30 [61])   (AC.seq (AC.reg proofmarklaw02_TermKnown_r31 [63])   (AC.cond (Arg.t 62)   (AC.reg proofmarklaw02_TermKnown_r32 [64])   AC.skip))))))))))))))))))))))))   (AC.seq (AC.seq (AC.reg proofmarklaw02_TermKnown_r33 [65, 66, 67, 68, 69, 70, 71, 72, 73, 74, 75, 76, 77, 78, 79, 80])   (AC.cond (Arg.t 81)   (AC.seq (AC.reg proofmarklaw02_TermKnown_r34 [])   AC.ret)   AC.skip))   (AC.reg proofmarklaw02_TermKnown_r35 [82, 83, 84, 85]))))))   (AC.reg proofmarklaw02_TermKnown_r36 [24, 25])))))))   (AC.reg proofmarklaw02_TermKnown_r37 [20, 21])))) fr ⟨t, [some (.arr r0 34 [])]⟩ Q := by
  refine sem_invE (s := []) (fun m fr σ' => ∃ (k t' r : Nat) (ns : List Nd), k ≤ 6 ∧ m = 6 - k ∧ ns.length ≤ 12 * k ∧ (∀ d ∈ ns, i64 d.n ∧ i64 d.a) ∧ fget fr 1 = baseV ∧ fget fr 2 = .sl 0 r 0 6 ns.length none ∧ fget fr 3 = .int .u8 k ∧ σ' = ⟨t', [some (.arr r 34 (ndC ns))]⟩)
    (fun e fr σ' => e = .ex 0 ∧ ∃ (t' r : Nat) (ns : List Nd), (∀ d ∈ ns, i64 d.n ∧ i64 d.a) ∧ fget fr 1 = baseV ∧ fget fr 2 = .sl 0 r 0 6 ns.length none ∧ σ' = ⟨t', [some (.arr r 34 (ndC ns))]⟩)
    (m0 := 6) ⟨0, t, r0, [], by omega, rfl, by simp, by simp, f1, f2, f3, rfl⟩ (fun m fr σ' hJ => ?_) (fun e fr σ' hE => ?_)
  · clear f1 f2 f3
    obtain ⟨k, t', r, ns, hk, rfl, hnl, hns, f1, f2, f3, rfl⟩ := hJ
    rcases Nat.lt_or_ge k 6 with hlt | hge
    · have hw : IntKind.u8.wrap ((k : Int) + 1) = ((k + 1 : Nat) : Int) := by
        have : k = 0 ∨ k = 1 ∨ k = 2 ∨ k = 3 ∨ k = 4 ∨ k = 5 := by omega
        rcases this with h | h | h | h | h | h <;> subst h <;> decide
      have hlt' : (k : Int) < 6 := by omega
      refine W_run 1000 ?_
      simp -implicitDefEqProofs (disch := omega) only [go_sem, ↓reduceIte, Nat.reduceEqDiff, decide_true, proofmarklaw02_TermKnown_r4, proofmarklaw02_TermKnown_r5, proofmarklaw02_TermKnown_r6, proofmarklaw02_TermKnown_r7, proofmarklaw02_TermKnown_r8, proofmarklaw02_TermKnown_r9, proofmarklaw02_TermKnown_r10, proofmarklaw02_TermKnown_r11, proofmarklaw02_TermKnown_r12, proofmarklaw02_TermKnown_r13, proofmarklaw02_TermKnown_r14, proofmarklaw02_TermKnown_r15, proofmarklaw02_TermKnown_r16, proofmarklaw02_TermKnown_r17, proofmarklaw02_TermKnown_r18, proofmarklaw02_TermKnown_r19, proofmarklaw02_TermKnown_r20, proofmarklaw02_TermKnown_r21, proofmarklaw02_TermKnown_r22, proofmarklaw02_TermKnown_r23, proofmarklaw02_TermKnown_r24, proofmarklaw02_TermKnown_r25, proofmarklaw02_TermKnown_r26, proofmarklaw02_TermKnown_r27, proofmarklaw02_TermKnown_r28, proofmarklaw02_TermKnown_r29, proofmarklaw02_TermKnown_r30, proofmarklaw02_TermKnown_r31, proofmarklaw02_TermKnown_r32, proofmarklaw02_TermKnown_r33, proofmarklaw02_TermKnown_r34, proofmarklaw02_TermKnown_r35, proofmarklaw02_TermKnown_r36, proofmarklaw02_TermKnown_r37, f3, hlt']
      refine tk1 hT F SO hW (N := 12 * k) (kind := (k : Int)) (ns0 := ns) (by omega) hnl hns (by simp -implicitDefEqProofs (disch := omega) only [go_sem, ↓reduceIte, Nat.reduceEqDiff, f1]) (by simp -implicitDefEqProofs (disch := omega) only [go_sem, ↓reduceIte, Nat.reduceEqDiff, f2]) (by simp -implicitDefEqProofs (disch := omega) only [go_sem, ↓reduceIte, Nat.reduceEqDiff, f3]) (by simp -implicitDefEqProofs (disch := omega) only [go_sem, ↓reduceIte]) (fun fr' t2 r2 ns2 h2 h3 g1 g2 g3 => ?_)
      refine run_sem 1000 ?_
      simp -implicitDefEqProofs (disch := omega) only [go_sem, ↓reduceIte, g3, hw]
      refine ⟨6 - (k + 1), _, _, by omega, Shift.refl _ _ _ _, k + 1, t2, r2, ns2, hlt, rfl, by omega, h3, ?_⟩
      simp -implicitDefEqProofs (disch := omega) only [go_sem, ↓reduceIte, Nat.reduceEqDiff, g1, g2]
    · have hlt' : ¬ (k : Int) < 6 := by omega
      refine W_run 1000 ?_
      simp -implicitDefEqProofs (disch := omega) only [go_sem, ↓reduceIte, Nat.reduceEqDiff, decide_false, proofmarklaw02_TermKnown_r4, proofmarklaw02_TermKnown_r5, proofmarklaw02_TermKnown_r6, proofmarklaw02_TermKnown_r7, proofmarklaw02_TermKnown_r8, proofmarklaw02_TermKnown_r9, proofmarklaw02_TermKnown_r10, proofmarklaw02_TermKnown_r11, proofmarklaw02_TermKnown_r12, proofmarklaw02_TermKnown_r13, proofmarklaw02_TermKnown_r14, proofmarklaw02_TermKnown_r15, proofmarklaw02_TermKnown_r16, proofmarklaw02_TermKnown_r17, proofmarklaw02_TermKnown_r18, proofmarklaw02_TermKnown_r19, proofmarklaw02_TermKnown_r20, proofmarklaw02_TermKnown_r21, proofmarklaw02_TermKnown_r22, proofmarklaw02_TermKnown_r23, proofmarklaw02_TermKnown_r24, proofmarklaw02_TermKnown_r25, proofmarklaw02_TermKnown_r26, proofmarklaw02_TermKnown_r27, proofmarklaw02_TermKnown_r28, proofmarklaw02_TermKnown_r29, proofmarklaw02_TermKnown_r30, proofmarklaw02_TermKnown_r31, proofmarklaw02_TermKnown_r32, proofmarklaw02_TermKnown_r33, proofmarklaw02_TermKnown_r34, proofmarklaw02_TermKnown_r35, proofmarklaw02_TermKnown_r36, proofmarklaw02_TermKnown_r37, f1, f2, f3, hlt']
      refine ⟨t', r, ns, hns, ?_⟩
      and_intros <;> rfl
  · obtain ⟨rfl, t', r, ns, h2, f1, f2, rfl⟩ := hE
    exact hQ fr t' r ns h2 f1 f2

theorem tkc (hT : TabOk P tab) (F : Fmt P G) {v0 v1 v2 v3 v4 t : Nat} {vl : V} {Q : AE → Fr → H → Prop} {fr : Fr}
    (f1 : fget fr 1 = baseV) (f2 : fget fr 2 = vl) (f6 : fget fr 6 = .ptr 1 v0 0) (f7 : fget fr 7 = .int .i64 0) (f8 : fget fr 8 = .int .i64 0)
    (hQ : ∀ fr' t' w2 w3 w4, fget fr' 1 = baseV → fget fr' 2 = vl → fget fr' 6 = .ptr 1 v0 0 → fget fr' 7 = .int .i64 13 → Q (.ex 5) fr' ⟨t', kG F.fmt v0 v1 w2 w3 w4 (chain 13) ++ []⟩) :
    W P G 167 0 (.loop (AC.seq (AC.seq (AC.reg proofmarklaw02_TermKnown_r41 [90])   (AC.cond (Arg.t 91)   AC.skip   (AC.exit 5)))   (AC.seq (AC.block 6 (AC.reg proofmarklaw02_TermKnown_r42 [94, 95, 96, 97, 98]))   (AC.reg proofmarklaw02_TermKnown_r43 [92, 93])))) fr ⟨t, kG F.fmt v0 v1 v2 v3 v4 (chain 0) ++ []⟩ Q := by
  refine sem_invE (s := []) (fun m fr σ' => ∃ (i t' v2 v3 v4 : Nat), i ≤ 13 ∧ m = 13 - i ∧ fget fr 1 = baseV ∧ fget fr 2 = vl ∧ fget fr 6 = .ptr 1 v0 0 ∧ fget fr 7 = .int .i64 i ∧ fget fr 8 = .int .i64 i ∧ σ' = ⟨t', kG F.fmt v0 v1 v2 v3 v4 (chain i) ++ []⟩)
    (fun e fr σ' => e = .ex 5 ∧ ∃ (t' v2 v3 v4 : Nat), fget fr 1 = baseV ∧ fget fr 2 = vl ∧ fget fr 6 = .ptr 1 v0 0 ∧ fget fr 7 = .int .i64 13 ∧ σ' = ⟨t', kG F.fmt v0 v1 v2 v3 v4 (chain 13) ++ []⟩)
    (m0 := 13) ⟨0, t, v2, v3, v4, by omega, rfl, f1, f2, f6, f7, f8, rfl⟩ (fun m fr σ' hJ => ?_) (fun e fr σ' hE => ?_)
  · clear f1 f2 f6 f7 f8
    obtain ⟨i, t', v2, v3, v4, hi, rfl, f1, f2, f6, f7, f8, rfl⟩ := hJ
    rcases Nat.lt_or_ge i 13 with hlt | hge
    · have hwi : IntKind.i64.wrap ((i : Int) + 1) = ((i + 1 : Nat) : Int) := by
        rw [wrap_i64 (by omega) (by omega)]; rfl
      have hlt' : (i : Int) < 13 := by omega
      have hcl := chain_len i
      refine W_run 1000 ?_
      simp -implicitDefEqProofs (disch := omega) only [go_sem, ↓reduceIte, Nat.reduceAdd, Nat.reduceEqDiff, Nat.reduceLeDiff, Nat.zero_add, decide_true, Nat.le_refl, proofmarklaw02_TermKnown_r41, proofmarklaw02_TermKnown_r42, proofmarklaw02_TermKnown_r43, f6, f7, f8, hlt']
      refine callAddE hT F (lnk i) rfl (by omega) (lnk_ok i).1 (lnk_ok i).2 (chain_add i) 1000 fun t2 w2 w3 w4 ht2 => ?_
      simp -implicitDefEqProofs (disch := omega) only [go_sem, ↓reduceIte, Nat.reduceEqDiff, f8, hwi]
      refine ⟨13 - (i + 1), _, _, by omega, Shift.refl _ _ _ _, i + 1, t2, w2, w3, w4, hlt, rfl, ?_⟩
      simp -implicitDefEqProofs (disch := omega) only [go_sem, ↓reduceIte, Nat.reduceEqDiff, f1, f2, f6]
    · have hi13 : i = 13 := by omega
      subst hi13
      have f8' : fget fr 8 = .int .i64 13 := f8
      have f7' : fget fr 7 = .int .i64 13 := f7
      refine W_run 1000 ?_
      simp -implicitDefEqProofs (disch := omega) only [go_sem, ↓reduceIte, Nat.reduceEqDiff, Nat.reduceSub, Int.reduceLT, decide_false, proofmarklaw02_TermKnown_r41, proofmarklaw02_TermKnown_r42, proofmarklaw02_TermKnown_r43, f1, f2, f6, f7', f8']
      refine ⟨t', v2, v3, v4, ?_⟩
      and_intros <;> rfl
  · obtain ⟨rfl, t', v2, v3, v4, f1, f2, f6, f7, rfl⟩ := hE
    exact hQ fr t' v2 v3 v4 f1 f2 f6 f7
theorem c_TermKnown (hT : TabOk P tab) (F : Fmt P G) (hf : NumOk F.fmt) (hf1 : (F.fmt 1).length = 1) (SO : SortOk P) (hW : Pure P G n_proofmarklaw02_works [] fun v => v = .bool true) {t : Nat} :
   C P G 0 n_proofmarklaw02_TermKnown [] ⟨t, []⟩ fun v σ => v = .bool true := by
  have h13 := chain_text13 hf1
  have h14 := chain_text14 hf1
  have h13' : (((textL F.fmt (chain 13) 13).length : Nat) : Int) = 57339 := by rw [h13]; rfl
  have zc : zeroNd.cells = [.int .u8 0, .int .i64 0, .int .i64 0, .int .u8 0, .int .i64 0, .int .i64 0] := rfl
  have hz0 : ((0 : Nat) : Int) = 0 := rfl
  have l13 := chain_len 13
  have l14 := chain_len 14
  refine C_tab hT t_proofmarklaw02_TermKnown (by simp [proofmarklaw02_TermKnown]) (W_run 1000 ?_)
  simp -implicitDefEqProofs (disch := omega) only [go_sem, ↓reduceIte, reduceCtorEq, Nat.reduceAdd, Nat.reduceEqDiff, Nat.reduceLeDiff, Nat.zero_add, Nat.le_refl, proofmarklaw02_TermKnown, proofmarklaw02_TermKnown_r0, proofmarklaw02_TermKnown_r1, proofmarklaw02_TermKnown_r2, proofmarklaw02_TermKnown_r3, proofmarklaw02_TermKnown_r4, proofmarklaw02_TermKnown_r5, proofmarklaw02_TermKnown_r6, proofmarklaw02_TermKnown_r7, proofmarklaw02_TermKnown_r8, proofmarklaw02_TermKnown_r9, proofmarklaw02_TermKnown_r10, proofmarklaw02_TermKnown_r11, proofmarklaw02_TermKnown_r12, proofmarklaw02_TermKnown_r13, proofmarklaw02_TermKnown_r14, proofmarklaw02_TermKnown_r15, proofmarklaw02_TermKnown_r16, proofmarklaw02_TermKnown_r17, proofmarklaw02_TermKnown_r18, proofmarklaw02_TermKnown_r19, proofmarklaw02_TermKnown_r20, proofmarklaw02_TermKnown_r21, proofmarklaw02_TermKnown_r22, proofmarklaw02_TermKnown_r23, proofmarklaw02_TermKnown_r24, proofmarklaw02_TermKnown_r25, proofmarklaw02_TermKnown_r26, proofmarklaw02_TermKnown_r27, proofmarklaw02_TermKnown_r28, proofmarklaw02_TermKnown_r29, proofmarklaw02_TermKnown_r30, proofmarklaw02_TermKnown_r31, proofmarklaw02_TermKnown_r32, proofmarklaw02_TermKnown_r33, proofmarklaw02_TermKnown_r34, proofmarklaw02_TermKnown_r35, proofmarklaw02_TermKnown_r36, proofmarklaw02_TermKnown_r37, proofmarklaw02_TermKnown_r38, proofmarklaw02_TermKnown_r39, proofmarklaw02_TermKnown_r40, proofmarklaw02_TermKnown_r41, proofmarklaw02_TermKnown_r42, proofmarklaw02_TermKnown_r43, proofmarklaw02_TermKnown_r44, proofmarklaw02_TermKnown_r45, proofmarklaw02_TermKnown_r46, proofmarklaw02_TermKnown_r47, proofmarklaw02_TermKnown_r48, proofmarklaw02_TermKnown_r49, List.nil_append, List.length_nil]
  refine sem_shift (Shift.own (s := 2) (sz := 6) (T := 34) (z := 0) (by simp -implicitDefEqProofs (disch := omega) only [go_sem, ↓reduceIte, reduceCtorEq, Nat.reduceEqDiff]) (by decide)) (run_sem 1000 ?_)
  simp -implicitDefEqProofs (disch := omega) only [go_sem, ↓reduceIte, reduceCtorEq, Nat.reduceEqDiff, List.nil_append, List.length_nil]
  refine tk0 hT F SO hW (by unfold baseV; simp -implicitDefEqProofs (disch := omega) only [go_sem, ↓reduceIte, reduceCtorEq]) (by simp -implicitDefEqProofs (disch := omega) only [go_sem, ↓reduceIte, reduceCtorEq, Nat.reduceEqDiff]) (by simp -implicitDefEqProofs (disch := omega) only [go_sem, ↓reduceIte, reduceCtorEq, Nat.reduceEqDiff]) (fun fr1 t1 r ns hns g1 g2 => ?_)
  have hpa := p_Adds hT F hW ns hns
  have hpo := p_Once hT F hf SO hW ns hns
  refine run_sem 1 ?_
  simp -implicitDefEqProofs (disch := omega) only [go_sem, ↓reduceIte]
  refine sem_frz g1 g2 fun fr2 k1 k2 => ?_
  unfold baseV at k1
  refine run_sem 1000 ?_
  simp -implicitDefEqProofs (disch := omega) only [go_sem, ↓reduceIte]
  refine callNew hT F.fmt 1000 fun v0 v1 v2 v3 v4 t2 ht2 => ?_
  simp -implicitDefEqProofs (disch := omega) only [go_sem, ↓reduceIte, Nat.reduceAdd, Nat.reduceEqDiff, Nat.reduceLeDiff, Nat.zero_add]
  refine callAddE hT F ⟨2, 1, 0, 0, 0, 0⟩ rfl (by simp) ⟨by decide, by decide⟩ ⟨by decide, by decide⟩ chain_zero 1000 fun t3 x2 x3 x4 ht3 => ?_
  simp -implicitDefEqProofs (disch := omega) only [go_sem, ↓reduceIte]
  refine tkc hT F (vl := .lst 6 (ns.map fun d => .agg d.cells) false) (by unfold baseV; simp -implicitDefEqProofs (disch := omega) only [go_sem, ↓reduceIte, Nat.reduceEqDiff, k1]) (by simp -implicitDefEqProofs (disch := omega) only [go_sem, ↓reduceIte, Nat.reduceEqDiff, k2]) (by simp -implicitDefEqProofs (disch := omega) only [go_sem, ↓reduceIte, Nat.reduceEqDiff]) (by simp -implicitDefEqProofs (disch := omega) only [go_sem, ↓reduceIte, Nat.reduceEqDiff]) (by simp -implicitDefEqProofs (disch := omega) only [go_sem, ↓reduceIte]) (fun fr3 t4 w2 w3 w4 m1 m2 m6 m7 => ?_)
  unfold baseV at m1
  refine run_sem 1000 ?_
  simp -implicitDefEqProofs (disch := omega) only [go_sem, ↓reduceIte, Nat.reduceEqDiff, m6, m7]
  refine callT hT t_term_Graph_Text (k_Text hT F SO (by omega) (chain_ok 13)) 1000 fun t5 ht5 => ?_
  simp -implicitDefEqProofs (disch := omega) only [go_sem, ↓reduceIte, Nat.reduceAdd, Nat.reduceEqDiff, Nat.reduceLeDiff, Nat.zero_add, Nat.le_refl, m6, m7]
  refine callAddE hT F (lnk 13) rfl (by omega) (lnk_ok 13).1 (lnk_ok 13).2 (chain_add 13) 1000 fun t6 y2 y3 y4 ht6 => ?_
  simp -implicitDefEqProofs (disch := omega) only [go_sem, ↓reduceIte, Nat.reduceAdd, Nat.reduceEqDiff, m6]
  refine callT hT t_term_Graph_Text (k_Text hT F SO (id := 14) (by omega) (chain_ok 14)) 1000 fun t7 ht7 => ?_
  simp -implicitDefEqProofs (disch := omega) only [go_sem, ↓reduceIte]
  refine callPS hT t_term_Graph_Node (n_Node hT) rfl 1000 ?_
  simp -implicitDefEqProofs (disch := omega) only [go_sem, ↓reduceIte, Nat.reduceAdd, Nat.reduceEqDiff, Nat.reduceLT, Nat.zero_add, Bool.not_false, Nat.le_refl, Nat.zero_le, beq_self_eq_true, m2, h13', h14, kG_len0, kG_5, kGs_5, zc, List.nil_append, List.length_nil]
  refine callPS hT t_proofmarklaw02_TermOnce hpo rfl 1000 ?_
  simp -implicitDefEqProofs (disch := omega) only [go_sem, ↓reduceIte, Nat.reduceAdd, Nat.reduceEqDiff, m2]
  refine callPS hT t_proofmarklaw02_TermAdds hpa rfl 1000 ?_
  simp -implicitDefEqProofs (disch := omega) only [go_sem, ↓reduceIte, reduceCtorEq, Nat.reduceAdd, Nat.reduceEqDiff, Nat.reduceLT, Int.reduceToNat, Int.reduceLE, Nat.zero_add, Bool.not_false, Nat.le_refl, m1, List.length_nil]
  refine callPS hT t_term_Graph_Add (n_Add hT) rfl 1000 ?_
  simp -implicitDefEqProofs (disch := omega) only [go_sem, ↓reduceIte, Nat.reduceAdd, Nat.reduceEqDiff, beq_self_eq_true]
  refine callPS hT t_term_Graph_Size (n_Size hT) rfl 1000 ?_
  simp -implicitDefEqProofs (disch := omega) only [go_sem, ↓reduceIte, Nat.reduceAdd, Nat.reduceEqDiff, Nat.zero_add, Nat.le_refl, beq_self_eq_true, List.nil_append, List.length_nil]
  refine callPS hT t_term_Graph_Uses (n_Uses hT) rfl 1000 ?_
  simp -implicitDefEqProofs (disch := omega) only [go_sem, ↓reduceIte, Nat.reduceAdd, Nat.reduceEqDiff, beq_self_eq_true, hz0, List.length_nil]
  refine callPS hT t_term_Graph_Deep (n_Deep hT) rfl 1000 ?_
  simp -implicitDefEqProofs (disch := omega) only [go_sem, ↓reduceIte, Nat.reduceAdd, Nat.reduceEqDiff, beq_self_eq_true]
  refine callPS hT t_term_Graph_Text (n_Text hT) rfl 1000 ?_
  simp -implicitDefEqProofs (disch := omega) only [go_sem, ↓reduceIte, Nat.reduceAdd, Nat.reduceEqDiff, beq_self_eq_true]
  refine callPS hT t_proofmarklaw02_works hW rfl 1000 ?_
  simp -implicitDefEqProofs (disch := omega) only [go_sem, ↓reduceIte, reduceCtorEq, Nat.reduceEqDiff]
end Go.Proofs.YtchcnfokhagpkaaDoor
