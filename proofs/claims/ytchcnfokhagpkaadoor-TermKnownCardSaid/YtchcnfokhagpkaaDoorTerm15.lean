/- The law TermGrows. -/
import Derived.Test.YtchcnfokhagpkaaDoorTerm14
namespace Go.Proofs.YtchcnfokhagpkaaDoor
open Go Go.Am
set_option maxRecDepth 100000
set_option maxHeartbeats 1000000
variable {P : Program} {G : Nat → Option V}

theorem callAdd (hT : TabOk P tab) (F : Fmt P G) {n : Nat} {Q : AE → Fr → H → Prop} {t : AT} {dd : Option Nat} {dead : List Nat} {s : List KI} {fr : Fr} {v0 v1 v2 v3 v4 c : Nat} {L : List Nd} {ex : List (Option Ob)} (d : Nd) (hL : L.length ≤ 1000000) (hn : i64 d.n) (ha : i64 d.a) (fuel : Nat)
    (k : ∀ c' w2 w3 w4, c ≤ c' → run P G n 0 Q fuel (.at t dead :: s) .nrm (fput fr dd (.int .i64 (addN L d).1)) ⟨c', kG F.fmt v0 v1 w2 w3 w4 (addN L d).2 ++ ex⟩) :
    CV P G 0 (.fn (.func n_term_Graph_Add) [] []) [.ptr 1 v0 0, .agg d.cells] ⟨c, kG F.fmt v0 v1 v2 v3 v4 L ++ ex⟩ (kC P G n 0 Q dd t dead s fr) :=
  call hT t_term_Graph_Add (k_Add hT F d hL hn ha) fuel fun v σ hv => by
    obtain ⟨h1, c', w2, w3, w4, h2, h3⟩ := hv
    rw [h1, h3]; exact k c' w2 w3 w4 h2

theorem kG_len0 {fmt : Int → List UInt8} {v0 v1 v2 v3 v4 : Nat} {L : List Nd} : (kG fmt v0 v1 v2 v3 v4 L).length = 5 := rfl
def addAll (L l : List Nd) : List Nd := l.foldl (fun L d => (addN L d).2) L
theorem addAll_len (L l : List Nd) : (addAll L l).length ≤ L.length + l.length := madeL_len l L

theorem tg1 (hT : TabOk P tab) (F : Fmt P G) {v0 v1 v2 v3 v4 r8 r9 n t : Nat} {A more : List Nd} {tight : Bool} {x5 x6 : Option Ob} (hA : A.length ≤ 100) (hm : more.length ≤ 100) (hl : ∀ d ∈ more, i64 d.n ∧ i64 d.a) {Q : AE → Fr → H → Prop} {fr : Fr}
    (f1 : fget fr 1 = .lst 6 (more.map fun d => .agg d.cells) tight) (f5 : fget fr 5 = .ptr 1 v0 0) (f7 : fget fr 7 = .int .i64 n) (f8 : fget fr 8 = .sl 5 r8 0 6 n none) (f9 : fget fr 9 = .sl 6 r9 0 1 n none) (f13 : fget fr 13 = .int .i64 0)
    (hQ : ∀ fr' t' v2' v3' v4', fget fr' 5 = .ptr 1 v0 0 → fget fr' 7 = .int .i64 n → fget fr' 8 = .sl 5 r8 0 6 n none → fget fr' 9 = .sl 6 r9 0 1 n none → Q (.ex 2) fr' ⟨t', kG F.fmt v0 v1 v2' v3' v4' (addAll A more) ++ [x5, x6]⟩) :
    W P G 172 0 (.loop (AC.seq (AC.seq (AC.reg proofmarklaw02_TermGrows_r16 [65, 66, 67])   (AC.cond (Arg.t 68)   AC.skip   (AC.exit 2)))   (AC.seq (AC.block 3 (AC.reg proofmarklaw02_TermGrows_r17 [71, 72, 73, 74, 75, 76]))   (AC.reg proofmarklaw02_TermGrows_r18 [69, 70])))) fr ⟨t, kG F.fmt v0 v1 v2 v3 v4 A ++ [x5, x6]⟩ Q := by
  refine sem_invE (s := []) (fun m fr σ' => ∃ (i t' v2' v3' v4' : Nat), i ≤ more.length ∧ m = more.length - i ∧ fget fr 1 = .lst 6 (more.map fun d => .agg d.cells) tight ∧ fget fr 5 = .ptr 1 v0 0 ∧ fget fr 7 = .int .i64 n ∧ fget fr 8 = .sl 5 r8 0 6 n none ∧ fget fr 9 = .sl 6 r9 0 1 n none ∧ fget fr 13 = .int .i64 i ∧
       σ' = ⟨t', kG F.fmt v0 v1 v2' v3' v4' (addAll A (more.take i)) ++ [x5, x6]⟩)
    (fun e fr σ' => e = .ex 2 ∧ fget fr 5 = .ptr 1 v0 0 ∧ fget fr 7 = .int .i64 n ∧ fget fr 8 = .sl 5 r8 0 6 n none ∧ fget fr 9 = .sl 6 r9 0 1 n none ∧ ∃ (t' v2' v3' v4' : Nat), σ' = ⟨t', kG F.fmt v0 v1 v2' v3' v4' (addAll A more) ++ [x5, x6]⟩)
    (m0 := more.length) ⟨0, t, v2, v3, v4, Nat.zero_le _, rfl, f1, f5, f7, f8, f9, f13, rfl⟩ (fun m fr σ' hJ => ?_) (fun e fr σ' hE => ?_)
  · clear f1 f5 f7 f8 f9 f13
    obtain ⟨i, t', v2', v3', v4', hi, rfl, f1, f5, f7, f8, f9, f13, rfl⟩ := hJ
    refine W_run 1000 ?_
    rcases Nat.lt_or_ge i more.length with hlt | hge
    · obtain ⟨d, hd⟩ : ∃ d, more[i]? = some d := ⟨_, List.getElem?_eq_getElem hlt⟩
      obtain ⟨hn, ha⟩ := hl d (List.mem_of_getElem? hd)
      have hc6 : d.cells.length = 6 := rfl
      have ht6 : d.cells.take 6 = d.cells := rfl
      have hg : (more.map fun d => V.agg d.cells).getD i .any = .agg d.cells := by simp [List.getD_eq_getElem?_getD, hd]
      have hLl := addAll_len A (more.take i)
      have hnext : (addN (addAll A (more.take i)) d).2 = addAll A (more.take (i + 1)) := by rw [take_snoc2 hd, addAll, addAll, List.foldl_append]; rfl
      have hwi : IntKind.i64.wrap ((i : Int) + 1) = ((i + 1 : Nat) : Int) := by
        rw [wrap_i64 (by omega) (by omega)]; rfl
      have htl : (more.take i).length ≤ 100 := by rw [List.length_take]; omega
      simp -implicitDefEqProofs (disch := omega) only [go_sem, need_of, ↓reduceIte, reduceCtorEq, Nat.reduceEqDiff, Nat.zero_add, decide_true, Nat.le_refl, proofmarklaw02_TermGrows_r16, proofmarklaw02_TermGrows_r17, proofmarklaw02_TermGrows_r18, List.length_map, f1, f5, f13, hlt, hg, hc6, ht6]
      refine callAdd hT F d (by omega) hn ha 1000 fun c' w2 w3 w4 hc' => ?_
      simp -implicitDefEqProofs (disch := omega) only [go_sem, ↓reduceIte, Nat.reduceEqDiff, f13, hwi]
      refine ⟨more.length - (i + 1), _, _, by omega, Shift.refl _ _ _ _, i + 1, c', w2, w3, w4, hlt, rfl, ?_⟩
      simp -implicitDefEqProofs (disch := omega) only [go_sem, ↓reduceIte, Nat.reduceEqDiff, f1, f5, f7, f8, f9, hnext]
    · simp -implicitDefEqProofs (disch := omega) only [go_sem, ↓reduceIte, Nat.reduceEqDiff, decide_false, proofmarklaw02_TermGrows_r16, proofmarklaw02_TermGrows_r17, proofmarklaw02_TermGrows_r18, List.length_map, f1, f5, f7, f8, f9, f13, show ¬ i < more.length from by omega]
      rw [List.take_of_length_le (by omega)]
      exact ⟨t', v2', v3', v4', rfl, rfl⟩
  · obtain ⟨rfl, f5, f7, f8, f9, t', v2', v3', v4', rfl⟩ := hE
    exact hQ fr t' v2' v3' v4' f5 f7 f8 f9

theorem txs_succ (fmt : Int → List UInt8) (A : List Nd) (i : Nat) : txs fmt A (i + 1) = txs fmt A i ++ [.str (textL fmt A (i : Int))] := by simp [txs, List.range_succ]
theorem txs_len (fmt : Int → List UInt8) (A : List Nd) (i : Nat) : (txs fmt A i).length = i := by simp [txs]

theorem tg0 (hT : TabOk P tab) (F : Fmt P G) (SO : SortOk P) (hW : Pure P G n_proofmarklaw02_works [] fun v => v = .bool true) {v0 v1 v2 v3 v4 r8 r9 t : Nat} {A : List Nd} {vm : V} (hA : A.length ≤ 100) (hok : okN A) {Q : AE → Fr → H → Prop} {fr : Fr}
    (f1 : fget fr 1 = vm) (f5 : fget fr 5 = .ptr 1 v0 0) (f7 : fget fr 7 = .int .i64 A.length) (f8 : fget fr 8 = .sl 5 r8 0 6 0 none) (f9 : fget fr 9 = .sl 6 r9 0 1 0 none) (f10 : fget fr 10 = .int .i64 0)
    (hQr : ∀ fr' σ', fget fr' 4 = .bool true → Q .ret fr' σ')
    (hQ : ∀ fr' t' r8 r9, fget fr' 1 = vm → fget fr' 5 = .ptr 1 v0 0 → fget fr' 7 = .int .i64 A.length → fget fr' 8 = .sl 5 r8 0 6 A.length none → fget fr' 9 = .sl 6 r9 0 1 A.length none → Q (.ex 0) fr' ⟨t', kG F.fmt v0 v1 v2 v3 v4 A ++ [some (.arr r8 34 (ndC A)), some (.arr r9 9 (txs F.fmt A A.length))]⟩) :
    W P G 172 0 (.loop (AC.seq (AC.seq (AC.reg proofmarklaw02_TermGrows_r8 [39, 40])   (AC.cond (Arg.t 41)   AC.skip   (AC.exit 0)))   (AC.seq (AC.block 1 (AC.seq (AC.reg proofmarklaw02_TermGrows_r9 [45, 46, 47, 44, 48, 49, 12])   (AC.seq (AC.reg proofmarklaw02_TermGrows_r10 [50, 51, 52, 53])   (AC.seq (AC.seq (AC.reg proofmarklaw02_TermGrows_r11 [54, 55, 56])   (AC.cond (Arg.t 57)   (AC.seq (AC.reg proofmarklaw02_TermGrows_r12 [58])   AC.ret)   AC.skip))   (AC.reg proofmarklaw02_TermGrows_r13 [59, 60, 61, 62, 63, 64])))))   (AC.reg proofmarklaw02_TermGrows_r14 [42, 43])))) fr ⟨t, kG F.fmt v0 v1 v2 v3 v4 A ++ [some (.arr r8 34 []), some (.arr r9 9 [])]⟩ Q := by
  refine sem_invE (s := []) (fun m fr σ' => ∃ (i t' r8 r9 : Nat), i ≤ A.length ∧ m = A.length - i ∧ fget fr 1 = vm ∧ fget fr 5 = .ptr 1 v0 0 ∧ fget fr 7 = .int .i64 A.length ∧ fget fr 8 = .sl 5 r8 0 6 i none ∧ fget fr 9 = .sl 6 r9 0 1 i none ∧ fget fr 10 = .int .i64 i ∧
       σ' = ⟨t', kG F.fmt v0 v1 v2 v3 v4 A ++ [some (.arr r8 34 (ndC (A.take i))), some (.arr r9 9 (txs F.fmt A i))]⟩)
    (fun e fr σ' => (e = .ret ∧ fget fr 4 = .bool true) ∨ (e = .ex 0 ∧ fget fr 1 = vm ∧ fget fr 5 = .ptr 1 v0 0 ∧ fget fr 7 = .int .i64 A.length ∧ ∃ (t' r8 r9 : Nat), fget fr 8 = .sl 5 r8 0 6 A.length none ∧ fget fr 9 = .sl 6 r9 0 1 A.length none ∧ σ' = ⟨t', kG F.fmt v0 v1 v2 v3 v4 A ++ [some (.arr r8 34 (ndC A)), some (.arr r9 9 (txs F.fmt A A.length))]⟩))
    (m0 := A.length) ⟨0, t, r8, r9, Nat.zero_le _, rfl, f1, f5, f7, f8, f9, f10, rfl⟩ (fun m fr σ' hJ => ?_) (fun e fr σ' hE => ?_)
  · clear f1 f5 f7 f8 f9 f10
    obtain ⟨i, t', r8, r9, hi, rfl, f1, f5, f7, f8, f9, f10, rfl⟩ := hJ
    refine W_run 1000 ?_
    rcases Nat.lt_or_ge i A.length with hlt | hge
    · obtain ⟨d, hd⟩ : ∃ d, A[i]? = some d := ⟨_, List.getElem?_eq_getElem hlt⟩
      have hnl := ndC_length (A.take i)
      rw [List.length_take, Nat.min_eq_left (by omega)] at hnl
      have htl := txs_len F.fmt A i
      have hwi : IntKind.i64.wrap ((i : Int) + 1) = ((i + 1 : Nat) : Int) := by
        rw [wrap_i64 (by omega) (by omega)]; rfl
      have hns : ndC (A.take i) ++ d.cells = ndC (A.take (i + 1)) := by rw [take_snoc2 hd, ndC_snoc]
      have hts := txs_succ F.fmt A i
      by_cases hbig : 10 < (deeps A).getD i 0
      · simp -implicitDefEqProofs (disch := omega) only [go_sem, ↓reduceIte, Nat.reduceEqDiff, decide_true, proofmarklaw02_TermGrows_r8, proofmarklaw02_TermGrows_r9, proofmarklaw02_TermGrows_r10, proofmarklaw02_TermGrows_r11, proofmarklaw02_TermGrows_r12, proofmarklaw02_TermGrows_r13, proofmarklaw02_TermGrows_r14, f5, f7, f10, hlt]
        refine callT hT t_term_Graph_Node (k_NodeAt hT hd) 1000 fun t1 ht1 => ?_
        simp -implicitDefEqProofs (disch := omega) only [go_sem, need_of, ↓reduceIte, reduceCtorEq, Nat.reduceAdd, Nat.reduceEqDiff, Nat.reduceLeDiff, Nat.reduceLT, Nat.zero_add, Bool.not_true, Bool.not_false, Nat.le_refl, Nat.zero_le, f5, f8, f10, Nd.cells, kG_len, kG_app, kG_5, kG_7, kGs_5, kGs_7, List.length_cons, List.length_nil, List.cons_append, List.nil_append, hnl]
        refine callT hT t_term_Graph_Deep (k_DeepAt hT hlt) 1000 fun t2 ht2 => ?_
        simp -implicitDefEqProofs (disch := omega) only [go_sem, ↓reduceIte, Nat.reduceEqDiff, decide_true, gt_iff_lt, hbig]
        refine callPS hT t_proofmarklaw02_works hW rfl 1000 ?_
        simp -implicitDefEqProofs (disch := omega) only [go_sem, ↓reduceIte, reduceCtorEq, Nat.reduceEqDiff]
        try simp
      · simp -implicitDefEqProofs (disch := omega) only [go_sem, ↓reduceIte, Nat.reduceEqDiff, decide_true, proofmarklaw02_TermGrows_r8, proofmarklaw02_TermGrows_r9, proofmarklaw02_TermGrows_r10, proofmarklaw02_TermGrows_r11, proofmarklaw02_TermGrows_r12, proofmarklaw02_TermGrows_r13, proofmarklaw02_TermGrows_r14, f5, f7, f10, hlt]
        refine callT hT t_term_Graph_Node (k_NodeAt hT hd) 1000 fun t1 ht1 => ?_
        simp -implicitDefEqProofs (disch := omega) only [go_sem, need_of, ↓reduceIte, reduceCtorEq, Nat.reduceAdd, Nat.reduceEqDiff, Nat.reduceLeDiff, Nat.reduceLT, Nat.zero_add, Bool.not_true, Bool.not_false, Nat.le_refl, Nat.zero_le, f5, f8, f10, Nd.cells, kG_len, kG_app, kG_5, kG_7, kGs_5, kGs_7, List.length_cons, List.length_nil, List.cons_append, List.nil_append, hnl]
        refine callT hT t_term_Graph_Deep (k_DeepAt hT hlt) 1000 fun t2 ht2 => ?_
        simp -implicitDefEqProofs (disch := omega) only [go_sem, ↓reduceIte, Nat.reduceEqDiff, decide_false, gt_iff_lt, f5, f9, f10, hbig]
        refine callT hT t_term_Graph_Text (k_Text hT F SO (by omega) hok) 1000 fun t3 ht3 => ?_
        simp -implicitDefEqProofs (disch := omega) only [go_sem, need_of, ↓reduceIte, reduceCtorEq, Nat.reduceEqDiff, Nat.reduceLeDiff, Nat.zero_add, Nat.mul_one, Bool.not_true, Nat.le_refl, Nat.zero_le, f10, kG_6, kGs_6, List.length_cons, List.length_nil, List.cons_append, List.nil_append, htl]
        refine ⟨A.length - (i + 1), _, _, by omega, Shift.drop (o' := kG F.fmt v0 v1 v2 v3 v4 A ++ [some (.arr (t1 + 1) 34 (ndC (A.take (i + 1)))), some (.arr t3 9 (txs F.fmt A (i + 1)))]) (t' := t3 + 1) (by rw [← hns, hts]; simp [subObs, kG, Nd.cells]) (Nat.le_refl _) (Nat.zero_le _), i + 1, t3 + 1, t1 + 1, t3, hlt, rfl, ?_⟩
        simp -implicitDefEqProofs (disch := omega) only [go_sem, ↓reduceIte, Nat.reduceEqDiff, f1, f5, f7, hwi]
    · have hil : i = A.length := by omega
      subst hil
      simp -implicitDefEqProofs (disch := omega) only [go_sem, ↓reduceIte, reduceCtorEq, Nat.reduceEqDiff, decide_false, proofmarklaw02_TermGrows_r8, proofmarklaw02_TermGrows_r9, proofmarklaw02_TermGrows_r10, proofmarklaw02_TermGrows_r11, proofmarklaw02_TermGrows_r12, proofmarklaw02_TermGrows_r13, proofmarklaw02_TermGrows_r14, f1, f5, f7, f8, f9, f10, show ¬ A.length < A.length from by omega, List.take_length]
      exact ⟨t', r8, r9, rfl, rfl, rfl, rfl⟩
  · rcases hE with ⟨rfl, h4⟩ | ⟨rfl, f1, f5, f7, t', r8, r9, f8, f9, rfl⟩
    · exact hQr fr σ' h4
    · exact hQ fr t' r8 r9 f1 f5 f7 f8 f9

theorem callMade (hT : TabOk P tab) (F : Fmt P G) {n : Nat} {Q : AE → Fr → H → Prop} {t : AT} {dd : Option Nat} {dead : List Nat} {s : List KI} {fr : Fr} {c : Nat} (l : List Nd) (tight : Bool) (hl : ∀ d ∈ l, i64 d.n ∧ i64 d.a) (hll : l.length ≤ 1000) (fuel : Nat)
    (k : ∀ v0 v1 v2 v3 v4 c' u, c ≤ c' → run P G n 0 Q fuel (.at t dead :: s) .nrm (fput fr dd (.tup [.ptr 1 v0 0, u])) ⟨c', kG F.fmt v0 v1 v2 v3 v4 (madeL l) ++ []⟩) :
    CV P G 0 (.fn (.func n_proofmarkkit_Made) [] []) [.lst 6 (l.map fun d => .agg d.cells) tight] ⟨c, []⟩ (kC P G n 0 Q dd t dead s fr) :=
  call hT t_proofmarkkit_Made (c_Made hT F l tight hl hll) fuel fun v σ hv => by
    obtain ⟨v0, v1, v2, v3, v4, c', u, h1, h2, h3⟩ := hv
    rw [h2, h3]
    have := k v0 v1 v2 v3 v4 c' u h1
    rwa [List.append_nil] at this

theorem c_TermGrows (hT : TabOk P tab) (F : Fmt P G) (SO : SortOk P) (hW : Pure P G n_proofmarklaw02_works [] fun v => v = .bool true) {t : Nat} (l more : List Nd) (tl tm : Bool) (hl : ∀ d ∈ l, i64 d.n ∧ i64 d.a) (hm : ∀ d ∈ more, i64 d.n ∧ i64 d.a) :
   C P G 0 n_proofmarklaw02_TermGrows [.lst 6 (l.map fun d => .agg d.cells) tl, .lst 6 (more.map fun d => .agg d.cells) tm] ⟨t, []⟩ fun v σ => v = .bool true := by
  have hA := madeL_len l []
  have hokA := okN_made l hl
  have hokB := okN_fold more (madeL l) hokA hm
  have hpre := pre_fold more (madeL l)
  have hBl := addAll_len (madeL l) more
  have hAe : madeL l = l.foldl (fun L d => (addN L d).2) [] := rfl
  rw [← hAe] at hA
  simp only [List.length_nil] at hA
  have hB : addAll (madeL l) more = more.foldl (fun L d => (addN L d).2) (madeL l) := rfl
  rw [← hB] at hokB hpre
  have hABl := hpre.length_le
  refine C_tab hT t_proofmarklaw02_TermGrows (by simp [proofmarklaw02_TermGrows]) (W_run 1000 ?_)
  by_cases h1 : (30 : Int) < l.length
  · simp -implicitDefEqProofs (disch := omega) only [go_sem, ↓reduceIte, reduceCtorEq, Nat.reduceEqDiff, Nat.zero_add, decide_true, gt_iff_lt, proofmarklaw02_TermGrows, proofmarklaw02_TermGrows_r0, proofmarklaw02_TermGrows_r1, proofmarklaw02_TermGrows_r2, proofmarklaw02_TermGrows_r3, proofmarklaw02_TermGrows_r4, proofmarklaw02_TermGrows_r5, proofmarklaw02_TermGrows_r6, proofmarklaw02_TermGrows_r7, proofmarklaw02_TermGrows_r8, proofmarklaw02_TermGrows_r9, proofmarklaw02_TermGrows_r10, proofmarklaw02_TermGrows_r11, proofmarklaw02_TermGrows_r12, proofmarklaw02_TermGrows_r13, proofmarklaw02_TermGrows_r14, proofmarklaw02_TermGrows_r15, proofmarklaw02_TermGrows_r16, proofmarklaw02_TermGrows_r17, proofmarklaw02_TermGrows_r18, proofmarklaw02_TermGrows_r19, proofmarklaw02_TermGrows_r20, proofmarklaw02_TermGrows_r21, proofmarklaw02_TermGrows_r22, proofmarklaw02_TermGrows_r23, proofmarklaw02_TermGrows_r24, proofmarklaw02_TermGrows_r25, proofmarklaw02_TermGrows_r26, proofmarklaw02_TermGrows_r27, proofmarklaw02_TermGrows_r28, proofmarklaw02_TermGrows_r29, proofmarklaw02_TermGrows_r30, proofmarklaw02_TermGrows_r31, proofmarklaw02_TermGrows_r32, proofmarklaw02_TermGrows_r33, proofmarklaw02_TermGrows_r34, proofmarklaw02_TermGrows_r35, proofmarklaw02_TermGrows_r36, proofmarklaw02_TermGrows_r37, proofmarklaw02_TermGrows_r38, proofmarklaw02_TermGrows_r39, proofmarklaw02_TermGrows_r40, proofmarklaw02_TermGrows_r41, proofmarklaw02_TermGrows_r42, proofmarklaw02_TermGrows_r43, proofmarklaw02_TermGrows_r44, List.length_map, h1]
    refine callPS hT t_proofmarklaw02_works hW rfl 1000 ?_
    simp -implicitDefEqProofs (disch := omega) only [go_sem, ↓reduceIte, reduceCtorEq, Nat.reduceEqDiff]
  · by_cases h2 : (20 : Int) < more.length
    · simp -implicitDefEqProofs (disch := omega) only [go_sem, ↓reduceIte, reduceCtorEq, Nat.reduceAdd, Nat.reduceEqDiff, Nat.zero_add, decide_true, decide_false, gt_iff_lt, proofmarklaw02_TermGrows, proofmarklaw02_TermGrows_r0, proofmarklaw02_TermGrows_r1, proofmarklaw02_TermGrows_r2, proofmarklaw02_TermGrows_r3, proofmarklaw02_TermGrows_r4, proofmarklaw02_TermGrows_r5, proofmarklaw02_TermGrows_r6, proofmarklaw02_TermGrows_r7, proofmarklaw02_TermGrows_r8, proofmarklaw02_TermGrows_r9, proofmarklaw02_TermGrows_r10, proofmarklaw02_TermGrows_r11, proofmarklaw02_TermGrows_r12, proofmarklaw02_TermGrows_r13, proofmarklaw02_TermGrows_r14, proofmarklaw02_TermGrows_r15, proofmarklaw02_TermGrows_r16, proofmarklaw02_TermGrows_r17, proofmarklaw02_TermGrows_r18, proofmarklaw02_TermGrows_r19, proofmarklaw02_TermGrows_r20, proofmarklaw02_TermGrows_r21, proofmarklaw02_TermGrows_r22, proofmarklaw02_TermGrows_r23, proofmarklaw02_TermGrows_r24, proofmarklaw02_TermGrows_r25, proofmarklaw02_TermGrows_r26, proofmarklaw02_TermGrows_r27, proofmarklaw02_TermGrows_r28, proofmarklaw02_TermGrows_r29, proofmarklaw02_TermGrows_r30, proofmarklaw02_TermGrows_r31, proofmarklaw02_TermGrows_r32, proofmarklaw02_TermGrows_r33, proofmarklaw02_TermGrows_r34, proofmarklaw02_TermGrows_r35, proofmarklaw02_TermGrows_r36, proofmarklaw02_TermGrows_r37, proofmarklaw02_TermGrows_r38, proofmarklaw02_TermGrows_r39, proofmarklaw02_TermGrows_r40, proofmarklaw02_TermGrows_r41, proofmarklaw02_TermGrows_r42, proofmarklaw02_TermGrows_r43, proofmarklaw02_TermGrows_r44, List.length_map, h1, h2]
      refine callPS hT t_proofmarklaw02_works hW rfl 1000 ?_
      simp -implicitDefEqProofs (disch := omega) only [go_sem, ↓reduceIte, reduceCtorEq, Nat.reduceEqDiff]
    · simp -implicitDefEqProofs (disch := omega) only [go_sem, ↓reduceIte, reduceCtorEq, Nat.reduceAdd, Nat.reduceEqDiff, Nat.zero_add, decide_false, gt_iff_lt, proofmarklaw02_TermGrows, proofmarklaw02_TermGrows_r0, proofmarklaw02_TermGrows_r1, proofmarklaw02_TermGrows_r2, proofmarklaw02_TermGrows_r3, proofmarklaw02_TermGrows_r4, proofmarklaw02_TermGrows_r5, proofmarklaw02_TermGrows_r6, proofmarklaw02_TermGrows_r7, proofmarklaw02_TermGrows_r8, proofmarklaw02_TermGrows_r9, proofmarklaw02_TermGrows_r10, proofmarklaw02_TermGrows_r11, proofmarklaw02_TermGrows_r12, proofmarklaw02_TermGrows_r13, proofmarklaw02_TermGrows_r14, proofmarklaw02_TermGrows_r15, proofmarklaw02_TermGrows_r16, proofmarklaw02_TermGrows_r17, proofmarklaw02_TermGrows_r18, proofmarklaw02_TermGrows_r19, proofmarklaw02_TermGrows_r20, proofmarklaw02_TermGrows_r21, proofmarklaw02_TermGrows_r22, proofmarklaw02_TermGrows_r23, proofmarklaw02_TermGrows_r24, proofmarklaw02_TermGrows_r25, proofmarklaw02_TermGrows_r26, proofmarklaw02_TermGrows_r27, proofmarklaw02_TermGrows_r28, proofmarklaw02_TermGrows_r29, proofmarklaw02_TermGrows_r30, proofmarklaw02_TermGrows_r31, proofmarklaw02_TermGrows_r32, proofmarklaw02_TermGrows_r33, proofmarklaw02_TermGrows_r34, proofmarklaw02_TermGrows_r35, proofmarklaw02_TermGrows_r36, proofmarklaw02_TermGrows_r37, proofmarklaw02_TermGrows_r38, proofmarklaw02_TermGrows_r39, proofmarklaw02_TermGrows_r40, proofmarklaw02_TermGrows_r41, proofmarklaw02_TermGrows_r42, proofmarklaw02_TermGrows_r43, proofmarklaw02_TermGrows_r44, List.length_map, h1, h2]
      refine callMade hT F l tl hl (by omega) 1000 fun v0 v1 v2 v3 v4 c1 u hc1 => ?_
      simp -implicitDefEqProofs (disch := omega) only [go_sem, ↓reduceIte, reduceCtorEq, Nat.reduceAdd, Nat.reduceEqDiff, Nat.reduceLT, Nat.zero_add]
      refine callT hT t_term_Graph_Size (k_Size hT) 1000 fun c2 hc2 => ?_
      simp -implicitDefEqProofs (disch := omega) only [go_sem, ↓reduceIte, reduceCtorEq, Nat.reduceEqDiff]
      refine sem_shift (Shift.own (s := 8) (sz := 6) (T := 34) (z := 0) (by simp -implicitDefEqProofs (disch := omega) only [go_sem, ↓reduceIte, reduceCtorEq, Nat.reduceEqDiff]) (by decide)) (run_sem 1000 ?_)
      simp -implicitDefEqProofs (disch := omega) only [go_sem, ↓reduceIte, reduceCtorEq, Nat.reduceEqDiff, kG_len0]
      refine sem_shift (Shift.own (s := 9) (sz := 1) (T := 9) (z := 0) (by simp -implicitDefEqProofs (disch := omega) only [go_sem, ↓reduceIte, reduceCtorEq, Nat.reduceEqDiff]) (by decide)) (run_sem 1000 ?_)
      simp -implicitDefEqProofs (disch := omega) only [go_sem, ↓reduceIte, reduceCtorEq, Nat.reduceAdd, Nat.reduceEqDiff, Nat.zero_add, kG_len, kG_app, List.length_nil, List.length_cons, List.nil_append, List.cons_append]
      refine tg0 hT F SO hW (vm := .lst 6 (more.map fun d => .agg d.cells) tm) (by omega) hokA (by simp -implicitDefEqProofs (disch := omega) only [go_sem, ↓reduceIte, reduceCtorEq]) (by simp -implicitDefEqProofs (disch := omega) only [go_sem, ↓reduceIte, reduceCtorEq, Nat.reduceEqDiff]) (by simp -implicitDefEqProofs (disch := omega) only [go_sem, ↓reduceIte, reduceCtorEq, Nat.reduceEqDiff]) (by simp -implicitDefEqProofs (disch := omega) only [go_sem, ↓reduceIte, reduceCtorEq, Nat.reduceEqDiff]) (by simp -implicitDefEqProofs (disch := omega) only [go_sem, ↓reduceIte, reduceCtorEq, Nat.reduceEqDiff]) (by simp -implicitDefEqProofs (disch := omega) only [go_sem, ↓reduceIte, reduceCtorEq, Nat.reduceEqDiff]) (fun fr' σ' h4 => ?_) (fun fr' c3 r8 r9 g1 g5 g7 g8 g9 => ?_)
      · refine run_sem 1000 ?_
        simp -implicitDefEqProofs (disch := omega) only [go_sem, h4]
      · refine run_sem 1000 ?_
        simp -implicitDefEqProofs (disch := omega) only [go_sem, ↓reduceIte]
        refine tg1 hT F (n := (madeL l).length) (r8 := r8) (r9 := r9) (more := more) (tight := tm) (by omega) (by omega) hm (by simp -implicitDefEqProofs (disch := omega) only [go_sem, ↓reduceIte, Nat.reduceEqDiff, g1]) (by simp -implicitDefEqProofs (disch := omega) only [go_sem, ↓reduceIte, Nat.reduceEqDiff, g5]) (by simp -implicitDefEqProofs (disch := omega) only [go_sem, ↓reduceIte, Nat.reduceEqDiff, g7]) (by simp -implicitDefEqProofs (disch := omega) only [go_sem, ↓reduceIte, Nat.reduceEqDiff, g8]) (by simp -implicitDefEqProofs (disch := omega) only [go_sem, ↓reduceIte, Nat.reduceEqDiff, g9]) (by simp -implicitDefEqProofs (disch := omega) only [go_sem, ↓reduceIte]) (fun fr'' c4 w2 w3 w4 k5 k7 k8 k9 => ?_)
        refine run_sem 1000 ?_
        simp -implicitDefEqProofs (disch := omega) only [go_sem, ↓reduceIte, k5]
        refine callT hT t_term_Graph_Size (k_Size hT) 1000 fun c5 hc5 => ?_
        simp -implicitDefEqProofs (disch := omega) only [go_sem, ↓reduceIte, Nat.reduceEqDiff, decide_false, k7, show ¬ (addAll (madeL l) more).length < (madeL l).length from by omega]
        refine tg2 hT F SO hpre (by omega) hokB (by simp -implicitDefEqProofs (disch := omega) only [go_sem, ↓reduceIte, Nat.reduceEqDiff, k5]) (by simp -implicitDefEqProofs (disch := omega) only [go_sem, ↓reduceIte, Nat.reduceEqDiff, k7]) (by simp -implicitDefEqProofs (disch := omega) only [go_sem, ↓reduceIte, Nat.reduceEqDiff, k8]) (by simp -implicitDefEqProofs (disch := omega) only [go_sem, ↓reduceIte, Nat.reduceEqDiff, k9]) (by simp -implicitDefEqProofs (disch := omega) only [go_sem, ↓reduceIte]) (fun fr3 σ3 => ?_)
        refine run_sem 1000 ?_
        simp -implicitDefEqProofs (disch := omega) only [go_sem, ↓reduceIte]
        refine callPS hT t_proofmarklaw02_works hW rfl 1000 ?_
        simp -implicitDefEqProofs (disch := omega) only [go_sem, ↓reduceIte, Nat.reduceEqDiff]
end Go.Proofs.YtchcnfokhagpkaaDoor
