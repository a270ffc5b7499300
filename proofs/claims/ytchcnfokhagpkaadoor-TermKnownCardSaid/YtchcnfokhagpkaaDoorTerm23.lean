/- The law TermOnce. -/
import Derived.Test.YtchcnfokhagpkaaDoorTerm22
import Derived.Test.YtchcnfokhagpkaaDoorTerm21
namespace Go.Proofs.YtchcnfokhagpkaaDoor
open Go Go.Am
set_option maxRecDepth 100000
set_option maxHeartbeats 1000000
variable {P : Program} {G : Nat → Option V}

theorem callAgain (hT : TabOk P tab) (F : Fmt P G) {n : Nat} {Q : AE → Fr → H → Prop} {t : AT} {dd : Option Nat} {dead : List Nat} {s : List KI} {fr : Fr} {v0 v1 v2 v3 v4 c i : Nat} {L : List Nd} {ex : List (Option Ob)} (d : Nd) (hL : L.length ≤ 1000000) (hn : i64 d.n) (ha : i64 d.a) (hadd : addN L d = ((i : Int), L)) (fuel : Nat)
    (k : ∀ c' w2 w3 w4, c ≤ c' → run P G n 0 Q fuel (.at t dead :: s) .nrm (fput fr dd (.int .i64 i)) ⟨c', kG F.fmt v0 v1 w2 w3 w4 L ++ ex⟩) :
    CV P G 0 (.fn (.func n_term_Graph_Add) [] []) [.ptr 1 v0 0, .agg [.int .u8 d.kind, .int .i64 d.n, .int .i64 d.a, .int .u8 d.op, .int .i64 d.x, .int .i64 d.y]] ⟨c, kG F.fmt v0 v1 v2 v3 v4 L ++ ex⟩ (kC P G n 0 Q dd t dead s fr) :=
  callAdd hT F d hL hn ha fuel fun c' w2 w3 w4 hc => by
    have := k c' w2 w3 w4 hc
    rw [hadd]
    exact this

def shorts (L : List Nd) (n : Nat) : List Nat := (List.range n).filter fun j => decide ((deeps L).getD j 0 ≤ 8)
def shortT (fmt : Int → List UInt8) (L : List Nd) (n : Nat) : List (List UInt8) := (shorts L n).map fun (j : Nat) => textL fmt L (j : Int)
theorem shortT_yes (fmt : Int → List UInt8) {L : List Nd} {n : Nat} (h : (deeps L).getD n 0 ≤ 8) : shortT fmt L (n + 1) = shortT fmt L n ++ [textL fmt L (n : Int)] := by
  simp only [shortT, shorts, List.range_succ, List.filter_append, List.map_append]
  congr 1
  simp only [List.filter_cons, h, decide_true, if_true, List.filter_nil, List.map_cons, List.map_nil]
theorem shortT_no (fmt : Int → List UInt8) {L : List Nd} {n : Nat} (h : ¬ (deeps L).getD n 0 ≤ 8) : shortT fmt L (n + 1) = shortT fmt L n := by
  simp only [shortT, shorts, List.range_succ, List.filter_append, List.map_append]
  simp only [List.filter_cons, h, decide_false, List.filter_nil]
  simp
theorem shortT_len (fmt : Int → List UInt8) (L : List Nd) (n : Nat) : (shortT fmt L n).length ≤ n := by
  rw [shortT, List.length_map, shorts]
  exact Nat.le_trans (List.length_filter_le _ _) (by simp)
theorem shortT_nodup (F : Fmt P G) (hf : NumOk F.fmt) {L : List Nd} (hok : okN L) (hdist : distN L) : (shortT F.fmt L L.length).Nodup := by
  rw [shortT, List.Nodup, List.pairwise_map]
  have h1 : (shorts L L.length).Nodup := List.Pairwise.filter _ List.nodup_range
  refine List.Pairwise.imp_of_mem (fun {a b} ha hb hab => ?_) h1
  simp only [shorts, List.mem_filter, List.mem_range, decide_eq_true_eq] at ha hb
  exact fun e => hab (textL_inj F hf hok hdist ha.1 hb.1 ha.2 hb.2 e)

theorem to1 (hT : TabOk P tab) {fmt : Int → List UInt8} {v0 v1 v2 v3 v4 b i t : Nat} {L : List Nd} {d : Nd} {v5 v6 : V} {x5 : Option Ob} {cs : List V} (hcs : cs = d.cells) (hL : L.length ≤ 1000) (hdist : distN L) (hd : L[i]? = some d) {Q : AE → Fr → H → Prop} {fr : Fr}
    (f3 : fget fr 3 = .ptr 1 v0 0) (f5 : fget fr 5 = v5) (f6 : fget fr 6 = v6) (f7 : fget fr 7 = .int .i64 i) (f8 : fget fr 8 = .ptr 6 b 0) (f10 : fget fr 10 = .int .i64 0)
    (hQ : ∀ fr' t', fget fr' 3 = .ptr 1 v0 0 → fget fr' 5 = v5 → fget fr' 6 = v6 → fget fr' 7 = .int .i64 i → Q (.ex 2) fr' ⟨t', kG fmt v0 v1 v2 v3 v4 L ++ [x5, some (.arr b 34 cs)]⟩) :
    W P G 119 0 (.loop (AC.seq (AC.seq (AC.reg proofmarklaw02_TermOnce_r12 [74, 75])   (AC.cond (Arg.t 76)   AC.skip   (AC.exit 2)))   (AC.seq (AC.block 3 (AC.seq (AC.reg proofmarklaw02_TermOnce_r13 [80, 81, 82, 79, 83, 84, 12])   (AC.seq (AC.reg proofmarklaw02_TermOnce_r14 [85, 86])   (AC.cond (Arg.t 87)   (AC.seq (AC.reg proofmarklaw02_TermOnce_r15 [])   AC.ret)   AC.skip))))   (AC.reg proofmarklaw02_TermOnce_r16 [77, 78])))) fr ⟨t, kG fmt v0 v1 v2 v3 v4 L ++ [x5, some (.arr b 34 cs)]⟩ Q := by
  subst hcs
  refine sem_invE (s := []) (fun m fr σ' => ∃ (k t' : Nat), k ≤ i ∧ m = i - k ∧ fget fr 3 = .ptr 1 v0 0 ∧ fget fr 5 = v5 ∧ fget fr 6 = v6 ∧ fget fr 7 = .int .i64 i ∧ fget fr 8 = .ptr 6 b 0 ∧ fget fr 10 = .int .i64 k ∧ σ' = ⟨t', kG fmt v0 v1 v2 v3 v4 L ++ [x5, some (.arr b 34 d.cells)]⟩)
    (fun e fr σ' => e = .ex 2 ∧ fget fr 3 = .ptr 1 v0 0 ∧ fget fr 5 = v5 ∧ fget fr 6 = v6 ∧ fget fr 7 = .int .i64 i ∧ ∃ t', σ' = ⟨t', kG fmt v0 v1 v2 v3 v4 L ++ [x5, some (.arr b 34 d.cells)]⟩)
    (m0 := i) ⟨0, t, Nat.zero_le _, rfl, f3, f5, f6, f7, f8, f10, rfl⟩ (fun m fr σ' hJ => ?_) (fun e fr σ' hE => ?_)
  · clear f3 f5 f6 f7 f8 f10
    obtain ⟨k, t', hk, rfl, f3, f5, f6, f7, f8, f10, rfl⟩ := hJ
    have hi := (List.getElem?_eq_some_iff.1 hd).1
    rcases Nat.lt_or_ge k i with hlt | hge
    · obtain ⟨e, he⟩ : ∃ e, L[k]? = some e := ⟨_, List.getElem?_eq_getElem (by omega)⟩
      have hne : ¬ e = d := fun h => by
        have := hdist k i d (by rw [← h]; exact he) hd
        omega
      have hwi : IntKind.i64.wrap ((k : Int) + 1) = ((k + 1 : Nat) : Int) := by
        rw [wrap_i64 (by omega) (by omega)]; rfl
      refine W_run 1000 ?_
      simp -implicitDefEqProofs (disch := omega) only [go_sem, ↓reduceIte, Nat.reduceEqDiff, decide_true, proofmarklaw02_TermOnce_r12, proofmarklaw02_TermOnce_r13, proofmarklaw02_TermOnce_r14, proofmarklaw02_TermOnce_r15, proofmarklaw02_TermOnce_r16, f3, f7, f10, hlt]
      refine callT hT t_term_Graph_Node (k_NodeAt hT he) 1000 fun t1 ht1 => ?_
      simp -implicitDefEqProofs (disch := omega) only [go_sem, ↓reduceIte, reduceCtorEq, Nat.reduceAdd, Nat.reduceEqDiff, Nat.reduceLT, Nat.zero_add, Bool.not_false, Nat.le_refl, Nat.zero_le, f3, f5, f6, f7, f8, f10, Nd.cells, kG_len, kG_app, kG_6, kG_7, kGs_7, List.length_cons, List.length_nil, List.cons_append, List.nil_append]
      refine ⟨fun hh => ?_, fun hh => ?_⟩
      · exfalso
        apply hne
        cases e; cases d; simp at hh ⊢; omega
      · refine ⟨i - (k + 1), _, _, by omega, Shift.drop (o' := kG fmt v0 v1 v2 v3 v4 L ++ [x5, some (.arr b 34 d.cells)]) (t' := t1 + 1) (by cases x5 <;> simp [subObs, kG, Nd.cells]) (Nat.le_refl _) (Nat.zero_le _), k + 1, t1 + 1, hlt, rfl, ?_⟩
        simp -implicitDefEqProofs (disch := omega) only [go_sem, ↓reduceIte, Nat.reduceEqDiff, f3, f5, f6, f7, f8, hwi, Nd.cells]
    · refine W_run 1000 ?_
      simp -implicitDefEqProofs (disch := omega) only [go_sem, ↓reduceIte, Nat.reduceEqDiff, decide_false, proofmarklaw02_TermOnce_r12, proofmarklaw02_TermOnce_r13, proofmarklaw02_TermOnce_r14, proofmarklaw02_TermOnce_r15, proofmarklaw02_TermOnce_r16, f3, f5, f6, f7, f10, show ¬ k < i from by omega]
      exact ⟨t', rfl⟩
  · obtain ⟨rfl, f3, f5, f6, f7, t', rfl⟩ := hE
    exact hQ fr t' f3 f5 f6 f7

theorem to3 {o : List (Option Ob)} {S : List (List UInt8)} {r i t : Nat} (hS : S.Nodup) (hl : S.length ≤ 1000) (hi : i < S.length) (ho : o[5]? = some (some (.arr r 9 (S.map V.str)))) {Q : AE → Fr → H → Prop} {fr : Fr}
    (f6 : fget fr 6 = .sl 5 r 0 1 S.length none) (f13 : fget fr 13 = .int .i64 i) (f14 : fget fr 14 = .int .i64 0)
    (hQ : ∀ fr', fget fr' 6 = .sl 5 r 0 1 S.length none → fget fr' 13 = .int .i64 i → Q (.ex 6) fr' ⟨t, o⟩) :
    W P G 119 0 (.loop (AC.seq (AC.seq (AC.reg proofmarklaw02_TermOnce_r23 [104, 105])   (AC.cond (Arg.t 106)   AC.skip   (AC.exit 6)))   (AC.seq (AC.block 7 (AC.seq (AC.reg proofmarklaw02_TermOnce_r24 [109, 110, 111, 112, 113, 114, 115, 116])   (AC.cond (Arg.t 117)   (AC.seq (AC.reg proofmarklaw02_TermOnce_r25 [])   AC.ret)   AC.skip)))   (AC.reg proofmarklaw02_TermOnce_r26 [107, 108])))) fr ⟨t, o⟩ Q := by
  refine sem_invE (s := []) (fun m fr σ' => ∃ (k : Nat), k ≤ i ∧ m = i - k ∧ fget fr 6 = .sl 5 r 0 1 S.length none ∧ fget fr 13 = .int .i64 i ∧ fget fr 14 = .int .i64 k ∧ σ' = ⟨t, o⟩)
    (fun e fr σ' => e = .ex 6 ∧ fget fr 6 = .sl 5 r 0 1 S.length none ∧ fget fr 13 = .int .i64 i ∧ σ' = ⟨t, o⟩) (m0 := i) ⟨0, Nat.zero_le _, rfl, f6, f13, f14, rfl⟩ (fun m fr σ' hJ => ?_) (fun e fr σ' hE => ?_)
  · clear f6 f13 f14
    obtain ⟨k, hk, rfl, f6, f13, f14, rfl⟩ := hJ
    rcases Nat.lt_or_ge k i with hlt | hge
    · obtain ⟨a, ha⟩ : ∃ a, S[i]? = some a := ⟨_, List.getElem?_eq_getElem hi⟩
      obtain ⟨b, hb⟩ : ∃ b, S[k]? = some b := ⟨_, List.getElem?_eq_getElem (by omega)⟩
      have hga : (S.map V.str).getD i .any = V.str a := by simp [List.getD_eq_getElem?_getD, ha]
      have hgb : (S.map V.str).getD k .any = V.str b := by simp [List.getD_eq_getElem?_getD, hb]
      have hab : (a == b) = false := by
        rw [beq_eq_false_iff_ne]
        intro e
        subst e
        have h1 := List.getElem?_eq_some_iff.1 ha
        have h2 := List.getElem?_eq_some_iff.1 hb
        exact List.pairwise_iff_getElem.1 hS k i h2.1 h1.1 hlt (by rw [h1.2, h2.2])
      have hlm : (S.map V.str).length = S.length := by simp
      have hks : k < S.length := by omega
      have hwi : IntKind.i64.wrap ((k : Int) + 1) = ((k + 1 : Nat) : Int) := by
        rw [wrap_i64 (by omega) (by omega)]; rfl
      refine W_run 1000 ?_
      simp -implicitDefEqProofs (disch := omega) only [go_sem, need_of, ↓reduceIte, Nat.reduceEqDiff, Nat.zero_add, Nat.mul_one, decide_true, proofmarklaw02_TermOnce_r23, proofmarklaw02_TermOnce_r24, proofmarklaw02_TermOnce_r25, proofmarklaw02_TermOnce_r26, f6, f13, f14, hlt, ho, hga, hgb, hab, hlm, hi, hks, hwi]
      refine ⟨i - (k + 1), _, _, by omega, Shift.refl _ _ _ _, k + 1, hlt, rfl, ?_⟩
      simp -implicitDefEqProofs (disch := omega) only [go_sem, ↓reduceIte, Nat.reduceEqDiff, f6, f13]
    · refine W_run 1000 ?_
      simp -implicitDefEqProofs (disch := omega) only [go_sem, ↓reduceIte, Nat.reduceEqDiff, decide_false, proofmarklaw02_TermOnce_r23, proofmarklaw02_TermOnce_r24, proofmarklaw02_TermOnce_r25, proofmarklaw02_TermOnce_r26, f6, f13, f14, show ¬ k < i from by omega]
  · obtain ⟨rfl, f6, f13, rfl⟩ := hE
    exact hQ fr f6 f13

theorem to2 {o : List (Option Ob)} {S : List (List UInt8)} {r t : Nat} (hS : S.Nodup) (hl : S.length ≤ 1000) (ho : o[5]? = some (some (.arr r 9 (S.map V.str)))) {Q : AE → Fr → H → Prop} {fr : Fr}
    (f6 : fget fr 6 = .sl 5 r 0 1 S.length none) (f13 : fget fr 13 = .int .i64 0)
    (hQ : ∀ fr', Q (.ex 4) fr' ⟨t, o⟩) :
    W P G 119 0 (.loop (AC.seq (AC.seq (AC.reg proofmarklaw02_TermOnce_r21 [98, 99, 100])   (AC.cond (Arg.t 101)   AC.skip   (AC.exit 4)))   (AC.seq (AC.block 5 (AC.seq (AC.reg proofmarklaw02_TermOnce_r22 [])   (AC.block 6 (AC.loop (AC.seq (AC.seq (AC.reg proofmarklaw02_TermOnce_r23 [104, 105])   (AC.cond (Arg.t 106)   AC.skip   (AC.exit 6)))   (AC.seq (AC.block 7 (AC.seq (AC.reg proofmarklaw02_TermOnce_r24 [109, 110, 111, 112, 113, 114, 115, 116])   (AC.cond (Arg.t 117)   (AC.seq (AC.reg proofmarklaw02_TermOnce_r25 [])   AC.ret)   AC.skip)))   (AC.reg proofmarklaw02_TermOnce_r26 [107, 108])))))))   (AC.reg proofmarklaw02_TermOnce_r27 [102, 103])))) fr ⟨t, o⟩ Q := by
  refine sem_invE (s := []) (fun m fr σ' => ∃ (i : Nat), i ≤ S.length ∧ m = S.length - i ∧ fget fr 6 = .sl 5 r 0 1 S.length none ∧ fget fr 13 = .int .i64 i ∧ σ' = ⟨t, o⟩)
    (fun e fr σ' => e = .ex 4 ∧ σ' = ⟨t, o⟩) (m0 := S.length) ⟨0, Nat.zero_le _, rfl, f6, f13, rfl⟩ (fun m fr σ' hJ => ?_) (fun e fr σ' hE => ?_)
  · clear f6 f13
    obtain ⟨i, hi, rfl, f6, f13, rfl⟩ := hJ
    rcases Nat.lt_or_ge i S.length with hlt | hge
    · have hwi : IntKind.i64.wrap ((i : Int) + 1) = ((i + 1 : Nat) : Int) := by
        rw [wrap_i64 (by omega) (by omega)]; rfl
      refine W_run 1000 ?_
      simp -implicitDefEqProofs (disch := omega) only [go_sem, ↓reduceIte, Nat.reduceEqDiff, decide_true, proofmarklaw02_TermOnce_r21, proofmarklaw02_TermOnce_r22, proofmarklaw02_TermOnce_r23, proofmarklaw02_TermOnce_r24, proofmarklaw02_TermOnce_r25, proofmarklaw02_TermOnce_r26, proofmarklaw02_TermOnce_r27, f6, f13, hlt]
      refine to3 hS hl hlt ho (by simp -implicitDefEqProofs (disch := omega) only [go_sem, ↓reduceIte, Nat.reduceEqDiff, f6]) (by simp -implicitDefEqProofs (disch := omega) only [go_sem, ↓reduceIte, Nat.reduceEqDiff, f13]) (by simp -implicitDefEqProofs (disch := omega) only [go_sem, ↓reduceIte]) (fun fr' g6 g13 => ?_)
      refine run_sem 1000 ?_
      simp -implicitDefEqProofs (disch := omega) only [go_sem, ↓reduceIte, g13, hwi]
      refine ⟨S.length - (i + 1), _, _, by omega, Shift.refl _ _ _ _, i + 1, hlt, rfl, ?_⟩
      simp -implicitDefEqProofs (disch := omega) only [go_sem, ↓reduceIte, Nat.reduceEqDiff, g6]
    · refine W_run 1000 ?_
      simp -implicitDefEqProofs (disch := omega) only [go_sem, ↓reduceIte, Nat.reduceEqDiff, decide_false, proofmarklaw02_TermOnce_r21, proofmarklaw02_TermOnce_r22, proofmarklaw02_TermOnce_r23, proofmarklaw02_TermOnce_r24, proofmarklaw02_TermOnce_r25, proofmarklaw02_TermOnce_r26, proofmarklaw02_TermOnce_r27, f6, f13, show ¬ i < S.length from by omega]
  · obtain ⟨rfl, rfl⟩ := hE
    exact hQ fr

theorem may_up {d : Nd} {m n : Nat} (h : d.may m = true) (hmn : m ≤ n) : d.may n = true := by
  simp only [Nd.may] at h ⊢
  grind

theorem to0 (hT : TabOk P tab) (F : Fmt P G) (SO : SortOk P) {v0 v1 v2 v3 v4 r t : Nat} {L : List Nd} (hL : L.length ≤ 1000) (hok : okN L) (hdist : distN L) (hmay : ∀ (i : Nat) (d : Nd), L[i]? = some d → addN L d = ((i : Int), L)) {Q : AE → Fr → H → Prop} {fr : Fr}
    (f3 : fget fr 3 = .ptr 1 v0 0) (f5 : fget fr 5 = .int .i64 L.length) (f6 : fget fr 6 = .sl 5 r 0 1 0 none) (f7 : fget fr 7 = .int .i64 0)
    (hQ : ∀ fr' t' w2 w3 w4 r, fget fr' 6 = .sl 5 r 0 1 (shortT F.fmt L L.length).length none → Q (.ex 0) fr' ⟨t', kG F.fmt v0 v1 w2 w3 w4 L ++ [some (.arr r 9 ((shortT F.fmt L L.length).map V.str))]⟩) :
    W P G 119 0 (.loop (AC.seq (AC.seq (AC.reg proofmarklaw02_TermOnce_r7 [26, 27])   (AC.cond (Arg.t 28)   AC.skip   (AC.exit 0)))   (AC.seq (AC.block 1 (AC.seq (AC.reg proofmarklaw02_TermOnce_r8 [32, 33, 34, 31, 35, 36])   (AC.seq (AC.seq (AC.reg proofmarklaw02_TermOnce_r9 [37, 38, 39, 40, 41, 42, 43, 44, 45, 46, 47, 48, 49, 50, 51, 52, 53, 54, 55, 56, 57, 58, 59, 60, 61, 62, 63, 64, 65, 66, 67, 68, 69, 70, 71, 72])   (AC.cond (Arg.t 73)   (AC.seq (AC.reg proofmarklaw02_TermOnce_r10 [])   AC.ret)   AC.skip))   (AC.seq (AC.seq (AC.reg proofmarklaw02_TermOnce_r11 [])   (AC.block 2 (AC.loop (AC.seq (AC.seq (AC.reg proofmarklaw02_TermOnce_r12 [74, 75])   (AC.cond (Arg.t 76)   AC.skip   (AC.exit 2)))   (AC.seq (AC.block 3 (AC.seq (AC.reg proofmarklaw02_TermOnce_r13 [80, 81, 82, 79, 83, 84, 12])   (AC.seq (AC.reg proofmarklaw02_TermOnce_r14 [85, 86])   (AC.cond (Arg.t 87)   (AC.seq (AC.reg proofmarklaw02_TermOnce_r15 [])   AC.ret)   AC.skip))))   (AC.reg proofmarklaw02_TermOnce_r16 [77, 78]))))))   (AC.seq (AC.reg proofmarklaw02_TermOnce_r17 [88, 89, 90])   (AC.cond (Arg.t 91)   (AC.reg proofmarklaw02_TermOnce_r18 [92, 93, 94, 95, 96, 97])   AC.skip))))))   (AC.reg proofmarklaw02_TermOnce_r19 [29, 30])))) fr ⟨t, kG F.fmt v0 v1 v2 v3 v4 L ++ [some (.arr r 9 [])]⟩ Q := by
  refine sem_invE (s := []) (fun m fr σ' => ∃ (i t' v2 v3 v4 r : Nat), i ≤ L.length ∧ m = L.length - i ∧ fget fr 3 = .ptr 1 v0 0 ∧ fget fr 5 = .int .i64 L.length ∧ fget fr 6 = .sl 5 r 0 1 (shortT F.fmt L i).length none ∧ fget fr 7 = .int .i64 i ∧ σ' = ⟨t', kG F.fmt v0 v1 v2 v3 v4 L ++ [some (.arr r 9 ((shortT F.fmt L i).map V.str))]⟩)
    (fun e fr σ' => e = .ex 0 ∧ ∃ (t' v2 v3 v4 r : Nat), fget fr 6 = .sl 5 r 0 1 (shortT F.fmt L L.length).length none ∧ σ' = ⟨t', kG F.fmt v0 v1 v2 v3 v4 L ++ [some (.arr r 9 ((shortT F.fmt L L.length).map V.str))]⟩)
    (m0 := L.length) ⟨0, t, v2, v3, v4, r, Nat.zero_le _, rfl, f3, f5, f6, f7, rfl⟩ (fun m fr σ' hJ => ?_) (fun e fr σ' hE => ?_)
  · clear f3 f5 f6 f7
    obtain ⟨i, t', v2, v3, v4, r, hi, rfl, f3, f5, f6, f7, rfl⟩ := hJ
    rcases Nat.lt_or_ge i L.length with hlt | hge
    · obtain ⟨d, hd⟩ : ∃ d, L[i]? = some d := ⟨_, List.getElem?_eq_getElem hlt⟩
      obtain ⟨hdn, hda, hdm⟩ := hok i d hd
      obtain ⟨hp, hop, hk⟩ := may_parts hdm
      have hadd := hmay i d hd
      have hwi : IntKind.i64.wrap ((i : Int) + 1) = ((i + 1 : Nat) : Int) := by
        rw [wrap_i64 (by omega) (by omega)]; rfl
      have hsl : ((shortT F.fmt L i).map V.str).length = (shortT F.fmt L i).length := by simp
      have hsn := shortT_len F.fmt L i
      have hy3 : d.kind = 3 → ¬ (i : Int) ≤ d.y := fun k => by have := hp d.y (by simp [Nd.parts, k]); omega
      have hy4 : d.kind = 4 → ¬ (i : Int) ≤ d.y := fun k => by have := hp d.y (by simp [Nd.parts, k]); omega
      have hx4 : d.kind = 4 → ¬ (i : Int) ≤ d.x := fun k => by have := hp d.x (by simp [Nd.parts, k]); omega
      by_cases h8 : (deeps L).getD i 0 ≤ 8
      · have hs := shortT_yes F.fmt h8
        rcases hk with k | k | k | k
        · refine W_run 1000 ?_
          simp -implicitDefEqProofs (disch := omega) only [go_sem, ↓reduceIte, Nat.reduceEqDiff, decide_true, proofmarklaw02_TermOnce_r7, proofmarklaw02_TermOnce_r8, proofmarklaw02_TermOnce_r9, proofmarklaw02_TermOnce_r10, proofmarklaw02_TermOnce_r11, proofmarklaw02_TermOnce_r12, proofmarklaw02_TermOnce_r13, proofmarklaw02_TermOnce_r14, proofmarklaw02_TermOnce_r15, proofmarklaw02_TermOnce_r16, proofmarklaw02_TermOnce_r17, proofmarklaw02_TermOnce_r18, proofmarklaw02_TermOnce_r19, f3, f5, f7, hlt]
          refine callT hT t_term_Graph_Node (k_NodeAt hT hd) 1000 fun t1 ht1 => ?_
          simp -implicitDefEqProofs (disch := omega) only [go_sem, ↓reduceIte, reduceCtorEq, Nat.reduceAdd, Nat.reduceEqDiff, Nat.reduceLT, Nat.zero_add, Bool.not_true, Bool.not_false, Nat.le_refl, Nat.zero_le, f3, Nd.cells, kG_len, kG_app, kG_6, kGs_6, List.length_cons, List.length_nil, List.cons_append, List.nil_append]
          refine callAgain hT F d (by omega) hdn hda hadd 1000 fun t2 w2 w3 w4 ht2 => ?_
          simp -implicitDefEqProofs (disch := omega) only [go_sem, ↓reduceIte, Nat.reduceAdd, Nat.reduceEqDiff, bne_self_eq_false, f3, f7, bne_self_eq_false]
          refine callT hT t_term_Graph_Size (k_Size hT) 1000 fun t3 ht3 => ?_
          simp -implicitDefEqProofs (disch := omega) only [go_sem, ↓reduceIte, Nat.reduceAdd, Nat.reduceEqDiff, Nat.reduceLeDiff, Int.reduceLE, Nat.zero_add, Nat.add_zero, decide_false, ge_iff_le, bne_self_eq_false, f5, bne_self_eq_false, kG_6, List.length_cons, List.length_nil, k, Int.reduceBEq, ge_iff_le]
          refine to1 hT (d := d) (hcs := by simp [Nd.cells, k]) (v5 := .int .i64 L.length) (v6 := .sl 5 r 0 1 (shortT F.fmt L i).length none) hL hdist hd (by simp -implicitDefEqProofs (disch := omega) only [go_sem, ↓reduceIte, Nat.reduceEqDiff, f3]) (by simp -implicitDefEqProofs (disch := omega) only [go_sem, ↓reduceIte, Nat.reduceEqDiff, f5]) (by simp -implicitDefEqProofs (disch := omega) only [go_sem, ↓reduceIte, Nat.reduceEqDiff, f6]) (by simp -implicitDefEqProofs (disch := omega) only [go_sem, ↓reduceIte, Nat.reduceEqDiff, f7]) (by simp -implicitDefEqProofs (disch := omega) only [go_sem, ↓reduceIte, Nat.reduceEqDiff]) (by simp -implicitDefEqProofs (disch := omega) only [go_sem, ↓reduceIte]) (fun fr' t6 g3 g5 g6 g7 => ?_)
          refine run_sem 1000 ?_
          simp -implicitDefEqProofs (disch := omega) only [go_sem, ↓reduceIte, Nat.reduceEqDiff, g3, g7]
          refine callT hT t_term_Graph_Deep (k_DeepAt hT hlt) 1000 fun t7 ht7 => ?_
          simp -implicitDefEqProofs (disch := omega) only [go_sem, ↓reduceIte, Nat.reduceEqDiff, decide_true, g3, g6, g7, h8]
          refine callT hT t_term_Graph_Text (k_Text hT F SO (by omega) hok) 1000 fun t8 ht8 => ?_
          simp -implicitDefEqProofs (disch := omega) only [go_sem, need_of, ↓reduceIte, reduceCtorEq, Nat.reduceEqDiff, Nat.reduceLeDiff, Nat.zero_add, Nat.mul_one, Bool.not_true, Nat.le_refl, Nat.zero_le, g7, hsl, hwi, kG_5, kGs_5, List.length_cons, List.length_nil, List.cons_append, List.nil_append]
          refine ⟨L.length - (i + 1), _, _, by omega, Shift.drop (o' := kG F.fmt v0 v1 w2 w3 w4 L ++ [some (.arr t8 9 ((shortT F.fmt L (i + 1)).map V.str))]) (t' := t8 + 1) (by rw [hs]; simp [subObs, kG]) (by simp) (Nat.zero_le _), i + 1, t8 + 1, w2, w3, w4, t8, hlt, rfl, ?_⟩
          simp -implicitDefEqProofs (disch := omega) only [go_sem, ↓reduceIte, Nat.reduceEqDiff, Nat.zero_add, g3, g5, hs, List.length_append, List.length_cons, List.length_nil]
        · refine W_run 1000 ?_
          simp -implicitDefEqProofs (disch := omega) only [go_sem, ↓reduceIte, Nat.reduceEqDiff, decide_true, proofmarklaw02_TermOnce_r7, proofmarklaw02_TermOnce_r8, proofmarklaw02_TermOnce_r9, proofmarklaw02_TermOnce_r10, proofmarklaw02_TermOnce_r11, proofmarklaw02_TermOnce_r12, proofmarklaw02_TermOnce_r13, proofmarklaw02_TermOnce_r14, proofmarklaw02_TermOnce_r15, proofmarklaw02_TermOnce_r16, proofmarklaw02_TermOnce_r17, proofmarklaw02_TermOnce_r18, proofmarklaw02_TermOnce_r19, f3, f5, f7, hlt]
          refine callT hT t_term_Graph_Node (k_NodeAt hT hd) 1000 fun t1 ht1 => ?_
          simp -implicitDefEqProofs (disch := omega) only [go_sem, ↓reduceIte, reduceCtorEq, Nat.reduceAdd, Nat.reduceEqDiff, Nat.reduceLT, Nat.zero_add, Bool.not_true, Bool.not_false, Nat.le_refl, Nat.zero_le, f3, Nd.cells, kG_len, kG_app, kG_6, kGs_6, List.length_cons, List.length_nil, List.cons_append, List.nil_append]
          refine callAgain hT F d (by omega) hdn hda hadd 1000 fun t2 w2 w3 w4 ht2 => ?_
          simp -implicitDefEqProofs (disch := omega) only [go_sem, ↓reduceIte, Nat.reduceAdd, Nat.reduceEqDiff, bne_self_eq_false, f3, f7, bne_self_eq_false]
          refine callT hT t_term_Graph_Size (k_Size hT) 1000 fun t3 ht3 => ?_
          simp -implicitDefEqProofs (disch := omega) only [go_sem, ↓reduceIte, Nat.reduceAdd, Nat.reduceEqDiff, Nat.reduceLeDiff, Int.reduceLE, Nat.zero_add, Nat.add_zero, decide_false, ge_iff_le, bne_self_eq_false, f5, bne_self_eq_false, kG_6, List.length_cons, List.length_nil, k, Int.reduceBEq, ge_iff_le]
          refine to1 hT (d := d) (hcs := by simp [Nd.cells, k]) (v5 := .int .i64 L.length) (v6 := .sl 5 r 0 1 (shortT F.fmt L i).length none) hL hdist hd (by simp -implicitDefEqProofs (disch := omega) only [go_sem, ↓reduceIte, Nat.reduceEqDiff, f3]) (by simp -implicitDefEqProofs (disch := omega) only [go_sem, ↓reduceIte, Nat.reduceEqDiff, f5]) (by simp -implicitDefEqProofs (disch := omega) only [go_sem, ↓reduceIte, Nat.reduceEqDiff, f6]) (by simp -implicitDefEqProofs (disch := omega) only [go_sem, ↓reduceIte, Nat.reduceEqDiff, f7]) (by simp -implicitDefEqProofs (disch := omega) only [go_sem, ↓reduceIte, Nat.reduceEqDiff]) (by simp -implicitDefEqProofs (disch := omega) only [go_sem, ↓reduceIte]) (fun fr' t6 g3 g5 g6 g7 => ?_)
          refine run_sem 1000 ?_
          simp -implicitDefEqProofs (disch := omega) only [go_sem, ↓reduceIte, Nat.reduceEqDiff, g3, g7]
          refine callT hT t_term_Graph_Deep (k_DeepAt hT hlt) 1000 fun t7 ht7 => ?_
          simp -implicitDefEqProofs (disch := omega) only [go_sem, ↓reduceIte, Nat.reduceEqDiff, decide_true, g3, g6, g7, h8]
          refine callT hT t_term_Graph_Text (k_Text hT F SO (by omega) hok) 1000 fun t8 ht8 => ?_
          simp -implicitDefEqProofs (disch := omega) only [go_sem, need_of, ↓reduceIte, reduceCtorEq, Nat.reduceEqDiff, Nat.reduceLeDiff, Nat.zero_add, Nat.mul_one, Bool.not_true, Nat.le_refl, Nat.zero_le, g7, hsl, hwi, kG_5, kGs_5, List.length_cons, List.length_nil, List.cons_append, List.nil_append]
          refine ⟨L.length - (i + 1), _, _, by omega, Shift.drop (o' := kG F.fmt v0 v1 w2 w3 w4 L ++ [some (.arr t8 9 ((shortT F.fmt L (i + 1)).map V.str))]) (t' := t8 + 1) (by rw [hs]; simp [subObs, kG]) (by simp) (Nat.zero_le _), i + 1, t8 + 1, w2, w3, w4, t8, hlt, rfl, ?_⟩
          simp -implicitDefEqProofs (disch := omega) only [go_sem, ↓reduceIte, Nat.reduceEqDiff, Nat.zero_add, g3, g5, hs, List.length_append, List.length_cons, List.length_nil]
        · refine W_run 1000 ?_
          simp -implicitDefEqProofs (disch := omega) only [go_sem, ↓reduceIte, Nat.reduceEqDiff, decide_true, proofmarklaw02_TermOnce_r7, proofmarklaw02_TermOnce_r8, proofmarklaw02_TermOnce_r9, proofmarklaw02_TermOnce_r10, proofmarklaw02_TermOnce_r11, proofmarklaw02_TermOnce_r12, proofmarklaw02_TermOnce_r13, proofmarklaw02_TermOnce_r14, proofmarklaw02_TermOnce_r15, proofmarklaw02_TermOnce_r16, proofmarklaw02_TermOnce_r17, proofmarklaw02_TermOnce_r18, proofmarklaw02_TermOnce_r19, f3, f5, f7, hlt]
          refine callT hT t_term_Graph_Node (k_NodeAt hT hd) 1000 fun t1 ht1 => ?_
          simp -implicitDefEqProofs (disch := omega) only [go_sem, ↓reduceIte, reduceCtorEq, Nat.reduceAdd, Nat.reduceEqDiff, Nat.reduceLT, Nat.zero_add, Bool.not_true, Bool.not_false, Nat.le_refl, Nat.zero_le, f3, Nd.cells, kG_len, kG_app, kG_6, kGs_6, List.length_cons, List.length_nil, List.cons_append, List.nil_append]
          refine callAgain hT F d (by omega) hdn hda hadd 1000 fun t2 w2 w3 w4 ht2 => ?_
          simp -implicitDefEqProofs (disch := omega) only [go_sem, ↓reduceIte, Nat.reduceAdd, Nat.reduceEqDiff, bne_self_eq_false, f3, f7, bne_self_eq_false]
          refine callT hT t_term_Graph_Size (k_Size hT) 1000 fun t3 ht3 => ?_
          simp -implicitDefEqProofs (disch := omega) only [go_sem, ↓reduceIte, Nat.reduceAdd, Nat.reduceEqDiff, Nat.reduceLeDiff, Int.reduceLE, Nat.zero_add, Nat.add_zero, decide_true, decide_false, Nat.le_refl, ge_iff_le, bne_self_eq_false, f5, f7, bne_self_eq_false, kG_6, List.length_cons, List.length_nil, k, Int.reduceBEq, ge_iff_le, hy3 k]
          refine to1 hT (d := d) (hcs := by simp [Nd.cells, k]) (v5 := .int .i64 L.length) (v6 := .sl 5 r 0 1 (shortT F.fmt L i).length none) hL hdist hd (by simp -implicitDefEqProofs (disch := omega) only [go_sem, ↓reduceIte, Nat.reduceEqDiff, f3]) (by simp -implicitDefEqProofs (disch := omega) only [go_sem, ↓reduceIte, Nat.reduceEqDiff, f5]) (by simp -implicitDefEqProofs (disch := omega) only [go_sem, ↓reduceIte, Nat.reduceEqDiff, f6]) (by simp -implicitDefEqProofs (disch := omega) only [go_sem, ↓reduceIte, Nat.reduceEqDiff, f7]) (by simp -implicitDefEqProofs (disch := omega) only [go_sem, ↓reduceIte, Nat.reduceEqDiff]) (by simp -implicitDefEqProofs (disch := omega) only [go_sem, ↓reduceIte]) (fun fr' t6 g3 g5 g6 g7 => ?_)
          refine run_sem 1000 ?_
          simp -implicitDefEqProofs (disch := omega) only [go_sem, ↓reduceIte, Nat.reduceEqDiff, g3, g7]
          refine callT hT t_term_Graph_Deep (k_DeepAt hT hlt) 1000 fun t7 ht7 => ?_
          simp -implicitDefEqProofs (disch := omega) only [go_sem, ↓reduceIte, Nat.reduceEqDiff, decide_true, g3, g6, g7, h8]
          refine callT hT t_term_Graph_Text (k_Text hT F SO (by omega) hok) 1000 fun t8 ht8 => ?_
          simp -implicitDefEqProofs (disch := omega) only [go_sem, need_of, ↓reduceIte, reduceCtorEq, Nat.reduceEqDiff, Nat.reduceLeDiff, Nat.zero_add, Nat.mul_one, Bool.not_true, Nat.le_refl, Nat.zero_le, g7, hsl, hwi, kG_5, kGs_5, List.length_cons, List.length_nil, List.cons_append, List.nil_append]
          refine ⟨L.length - (i + 1), _, _, by omega, Shift.drop (o' := kG F.fmt v0 v1 w2 w3 w4 L ++ [some (.arr t8 9 ((shortT F.fmt L (i + 1)).map V.str))]) (t' := t8 + 1) (by rw [hs]; simp [subObs, kG]) (by simp) (Nat.zero_le _), i + 1, t8 + 1, w2, w3, w4, t8, hlt, rfl, ?_⟩
          simp -implicitDefEqProofs (disch := omega) only [go_sem, ↓reduceIte, Nat.reduceEqDiff, Nat.zero_add, g3, g5, hs, List.length_append, List.length_cons, List.length_nil]
        · refine W_run 1000 ?_
          simp -implicitDefEqProofs (disch := omega) only [go_sem, ↓reduceIte, Nat.reduceEqDiff, decide_true, proofmarklaw02_TermOnce_r7, proofmarklaw02_TermOnce_r8, proofmarklaw02_TermOnce_r9, proofmarklaw02_TermOnce_r10, proofmarklaw02_TermOnce_r11, proofmarklaw02_TermOnce_r12, proofmarklaw02_TermOnce_r13, proofmarklaw02_TermOnce_r14, proofmarklaw02_TermOnce_r15, proofmarklaw02_TermOnce_r16, proofmarklaw02_TermOnce_r17, proofmarklaw02_TermOnce_r18, proofmarklaw02_TermOnce_r19, f3, f5, f7, hlt]
          refine callT hT t_term_Graph_Node (k_NodeAt hT hd) 1000 fun t1 ht1 => ?_
          simp -implicitDefEqProofs (disch := omega) only [go_sem, ↓reduceIte, reduceCtorEq, Nat.reduceAdd, Nat.reduceEqDiff, Nat.reduceLT, Nat.zero_add, Bool.not_true, Bool.not_false, Nat.le_refl, Nat.zero_le, f3, Nd.cells, kG_len, kG_app, kG_6, kGs_6, List.length_cons, List.length_nil, List.cons_append, List.nil_append]
          refine callAgain hT F d (by omega) hdn hda hadd 1000 fun t2 w2 w3 w4 ht2 => ?_
          simp -implicitDefEqProofs (disch := omega) only [go_sem, ↓reduceIte, Nat.reduceAdd, Nat.reduceEqDiff, bne_self_eq_false, f3, f7, bne_self_eq_false]
          refine callT hT t_term_Graph_Size (k_Size hT) 1000 fun t3 ht3 => ?_
          simp -implicitDefEqProofs (disch := omega) only [go_sem, ↓reduceIte, Nat.reduceAdd, Nat.reduceEqDiff, Nat.reduceLeDiff, Int.reduceLE, Nat.zero_add, Nat.add_zero, decide_true, decide_false, Nat.le_refl, ge_iff_le, beq_self_eq_true, bne_self_eq_false, f5, f7, bne_self_eq_false, kG_6, List.length_cons, List.length_nil, k, ge_iff_le, hy4 k, hx4 k]
          refine to1 hT (d := d) (hcs := by simp [Nd.cells, k]) (v5 := .int .i64 L.length) (v6 := .sl 5 r 0 1 (shortT F.fmt L i).length none) hL hdist hd (by simp -implicitDefEqProofs (disch := omega) only [go_sem, ↓reduceIte, Nat.reduceEqDiff, f3]) (by simp -implicitDefEqProofs (disch := omega) only [go_sem, ↓reduceIte, Nat.reduceEqDiff, f5]) (by simp -implicitDefEqProofs (disch := omega) only [go_sem, ↓reduceIte, Nat.reduceEqDiff, f6]) (by simp -implicitDefEqProofs (disch := omega) only [go_sem, ↓reduceIte, Nat.reduceEqDiff, f7]) (by simp -implicitDefEqProofs (disch := omega) only [go_sem, ↓reduceIte, Nat.reduceEqDiff]) (by simp -implicitDefEqProofs (disch := omega) only [go_sem, ↓reduceIte]) (fun fr' t6 g3 g5 g6 g7 => ?_)
          refine run_sem 1000 ?_
          simp -implicitDefEqProofs (disch := omega) only [go_sem, ↓reduceIte, Nat.reduceEqDiff, g3, g7]
          refine callT hT t_term_Graph_Deep (k_DeepAt hT hlt) 1000 fun t7 ht7 => ?_
          simp -implicitDefEqProofs (disch := omega) only [go_sem, ↓reduceIte, Nat.reduceEqDiff, decide_true, g3, g6, g7, h8]
          refine callT hT t_term_Graph_Text (k_Text hT F SO (by omega) hok) 1000 fun t8 ht8 => ?_
          simp -implicitDefEqProofs (disch := omega) only [go_sem, need_of, ↓reduceIte, reduceCtorEq, Nat.reduceEqDiff, Nat.reduceLeDiff, Nat.zero_add, Nat.mul_one, Bool.not_true, Nat.le_refl, Nat.zero_le, g7, hsl, hwi, kG_5, kGs_5, List.length_cons, List.length_nil, List.cons_append, List.nil_append]
          refine ⟨L.length - (i + 1), _, _, by omega, Shift.drop (o' := kG F.fmt v0 v1 w2 w3 w4 L ++ [some (.arr t8 9 ((shortT F.fmt L (i + 1)).map V.str))]) (t' := t8 + 1) (by rw [hs]; simp [subObs, kG]) (by simp) (Nat.zero_le _), i + 1, t8 + 1, w2, w3, w4, t8, hlt, rfl, ?_⟩
          simp -implicitDefEqProofs (disch := omega) only [go_sem, ↓reduceIte, Nat.reduceEqDiff, Nat.zero_add, g3, g5, hs, List.length_append, List.length_cons, List.length_nil]
      · have hs := shortT_no F.fmt h8
        rcases hk with k | k | k | k
        · refine W_run 1000 ?_
          simp -implicitDefEqProofs (disch := omega) only [go_sem, ↓reduceIte, Nat.reduceEqDiff, decide_true, proofmarklaw02_TermOnce_r7, proofmarklaw02_TermOnce_r8, proofmarklaw02_TermOnce_r9, proofmarklaw02_TermOnce_r10, proofmarklaw02_TermOnce_r11, proofmarklaw02_TermOnce_r12, proofmarklaw02_TermOnce_r13, proofmarklaw02_TermOnce_r14, proofmarklaw02_TermOnce_r15, proofmarklaw02_TermOnce_r16, proofmarklaw02_TermOnce_r17, proofmarklaw02_TermOnce_r18, proofmarklaw02_TermOnce_r19, f3, f5, f7, hlt]
          refine callT hT t_term_Graph_Node (k_NodeAt hT hd) 1000 fun t1 ht1 => ?_
          simp -implicitDefEqProofs (disch := omega) only [go_sem, ↓reduceIte, reduceCtorEq, Nat.reduceAdd, Nat.reduceEqDiff, Nat.reduceLT, Nat.zero_add, Bool.not_true, Bool.not_false, Nat.le_refl, Nat.zero_le, f3, Nd.cells, kG_len, kG_app, kG_6, kGs_6, List.length_cons, List.length_nil, List.cons_append, List.nil_append]
          refine callAgain hT F d (by omega) hdn hda hadd 1000 fun t2 w2 w3 w4 ht2 => ?_
          simp -implicitDefEqProofs (disch := omega) only [go_sem, ↓reduceIte, Nat.reduceAdd, Nat.reduceEqDiff, bne_self_eq_false, f3, f7, bne_self_eq_false]
          refine callT hT t_term_Graph_Size (k_Size hT) 1000 fun t3 ht3 => ?_
          simp -implicitDefEqProofs (disch := omega) only [go_sem, ↓reduceIte, Nat.reduceAdd, Nat.reduceEqDiff, Nat.reduceLeDiff, Int.reduceLE, Nat.zero_add, Nat.add_zero, decide_false, ge_iff_le, bne_self_eq_false, f5, bne_self_eq_false, kG_6, List.length_cons, List.length_nil, k, Int.reduceBEq, ge_iff_le]
          refine to1 hT (d := d) (hcs := by simp [Nd.cells, k]) (v5 := .int .i64 L.length) (v6 := .sl 5 r 0 1 (shortT F.fmt L i).length none) hL hdist hd (by simp -implicitDefEqProofs (disch := omega) only [go_sem, ↓reduceIte, Nat.reduceEqDiff, f3]) (by simp -implicitDefEqProofs (disch := omega) only [go_sem, ↓reduceIte, Nat.reduceEqDiff, f5]) (by simp -implicitDefEqProofs (disch := omega) only [go_sem, ↓reduceIte, Nat.reduceEqDiff, f6]) (by simp -implicitDefEqProofs (disch := omega) only [go_sem, ↓reduceIte, Nat.reduceEqDiff, f7]) (by simp -implicitDefEqProofs (disch := omega) only [go_sem, ↓reduceIte, Nat.reduceEqDiff]) (by simp -implicitDefEqProofs (disch := omega) only [go_sem, ↓reduceIte]) (fun fr' t6 g3 g5 g6 g7 => ?_)
          refine run_sem 1000 ?_
          simp -implicitDefEqProofs (disch := omega) only [go_sem, ↓reduceIte, Nat.reduceEqDiff, g3, g7]
          refine callT hT t_term_Graph_Deep (k_DeepAt hT hlt) 1000 fun t7 ht7 => ?_
          simp -implicitDefEqProofs (disch := omega) only [go_sem, ↓reduceIte, Nat.reduceEqDiff, decide_false, g7, h8]
          simp -implicitDefEqProofs (disch := omega) only [go_sem, hwi]
          refine ⟨L.length - (i + 1), _, _, by omega, Shift.drop (o' := kG F.fmt v0 v1 w2 w3 w4 L ++ [some (.arr r 9 ((shortT F.fmt L (i + 1)).map V.str))]) (t' := t7) (by rw [hs]; simp [subObs, kG]) (by simp) (Nat.zero_le _), i + 1, t7, w2, w3, w4, r, hlt, rfl, ?_⟩
          simp -implicitDefEqProofs (disch := omega) only [go_sem, ↓reduceIte, Nat.reduceEqDiff, g3, g5, g6, hs]
        · refine W_run 1000 ?_
          simp -implicitDefEqProofs (disch := omega) only [go_sem, ↓reduceIte, Nat.reduceEqDiff, decide_true, proofmarklaw02_TermOnce_r7, proofmarklaw02_TermOnce_r8, proofmarklaw02_TermOnce_r9, proofmarklaw02_TermOnce_r10, proofmarklaw02_TermOnce_r11, proofmarklaw02_TermOnce_r12, proofmarklaw02_TermOnce_r13, proofmarklaw02_TermOnce_r14, proofmarklaw02_TermOnce_r15, proofmarklaw02_TermOnce_r16, proofmarklaw02_TermOnce_r17, proofmarklaw02_TermOnce_r18, proofmarklaw02_TermOnce_r19, f3, f5, f7, hlt]
          refine callT hT t_term_Graph_Node (k_NodeAt hT hd) 1000 fun t1 ht1 => ?_
          simp -implicitDefEqProofs (disch := omega) only [go_sem, ↓reduceIte, reduceCtorEq, Nat.reduceAdd, Nat.reduceEqDiff, Nat.reduceLT, Nat.zero_add, Bool.not_true, Bool.not_false, Nat.le_refl, Nat.zero_le, f3, Nd.cells, kG_len, kG_app, kG_6, kGs_6, List.length_cons, List.length_nil, List.cons_append, List.nil_append]
          refine callAgain hT F d (by omega) hdn hda hadd 1000 fun t2 w2 w3 w4 ht2 => ?_
          simp -implicitDefEqProofs (disch := omega) only [go_sem, ↓reduceIte, Nat.reduceAdd, Nat.reduceEqDiff, bne_self_eq_false, f3, f7, bne_self_eq_false]
          refine callT hT t_term_Graph_Size (k_Size hT) 1000 fun t3 ht3 => ?_
          simp -implicitDefEqProofs (disch := omega) only [go_sem, ↓reduceIte, Nat.reduceAdd, Nat.reduceEqDiff, Nat.reduceLeDiff, Int.reduceLE, Nat.zero_add, Nat.add_zero, decide_false, ge_iff_le, bne_self_eq_false, f5, bne_self_eq_false, kG_6, List.length_cons, List.length_nil, k, Int.reduceBEq, ge_iff_le]
          refine to1 hT (d := d) (hcs := by simp [Nd.cells, k]) (v5 := .int .i64 L.length) (v6 := .sl 5 r 0 1 (shortT F.fmt L i).length none) hL hdist hd (by simp -implicitDefEqProofs (disch := omega) only [go_sem, ↓reduceIte, Nat.reduceEqDiff, f3]) (by simp -implicitDefEqProofs (disch := omega) only [go_sem, ↓reduceIte, Nat.reduceEqDiff, f5]) (by simp -implicitDefEqProofs (disch := omega) only [go_sem, ↓reduceIte, Nat.reduceEqDiff, f6]) (by simp -implicitDefEqProofs (disch := omega) only [go_sem, ↓reduceIte, Nat.reduceEqDiff, f7]) (by simp -implicitDefEqProofs (disch := omega) only [go_sem, ↓reduceIte, Nat.reduceEqDiff]) (by simp -implicitDefEqProofs (disch := omega) only [go_sem, ↓reduceIte]) (fun fr' t6 g3 g5 g6 g7 => ?_)
          refine run_sem 1000 ?_
          simp -implicitDefEqProofs (disch := omega) only [go_sem, ↓reduceIte, Nat.reduceEqDiff, g3, g7]
          refine callT hT t_term_Graph_Deep (k_DeepAt hT hlt) 1000 fun t7 ht7 => ?_
          simp -implicitDefEqProofs (disch := omega) only [go_sem, ↓reduceIte, Nat.reduceEqDiff, decide_false, g7, h8]
          simp -implicitDefEqProofs (disch := omega) only [go_sem, hwi]
          refine ⟨L.length - (i + 1), _, _, by omega, Shift.drop (o' := kG F.fmt v0 v1 w2 w3 w4 L ++ [some (.arr r 9 ((shortT F.fmt L (i + 1)).map V.str))]) (t' := t7) (by rw [hs]; simp [subObs, kG]) (by simp) (Nat.zero_le _), i + 1, t7, w2, w3, w4, r, hlt, rfl, ?_⟩
          simp -implicitDefEqProofs (disch := omega) only [go_sem, ↓reduceIte, Nat.reduceEqDiff, g3, g5, g6, hs]
        · refine W_run 1000 ?_
          simp -implicitDefEqProofs (disch := omega) only [go_sem, ↓reduceIte, Nat.reduceEqDiff, decide_true, proofmarklaw02_TermOnce_r7, proofmarklaw02_TermOnce_r8, proofmarklaw02_TermOnce_r9, proofmarklaw02_TermOnce_r10, proofmarklaw02_TermOnce_r11, proofmarklaw02_TermOnce_r12, proofmarklaw02_TermOnce_r13, proofmarklaw02_TermOnce_r14, proofmarklaw02_TermOnce_r15, proofmarklaw02_TermOnce_r16, proofmarklaw02_TermOnce_r17, proofmarklaw02_TermOnce_r18, proofmarklaw02_TermOnce_r19, f3, f5, f7, hlt]
          refine callT hT t_term_Graph_Node (k_NodeAt hT hd) 1000 fun t1 ht1 => ?_
          simp -implicitDefEqProofs (disch := omega) only [go_sem, ↓reduceIte, reduceCtorEq, Nat.reduceAdd, Nat.reduceEqDiff, Nat.reduceLT, Nat.zero_add, Bool.not_true, Bool.not_false, Nat.le_refl, Nat.zero_le, f3, Nd.cells, kG_len, kG_app, kG_6, kGs_6, List.length_cons, List.length_nil, List.cons_append, List.nil_append]
          refine callAgain hT F d (by omega) hdn hda hadd 1000 fun t2 w2 w3 w4 ht2 => ?_
          simp -implicitDefEqProofs (disch := omega) only [go_sem, ↓reduceIte, Nat.reduceAdd, Nat.reduceEqDiff, bne_self_eq_false, f3, f7, bne_self_eq_false]
          refine callT hT t_term_Graph_Size (k_Size hT) 1000 fun t3 ht3 => ?_
          simp -implicitDefEqProofs (disch := omega) only [go_sem, ↓reduceIte, Nat.reduceAdd, Nat.reduceEqDiff, Nat.reduceLeDiff, Int.reduceLE, Nat.zero_add, Nat.add_zero, decide_true, decide_false, Nat.le_refl, ge_iff_le, bne_self_eq_false, f5, f7, bne_self_eq_false, kG_6, List.length_cons, List.length_nil, k, Int.reduceBEq, ge_iff_le, hy3 k]
          refine to1 hT (d := d) (hcs := by simp [Nd.cells, k]) (v5 := .int .i64 L.length) (v6 := .sl 5 r 0 1 (shortT F.fmt L i).length none) hL hdist hd (by simp -implicitDefEqProofs (disch := omega) only [go_sem, ↓reduceIte, Nat.reduceEqDiff, f3]) (by simp -implicitDefEqProofs (disch := omega) only [go_sem, ↓reduceIte, Nat.reduceEqDiff, f5]) (by simp -implicitDefEqProofs (disch := omega) only [go_sem, ↓reduceIte, Nat.reduceEqDiff, f6]) (by simp -implicitDefEqProofs (disch := omega) only [go_sem, ↓reduceIte, Nat.reduceEqDiff, f7]) (by simp -implicitDefEqProofs (disch := omega) only [go_sem, ↓reduceIte, Nat.reduceEqDiff]) (by simp -implicitDefEqProofs (disch := omega) only [go_sem, ↓reduceIte]) (fun fr' t6 g3 g5 g6 g7 => ?_)
          refine run_sem 1000 ?_
          simp -implicitDefEqProofs (disch := omega) only [go_sem, ↓reduceIte, Nat.reduceEqDiff, g3, g7]
          refine callT hT t_term_Graph_Deep (k_DeepAt hT hlt) 1000 fun t7 ht7 => ?_
          simp -implicitDefEqProofs (disch := omega) only [go_sem, ↓reduceIte, Nat.reduceEqDiff, decide_false, g7, h8]
          simp -implicitDefEqProofs (disch := omega) only [go_sem, hwi]
          refine ⟨L.length - (i + 1), _, _, by omega, Shift.drop (o' := kG F.fmt v0 v1 w2 w3 w4 L ++ [some (.arr r 9 ((shortT F.fmt L (i + 1)).map V.str))]) (t' := t7) (by rw [hs]; simp [subObs, kG]) (by simp) (Nat.zero_le _), i + 1, t7, w2, w3, w4, r, hlt, rfl, ?_⟩
          simp -implicitDefEqProofs (disch := omega) only [go_sem, ↓reduceIte, Nat.reduceEqDiff, g3, g5, g6, hs]
        · refine W_run 1000 ?_
          simp -implicitDefEqProofs (disch := omega) only [go_sem, ↓reduceIte, Nat.reduceEqDiff, decide_true, proofmarklaw02_TermOnce_r7, proofmarklaw02_TermOnce_r8, proofmarklaw02_TermOnce_r9, proofmarklaw02_TermOnce_r10, proofmarklaw02_TermOnce_r11, proofmarklaw02_TermOnce_r12, proofmarklaw02_TermOnce_r13, proofmarklaw02_TermOnce_r14, proofmarklaw02_TermOnce_r15, proofmarklaw02_TermOnce_r16, proofmarklaw02_TermOnce_r17, proofmarklaw02_TermOnce_r18, proofmarklaw02_TermOnce_r19, f3, f5, f7, hlt]
          refine callT hT t_term_Graph_Node (k_NodeAt hT hd) 1000 fun t1 ht1 => ?_
          simp -implicitDefEqProofs (disch := omega) only [go_sem, ↓reduceIte, reduceCtorEq, Nat.reduceAdd, Nat.reduceEqDiff, Nat.reduceLT, Nat.zero_add, Bool.not_true, Bool.not_false, Nat.le_refl, Nat.zero_le, f3, Nd.cells, kG_len, kG_app, kG_6, kGs_6, List.length_cons, List.length_nil, List.cons_append, List.nil_append]
          refine callAgain hT F d (by omega) hdn hda hadd 1000 fun t2 w2 w3 w4 ht2 => ?_
          simp -implicitDefEqProofs (disch := omega) only [go_sem, ↓reduceIte, Nat.reduceAdd, Nat.reduceEqDiff, bne_self_eq_false, f3, f7, bne_self_eq_false]
          refine callT hT t_term_Graph_Size (k_Size hT) 1000 fun t3 ht3 => ?_
          simp -implicitDefEqProofs (disch := omega) only [go_sem, ↓reduceIte, Nat.reduceAdd, Nat.reduceEqDiff, Nat.reduceLeDiff, Int.reduceLE, Nat.zero_add, Nat.add_zero, decide_true, decide_false, Nat.le_refl, ge_iff_le, beq_self_eq_true, bne_self_eq_false, f5, f7, bne_self_eq_false, kG_6, List.length_cons, List.length_nil, k, ge_iff_le, hy4 k, hx4 k]
          refine to1 hT (d := d) (hcs := by simp [Nd.cells, k]) (v5 := .int .i64 L.length) (v6 := .sl 5 r 0 1 (shortT F.fmt L i).length none) hL hdist hd (by simp -implicitDefEqProofs (disch := omega) only [go_sem, ↓reduceIte, Nat.reduceEqDiff, f3]) (by simp -implicitDefEqProofs (disch := omega) only [go_sem, ↓reduceIte, Nat.reduceEqDiff, f5]) (by simp -implicitDefEqProofs (disch := omega) only [go_sem, ↓reduceIte, Nat.reduceEqDiff, f6]) (by simp -implicitDefEqProofs (disch := omega) only [go_sem, ↓reduceIte, Nat.reduceEqDiff, f7]) (by simp -implicitDefEqProofs (disch := omega) only [go_sem, ↓reduceIte, Nat.reduceEqDiff]) (by simp -implicitDefEqProofs (disch := omega) only [go_sem, ↓reduceIte]) (fun fr' t6 g3 g5 g6 g7 => ?_)
          refine run_sem 1000 ?_
          simp -implicitDefEqProofs (disch := omega) only [go_sem, ↓reduceIte, Nat.reduceEqDiff, g3, g7]
          refine callT hT t_term_Graph_Deep (k_DeepAt hT hlt) 1000 fun t7 ht7 => ?_
          simp -implicitDefEqProofs (disch := omega) only [go_sem, ↓reduceIte, Nat.reduceEqDiff, decide_false, g7, h8]
          simp -implicitDefEqProofs (disch := omega) only [go_sem, hwi]
          refine ⟨L.length - (i + 1), _, _, by omega, Shift.drop (o' := kG F.fmt v0 v1 w2 w3 w4 L ++ [some (.arr r 9 ((shortT F.fmt L (i + 1)).map V.str))]) (t' := t7) (by rw [hs]; simp [subObs, kG]) (by simp) (Nat.zero_le _), i + 1, t7, w2, w3, w4, r, hlt, rfl, ?_⟩
          simp -implicitDefEqProofs (disch := omega) only [go_sem, ↓reduceIte, Nat.reduceEqDiff, g3, g5, g6, hs]
    · have hil : i = L.length := by omega
      subst hil
      refine W_run 1000 ?_
      simp -implicitDefEqProofs (disch := omega) only [go_sem, ↓reduceIte, Nat.reduceEqDiff, decide_false, proofmarklaw02_TermOnce_r7, proofmarklaw02_TermOnce_r8, proofmarklaw02_TermOnce_r9, proofmarklaw02_TermOnce_r10, proofmarklaw02_TermOnce_r11, proofmarklaw02_TermOnce_r12, proofmarklaw02_TermOnce_r13, proofmarklaw02_TermOnce_r14, proofmarklaw02_TermOnce_r15, proofmarklaw02_TermOnce_r16, proofmarklaw02_TermOnce_r17, proofmarklaw02_TermOnce_r18, proofmarklaw02_TermOnce_r19, f5, f6, f7, show ¬ L.length < L.length from by omega]
      exact ⟨t', v2, v3, v4, r, rfl, rfl, rfl⟩
  · obtain ⟨rfl, t', v2, v3, v4, r, f6, rfl⟩ := hE
    exact hQ fr t' v2 v3 v4 r f6

theorem c_TermOnce (hT : TabOk P tab) (F : Fmt P G) (hf : NumOk F.fmt) (SO : SortOk P) (hW : Pure P G n_proofmarklaw02_works [] fun v => v = .bool true) {t : Nat} (l : List Nd) (tl : Bool) (hl : ∀ d ∈ l, i64 d.n ∧ i64 d.a) :
   C P G 0 n_proofmarklaw02_TermOnce [.lst 6 (l.map fun d => .agg d.cells) tl] ⟨t, []⟩ fun v σ => v = .bool true := by
  have hA := madeL_len l []
  have hok := okN_made l hl
  have hdist := dist_made l
  have hAe : madeL l = l.foldl (fun L d => (addN L d).2) [] := rfl
  rw [← hAe] at hA
  simp only [List.length_nil] at hA
  have hmay : ∀ (i : Nat) (d : Nd), (madeL l)[i]? = some d → addN (madeL l) d = ((i : Int), madeL l) := fun i d hd => addN_again hdist hd (may_up (hok i d hd).2.2 (Nat.le_of_lt (List.getElem?_eq_some_iff.1 hd).1))
  have hnd := shortT_nodup F hf hok hdist
  have hsl := shortT_len F.fmt (madeL l) (madeL l).length
  refine C_tab hT t_proofmarklaw02_TermOnce (by simp [proofmarklaw02_TermOnce]) (W_run 1000 ?_)
  by_cases h1 : (60 : Int) < l.length
  · simp -implicitDefEqProofs (disch := omega) only [go_sem, ↓reduceIte, reduceCtorEq, Nat.reduceEqDiff, decide_true, gt_iff_lt, proofmarklaw02_TermOnce, proofmarklaw02_TermOnce_r0, proofmarklaw02_TermOnce_r1, proofmarklaw02_TermOnce_r2, proofmarklaw02_TermOnce_r3, proofmarklaw02_TermOnce_r4, proofmarklaw02_TermOnce_r5, proofmarklaw02_TermOnce_r6, proofmarklaw02_TermOnce_r7, proofmarklaw02_TermOnce_r8, proofmarklaw02_TermOnce_r9, proofmarklaw02_TermOnce_r10, proofmarklaw02_TermOnce_r11, proofmarklaw02_TermOnce_r12, proofmarklaw02_TermOnce_r13, proofmarklaw02_TermOnce_r14, proofmarklaw02_TermOnce_r15, proofmarklaw02_TermOnce_r16, proofmarklaw02_TermOnce_r17, proofmarklaw02_TermOnce_r18, proofmarklaw02_TermOnce_r19, proofmarklaw02_TermOnce_r20, proofmarklaw02_TermOnce_r21, proofmarklaw02_TermOnce_r22, proofmarklaw02_TermOnce_r23, proofmarklaw02_TermOnce_r24, proofmarklaw02_TermOnce_r25, proofmarklaw02_TermOnce_r26, proofmarklaw02_TermOnce_r27, proofmarklaw02_TermOnce_r28, List.length_map, h1]
    refine callPS hT t_proofmarklaw02_works hW rfl 1000 ?_
    simp -implicitDefEqProofs (disch := omega) only [go_sem, ↓reduceIte, reduceCtorEq, Nat.reduceEqDiff]
  · simp -implicitDefEqProofs (disch := omega) only [go_sem, ↓reduceIte, reduceCtorEq, Nat.reduceEqDiff, decide_false, gt_iff_lt, proofmarklaw02_TermOnce, proofmarklaw02_TermOnce_r0, proofmarklaw02_TermOnce_r1, proofmarklaw02_TermOnce_r2, proofmarklaw02_TermOnce_r3, proofmarklaw02_TermOnce_r4, proofmarklaw02_TermOnce_r5, proofmarklaw02_TermOnce_r6, proofmarklaw02_TermOnce_r7, proofmarklaw02_TermOnce_r8, proofmarklaw02_TermOnce_r9, proofmarklaw02_TermOnce_r10, proofmarklaw02_TermOnce_r11, proofmarklaw02_TermOnce_r12, proofmarklaw02_TermOnce_r13, proofmarklaw02_TermOnce_r14, proofmarklaw02_TermOnce_r15, proofmarklaw02_TermOnce_r16, proofmarklaw02_TermOnce_r17, proofmarklaw02_TermOnce_r18, proofmarklaw02_TermOnce_r19, proofmarklaw02_TermOnce_r20, proofmarklaw02_TermOnce_r21, proofmarklaw02_TermOnce_r22, proofmarklaw02_TermOnce_r23, proofmarklaw02_TermOnce_r24, proofmarklaw02_TermOnce_r25, proofmarklaw02_TermOnce_r26, proofmarklaw02_TermOnce_r27, proofmarklaw02_TermOnce_r28, List.length_map, h1]
    refine callMade hT F l tl hl (by omega) 1000 fun v0 v1 v2 v3 v4 c1 u hc1 => ?_
    simp -implicitDefEqProofs (disch := omega) only [go_sem, ↓reduceIte, reduceCtorEq, Nat.reduceAdd, Nat.reduceEqDiff, Nat.reduceLT, Nat.zero_add]
    refine callT hT t_term_Graph_Size (k_Size hT) 1000 fun c2 hc2 => ?_
    simp -implicitDefEqProofs (disch := omega) only [go_sem, ↓reduceIte, reduceCtorEq, Nat.reduceEqDiff]
    refine sem_shift (Shift.own (s := 6) (sz := 1) (T := 9) (z := 0) (by simp -implicitDefEqProofs (disch := omega) only [go_sem, ↓reduceIte, reduceCtorEq, Nat.reduceEqDiff]) (by decide)) (run_sem 1000 ?_)
    simp -implicitDefEqProofs (disch := omega) only [go_sem, ↓reduceIte, reduceCtorEq, Nat.reduceEqDiff, kG_len0]
    refine to0 hT F SO (by omega) hok hdist hmay (by simp -implicitDefEqProofs (disch := omega) only [go_sem, ↓reduceIte, reduceCtorEq, Nat.reduceEqDiff]) (by simp -implicitDefEqProofs (disch := omega) only [go_sem, ↓reduceIte, reduceCtorEq, Nat.reduceEqDiff]) (by simp -implicitDefEqProofs (disch := omega) only [go_sem, ↓reduceIte, reduceCtorEq, Nat.reduceEqDiff]) (by simp -implicitDefEqProofs (disch := omega) only [go_sem, ↓reduceIte, reduceCtorEq, Nat.reduceEqDiff]) (fun fr' c3 w2 w3 w4 r g6 => ?_)
    refine run_sem 1000 ?_
    simp -implicitDefEqProofs (disch := omega) only [go_sem, ↓reduceIte]
    refine to2 hnd (by omega) kG_5 (by simp -implicitDefEqProofs (disch := omega) only [go_sem, ↓reduceIte, Nat.reduceEqDiff, g6]) (by simp -implicitDefEqProofs (disch := omega) only [go_sem, ↓reduceIte]) (fun fr'' => ?_)
    refine run_sem 1000 ?_
    simp -implicitDefEqProofs (disch := omega) only [go_sem, ↓reduceIte]
    refine callPS hT t_proofmarklaw02_works hW rfl 1000 ?_
    simp -implicitDefEqProofs (disch := omega) only [go_sem, ↓reduceIte, Nat.reduceEqDiff]
end Go.Proofs.YtchcnfokhagpkaaDoor
