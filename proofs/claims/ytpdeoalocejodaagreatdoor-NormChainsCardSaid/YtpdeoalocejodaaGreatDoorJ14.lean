/- Terms made plain: three plain terms of a graph. -/
import Derived.Test.YtpdeoalocejodaaGreatDoorJ13
/- Terms made plain: three plain terms of a graph. -/
namespace Go.Proofs.YtpdeoalocejodaaGreatDoor
open Go Go.Am
set_option maxRecDepth 100000
set_option maxHeartbeats 4000000
variable {P : Program} {G : Nat → Option V}
theorem StepO.get {L L' : List Nd} {id j : Int} {W : Nat} (h : StepO L id W j L') (hG : Gr L) (hin : inG L id) : L <+: L' ∧ Gr L' ∧ Pl L' j ∧ wt L' j ≤ 2 * wt L id ∧ L'.length ≤ L.length + (usesL L [id]).length * (16 * W + 8) ∧ (∀ S C, (∀ x ∈ S, i64 x) → (∀ c ∈ C, i64 c.n) → val S C L' j = val S C L id) ∧ (Pl L id → j = id ∧ L' = L) := by
  obtain ⟨pv, hI, rfl⟩ := h.inn hin
  have hs := uses_self hG.ok.wf hin.1 hin.2
  exact ⟨hI.pre, hI.gr, hI.pl _ hs, hI.dep _ hs, hI.len, hI.val _ hs, fun hp => ⟨hI.id _ hs hp, hI.same (hp.uses hG.ok)⟩⟩
theorem plain_one {L0 L L' : List Nd} {x j : Int} (h0 : okN L0) (hG : Gr L) (hp : L0 <+: L) (hx : inG L0 x) (hl : L0.length ≤ 30) (h : StepO L x 29 j L') : L <+: L' ∧ Gr L' ∧ Pl L' j ∧ wt L' j ≤ 60 ∧ L'.length ≤ L.length + 14160 := by
  obtain ⟨g1, g2⟩ := nd_ext hp hx
  obtain ⟨a, b, c, d, e, _⟩ := h.get hG g1
  have h1 := uses_few hG.ok g1
  have h2 := wt_le h0 x
  unfold inG at hx
  have h3 : (usesL L [x]).length * (16 * 29 + 8) ≤ 30 * 472 := Nat.mul_le_mul (by omega) (by omega)
  rw [wt_ext hp hx] at d
  exact ⟨a, b, c, by omega, by omega⟩
theorem plain_room {L0 L : List Nd} {x : Int} (hG : Gr L) (hp : L0 <+: L) (hx : inG L0 x) (hl : L0.length ≤ 30) (hL : L.length ≤ 900000) : Room L (usesL L [x]) 29 := by
  unfold inG at hx
  have := hp.length_le
  have h := room_raw hG (i := x.toNat) (W := 29) (by omega) (by omega) (by
    have : (x.toNat + 1) * (16 * 29 + 8) ≤ 30 * 472 := Nat.mul_le_mul (by omega) (by omega)
    omega)
  rw [show ((x.toNat : Nat) : Int) = x by omega] at h
  exact h
structure Plains (L : List Nd) (a b c : Int) : Prop where
  gr : Gr L
  pa : Pl L a
  pb : Pl L b
  pc : Pl L c
  wa : wt L a ≤ 60
  wb : wt L b ≤ 60
  wc : wt L c ≤ 60
  len : L.length ≤ 45000
theorem c_plains (hT : TabOk P tab) (F : Fmt P G) (SO : SortOk P) (hP : Bits P G) {t : Nat} (l : List Nd) (tl : Bool) (hl : ∀ d ∈ l, i64 d.n ∧ i64 d.a) (hn : l.length ≤ 30) (x y z : Int) :
    C P G 0 n_proofmarklaw04_plains [.lst 6 (l.map fun d => .agg d.cells) tl, .int .i64 x, .int .i64 y, .int .i64 z] ⟨t, []⟩ fun v σ => ∃ v0 v1 w2 w3 w4 t' L a b c ok, t ≤ t' ∧ v = .tup [.ptr 1 v0 0, .int .i64 a, .int .i64 b, .int .i64 c, .bool ok] ∧ σ = ⟨t', kG F.fmt v0 v1 w2 w3 w4 L ++ []⟩ ∧ (ok = true → Plains L a b c) := by
  have hA := madeL_le l
  have hG := gr_made l hl
  refine C_keep 5 (Nat.zero_le _) (C_tab hT t_proofmarklaw04_plains (by simp [proofmarklaw04_plains]) (W_run 1000 ?_))
  simp -implicitDefEqProofs (disch := omega) only [go_sem, ↓reduceIte, reduceCtorEq, Nat.reduceAdd, Nat.reduceEqDiff, Nat.zero_add, proofmarklaw04_plains, zq7_0, zq7_1, zq7_2, zq7_3, zq7_4, zq7_5]
  refine call hT t_proofmarkkit_Made (c_Made hT F l tl hl (by omega)) 1000 fun v σ hv => ?_
  obtain ⟨v0, v1, v2, v3, v4, c1, u, hc1, rfl, rfl⟩ := hv
  rw [show kG F.fmt v0 v1 v2 v3 v4 (madeL l) = kG F.fmt v0 v1 v2 v3 v4 (madeL l) ++ [] by rw [List.append_nil]]
  generalize madeL l = L at *
  simp -implicitDefEqProofs (disch := omega) only [go_sem, ↓reduceIte, reduceCtorEq, Nat.reduceAdd, Nat.reduceEqDiff, Nat.reduceLT, Nat.zero_add, List.length_cons, List.length_nil]
  refine call hT t_term_Graph_Size (k_Size hT) 1000 fun v σ hv => ?_
  obtain ⟨rfl, c2, hc2, rfl⟩ := hv
  by_cases hz : L.length = 0
  · have hz' : ((L.length : Nat) : Int) = 0 := by omega
    simp -implicitDefEqProofs (disch := omega) only [go_sem, ↓reduceIte, reduceCtorEq, Nat.reduceEqDiff, Nat.le_refl, beq_self_eq_true, kG_len0, true_and, hz']
    exact ⟨v0, v1, v2, v3, v4, c2, L, 0, 0, 0, false, by omega, rfl, ⟨rfl, rfl⟩, by simp⟩
  · have hz' : ¬ ((L.length : Nat) : Int) = 0 := by omega
    simp -implicitDefEqProofs (disch := omega) only [go_sem, ↓reduceIte, reduceCtorEq, Nat.reduceEqDiff, Nat.le_refl, kG_len0, false_implies, true_implies, true_and, not_false_eq_true, hz']
    refine call hT t_proofmarklaw04_at (k_at hT (by simp) (by omega)) 1000 fun v σ hv => ?_
    obtain ⟨rfl, c3, hc3, rfl⟩ := hv
    simp -implicitDefEqProofs (disch := omega) only [go_sem, ↓reduceIte, reduceCtorEq, Nat.reduceEqDiff]
    refine call hT t_proofmarklaw04_at (k_at hT (by simp) (by omega)) 1000 fun v σ hv => ?_
    obtain ⟨rfl, c4, hc4, rfl⟩ := hv
    simp -implicitDefEqProofs (disch := omega) only [go_sem, ↓reduceIte, reduceCtorEq, Nat.reduceEqDiff]
    refine call hT t_proofmarklaw04_at (k_at hT (by simp) (by omega)) 1000 fun v σ hv => ?_
    obtain ⟨rfl, c5, hc5, rfl⟩ := hv
    have ha := pick_in (i := x) hz
    have hb := pick_in (i := y) hz
    have hc := pick_in (i := z) hz
    generalize pickI x L.length = a at *
    generalize pickI y L.length = b at *
    generalize pickI z L.length = c at *
    simp -implicitDefEqProofs (disch := omega) only [go_sem, ↓reduceIte, reduceCtorEq, Nat.reduceEqDiff]
    refine call hT t_norm_Of (k_OfE hT F SO hP 29 hG (plain_room hG List.prefix_rfl ha (by omega) (by omega))) 1000 fun v σ hv => ?_
    obtain ⟨j1, L1, hO1, rfl, c6, w2, w3, w4, hc6, rfl⟩ := hv
    obtain ⟨p1, G1, q1, d1, e1⟩ := plain_one hG.ok hG List.prefix_rfl ha (by omega) hO1
    simp -implicitDefEqProofs (disch := omega) only [go_sem, ↓reduceIte, reduceCtorEq, Nat.reduceEqDiff]
    refine call hT t_norm_Of (k_OfE hT F SO hP 29 G1 (plain_room G1 p1 hb (by omega) (by omega))) 1000 fun v σ hv => ?_
    obtain ⟨j2, L2, hO2, rfl, c7, x2, x3, x4, hc7, rfl⟩ := hv
    obtain ⟨p2, G2, q2, d2, e2⟩ := plain_one hG.ok G1 p1 hb (by omega) hO2
    simp -implicitDefEqProofs (disch := omega) only [go_sem, ↓reduceIte, reduceCtorEq, Nat.reduceEqDiff]
    refine call hT t_norm_Of (k_OfE hT F SO hP 29 G2 (plain_room G2 (p1.trans p2) hc (by omega) (by omega))) 1000 fun v σ hv => ?_
    obtain ⟨j3, L3, hO3, rfl, c8, y2, y3, y4, hc8, rfl⟩ := hv
    obtain ⟨p3, G3, q3, d3, e3⟩ := plain_one hG.ok G2 (p1.trans p2) hc (by omega) hO3
    simp -implicitDefEqProofs (disch := omega) only [go_sem, ↓reduceIte, reduceCtorEq, Nat.reduceEqDiff, Nat.le_refl, kG_len0, true_and]
    refine ⟨v0, v1, y2, y3, y4, c8, L3, j1, j2, j3, true, by omega, rfl, ⟨rfl, rfl⟩, fun _ => ⟨G3, (q1.up G1.ok p2).up G2.ok p3, q2.up G2.ok p3, q3, ?_, ?_, d3, by omega⟩⟩
    · rw [wt_ext p3 (q1.up G1.ok p2).inn, wt_ext p2 q1.inn]; exact d1
    · rw [wt_ext p3 q2.inn]; exact d2
end Go.Proofs.YtpdeoalocejodaaGreatDoor
/- The document's Zero and Fixed. -/
namespace Go.Proofs.YtpdeoalocejodaaGreatDoor
open Go Go.Am
set_option maxRecDepth 100000
set_option maxHeartbeats 4000000
variable {P : Program} {G : Nat → Option V}
end Go.Proofs.YtpdeoalocejodaaGreatDoor
/- The law NormChains. -/
namespace Go.Proofs.YtpdeoalocejodaaGreatDoor
open Go Go.Am
set_option maxRecDepth 100000
set_option maxHeartbeats 4000000
variable {P : Program} {G : Nat → Option V}
def allW (op : Int) : List Int → Int
  | [] => 0
  | x :: l => l.foldl (doW op) x
theorem allW_i64 {op : Int} : ∀ (l : List Int) (x : Int), i64 x → (∀ y ∈ l, i64 y) → i64 (l.foldl (doW op) x)
  | [], _, h, _ => h
  | y :: l, x, h, hl => allW_i64 l _ (do_i64 h (hl y (by simp))) fun z hz => hl z (by simp [hz])
theorem c_wAll (hT : TabOk P tab) {op : Int} (ho : 0 ≤ op ∧ op ≤ 255) (ns : List Int) (hn : ∀ x ∈ ns, i64 x) (hl : ns.length ≤ 1000) (tr : Bool) : Pure P G n_word_All [.int .u8 op, .lst 1 (nints ns) tr] fun v => v = .int .i64 (allW op ns) := by
  intro t
  refine C_keep 0 (Nat.zero_le _) (C_tab hT t_word_All (by simp [word_All]) (W_run 1000 ?_))
  cases ns with
  | nil => simp -implicitDefEqProofs (disch := omega) only [go_sem, ↓reduceIte, reduceCtorEq, Nat.reduceEqDiff, Nat.zero_add, Nat.le_refl, beq_self_eq_true, word_All, zqk_0, zqk_1, zqk_2, zqk_3, zqk_4, zqk_5, zqk_6, zqk_7, zqk_8, zqk_9, nints, List.map_nil, List.length_nil, allW, show ((0 : Nat) : Int) = 0 from rfl]
  | cons x l =>
    have hlt : (l.length + 1 : Nat) ≠ 0 := by omega
    have hz : ¬ (((l.length + 1 : Nat) : Int) = 0) := by omega
    have hx := hn x (by simp)
    have hl2 : l.length + 1 ≤ 1000 := hl
    simp -implicitDefEqProofs (disch := omega) only [go_sem, need_of, ↓reduceIte, reduceCtorEq, Nat.reduceEqDiff, Nat.reduceLeDiff, Int.reduceToNat, Int.reduceLE, Nat.zero_add, decide_true, Nat.le_refl, word_All, zqk_0, zqk_1, zqk_2, zqk_3, zqk_4, zqk_5, zqk_6, zqk_7, zqk_8, zqk_9, List.length_nil, List.length_cons, hz, nints, List.map_cons, List.length_map, List.getD_cons_zero, List.drop_succ_cons, List.drop_zero]
    refine ⟨fun h => h.elim, ?_⟩
    refine sem_for l (fun i fr σ => fget fr 0 = .int .u8 op ∧ fget fr 5 = .int .i64 ((l.take i).foldl (doW op) x) ∧ fget fr 15 = .lst 1 (nints l) tr ∧ fget fr 16 = .int .i64 l.length ∧ fget fr 17 = .int .i64 ((i : Nat) : Int) ∧ σ = ⟨t, []⟩) (fun e fr σ => e = .ex 0 ∧ fget fr 5 = .int .i64 (l.foldl (doW op) x) ∧ σ = ⟨t, []⟩) ?_ (fun i y hy fr σ hJ => ?_) (fun i hi fr σ hJ => ?_) (fun e fr σ hE => ?_)
    · have htl : List.take (l.length + 1 - 1) (List.map (V.int .i64) l) = nints l := by rw [Nat.add_sub_cancel, List.take_of_length_le (by simp)]; rfl
      rw [htl, nints_length]
      simp -implicitDefEqProofs (disch := omega) only [go_sem, ↓reduceIte, reduceCtorEq, Nat.reduceEqDiff, List.take_zero, List.foldl_nil]
      exact rfl
    · obtain ⟨f0, f5, f15, f16, f17, rfl⟩ := hJ
      have hlt := (List.getElem?_eq_some_iff.1 hy).1
      have hg := nints_get hy
      have e2 := w_nx hlt (by omega)
      have hyi := hn y (by simp [List.mem_of_getElem? hy])
      have hci : i64 ((l.take i).foldl (doW op) x) := allW_i64 _ _ hx fun z hz => hn z (by simp [List.mem_of_mem_take hz])
      have htk : (l.take (i + 1)).foldl (doW op) x = doW op ((l.take i).foldl (doW op) x) y := by rw [take_snoc2 hy, List.foldl_append]; rfl
      refine W_round [(0, .int .u8 op), (5, .int .i64 ((l.take i).foldl (doW op) x)), (15, .lst 1 (nints l) tr), (16, .int .i64 l.length), (17, .int .i64 ((i : Nat) : Int))] ⟨f0, f5, f15, f16, f17, trivial⟩  1000 ?_
      simp -implicitDefEqProofs (disch := omega) only [go_sem, need_of, ↓reduceIte, reduceCtorEq, Nat.reduceEqDiff, Nat.zero_add, decide_true, Nat.le_refl, nints_length, hlt, hg]
      refine callPS hT t_word_Do (c_Do hT ho.1 ho.2 hci hyi) rfl 1000 ?_
      simp -implicitDefEqProofs (disch := omega) only [go_sem, ↓reduceIte, reduceCtorEq, Nat.reduceEqDiff, e2]
      refine ⟨_, _, Shift.refl _ _ _ _, ?_⟩
      simp -implicitDefEqProofs (disch := omega) only [go_sem, ↓reduceIte, reduceCtorEq, Nat.reduceEqDiff, htk]
    · obtain ⟨f0, f5, f15, f16, f17, rfl⟩ := hJ
      subst hi
      rw [List.take_length] at f5
      refine W_round [(5, .int .i64 (l.foldl (doW op) x)), (16, .int .i64 l.length), (17, .int .i64 l.length)] ⟨f5, f16, f17, trivial⟩ 1000 ?_
      simp -implicitDefEqProofs (disch := omega) only [go_sem, ↓reduceIte, Nat.reduceEqDiff, decide_false, Nat.lt_irrefl]
    · obtain ⟨rfl, f5, rfl⟩ := hE
      refine run_sem 1000 ?_
      simp -implicitDefEqProofs (disch := omega) only [go_sem, ↓reduceIte, Nat.reduceEqDiff, Nat.le_refl, f5, allW]
end Go.Proofs.YtpdeoalocejodaaGreatDoor
/- The law NormChains, walked. -/
namespace Go.Proofs.YtpdeoalocejodaaGreatDoor
open Go Go.Am
set_option maxRecDepth 100000
set_option maxHeartbeats 4000000
variable {P : Program} {G : Nat → Option V}
structure ChI (op a : Int) (ns : List Int) (k i : Nat) (one oth : Int) (L : List Nd) : Prop where
  gr : Gr L
  pa : Pl L a
  p1 : Pl L one
  p2 : Pl L oth
  wa : wt L a ≤ 60
  w1 : wt L one ≤ 60 + 2 * i
  w2 : wt L oth ≤ 60 + 2 * i
  i1 : Isn op a (pro op (ns.take i)) L one
  i2 : Isn op a (pro op ((turned ns k).take i)) L oth
  len : L.length ≤ 45000 + 2000 * i
abbrev chJ (fmt : Int → List UInt8) (v0 v1 k : Nat) (op a : Int) (ns : List Int) (tn : Bool) : Nat → Fr → H → Prop := fun i fr σ => ∃ t w2 w3 w4 L one oth, ChI op a ns k i one oth L ∧ fget fr 3 = .lst 1 (nints ns) tn ∧ fget fr 11 = .ptr 1 v0 0 ∧ fget fr 12 = .int .i64 a ∧ fget fr 16 = .int .u8 op ∧ fget fr 17 = .int .i64 (k : Int) ∧ fget fr 18 = .int .i64 one ∧ fget fr 19 = .int .i64 oth ∧ fget fr 20 = .int .i64 ((i : Nat) : Int) ∧ σ = ⟨t, kG fmt v0 v1 w2 w3 w4 L ++ []⟩
abbrev chE (fmt : Int → List UInt8) (v0 v1 : Nat) (op a : Int) (ns : List Int) (tn : Bool) : AE → Fr → H → Prop := fun e fr σ => e = .ex 0 ∧ ∃ t w2 w3 w4 L one, Gr L ∧ Pl L a ∧ Pl L one ∧ wt L a ≤ 60 ∧ Isn op a (pro op ns) L one ∧ L.length ≤ 100000 ∧ fget fr 3 = .lst 1 (nints ns) tn ∧ fget fr 11 = .ptr 1 v0 0 ∧ fget fr 12 = .int .i64 a ∧ fget fr 16 = .int .u8 op ∧ fget fr 18 = .int .i64 one ∧ fget fr 19 = .int .i64 one ∧ σ = ⟨t, kG fmt v0 v1 w2 w3 w4 L ++ []⟩
theorem ch_round (hT : TabOk P tab) (F : Fmt P G) (hP : Bits P G) {v0 v1 k : Nat} {op a : Int} {ns : List Int} {tn : Bool} (hg : groupsW op = true) (hn : ∀ x ∈ ns, i64 x) (hl : ns.length ≤ 10) (hk : k < ns.length) (i : Nat) (x : Int) (hx : ns[i]? = some x) (fr : Fr) (σ : H) (hJ : chJ F.fmt v0 v1 k op a ns tn i fr σ) :
    W P G 106 0 (AC.seq (AC.seq (AC.reg zq2_10 [53, 54, 55])   (AC.cond (Arg.t 56)   AC.skip   (AC.exit 0)))   (AC.seq (AC.block 1 (AC.seq (AC.reg zq2_11 [59, 60, 61, 62, 63, 64, 65, 66, 67, 68])   (AC.reg zq2_12 [69, 70, 71, 72, 73, 74, 75, 76, 77, 78, 79, 80, 81, 82, 83])))   (AC.reg zq2_13 [57, 58]))) fr σ (seqQ (fun fr σ => ∃ fr' σ', Shift G 106 0 fr σ fr' σ' ∧ chJ F.fmt v0 v1 k op a ns tn (i + 1) fr' σ') (chE F.fmt v0 v1 op a ns tn)) := by
  obtain ⟨t, w2, w3, w4, L, one, oth, hI, f3, f11, f12, f16, f17, f18, f19, f20, rfl⟩ := hJ
  have hop := grp_ho hg
  have hlt := (List.getElem?_eq_some_iff.1 hx).1
  have hD := nints_get hx
  have e2 := w_nx hlt (by omega)
  have hxi := hn x (List.mem_of_getElem? hx)
  have hm : (i + k) % ns.length < ns.length := Nat.mod_lt _ (by omega)
  obtain ⟨y, hy⟩ : ∃ y, ns[(i + k) % ns.length]? = some y := ⟨_, List.getElem?_eq_getElem hm⟩
  have hyD := nints_get hy
  have hyi := hn y (List.mem_of_getElem? hy)
  have hty : (turned ns k)[i]? = some y := by
    unfold turned
    rw [List.getElem?_map, List.getElem?_range hlt]
    simp [List.getD_eq_getElem?_getD, hy]
  have ew : IntKind.i64.wrap ((i : Int) + (k : Int)) = ((i + k : Nat) : Int) := by rw [wrap_i64 (by omega) (by omega)]; omega
  have et : Int.tmod ((i + k : Nat) : Int) (ns.length : Int) = (((i + k) % ns.length : Nat) : Int) := by
    rw [Int.tmod_eq_emod_of_nonneg (by omega)]; rfl
  have hnz : ¬ ((ns.length : Nat) : Int) = 0 := by omega
  have hlen := hI.len
  have hs1 : ns.take (i + 1) = ns.take i ++ [x] := take_snoc2 hx
  have hs2 : (turned ns k).take (i + 1) = (turned ns k).take i ++ [y] := take_snoc2 hty
  have hp1 : i64 (pro op (ns.take i)) := pro_i64 hg fun z hz => hn z (List.mem_of_mem_take hz)
  have hp2 : i64 (pro op ((turned ns k).take i)) := pro_i64 hg fun z hz => by
    have := List.mem_of_mem_take hz
    rw [turned_eq (by omega)] at this
    rcases List.mem_append.1 this with h | h
    · exact hn z (List.mem_of_mem_drop h)
    · exact hn z (List.mem_of_mem_take h)
  refine W_round [(3, .lst 1 (nints ns) tn), (11, .ptr 1 v0 0), (12, .int .i64 a), (16, .int .u8 op), (17, .int .i64 (k : Int)), (18, .int .i64 one), (19, .int .i64 oth), (20, .int .i64 ((i : Nat) : Int))] ⟨f3, f11, f12, f16, f17, f18, f19, f20, trivial⟩  1000 ?_
  simp -implicitDefEqProofs (disch := omega) only [go_sem, need_of, ↓reduceIte, Nat.reduceEqDiff, Nat.zero_add, decide_true, Nat.le_refl, zq2_10, zq2_11, zq2_12, zq2_13, nints_length, List.length_cons, List.length_nil, true_implies, and_true, hlt, hD]
  refine call hT t_proofmarklaw04_num (k_lnumE hT F hI.gr hxi (by omega)) 1000 fun v σ hv => ?_
  obtain ⟨n1, L1, s1, rfl, t1, x2, x3, x4, ht1, rfl⟩ := hv
  have l1 := s1.len
  simp -implicitDefEqProofs (disch := omega) only [go_sem, ↓reduceIte, Nat.reduceEqDiff]
  refine call hT t_norm_Bin (k_BinE hT F hP (60 + 2 * i) s1.gr hop (hI.p1.up hI.gr.ok s1.pre) s1.pl (by rw [wt_ext s1.pre hI.p1.inn]; have := hI.w1; omega) (by rw [wt_num s1.num]; omega) (by omega)) 1000 fun v σ hv => ?_
  obtain ⟨r1, L2, s2, rfl, t2, y2, y3, y4, ht2, rfl⟩ := hv
  have l2 := s2.len
  simp -implicitDefEqProofs (disch := omega) only [go_sem, need_of, ↓reduceIte, Nat.reduceEqDiff, Nat.zero_add, Nat.le_refl, nints_length, List.length_cons, List.length_nil, true_implies, and_true, not_false_eq_true, ew, hnz, et, hm, hyD]
  refine call hT t_proofmarklaw04_num (k_lnumE hT F s2.gr hyi (by omega)) 1000 fun v σ hv => ?_
  obtain ⟨n2, L3, s3, rfl, t3, z2, z3, z4, ht3, rfl⟩ := hv
  have l3 := s3.len
  have p03 := (s1.pre.trans s2.pre).trans s3.pre
  simp -implicitDefEqProofs (disch := omega) only [go_sem, ↓reduceIte, Nat.reduceEqDiff]
  refine call hT t_norm_Bin (k_BinE hT F hP (60 + 2 * i) s3.gr hop s3.pl (hI.p2.up hI.gr.ok p03) (by rw [wt_num s3.num]; omega) (by rw [wt_ext p03 hI.p2.inn]; have := hI.w2; omega) (by omega)) 1000 fun v σ hv => ?_
  obtain ⟨r2, L4, s4, rfl, t4, u2, u3, u4, ht4, rfl⟩ := hv
  have l4 := s4.len
  have d2 := s2.dep
  have d4 := s4.dep
  have hpa2 := (hI.pa.up hI.gr.ok s1.pre).up s1.gr.ok s2.pre
  have p24 := s3.pre.trans s4.pre
  have j1 := isn_step hg hI.gr hI.pa (s1.pre.trans s2.pre) s2.gr hp1 hI.p1.inn hI.i1 (Ec.of ((numI_ext s2.pre (in_num s1.num)).trans s1.num) s2.bn)
  have j2 := isn_step hg hI.gr hI.pa (p03.trans s4.pre) s4.gr hp2 hI.p2.inn hI.i2 (Ec.of ((numI_ext s4.pre (in_num s3.num)).trans s3.num) (s4.bn.swap (grp_swap hg)))
  rw [← pro_snoc, ← hs1] at j1
  rw [← pro_snoc, ← hs2] at j2
  simp -implicitDefEqProofs (disch := omega) only [go_sem, ↓reduceIte, Nat.reduceEqDiff, e2]
  refine ⟨_, _, Shift.refl _ _ _ _, t4, u2, u3, u4, L4, r1, r2, ⟨s4.gr, hpa2.up s2.gr.ok p24, s2.pl.up s2.gr.ok p24, s4.pl, ?_, ?_, by omega, j1.up p24, j2, by omega⟩, ?_⟩
  · rw [wt_ext p24 hpa2.inn, wt_ext s2.pre (hI.pa.up hI.gr.ok s1.pre).inn, wt_ext s1.pre hI.pa.inn]; exact hI.wa
  · rw [wt_ext p24 s2.pl.inn]; omega
  · simp -implicitDefEqProofs (disch := omega) only [go_sem, ↓reduceIte, Nat.reduceEqDiff, and_true]
theorem ch_done {v0 v1 k : Nat} {op a : Int} {ns : List Int} {tn : Bool} {fmt : Int → List UInt8} (hg : groupsW op = true) (hn : ∀ x ∈ ns, i64 x) (hl : ns.length ≤ 10) (hk : k ≤ ns.length) (fr : Fr) (σ : H) (hJ : chJ fmt v0 v1 k op a ns tn ns.length fr σ) :
    W P G 106 0 (AC.seq (AC.seq (AC.reg zq2_10 [53, 54, 55])   (AC.cond (Arg.t 56)   AC.skip   (AC.exit 0)))   (AC.seq (AC.block 1 (AC.seq (AC.reg zq2_11 [59, 60, 61, 62, 63, 64, 65, 66, 67, 68])   (AC.reg zq2_12 [69, 70, 71, 72, 73, 74, 75, 76, 77, 78, 79, 80, 81, 82, 83])))   (AC.reg zq2_13 [57, 58]))) fr σ (seqQ (fun _ _ => False) (chE fmt v0 v1 op a ns tn)) := by
  obtain ⟨t, w2, w3, w4, L, one, oth, hI, f3, f11, f12, f16, f17, f18, f19, f20, rfl⟩ := hJ
  have hp : i64 (pro op ns) := pro_i64 hg hn
  have h1 := hI.i1
  have h2 := hI.i2
  rw [List.take_length] at h1
  rw [List.take_of_length_le (by simp [turned]), pro_turned hg hk] at h2
  have e := isn_eq hI.gr (grp_ho hg) hI.pa hp h1 h2
  subst e
  have hlen := hI.len
  refine W_round [(3, .lst 1 (nints ns) tn), (11, .ptr 1 v0 0), (12, .int .i64 a), (16, .int .u8 op), (17, .int .i64 (k : Int)), (18, .int .i64 one), (19, .int .i64 one), (20, .int .i64 ((ns.length : Nat) : Int))] ⟨f3, f11, f12, f16, f17, f18, f19, f20, trivial⟩ 1000 ?_
  simp -implicitDefEqProofs (disch := omega) only [go_sem, ↓reduceIte, Nat.reduceEqDiff, decide_false, zq2_10, zq2_11, zq2_12, zq2_13, nints_length, Nat.lt_irrefl]
  refine ⟨rfl, t, w2, w3, w4, L, one, hI.gr, hI.pa, hI.p1, hI.wa, h1, by omega, ?_⟩
  simp -implicitDefEqProofs (disch := omega) only [go_sem, ↓reduceIte, Nat.reduceEqDiff, and_true]
theorem ch_end (hT : TabOk P tab) (F : Fmt P G) (hP : Bits P G) (hW : Pure P G n_proofmarklaw04_works [] fun v => v = .bool true) {v0 v1 : Nat} {op a : Int} {ns : List Int} {tn : Bool} (hg : groupsW op = true) (hn : ∀ x ∈ ns, i64 x) (hl : ns.length ≤ 10) (fr : Fr) (σ : H) (hE : chE F.fmt v0 v1 op a ns tn (.ex 0) fr σ) :
    W P G 106 0 (AC.seq (AC.seq (AC.reg zq2_14 [84, 85])   (AC.cond (Arg.t 86)   (AC.seq (AC.reg zq2_15 [])   AC.ret)   AC.skip))   (AC.seq (AC.reg zq2_16 [87, 88, 89, 90, 91, 92, 93, 94, 95, 96, 97, 98, 99, 100, 101, 102, 103, 104, 105])   AC.ret)) fr σ (endK G [RV.tmp 10] fun v _ => v = V.bool true) := by
  obtain ⟨-, t, w2, w3, w4, L, one, hG, pa, p1, wa, hi, hlen, f3, f11, f12, f16, f18, f19, rfl⟩ := hE
  have hop := grp_ho hg
  refine W_round [(3, .lst 1 (nints ns) tn), (11, .ptr 1 v0 0), (12, .int .i64 a), (16, .int .u8 op), (18, .int .i64 one), (19, .int .i64 one)] ⟨f3, f11, f12, f16, f18, f19, trivial⟩  1000 ?_
  cases ns with
  | nil =>
    simp -implicitDefEqProofs (disch := omega) only [go_sem, ↓reduceIte, Nat.reduceAdd, Nat.reduceEqDiff, beq_self_eq_true, bne_self_eq_false, zq2_14, zq2_15, zq2_16, nints_length, List.length_nil, bne_self_eq_false, show ((0 : Nat) : Int) = 0 from rfl]
    refine callPS hT t_proofmarklaw04_works hW rfl 1000 ?_
    simp -implicitDefEqProofs (disch := omega) only [go_sem, ↓reduceIte, Nat.reduceEqDiff]
  | cons x l =>
    have hnz : ¬ (((l.length + 1 : Nat) : Int) = 0) := by omega
    have hall := c_wAll (P := P) (G := G) hT (op := op) (by omega) (x :: l) hn (by omega) tn
    have hpr : allW op (x :: l) = pro op (x :: l) := (pro_cons hg (hn x (by simp)) l).symm
    rw [hpr] at hall
    simp -implicitDefEqProofs (disch := omega) only [go_sem, ↓reduceIte, Nat.reduceAdd, Nat.reduceEqDiff, bne_self_eq_false, zq2_14, zq2_15, zq2_16, nints_length, List.length_cons, false_implies, true_implies, true_and, not_false_eq_true, bne_self_eq_false, hnz]
    refine callPS hT t_word_All hall rfl 1000 ?_
    simp -implicitDefEqProofs (disch := omega) only [go_sem, ↓reduceIte, Nat.reduceAdd, Nat.reduceEqDiff]
    refine call hT t_proofmarklaw04_num (k_lnumE hT F hG (pro_i64 hg hn) (by omega)) 1000 fun v σ hv => ?_
    obtain ⟨n1, L1, s1, rfl, t1, x2, x3, x4, ht1, rfl⟩ := hv
    have l1 := s1.len
    simp -implicitDefEqProofs (disch := omega) only [go_sem, ↓reduceIte, Nat.reduceAdd, Nat.reduceEqDiff]
    refine call hT t_norm_Bin (k_BinE hT F hP 60 s1.gr hop (pa.up hG.ok s1.pre) s1.pl (by rw [wt_ext s1.pre pa.inn]; exact wa) (by rw [wt_num s1.num]; omega) (by omega)) 1000 fun v σ hv => ?_
    obtain ⟨r1, L2, s2, rfl, t2, y2, y3, y4, ht2, rfl⟩ := hv
    have e := hi L2 (s1.pre.trans s2.pre) s2.gr r1 (Ec.of ((numI_ext s2.pre (in_num s1.num)).trans s1.num) s2.bn)
    subst e
    simp -implicitDefEqProofs (disch := omega) only [go_sem, ↓reduceIte, Nat.reduceAdd, Nat.reduceEqDiff, beq_self_eq_true]
    refine callPS hT t_proofmarklaw04_works hW rfl 1000 ?_
    simp -implicitDefEqProofs (disch := omega) only [go_sem, ↓reduceIte, Nat.reduceEqDiff]
end Go.Proofs.YtpdeoalocejodaaGreatDoor
/- The law NormChains. -/
namespace Go.Proofs.YtpdeoalocejodaaGreatDoor
open Go Go.Am
set_option maxRecDepth 100000
set_option maxHeartbeats 4000000
variable {P : Program} {G : Nat → Option V}
theorem c_NormChains (hT : TabOk P tab) (F : Fmt P G) (SO : SortOk P) (hP : Bits P G) (hW : Pure P G n_proofmarklaw04_works [] fun v => v = .bool true) {t : Nat} (l : List Nd) (tl : Bool) (hl : ∀ d ∈ l, i64 d.n ∧ i64 d.a)
    (x w : Int) (hw : 0 ≤ w ∧ w ≤ 255) (ns : List Int) (tn : Bool) (hn : ∀ x ∈ ns, i64 x) (tu : Int) :
   C P G 0 n_proofmarklaw04_NormChains [.lst 6 (l.map fun d => .agg d.cells) tl, .int .i64 x, .int .u8 w, .lst 1 (nints ns) tn, .int .i64 tu] ⟨t, []⟩ fun v _ => v = .bool true := by
  refine C_tab hT t_proofmarklaw04_NormChains (by simp [proofmarklaw04_NormChains]) (W_run 14 ?_)
  by_cases h1 : (20 : Int) < l.length
  · have h1' : decide ((20 : Int) < l.length) = true := by simpa using h1
    simp -implicitDefEqProofs (disch := omega) only [go_sem, ↓reduceIte, reduceCtorEq, Nat.reduceAdd, Nat.reduceEqDiff, Nat.zero_add, decide_true, gt_iff_lt, proofmarklaw04_NormChains, zq2_0, zq2_1, zq2_2, zq2_3, zq2_4, zq2_5, zq2_6, zq2_7, zq2_8, zq2_9, zq2_10, zq2_11, zq2_12, zq2_13, zq2_14, zq2_15, zq2_16, List.length_map, h1]
    iterate 9 (try (refine run_sem 4 ?_; simp -implicitDefEqProofs (disch := omega) only [go_sem, ↓reduceIte, reduceCtorEq, Nat.reduceEqDiff]))
    refine callPS hT t_proofmarklaw04_works hW rfl 1000 ?_
    simp -implicitDefEqProofs (disch := omega) only [go_sem, ↓reduceIte, reduceCtorEq, Nat.reduceEqDiff]
  · have h1' : decide ((20 : Int) < l.length) = false := by simpa using h1
    by_cases h2 : (10 : Int) < ns.length
    · have h2' : decide ((10 : Int) < ns.length) = true := by simpa using h2
      simp -implicitDefEqProofs (disch := omega) only [go_sem, ↓reduceIte, reduceCtorEq, Nat.reduceAdd, Nat.reduceEqDiff, Nat.zero_add, decide_true, decide_false, gt_iff_lt, proofmarklaw04_NormChains, zq2_0, zq2_1, zq2_2, zq2_3, zq2_4, zq2_5, zq2_6, zq2_7, zq2_8, zq2_9, zq2_10, zq2_11, zq2_12, zq2_13, zq2_14, zq2_15, zq2_16, nints_length, List.length_map, h1, h2]
      iterate 9 (try (refine run_sem 4 ?_; simp -implicitDefEqProofs (disch := omega) only [go_sem, ↓reduceIte, reduceCtorEq, Nat.reduceEqDiff]))
      refine callPS hT t_proofmarklaw04_works hW rfl 1000 ?_
      simp -implicitDefEqProofs (disch := omega) only [go_sem, ↓reduceIte, reduceCtorEq, Nat.reduceEqDiff]
    · have h2' : decide ((10 : Int) < ns.length) = false := by simpa using h2
      simp -implicitDefEqProofs (disch := omega) only [go_sem, ↓reduceIte, reduceCtorEq, Nat.reduceAdd, Nat.reduceEqDiff, Nat.zero_add, decide_false, gt_iff_lt, proofmarklaw04_NormChains, zq2_0, zq2_1, zq2_2, zq2_3, zq2_4, zq2_5, zq2_6, zq2_7, zq2_8, zq2_9, zq2_10, zq2_11, zq2_12, zq2_13, zq2_14, zq2_15, zq2_16, nints_length, List.length_map, h1, h2]
      iterate 9 (try (refine run_sem 4 ?_; simp -implicitDefEqProofs (disch := omega) only [go_sem, ↓reduceIte, reduceCtorEq, Nat.reduceEqDiff]))
      refine call hT t_proofmarklaw04_plains (c_plains hT F SO hP l tl hl (by omega) x 0 0) 1000 fun v σ hv => ?_
      obtain ⟨v0, v1, v2, v3, v4, c1, L, a, b, z, ok, hc1, rfl, rfl, hpl⟩ := hv
      cases ok with
      | false =>
        simp -implicitDefEqProofs (disch := omega) only [go_sem, ↓reduceIte, reduceCtorEq, Nat.reduceAdd, Nat.reduceEqDiff, Nat.reduceLT, Nat.zero_add, Bool.not_false, List.length_cons, List.length_nil]
        refine callPS hT t_proofmarklaw04_works hW rfl 1000 ?_
        simp -implicitDefEqProofs (disch := omega) only [go_sem, ↓reduceIte, reduceCtorEq, Nat.reduceEqDiff]
      | true =>
        have hpl := hpl rfl
        have hpk := c_Pick (P := P) (G := G) hT (i := tu) (n := ns.length) (by omega)
        have hwm : w.tmod 5 = 0 ∨ w.tmod 5 = 1 ∨ w.tmod 5 = 2 ∨ w.tmod 5 = 3 ∨ w.tmod 5 = 4 := by
          rw [Int.tmod_eq_emod_of_nonneg hw.1]; omega
        obtain ⟨k, hk, hkl⟩ : ∃ k : Nat, pickI tu ns.length = (k : Int) ∧ (k < ns.length ∨ (ns.length = 0 ∧ k = 0)) := by
          unfold pickI
          split
          · rename_i h; exact ⟨0, rfl, .inr ⟨h, rfl⟩⟩
          · rename_i h
            have h3 := Int.emod_nonneg tu (b := (ns.length : Int)) (by omega)
            have h4 := Int.emod_lt_of_pos tu (b := (ns.length : Int)) (by omega)
            exact ⟨(tu % ns.length).toNat, by omega, .inl (by omega)⟩
        rw [hk] at hpk
        have fin : ∀ (op : Int) (hg : groupsW op = true) (fr : Fr) (Q : AE → Fr → H → Prop), Q = endK G [RV.tmp 10] (fun v _ => v = V.bool true) → fget fr 3 = .lst 1 (nints ns) tn → fget fr 11 = .ptr 1 v0 0 → fget fr 12 = .int .i64 a → fget fr 16 = .int .u8 op → fget fr 17 = .int .i64 (k : Int) → fget fr 18 = .int .i64 a → fget fr 19 = .int .i64 a → fget fr 20 = .int .i64 0 →
            sem P G 106 0 Q [KI.ac (.loop (AC.seq (AC.seq (AC.reg zq2_10 [53, 54, 55])   (AC.cond (Arg.t 56)   AC.skip   (AC.exit 0)))   (AC.seq (AC.block 1 (AC.seq (AC.reg zq2_11 [59, 60, 61, 62, 63, 64, 65, 66, 67, 68])   (AC.reg zq2_12 [69, 70, 71, 72, 73, 74, 75, 76, 77, 78, 79, 80, 81, 82, 83])))   (AC.reg zq2_13 [57, 58])))), KI.blk 0, KI.ac (AC.seq (AC.seq (AC.reg zq2_14 [84, 85])   (AC.cond (Arg.t 86)   (AC.seq (AC.reg zq2_15 [])   AC.ret)   AC.skip))   (AC.seq (AC.reg zq2_16 [87, 88, 89, 90, 91, 92, 93, 94, 95, 96, 97, 98, 99, 100, 101, 102, 103, 104, 105])   AC.ret))] .nrm fr ⟨c1, kG F.fmt v0 v1 v2 v3 v4 L⟩ := by
          intro op hg fr Q hQ f3 f11 f12 f16 f17 f18 f19 f20
          subst hQ
          have hop := grp_ho hg
          obtain ⟨kp, hkp, hkpi⟩ := grp_keep hg
          have hik : Isn op a (pro op []) L a := by
            have : pro op [] = kp := by unfold pro; rw [hkp]; rfl
            rw [this]; exact isn_keep hop hpl.pa.inn hkp
          refine sem_for ns (chJ F.fmt v0 v1 k op a ns tn) (chE F.fmt v0 v1 op a ns tn) ?_ (fun i y hy fr σ hJ => ?_) (fun i hi fr σ hJ => ?_) (fun e fr σ hE => ?_)
          · refine ⟨c1, v2, v3, v4, L, a, a, ⟨hpl.gr, hpl.pa, hpl.pa, hpl.pa, hpl.wa, by have := hpl.wa; omega, by have := hpl.wa; omega, by rw [List.take_zero]; exact hik, by rw [List.take_zero]; exact hik, by have := hpl.len; omega⟩, f3, f11, f12, f16, f17, f18, f19, f20, by rw [List.append_nil]⟩
          · have hlt := (List.getElem?_eq_some_iff.1 hy).1
            exact ch_round hT F hP hg hn (by omega) (by omega) i y hy fr σ hJ
          · subst hi
            exact ch_done hg hn (by omega) (by omega) fr σ hJ
          · have he := hE.1
            subst he
            refine run_sem 1 ?_
            simp -implicitDefEqProofs (disch := omega) only [go_sem, ↓reduceIte]
            exact ch_end hT F hP hW hg hn (by omega) fr σ hE
        rcases hwm with hw5 | hw5 | hw5 | hw5 | hw5
        · simp -implicitDefEqProofs (disch := omega) only [go_sem, ↓reduceIte, reduceCtorEq, Nat.reduceAdd, Nat.reduceEqDiff, Nat.reduceLeDiff, Nat.reduceLT, Int.reduceToNat, Int.reduceLE, Int.reduceEq, Nat.zero_add, Bool.not_true, Nat.le_refl, nints_length, List.length_cons, List.length_nil, List.cons_append, List.nil_append, List.take_succ_cons, List.take_zero, true_implies, and_true, not_false_eq_true, hw5]
          refine callPS hT t_proofmarkkit_Pick hpk rfl 1000 ?_
          simp -implicitDefEqProofs (disch := omega) only [go_sem, ↓reduceIte, reduceCtorEq, Nat.reduceEqDiff]
          refine fin 1 (by decide) _ _ rfl ?_ ?_ ?_ ?_ ?_ ?_ ?_ ?_ <;> simp -implicitDefEqProofs (disch := omega) only [go_sem, ↓reduceIte, reduceCtorEq, Nat.reduceEqDiff]
        · simp -implicitDefEqProofs (disch := omega) only [go_sem, ↓reduceIte, reduceCtorEq, Nat.reduceAdd, Nat.reduceEqDiff, Nat.reduceLeDiff, Nat.reduceLT, Int.reduceToNat, Int.reduceLE, Int.reduceEq, Nat.zero_add, Bool.not_true, Nat.le_refl, nints_length, List.length_cons, List.length_nil, List.cons_append, List.nil_append, List.take_succ_cons, List.take_zero, true_implies, and_true, not_false_eq_true, hw5]
          refine callPS hT t_proofmarkkit_Pick hpk rfl 1000 ?_
          simp -implicitDefEqProofs (disch := omega) only [go_sem, ↓reduceIte, reduceCtorEq, Nat.reduceEqDiff]
          refine fin 3 (by decide) _ _ rfl ?_ ?_ ?_ ?_ ?_ ?_ ?_ ?_ <;> simp -implicitDefEqProofs (disch := omega) only [go_sem, ↓reduceIte, reduceCtorEq, Nat.reduceEqDiff]
        · simp -implicitDefEqProofs (disch := omega) only [go_sem, ↓reduceIte, reduceCtorEq, Nat.reduceAdd, Nat.reduceEqDiff, Nat.reduceLeDiff, Nat.reduceLT, Int.reduceToNat, Int.reduceLE, Int.reduceEq, Nat.zero_add, Bool.not_true, Nat.le_refl, nints_length, List.length_cons, List.length_nil, List.cons_append, List.nil_append, List.take_succ_cons, List.take_zero, true_implies, and_true, not_false_eq_true, hw5]
          refine callPS hT t_proofmarkkit_Pick hpk rfl 1000 ?_
          simp -implicitDefEqProofs (disch := omega) only [go_sem, ↓reduceIte, reduceCtorEq, Nat.reduceEqDiff]
          refine fin 8 (by decide) _ _ rfl ?_ ?_ ?_ ?_ ?_ ?_ ?_ ?_ <;> simp -implicitDefEqProofs (disch := omega) only [go_sem, ↓reduceIte, reduceCtorEq, Nat.reduceEqDiff]
        · simp -implicitDefEqProofs (disch := omega) only [go_sem, ↓reduceIte, reduceCtorEq, Nat.reduceAdd, Nat.reduceEqDiff, Nat.reduceLeDiff, Nat.reduceLT, Int.reduceToNat, Int.reduceLE, Int.reduceEq, Nat.zero_add, Bool.not_true, Nat.le_refl, nints_length, List.length_cons, List.length_nil, List.cons_append, List.nil_append, List.take_succ_cons, List.take_zero, true_implies, and_true, not_false_eq_true, hw5]
          refine callPS hT t_proofmarkkit_Pick hpk rfl 1000 ?_
          simp -implicitDefEqProofs (disch := omega) only [go_sem, ↓reduceIte, reduceCtorEq, Nat.reduceEqDiff]
          refine fin 9 (by decide) _ _ rfl ?_ ?_ ?_ ?_ ?_ ?_ ?_ ?_ <;> simp -implicitDefEqProofs (disch := omega) only [go_sem, ↓reduceIte, reduceCtorEq, Nat.reduceEqDiff]
        · simp -implicitDefEqProofs (disch := omega) only [go_sem, ↓reduceIte, reduceCtorEq, Nat.reduceAdd, Nat.reduceEqDiff, Nat.reduceLeDiff, Nat.reduceLT, Int.reduceToNat, Int.reduceLE, Int.reduceEq, Nat.zero_add, Bool.not_true, Nat.le_refl, nints_length, List.length_cons, List.length_nil, List.cons_append, List.nil_append, List.take_succ_cons, List.take_zero, true_implies, and_true, not_false_eq_true, hw5]
          refine callPS hT t_proofmarkkit_Pick hpk rfl 1000 ?_
          simp -implicitDefEqProofs (disch := omega) only [go_sem, ↓reduceIte, reduceCtorEq, Nat.reduceEqDiff]
          refine fin 10 (by decide) _ _ rfl ?_ ?_ ?_ ?_ ?_ ?_ ?_ ?_ <;> simp -implicitDefEqProofs (disch := omega) only [go_sem, ↓reduceIte, reduceCtorEq, Nat.reduceEqDiff]
end Go.Proofs.YtpdeoalocejodaaGreatDoor
