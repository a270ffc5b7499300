/- Images: rows of symbols gone through; is one right? -/
import Derived.Test.YtaidbdgndljaeaaGreatDoorJ2
import Derived.RangeFuncNested
import Derived.RangeFuncBound
import Derived.RangeFuncCalls
import Derived.RangeFuncLeaves
import Derived.Shelf.Abstract
import Derived.Shelf.RegionOpen
import Derived.WalkKit
import Derived.OwnWalkIn
import Derived.TacticsInMore
import Derived.LoopNIn
import Derived.LoopIn
import Derived.Test.YtaidbdgndljaeaaGreatDoorProg
import Derived.Test.YtaidbdgndljaeaaGreatDoorAmA
import Derived.Test.YtaidbdgndljaeaaGreatDoorJ1
/- Images: rows of symbols gone through; is one right? -/
namespace Go.Proofs.YtaidbdgndljaeaaGreatDoor
open Go Go.Am Go.Rv Go.Rg
set_option maxRecDepth 100000
variable {P : Program} {G : Nat → Option V}
theorem c_IdxSym (hT : TabOk P tab) {base t : Nat} {o : List (Option Ob)} {f : V} {p : Nat → Bool} {l : List (List UInt8 × Int)} {tg : Bool} (Inv : Nat → H → Prop) (End : H → Prop) (hl : l.length ≤ 9223372036854775807)
    (hp : ∀ i a, l[i]? = some a → ∀ σ, Inv i σ → CV P G base f [symV a] σ fun v σ' => v = .bool (p i) ∧ (p i = false → Inv (i + 1) σ') ∧ (p i = true → End σ')) (h0 : Inv 0 ⟨t, o⟩) :
    C P G base n_slices_IndexFunc_image_Sym_image_Sym [.lst 2 (l.map symV) tg, f] ⟨t, o⟩ fun v σ => (∃ i, i < l.length ∧ (∀ j, j < i → p j = false) ∧ p i = true ∧ v = .int .i64 ((i : Nat) : Int) ∧ End σ) ∨ ((∀ j, j < l.length → p j = false) ∧ v = .int .i64 (-1) ∧ Inv l.length σ) := by
  refine C_tab hT t_slices_IndexFunc_image_Sym_image_Sym (by simp [slices_IndexFunc_image_Sym_image_Sym]) (W_run 1000 ?_)
  simp -implicitDefEqProofs (disch := omega) only [go_sem, ↓reduceIte, reduceCtorEq, Nat.reduceEqDiff, Nat.zero_add, slices_IndexFunc_image_Sym_image_Sym, zq1z_0, zq1z_1, zq1z_2, zq1z_3, zq1z_4, zq1z_5, zq1z_6, zq1z_7, List.length_map]
  refine sem_invE (fun m fr σ => ∃ i, i ≤ l.length ∧ m = l.length - i ∧ (∀ j, j < i → p j = false) ∧ fget fr 0 = .lst 2 (l.map symV) tg ∧ fget fr 1 = f ∧ fget fr 7 = .int .i64 l.length ∧ fget fr 8 = .int .i64 i ∧ Inv i σ)
    (fun e fr σ => (e = .ret ∧ ∃ i, i < l.length ∧ (∀ j, j < i → p j = false) ∧ p i = true ∧ fget fr 4 = .int .i64 ((i : Nat) : Int) ∧ End σ) ∨ (e = .ex 0 ∧ (∀ j, j < l.length → p j = false) ∧ Inv l.length σ))
    (m0 := l.length) ⟨0, by omega, rfl, (fun j h => absurd h (Nat.not_lt_zero j)), ?_⟩ (fun m fr σ hJ => ?_) (fun e fr σ hE => ?_)
  · simp -implicitDefEqProofs (disch := omega) only [go_sem, ↓reduceIte, reduceCtorEq, Nat.reduceEqDiff]
    simpa using h0
  · obtain ⟨i, hi, rfl, hno, h0', h1', h7', h8', hI⟩ := hJ
    refine W_run 1000 ?_
    rcases Nat.lt_or_ge i l.length with hlt | hge
    · obtain ⟨x, hx⟩ : ∃ x, l[i]? = some x := ⟨_, List.getElem?_eq_getElem hlt⟩
      have hD : (l.map symV).getD i V.any = symV x := by simp [List.getD_eq_getElem?_getD, hx]
      have e2 := wnext hlt hl
      simp -implicitDefEqProofs (disch := omega) only [go_sem, need_of, ↓reduceIte, reduceCtorEq, Nat.reduceAdd, Nat.reduceEqDiff, Nat.succ_ne_zero, Nat.zero_add, decide_true, Nat.le_refl, List.length_map, symV, V.cells, List.length_cons, List.length_nil, h0', h1', h7', h8', hlt, hD]
      refine CV.use 1000 (hp i x hx σ hI) fun v σ hv => ?_
      obtain ⟨rfl, hv⟩ := hv
      cases hpn : p i with
      | true =>
        simp -implicitDefEqProofs (disch := omega) only [go_sem, ↓reduceIte, reduceCtorEq, Nat.reduceEqDiff]
        exact ⟨i, hlt, hno, hpn, rfl, hv.2 hpn⟩
      | false =>
        simp -implicitDefEqProofs (disch := omega) only [go_sem, ↓reduceIte, Nat.reduceEqDiff, h8']
        refine ⟨l.length - (i + 1), _, _, by omega, Shift.refl _ _ _ _, i + 1, by omega, rfl, fun j hj => ?_, ?_⟩
        · rcases Nat.lt_or_ge j i with h | h
          · exact hno j h
          · rw [show j = i by omega]; exact hpn
        · simp -implicitDefEqProofs (disch := omega) only [go_sem, ↓reduceIte, reduceCtorEq, Nat.reduceEqDiff, Nat.succ_ne_zero, h0', h1', h7', e2]
          exact hv.1 hpn
    · have hi : i = l.length := by omega
      subst hi
      simp -implicitDefEqProofs (disch := omega) only [go_sem, ↓reduceIte, reduceCtorEq, Nat.reduceEqDiff, decide_false, h7', h8', Nat.lt_irrefl]
      exact ⟨hno, hI⟩
  · rcases hE with ⟨rfl, i, hlt, hno, hpi, f4, hEn⟩ | ⟨rfl, hno, hI⟩
    · refine run_sem 1000 ?_
      simp -implicitDefEqProofs (disch := omega) only [go_sem, f4]
      exact .inl ⟨i, hlt, hno, hpi, rfl, hEn⟩
    · refine run_sem 1000 ?_
      simp -implicitDefEqProofs (disch := omega) only [go_sem, ↓reduceIte]
      exact .inr ⟨hno, hI⟩
theorem symsOk_next {code : Nat} {l : List (List UInt8 × Int)} {i : Nat} {s : List UInt8 × Int} (h : l[i]? = some s) (N : List (List UInt8)) (last : Int) : symsOk code N last (l.drop i) = (symOk code N last s && symsOk code (N ++ [s.1]) s.2 (l.drop (i + 1))) := by
  have hl := (List.getElem?_eq_some_iff.1 h).1
  rw [List.drop_eq_getElem_cons hl, (List.getElem?_eq_some_iff.1 h).2]
  rfl
def lastAt (m : Im) (i : Nat) : Int := if i = 0 then -1 else ((m.syms.map (·.2))[i - 1]?).getD 0
def okAt (m : Im) (i : Nat) : Bool := match m.syms[i]? with
  | some s => symOk m.code.length ((m.syms.take i).map (·.1)) (lastAt m i) s
  | none => true
theorem okAt_some {m : Im} {i : Nat} {s : List UInt8 × Int} (h : m.syms[i]? = some s) : okAt m i = symOk m.code.length ((m.syms.take i).map (·.1)) (lastAt m i) s := by unfold okAt; rw [h]
def okSt2 (m : Im) (tm tn tl : Nat) (ex : List (Option Ob)) (i : Nat) (σ : H) : Prop := ∃ t, ((m.syms.take i).map (·.1)).Nodup ∧ symsOk m.code.length [] (-1) m.syms = symsOk m.code.length ((m.syms.take i).map (·.1)) (lastAt m i) (m.syms.drop i) ∧ σ = ⟨t, rH tm tn tl ((m.syms.take i).map (·.1)) (lastAt m i) ex⟩
theorem c_ContSym (hT : TabOk P tab) (m : Im) (hm : ImB m) {tm tn tl t : Nat} {ex : List (Option Ob)} :
    C P G 0 n_slices_ContainsFunc_image_Sym_image_Sym [symsV m.syms, wrF tn tl m] ⟨t, rH tm tn tl [] (-1) ex⟩ fun v _ => v = .bool (!symsOk m.code.length [] (-1) m.syms) := by
  have hI := c_IdxSym (P := P) (G := G) hT (base := 0) (t := t) (o := rH tm tn tl [] (-1) ex) (f := wrF tn tl m) (p := fun i => !okAt m i) (l := m.syms) (tg := false) (okSt2 m tm tn tl ex) (fun _ => True) (by have := hm.s; omega)
    (fun i s hs σ hI => ?_) ?_
  · refine C_tab hT t_slices_ContainsFunc_image_Sym_image_Sym (by simp [slices_ContainsFunc_image_Sym_image_Sym]) (W_run 1000 ?_)
    simp -implicitDefEqProofs (disch := omega) only [go_sem, ↓reduceIte, reduceCtorEq, Nat.reduceEqDiff, Nat.zero_add, slices_ContainsFunc_image_Sym_image_Sym, zq1e_0, zq1e_1, symsV]
    refine call hT t_slices_IndexFunc_image_Sym_image_Sym hI 1000 fun v σ hv => ?_
    rcases hv with ⟨i, hlt, hno, hpi, rfl, _⟩ | ⟨hno, rfl, t', hN, hs, rfl⟩
    · have hbad : ∀ k j, j + k = i → symsOk m.code.length ((m.syms.take j).map (·.1)) (lastAt m j) (m.syms.drop j) = false := by
        intro k
        induction k with
        | zero =>
          intro j hj
          obtain rfl : j = i := by omega
          obtain ⟨s, hs⟩ : ∃ s, m.syms[j]? = some s := ⟨_, List.getElem?_eq_getElem hlt⟩
          rw [okAt_some hs] at hpi
          rw [symsOk_next hs]
          simp at hpi
          simp [hpi]
        | succ k ih =>
          intro j hj
          obtain ⟨s, hs⟩ : ∃ s, m.syms[j]? = some s := ⟨_, List.getElem?_eq_getElem (by omega)⟩
          have h1 := ih (j + 1) (by omega)
          rw [symsOk_next hs]
          have h2 : (m.syms.take (j + 1)).map (·.1) = (m.syms.take j).map (·.1) ++ [s.1] := by rw [List.take_add_one, hs]; simp
          have h3 : lastAt m (j + 1) = s.2 := by unfold lastAt; rw [if_neg (by omega)]; simp [hs]
          rw [h2, h3] at h1
          rw [h1, Bool.and_false]
      have := hbad i 0 (by omega)
      have e0 : lastAt m 0 = -1 := rfl
      simp only [List.take_zero, List.map_nil, List.drop_zero, e0] at this
      rw [this]
      simp -implicitDefEqProofs (disch := omega) only [go_sem, need_of, ↓reduceIte, reduceCtorEq, Nat.reduceEqDiff, Bool.not_false, ge_iff_le]
      simp
    · rw [hs, List.drop_length]
      simp -implicitDefEqProofs (disch := omega) only [go_sem, ↓reduceIte, reduceCtorEq, Nat.reduceEqDiff, Int.reduceLE, decide_false, ge_iff_le]
      rfl
  · obtain ⟨t1, hN, hs1, rfl⟩ := hI
    have hw := c_wrong (P := P) (G := G) hT m hm s (hm.n s (List.mem_of_getElem? hs)) (tm := tm) (tn := tn) (tl := tl) (t := t1) (N := (m.syms.take i).map (·.1)) hN (last := lastAt m i) (ex := ex)
    refine CV.of hT t_image_Right_S1 (hw.conseq fun v σ hv => ?_)
    obtain ⟨h1, h2⟩ := hv
    rw [← okAt_some hs] at h1 h2
    refine ⟨h1, fun hok => ?_, fun _ => trivial⟩
    have hok : okAt m i = true := by simpa using hok
    obtain ⟨t2, _, rfl⟩ := h2 hok
    have e2 : (m.syms.take (i + 1)).map (·.1) = (m.syms.take i).map (·.1) ++ [s.1] := by rw [List.take_add_one, hs]; simp
    have e3 : lastAt m (i + 1) = s.2 := by unfold lastAt; rw [if_neg (by omega)]; simp [hs]
    refine ⟨t2, ?_, ?_, by rw [e2, e3]⟩
    · rw [e2, List.nodup_append]
      refine ⟨hN, by simp, fun x hx y hy => ?_⟩
      simp at hy; subst hy
      rw [okAt_some hs] at hok
      unfold symOk at hok
      simp only [Bool.and_eq_true, Bool.not_eq_true', decide_eq_false_iff_not] at hok
      exact fun e => hok.2.2.1 (e ▸ hx)
    · rw [hs1, symsOk_next hs, ← okAt_some hs, hok, e2, e3, Bool.true_and]
  · exact ⟨t, by simp, by simp [lastAt], rfl⟩
end Go.Proofs.YtaidbdgndljaeaaGreatDoor
/- Images: is one right? -/
namespace Go.Proofs.YtaidbdgndljaeaaGreatDoor
open Go Go.Am Go.Rv Go.Rg
set_option maxRecDepth 100000
variable {P : Program} {G : Nat → Option V}
theorem imgC_nl (m : Im) : namelessL (imgC m) = true := by
  simp [imgC, symsV, codeV, namelessL, nameless]
def rX (tm tn tl tw tr : Nat) (m : Im) (cl : List V) : List (Option Ob) := [some (.arr tw 98 [wrF tn tl m]), some (.arr tr 27 cl)]
theorem c_S5 (hT : TabOk P tab) (m : Im) (hm : ImB m) {tm tn tl tw tr t : Nat} {cl : List V} :
    C P G 0 n_image_Right_S5 [imgR m, .ptr 4 tw 0] ⟨t, rH tm tn tl [] (-1) (rX tm tn tl tw tr m cl)⟩ fun v _ => v = .bool (symsOk m.code.length [] (-1) m.syms) := by
  have hC := c_ContSym (P := P) (G := G) hT m hm (tm := tm) (tn := tn) (tl := tl) (t := t) (ex := rX tm tn tl tw tr m cl)
  simp only [rH, rX, List.cons_append, List.nil_append, symsV] at hC
  refine C_tab hT t_image_Right_S5 (by simp [image_Right_S5]) (W_run 1000 ?_)
  simp -implicitDefEqProofs (disch := omega) only [go_sem, ↓reduceIte, reduceCtorEq, Nat.reduceAdd, Nat.reduceEqDiff, Nat.reduceLeDiff, Nat.zero_add, Nat.le_refl, image_Right_S5, zq1d_0, zq1d_1, imgR, imgC, symsV, V.cells, rH, List.cons_append, List.nil_append, rX]
  refine call hT t_slices_ContainsFunc_image_Sym_image_Sym hC 1000 fun v σ hv => ?_
  subst hv
  simp -implicitDefEqProofs (disch := omega) only [go_sem, ↓reduceIte, reduceCtorEq, Nat.reduceEqDiff, Bool.not_not]
theorem c_S6 (hT : TabOk P tab) {base : Nat} {σ : H} {f : V} {b : Bool} {R : H → Prop} (h : CV P G base f [] σ fun v σ' => v = .bool b ∧ R σ') : C P G base n_image_Right_S6 [f] σ fun v σ' => v = .bool (!b) ∧ R σ' := by
  refine C_tab hT t_image_Right_S6 (by simp [image_Right_S6]) (W_run 1000 ?_)
  simp -implicitDefEqProofs (disch := omega) only [go_sem, ↓reduceIte, reduceCtorEq, Nat.reduceEqDiff, image_Right_S6, zq1g_0, zq1g_1]
  refine CV.use 1000 h fun v σ' hv => ?_
  obtain ⟨rfl, hR⟩ := hv
  simp -implicitDefEqProofs (disch := omega) only [go_sem, ↓reduceIte, reduceCtorEq, Nat.reduceEqDiff]
  exact hR
def mF (m : Im) (tw : Nat) : List V := [.fn (.func n_image_Right_S2) [] [imgR m], .fn (.func n_image_Right_S3) [] [imgR m], .fn (.func n_image_Right_S4) [] [imgR m], .fn (.func n_image_Right_S5) [] [imgR m, .ptr 4 tw 0]]
def q1 (m : Im) : Bool := decide (0 ≤ m.data) && (decide (m.data ≤ 524288) && decide (m.data.tmod 8 = 0))
def q2 (m : Im) : Bool := decide (1 ≤ m.code.length) && decide (m.code.length ≤ 262144)
def q3 (m : Im) : Bool := decide (1 ≤ m.syms.length) && (decide (m.syms.length ≤ 65) && decide ((m.syms.map (·.2)).head? = some 0))
def q4 (m : Im) : Bool := symsOk m.code.length [] (-1) m.syms
theorem right_q (m : Im) : right m = (q1 m && (q2 m && (q3 m && q4 m))) := rfl
theorem cast4 : ((4 : Nat) : Int) = 4 := rfl
theorem lt04 : ((0 : Int) < 4) = True := eq_true (by decide)
theorem lt14 : ((1 : Int) < 4) = True := eq_true (by decide)
theorem lt24 : ((2 : Int) < 4) = True := eq_true (by decide)
theorem lt34 : ((3 : Int) < 4) = True := eq_true (by decide)
theorem c_Must (hT : TabOk P tab) (m : Im) (hm : ImB m) {tm tn tl tw tr t : Nat} :
    C P G 0 n_slices_ContainsFunc_func_bool_func_bool [.sl 5 tr 0 1 4 none, .fn (.func n_image_Right_S6) [] []] ⟨t, rH tm tn tl [] (-1) (rX tm tn tl tw tr m (mF m tw))⟩ fun v _ => v = .bool (!right m) := by
  have h1 := c_S6 (σ := ⟨t, rH tm tn tl [] (-1) (rX tm tn tl tw tr m (mF m tw))⟩) hT (CV.of (cap := [imgR m]) (args := []) hT t_image_Right_S2 (c_S2 (P := P) (G := G) hT m (base := 0) (t := t) (o := rH tm tn tl [] (-1) (rX tm tn tl tw tr m (mF m tw)))))
  have h2 := c_S6 (σ := ⟨t, rH tm tn tl [] (-1) (rX tm tn tl tw tr m (mF m tw))⟩) hT (CV.of (cap := [imgR m]) (args := []) hT t_image_Right_S3 (c_S3 (P := P) (G := G) hT m (base := 0) (t := t) (o := rH tm tn tl [] (-1) (rX tm tn tl tw tr m (mF m tw)))))
  have h3 := c_S6 (σ := ⟨t, rH tm tn tl [] (-1) (rX tm tn tl tw tr m (mF m tw))⟩) hT (CV.of (cap := [imgR m]) (args := []) hT t_image_Right_S4 (c_S4 (P := P) (G := G) hT m (base := 0) (t := t) (o := rH tm tn tl [] (-1) (rX tm tn tl tw tr m (mF m tw)))))
  have h4 := c_S6 (σ := ⟨t, rH tm tn tl [] (-1) (rX tm tn tl tw tr m (mF m tw))⟩) (R := fun _ => True) hT (CV.of (cap := [imgR m, .ptr 4 tw 0]) (args := []) hT t_image_Right_S5 ((c_S5 (P := P) (G := G) hT m hm (tm := tm) (tn := tn) (tl := tl) (tw := tw) (tr := tr) (t := t) (cl := mF m tw)).conseq fun v σ h => ⟨h, trivial⟩))
  change C P G 0 n_image_Right_S6 _ _ (fun v σ' => v = .bool (!q1 m) ∧ _) at h1
  change C P G 0 n_image_Right_S6 _ _ (fun v σ' => v = .bool (!q2 m) ∧ _) at h2
  change C P G 0 n_image_Right_S6 _ _ (fun v σ' => v = .bool (!q3 m) ∧ _) at h3
  change C P G 0 n_image_Right_S6 _ _ (fun v σ' => v = .bool (!q4 m) ∧ _) at h4
  rw [right_q]
  generalize q1 m = b1 at *
  generalize q2 m = b2 at *
  generalize q3 m = b3 at *
  generalize q4 m = b4 at *
  have w1 : IntKind.i64.wrap (0 + 1) = 1 := by decide
  have w2 : IntKind.i64.wrap (1 + 1) = 2 := by decide
  have w3 : IntKind.i64.wrap (2 + 1) = 3 := by decide
  have w4 : IntKind.i64.wrap (3 + 1) = 4 := by decide
  have hI : C P G 0 n_slices_IndexFunc_func_bool_func_bool [.sl 5 tr 0 1 4 none, .fn (.func n_image_Right_S6) [] []] ⟨t, rH tm tn tl [] (-1) (rX tm tn tl tw tr m (mF m tw))⟩ fun v _ => v = .int .i64 (if b1 then (if b2 then (if b3 then (if b4 then -1 else 3) else 2) else 1) else 0) := by
    simp only [rH, rX, mF, List.cons_append, List.nil_append] at h1 h2 h3 h4
    refine C_tab hT t_slices_IndexFunc_func_bool_func_bool (by simp [slices_IndexFunc_func_bool_func_bool]) (W_run 1000 ?_)
    simp -implicitDefEqProofs (disch := omega) only [go_sem, ↓reduceIte, reduceCtorEq, Nat.reduceEqDiff, Nat.zero_add, slices_IndexFunc_func_bool_func_bool, zq20_0, zq20_1, zq20_2, zq20_3, zq20_4, zq20_5, zq20_6, zq20_7, cast4, rH, rX, mF, List.cons_append, List.nil_append]
    refine sem_rounds 5 60 ?_
    simp -implicitDefEqProofs (disch := omega) only [go_sem, ↓reduceIte, reduceCtorEq, Nat.reduceAdd, Nat.reduceEqDiff, Nat.reduceLeDiff, Nat.reduceLT, Int.reduceToNat, Int.reduceLE, Nat.zero_add, Nat.add_zero, Nat.mul_one, decide_true, lt04, true_implies, and_true]
    refine call hT t_image_Right_S6 h1 60 fun v σ hv => ?_
    obtain ⟨rfl, rfl⟩ := hv
    cases b1 with
    | false => simp -implicitDefEqProofs (disch := omega) only [go_sem, ↓reduceIte, reduceCtorEq, Nat.reduceEqDiff, Bool.not_false]; try simp
    | true =>
      simp -implicitDefEqProofs (disch := omega) only [go_sem, ↓reduceIte, reduceCtorEq, Nat.reduceAdd, Nat.reduceEqDiff, Nat.reduceLeDiff, Nat.reduceLT, Int.reduceToNat, Int.reduceLE, Nat.zero_add, Nat.mul_one, decide_true, Bool.not_true, lt14, true_implies, and_true, w1]
      refine call hT t_image_Right_S6 h2 60 fun v σ hv => ?_
      obtain ⟨rfl, rfl⟩ := hv
      cases b2 with
      | false => simp -implicitDefEqProofs (disch := omega) only [go_sem, ↓reduceIte, reduceCtorEq, Nat.reduceEqDiff, Bool.not_false]; try simp
      | true =>
        simp -implicitDefEqProofs (disch := omega) only [go_sem, ↓reduceIte, reduceCtorEq, Nat.reduceAdd, Nat.reduceEqDiff, Nat.reduceLeDiff, Nat.reduceLT, Int.reduceToNat, Int.reduceLE, Nat.zero_add, Nat.mul_one, decide_true, Bool.not_true, lt24, true_implies, and_true, w2]
        refine call hT t_image_Right_S6 h3 60 fun v σ hv => ?_
        obtain ⟨rfl, rfl⟩ := hv
        cases b3 with
        | false => simp -implicitDefEqProofs (disch := omega) only [go_sem, ↓reduceIte, reduceCtorEq, Nat.reduceEqDiff, Bool.not_false]; try simp
        | true =>
          simp -implicitDefEqProofs (disch := omega) only [go_sem, ↓reduceIte, reduceCtorEq, Nat.reduceAdd, Nat.reduceEqDiff, Nat.reduceLT, Int.reduceToNat, Int.reduceLE, Nat.zero_add, Nat.mul_one, decide_true, Bool.not_true, Nat.le_refl, lt34, true_implies, and_true, w3]
          refine call hT t_image_Right_S6 h4 60 fun v σ hv => ?_
          obtain ⟨rfl, _⟩ := hv
          cases b4 with
          | false => simp -implicitDefEqProofs (disch := omega) only [go_sem, ↓reduceIte, reduceCtorEq, Nat.reduceEqDiff, Bool.not_false]; try simp
          | true => simp -implicitDefEqProofs (disch := omega) only [go_sem, need_of, ↓reduceIte, reduceCtorEq, Nat.reduceEqDiff, decide_false, Bool.not_true, Int.lt_irrefl, w4]; try simp
  refine C_tab hT t_slices_ContainsFunc_func_bool_func_bool (by simp [slices_ContainsFunc_func_bool_func_bool]) (W_run 1000 ?_)
  simp -implicitDefEqProofs (disch := omega) only [go_sem, ↓reduceIte, reduceCtorEq, Nat.reduceEqDiff, Nat.zero_add, slices_ContainsFunc_func_bool_func_bool, zq1f_0, zq1f_1]
  refine call hT t_slices_IndexFunc_func_bool_func_bool hI 60 fun v σ hv => ?_
  subst hv
  simp -implicitDefEqProofs (disch := omega) only [go_sem, ↓reduceIte, reduceCtorEq, Nat.reduceEqDiff, ge_iff_le]
  cases b1 <;> cases b2 <;> cases b3 <;> cases b4 <;> rfl
theorem vo1 : (Value.map none).oneCell' = true := rfl
theorem vo2 : Value.nilFunc.oneCell' = true := rfl
theorem c_ImgRight (hT : TabOk P tab) (m : Im) (hm : ImB m) : Am.Pure P G n_image_Right [imgV m] fun v => v = .bool (right m) := by
  intro t
  refine C_keep 0 (Nat.zero_le _) (C_tab hT t_image_Right (by simp [image_Right]) (W_run 5 ?_))
  simp -implicitDefEqProofs (disch := omega) only [go_sem, ↓reduceIte, reduceCtorEq, Nat.reduceEqDiff, image_Right, zqj_0, zqj_1, zqj_2, zqj_3, zqj_4, zqj_5, imgV, imgC, symsV, codeV, V.cells, H.push]
  refine sem_shift (Shift.freeze (k := 0) (v := t) (T := 25) (cs := imgC m) (Nat.zero_le _) rfl (imgC_nl m)) ?_
  simp only [frzFr_cons, frzFr_nil, frzV, mapFrom, List.set_cons_zero, Option.map_none]
  refine run_sem 60 ?_
  simp -implicitDefEqProofs (disch := omega) only [go_sem, ↓reduceIte, reduceCtorEq, Nat.reduceAdd, Nat.reduceEqDiff, Nat.reduceLeDiff, Nat.zero_add, Bool.not_false, Nat.le_refl, Nat.zero_le, vo1, vo2, imgC, symsV, codeV, V.cells, H.push]
  have hM := c_Must (P := P) (G := G) hT m hm (tm := t + 1) (tn := t + 1 + 1) (tl := t + 1 + 1 + 1) (tw := t + 1 + 1 + 1 + 1) (tr := t + 1 + 1 + 1 + 1 + 1) (t := t + 1 + 1 + 1 + 1 + 1 + 1)
  simp only [rH, rX, mF, wrF, km, imgR, imgC, symsV, codeV, List.map_nil, List.cons_append, List.nil_append] at hM
  refine call hT t_slices_ContainsFunc_func_bool_func_bool hM 60 fun v σ hv => ?_
  subst hv
  simp -implicitDefEqProofs (disch := omega) only [go_sem, ↓reduceIte, reduceCtorEq, Nat.reduceEqDiff, Nat.zero_le, Bool.not_not]
end Go.Proofs.YtaidbdgndljaeaaGreatDoor
/- A number put into a word: the range over the library's iterator, walked by the kit's law. -/
namespace Go.Proofs.YtaidbdgndljaeaaGreatDoor
open Go Go.Proofs Go.RowKit Go.Shelf
attribute [local go_sem] Oper.semAt_some
def upto {α : Type} (f : Nat → α) (k : Nat) : List α := (List.range k).map f
theorem upto_succ {α : Type} (f : Nat → α) (k : Nat) : upto f (k + 1) = upto f k ++ [f k] := by simp [upto, List.range_succ]
theorem upto_length {α : Type} (f : Nat → α) (k : Nat) : (upto f k).length = k := by simp [upto]
abbrev encB (x : Nat × (Nat × Nat)) : Array Value := #[Value.int .i64 (x.1 : Int), .agg #[.int .i64 (x.2.1 : Int), .int .i64 (x.2.2 : Int)]]
def KpB (n₀ Bs : Nat) (W W' : World) : Prop := Below n₀ W W' ∧ W'.heap[Bs]? = W.heap[Bs]?
theorem KpB.refl (n₀ Bs : Nat) (W : World) : KpB n₀ Bs W W := ⟨Below.refl _ _, rfl⟩
theorem KpB.trans {n₀ Bs : Nat} {A B C : World} (h : KpB n₀ Bs A B) (k : KpB n₀ Bs B C) : KpB n₀ Bs A C := ⟨h.1.trans k.1, k.2.trans h.2⟩
theorem KpB.cellB {n₀ Bs : Nat} {A B : World} (h : KpB n₀ Bs A B) : B.cell? ⟨Bs, 0, none⟩ = A.cell? ⟨Bs, 0, none⟩ := by simp [World.cell?, h.2]
set_option maxRecDepth 100000 in
set_option maxHeartbeats 2000000 in
theorem back1_in (F : Fence) (n : Nat) (h7 : F.fn 96) (hro : F.round = none) (hn : 1 ≤ n) (l Bs n₀ b off len cap : Nat) (z : Nat → Nat × Nat) (hlen : len ≤ 1000) (hb : b < n₀) (J Jx : List (Nat × (Nat × Nat)) → World → Prop)
    (hY : ∀ pre x W, J pre W → pre.length < len → YieldAt F (n - 1) Tryz.prog l (encB x) W fun e W' =>
      (e = .returned (.bool true) ∧ J (pre ++ [x]) W' ∧ KpB n₀ Bs W W') ∨ (e = .returned (.bool false) ∧ Jx (pre ++ [x]) W'))
    (W : World) (hBs : W.cell? ⟨Bs, 0, none⟩ = some (.slice (some ⟨b, off, none⟩) len cap))
    (hc : ∀ j, j < len → W.cell? ⟨b, off + j * 2, none⟩ = some (.int .i64 ((z j).1 : Int)) ∧ W.cell? ⟨b, off + j * 2 + 1, none⟩ = some (.int .i64 ((z j).2 : Int))) (h0 : J [] W) :
    CallsIn F n Tryz.prog 96 #[.func (.yield l) #[] #[], .pointer (some ⟨Bs, 0, none⟩)] W fun e W' => (∃ v, e = .returned v) ∧
      ((∃ ys, ys = upto (fun j => (len - 1 - j, z (len - 1 - j))) len ∧ J ys W') ∨ (∃ pre, (∃ k, k ≤ len ∧ pre = upto (fun j => (len - 1 - j, z (len - 1 - j))) k) ∧ Jx pre W')) := by
  refine callsIn_of_wp Tryz.func96 rfl h7 ?_ hro
  simp only [Tryz.ntmps96, List.size_toArray, List.length_cons, List.length_nil, Nat.reduceAdd, Nat.reduceSub, Array.replicate_succ, Array.replicate_zero, List.push_toArray, List.append_toArray, List.nil_append, List.cons_append]
  gi_wp2
  gi_loopw [3] (fun i wr => ∃ k : Nat, k ≤ len ∧ i = .int .i64 ((len : Int) - 1 - k) ∧ J (upto (fun j => (len - 1 - j, z (len - 1 - j))) k) wr ∧ KpB n₀ Bs W wr)
    (fun i _ => (intOf i + 1).toNat)
  case atStart =>
    exact ⟨0, Nat.zero_le _, by simp, h0, KpB.refl _ _ _⟩
  case round =>
    obtain ⟨k, hk, rfl, hJs, hnx⟩ := hrel
    by_cases hlt : k < len
    · obtain ⟨fn, tmps, assign, body, hy, hR⟩ := hY _ (len - 1 - k, z (len - 1 - k)) wr hJs (by rw [upto_length]; exact hlt)
      dsimp only [encB] at hy
      have hBs' := hnx.cellB.trans hBs
      have hcx := hc (len - 1 - k) (by omega)
      have hc1 := (hnx.1.cell (p := ⟨b, off + (len - 1 - k) * 2, none⟩) hb).trans hcx.1
      have hc2 := (hnx.1.cell (p := ⟨b, off + (len - 1 - k) * 2 + 1, none⟩) hb).trans hcx.2
      obtain ⟨m, hm⟩ : ∃ m : Nat, m = len - 1 - k := ⟨_, rfl⟩
      have hi : (len : Int) - 1 - k = (m : Int) := by omega
      have hml : m < len := by omega
      rw [hi]
      rw [← hm] at hy hR hc1 hc2
      have hm2 : Unit → m = len - 1 - k := fun _ => hm
      have hi2 : Unit → (len : Int) - 1 - k = (m : Int) := fun _ => hi
      clear hm hi hcx
      gi_wp2
      refine hR.mono ?_
      rintro e W3 (⟨rfl, hJ3, hk3⟩ | ⟨rfl, hJx3⟩)
      · gi_wp2
        go_roundw
        case rel => exact ⟨k + 1, by omega, by have := hi2 (); congr 1; omega, by rw [upto_succ, ← hm2 ()]; exact hJ3, hnx.trans hk3⟩
        case measure => simp [intOf]
      · gi_wp2
        refine bodyPost_ret (results_none rfl _ _ _) rfl ?_
        exact ⟨⟨_, rfl⟩, .inr ⟨_, ⟨k + 1, by omega, by rw [upto_succ, ← hm2 ()]⟩, hJx3⟩⟩
    · obtain rfl : k = len := by omega
      have hi : (k : Int) - 1 - k = -1 := by omega
      rw [hi]
      gi_wp2
      go_end0
      exact ⟨⟨_, rfl⟩, .inl ⟨_, rfl, hJs⟩⟩
set_option maxRecDepth 100000 in
set_option maxHeartbeats 1000000 in
theorem back1_nil_in (F : Fence) (n : Nat) (h7 : F.fn 96) (hro : F.round = none) (l Bs : Nat) (a : Option Addr) (cap : Nat) (J : List (Nat × (Nat × Nat)) → World → Prop) (W : World) (hBs : W.cell? ⟨Bs, 0, none⟩ = some (.slice a 0 cap)) (h0 : J [] W) :
    CallsIn F n Tryz.prog 96 #[.func (.yield l) #[] #[], .pointer (some ⟨Bs, 0, none⟩)] W fun e W' => (∃ v, e = .returned v) ∧ J [] W' := by
  refine callsIn_of_wp Tryz.func96 rfl h7 ?_ hro
  simp only [Tryz.ntmps96, List.size_toArray, List.length_cons, List.length_nil, Nat.reduceAdd, Nat.reduceSub, Array.replicate_succ, Array.replicate_zero, List.push_toArray, List.append_toArray, List.nil_append, List.cons_append]
  gi_wp2
  gi_loopw [3] (fun i wr => i = .int .i64 (-1) ∧ J [] wr) (fun _ _ => 0)
  case atStart => exact ⟨by simp, h0⟩
  case round =>
    obtain ⟨rfl, hJs⟩ := hrel
    gi_wp2
    go_end0
    exact ⟨⟨_, rfl⟩, hJs⟩
set_option maxHeartbeats 1000000 in
theorem back_in (F : Fence) (n : Nat) (h5 : F.fn 66) (hro : F.round = none) (a : Option Addr) (len cap : Nat) (w : World) :
    CallsIn F n Tryz.prog 66 #[.slice a len cap] w fun e w' => e = .returned (.func (.func 96) #[] #[.pointer (some ⟨w.heap.size, 0, none⟩)]) ∧ w' = w.alloc (.cells #[.slice a len cap] 70) := by
  refine callsIn_of_wp Tryz.func66 rfl h5 ?_ hro
  simp only [Tryz.ntmps66, List.size_toArray, List.length_cons, List.length_nil, Nat.reduceAdd, Nat.reduceSub, Array.replicate_succ, Array.replicate_zero, List.push_toArray, List.append_toArray, List.nil_append, List.cons_append]
  gi_wp2
  go_ret
  exact ⟨rfl, rfl⟩
def BitsAt (n₀ : Nat) (W : World) (sv : Value) (len : Nat) (z : Nat → Nat × Nat) : Prop :=
  (∃ a cap, sv = .slice a 0 cap ∧ len = 0) ∨ ∃ b off cap, sv = .slice (some ⟨b, off, none⟩) len cap ∧ b < n₀ ∧ ∀ j, j < len → W.cell? ⟨b, off + j * 2, none⟩ = some (.int .i64 ((z j).1 : Int)) ∧ W.cell? ⟨b, off + j * 2 + 1, none⟩ = some (.int .i64 ((z j).2 : Int))
theorem BitsAt.below {n₀ : Nat} {A B : World} (h : Below n₀ A B) {sv : Value} {len : Nat} {z : Nat → Nat × Nat} : BitsAt n₀ A sv len z → BitsAt n₀ B sv len z
  | .inl e => .inl e
  | .inr ⟨b, off, cap, e, hb, hc⟩ => .inr ⟨b, off, cap, e, hb, fun j hj => ⟨(h.cell (p := ⟨b, off + j * 2, none⟩) hb).trans (hc j hj).1, (h.cell (p := ⟨b, off + j * 2 + 1, none⟩) hb).trans (hc j hj).2⟩⟩
theorem BitsAt.wide {n₀ n₁ : Nat} (h : n₀ ≤ n₁) {A : World} {sv : Value} {len : Nat} {z : Nat → Nat × Nat} : BitsAt n₀ A sv len z → BitsAt n₁ A sv len z
  | .inl e => .inl e
  | .inr ⟨b, off, cap, e, hb, hc⟩ => .inr ⟨b, off, cap, e, Nat.lt_of_lt_of_le hb h, hc⟩
theorem back_stops (F : Fence) (n : Nat) (h8 : F.fn 96) (hro : F.round = none) (hn : 1 ≤ n) (Bs n₀ : Nat) (sv : Value) (len : Nat) (hlen : len ≤ 1000) (z : Nat → Nat × Nat) (w : World) (hBs : Bs < w.heap.size) (hn₀ : n₀ ≤ w.heap.size)
    (hc : w.cell? ⟨Bs, 0, none⟩ = some sv) (hI : BitsAt n₀ w sv len z) :
    SeqStopsK F n Tryz.prog 96 #[.pointer (some ⟨Bs, 0, none⟩)] encB (KpB n₀ Bs) (fun ys => ys = upto (fun j => (len - 1 - j, z (len - 1 - j))) len)
      (fun pre => ∃ k, k ≤ len ∧ pre = upto (fun j => (len - 1 - j, z (len - 1 - j))) k) len w := fun l J Jx W hW _ _ hY h0 => by
  have hc' := (hW.cell (p := ⟨Bs, 0, none⟩) hBs).trans hc
  rcases hI.below (hW.mono hn₀) with ⟨a, cap, rfl, rfl⟩ | ⟨b, off, cap, rfl, hb, hcs⟩
  · exact (back1_nil_in F n h8 hro l Bs a cap J W hc' h0).mono fun e W' ⟨he, hj⟩ => ⟨he, .inl ⟨_, rfl, hj⟩⟩
  · exact back1_in F n h8 hro hn l Bs n₀ b off len cap z hlen hb J Jx hY W hc' hcs h0
end Go.Proofs.YtaidbdgndljaeaaGreatDoor
/- A number put into a word: the caller. -/
namespace Go.Proofs.YtaidbdgndljaeaaGreatDoor
open Go Go.Proofs Go.RowKit Go.Shelf
attribute [local go_sem] Oper.semAt_some
theorem alloc2a (W : World) (u v : Value) (t : TypeId) : (W.alloc (.cells #[u, v] t)).cell? ⟨W.heap.size, 0, none⟩ = some u := by
  unfold World.cell?; rw [World.alloc_heap_new]; rfl
theorem alloc2b (W : World) (u v : Value) (t : TypeId) : (W.alloc (.cells #[u, v] t)).cell? ⟨W.heap.size, 1, none⟩ = some v := by
  unfold World.cell?; rw [World.alloc_heap_new]; rfl
def stepM (y : Nat × (Nat × Nat)) : Int := IntKind.i64.wrap (IntKind.i64.wrap (2 ^ min y.2.2 64) - 1)
def stepA (p : Int) (y : Nat × (Nat × Nat)) : Int := bits .and .i64 p (stepM y)
def stepB (p : Int × Int) (y : Nat × (Nat × Nat)) : Int × Int :=
  (bits .or .u32 p.1 (IntKind.u32.wrap (IntKind.u32.wrap (stepA p.2 y) * 2 ^ min y.2.1 32)), p.2 / 2 ^ min y.2.2 64)
def spB (x : Int) (l : List (Nat × (Nat × Nat))) : Int × Int := l.foldl stepB (0, x)
theorem spB_snoc (x : Int) (l : List (Nat × (Nat × Nat))) (y : Nat × (Nat × Nat)) : spB x (l ++ [y]) = stepB (spB x l) y := by simp [spB]
set_option maxRecDepth 100000 in
set_option maxHeartbeats 2000000 in
theorem spread_in (n : Nat) (hn : 3 ≤ n) (b1 b2 b3 b4 : Value) (a : Option Addr) (len cap zn : Nat) (m x : Int) (hz : zn ≤ 30) (z : Nat → Nat × Nat) (hlen : len ≤ 1000) (w : World) (hI : BitsAt w.heap.size w (.slice a len cap) len z) :
    CallsIn Fence.wide n Tryz.prog 35 #[.agg #[b1, b2, b3, .slice a len cap, .int .i64 (zn : Int), b4, .int .u32 m], .int .i64 x] w fun e W' => e = .returned (.int .u32 (spB (x / 2 ^ zn) (upto (fun j => (len - 1 - j, z (len - 1 - j))) len)).1) ∧ Below w.heap.size w W' := by
  have h1 : 1 ≤ n := by omega
  have hro : Fence.wide.round = none := rfl
  have h3 : Fence.wide.fn 35 := trivial
  have h5 : Fence.wide.fn 66 := trivial
  have h7 : Fence.wide.fn 96 := trivial
  refine callsIn_of_wp_marks Tryz.func35 rfl h3 ?_ hro
  simp only [Tryz.ntmps35, List.size_toArray, List.length_cons, List.length_nil, Nat.reduceAdd, Nat.reduceSub, Array.replicate_succ, Array.replicate_zero, List.push_toArray, List.append_toArray, List.nil_append, List.cons_append]
  gi_wp2_with (gi_at_call 66; refine (back_in Fence.wide (n - 1) h5 hro _ _ _ _).mono ?_; rintro e w' ⟨rfl, rfl⟩)
  have bN := ((Boxed.new (w.alloc (.cells #[b1, b2, b3, Value.slice a len cap, Value.int IntKind.i64 ↑zn, b4, Value.int IntKind.u32 m] 72)) 2 (.int .i64 (x / 2 ^ zn))).alloc (.cells #[.int .u32 0] 43)).alloc (.cells #[.slice a len cap] 70)
  have bW := (Boxed.new ((w.alloc (.cells #[b1, b2, b3, Value.slice a len cap, Value.int IntKind.i64 ↑zn, b4, Value.int IntKind.u32 m] 72)).alloc (.cells #[.int .i64 (x / 2 ^ zn)] 2)) 43 (.int .u32 0)).alloc (.cells #[.slice a len cap] 70)
  have bS := Boxed.new (((w.alloc (.cells #[b1, b2, b3, Value.slice a len cap, Value.int IntKind.i64 ↑zn, b4, Value.int IntKind.u32 m] 72)).alloc (.cells #[.int .i64 (x / 2 ^ zn)] 2)).alloc (.cells #[.int .u32 0] 43)) 70 (.slice a len cap)
  simp only [World.size_alloc] at bN bW bS
  have hB0 : Below w.heap.size w ((((w.alloc (.cells #[b1, b2, b3, Value.slice a len cap, Value.int IntKind.i64 ↑zn, b4, Value.int IntKind.u32 m] 72)).alloc (.cells #[.int .i64 (x / 2 ^ zn)] 2)).alloc (.cells #[.int .u32 0] 43)).alloc (.cells #[.slice a len cap] 70)) := ((((Below.refl _ w).alloc (Nat.le_refl _) _).alloc (by simp) _).alloc (by simp; omega) _).alloc (by simp; omega) _
  have hsz : ((((w.alloc (.cells #[b1, b2, b3, Value.slice a len cap, Value.int IntKind.i64 ↑zn, b4, Value.int IntKind.u32 m] 72)).alloc (.cells #[.int .i64 (x / 2 ^ zn)] 2)).alloc (.cells #[.int .u32 0] 43)).alloc (.cells #[.slice a len cap] 70)).heap.size = w.heap.size + 4 := by simp
  obtain ⟨W0, hW0⟩ : ∃ W0, ((((w.alloc (.cells #[b1, b2, b3, Value.slice a len cap, Value.int IntKind.i64 ↑zn, b4, Value.int IntKind.u32 m] 72)).alloc (.cells #[.int .i64 (x / 2 ^ zn)] 2)).alloc (.cells #[.int .u32 0] 43)).alloc (.cells #[.slice a len cap] 70)) = W0 := ⟨_, rfl⟩
  rw [hW0] at bN bW bS hB0 hsz ⊢
  clear hW0
  refine wpIn_rangeFunc_ownH hro h1 (gf := 96) (lb := #[.pointer (some ⟨w.heap.size + 1 + 1 + 1, 0, none⟩)]) rfl h7 (enters_of Tryz.func96 (by kernel_rfl) rfl)
    (back_stops Fence.wide (n - 1) h7 hro (by omega) (w.heap.size + 1 + 1 + 1) w.heap.size (.slice a len cap) len hlen z W0 (by omega) (by omega) bS.cell (hI.below hB0)) (fun h k => h.trans k) (fun W l o o' hl h1 h2 h3 => ⟨belowK_b (w := W0) (by omega) W l o o' hl h1 h2 h3, World.putObj_heap_other (by omega)⟩) (Below.refl _ _) (fun _ => rfl)
    (fun pre W => (Boxed W (w.heap.size + 1) 2 (.int .i64 (spB (x / 2 ^ zn) pre).2) ∧ Boxed W (w.heap.size + 1 + 1) 43 (.int .u32 (spB (x / 2 ^ zn) pre).1)) ∧ Below w.heap.size W0 W)
    (fun _ _ _ => False)
    (OwnFrom.and (OwnFrom.and (Own.from (boxed_own _ _ _) _) (Own.from (boxed_own _ _ _) _)) (ownFrom_below (by omega) (by omega)))
    (fun _ _ _ _ _ hs _ _ => hs)
    ⟨⟨bN, bW⟩, Below.refl _ _⟩
    (fun y a' W => ∃ Bx, w.heap.size + 1 + 1 < Bx ∧ W.cell? ⟨Bx, 0, none⟩ = some (.int .i64 (y.2.1 : Int)) ∧ W.cell? ⟨Bx, 1, none⟩ = some (.int .i64 (y.2.2 : Int)) ∧ a' = {
      tmps :=
        #[Value.agg #[b1, b2, b3, Value.slice a len cap, Value.int IntKind.i64 ↑zn, b4, Value.int IntKind.u32 m],
          Value.int IntKind.i64 x, Value.pointer (some { block := w.heap.size, off := 0 }),
          Value.pointer (some { block := w.heap.size + 1, off := 0 }), Value.int IntKind.u32 0,
          Value.pointer (some { block := w.heap.size + 1 + 1, off := 0 }), undef, Value.pointer (some { block := Bx, off := 0 }), Value.int IntKind.i64 x,
          Value.pointer (some { block := w.heap.size, off := 4 }), Value.int IntKind.i64 ↑zn,
          Value.int IntKind.i64 (x / 2 ^ zn), Value.pointer (some { block := w.heap.size, off := 3 }),
          Value.slice a len cap,
          Value.func (Fn.func 96) #[] #[Value.pointer (some { block := w.heap.size + 1 + 1 + 1, off := 0 })], .int .i64 (y.1 : Int), .agg #[.int .i64 (y.2.1 : Int), .int .i64 (y.2.2 : Int)],
          undef, undef, undef, undef, undef, undef, undef, undef, undef, undef, undef, undef, undef, undef,
          undef, undef, undef],
      defers := [] })
    (fun y a' _ X Y row hs hg hr => by obtain ⟨Bx, g1, g2, g3, g4⟩ := hs; exact ⟨Bx, g1, cell_kept g2 hg (fun r e => (hr r e).2), cell_kept g3 hg (fun r e => (hr r e).2), g4⟩)
    ?assign ?body ?done ?stop
  case assign =>
    rintro l pre y W K ⟨⟨bN1, bW1⟩, hB1⟩ hK
    gi_wp2
    exact hK _ _ ((KeepsOthers.alloc _ _).from _) ⟨(Below.refl _ W).alloc (by have := hB1.size; omega) _, Below.heap_alloc W _ _ (by have := hB1.size; omega)⟩ ⟨⟨bN1.alloc _, bW1.alloc _⟩, hB1.alloc (by have := hB1.size; omega) _⟩ ⟨W.heap.size, bW1.lt, alloc2a W _ _ _, alloc2b W _ _ _, rfl⟩
  case body =>
    rintro l pre y a' W hl ⟨r, hr⟩ ⟨⟨bN1, bW1⟩, hB1⟩ ⟨Bx, hBx, c1, c2, rfl⟩ hlt
    have cN := bN1.cell
    have cW := bW1.cell
    have fN := bN1.frozen
    have fW := bW1.frozen
    gi_wp2
    refine Am.wpIn_draw (kd := fun j => [0, 0, 3, 0, 3, 3, 3, 3, 3, 0, 3, 3, 2].getD j 1)
      (t := .rd 0 (.rd 1 (.pu 2 (.rd 3 (.pu 4 (.pu 5 (.pu 6 (.pu 7 (.pu 8 (.rd 9 (.pu 10 (.pu 11 (.op 12 false .done))))))))))))) (by kernel_rfl) (by kernel_rfl) (Am.drawN_ok (by kernel_rfl))
      (S := ⟨⟨fun b o => (b = w.heap.size + 1 + 1 ∧ o = 0) ∨ (b = w.heap.size + 1 ∧ o = 0) ∨ (b = Bx ∧ (o = 0 ∨ o = 1)), fun _ => False⟩, ⟨fun _ _ => False, fun _ => False⟩⟩) ?_
    have k1 : ∀ w', Am.Ek ⟨fun b o => (b = w.heap.size + 1 + 1 ∧ o = 0) ∨ (b = w.heap.size + 1 ∧ o = 0) ∨ (b = Bx ∧ (o = 0 ∨ o = 1)), fun _ => False⟩ W.drew w' → w'.cell? ⟨w.heap.size + 1 + 1, 0, none⟩ = some (.int .u32 (spB (x / 2 ^ zn) pre).1) := fun w' hk => (hk.cells _ _ (.inl ⟨rfl, rfl⟩)).trans cW
    have k2 : ∀ w', Am.Ek ⟨fun b o => (b = w.heap.size + 1 + 1 ∧ o = 0) ∨ (b = w.heap.size + 1 ∧ o = 0) ∨ (b = Bx ∧ (o = 0 ∨ o = 1)), fun _ => False⟩ W.drew w' → w'.cell? ⟨w.heap.size + 1, 0, none⟩ = some (.int .i64 (spB (x / 2 ^ zn) pre).2) := fun w' hk => (hk.cells _ _ (.inr (.inl ⟨rfl, rfl⟩))).trans cN
    have k3 : ∀ w', Am.Ek ⟨fun b o => (b = w.heap.size + 1 + 1 ∧ o = 0) ∨ (b = w.heap.size + 1 ∧ o = 0) ∨ (b = Bx ∧ (o = 0 ∨ o = 1)), fun _ => False⟩ W.drew w' → w'.cell? ⟨Bx, 0, none⟩ = some (.int .i64 (y.2.1 : Int)) := fun w' hk => (hk.cells _ _ (.inr (.inr ⟨rfl, .inl rfl⟩))).trans c1
    have k4 : ∀ w', Am.Ek ⟨fun b o => (b = w.heap.size + 1 + 1 ∧ o = 0) ∨ (b = w.heap.size + 1 ∧ o = 0) ∨ (b = Bx ∧ (o = 0 ∨ o = 1)), fun _ => False⟩ W.drew w' → w'.cell? ⟨Bx, 1, none⟩ = some (.int .i64 (y.2.2 : Int)) := fun w' hk => (hk.cells _ _ (.inr (.inr ⟨rfl, .inr rfl⟩))).trans c2
    refine ⟨_, .int .u32 (spB (x / 2 ^ zn) pre).1, rfl, .inl ⟨rfl, fun w' hk => ?_⟩, ?_⟩
    · simp [go_sem, k1 w' hk]
    refine ⟨_, .int .i64 (spB (x / 2 ^ zn) pre).2, rfl, .inl ⟨rfl, fun w' hk => ?_⟩, ?_⟩
    · simp [go_sem, k2 w' hk]
    refine ⟨_, .pointer (some ⟨Bx, 1, none⟩), rfl, .inl ⟨rfl, fun w' hk => ?_⟩, ?_⟩
    · simp [go_sem]
    refine ⟨_, .int .i64 (y.2.2 : Int), rfl, .inl ⟨rfl, fun w' hk => ?_⟩, ?_⟩
    · simp [go_sem, k4 w' hk]
    refine ⟨_, .int .i64 (IntKind.i64.wrap (2 ^ min y.2.2 64)), rfl, .inl ⟨rfl, fun w' hk => ?_⟩, ?_⟩
    · simp [go_sem]
    refine ⟨_, .int .i64 (stepM y), rfl, .inl ⟨rfl, fun w' hk => ?_⟩, ?_⟩
    · simp [go_sem, stepM]
    refine ⟨_, .int .i64 (stepA (spB (x / 2 ^ zn) pre).2 y), rfl, .inl ⟨rfl, fun w' hk => ?_⟩, ?_⟩
    · simp [go_sem, stepA]
    refine ⟨_, .int .u32 (IntKind.u32.wrap (stepA (spB (x / 2 ^ zn) pre).2 y)), rfl, .inl ⟨rfl, fun w' hk => ?_⟩, ?_⟩
    · simp [go_sem]
    refine ⟨_, .pointer (some ⟨Bx, 0, none⟩), rfl, .inl ⟨rfl, fun w' hk => ?_⟩, ?_⟩
    · simp [go_sem]
    refine ⟨_, .int .i64 (y.2.1 : Int), rfl, .inl ⟨rfl, fun w' hk => ?_⟩, ?_⟩
    · simp [go_sem, k3 w' hk]
    refine ⟨_, .int .u32 (IntKind.u32.wrap (IntKind.u32.wrap (stepA (spB (x / 2 ^ zn) pre).2 y) * 2 ^ min y.2.1 32)), rfl, .inl ⟨rfl, fun w' hk => ?_⟩, ?_⟩
    · simp [go_sem]
    refine ⟨_, .int .u32 (stepB (spB (x / 2 ^ zn) pre) y).1, rfl, .inl ⟨rfl, fun w' hk => ?_⟩, ?_⟩
    · simp [go_sem, stepB]
    have cW' : W.drew.cell? ⟨w.heap.size + 1 + 1, 0, none⟩ = some (.int .u32 (spB (x / 2 ^ zn) pre).1) := cW
    have fW' : W.drew.frozen? ⟨w.heap.size + 1 + 1, 0, none⟩ = false := fW
    refine Am.opN_skip (w' := W.drew.setCell ⟨w.heap.size + 1 + 1, 0, none⟩ (.int .u32 (stepB (spB (x / 2 ^ zn) pre) y).1)) rfl rfl ?_ ?_
    · simp [go_sem, cW', fW']
    · refine ⟨⟨⟨fun b o => (b = w.heap.size + 1 + 1 ∧ o = 0) ∨ (b = w.heap.size + 1 ∧ o = 0) ∨ (b = Bx ∧ (o = 0 ∨ o = 1)), fun _ => False⟩, ⟨fun _ _ => False, fun _ => False⟩⟩, ⟨Am.Sg.le.refl _, ⟨rfl, rfl, rfl, by simp, fun _ _ h => h.elim, fun _ h => h.elim⟩⟩, fun h => by (cases h), ?_⟩
      obtain ⟨W2, hW2⟩ : ∃ W2, W.drew.setCell ⟨w.heap.size + 1 + 1, 0, none⟩ (.int .u32 (stepB (spB (x / 2 ^ zn) pre) y).1) = W2 := ⟨_, rfl⟩
      have bW2 : Boxed W2 (w.heap.size + 1 + 1) 43 (.int .u32 (stepB (spB (x / 2 ^ zn) pre) y).1) := by rw [← hW2]; exact Boxed.set _ (show Boxed W.drew _ _ _ from bW1)
      have bN2 : Boxed W2 (w.heap.size + 1) 2 (.int .i64 (spB (x / 2 ^ zn) pre).2) := by rw [← hW2]; exact Boxed.other (show Boxed W.drew _ _ _ from bN1) (by omega) _
      have c22 : W2.cell? ⟨Bx, 1, none⟩ = some (.int .i64 (y.2.2 : Int)) := by
        rw [← hW2]
        have : (W.drew.setCell ⟨w.heap.size + 1 + 1, 0, none⟩ (.int .u32 (stepB (spB (x / 2 ^ zn) pre) y).1)).heap[Bx]? = W.drew.heap[Bx]? := (grownBy_setCell' W.drew _ _).block Bx (by
          have := c2; unfold World.cell? at this; split at this
          · rename_i hh; exact (Array.getElem?_eq_some_iff.1 hh).1
          · cases this) (fun e => by cases e; omega)
        exact (Am.cell?_of_old (a := ⟨Bx, 1, none⟩) this).trans c2
      have hK2 : KeepsFrom W0.heap.size W W2 := by rw [← hW2]; exact (KeepsOthers.drew W).trans (KeepsOthers.setCell _ _ _) |>.from _
      have hB2 : KpB w.heap.size (w.heap.size + 1 + 1 + 1) W W2 := by
        rw [← hW2]
        exact ⟨(Below.refl _ W).drew.setCell (p := ⟨w.heap.size + 1 + 1, 0, none⟩) (by show w.heap.size ≤ w.heap.size + 1 + 1; omega) _, (grownBy_setCell' W.drew _ _).block (w.heap.size + 1 + 1 + 1) (by have := hB1.size; show _ < W.heap.size; omega) (fun e => by have := Option.some.inj e; omega)⟩
      rw [hW2]
      clear hW2
      have cN2 := bN2.cell
      have fN2 := bN2.frozen
      simp only [Am.RTree]
      gi_wp2
      refine ⟨hK2.trans ((KeepsOthers.setCell _ _ _).from _), hB2.trans ⟨(Below.refl _ W2).setCell (p := ⟨w.heap.size + 1, 0, none⟩) (by simp) _, (grownBy_setCell' W2 _ _).block (w.heap.size + 1 + 1 + 1) (by have := hB1.size; have := hB2.1.size; omega) (fun e => by have := Option.some.inj e; omega)⟩, ⟨?_, ?_⟩, ?_⟩
      · rw [spB_snoc]; exact bN2.set _
      · rw [spB_snoc]; exact Boxed.other bW2 (by omega) _
      · exact (hB1.trans hB2.1).setCell (p := ⟨w.heap.size + 1, 0, none⟩) (by simp) _
  case done =>
    rintro D ys W hD rfl ⟨⟨bN1, bW1⟩, hB1⟩ hK
    have cW := bW1.cell
    gi_wp2
    refine ⟨by simp, .inl ⟨_, _, rfl, run_takeDeferred hK, ?_⟩⟩
    exact ⟨_, results_tmp rfl _ _ _, rfl, (hB0.trans hB1).trans (belowK_b (w := w) (Nat.le_refl _) W D _ _ (by omega) hK rfl rfl)⟩
  case stop =>
    rintro D c pre W _ _ h _
    exact h.elim
end Go.Proofs.YtaidbdgndljaeaaGreatDoor
/- The program's forms: walked. -/
namespace Go.Proofs.YtaidbdgndljaeaaGreatDoor
open Go Go.Am Go.Rv
set_option maxRecDepth 100000
variable {P : Program} {G : Nat → Option V}
def u32 (w : Int) : Prop := 0 ≤ w ∧ w < 4294967296
def frm (a b c : Bool) (l : List (Nat × Nat)) (z : Nat) (sg : Bool) (m : Int) : List V := [.bool a, .bool b, .bool c, bitsV l, .int .i64 z, .bool sg, .int .u32 m]
theorem pow_lt (m k : Nat) (h : m ≤ k) : (1 : Int) ≤ 2 ^ m ∧ (2 : Int) ^ m ≤ 2 ^ k := by
  have h1 := Nat.pow_le_pow_right (n := 2) (by omega) h
  have h2 : 0 < 2 ^ m := Nat.pow_pos (by omega)
  constructor
  · exact_mod_cast h2
  · exact_mod_cast h1
theorem bits_fld {w : Int} {a m : Nat} (hw : u32 w) (ha : a ≤ 31) (hm : m ≤ 30) :
    IntKind.u32.wrap (BitVec.ofInt 32 (w.fdiv (2 ^ min a 32)) &&& BitVec.ofInt 32 (IntKind.u32.wrap (IntKind.u32.wrap (1 * 2 ^ min m 32) - 1))).toNat = fld w a m := by
  have e1 : min a 32 = a := by omega
  have e2 : min m 32 = m := by omega
  obtain ⟨p1, p2⟩ := pow_lt m 30 hm
  have e3 : IntKind.u32.wrap (1 * 2 ^ m) = 2 ^ m := by
    rw [Int.one_mul]; exact wrap_id _ (by simp [IntKind.min, IntKind.signed]; omega) (by simp [IntKind.max, IntKind.signed, IntKind.bits]; omega)
  have e4 : IntKind.u32.wrap (2 ^ m - 1) = 2 ^ m - 1 := wrap_id _ (by simp [IntKind.min, IntKind.signed]; omega) (by simp [IntKind.max, IntKind.signed, IntKind.bits]; omega)
  obtain ⟨q1, q2⟩ := pow_lt a 31 ha
  rw [e1, e2, e3, e4, Int.fdiv_eq_ediv_of_nonneg _ (by omega)]
  exact and_low .u32 m _ _ rfl (by simp [IntKind.bits]; omega)
theorem c_of (hT : TabOk P tab) (w : Int) (a m : Nat) (hw : u32 w) (ha : a ≤ 31) (hm : m ≤ 30) : Pure P G n_rv_bits_of [pr a m, .int .u32 w] fun v => v = .int .u32 (fld w a m) := by
  intro t
  refine C_keep 0 (Nat.zero_le _) (C_tab hT t_rv_bits_of (by simp [rv_bits_of]) (W_run 1000 ?_))
  simp -implicitDefEqProofs (disch := omega) only [go_sem, need_of, ↓reduceIte, reduceCtorEq, Nat.reduceAdd, Nat.reduceEqDiff, Nat.reduceLeDiff, Nat.zero_add, Nat.add_zero, Nat.le_refl, Nat.zero_le, rv_bits_of, zq24_0, zq24_1, pr]
  exact congrArg (V.int .u32) (bits_fld hw ha hm)
theorem bitsV_len (l : List (Nat × Nat)) : ∃ z, bitsV l = .lst z (l.map fun b => pr b.1 b.2) true ∧ (z = 2 ∨ l = []) := by
  cases l with
  | nil => exact ⟨0, rfl, .inr rfl⟩
  | cons b l => exact ⟨2, rfl, .inl rfl⟩
theorem fold_le {l : List (Nat × Nat)} (hb : ∀ p ∈ l, p.2 ≤ 30) (z : Nat) : widthP l z ≤ z + 30 * l.length := by
  induction l generalizing z with
  | nil => simp [widthP]
  | cons p l ih =>
    have h1 := hb p List.mem_cons_self
    have := ih (fun q hq => hb q (List.mem_cons_of_mem _ hq)) (z + p.2)
    simp only [widthP, List.foldl_cons, List.length_cons] at this ⊢
    omega
theorem widthP_take {l : List (Nat × Nat)} {i : Nat} {p : Nat × Nat} (h : l[i]? = some p) (z : Nat) : widthP (l.take (i + 1)) z = widthP (l.take i) z + p.2 := by
  rw [List.take_add_one, h]; simp [widthP]
theorem wrap_i64 {x : Int} (h1 : -9223372036854775808 ≤ x) (h2 : x ≤ 9223372036854775807) : IntKind.i64.wrap x = x := wrap_id _ (by simpa [IntKind.min, IntKind.signed, IntKind.bits] using h1) (by simpa [IntKind.max, IntKind.signed, IntKind.bits] using h2)
theorem wrap_next {i n : Nat} (h : i < n) (hn : n ≤ 1000000000) : IntKind.i64.wrap ((i : Int) + 1) = ((i + 1 : Nat) : Int) := by rw [wrap_i64 (by omega) (by omega)]; rfl
theorem c_width (hT : TabOk P tab) (a b c : Bool) (l : List (Nat × Nat)) (z : Nat) (sg : Bool) (m : Int) (hl : l.length ≤ 4) (hb : ∀ p ∈ l, p.2 ≤ 30) (hz : z ≤ 30) :
    Pure P G n_rv_form_width [.agg (frm a b c l z sg m)] fun v => v = .int .i64 (widthP l z) := by
  intro t
  obtain ⟨y, hy, hyl⟩ := bitsV_len l
  refine C_keep 0 (Nat.zero_le _) (C_tab hT t_rv_form_width (by simp [rv_form_width]) (W_run 1000 ?_))
  simp -implicitDefEqProofs (disch := omega) only [go_sem, ↓reduceIte, reduceCtorEq, Nat.reduceAdd, Nat.reduceEqDiff, Nat.reduceLeDiff, Nat.zero_add, rv_form_width, zq1q_0, zq1q_1, zq1q_2, zq1q_3, zq1q_4, zq1q_5, zq1q_6, zq1q_7, frm, hy, List.length_map]
  refine sem_inv (fun n fr σ => ∃ i t', i ≤ l.length ∧ n = l.length - i ∧ fget fr 3 = .int .i64 (widthP (l.take i) z) ∧ fget fr 9 = .lst y (l.map fun b => pr b.1 b.2) true ∧ fget fr 10 = .int .i64 l.length ∧ fget fr 11 = .int .i64 i ∧
     σ = ⟨t', [some (.arr t 72 (frm a b c l z sg m))]⟩) (fun n fr σ hJ => ?_) (m0 := l.length) ⟨0, t + 1, Nat.zero_le _, rfl, ?_⟩
  · obtain ⟨i, t', hi, rfl, f3, f9, f10, f11, rfl⟩ := hJ
    refine W_run 1000 ?_
    rcases Nat.lt_or_ge i l.length with hlt | hge
    · have hy2 : y = 2 := by rcases hyl with h | h; exact h; rw [h] at hlt; simp at hlt
      subst hy2
      obtain ⟨p, hp⟩ : ∃ p, l[i]? = some p := ⟨_, List.getElem?_eq_getElem hlt⟩
      have hg : (l.map fun b => pr b.1 b.2).getD i .any = .agg [.int .i64 p.1, .int .i64 p.2] := by simp [List.getD_eq_getElem?_getD, hp, pr]
      have hw := fold_le (l := l.take (i + 1)) (fun q hq => hb q (List.mem_of_mem_take hq)) z
      have hw2 : (l.take (i + 1)).length ≤ 4 := by simp; omega
      rw [widthP_take hp] at hw
      have e1 : IntKind.i64.wrap ((widthP (l.take i) z : Int) + (p.2 : Int)) = ((widthP (l.take (i + 1)) z : Nat) : Int) := by rw [widthP_take hp, wrap_i64 (by omega) (by omega)]; push_cast; rfl
      have e2 := wrap_next hlt (by omega)
      simp -implicitDefEqProofs (disch := omega) only [go_sem, need_of, ↓reduceIte, reduceCtorEq, Nat.reduceAdd, Nat.reduceEqDiff, Nat.zero_add, decide_true, Bool.not_false, Nat.le_refl, Nat.zero_le, frm, hy, List.length_map, f3, f9, f10, f11, hlt, hg]
      refine ⟨l.length - (i + 1), _, _, by omega, Shift.drop (o' := [some (.arr t 72 (frm a b c l z sg m))]) (t' := t' + 1) (by simp [subObs, frm, hy]) (Nat.le_refl _) (Nat.zero_le _), i + 1, t' + 1, hlt, rfl, ?_⟩
      simp -implicitDefEqProofs (disch := omega) only [go_sem, ↓reduceIte, Nat.reduceEqDiff, frm, hy, f9, f10, e1, e2]
    · simp -implicitDefEqProofs (disch := omega) only [go_sem, ↓reduceIte, decide_false, f10, f11, show ¬ i < l.length from by omega]
      have hi : i = l.length := by omega
      subst hi
      rw [List.take_length] at f3
      refine run_sem 1000 ?_
      simp -implicitDefEqProofs (disch := omega) only [go_sem, ↓reduceIte, Nat.reduceEqDiff, Nat.zero_add, Nat.zero_le, f3]
  · simp -implicitDefEqProofs (disch := omega) only [go_sem, ↓reduceIte, reduceCtorEq, Nat.reduceEqDiff, frm, hy]
    simp [widthP]
end Go.Proofs.YtaidbdgndljaeaaGreatDoor
/- Numbers in words: walked. -/
namespace Go.Proofs.YtaidbdgndljaeaaGreatDoor
open Go Go.Am Go.Rv
set_option maxRecDepth 100000
variable {P : Program} {G : Nat → Option V}
theorem fld_lt (w : Int) (a m : Nat) : 0 ≤ fld w a m ∧ fld w a m < 2 ^ m := by
  have := (pow_lt m m (Nat.le_refl _)).1
  exact ⟨Int.emod_nonneg _ (by omega), Int.emod_lt_of_pos _ (by omega)⟩
theorem accP_take {w : Int} {l : List (Nat × Nat)} {i : Nat} {p : Nat × Nat} (h : l[i]? = some p) (z : Int) : accP w (l.take (i + 1)) z = accP w (l.take i) z * 2 ^ p.2 + fld w p.1 p.2 := by
  rw [List.take_add_one, h]; simp [accP]
theorem accP_lt (w : Int) (l : List (Nat × Nat)) : ∀ i, 0 ≤ accP w (l.take i) 0 ∧ accP w (l.take i) 0 < 2 ^ widthP (l.take i) 0 := by
  intro i
  induction i with
  | zero => simp [accP, widthP]
  | succ i ih =>
    cases h : l[i]? with
    | none => rw [List.take_of_length_le (by have := List.getElem?_eq_none_iff.1 h; omega)]; rw [List.take_of_length_le (by have := List.getElem?_eq_none_iff.1 h; omega)] at ih; exact ih
    | some p =>
      rw [accP_take h, widthP_take h]
      obtain ⟨f1, f2⟩ := fld_lt w p.1 p.2
      obtain ⟨g1, _⟩ := pow_lt p.2 p.2 (Nat.le_refl _)
      constructor
      · have := Int.mul_nonneg ih.1 (show (0 : Int) ≤ 2 ^ p.2 by omega); omega
      · rw [Int.pow_add]
        have h1 : accP w (l.take i) 0 + 1 ≤ 2 ^ widthP (l.take i) 0 := by omega
        have := Int.mul_le_mul_of_nonneg_right h1 (show (0 : Int) ≤ 2 ^ p.2 by omega)
        rw [Int.add_mul] at this
        omega
theorem width_take (l : List (Nat × Nat)) (i : Nat) : widthP (l.take i) 0 ≤ widthP l 0 := by
  have key : ∀ (l : List (Nat × Nat)) (a b : Nat), a ≤ b → a ≤ widthP l b := by
    intro l
    induction l with
    | nil => intro a b h; exact h
    | cons p l ih => intro a b h; exact ih a (b + p.2) (by omega)
  have : widthP l 0 = widthP (l.drop i) (widthP (l.take i) 0) := by
    conv => lhs; rw [← List.take_append_drop i l]
    rw [widthP, List.foldl_append]; rfl
  rw [this]
  exact key _ _ _ (Nat.le_refl _)
theorem num_step {w : Int} {l : List (Nat × Nat)} {i : Nat} {p : Nat × Nat} (h : l[i]? = some p) (hl : widthP l 0 ≤ 60) (hp : p.2 ≤ 30) :
    IntKind.i64.wrap (BitVec.ofInt 64 (IntKind.i64.wrap (accP w (l.take i) 0 * 2 ^ min p.2 64)) ||| BitVec.ofInt 64 (IntKind.i64.wrap (fld w p.1 p.2))).toNat = accP w (l.take (i + 1)) 0 := by
  have e1 : min p.2 64 = p.2 := by omega
  obtain ⟨f1, f2⟩ := fld_lt w p.1 p.2
  obtain ⟨g1, g2⟩ := pow_lt p.2 30 hp
  have hb := accP_lt w l (i + 1)
  have hw := width_take l (i + 1)
  obtain ⟨_, q2⟩ := pow_lt (widthP (l.take (i + 1)) 0) 60 (by omega)
  have hb0 := accP_lt w l i
  rw [accP_take h] at hb ⊢
  have hm := Int.mul_nonneg hb0.1 (show (0 : Int) ≤ 2 ^ p.2 by omega)
  rw [e1, wrap_i64 (x := accP w (l.take i) 0 * 2 ^ p.2) (by omega) (by omega), wrap_i64 (x := fld w p.1 p.2) (by omega) (by omega)]
  exact or_add .i64 p.2 _ _ hm f1 f2 (Int.mul_emod_left _ _) (by simp [IntKind.max, IntKind.signed, IntKind.bits]; omega)
theorem sgn_shift {n : Int} {b : Nat} (h0 : 0 ≤ n) (h1 : n < 2 ^ b) (hb : 1 ≤ b) (hb2 : b ≤ 60) : (IntKind.i64.wrap (n * 2 ^ (64 - b))).fdiv (2 ^ (64 - b)) = sgn n b := by
  obtain ⟨s1, _⟩ := pow_lt (64 - b) 64 (by omega)
  have hp : (2 : Int) ^ b = 2 * 2 ^ (b - 1) := by
    have : b = (b - 1) + 1 := by omega
    conv => lhs; rw [this, Int.pow_succ]
    omega
  have hsp : (2 : Int) ^ (64 - b) * 2 ^ (b - 1) = 9223372036854775808 := by
    rw [← Int.pow_add]
    have : 64 - b + (b - 1) = 63 := by omega
    rw [this]; rfl
  unfold sgn
  rw [Int.fdiv_eq_ediv_of_nonneg _ (by omega)]
  generalize hs : (2 : Int) ^ (64 - b) = s at *
  generalize hq : (2 : Int) ^ (b - 1) = q at *
  rw [hp] at h1 ⊢
  split
  · rename_i hge
    have e : IntKind.i64.wrap (n * s) = (n - 2 * q) * s := by
      have a1 := Int.mul_le_mul_of_nonneg_right hge (show 0 ≤ s by omega)
      have a2 := Int.mul_le_mul_of_nonneg_right (show n + 1 ≤ 2 * q by omega) (show 0 ≤ s by omega)
      rw [Int.add_mul] at a2
      rw [Int.sub_mul, Int.mul_assoc 2 q s, Int.mul_comm q s, hsp]
      rw [Int.mul_assoc 2 q s, Int.mul_comm q s, hsp] at a2
      rw [Int.mul_comm q s, hsp] at a1
      unfold IntKind.wrap
      simp [IntKind.bits, IntKind.signed]
      omega
    rw [e, Int.mul_ediv_cancel _ (by omega)]
  · rename_i hlt
    have a1 := Int.mul_le_mul_of_nonneg_right (show n + 1 ≤ q by omega) (show 0 ≤ s by omega)
    rw [Int.add_mul, Int.mul_comm q s, hsp] at a1
    have a2 := Int.mul_nonneg h0 (show 0 ≤ s by omega)
    rw [wrap_i64 (by omega) (by omega), Int.mul_ediv_cancel _ (by omega)]
theorem c_number (hT : TabOk P tab) (a b c : Bool) (l : List (Nat × Nat)) (z : Nat) (sg : Bool) (m w : Int) (hl : l.length ≤ 4) (hb : ∀ p ∈ l, p.1 ≤ 31 ∧ p.2 ≤ 30) (hz : z ≤ 30) (hwd : widthP l 0 + z ≤ 60) (hwz : widthP l z = widthP l 0 + z) (hsg : sg = true → 1 ≤ widthP l z) (hw : u32 w) :
    Pure P G n_rv_form_number [.agg (frm a b c l z sg m), .int .u32 w] fun v => v = .int .i64 (if sg then sgn (accP w l 0 * 2 ^ z) (widthP l z) else accP w l 0 * 2 ^ z) := by
  intro t
  obtain ⟨y, hy, hyl⟩ := bitsV_len l
  refine C_keep 0 (Nat.zero_le _) (C_tab hT t_rv_form_number (by simp [rv_form_number]) (W_run 1000 ?_))
  simp -implicitDefEqProofs (disch := omega) only [go_sem, ↓reduceIte, reduceCtorEq, Nat.reduceAdd, Nat.reduceEqDiff, Nat.reduceLeDiff, Nat.zero_add, rv_form_number, zq23_0, zq23_1, zq23_2, zq23_3, zq23_4, zq23_5, zq23_6, zq23_7, zq23_8, zq23_9, zq23_10, frm, hy, List.length_map]
  refine sem_inv (fun n fr σ => ∃ i t', i ≤ l.length ∧ n = l.length - i ∧ fget fr 1 = .int .u32 w ∧ fget fr 2 = .ptr 0 t 0 ∧ fget fr 5 = .int .i64 (accP w (l.take i) 0) ∧ fget fr 9 = .lst y (l.map fun b => pr b.1 b.2) true ∧ fget fr 10 = .int .i64 l.length ∧ fget fr 11 = .int .i64 i ∧
     σ = ⟨t', [some (.arr t 72 (frm a b c l z sg m))]⟩) (fun n fr σ hJ => ?_) (m0 := l.length) ⟨0, t + 1, Nat.zero_le _, rfl, ?_⟩
  · obtain ⟨i, t', hi, rfl, f1, f2, f5, f9, f10, f11, rfl⟩ := hJ
    refine W_run 1000 ?_
    rcases Nat.lt_or_ge i l.length with hlt | hge
    · have hy2 : y = 2 := by rcases hyl with h | h; exact h; rw [h] at hlt; simp at hlt
      subst hy2
      obtain ⟨p, hp⟩ : ∃ p, l[i]? = some p := ⟨_, List.getElem?_eq_getElem hlt⟩
      have hpb := hb p (List.mem_of_getElem? hp)
      have hg : (l.map fun b => pr b.1 b.2).getD i .any = .agg [.int .i64 p.1, .int .i64 p.2] := by simp [List.getD_eq_getElem?_getD, hp, pr]
      have e1 := num_step (w := w) hp (by omega) hpb.2
      have e2 := wrap_next hlt (by omega)
      simp -implicitDefEqProofs (disch := omega) only [go_sem, need_of, ↓reduceIte, reduceCtorEq, Nat.reduceAdd, Nat.reduceEqDiff, Nat.zero_add, decide_true, Bool.not_false, Nat.le_refl, Nat.zero_le, frm, hy, List.length_map, f1, f5, f9, f10, f11, hlt, hg]
      refine callP hT t_rv_bits_of (c_of hT w p.1 p.2 hw hpb.1 hpb.2) rfl 1000 fun v hv => ?_
      subst hv
      simp -implicitDefEqProofs (disch := omega) only [go_sem, ↓reduceIte, Nat.reduceEqDiff, f11]
      refine ⟨l.length - (i + 1), _, _, by omega, Shift.drop (o' := [some (.arr t 72 (frm a b c l z sg m))]) (t' := t' + 1) (by simp [subObs, frm, hy]) (Nat.le_refl _) (Nat.zero_le _), i + 1, t' + 1, hlt, rfl, ?_⟩
      simp -implicitDefEqProofs (disch := omega) only [go_sem, ↓reduceIte, Nat.reduceEqDiff, frm, hy, f1, f2, f9, f10, e2]
      exact congrArg (V.int .i64) e1
    · have hi : i = l.length := by omega
      subst hi
      rw [List.take_length] at f5
      have hac := accP_lt w l l.length
      rw [List.take_length] at hac
      simp -implicitDefEqProofs (disch := omega) only [go_sem, ↓reduceIte, decide_false, f10, f11, show ¬ l.length < l.length from by omega]
      refine run_sem 1000 ?_
      have ez : min z 64 = z := by omega
      obtain ⟨g1, g2⟩ := pow_lt (widthP l 0 + z) 60 hwd
      obtain ⟨y1, _⟩ := pow_lt z 30 hz
      have h1 := Int.mul_le_mul_of_nonneg_right (show accP w l 0 + 1 ≤ 2 ^ widthP l 0 by omega) (show (0 : Int) ≤ 2 ^ z by omega)
      rw [Int.add_mul, ← Int.pow_add] at h1
      have h2 := Int.mul_nonneg hac.1 (show (0 : Int) ≤ 2 ^ z by omega)
      have e3 : IntKind.i64.wrap (accP w l 0 * 2 ^ z) = accP w l 0 * 2 ^ z := wrap_i64 (by omega) (by omega)
      cases sg with
      | false => simp -implicitDefEqProofs (disch := omega) only [go_sem, need_of, ↓reduceIte, Nat.reduceAdd, Nat.reduceEqDiff, Nat.reduceLeDiff, Nat.zero_add, Nat.zero_le, f2, f5, frm, hy, ez, e3]
      | true =>
        have cw := c_width (G := G) hT a b c l z true m hl (fun p hp => (hb p hp).2) hz
        simp only [frm, hy] at cw
        have hwd1 := hsg rfl
        have e4 : IntKind.i64.wrap (64 - (widthP l z : Int)) = ((64 - widthP l z : Nat) : Int) := by rw [wrap_i64 (by omega) (by omega)]; omega
        have e5 := sgn_shift (n := accP w l 0 * 2 ^ z) (b := widthP l z) h2 (by rw [hwz]; omega) hwd1 (by omega)
        have e6 : min (64 - widthP l z) 64 = 64 - widthP l z := by omega
        have e7 : (0 : Int) ≤ ((64 - widthP l z : Nat) : Int) := by omega
        simp -implicitDefEqProofs (disch := omega) only [go_sem, need_of, ↓reduceIte, reduceCtorEq, Nat.reduceAdd, Nat.reduceEqDiff, Nat.reduceLeDiff, Nat.zero_add, Nat.le_refl, f2, f5, frm, hy, ez, e3]
        refine callP hT t_rv_form_width cw rfl 1000 fun v hv => ?_
        subst hv
        simp -implicitDefEqProofs (disch := omega) only [go_sem, ↓reduceIte, Nat.reduceEqDiff, e4, e6, e7, Int.toNat_natCast]
        refine callP hT t_rv_form_width cw rfl 1000 fun v hv => ?_
        subst hv
        simp -implicitDefEqProofs (disch := omega) only [go_sem, ↓reduceIte, Nat.reduceEqDiff, Nat.zero_add, Nat.zero_le, e4, e6, e7, Int.toNat_natCast, e5]
  · simp -implicitDefEqProofs (disch := omega) only [go_sem, ↓reduceIte, reduceCtorEq, Nat.reduceEqDiff, frm, hy]
    simp [accP]
end Go.Proofs.YtaidbdgndljaeaaGreatDoor
