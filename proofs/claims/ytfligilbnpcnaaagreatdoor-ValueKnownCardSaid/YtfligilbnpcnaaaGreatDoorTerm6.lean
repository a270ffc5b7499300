/- What terms are made of: the walk. -/
import Derived.Test.YtfligilbnpcnaaaGreatDoorTerm2
import Derived.Test.YtfligilbnpcnaaaGreatDoorAmD
namespace Go.Proofs.YtfligilbnpcnaaaGreatDoor
open Go Go.Am
set_option maxRecDepth 100000
variable {P : Program} {G : Nat → Option V}

/-- Parts have lesser numbers. -/
def gwf (L : List Nd) : Prop := ∀ (i : Nat) (d : Nd), L[i]? = some d → ∀ p ∈ d.parts, 0 ≤ p ∧ p < i

/-- The walk: what is seen, in order. -/
def walkN (L : List Nd) : Nat → Int → List Int → List Int
  | 0, _, S => S
  | f + 1, id, S => if 0 ≤ id ∧ id < L.length ∧ id ∉ S then (L.getD id.toNat zeroNd).parts.foldl (fun S p => walkN L f p S) (S ++ [id]) else S

def okS (L : List Nd) (S : List Int) : Prop := S.Nodup ∧ ∀ x ∈ S, 0 ≤ x ∧ x < L.length
theorem okS_len {L : List Nd} {S : List Int} (h : okS L S) : S.length ≤ L.length := nodup_len _ _ h.1 h.2
theorem okS_add {L : List Nd} {S : List Int} {id : Int} (h : okS L S) (h0 : 0 ≤ id) (h1 : id < L.length) (h2 : id ∉ S) : okS L (S ++ [id]) := by
  refine ⟨?_, fun x hx => ?_⟩
  · rw [List.nodup_append]
    exact ⟨h.1, by simp, fun a ha b hb => by simp at hb; subst hb; exact fun e => h2 (e ▸ ha)⟩
  · simp only [List.mem_append, List.mem_singleton] at hx
    rcases hx with hx | rfl
    · exact h.2 x hx
    · exact ⟨h0, h1⟩
theorem okS_walk (L : List Nd) : ∀ (f : Nat) (id : Int) (S : List Int), okS L S → okS L (walkN L f id S)
  | 0, _, _, h => h
  | f + 1, id, S, h => by
    simp only [walkN]
    split
    · rename_i hc
      have : ∀ (l : List Int) (S : List Int), okS L S → okS L (l.foldl (fun S p => walkN L f p S) S) := fun l => by
        induction l with
        | nil => intro S h; exact h
        | cons p l ih => intro S h; exact ih _ (okS_walk L f p S h)
      exact this _ _ (okS_add h hc.1 hc.2.1 hc.2.2)
    · exact h

def one1 : Int → V := fun _ => .int .i64 1
def wFn (b0 c0 o0 f0 : Nat) : V := .fn (.func n_term_Graph_Uses_S1) [] [.ptr 5 b0 0, .ptr 7 c0 0, .ptr 8 o0 0, .ptr 9 f0 0]
/-- The heap in the walk: a graph; the graph's box, the map, its cell, the row's cell, the walk's own, the row. -/
def uH (v0 v1 v2 v3 v4 b0 s0 c0 o0 f0 r0 : Nat) (L : List Nd) (D N S : List Int) : List (Option Ob) :=
  [gS v0 v1 v2 v3 v4 L.length, some (.map v1 (ents 0 L)), some (.arr v2 50 (ndC L)), some (.arr v3 3 (D.map (V.int .i64))), some (.arr v4 3 (N.map (V.int .i64))),
   some (.arr b0 29 [.ptr 0 v0 0]), some (.map s0 (im .i64 one1 S)), some (.arr c0 97 [.mp 6 s0]), some (.arr o0 30 [.sl 10 r0 0 1 S.length none]), some (.arr f0 98 [wFn b0 c0 o0 f0]), some (.arr r0 44 (S.map (V.int .i64)))]

theorem c_walk (hT : TabOk P tab) {base : Nat} (hb : base ≤ 5) {v0 v1 v2 v3 v4 b0 s0 c0 o0 f0 : Nat} {L : List Nd} {D N : List Int} (hL : L.length ≤ 1000000) (hwf : gwf L) : ∀ (f : Nat) (id : Int) (S : List Int) (t r0 : Nat), id.toNat < f → okS L S →
   C P G base n_term_Graph_Uses_S1 [.int .i64 id, .ptr 5 b0 0, .ptr 7 c0 0, .ptr 8 o0 0, .ptr 9 f0 0] ⟨t, uH v0 v1 v2 v3 v4 b0 s0 c0 o0 f0 r0 L D N S⟩ fun v σ => ∃ t' r0', t ≤ t' ∧ σ = ⟨t', uH v0 v1 v2 v3 v4 b0 s0 c0 o0 f0 r0' L D N (walkN L f id S)⟩ := by
  intro f
  induction f with
  | zero => intro id S t r0 h; omega
  | succ f ih =>
    intro id S t r0 hf hS
    have hSl := okS_len hS
    have hkk := keysOk_im .i64 one1 S id
    have hkm := mget_im .i64 one1 id S
    refine C_tab hT t_term_Graph_Uses_S1 (by simp [term_Graph_Uses_S1]) (W_run 1000 ?_)
    simp -implicitDefEqProofs (disch := omega) only [go_sem, ↓reduceIte, reduceCtorEq, Nat.reduceAdd, Nat.reduceEqDiff, Nat.zero_add, Nat.le_refl, term_Graph_Uses_S1, zq18_0, zq18_1, zq18_2, zq18_3, zq18_4, zq18_5, zq18_6, zq18_7, uH, gS]
    refine call hT t_term_Graph_is (c_is hT) 1000 fun v σ hv => ?_
    obtain ⟨rfl, rfl⟩ := hv
    by_cases hin : 0 ≤ id ∧ id < L.length
    · by_cases hid : id ∈ S
      · rw [if_pos hid] at hkm
        simp -implicitDefEqProofs (disch := omega) only [go_sem, ↓reduceIte, reduceCtorEq, Nat.reduceAdd, Nat.reduceEqDiff, Int.reduceLT, Nat.zero_add, decide_true, Bool.not_true, Nat.le_refl, gt_iff_lt, Option.getD_some, gS, hin, hkk, hkm, one1]
        exact ⟨t, r0, by omega, by simp [walkN, hid]⟩
      · rw [if_neg hid] at hkm
        have hmp := mput_im .i64 one1 id (.int .i64 1) rfl S hid
        obtain ⟨d, hd⟩ : ∃ d, L[id.toNat]? = some d := ⟨_, List.getElem?_eq_getElem (by omega)⟩
        have hl := ndC_length L
        have hc := ndC_get hd
        have hlen : id.toNat < L.length := by omega
        have h6 : id.toNat * 6 + 6 ≤ (ndC L).length := by omega
        have hgd : L.getD id.toNat zeroNd = d := by simp [List.getD_eq_getElem?_getD, hd]
        simp -implicitDefEqProofs (disch := omega) only [go_sem, need_of, ↓reduceIte, reduceCtorEq, Nat.reduceAdd, Nat.reduceEqDiff, Nat.reduceLeDiff, Int.reduceLT, Nat.zero_add, Nat.add_zero, Nat.mul_one, decide_true, decide_false, Bool.not_true, Bool.not_false, Nat.le_refl, gt_iff_lt, Option.getD_none, gS, hin, hkk, hkm, hmp, hc, hlen, h6, List.length_map, Nd.cells, show base ≤ 6 from by omega, show base ≤ 8 from by omega, show base ≤ 10 from by omega]
        refine callP hT t_term_parts (c_parts hT d) rfl 1000 fun v hv => ?_
        obtain ⟨z, rfl, hz⟩ := hv
        simp -implicitDefEqProofs (disch := omega) only [go_sem, ↓reduceIte, reduceCtorEq, Nat.reduceEqDiff, List.length_map]
        have hS1 := okS_add hS hin.1 hin.2 hid
        have hdp : ∀ p ∈ d.parts, 0 ≤ p ∧ p < id.toNat := hwf _ d hd
        refine sem_invE (fun m fr σ => ∃ (i t' r' : Nat) (S' : List Int), i ≤ d.parts.length ∧ m = d.parts.length - i ∧ okS L S' ∧ S' = (d.parts.take i).foldl (fun S p => walkN L f p S) (S ++ [id]) ∧ t ≤ t' ∧ fget fr 1 = .ptr 5 b0 0 ∧ fget fr 2 = .ptr 7 c0 0 ∧ fget fr 3 = .ptr 8 o0 0 ∧ fget fr 4 = .ptr 9 f0 0 ∧
             fget fr 31 = .lst z (d.parts.map (V.int .i64)) true ∧ fget fr 32 = .int .i64 d.parts.length ∧ fget fr 33 = .int .i64 i ∧ σ = ⟨t', uH v0 v1 v2 v3 v4 b0 s0 c0 o0 f0 r' L D N S'⟩)
          (fun e fr σ => e = .ex 0 ∧ ∃ t' r', t ≤ t' ∧ σ = ⟨t', uH v0 v1 v2 v3 v4 b0 s0 c0 o0 f0 r' L D N (walkN L (f + 1) id S)⟩)
          (m0 := d.parts.length) ⟨0, t + 1, t, S ++ [id], Nat.zero_le _, rfl, hS1, rfl, by omega, ?_⟩ (fun m fr σ hJ => ?_) (fun e fr σ hE => ?_)
        · simp -implicitDefEqProofs (disch := omega) only [go_sem, ↓reduceIte, reduceCtorEq, Nat.reduceEqDiff]
          simp [uH, gS, wFn]
        · obtain ⟨i, t', r', S', hi, rfl, hS', hS'e, ht', f1, f2, f3, f4, f31, f32, f33, rfl⟩ := hJ
          refine W_run 1000 ?_
          rcases Nat.lt_or_ge i d.parts.length with hlt | hge
          · have hz1 : z = 1 := by rcases hz with h | h; exact h; rw [h] at hlt; simp at hlt
            subst hz1
            obtain ⟨p, hp⟩ : ∃ p, d.parts[i]? = some p := ⟨_, List.getElem?_eq_getElem hlt⟩
            obtain ⟨hp0, hp1⟩ := hdp p (List.mem_of_getElem? hp)
            have hg : (d.parts.map (V.int .i64)).getD i .any = V.int .i64 p := by simp [List.getD_eq_getElem?_getD, hp]
            simp -implicitDefEqProofs (disch := omega) only [go_sem, need_of, ↓reduceIte, Nat.reduceEqDiff, Nat.zero_add, decide_true, Nat.le_refl, uH, gS, List.length_map, f4, f31, f32, f33, hlt, hg, wFn]
            refine callK hT t_term_Graph_Uses_S1 (ih p S' t' r' (by omega) hS') 1000 fun v σ hv => ?_
            obtain ⟨t2, r2, ht2, rfl⟩ := hv
            simp -implicitDefEqProofs (disch := omega) only [go_sem, ↓reduceIte, Nat.reduceEqDiff, f33]
            refine ⟨d.parts.length - (i + 1), _, _, by omega, Shift.refl _ _ _ _, i + 1, t2, r2, walkN L f p S', hlt, rfl, okS_walk L f p S' hS', ?_, by omega, ?_⟩
            · rw [List.take_add_one, hp, Option.toList_some, List.foldl_append, ← hS'e]; rfl
            · have hpl : d.parts.length ≤ 2 := by unfold Nd.parts; split <;> (try split) <;> simp
              have hw : IntKind.i64.wrap ((i : Int) + 1) = ((i + 1 : Nat) : Int) := by
                rw [wrap_i64 (by omega) (by omega)]; rfl
              simp -implicitDefEqProofs (disch := omega) only [go_sem, ↓reduceIte, Nat.reduceEqDiff, f1, f2, f3, f4, f31, f32, hw]
              rfl
          · simp -implicitDefEqProofs (disch := omega) only [go_sem, ↓reduceIte, decide_false, f32, f33, show ¬ i < d.parts.length from by omega]
            refine ⟨t', r', ht', ?_⟩
            rw [List.take_of_length_le (by omega)] at hS'e
            have : walkN L (f + 1) id S = S' := by rw [walkN, if_pos ⟨hin.1, hin.2, hid⟩, hgd, hS'e]
            rw [this]; exact ⟨rfl, rfl⟩
        · obtain ⟨rfl, t', r', ht', rfl⟩ := hE
          refine run_sem 1000 ?_
          simp -implicitDefEqProofs (disch := omega) only [go_sem, ↓reduceIte]
          exact ⟨t', r', ht', rfl, rfl⟩
    · simp -implicitDefEqProofs (disch := omega) only [go_sem, ↓reduceIte, reduceCtorEq, Nat.reduceEqDiff, decide_false, Bool.not_false, gS, hin]
      exact ⟨t, r0, by omega, by simp [walkN]; grind⟩
end Go.Proofs.YtfligilbnpcnaaaGreatDoor

