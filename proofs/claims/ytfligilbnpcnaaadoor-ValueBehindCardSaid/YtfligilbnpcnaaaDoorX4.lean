/- The law ValueBehind: plain part, and its first loop. -/
import Derived.Test.YtfligilbnpcnaaaDoorX2
namespace Go.Proofs.YtfligilbnpcnaaaDoor
open Go Go.Am
set_option maxRecDepth 100000
set_option maxHeartbeats 1000000
variable {P : Program} {G : Nat → Option V}

def Cl.cells (c : Cl) : List V := [.int .i64 c.arr, .int .i64 c.ver, .int .i64 c.at', .int .i64 c.n]
def clC (C : List Cl) : List V := (C.map Cl.cells).flatten
theorem clC_len (C : List Cl) : (clC C).length = C.length * 4 := by
  induction C with
  | nil => rfl
  | cons c C ih => simp only [clC, List.map_cons, List.flatten_cons, List.length_append] at ih ⊢; rw [ih]; simp [Cl.cells]; omega
theorem clC_snoc {C : List Cl} {c : Cl} : clC C ++ c.cells = clC (C ++ [c]) := by simp [clC]
theorem chunk_clC : ∀ C : List Cl, chunkV 4 C.length (clC C) = C.map Cl.v
  | [] => rfl
  | c :: C => by
    have h : clC (c :: C) = c.cells ++ clC C := by simp [clC]
    rw [h, List.length_cons, chunkV, List.map_cons, ← chunk_clC C]
    rfl
theorem clC_nl : ∀ C : List Cl, namelessL (clC C) = true
  | [] => rfl
  | c :: C => by
    have h : clC (c :: C) = c.cells ++ clC C := by simp [clC]
    rw [h]
    simp only [Cl.cells, List.cons_append, List.nil_append, namelessL, nameless, clC_nl C, Bool.and_true]
def upC (c : Cl) : Cl := { c with n := IntKind.i64.wrap (c.n + 1) }
def behC (C : List Cl) (k : Nat) : List Cl := C ++ (C.take k).map upC
theorem behC_snoc {C : List Cl} {k : Nat} {c : Cl} (h : C[k]? = some c) : clC (behC C k) ++ (upC c).cells = clC (behC C (k + 1)) := by
  rw [clC_snoc, behC, behC, take_snoc2 h]
  simp
theorem behC_len {C : List Cl} {k : Nat} (h : k ≤ C.length) : (behC C k).length = C.length + k := by simp [behC]; omega
theorem fstC_find {p : Cl → Bool} : ∀ {C : List Cl} {i : Nat}, (fstC p C i = -1 ∧ C.find? p = none) ∨ ∃ k c, C[k]? = some c ∧ C.find? p = some c ∧ fstC p C i = ((i + k : Nat) : Int)
  | [], _ => .inl ⟨rfl, rfl⟩
  | n :: c, i => by
    unfold fstC
    rw [List.find?_cons]
    cases hp : p n with
    | true => exact .inr ⟨0, n, rfl, by simp, by simp⟩
    | false =>
      rcases fstC_find (p := p) (C := c) (i := i + 1) with ⟨h1, h2⟩ | ⟨k, m, h1, h2, h3⟩
      · exact .inl ⟨by simpa using h1, by simpa using h2⟩
      · refine .inr ⟨k + 1, m, by simpa using h1, by simpa using h2, ?_⟩
        have e : i + 1 + k = i + (k + 1) := by omega
        rw [e] at h3
        simpa using h3
theorem cellE_find (C : List Cl) (a w x : Int) : cellE C a w x = ((C.find? (isC a w x)).map Cl.n).getD 0 := by
  rcases fstC_find (p := isC a w x) (C := C) (i := 0) with ⟨h1, h2⟩ | ⟨k, c, h1, h2, h3⟩
  · rw [cellE, h1, h2]; rfl
  · rw [cellE, h3, h2, if_neg (by omega)]
    simp [h1]
theorem find_upC {a w x : Int} : ∀ {C : List Cl}, C.find? (isC a w x) = none → (C.map upC).find? (isC a w x) = none
  | [], _ => rfl
  | c :: C, h => by
    rw [List.find?_cons] at h
    rw [List.map_cons, List.find?_cons, show isC a w x (upC c) = isC a w x c from rfl]
    cases hp : isC a w x c with
    | true => rw [hp] at h; cases h
    | false => rw [hp] at h; exact find_upC h
theorem cellE_beh (C : List Cl) (a w x : Int) : cellE (behC C C.length) a w x = cellE C a w x := by
  rw [cellE_find, cellE_find, behC, List.take_length, List.find?_append]
  cases h : C.find? (isC a w x) with
  | some c => rfl
  | none => rw [find_upC h]; rfl
theorem behC_i64 {C : List Cl} (h : ∀ c ∈ C, i64 c.n) (k : Nat) : ∀ c ∈ behC C k, i64 c.n := by
  intro c hc
  rcases List.mem_append.1 hc with h1 | h1
  · exact h c h1
  · obtain ⟨d, _, rfl⟩ := List.mem_map.1 h1
    exact wrap_rg _
theorem symE_far {S : List Int} {k : Int} (h : (S.length : Int) ≤ k) : symE S k = 0 := by rw [symE, if_pos (.inr h)]
theorem symE_app {S M : List Int} {k : Int} (h : k < S.length) : symE (S ++ M) k = symE S k := by
  unfold symE
  rw [List.length_append]
  by_cases h0 : k < 0
  · rw [if_pos (.inl h0), if_pos (.inl h0)]
  · rw [if_neg (by omega), if_neg (by omega), getD_app_l (by omega)]
theorem val_beh {S M : List Int} {C : List Cl} {L : List Nd} (hwf : gwf L) (hfit : fit L) {id : Int} (h0 : 0 ≤ id) (h1 : id < L.length) (hf : ∀ k ∈ symS L (usesL L [id]), k < S.length) : val S C L id = val (S ++ M) (behC C C.length) L id :=
  val_agree hwf hfit h0 h1 (fun x hx hk => (symE_app (hf _ (mem_symS.2 ⟨x, hx, hk, rfl⟩))).symm) (fun x hx hk y => (cellE_beh ..).symm)

theorem vb0 {fmt : Int → List UInt8} {v0 v1 v2 v3 v4 t rs rc vf : Nat} {L : List Nd} {S S2 : List Int} {tS tC : Bool} {C' : List Cl} (hC : C'.length ≤ 1000000) {Q : AE → Fr → H → Prop} {fr : Fr} {k : Nat} (hk0 : k = 0) (hJ0 : fget fr 4 = .ref (.agg [.lst 1 (nints S) tS, .lst 4 (C'.map Cl.v) tC]) 0 ∧ fget fr 7 = .ptr 1 v0 0 ∧ fget fr 9 = .ptr 5 vf 0 ∧ fget fr 10 = .int .i64 ((k : Nat) : Int))
    (hQ : ∀ fr t' r k, fget fr 4 = .ref (.agg [.lst 1 (nints S) tS, .lst 4 (C'.map Cl.v) tC]) 0 ∧ fget fr 7 = .ptr 1 v0 0 ∧ fget fr 9 = .ptr 5 vf 0 ∧ fget fr 10 = .int .i64 ((k : Nat) : Int) → Q (.ex 0) fr ⟨t', kG fmt v0 v1 v2 v3 v4 L ++ [some (.arr vf 40 [.sl 6 rs 0 1 S2.length none, .sl 7 r 0 4 (behC C' C'.length).length none]), some (.arr rs 2 (nints S2)), some (.arr r 46 (clC (behC C' C'.length)))]⟩) :
    W P G 151 0 (.loop (AC.seq (AC.seq (AC.reg proofmarklaw03_ValueBehind_r9 [59, 60, 61, 62])   (AC.cond (Arg.t 63)   AC.skip   (AC.exit 0)))   (AC.seq (AC.block 1 (AC.seq (AC.reg proofmarklaw03_ValueBehind_r10 [66, 67, 68, 69, 70])   (AC.seq (AC.reg proofmarklaw03_ValueBehind_r11 [71, 72, 73, 74])   (AC.reg proofmarklaw03_ValueBehind_r12 [75, 76, 77, 78, 79, 80]))))   (AC.reg proofmarklaw03_ValueBehind_r13 [64, 65])))) fr ⟨t, kG fmt v0 v1 v2 v3 v4 L ++ [some (.arr vf 40 [.sl 6 rs 0 1 S2.length none, .sl 7 rc 0 4 C'.length none]), some (.arr rs 2 (nints S2)), some (.arr rc 46 (clC C'))]⟩ Q := by
  subst hk0
  obtain ⟨f4, f7, f9, f10⟩ := hJ0
  refine sem_for (s := []) C' (fun k fr σ => ∃ t' r, fget fr 4 = .ref (.agg [.lst 1 (nints S) tS, .lst 4 (C'.map Cl.v) tC]) 0 ∧ fget fr 7 = .ptr 1 v0 0 ∧ fget fr 9 = .ptr 5 vf 0 ∧ fget fr 10 = .int .i64 ((k : Nat) : Int) ∧ σ = ⟨t', kG fmt v0 v1 v2 v3 v4 L ++ [some (.arr vf 40 [.sl 6 rs 0 1 S2.length none, .sl 7 r 0 4 (C'.length + k) none]), some (.arr rs 2 (nints S2)), some (.arr r 46 (clC (behC C' k)))]⟩)
    (fun e fr σ => e = .ex 0 ∧ ∃ t' r k, k = C'.length ∧ fget fr 4 = .ref (.agg [.lst 1 (nints S) tS, .lst 4 (C'.map Cl.v) tC]) 0 ∧ fget fr 7 = .ptr 1 v0 0 ∧ fget fr 9 = .ptr 5 vf 0 ∧ fget fr 10 = .int .i64 ((k : Nat) : Int) ∧ σ = ⟨t', kG fmt v0 v1 v2 v3 v4 L ++ [some (.arr vf 40 [.sl 6 rs 0 1 S2.length none, .sl 7 r 0 4 (C'.length + k) none]), some (.arr rs 2 (nints S2)), some (.arr r 46 (clC (behC C' k)))]⟩)
    ⟨t, rc, f4, f7, f9, f10, by simp [behC]⟩ (fun k c hc fr σ hJ => ?_) (fun k hk fr σ hJ => ?_) (fun e fr σ hE => ?_)
  · clear f4 f7 f9 f10
    obtain ⟨t', r, f4, f7, f9, f10, rfl⟩ := hJ
    have hlt := (List.getElem?_eq_some_iff.1 hc).1
    have hD := cells_get hc
    have e2 := w_nx hlt (by omega)
    have hs := behC_snoc hc
    have hl : (clC (behC C' k)).length = (C'.length + k) * 4 := by rw [clC_len, behC_len (by omega)]
    refine W_round [(4, .ref (.agg [.lst 1 (nints S) tS, .lst 4 (C'.map Cl.v) tC]) 0), (7, .ptr 1 v0 0), (9, .ptr 5 vf 0), (10, .int .i64 ((k : Nat) : Int))] ⟨f4, f7, f9, f10, trivial⟩  1000 ?_
    simp -implicitDefEqProofs (disch := omega) only [go_sem, need_of, ↓reduceIte, reduceCtorEq, Nat.reduceAdd, Nat.reduceEqDiff, Nat.reduceLeDiff, Nat.zero_add, decide_true, Bool.not_true, Bool.not_false, Nat.le_refl, Nat.zero_le, proofmarklaw03_ValueBehind_r9, proofmarklaw03_ValueBehind_r10, proofmarklaw03_ValueBehind_r11, proofmarklaw03_ValueBehind_r12, proofmarklaw03_ValueBehind_r13, Cl.v, kG_len0, kG_app, kG_5, kGs_5, kG_7, kGs_7, kG_8, kGs_8, List.length_map, List.length_append, List.length_cons, List.length_nil, false_implies, true_implies, true_and, and_true, List.cons_append, List.nil_append, hlt, hD, hl, e2]
    simp only [upC, Cl.cells] at hs
    rw [hs]
    refine ⟨_, _, Shift.drop (o' := kG fmt v0 v1 v2 v3 v4 L ++ [some (.arr vf 40 [.sl 6 rs 0 1 S2.length none, .sl 7 (t' + 1) 0 4 (C'.length + (k + 1)) none]), some (.arr rs 2 (nints S2)), some (.arr (t' + 1) 46 (clC (behC C' (k + 1))))]) (t' := t' + 1 + 1) (by simp [subObs, kG, Nat.add_assoc]) (Nat.le_refl _) (Nat.zero_le _), t' + 1 + 1, t' + 1, ?_⟩
    simp -implicitDefEqProofs (disch := omega) only [go_sem, ↓reduceIte, Nat.reduceEqDiff]
  · obtain ⟨t', r, f4, f7, f9, f10, rfl⟩ := hJ
    refine W_round [(4, .ref (.agg [.lst 1 (nints S) tS, .lst 4 (C'.map Cl.v) tC]) 0), (7, .ptr 1 v0 0), (9, .ptr 5 vf 0), (10, .int .i64 ((k : Nat) : Int))] ⟨f4, f7, f9, f10, trivial⟩  1000 ?_
    simp -implicitDefEqProofs (disch := omega) only [go_sem, ↓reduceIte, Nat.reduceAdd, Nat.reduceEqDiff, Nat.zero_add, decide_false, Nat.le_refl, proofmarklaw03_ValueBehind_r9, proofmarklaw03_ValueBehind_r10, proofmarklaw03_ValueBehind_r11, proofmarklaw03_ValueBehind_r12, proofmarklaw03_ValueBehind_r13, List.length_map, List.length_cons, List.length_nil, true_implies, true_and, and_true, hk, Nat.lt_irrefl]
    exact ⟨t', r, _, rfl, rfl, rfl, rfl⟩
  · obtain ⟨rfl, t', r, k, hk, f4, f7, f9, f10, rfl⟩ := hE
    subst hk
    have e := behC_len (C := C') (k := C'.length) (Nat.le_refl _)
    have := hQ fr t' r C'.length ⟨f4, f7, f9, f10⟩
    rw [e] at this
    exact this
end Go.Proofs.YtfligilbnpcnaaaDoor

