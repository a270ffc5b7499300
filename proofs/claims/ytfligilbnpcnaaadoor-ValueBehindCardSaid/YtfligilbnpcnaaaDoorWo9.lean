/- The values of terms: a round of the first loop of the program's All. -/
import Derived.Test.YtfligilbnpcnaaaDoorWo8
namespace Go.Proofs.YtfligilbnpcnaaaDoor
open Go Go.Am
set_option maxRecDepth 100000
set_option maxHeartbeats 1000000
variable {P : Program} {G : Nat → Option V}

abbrev alJ (fmt : Int → List UInt8) (v0 v1 v2 v3 v4 ve vm vk t0 z : Nat) (L : List Nd) (S : List Int) (tS : Bool) (C' : List Cl) (tC : Bool) (ids : List Int) (tr : Bool) (U : List Int) : Nat → Fr → H → Prop := fun i fr σ => ∃ t', t0 ≤ t' ∧ fget fr 0 = .ptr 1 v0 0 ∧ fget fr 2 = .lst z (nints ids) tr ∧ fget fr 8 = .ptr 7 vk 0 ∧ fget fr 9 = .fn (.func n_value_All_S1) [] [.ptr 5 ve 0, .ptr 7 vk 0] ∧ fget fr 23 = .lst 1 (nints U) false ∧ fget fr 24 = .int .i64 U.length ∧ fget fr 25 = .int .i64 ((i : Nat) : Int) ∧ σ = ⟨t', kG fmt v0 v1 v2 v3 v4 L ++ allH ve vm vk S tS C' tC (knows S C' L (U.take i))⟩
abbrev alE (fmt : Int → List UInt8) (v0 v1 v2 v3 v4 ve vm vk t0 z : Nat) (L : List Nd) (S : List Int) (tS : Bool) (C' : List Cl) (tC : Bool) (ids : List Int) (tr : Bool) (U : List Int) : AE → Fr → H → Prop := fun e fr σ => e = .ex 0 ∧ ∃ t', t0 ≤ t' ∧ fget fr 2 = .lst z (nints ids) tr ∧ fget fr 8 = .ptr 7 vk 0 ∧ σ = ⟨t', kG fmt v0 v1 v2 v3 v4 L ++ allH ve vm vk S tS C' tC (knows S C' L U)⟩
/-- What is asked of the terms. -/
def fit (L : List Nd) : Prop := ∀ x : Int, 0 ≤ x → x < L.length → ((nd L x).kind = 1 ∨ (nd L x).kind = 2 ∨ (nd L x).kind = 3 ∨ (nd L x).kind = 4) ∧ (0 ≤ (nd L x).op ∧ (nd L x).op ≤ 255)
theorem all_round (hT : TabOk P tab) {fmt : Int → List UInt8} {v0 v1 v2 v3 v4 ve vm vk t0 i z : Nat} {L : List Nd} (hfit : fit L) (hLn : ∀ x, i64 (nd L x).n) {S : List Int} {tS tC tr : Bool} {C' : List Cl} (hS : ∀ x ∈ S, i64 x) (hC : C'.length ≤ 1000000) (hCn : ∀ c ∈ C', i64 c.n) {ids U : List Int} (hU : ∀ x ∈ U, 0 ≤ x ∧ x < L.length) (hUn : U.Nodup) (hUl : U.length ≤ 1000000) {x : Int} (hx : U[i]? = some x) {fr : Fr} {σ : H} (hJ : alJ fmt v0 v1 v2 v3 v4 ve vm vk t0 z L S tS C' tC ids tr U i fr σ) :
    W P G 65 5 (AC.seq (AC.reg value_All_r4 [])   (AC.seq (AC.cond (Arg.t 26)   AC.skip   (AC.exit 0))   (AC.seq (AC.block 1 (AC.seq (AC.reg value_All_r5 [27, 28])   (AC.seq (AC.reg value_All_r6 [30, 31, 32, 29, 33, 34, 13])   (AC.reg value_All_r7 [35, 36, 37, 38, 39]))))   (AC.reg value_All_r8 [40])))) fr σ (seqQ (fun fr σ => ∃ fr' σ', Shift G 65 5 fr σ fr' σ' ∧ alJ fmt v0 v1 v2 v3 v4 ve vm vk t0 z L S tS C' tC ids tr U (i + 1) fr' σ') (alE fmt v0 v1 v2 v3 v4 ve vm vk t0 z L S tS C' tC ids tr U)) := by
  obtain ⟨t', ht, f0, f2, f8, f9, f23, f24, f25, rfl⟩ := hJ
  have hlt := (List.getElem?_eq_some_iff.1 hx).1
  have hD := nints_get hx
  have e2 := w_nx hlt (by omega)
  obtain ⟨h0, h1⟩ := hU x (List.mem_of_getElem? hx)
  have hN := fun t ex => k_Node (P := P) (G := G) hT (base := 5) (fmt := fmt) (v0 := v0) (v1 := v1) (v2 := v2) (v3 := v3) (v4 := v4) (t := t) (L := L) (ex := ex) (id := x)
  have hts := take_snoc2 hx
  have s1 : knows S C' L (U.take (i + 1)) = knows S C' L (U.take i) ++ [(x, oneV S C' (knows S C' L (U.take i)) (nd L x))] := by rw [hts, knows_snoc]
  have hK : ∀ p ∈ knows S C' L (U.take i), i64 p.2 := knows_i64 hS hCn hLn _ [] (by simp)
  have hnot : x ∉ (knows S C' L (U.take i)).map (·.1) := by
    rw [knows_keys]
    have h2 := hUn.sublist (List.take_sublist (i + 1) U)
    rw [hts] at h2
    intro hm
    exact (List.nodup_append.1 h2).2.2 x hm x (by simp) rfl
  have hone := fun t y => c_One (P := P) (G := G) (Nat.le_refl 9) hT (fmt := fmt) (v0 := v0) (v1 := v1) (v2 := v2) (v3 := v3) (v4 := v4) (ve := ve) (vm := vm) (vk := vk) (t := t) (L := L) (y8 := y) S tS C' hC tC (knows S C' L (U.take i)) hK (nd L x) (hfit x h0 h1).1 (hfit x h0 h1).2
  have hadd := mput_kEs (v := oneV S C' (knows S C' L (U.take i)) (nd L x)) hnot
  generalize hs2 : knows S C' L (U.take (i + 1)) = K2 at *
  generalize knows S C' L (U.take i) = K at *
  simp only [if_pos (show 0 ≤ x ∧ x < L.length from ⟨h0, h1⟩)] at hN
  simp only [show L.getD x.toNat zeroNd = nd L x from rfl] at hN
  generalize oneV S C' K (nd L x) = r at *
  generalize nd L x = d at *
  simp only [Nd.cells] at hN hone
  refine W_round [(0, .ptr 1 v0 0), (2, .lst z (nints ids) tr), (8, .ptr 7 vk 0), (9, .fn (.func n_value_All_S1) [] [.ptr 5 ve 0, .ptr 7 vk 0]), (23, .lst 1 (nints U) false), (24, .int .i64 U.length), (25, .int .i64 ((i : Nat) : Int))] ⟨f0, f2, f8, f9, f23, f24, f25, trivial⟩  1000 ?_
  simp -implicitDefEqProofs (disch := omega) only [go_sem, need_of, ↓reduceIte, reduceCtorEq, Nat.reduceEqDiff, Nat.zero_add, decide_true, Nat.le_refl, value_All_r4, value_All_r5, value_All_r6, value_All_r7, value_All_r8, nints_length, allH, List.length_nil, List.length_cons, true_implies, and_true, hlt, hD]
  refine call hT t_term_Graph_Node (hN _ _) 1000 fun u σ hu => ?_
  obtain ⟨rfl, t2, ht2, rfl⟩ := hu
  simp -implicitDefEqProofs (disch := omega) only [go_sem, ↓reduceIte, reduceCtorEq, Nat.reduceAdd, Nat.reduceEqDiff, Nat.reduceLeDiff, Nat.reduceLT, Nat.zero_add, Bool.not_false, Nat.le_refl, kG_len, kG_app, kG_7, kG_8, kGs_8, List.length_nil, List.length_cons, List.nil_append, List.cons_append, false_implies, true_implies, and_true]
  have hsub : ∀ (K : List (Int × Int)) (y : Option Ob), subObs (kG fmt v0 v1 v2 v3 v4 L ++ allH ve vm vk S tS C' tC K) (kG fmt v0 v1 v2 v3 v4 L ++ [some (.arr ve 40 [.lst 1 (nints S) tS, .lst 4 (C'.map Cl.v) tC]), some (.map vm (kEs K)), some (.arr vk 88 [.mp 6 vm]), y]) := fun K y => by
    have := subObs_take 8 (kG fmt v0 v1 v2 v3 v4 L ++ [some (.arr ve 40 [.lst 1 (nints S) tS, .lst 4 (C'.map Cl.v) tC]), some (.map vm (kEs K)), some (.arr vk 88 [.mp 6 vm]), y])
    exact this
  refine CV.use 1000 (CV.of hT t_value_All_S1 (hone _ _)) fun u σ hu => ?_
  obtain ⟨rfl, t3, ht3, rfl⟩ := hu
  simp -implicitDefEqProofs (disch := omega) only [go_sem, ↓reduceIte, reduceCtorEq, Nat.reduceEqDiff, Nat.reduceLeDiff, Bool.not_false, kG_6, kGs_6, keysOk_kEs, allH, List.nil_append, List.cons_append, and_true, hadd, e2]
  refine ⟨_, _, Shift.drop (o' := kG fmt v0 v1 v2 v3 v4 L ++ allH ve vm vk S tS C' tC (K ++ [(x, r)])) (t' := t3) (hsub _ _) (Nat.le_refl _) (by simp [kG, allH]), t3, by omega, ?_⟩
  simp -implicitDefEqProofs (disch := omega) only [go_sem, ↓reduceIte, reduceCtorEq, Nat.reduceEqDiff, hs2, s1]
end Go.Proofs.YtfligilbnpcnaaaDoor

