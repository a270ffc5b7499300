/- The values of terms: the loop of the program's All. -/
import Derived.Test.YtfligilbnpcnaaaGreatDoorWo7
/- The values of terms: the loop of the program's All. -/
namespace Go.Proofs.YtfligilbnpcnaaaGreatDoor
open Go Go.Am
set_option maxRecDepth 100000
set_option maxHeartbeats 1000000
variable {P : Program} {G : Nat → Option V}

/-- What is known once these terms are. -/
def knows (S : List Int) (C : List Cl) (L : List Nd) (U : List Int) : List (Int × Int) := U.foldl (fun K x => K ++ [(x, oneV S C K (nd L x))]) []
theorem knows_snoc {S : List Int} {C : List Cl} {L : List Nd} {U : List Int} {x : Int} : knows S C L (U ++ [x]) = knows S C L U ++ [(x, oneV S C (knows S C L U) (nd L x))] := by simp [knows]
theorem foldl_keys (S : List Int) (C : List Cl) (L : List Nd) : ∀ (U : List Int) (K : List (Int × Int)), (U.foldl (fun K x => K ++ [(x, oneV S C K (nd L x))]) K).map (·.1) = K.map (·.1) ++ U
  | [], K => by simp
  | x :: U, K => by rw [List.foldl_cons, foldl_keys S C L U]; simp
theorem knows_keys (S : List Int) (C : List Cl) (L : List Nd) (U : List Int) : (knows S C L U).map (·.1) = U := by
  rw [knows, foldl_keys]; simp
theorem mput_kEs {K : List (Int × Int)} {x v : Int} (h : x ∉ K.map (·.1)) : mput [.i] (.int .i64 x) (.int .i64 v) (kEs K) = kEs (K ++ [(x, v)]) := by
  induction K with
  | nil => rfl
  | cons p K ih =>
    simp only [List.map_cons, List.mem_cons, not_or] at h
    simp only [kEs, List.map_cons, List.cons_append, mput, keyEq_int] at ih ⊢
    rw [decide_eq_false h.1]
    simp only [Bool.false_eq_true, if_false]
    rw [ih h.2]
theorem oneV_i64 {S : List Int} {C : List Cl} {K : List (Int × Int)} {d : Nd} (hS : ∀ x ∈ S, i64 x) (hC : ∀ c ∈ C, i64 c.n) (hK : ∀ p ∈ K, i64 p.2) (hd : i64 d.n) : i64 (oneV S C K d) := by
  refine ite_i64 hd (ite_i64 ?_ (ite_i64 ?_ (doW_i64 (kAt_i64 hK _) (kAt_i64 hK _))))
  · unfold symE
    refine ite_i64 (by unfold i64; omega) ?_
    rw [List.getD_eq_getElem?_getD]
    cases h : S[d.n.toNat]? with
    | none => simp [i64]
    | some x => exact hS x (List.mem_of_getElem? h)
  · unfold cellE
    refine ite_i64 (by unfold i64; omega) ?_
    cases h : C[(fstC (isC d.a d.n ((kAt K d.y).getD 0)) C 0).toNat]? with
    | none => simp [i64]
    | some c => exact hC c (List.mem_of_getElem? h)
theorem knows_i64 {S : List Int} {C : List Cl} {L : List Nd} (hS : ∀ x ∈ S, i64 x) (hC : ∀ c ∈ C, i64 c.n) (hL : ∀ x, i64 (nd L x).n) : ∀ (U : List Int) (K : List (Int × Int)), (∀ p ∈ K, i64 p.2) → ∀ p ∈ U.foldl (fun K x => K ++ [(x, oneV S C K (nd L x))]) K, i64 p.2
  | [], K, hK => hK
  | x :: U, K, hK => by
    rw [List.foldl_cons]
    refine knows_i64 hS hC hL U _ fun p hp => ?_
    rcases List.mem_append.1 hp with h | h
    · exact hK p h
    · rw [List.mem_singleton.1 h]
      exact oneV_i64 hS hC hK (hL x)
end Go.Proofs.YtfligilbnpcnaaaGreatDoor

/- The values of terms: a round of the first loop of the program's All. -/
namespace Go.Proofs.YtfligilbnpcnaaaGreatDoor
open Go Go.Am
set_option maxRecDepth 100000
set_option maxHeartbeats 1000000
variable {P : Program} {G : Nat → Option V}

abbrev alJ (fmt : Int → List UInt8) (v0 v1 v2 v3 v4 ve vm vk t0 z : Nat) (L : List Nd) (S : List Int) (tS : Bool) (C' : List Cl) (tC : Bool) (ids : List Int) (tr : Bool) (U : List Int) : Nat → Fr → H → Prop := fun i fr σ => ∃ t', t0 ≤ t' ∧ fget fr 0 = .ptr 1 v0 0 ∧ fget fr 2 = .lst z (nints ids) tr ∧ fget fr 8 = .ptr 7 vk 0 ∧ fget fr 9 = .fn (.func n_value_All_S1) [] [.ptr 5 ve 0, .ptr 7 vk 0] ∧ fget fr 23 = .lst 1 (nints U) false ∧ fget fr 24 = .int .i64 U.length ∧ fget fr 25 = .int .i64 ((i : Nat) : Int) ∧ σ = ⟨t', kG fmt v0 v1 v2 v3 v4 L ++ allH ve vm vk S tS C' tC (knows S C' L (U.take i))⟩
abbrev alE (fmt : Int → List UInt8) (v0 v1 v2 v3 v4 ve vm vk t0 z : Nat) (L : List Nd) (S : List Int) (tS : Bool) (C' : List Cl) (tC : Bool) (ids : List Int) (tr : Bool) (U : List Int) : AE → Fr → H → Prop := fun e fr σ => e = .ex 0 ∧ ∃ t', t0 ≤ t' ∧ fget fr 2 = .lst z (nints ids) tr ∧ fget fr 8 = .ptr 7 vk 0 ∧ σ = ⟨t', kG fmt v0 v1 v2 v3 v4 L ++ allH ve vm vk S tS C' tC (knows S C' L U)⟩
/-- What is asked of the terms. -/
def fit (L : List Nd) : Prop := ∀ x : Int, 0 ≤ x → x < L.length → ((nd L x).kind = 1 ∨ (nd L x).kind = 2 ∨ (nd L x).kind = 3 ∨ (nd L x).kind = 4) ∧ (0 ≤ (nd L x).op ∧ (nd L x).op ≤ 255)
theorem all_round (hT : TabOk P tab) {fmt : Int → List UInt8} {v0 v1 v2 v3 v4 ve vm vk t0 i z : Nat} {L : List Nd} (hfit : fit L) (hLn : ∀ x, i64 (nd L x).n) {S : List Int} {tS tC tr : Bool} {C' : List Cl} (hS : ∀ x ∈ S, i64 x) (hC : C'.length ≤ 1000000) (hCn : ∀ c ∈ C', i64 c.n) {ids U : List Int} (hU : ∀ x ∈ U, 0 ≤ x ∧ x < L.length) (hUn : U.Nodup) (hUl : U.length ≤ 1000000) {x : Int} (hx : U[i]? = some x) {fr : Fr} {σ : H} (hJ : alJ fmt v0 v1 v2 v3 v4 ve vm vk t0 z L S tS C' tC ids tr U i fr σ) :
    W P G 65 5 (AC.seq (AC.reg zqd_4 [])   (AC.seq (AC.cond (Arg.t 26)   AC.skip   (AC.exit 0))   (AC.seq (AC.block 1 (AC.seq (AC.reg zqd_5 [27, 28])   (AC.seq (AC.reg zqd_6 [30, 31, 32, 29, 33, 34, 13])   (AC.reg zqd_7 [35, 36, 37, 38, 39]))))   (AC.reg zqd_8 [40])))) fr σ (seqQ (fun fr σ => ∃ fr' σ', Shift G 65 5 fr σ fr' σ' ∧ alJ fmt v0 v1 v2 v3 v4 ve vm vk t0 z L S tS C' tC ids tr U (i + 1) fr' σ') (alE fmt v0 v1 v2 v3 v4 ve vm vk t0 z L S tS C' tC ids tr U)) := by
  obtain ⟨t', ht, f0, f2, f8, f9, f23, f24, f25, rfl⟩ := hJ
  have hlt := (List.getElem?_eq_some_iff.1 hx).1
  have hD := nints_get hx
  have e2 := w_nx hlt (by omega)
  obtain ⟨h0, h1⟩ := hU x (List.mem_of_getElem? hx)
  have hN := fun t ex => k_Node (P := P) (G := G) hT (base := 5) (fmt := fmt) (v0 := v0) (v1 := v1) (v2 := v2) (v3 := v3) (v4 := v4) (t := t) (L := L) (ex := ex) (id := x)
  have hts := take_snoc2 hx
  have s1 : knows S C' L (U.take (i + 1)) = knows S C' L (U.take i) ++ [(x, oneV S C' (knows S C' L (U.take i)) (nd L x))] := by rw [hts, knows_snoc]
  have hK : ∀ p ∈ knows S C' L (U.take i), i64 p.2 := knows_i64 hS hCn hLn _ [] (by simp)
  have hnot : x ∉ (knows S C' L (U.take i)).map (·.1) := by
    rw [knows_keys]
    have h2 := hUn.sublist (List.take_sublist (i + 1) U)
    rw [hts] at h2
    intro hm
    exact (List.nodup_append.1 h2).2.2 x hm x (by simp) rfl
  have hone := fun t y => c_One (P := P) (G := G) (Nat.le_refl 9) hT (fmt := fmt) (v0 := v0) (v1 := v1) (v2 := v2) (v3 := v3) (v4 := v4) (ve := ve) (vm := vm) (vk := vk) (t := t) (L := L) (y8 := y) S tS C' hC tC (knows S C' L (U.take i)) hK (nd L x) (hfit x h0 h1).1 (hfit x h0 h1).2
  have hadd := mput_kEs (v := oneV S C' (knows S C' L (U.take i)) (nd L x)) hnot
  generalize hs2 : knows S C' L (U.take (i + 1)) = K2 at *
  generalize knows S C' L (U.take i) = K at *
  simp only [if_pos (show 0 ≤ x ∧ x < L.length from ⟨h0, h1⟩)] at hN
  simp only [show L.getD x.toNat zeroNd = nd L x from rfl] at hN
  generalize oneV S C' K (nd L x) = r at *
  generalize nd L x = d at *
  simp only [Nd.cells] at hN hone
  refine W_round [(0, .ptr 1 v0 0), (2, .lst z (nints ids) tr), (8, .ptr 7 vk 0), (9, .fn (.func n_value_All_S1) [] [.ptr 5 ve 0, .ptr 7 vk 0]), (23, .lst 1 (nints U) false), (24, .int .i64 U.length), (25, .int .i64 ((i : Nat) : Int))] ⟨f0, f2, f8, f9, f23, f24, f25, trivial⟩  1000 ?_
  simp -implicitDefEqProofs (disch := omega) only [go_sem, need_of, ↓reduceIte, reduceCtorEq, Nat.reduceEqDiff, Nat.zero_add, decide_true, Nat.le_refl, zqd_4, zqd_5, zqd_6, zqd_7, zqd_8, nints_length, allH, List.length_nil, List.length_cons, true_implies, and_true, hlt, hD]
  refine call hT t_term_Graph_Node (hN _ _) 1000 fun u σ hu => ?_
  obtain ⟨rfl, t2, ht2, rfl⟩ := hu
  simp -implicitDefEqProofs (disch := omega) only [go_sem, ↓reduceIte, reduceCtorEq, Nat.reduceAdd, Nat.reduceEqDiff, Nat.reduceLeDiff, Nat.reduceLT, Nat.zero_add, Bool.not_false, Nat.le_refl, kG_len, kG_app, kG_7, kG_8, kGs_8, List.length_nil, List.length_cons, List.nil_append, List.cons_append, false_implies, true_implies, and_true]
  have hsub : ∀ (K : List (Int × Int)) (y : Option Ob), subObs (kG fmt v0 v1 v2 v3 v4 L ++ allH ve vm vk S tS C' tC K) (kG fmt v0 v1 v2 v3 v4 L ++ [some (.arr ve 26 [.lst 1 (nints S) tS, .lst 4 (C'.map Cl.v) tC]), some (.map vm (kEs K)), some (.arr vk 72 [.mp 6 vm]), y]) := fun K y => by
    have := subObs_take 8 (kG fmt v0 v1 v2 v3 v4 L ++ [some (.arr ve 26 [.lst 1 (nints S) tS, .lst 4 (C'.map Cl.v) tC]), some (.map vm (kEs K)), some (.arr vk 72 [.mp 6 vm]), y])
    exact this
  refine CV.use 1000 (CV.of hT t_value_All_S1 (hone _ _)) fun u σ hu => ?_
  obtain ⟨rfl, t3, ht3, rfl⟩ := hu
  simp -implicitDefEqProofs (disch := omega) only [go_sem, ↓reduceIte, reduceCtorEq, Nat.reduceEqDiff, Nat.reduceLeDiff, Bool.not_false, kG_6, kGs_6, keysOk_kEs, allH, List.nil_append, List.cons_append, and_true, hadd, e2]
  refine ⟨_, _, Shift.drop (o' := kG fmt v0 v1 v2 v3 v4 L ++ allH ve vm vk S tS C' tC (K ++ [(x, r)])) (t' := t3) (hsub _ _) (Nat.le_refl _) (by simp [kG, allH]), t3, by omega, ?_⟩
  simp -implicitDefEqProofs (disch := omega) only [go_sem, ↓reduceIte, reduceCtorEq, Nat.reduceEqDiff, hs2, s1]
end Go.Proofs.YtfligilbnpcnaaaGreatDoor

/- The values of terms: what is asked of the terms. -/
namespace Go.Proofs.YtfligilbnpcnaaaGreatDoor
open Go Go.Am
set_option maxRecDepth 100000
set_option maxHeartbeats 1000000
variable {P : Program} {G : Nat → Option V}
theorem fit_ok {L : List Nd} (hok : okN L) : fit L := by
  intro x h0 h1
  obtain ⟨d, hd⟩ : ∃ d, L[x.toNat]? = some d := ⟨_, List.getElem?_eq_getElem (by omega)⟩
  have e : nd L x = d := by simp [nd, List.getD_eq_getElem?_getD, hd]
  rw [e]
  obtain ⟨hp, h2, hk⟩ := may_parts (hok _ d hd).2.2
  exact ⟨hk, by omega, by omega⟩
theorem nd_i64 {L : List Nd} (hok : okN L) (x : Int) : i64 (nd L x).n := by
  unfold nd
  rw [List.getD_eq_getElem?_getD]
  cases h : L[x.toNat]? with
  | none => simp [i64, zeroNd]
  | some d => exact (hok _ d h).1
end Go.Proofs.YtfligilbnpcnaaaGreatDoor

/- The values of terms: a round of the second loop of the program's All. -/
namespace Go.Proofs.YtfligilbnpcnaaaGreatDoor
open Go Go.Am
set_option maxRecDepth 100000
set_option maxHeartbeats 1000000
variable {P : Program} {G : Nat → Option V}

/-- The row of values, as far as it is written. -/
def outs (K : List (Int × Int)) (ids : List Int) (i n : Nat) : List V := nints ((ids.take i).map fun x => (kAt K x).getD 0) ++ List.replicate (n - i) (.int .i64 0)
theorem outs_length {K : List (Int × Int)} {ids : List Int} {i n : Nat} (h : i ≤ n) (h2 : ids.length = n) : (outs K ids i n).length = n := by simp [outs, nints]; omega
theorem outs_set {K : List (Int × Int)} {ids : List Int} {i n : Nat} {x y : Int} (hx : ids[i]? = some x) (hn : ids.length = n) (hk : kAt K x = some y) : (outs K ids i n).set i (.int .i64 y) = outs K ids (i + 1) n := by
  have hlt := (List.getElem?_eq_some_iff.1 hx).1
  have h1 : (nints ((ids.take i).map fun x => (kAt K x).getD 0)).length = i := by simp [nints]; omega
  have h2 : n - i = (n - (i + 1)) + 1 := by omega
  rw [outs, outs, take_snoc2 hx, List.set_append, if_neg (by omega), h1, Nat.sub_self, h2, List.replicate_succ, List.set_cons_zero]
  simp [nints, hk]
end Go.Proofs.YtfligilbnpcnaaaGreatDoor

/- The values of terms: a round of the second loop of the program's All. -/
namespace Go.Proofs.YtfligilbnpcnaaaGreatDoor
open Go Go.Am
set_option maxRecDepth 100000
set_option maxHeartbeats 1000000
variable {P : Program} {G : Nat → Option V}

abbrev ouJ (fmt : Int → List UInt8) (v0 v1 v2 v3 v4 ve vm vk vo t : Nat) (L : List Nd) (S : List Int) (tS : Bool) (C' : List Cl) (tC : Bool) (K : List (Int × Int)) (ids : List Int) (tr : Bool) : Nat → Fr → H → Prop := fun i fr σ => (∀ x ∈ ids.take i, (kAt K x).isSome = true) ∧ fget fr 8 = .ptr 7 vk 0 ∧ fget fr 14 = .sl 8 vo 0 1 ids.length none ∧ fget fr 44 = .lst 1 (nints ids) tr ∧ fget fr 45 = .int .i64 ids.length ∧ fget fr 46 = .int .i64 ((i : Nat) : Int) ∧ σ = ⟨t, kG fmt v0 v1 v2 v3 v4 L ++ (allH ve vm vk S tS C' tC K ++ [some (.arr vo 2 (outs K ids i ids.length))])⟩
abbrev ouE (fmt : Int → List UInt8) (v0 v1 v2 v3 v4 ve vm vk vo t : Nat) (L : List Nd) (S : List Int) (tS : Bool) (C' : List Cl) (tC : Bool) (K : List (Int × Int)) (ids : List Int) : AE → Fr → H → Prop := fun e fr σ => (e = .ret ∧ (∃ x ∈ ids, kAt K x = none) ∧ fget fr 6 = .lst 0 [] true ∧ fget fr 7 = .bool false ∧ ∃ i, σ = ⟨t, kG fmt v0 v1 v2 v3 v4 L ++ (allH ve vm vk S tS C' tC K ++ [some (.arr vo 2 (outs K ids i ids.length))])⟩) ∨ (e = .ex 2 ∧ (∀ x ∈ ids, (kAt K x).isSome = true) ∧ fget fr 14 = .sl 8 vo 0 1 ids.length none ∧ σ = ⟨t, kG fmt v0 v1 v2 v3 v4 L ++ (allH ve vm vk S tS C' tC K ++ [some (.arr vo 2 (outs K ids ids.length ids.length))])⟩)
theorem out_round {fmt : Int → List UInt8} {v0 v1 v2 v3 v4 ve vm vk vo t i : Nat} {L : List Nd} {S : List Int} {tS tC tr : Bool} {C' : List Cl} {K : List (Int × Int)} {ids : List Int} (hl : ids.length ≤ 1000000) {x : Int} (hx : ids[i]? = some x) {fr : Fr} {σ : H} (hJ : ouJ fmt v0 v1 v2 v3 v4 ve vm vk vo t L S tS C' tC K ids tr i fr σ) :
    W P G 65 5 (AC.seq (AC.reg zqd_11 [])   (AC.seq (AC.cond (Arg.t 47)   AC.skip   (AC.exit 2))   (AC.seq (AC.block 3 (AC.seq (AC.reg zqd_12 [48, 49, 50])   (AC.seq (AC.reg zqd_13 [52, 53, 54, 51, 55, 56])   (AC.seq (AC.seq (AC.reg zqd_14 [57])   (AC.cond (Arg.t 58)   (AC.seq (AC.reg zqd_15 [])   AC.ret)   AC.skip))   (AC.reg zqd_16 [59, 60, 61, 62])))))   (AC.reg zqd_17 [63])))) fr σ (seqQ (fun fr σ => ∃ fr' σ', Shift G 65 5 fr σ fr' σ' ∧ ouJ fmt v0 v1 v2 v3 v4 ve vm vk vo t L S tS C' tC K ids tr (i + 1) fr' σ') (ouE fmt v0 v1 v2 v3 v4 ve vm vk vo t L S tS C' tC K ids)) := by
  obtain ⟨hall, f8, f14, f44, f45, f46, rfl⟩ := hJ
  have hlt := (List.getElem?_eq_some_iff.1 hx).1
  have hD := nints_get hx
  have e2 := w_nx hlt (by omega)
  have hol : (outs K ids i ids.length).length = ids.length := outs_length (by omega) rfl
  cases hk : kAt K x with
  | none =>
    refine W_round [(8, .ptr 7 vk 0), (14, .sl 8 vo 0 1 ids.length none), (44, .lst 1 (nints ids) tr), (45, .int .i64 ids.length), (46, .int .i64 ((i : Nat) : Int))] ⟨f8, f14, f44, f45, f46, trivial⟩  1000 ?_
    simp -implicitDefEqProofs (disch := omega) only [go_sem, need_of, ↓reduceIte, Nat.reduceAdd, Nat.reduceEqDiff, Nat.reduceLT, Nat.zero_add, decide_true, Bool.not_false, Nat.le_refl, Option.isSome_none, Option.getD_none, zqd_11, zqd_12, zqd_13, zqd_14, zqd_15, zqd_16, zqd_17, kG_6, kG_7, allH, nints_length, mget_kEs, keysOk_kEs, List.length_nil, List.length_cons, List.nil_append, List.cons_append, true_implies, and_true, hlt, hD, hk, Option.map_none, Option.isSome_none]
    exact .inl ⟨rfl, ⟨x, List.mem_of_getElem? hx, hk⟩, by simp -implicitDefEqProofs (disch := omega) only [go_sem, ↓reduceIte, Nat.reduceEqDiff], by simp -implicitDefEqProofs (disch := omega) only [go_sem, ↓reduceIte, Nat.reduceEqDiff], i, rfl⟩
  | some y =>
    have hs := outs_set hx rfl hk
    rw [List.set_eq_take_append_cons_drop, if_pos (by omega)] at hs
    have hs' : List.take i (outs K ids i ids.length) ++ [V.int .i64 y] ++ List.drop (i + 1) (outs K ids i ids.length) = outs K ids (i + 1) ids.length := by rw [List.append_assoc]; exact hs
    refine W_round [(8, .ptr 7 vk 0), (14, .sl 8 vo 0 1 ids.length none), (44, .lst 1 (nints ids) tr), (45, .int .i64 ids.length), (46, .int .i64 ((i : Nat) : Int))] ⟨f8, f14, f44, f45, f46, trivial⟩  1000 ?_
    simp -implicitDefEqProofs (disch := omega) only [go_sem, need_of, ↓reduceIte, Nat.reduceAdd, Nat.reduceEqDiff, Nat.reduceLeDiff, Nat.reduceLT, Nat.zero_add, Nat.mul_one, decide_true, Bool.not_true, Bool.not_false, Nat.le_refl, Option.isSome_some, Option.getD_some, zqd_11, zqd_12, zqd_13, zqd_14, zqd_15, zqd_16, zqd_17, kG_6, kG_7, kG_8, kGs_8, allH, nints_length, mget_kEs, keysOk_kEs, List.length_nil, List.length_cons, List.nil_append, List.cons_append, true_implies, true_and, and_true, hlt, hD, e2, hk, Option.map_some, Option.isSome_some, hol]
    refine ⟨_, _, Shift.refl _ _ _ _, fun w hw => ?_, ?_⟩
    · rw [take_snoc2 hx] at hw
      rcases List.mem_append.1 hw with h | h
      · exact hall w h
      · rw [List.mem_singleton.1 h, hk]; rfl
    · simp -implicitDefEqProofs (disch := omega) only [go_sem, ↓reduceIte, Nat.reduceEqDiff, allH, List.nil_append, List.cons_append, and_true, hs']
end Go.Proofs.YtfligilbnpcnaaaGreatDoor

/- The values of terms: the program's All. -/
namespace Go.Proofs.YtfligilbnpcnaaaGreatDoor
open Go Go.Am
set_option maxRecDepth 100000
set_option maxHeartbeats 1000000
variable {P : Program} {G : Nat → Option V}

/-- Something lies behind these. -/
def kEx (t : Nat) (o : List (Option Ob)) (σ : H) : Prop := ∃ t' ex, t ≤ t' ∧ σ = ⟨t', o ++ ex⟩
theorem mapnil1 : (Value.map none).oneCell' = true := rfl
theorem c_All0 (hT : TabOk P tab) (SO : SortOk P) {fmt : Int → List UInt8} {v0 v1 v2 v3 v4 t : Nat} {L : List Nd} (hL : L.length ≤ 1000000) (hok : okN L) (S : List Int) (hS : ∀ x ∈ S, i64 x) (tS : Bool) (C' : List Cl) (hC : C'.length ≤ 1000000) (hCn : ∀ c ∈ C', i64 c.n) (tC : Bool) (ids : List Int) (tr : Bool) (hil : ids.length ≤ 1000000) :
    C P G 5 n_value_All [.ptr 1 v0 0, envV S tS 4 C' tC, .lst 1 (nints ids) tr] ⟨t, kG fmt v0 v1 v2 v3 v4 L⟩ fun v σ => (v = .tup [.lst 0 [] true, .bool false] ∧ (∃ x ∈ ids, kAt (knows S C' L (usesL L ids)) x = none) ∧ kEx t (kG fmt v0 v1 v2 v3 v4 L) σ) ∨ (∃ vo t' ve vm vk, t ≤ t' ∧ v = .tup [.sl 8 vo 0 1 ids.length none, .bool true] ∧ (∀ x ∈ ids, (kAt (knows S C' L (usesL L ids)) x).isSome = true) ∧ σ = ⟨t', kG fmt v0 v1 v2 v3 v4 L ++ (allH ve vm vk S tS C' tC (knows S C' L (usesL L ids)) ++ [some (.arr vo 2 (outs (knows S C' L (usesL L ids)) ids ids.length ids.length))])⟩) := by
  refine C_tab hT t_value_All (by simp [value_All]) (W_run 1000 ?_)
  simp -implicitDefEqProofs (disch := omega) only [go_sem, ↓reduceIte, reduceCtorEq, Nat.reduceAdd, Nat.reduceEqDiff, Nat.reduceLeDiff, Nat.zero_add, Bool.not_false, Nat.le_refl, value_All, zqd_0, zqd_1, zqd_2, zqd_3, zqd_4, zqd_5, zqd_6, zqd_7, zqd_8, zqd_9, zqd_10, zqd_11, zqd_12, zqd_13, zqd_14, zqd_15, zqd_16, zqd_17, zqd_18, envV, mapnil1, kG_len, kG_app, kG_7, kGs_7, allH, List.length_nil, List.length_cons, List.nil_append, List.cons_append, and_true]
  have hU := fun t ex => k_Uses (P := P) (G := G) hT SO (base := 5) (fmt := fmt) (v0 := v0) (v1 := v1) (v2 := v2) (v3 := v3) (v4 := v4) (t := t) (L := L) (ex := ex) hL hok.wf ids 1 tr (.inl rfl) (by omega)
  have hUb : ∀ x ∈ usesL L ids, 0 ≤ x ∧ x < L.length := uses_ok
  have hUn : (usesL L ids).Nodup := uses_nodup
  have hUl : (usesL L ids).length ≤ 1000000 := by have := nodup_len L.length (usesL L ids) uses_nodup uses_ok; omega
  generalize usesL L ids = U at *
  refine call hT t_term_Graph_Uses (hU _ _) 1000 fun v σ hv => ?_
  obtain ⟨rfl, t1, ht1, rfl⟩ := hv
  simp -implicitDefEqProofs (disch := omega) only [go_sem, ↓reduceIte, reduceCtorEq, Nat.reduceEqDiff, List.length_map]
  refine sem_for U (alJ fmt v0 v1 v2 v3 v4 t (t + 1) (t + 1 + 1) t1 1 L S tS C' tC ids tr U) (alE fmt v0 v1 v2 v3 v4 t (t + 1) (t + 1 + 1) t1 1 L S tS C' tC ids tr U) ⟨t1, Nat.le_refl _, ?_⟩ (fun i x hx fr σ hJ => all_round hT (fit_ok hok) (nd_i64 hok) hS hC hCn hUb hUn hUl hx hJ) (fun i hi fr σ hJ => ?_) (fun e fr σ hE => ?_)
  · simp -implicitDefEqProofs (disch := omega) only [go_sem, ↓reduceIte, reduceCtorEq, Nat.reduceEqDiff, allH, true_and]
    exact ⟨rfl, rfl, rfl, rfl⟩
  · obtain ⟨t2, ht2, f0, f2, f8, f9, f23, f24, f25, rfl⟩ := hJ
    refine W_run 1000 ?_
    simp -implicitDefEqProofs (disch := omega) only [go_sem, ↓reduceIte, decide_false, allH, f24, f25, hi, Nat.lt_irrefl, List.take_length]
    exact ⟨rfl, t2, ht2, by simp -implicitDefEqProofs (disch := omega) only [go_sem, ↓reduceIte, Nat.reduceEqDiff, f2], by simp -implicitDefEqProofs (disch := omega) only [go_sem, ↓reduceIte, Nat.reduceEqDiff, f8], rfl⟩
  · obtain ⟨rfl, t2, ht2, f2, f8, rfl⟩ := hE
    refine sem_exit [(2, .lst 1 (nints ids) tr), (8, .ptr 7 (t + 1 + 1) 0)] ⟨f2, f8, trivial⟩ 1000 ?_
    simp -implicitDefEqProofs (disch := omega) only [go_sem, need_of, ↓reduceIte, Nat.reduceAdd, Nat.reduceEqDiff, Nat.zero_add, Nat.le_refl, kG_len, kG_app, allH, nints_length, List.length_nil, List.length_cons, List.nil_append, List.cons_append, true_and, and_true]
    refine sem_for ids (ouJ fmt v0 v1 v2 v3 v4 t (t + 1) (t + 1 + 1) t2 (t2 + 1) L S tS C' tC (knows S C' L U) ids tr) (ouE fmt v0 v1 v2 v3 v4 t (t + 1) (t + 1 + 1) t2 (t2 + 1) L S tS C' tC (knows S C' L U) ids) ⟨by simp, ?_⟩ (fun i x hx fr σ hJ => out_round hil hx hJ) (fun i hi fr σ hJ => ?_) (fun e fr σ hE => ?_)
    · simp -implicitDefEqProofs (disch := omega) only [go_sem, ↓reduceIte, Nat.reduceEqDiff, allH, List.nil_append, List.cons_append, true_and]
      have ho : outs (knows S C' L U) ids 0 ids.length = (List.replicate ids.length [V.int .i64 0]).flatten := by
        simp only [outs, List.take_zero, List.map_nil, nints, List.nil_append, Nat.sub_zero]
        induction ids.length with
        | zero => rfl
        | succ n ih => rw [List.replicate_succ, List.replicate_succ, List.flatten_cons, ← ih]; rfl
      rw [ho]
      exact ⟨rfl, rfl⟩
    · obtain ⟨hall, f8, f14, f44, f45, f46, rfl⟩ := hJ
      rw [hi, List.take_length] at hall
      refine W_run 1000 ?_
      simp -implicitDefEqProofs (disch := omega) only [go_sem, ↓reduceIte, decide_false, allH, List.nil_append, List.cons_append, f45, f46, hi, Nat.lt_irrefl]
      exact .inr ⟨rfl, hall, by simp -implicitDefEqProofs (disch := omega) only [go_sem, ↓reduceIte, Nat.reduceEqDiff, f14], rfl⟩
    · rcases hE with ⟨rfl, hn, f6, f7, i, rfl⟩ | ⟨rfl, hall, f14, rfl⟩
      · refine run_sem 1000 ?_
        simp -implicitDefEqProofs (disch := omega) only [go_sem, allH, List.nil_append, List.cons_append, true_and, f6, f7]
        exact .inl ⟨hn, t2 + 1, _, by omega, rfl⟩
      · refine run_sem 1000 ?_
        simp -implicitDefEqProofs (disch := omega) only [go_sem, ↓reduceIte, Nat.reduceEqDiff, allH, List.nil_append, List.cons_append, f14]
        exact .inr ⟨t2, t2 + 1, t, t + 1, t + 1 + 1, by omega, rfl, hall, rfl, rfl⟩
end Go.Proofs.YtfligilbnpcnaaaGreatDoor

