/- The values of terms: the loop of the program's All. -/
import Derived.Test.YtfligilbnpcnaaaDoorWo7
namespace Go.Proofs.YtfligilbnpcnaaaDoor
open Go Go.Am
set_option maxRecDepth 100000
set_option maxHeartbeats 1000000
variable {P : Program} {G : Nat → Option V}

/-- What is known once these terms are. -/
def knows (S : List Int) (C : List Cl) (L : List Nd) (U : List Int) : List (Int × Int) := U.foldl (fun K x => K ++ [(x, oneV S C K (nd L x))]) []
theorem knows_snoc {S : List Int} {C : List Cl} {L : List Nd} {U : List Int} {x : Int} : knows S C L (U ++ [x]) = knows S C L U ++ [(x, oneV S C (knows S C L U) (nd L x))] := by simp [knows]
theorem foldl_keys (S : List Int) (C : List Cl) (L : List Nd) : ∀ (U : List Int) (K : List (Int × Int)), (U.foldl (fun K x => K ++ [(x, oneV S C K (nd L x))]) K).map (·.1) = K.map (·.1) ++ U
  | [], K => by simp
  | x :: U, K => by rw [List.foldl_cons, foldl_keys S C L U]; simp
theorem knows_keys (S : List Int) (C : List Cl) (L : List Nd) (U : List Int) : (knows S C L U).map (·.1) = U := by
  rw [knows, foldl_keys]; simp
theorem mput_kEs {K : List (Int × Int)} {x v : Int} (h : x ∉ K.map (·.1)) : mput [.i] (.int .i64 x) (.int .i64 v) (kEs K) = kEs (K ++ [(x, v)]) := by
  induction K with
  | nil => rfl
  | cons p K ih =>
    simp only [List.map_cons, List.mem_cons, not_or] at h
    simp only [kEs, List.map_cons, List.cons_append, mput, keyEq_int] at ih ⊢
    rw [decide_eq_false h.1]
    simp only [Bool.false_eq_true, if_false]
    rw [ih h.2]
theorem oneV_i64 {S : List Int} {C : List Cl} {K : List (Int × Int)} {d : Nd} (hS : ∀ x ∈ S, i64 x) (hC : ∀ c ∈ C, i64 c.n) (hK : ∀ p ∈ K, i64 p.2) (hd : i64 d.n) : i64 (oneV S C K d) := by
  refine ite_i64 hd (ite_i64 ?_ (ite_i64 ?_ (doW_i64 (kAt_i64 hK _) (kAt_i64 hK _))))
  · unfold symE
    refine ite_i64 (by unfold i64; omega) ?_
    rw [List.getD_eq_getElem?_getD]
    cases h : S[d.n.toNat]? with
    | none => simp [i64]
    | some x => exact hS x (List.mem_of_getElem? h)
  · unfold cellE
    refine ite_i64 (by unfold i64; omega) ?_
    cases h : C[(fstC (isC d.a d.n ((kAt K d.y).getD 0)) C 0).toNat]? with
    | none => simp [i64]
    | some c => exact hC c (List.mem_of_getElem? h)
theorem knows_i64 {S : List Int} {C : List Cl} {L : List Nd} (hS : ∀ x ∈ S, i64 x) (hC : ∀ c ∈ C, i64 c.n) (hL : ∀ x, i64 (nd L x).n) : ∀ (U : List Int) (K : List (Int × Int)), (∀ p ∈ K, i64 p.2) → ∀ p ∈ U.foldl (fun K x => K ++ [(x, oneV S C K (nd L x))]) K, i64 p.2
  | [], K, hK => hK
  | x :: U, K, hK => by
    rw [List.foldl_cons]
    refine knows_i64 hS hC hL U _ fun p hp => ?_
    rcases List.mem_append.1 hp with h | h
    · exact hK p h
    · rw [List.mem_singleton.1 h]
      exact oneV_i64 hS hC hK (hL x)
end Go.Proofs.YtfligilbnpcnaaaDoor

