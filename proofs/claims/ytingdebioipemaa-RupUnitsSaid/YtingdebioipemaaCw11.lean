/- Contracts: a row of rows copied and struck; what is asked of a row left out. -/
import Derived.Test.YtingdebioipemaaCw10
import Derived.Test.YtingdebioipemaaShE
import Derived.Test.YtingdebioipemaaAmD
namespace Go.Proofs.Ytingdebioipemaa
open Go Go.Am Go.Cl
set_option maxRecDepth 100000
variable {G : Nat → Option V}

theorem take_rows {R : List (List Int)} (ys : List V) : (R.map row ++ ys).take R.length = R.map row := by
  rw [List.take_append_of_le_length (by simp), List.take_of_length_le (by simp)]
theorem c_CloneO {P : Program} (hT : TabOk P tab) {base t k w T : Nat} {o : List (Option Ob)} {R : List (List Int)} {ys : List V} (hl : R.length ≤ 1000000) (h0 : 0 < R.length) (ho : o[k]? = some (some (.arr w T (R.map row ++ ys)))) :
    C P G base n_slices_Clone_int_int_29 [.sl k w 0 1 R.length none] ⟨t, o⟩ fun v σ => ∃ t' w, t ≤ t' ∧ v = .sl o.length w 0 1 R.length none ∧ σ = ⟨t', o ++ [some (.arr w 25 (R.map row))]⟩ := by
  have hfl := rows_flat R
  have htk := take_rows (R := R) ys
  have h1 : ¬ R.length = 0 := by omega
  refine C_tab hT t_slices_Clone_int_int_29 (by simp [slices_Clone_int_int_29]) (W_run 1000 ?_)
  simp -implicitDefEqProofs (disch := omega) only [go_sem, need_of, ↓reduceIte, reduceCtorEq, Nat.reduceEqDiff, Nat.zero_add, Nat.mul_one, Bool.not_false, slices_Clone_int_int_29, slices_Clone_int_int_29_r0, slices_Clone_int_int_29_r1, slices_Clone_int_int_29_r2, slices_Clone_int_int_29_r3, htk, List.length_map, List.length_append, ho, h0, h1]
  exact ⟨⟨t + 1, t, by omega, rfl, rfl, rfl⟩, fun h => h.elim⟩
theorem seen_rows' {o : List (Option Ob)} {k w T : Nat} {R : List (List Int)} {ys : List V} (h : o[k]? = some (some (.arr w T (R.map row ++ ys)))) : Seen o (.sl k w 0 1 R.length none) (.lst 1 (R.map row) false) := by
  have := Seen.row (o := o) k w 0 1 none T (R.map row ++ ys) (R.map row) h (fun j u hj => ?_) (fun _ => rfl)
  · rwa [List.length_map] at this
  · have hlt := (List.getElem?_eq_some_iff.1 hj).1
    have hj' := hj
    simp only [List.getElem?_map, Option.map_eq_some_iff] at hj
    obtain ⟨c, hc, rfl⟩ := hj
    refine ⟨rfl, fun i d hd => ?_⟩
    cases i with
    | zero =>
      simp [row, V.cells] at hd; subst hd
      refine ⟨?_, by simp [nameless]⟩
      rw [show 0 + j * 1 + 0 = j by omega, List.getElem?_append_left hlt]
      simpa [row] using hj'
    | succ i => simp [row, V.cells] at hd
theorem drop_map {R : List (List Int)} (i : Nat) : (R.map row).take i ++ (R.map row).drop (i + 1) = (dropAt R i).map row := by
  simp [dropAt, List.map_append, List.map_take, List.map_drop]
theorem c_Del {base t k w T i : Nat} {o : List (Option Ob)} {R : List (List Int)} {ys : List V} (hk : base ≤ k) (ho : o[k]? = some (some (.arr w T (R.map row ++ ys)))) (hi : i + 1 < R.length) (hl : R.length ≤ 1000) :
    C Try.prog G base n_slices_Delete_int_int [.sl k w 0 1 R.length none, .int .i64 i, .int .i64 ((i : Int) + 1)] ⟨t, o⟩ fun r σ' => r = .sl k w 0 1 (R.length - 1) none ∧ σ' = ⟨t, o.set k (some (.arr w T ((dropAt R i).map row ++ V.lst 0 [] true :: ys)))⟩ := by
  have h := C_strike (P := Try.prog) (G := G) (f := n_slices_Delete_int_int) (base := base) (t := t) (i := i) (xs := R.map row) (ys := ys) (z := .lst 0 [] true) (zr := ⟨.slice none 0 0, rfl⟩) hk ho (by simpa using hi) (fun I ρ => .lstN _ _ _ _ _ (fun _ => rfl))
    (fun blk off cap d w hH hs hc => w_del (fun x : One => x.1) (fun x => x.2) ⟨.slice none 0 0, rfl⟩ Try.zeroValue25 ((Try.prog.info? 25).get (by kernel_rfl)) (by kernel_rfl) (by kernel_rfl) blk off cap i d w hH hc (by simp at hs; omega) (by simp at hs; omega))
  rw [drop_map, List.length_map] at h
  exact h
set_option maxHeartbeats 1000000 in
theorem k_Short_S1 (hT : TabOk Try.prog tab) {base kf tf Tf ko to To kr w T t i : Nat} {o : List (Option Ob)} {v : Int} {F R : List (List Int)} {ys : List V} (hb : base ≤ o.length)
    (h1 : o[kf]? = some (some (.arr tf Tf [.int .i64 v, .lst 1 (F.map row) false]))) (h2 : o[ko]? = some (some (.arr to To [.sl kr w 0 1 R.length none]))) (h3 : o[kr]? = some (some (.arr w T (R.map row ++ ys)))) (hi : i + 1 < R.length)
    (hF : F.length + R.length ≤ 1000) (hc : ∀ c ∈ F, c.length ≤ 1000) (hp : ∀ c ∈ R, c.length ≤ 1000) (hbd : ∀ c ∈ R, ∀ n ∈ c, -9223372036854775808 ≤ n ∧ n ≤ 9223372036854775807) :
    CV Try.prog G base (.fn (.func n_rup_Short_S1) [] [.ptr kf tf 0, .ptr ko to 0]) [.int .i64 i] ⟨t, o⟩ fun u σ => u = .bool (!checkS v F (dropAt R i)) ∧ ∃ t', t ≤ t' ∧ σ = ⟨t', o⟩ := by
  have e2 : IntKind.i64.wrap ((i : Int) + 1) = (i : Int) + 1 := by rw [IntKind.wrap_i64]; omega
  have dl : (dropAt R i).length = R.length - 1 := by simp [dropAt]; omega
  have dm : ∀ c ∈ dropAt R i, c ∈ R := fun c h => by
    simp only [dropAt, List.mem_append] at h
    rcases h with h | h
    · exact List.mem_of_mem_take h
    · exact List.mem_of_mem_drop h
  have hCk := c_Check (G := G) hT v F (dropAt R i) (by omega) hc (fun c h => hp c (dm c h)) (fun c h => hbd c (dm c h))
  simp only [fml, rows] at hCk
  have g1 : ∀ x, (o ++ [x])[kf]? = some (some (.arr tf Tf [.int .i64 v, .lst 1 (F.map row) false])) := fun x => by
    rw [List.getElem?_append_left (List.getElem?_eq_some_iff.1 h1).1]; exact h1
  have sv : ∀ w T, Seen (o ++ [some (.arr w T ((dropAt R i).map row ++ [V.lst 0 [] true]))]) (.sl o.length w 0 1 (R.length - 1) none) (.lst 1 ((dropAt R i).map row) false) := fun w T => by
    rw [← dl]; exact seen_rows' List.getElem?_concat_length
  refine CV.of hT t_rup_Short_S1 (C_keep o.length hb (C_tab hT t_rup_Short_S1 (by simp [rup_Short_S1]) (W_run 1000 ?_)))
  simp -implicitDefEqProofs (disch := omega) only [go_sem, ↓reduceIte, reduceCtorEq, Nat.reduceAdd, Nat.reduceEqDiff, Nat.zero_add, Nat.le_refl, rup_Short_S1, rup_Short_S1_r0, rup_Short_S1_r1, List.length_cons, List.length_nil, h1, h2, e2]
  refine And.intro ?_ ?_
  · refine call hT t_slices_Clone_int_int_29 (c_CloneO hT (by omega) (by omega) h3) 1000 fun u σ hu => ?_
    obtain ⟨t1, w1, ht1, rfl, rfl⟩ := hu
    simp -implicitDefEqProofs (disch := omega) only [go_sem, ↓reduceIte, reduceCtorEq, Nat.reduceEqDiff]
    refine call hT t_slices_Delete_int_int (c_Del (ys := []) hb (by rw [List.getElem?_concat_length, List.append_nil]) hi (by omega)) 1000 fun u σ hu => ?_
    obtain ⟨rfl, rfl⟩ := hu
    simp -implicitDefEqProofs (disch := omega) only [go_sem, ↓reduceIte, reduceCtorEq, Nat.reduceEqDiff, set_snoc]
    refine callView hT t_rup_Check hCk (.cons _ _ _ _ (.same _ (by simp [nameless, namelessL])) (.cons _ _ _ _ (sv _ _) .nil)) rfl 1000 ?_
    simp -implicitDefEqProofs (disch := omega) only [go_sem, ↓reduceIte, reduceCtorEq, Nat.reduceEqDiff]
    exact ⟨by simp, t1, ht1, rfl, List.take_left⟩
  · refine call hT t_slices_Clone_int_int_29 (c_CloneO hT (by omega) (by omega) h3) 1000 fun u σ hu => ?_
    obtain ⟨t1, w1, ht1, rfl, rfl⟩ := hu
    simp -implicitDefEqProofs (disch := omega) only [go_sem, ↓reduceIte, reduceCtorEq, Nat.reduceAdd, Nat.reduceEqDiff, Nat.zero_add, Nat.le_refl, List.length_cons, List.length_nil, g1 _]
    refine And.intro ?_ ?_
    · refine call hT t_slices_Delete_int_int (c_Del (ys := []) hb (by rw [List.getElem?_concat_length, List.append_nil]) hi (by omega)) 1000 fun u σ hu => ?_
      obtain ⟨rfl, rfl⟩ := hu
      simp -implicitDefEqProofs (disch := omega) only [go_sem, ↓reduceIte, reduceCtorEq, Nat.reduceEqDiff, set_snoc]
      refine callView hT t_rup_Check hCk (.cons _ _ _ _ (.same _ (by simp [nameless, namelessL])) (.cons _ _ _ _ (sv _ _) .nil)) rfl 1000 ?_
      simp -implicitDefEqProofs (disch := omega) only [go_sem, ↓reduceIte, reduceCtorEq, Nat.reduceEqDiff]
      exact ⟨by simp, t1, ht1, rfl, List.take_left⟩
    · refine call hT t_slices_Delete_int_int (c_Del (ys := []) hb (by rw [List.getElem?_concat_length, List.append_nil]) hi (by omega)) 1000 fun u σ hu => ?_
      obtain ⟨rfl, rfl⟩ := hu
      simp -implicitDefEqProofs (disch := omega) only [go_sem, ↓reduceIte, reduceCtorEq, Nat.reduceAdd, Nat.reduceEqDiff, Nat.zero_add, Nat.le_refl, List.length_cons, List.length_nil, g1 _, set_snoc]
      refine callView hT t_rup_Check hCk (.cons _ _ _ _ (.same _ (by simp [nameless, namelessL])) (.cons _ _ _ _ (sv _ _) .nil)) rfl 1000 ?_
      simp -implicitDefEqProofs (disch := omega) only [go_sem, ↓reduceIte, reduceCtorEq, Nat.reduceEqDiff]
      exact ⟨by simp, t1, ht1, rfl, List.take_left⟩
end Go.Proofs.Ytingdebioipemaa
