/- Contracts: Solve. -/
import Derived.Test.YtpepmhmgfpkdmaaSw18
import Derived.Test.YtpepmhmgfpkdmaaCw1
namespace Go.Proofs.Ytpepmhmgfpkdmaa
open Go Go.Am Go.Cl Go.Sat
set_option maxRecDepth 100000
variable {G : Nat → Option V}

theorem begin_false : ∀ {F : List (List Int)} {s s' : S} {b : Bool}, S.begin F s = some (s', some b) → b = false
  | [], s, s', b, h => by cases h
  | c :: F, s, s', b, h => by
    by_cases g : (cleanS c).2 = false
    · rw [begin_bad g] at h; exact begin_false h
    · obtain ⟨q, e⟩ : ∃ q, cleanS c = (q, true) := ⟨(cleanS c).1, Prod.ext rfl (by simpa using g)⟩
      match q, e with
      | [], e => rw [begin_nil e] at h; cases h; rfl
      | [l], e =>
        rw [begin_one e] at h
        split at h
        · cases h; rfl
        · split at h
          · split at h
            · cases h
            · exact begin_false h
          · exact begin_false h
      | x :: y :: r, e => rw [begin_more e (by simp)] at h; exact begin_false h

theorem ansV_nameless (vars fu : Nat) (r : Option (S × Bool)) : nameless (.tup [ansV vars fu r, .int .i64 0]) = true := by
  match r with
  | none => rfl
  | some (s, true) => simp [ansV, nameless, namelessL]
  | some (s, false) =>
    have : namelessL (s.pf.map row) = true := namelessL_of fun u hu => by
      obtain ⟨p, _, rfl⟩ := List.mem_map.1 hu
      rfl
    simp [ansV, nameless, namelessL, rows]

theorem nameless_rows (F : List (List Int)) : namelessL (F.map row) = true := namelessL_of fun u hu => by
  obtain ⟨p, _, rfl⟩ := List.mem_map.1 hu
  rfl
theorem new_bd {vars fu : Nat} (hv : vars ≤ 900) (hfu : fu ≤ 2097152) : Bd fu (vars + 1) (S.new vars fu) :=
  ⟨by omega, by omega, Nat.le_refl _, by show 0 + fu ≤ _; omega, by show 0 + fu ≤ _; omega, fun v => by
    have : (S.new vars fu).he.getD v 0 = 0 := by
      simp only [S.new, List.getD_eq_getElem?_getD, List.getElem?_replicate]
      split <;> rfl
    rw [this]; show 0 + fu ≤ _; omega⟩
theorem new_rw (vars fu : Nat) : RW (S.new vars fu) [] [] [] fun _ => .no := ⟨rfl, fun m c h => by simp [S.new] at h, fun l => .inl ⟨rfl, rfl⟩⟩

theorem c_Solve (hT : TabOk Try.prog tab) (vars : Nat) (F : List (List Int)) (fu : Nat) (hR : right vars F = true) (hv : vars ≤ 900) (hFl : F.length ≤ 1000) (hFc : ∀ c ∈ F, c.length ≤ 1000) (hfu : fu ≤ 2097152) :
    Pure Try.prog G n_sat_Solve [fml vars F, .int .i64 (fu : Int)] fun u => u = .tup [ansV vars fu (solve vars F fu), .int .i64 0] := by
  refine Pure_frz (fun t => show C Try.prog G 0 n_sat_Solve [fml vars F, .int .i64 (fu : Int)] ⟨t, []⟩ (SolQ (.tup [ansV vars fu (solve vars F fu), .int .i64 0])) from ?_) (ansV_nameless _ _ _)
  have hRt := c_Right (P := Try.prog) (G := G) hT vars F (by omega) (fun c h => by have := hFc c h; omega)
  rw [hR] at hRt
  simp only [fml, rows] at hRt ⊢
  have n0 : ¬ (fu : Int) < 0 := by omega
  have n0' : decide ((fu : Int) < 0) = false := decide_eq_false n0
  have e1 : IntKind.i64.wrap ((vars : Int) + 1) = ((vars + 1 : Nat) : Int) := wnext (n := 1000000) (by omega) (by omega)
  refine C_tab hT t_sat_Solve (by simp [sat_Solve]) (W_run 1000 ?_)
  simp -implicitDefEqProofs (disch := omega) only [go_sem, ↓reduceIte, reduceCtorEq, Nat.reduceAdd, Nat.reduceEqDiff, Nat.zero_add, Nat.le_refl, sat_Solve, sat_Solve_r0, sat_Solve_r1, sat_Solve_r2, sat_Solve_r3, sat_Solve_r4, sat_Solve_r5, sat_Solve_r6, sat_Solve_r7, sat_Solve_r8, sat_Solve_r9, sat_Solve_r10, sat_Solve_r11, sat_Solve_r12, sat_Solve_r13, sat_Solve_r14, sat_Solve_r15, sat_Solve_r16, sat_Solve_r17, sat_Solve_r18, sat_Solve_r19, sat_Solve_r20, sat_Solve_r21]
  refine callPS hT t_clause_Right hRt (by simp [namelessL, nameless]) 16 ?_
  simp -implicitDefEqProofs (disch := omega) only [go_sem, ↓reduceIte, reduceCtorEq, Nat.reduceAdd, Nat.reduceEqDiff, Nat.reduceLeDiff, Nat.zero_add, Nat.add_zero, decide_false, Bool.not_true, n0, e1]
  refine cut (AllocJ vars fu _ F) (so_alloc hT (by omega) rfl rfl rfl rfl) fun fr σ hJ => ?_
  obtain ⟨K, wf, wa, t', ht, f1, f2, f4, f7, rfl⟩ := hJ
  generalize hX : some (Ob.arr wf 24 [.int .i64 (vars : Int), .lst 1 (F.map row) false]) = X
  generalize hY : some (Ob.arr wa 32 [.int .u8 0, .lst 0 [] true, .lst 0 [] true, .int .i64 0]) = Y
  have hF : ∀ c ∈ F, ∀ l ∈ c, l ≠ 0 ∧ l.natAbs < vars + 1 := fun c hc l hl => by
    have := (right_iff.1 hR).2 c hc l hl
    exact ⟨this.1, by omega⟩
  have hb := new_bd hv hfu
  have hinv := begin_inv F (S.new vars fu) hF (new_inv vars fu) rfl
  have hbeg : C Try.prog G 0 n_sat_solver_begin [.ptr 2 K.s 0, .agg [.int .i64 (vars : Int), .lst 1 (F.map row) false]] ⟨t', behind [X, Y] (hp K (S.new vars fu) fu t' [] [] [] []).o⟩ fun v σ => ∃ vS σS, BegQ K fu (vars + 1) t' (S.begin F (S.new vars fu)) vS σS ∧ v = V.ren (· + 2) vS ∧ σ = ⟨σS.t, behind [X, Y] σS.o⟩ := by
    have h0 : C Try.prog G 0 n_sat_solver_begin [.ptr 0 K.s 0, fml vars F] ⟨t', (hp K (S.new vars fu) fu t' [] [] [] []).o⟩ fun v σ => BegQ K fu (vars + 1) t' (S.begin F (S.new vars fu)) v σ := (c_begin (G := G) hT (N := vars + 1) (fu := fu) (t := t') (K := K) vars (F := F) (by omega) hF (by omega) hFc (new_inv vars fu) rfl hb (by show 0 + F.length + fu ≤ _; omega) (ps := []) ⟨rfl, fun i p h => by simp [S.new] at h⟩ (by show 0 + 1 + fu ≤ _; omega) (new_rw vars fu))
    have := C_behind [X, Y] h0
    simpa only [renL, V.ren, fml, rows, List.length_cons, List.length_nil, Nat.zero_add, Nat.reduceAdd] using this
  refine W_round [(1, .int .i64 (fu : Int)), (2, .ptr 0 wf 0), (4, .ptr 1 wa 0), (7, .ptr 2 K.s 0)] ⟨f1, f2, f4, f7, trivial⟩  1000 ?_
  simp -implicitDefEqProofs (disch := omega) only [go_sem, ↓reduceIte, reduceCtorEq, Nat.reduceAdd, Nat.reduceEqDiff, Nat.zero_add, Nat.le_refl, behind, ← hX]
  refine CV_heap (σ' := ⟨t', behind [X, Y] (hp K (S.new vars fu) fu t' [] [] [] []).o⟩) (by simp only [behind, hX, List.cons_append, List.nil_append, List.length_cons, List.length_nil, Nat.zero_add, Nat.reduceAdd]) ?_
  refine call hT t_sat_solver_begin hbeg 14 fun v σ hv => ?_
  obtain ⟨vS, σS, hq, rfl, rfl⟩ := hv
  unfold solve
  cases hbg : S.begin F (S.new vars fu) with
  | none =>
    rw [hbg] at hq
    obtain ⟨rfl, s', hcap⟩ := hq
    obtain ⟨ps, K', es2, cs2, r2, t2, hps, ht2, hK, hσ⟩ := hcap.two (x := X) (y := Y)
    rw [hσ]
    simp -implicitDefEqProofs (disch := omega) only [go_sem, ↓reduceIte, Nat.reduceAdd, Nat.reduceEqDiff, Nat.reduceLT, Nat.zero_add, Bool.not_true, V.ren, renL]
    rw [← hX, ← hY]
    exact so_fin hT (r := none) (s := s') (by omega) (fun b h => by cases h) hps (.inl rfl) rfl rfl rfl (by rw [hK]; rfl) rfl
  | some p =>
    rw [hbg] at hq hinv
    obtain ⟨s', k⟩ := p
    cases k with
    | some b =>
      obtain rfl := begin_false hbg
      obtain ⟨rfl, hcap⟩ := hq
      obtain ⟨ps, K', es2, cs2, r2, t2, hps, ht2, hK, hσ⟩ := hcap.two (x := X) (y := Y)
      rw [hσ]
      simp -implicitDefEqProofs (disch := omega) only [go_sem, ↓reduceIte, Nat.reduceAdd, Nat.reduceEqDiff, Nat.reduceLT, Nat.zero_add, Bool.not_true, V.ren, renL]
      rw [← hX, ← hY]
      exact so_fin hT (r := some (s', false)) (s := s') (by omega) (fun b h => hinv.1.nva) hps (.inr ⟨_, rfl⟩) rfl rfl rfl (by rw [hK]; rfl) rfl
    | none =>
      obtain ⟨rfl, hcap, hb'⟩ := hq
      obtain ⟨ps, hps, K2, es, cs, rest, ow, t2, ht2, hK2, hw2, rfl⟩ := hcap
      obtain ⟨hi2, hms2, hlf2⟩ := hinv
      have h1 : C Try.prog G 0 n_sat_solver_run [.ptr 0 K2.s 0] ⟨t2, (hp K2 s' fu t2 es cs ps rest).o⟩ fun v σ => RunQ K2 fu t2 s'.run v σ := c_run (G := G) hT hi2 hb' (by rw [hms2]; have := hb'.lf; simp; omega) hps hw2
      have hrun : C Try.prog G 0 n_sat_solver_run [.ptr 2 K.s 0] ⟨t2, behind [X, Y] (hp K2 s' fu t2 es cs ps rest).o⟩ fun v σ => ∃ vS σS, RunQ K2 fu t2 s'.run vS σS ∧ v = V.ren (· + 2) vS ∧ σ = ⟨σS.t, behind [X, Y] σS.o⟩ := by
        have := C_behind [X, Y] h1
        rw [← hK2]
        simpa only [renL, V.ren, List.length_cons, List.length_nil, Nat.zero_add, Nat.reduceAdd] using this
      have hrin : ∀ r, s'.run = some r → Inv (vars + 1) r.1 := fun r h => runN_inv _ _ hi2 r h
      simp -implicitDefEqProofs (disch := omega) only [go_sem, ↓reduceIte, Nat.reduceAdd, Nat.reduceEqDiff, Nat.reduceLT, Nat.zero_add, Bool.not_false, V.ren, renL]
      refine run_sem 6 ?_
      simp -implicitDefEqProofs (disch := omega) only [go_sem, ↓reduceIte, Nat.reduceEqDiff]
      refine call hT t_sat_solver_run hrun 2 fun v σ hv => ?_
      obtain ⟨vS, σS, hq, rfl, rfl⟩ := hv
      cases hru : s'.run with
      | none =>
        rw [hru] at hq
        obtain ⟨rfl, s2, hcap⟩ := hq
        obtain ⟨ps, K', es2, cs2, r2, t3, hps, ht3, hK, hσ⟩ := hcap.two (x := X) (y := Y)
        rw [hσ]
        simp -implicitDefEqProofs (disch := omega) only [go_sem, ↓reduceIte, Nat.reduceEqDiff, V.ren]
        rw [← hX, ← hY]
        exact so_fin hT (r := none) (s := s2) (by omega) (fun b h => by cases h) hps (.inl rfl) rfl rfl rfl (by rw [hK, hK2]; rfl) rfl
      | some p =>
        obtain ⟨s2, b⟩ := p
        rw [hru] at hq
        have hva := (hrin _ hru).nva
        cases b with
        | true =>
          obtain ⟨rfl, hcap⟩ := hq
          obtain ⟨ps, K', es2, cs2, r2, t3, hps, ht3, hK, hσ⟩ := hcap.two (x := X) (y := Y)
          rw [hσ]
          simp -implicitDefEqProofs (disch := omega) only [go_sem, ↓reduceIte, Nat.reduceEqDiff, V.ren]
          rw [← hX, ← hY]
          exact so_fin hT (r := some (s2, true)) (s := s2) (by omega) (fun b h => hva) hps (.inr ⟨_, rfl⟩) rfl rfl rfl (by rw [hK, hK2]; rfl) rfl
        | false =>
          obtain ⟨rfl, hcap⟩ := hq
          obtain ⟨ps, K', es2, cs2, r2, t3, hps, ht3, hK, hσ⟩ := hcap.two (x := X) (y := Y)
          rw [hσ]
          simp -implicitDefEqProofs (disch := omega) only [go_sem, ↓reduceIte, Nat.reduceEqDiff, V.ren]
          rw [← hX, ← hY]
          exact so_fin hT (r := some (s2, false)) (s := s2) (by omega) (fun b h => hva) hps (.inr ⟨_, rfl⟩) rfl rfl rfl (by rw [hK, hK2]; rfl) rfl
end Go.Proofs.Ytpepmhmgfpkdmaa

