/- Contracts: Short. -/
import Derived.Test.YtingdebioipemaaCw13
import Derived.Test.YtingdebioipemaaShI
import Derived.Test.YtingdebioipemaaAmD
import Derived.Test.YtingdebioipemaaTabEq
namespace Go.Proofs.Ytingdebioipemaa
open Go Go.Am Go.Cl
set_option maxRecDepth 100000
variable {G : Nat → Option V}

abbrev shN (t : Nat) (v : Int) (F p : List (List Int)) : AE → Fr → H → Prop := fun e fr σ => e = .nrm ∧ fget fr 6 = .ptr 2 (t + 2) 0 ∧ fget fr 9 = .ptr 3 (t + 3) 0 ∧ fget fr 34 = .fn (.func n_rup_back_S1) [] [.ptr 4 (t + 4) 0] ∧
  σ = ⟨t + 5, shG t v F (p.map row) p.length ++ [some (.arr (t + 4) 3 [.int .i64 p.length])]⟩
theorem sh_back (hT : TabOk Try.prog tab) (t : Nat) (v : Int) (F p : List (List Int)) {fr : Fr} (f1 : fget fr 1 = .lst 1 (p.map row) false) (f6 : fget fr 6 = .ptr 2 (t + 2) 0) (f9 : fget fr 9 = .ptr 3 (t + 3) 0) :
    sem Try.prog G 46 0 (shN t v F p) [.ac (AC.reg rup_Short_r10 [32, 33])] .nrm fr ⟨t + 4, shG t v F (p.map row) p.length⟩ := by
  refine sem_slots [(6, .ptr 2 (t + 2) 0), (9, .ptr 3 (t + 3) 0), (1, .lst 1 (p.map row) false)] ⟨f6, f9, f1, trivial⟩ (run_sem 1000 ?_)
  simp -implicitDefEqProofs (disch := omega) only [go_sem, ↓reduceIte, Nat.reduceEqDiff, rup_Short_r10, List.length_map]
  refine call hT t_rup_back (c_back hT p.length) 1000 fun u σ hu => ?_
  obtain ⟨rfl, rfl⟩ := hu
  simp -implicitDefEqProofs (disch := omega) only [go_sem, ↓reduceIte, Nat.reduceEqDiff]
  exact ⟨rfl, rfl, rfl, rfl, rfl⟩

abbrev shR (t : Nat) (v : Int) (F p : List (List Int)) : V → H → Prop := fun u σ => (checkS v F p = false ∧ u = .tup [.lst 0 [] true, .bool false]) ∨
  (checkS v F p = true ∧ ∃ t' ys, namelessL ys = true ∧ u = .tup [.sl 1 (t + 1) 0 1 (shortS v F (p.length - 1) p).length none, .bool true] ∧
    σ = ⟨t', shG t v F ((shortS v F (p.length - 1) p).map row ++ ys) (shortS v F (p.length - 1) p).length ++ [some (.arr (t + 4) 3 [.int .i64 p.length])]⟩)
theorem check_pos {v : Int} {F p : List (List Int)} (h : checkS v F p = true) : 1 ≤ p.length := by
  cases p with
  | nil => simp [checkS] at h
  | cons c p => simp
set_option maxHeartbeats 2000000 in
theorem c_Short_raw (hT : TabOk Try.prog tab) (t : Nat) (v : Int) (F p : List (List Int)) (hF : F.length + p.length ≤ 1000) (hc : ∀ c ∈ F, c.length ≤ 1000) (hp : ∀ c ∈ p, c.length ≤ 1000) (hb : ∀ c ∈ p, ∀ n ∈ c, -9223372036854775808 ≤ n ∧ n ≤ 9223372036854775807) :
    C Try.prog G 0 n_rup_Short [fml v F, rows p] ⟨t, []⟩ (shR t v F p) := by
  have hr2 : Try.f11.results = #[.tmp 4, .tmp 5] := rfl
  have hnt : Try.f11.ntmps = 46 := rfl
  refine C_marks Try.func11 rfl (by rw [hnt]; simp) fun I ρ w a hR hF' hb' => ?_
  rw [hnt] at hF'
  refine wp_sems (xs := [_, _, _, _, _]) (l := shP) (n := 46) (M := fun _ => false) (dd := d_rup_Short) (by kernel_rfl) (sh_pre hT t v F p hF hc hp hb) hR hF' hb' (fun I1 ρ1 fr1 σ1 a1 w1 q1 q2 q3 q4 q5 => ?_) (fun e I1 ρ1 fr1 σ1 a1 w1 he q1 q2 q3 q4 q5 => ?_)
  · rcases q5 with ⟨h, _⟩ | ⟨_, hck, f1, f6, f9, rfl⟩
    · cases h
    have hpos := check_pos hck
    refine wp_seq ?_
    refine wp_sems (xs := [_]) (l := [.ac (AC.reg rup_Short_r10 [32, 33])]) (n := 46) (M := fun _ => false) (dd := d_rup_Short) (by kernel_rfl) (sh_back hT t v F p f1 f6 f9) q1 q2 q4 (fun I2 ρ2 fr2 σ2 a2 w2 r1 r2 r3 r4 r5 => ?_) (fun e I2 ρ2 fr2 σ2 a2 w2 he r1 r2 r3 r4 r5 => absurd r5.1 he)
    obtain ⟨_, g6, g9, g34, rfl⟩ := r5
    refine wp_block ?_
    have hg : arg G fr2 (compArg (.tmp 34)) = .fn (.func n_rup_back_S1) [] [.ptr 4 (t + 4) 0] := g34
    refine wp_range (g := .tmp 34) (ps := #[35]) (fr := fr2) (n := 46) (base := 0) (M := fun _ => false) (dd := d_rup_Short) (ca := rup_Short_g0a) (cb := rup_Short_g0b) (by kernel_rfl) (by kernel_rfl) (by kernel_rfl) (by kernel_rfl) (fun q hq => by simp at hq; subst hq; decide) hg (enters_of Try.func48 (by kernel_rfl) rfl)
      (p.length - 1) (fun k => [.int .i64 ((p.length - 2 - k : Nat) : Int)]) (fun k => #[.int .i64 ((p.length - 2 - k : Nat) : Int)]) (fun k I ρ => ?_) (fun k => rfl) (rjJ t v F p)
      (fun lb W => ∃ b o, lb = #[.pointer (some ⟨b, o, none⟩)] ∧ W.cell? ⟨b, o, none⟩ = some (.int .i64 p.length)) (fun k σ I ρ W lb hJ hR hC => ?_) (fun lb m l JJ W hBF hY h0 => ?_) ?_ (fun k σ hk hJ => rj_round hT hF hc hp hb hk g6 g9 hJ) r1 r2 r4 (fun σ I' ρ' W' D hJ s1 s2 s3 s4 hDs hD => ?_)
    · exact ⟨rfl, fun j v x h1 h2 => by
        match j, h1, h2 with
        | 0, h1, h2 => cases h1; cases h2; exact .int _ _ _
        | n + 1, h1, h2 => simp at h1⟩
    · obtain ⟨t', R, ys, _, _, _, _, _, _, _, rfl⟩ := hJ
      have hl1 : lb.size = 1 := hC.1.symm
      obtain ⟨q, rfl⟩ : ∃ q, lb = #[q] := ⟨lb[0], by
        apply Array.ext
        · simp [hl1]
        · intro j h1 h2
          have : j = 0 := by omega
          subst this; rfl⟩
      obtain ⟨b, o, x, rfl, h1, h2⟩ := cell_of hR (k := 4) (j := 0) (cs := [.int .i64 p.length]) rfl rfl (hC.2 0 _ q rfl rfl)
      cases h2
      exact ⟨b, o, rfl, h1⟩
    · obtain ⟨b, o, rfl, hcell⟩ := hBF 0 W h0
      exact back_iter p.length hpos (by omega) b o m l JJ W (fun k W h => by
        obtain ⟨b', o', e, hh⟩ := hBF k W h
        simp at e
        obtain ⟨rfl, rfl⟩ := e
        exact hh) hY h0
    · exact ⟨t + 5, p, [], by omega, by omega, by rw [Nat.sub_zero], by omega, Nat.le_refl _, fun c h => h, rfl, by rw [List.append_nil]⟩
    · obtain ⟨t', R, ys, _, _, h3, _, _, _, h7, rfl⟩ := hJ
      rw [Nat.sub_self, shortS] at h3
      obtain ⟨b, o, x, hx1, hx2, hx3⟩ := cell_of s1 (k := 2) (j := 0) (cs := [.sl 1 (t + 1) 0 1 R.length none]) rfl rfl (g6 ▸ s3.vals 6)
      have hsz := s3.size
      have hlit := lit_of a2.tmps
      rw [hsz] at hlit
      have hdf := s3.defers
      generalize (fun j => a2.tmps.getD j undef) = f at hlit
      have hlit2 : a2.tmps = #[f 0, f 1, f 2, f 3, f 4, f 5, f 6, f 7, f 8, f 9, f 10, f 11, f 12, f 13, f 14, f 15, f 16, f 17, f 18, f 19, f 20, f 21, f 22, f 23, f 24, f 25, f 26, f 27, f 28, f 29, f 30, f 31, f 32, f 33, f 34, f 35, f 36, f 37, f 38, f 39, f 40, f 41, f 42, f 43, f 44, f 45] := hlit.trans rfl
      have hf6 : f 6 = .pointer (some ⟨b, o, none⟩) := by rw [← hx1, hlit2]; rfl
      clear s3 hsz hlit hx1
      obtain ⟨T, ds⟩ := a2
      simp only at hlit2 hdf
      subst hlit2 hdf
      show (Code.seq _ Code.ret).wp Try.prog _ _ W'
      rw [hf6]
      go_wp2
      have z1 := q3.size
      have z2 := r3.size
      exact ⟨.inr rfl, I', ρ', _, s1, q3.trans (r3.trans s2), s4, .inr ⟨D, by omega, rfl, hD⟩, .tup [.sl 1 (t + 1) 0 1 R.length none, .bool true], .tuple #[x, .bool true], VR_two hx3 (.bool _ _), fun W => results_two hr2 _ W, .inr ⟨hck, t', ys, h7, by rw [h3], by rw [h3]⟩⟩
  · rcases q5 with ⟨rfl, h1, h4, h5⟩ | ⟨rfl, _⟩
    · refine ⟨.inr rfl, I1, ρ1, σ1, q1, q3, q4, .inl q2.defers, .tup [.lst 0 [] true, .bool false], _, VR_two (h4 ▸ q2.vals 4) (h5 ▸ q2.vals 5), results_two hr2 a1.tmps, .inl ⟨h1, rfl⟩⟩
    · exact absurd rfl he
theorem nameless_rows : ∀ R : List (List Int), namelessL (R.map row) = true
  | [] => rfl
  | _ :: R => by simpa [row, namelessL, nameless, nameless_ints] using nameless_rows R
theorem namelessL_app : ∀ {l m : List V}, namelessL l = true → namelessL m = true → namelessL (l ++ m) = true
  | [], m, _, h => h
  | v :: l, m, h1, h2 => by
    simp only [namelessL, List.cons_append, Bool.and_eq_true] at h1 ⊢
    exact ⟨h1.1, namelessL_app h1.2 h2⟩
theorem c_Short (hT : TabOk Try.prog tab) (v : Int) (F p : List (List Int)) (hF : F.length + p.length ≤ 1000) (hc : ∀ c ∈ F, c.length ≤ 1000) (hp : ∀ c ∈ p, c.length ≤ 1000) (hb : ∀ c ∈ p, ∀ n ∈ c, -9223372036854775808 ≤ n ∧ n ≤ 9223372036854775807) :
    Pure Try.prog G n_rup_Short [fml v F, rows p] fun u => u = .tup [rows (short v F p).1, .bool (short v F p).2] := fun t => by
  have h0 := C_res (Q2 := fun u σ => (checkS v F p = false ∧ u = .tup [.lst 1 [] false, .bool false]) ∨ (checkS v F p = true ∧ shR t v F p u σ)) (c_Short_raw (G := G) hT t v F p hF hc hp hb) fun u σ hu => by
    rcases hu with ⟨h, rfl⟩ | ⟨h, hh⟩
    · exact ⟨_, .tup _ _ (.cons _ _ _ _ (.lst 0 1 [] [] true .nil (.inl rfl)) (.cons _ _ _ _ (.refl _) .nil)), .inl ⟨h, rfl⟩⟩
    · exact ⟨u, .refl _, .inr ⟨h, .inr ⟨h, hh⟩⟩⟩
  refine C_freezeO h0 fun u σ hu => ?_
  rcases hu with ⟨h, rfl⟩ | ⟨h, hu⟩
  · exact .inl ⟨by simp [nameless, namelessL], by simp [short, h, rows]⟩
  · rcases hu with ⟨h', _⟩ | ⟨_, t', ys, hys, rfl, rfl⟩
    · rw [h] at h'; cases h'
    · refine .inr ⟨1, t + 1, 25, _, Nat.zero_le _, rfl, namelessL_app (nameless_rows _) hys, ?_⟩
      have e := take_rows (R := shortS v F (p.length - 1) p) ys
      have hn := nameless_rows (shortS v F (p.length - 1) p)
      simp [frzV, frzL, rowsV, e, short, h, rows, nameless, namelessL]
end Go.Proofs.Ytingdebioipemaa
