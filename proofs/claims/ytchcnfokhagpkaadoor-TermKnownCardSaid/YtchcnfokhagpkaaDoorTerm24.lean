/- A row that stays is handed to a call; calls on no graph. -/
import Derived.Test.YtchcnfokhagpkaaDoorTerm23
import Derived.Test.YtchcnfokhagpkaaDoorTerm5
import Derived.Test.YtchcnfokhagpkaaDoorTW
namespace Go.Am
open Go
variable {P : Program} {G : Nat → Option V}
/-- A row of ours stays as it is from a call on that reads it. -/
theorem C_frz {base k v T f : Nat} {cs args : List V} {σ : H} {Q : V → H → Prop} (hbase : base ≤ k) (ho : σ.o[k]? = some (some (.arr v T cs))) (hn : namelessL cs = true)
    (h : C P G base f (args.map (frzV k v cs)) ⟨σ.t, mapFrom (frzV k v cs) base (σ.o.set k none)⟩ Q) : C P G base f args σ Q := by
  intro I ρ w xs hR hb hc
  obtain ⟨I2, hle, k1, k2, k3⟩ := hR.freeze hbase ho hn
  have hcs : ∀ u ∈ cs, u.cells = [u] := fun u hu => by
    obtain ⟨j, hj⟩ := List.mem_iff_getElem?.1 hu
    rcases hR.objs k _ ho with ⟨_, h0⟩ | ⟨b, o, e, c, lo, hi, _, _, _, _, _, g⟩
    · rw [h0] at hu; cases hu
    · obtain ⟨x, g1, g2, g3⟩ := g j u hj
      cases g2 <;> first | rfl | (simp [one, Value.oneCell'] at g3; done)
  have hF : FrzAt I2 ρ k v cs := ⟨hcs, k3⟩
  obtain ⟨q1, q2⟩ := Rel.mapV (base := base) k1 (g := frzV k v cs) (fun u x hu => hu.frz hF)
  refine (h I2 ρ w xs q1 (by rw [mapFrom_length]; simpa using hb) ⟨by rw [List.length_map]; exact hc.1, fun j u x h1 h2 => ?_⟩).mono fun e w' ⟨v, x, I', ρ', σ', h1, h2, h3, h4, h5, h6⟩ => ⟨v, x, I', ρ', σ', h1, h2, h3, (k2.trans q2).trans h4, h5, h6⟩
  rw [List.getElem?_map, Option.map_eq_some_iff] at h1
  obtain ⟨u0, h1, rfl⟩ := h1
  exact VR.frz hF ((hc.2 j u0 x h1 h2).mono hle (Names.le.refl _))

/-- Calls: a row of ours is handed over, and stays as it is. -/
theorem callFrz {T : Nat → Option AF} (hT : TabOk P T) {f : Nat} {A : AF} (hf : T f = some A) {n base : Nat} {Q : AE → Fr → H → Prop} {t : AT} {d : Option Nat} {dead : List Nat} {s : List KI} {fr : Fr} {args args' : List V} {c : Nat} {o o' : List (Option Ob)} {v0 : V} {k v T' : Nat} {cs : List V}
    (h : Pure P G f args' fun v => v = v0) (hn' : namelessL args' = true) (hbase : base ≤ k) (ho : o[k]? = some (some (.arr v T' cs))) (hn : namelessL cs = true) (ha : args.map (frzV k v cs) = args') (ho' : mapFrom (frzV k v cs) base (o.set k none) = o') (fuel : Nat)
    (kk : run P G n base Q fuel (.at t dead :: s) .nrm (fput fr d v0) ⟨c, o'⟩) : CV P G base (.fn (.func f) [] []) args ⟨c, o⟩ (kC P G n base Q d t dead s fr) :=
  call hT hf (C_frz (σ := ⟨c, o⟩) (Q := fun v σ => v = v0 ∧ σ = ⟨c, o'⟩) hbase ho hn (by
    rw [ha]
    exact C_pure h hn' fun u hu => ⟨hu, by rw [← ho']⟩)) fuel fun u σ hv => by
    rw [hv.1, hv.2]; exact kk

mutual
theorem frzV_nl {k v : Nat} {cs : List V} : ∀ u : V, nameless u = true → frzV k v cs u = u
  | .any, _ => by rw [frzV] <;> simp
  | .int .., _ => by rw [frzV] <;> simp
  | .bool .., _ => by rw [frzV] <;> simp
  | .str .., _ => by rw [frzV] <;> simp
  | .val .., _ => by rw [frzV] <;> simp
  | .agg l, hu => by rw [frzV, frzL_nl l (by simpa [nameless] using hu)]
  | .tup l, hu => by rw [frzV, frzL_nl l (by simpa [nameless] using hu)]
  | .ptr .., hu => by simp [nameless] at hu
  | .ref .., _ => by rw [frzV] <;> simp
  | .sl .., hu => by simp [nameless] at hu
  | .lst .., _ => by rw [frzV] <;> simp
  | .mp .., _ => by rw [frzV] <;> simp
  | .fn f a b, hu => by
    simp only [nameless, Bool.and_eq_true] at hu
    rw [frzV, frzL_nl a hu.1, frzL_nl b hu.2]
  | .iface t x, hu => by rw [frzV, frzV_nl x (by simpa [nameless] using hu)]
theorem frzL_nl {k v : Nat} {cs : List V} : ∀ l : List V, namelessL l = true → frzL k v cs l = l
  | [], _ => by rw [frzL]
  | u :: l, hu => by
    simp only [namelessL, Bool.and_eq_true] at hu
    rw [frzL, frzV_nl u hu.1, frzL_nl l hu.2]
end
end Go.Am

namespace Go.Proofs.YtchcnfokhagpkaaDoor
open Go Go.Am
set_option maxRecDepth 100000
set_option maxHeartbeats 1000000
variable {P : Program} {G : Nat → Option V}

abbrev nilG : V := .val (.pointer none)
def isI (n : Int) : V → Bool
  | .int .i64 m => m == n
  | _ => false
theorem isI_ok (n : Int) (v : V) (h : isI n v = true) : nameless v = true ∧ v = .int .i64 n := by
  unfold isI at h
  split at h
  · simp at h; subst h; exact ⟨rfl, rfl⟩
  · cases h
def isE : V → Bool
  | .str [] => true
  | _ => false
theorem isE_ok (v : V) (h : isE v = true) : nameless v = true ∧ v = .str [] := by
  unfold isE at h
  split at h
  · exact ⟨rfl, rfl⟩
  · cases h
def isN : V → Bool
  | .tup [.agg [.int .u8 0, .int .i64 0, .int .i64 0, .int .u8 0, .int .i64 0, .int .i64 0], .bool false] => true
  | _ => false
theorem isN_ok (v : V) (h : isN v = true) : nameless v = true ∧ v = .tup [.agg zeroNd.cells, .bool false] := by
  unfold isN at h
  split at h
  · exact ⟨rfl, rfl⟩
  · cases h
def isL : V → Bool
  | .lst 0 [] true => true
  | _ => false
theorem isL_ok (v : V) (h : isL v = true) : nameless v = true ∧ v = .lst 0 [] true := by
  unfold isL at h
  split at h
  · exact ⟨rfl, rfl⟩
  · cases h
theorem n_Size (hT : TabOk P tab) : Pure P G n_term_Graph_Size [nilG] fun v => v = .int .i64 0 := run_pure hT 60 20 _ (isI 0) (isI_ok 0) rfl (by kernel_rfl)
theorem n_Deep (hT : TabOk P tab) : Pure P G n_term_Graph_Deep [nilG, .int .i64 0] fun v => v = .int .i64 0 := run_pure hT 60 20 _ (isI 0) (isI_ok 0) rfl (by kernel_rfl)
theorem n_Text (hT : TabOk P tab) : Pure P G n_term_Graph_Text [nilG, .int .i64 0] fun v => v = .str [] := run_pure hT 60 20 _ isE isE_ok rfl (by kernel_rfl)
theorem n_Node (hT : TabOk P tab) : Pure P G n_term_Graph_Node [nilG, .int .i64 0] fun v => v = .tup [.agg zeroNd.cells, .bool false] := run_pure hT 60 20 _ isN isN_ok rfl (by kernel_rfl)
theorem n_Add (hT : TabOk P tab) : Pure P G n_term_Graph_Add [nilG, .agg [.int .u8 2, .int .i64 0, .int .i64 0, .int .u8 0, .int .i64 0, .int .i64 0]] fun v => v = .int .i64 (-1) := run_pure hT 60 20 _ (isI (-1)) (isI_ok (-1)) rfl (by kernel_rfl)
theorem n_Uses (hT : TabOk P tab) : Pure P G n_term_Graph_Uses [nilG, .lst 1 [.int .i64 0] true] fun v => v = .lst 0 [] true := run_pure hT 60 20 _ isL isL_ok rfl (by kernel_rfl)
end Go.Proofs.YtchcnfokhagpkaaDoor
