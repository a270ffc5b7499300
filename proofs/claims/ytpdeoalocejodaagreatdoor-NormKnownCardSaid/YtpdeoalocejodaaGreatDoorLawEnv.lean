/- What the laws ValueNeeded and ValueBehind share: the arguments as they read. -/
import Derived.Test.YtpdeoalocejodaaGreatDoorArgs
import Derived.Test.YtpdeoalocejodaaGreatDoorJ3
import Derived.Test.YtpdeoalocejodaaGreatDoorJ2
import Derived.Test.YtpdeoalocejodaaGreatDoorShelf2
namespace Go.Proofs.YtpdeoalocejodaaGreatDoor
open Go Go.Am
set_option maxRecDepth 100000
theorem SO0 : ZG Tryz.prog := ⟨fun blk off cap zs w h1 h2 h3 => Tryz.slices_Sort_ids blk off cap zs w h1 h2 h3, fun p cap w => Tryz.slices_Sort_ids_none p cap w⟩
theorem agg22 : Qlg Tryz.prog 22 = false := by kernel_rfl
theorem agg48 : Qlg Tryz.prog 48 = true := by kernel_rfl
theorem agg69 : Qlg Tryz.prog 69 = true := by kernel_rfl
theorem agg35 : Qlg Tryz.prog 35 = false := by kernel_rfl
theorem agg2 : Qlg Tryz.prog 2 = false := by kernel_rfl
theorem QGW : Tryz.prog.cellsOf 69 = 4 := by kernel_rfl
theorem cells2 : Tryz.prog.cellsOf 2 = 1 := by kernel_rfl
theorem num_of {n : Nat} {l : List V} (h : VT Tryz.prog (n + 1) 2 l) : ∃ x : Int, l = [.int .i64 x] ∧ i64 x := by
 simp only [VT, Tryz.underlying2] at h
 obtain ⟨x, rfl, hx⟩ := h
 exact ⟨x, rfl, wf_i64 hx⟩
theorem QGd {n : Nat} {l : List V} (h : VT Tryz.prog (n + 2) 35 l) : ∃ ds : List Int, l = [.lst 1 (Q7 ds) false] ∧ ∀ x ∈ ds, i64 x := by
 rw [VT] at h
 simp only [Tryz.underlying35] at h
 obtain ⟨q, rfl, _, hq⟩ := h
 obtain ⟨ds, rfl, hd⟩ := Qmn fun x hx => num_of (hq x hx)
 refine ⟨ds, ?_, hd⟩
 simp [cells2, agg2, toV, Q7]
def Qxe (c : Cl) : List V := [.int .i64 c.arr, .int .i64 c.ver, .int .i64 c.at', .int .i64 c.n]
theorem cl_of {n : Nat} {l : List V} (h : VT Tryz.prog (n + 2) 69 l) : ∃ c : Cl, l = Qxe c ∧ i64 c.n := by
 simp only [VT, Tryz.underlying69, VTs, Tryz.underlying2] at h
 obtain ⟨_, _, rfl, ⟨a, rfl, _⟩, _, _, rfl, ⟨v, rfl, _⟩, _, _, rfl, ⟨x, rfl, _⟩, _, _, rfl, ⟨n, rfl, hn⟩, rfl⟩ := h
 exact ⟨⟨a, v, x, n⟩, rfl, wf_i64 hn⟩
theorem cls_of {n : Nat} {l : List V} (h : VT Tryz.prog (n + 3) 46 l) : ∃ ds : List Cl, l = [.lst 4 (ds.map Cl.v) false] ∧ ∀ c ∈ ds, i64 c.n := by
 rw [VT] at h
 simp only [Tryz.underlying46] at h
 obtain ⟨q, rfl, _, hq⟩ := h
 obtain ⟨ds, rfl, hd⟩ := Qmn fun x hx => cl_of (hq x hx)
 refine ⟨ds, ?_, hd⟩
 simp [QGW, agg69, toV, Cl.v, Qxe]
theorem env_of {n : Nat} {l : List V} (h : VT Tryz.prog (n + 4) 48 l) : ∃ (S : List Int) (C : List Cl), l = [.lst 1 (Q7 S) false, .lst 4 (C.map Cl.v) false] ∧ (∀ x ∈ S, i64 x) ∧ ∀ c ∈ C, i64 c.n := by
 rw [VT] at h
 simp only [Tryz.underlying48, VTs] at h
 obtain ⟨_, _, rfl, h1, _, _, rfl, h2, rfl⟩ := h
 obtain ⟨S, rfl, hS⟩ := QGd (n := n + 1) h1
 obtain ⟨C, rfl, hC⟩ := cls_of (n := n) h2
 exact ⟨S, C, rfl, hS, hC⟩
end Go.Proofs.YtpdeoalocejodaaGreatDoor
