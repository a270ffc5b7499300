/- The library's sort at this dump, laid by the kit's own tool. -/
import Derived.Shelf.SortG.Plain
import Derived.Shelf.SortG.SortNone
import Derived.Test.YtchcnfokhagpkaaDoorProg
namespace Go.Proofs
open Go.Shelf
def Tryd.laysSort_ren : Go.Shelf.Ren := ⟨fun | 53 => 33 | 64 => 41 | 63 => 40 | 78 => 53 | 79 => 54 | 70 => 44 | 71 => 45 | 72 => 46 | 73 => 47 | 74 => 48 | 75 => 49 | 59 => 50 | 76 => 51 | 77 => 52 | 88 => 59 | 89 => 60 | 90 => 61 | 91 => 62 | 92 => 63 | 68 => 64 | 96 => 69 | n => n, fun | 22 => 43 | 23 => 30 | 3 => 3 | 51 => 79 | 0 => 0 | 67 => 91 | 69 => 93 | 4 => 4 | 61 => 83 | 60 => 82 | 44 => 88 | 5 => 5 | 9 => 9 | 75 => 99 | 79 => 103 | 83 => 109 | 84 => 110 | n => n, fun | n => n⟩
theorem Tryd.laysSort : Go.Proofs.SlLaysN.n53 Tryd.prog Tryd.laysSort_ren := {
  mixed := by kernel_rfl
  f53 := ⟨Tryd.f33.name, by decide, Tryd.func33.trans (congrArg some (by kernel_rfl))⟩
  f59 := ⟨Tryd.f50.name, by decide, Tryd.func50.trans (congrArg some (by kernel_rfl))⟩
  f63 := ⟨Tryd.f40.name, by decide, Tryd.func40.trans (congrArg some (by kernel_rfl))⟩
  f64 := Tryd.func41.trans (congrArg some (by kernel_rfl))
  f68 := ⟨Tryd.f64.name, by decide, Tryd.func64.trans (congrArg some (by kernel_rfl))⟩
  f70 := ⟨Tryd.f44.name, by decide, Tryd.func44.trans (congrArg some (by kernel_rfl))⟩
  f71 := ⟨Tryd.f45.name, by decide, Tryd.func45.trans (congrArg some (by kernel_rfl))⟩
  f72 := ⟨Tryd.f46.name, by decide, Tryd.func46.trans (congrArg some (by kernel_rfl))⟩
  f73 := ⟨Tryd.f47.name, by decide, Tryd.func47.trans (congrArg some (by kernel_rfl))⟩
  f74 := ⟨Tryd.f48.name, by decide, Tryd.func48.trans (congrArg some (by kernel_rfl))⟩
  f75 := ⟨Tryd.f49.name, by decide, Tryd.func49.trans (congrArg some (by kernel_rfl))⟩
  f76 := ⟨Tryd.f51.name, by decide, Tryd.func51.trans (congrArg some (by kernel_rfl))⟩
  f77 := ⟨Tryd.f52.name, by decide, Tryd.func52.trans (congrArg some (by kernel_rfl))⟩
  f78 := Tryd.func53.trans (congrArg some (by kernel_rfl))
  f79 := Tryd.func54.trans (congrArg some (by kernel_rfl))
  f88 := ⟨Tryd.f59.name, by decide, Tryd.func59.trans (congrArg some (by kernel_rfl))⟩
  f89 := Tryd.func60.trans (congrArg some (by kernel_rfl))
  f90 := Tryd.func61.trans (congrArg some (by kernel_rfl))
  f91 := ⟨Tryd.f62.name, by decide, Tryd.func62.trans (congrArg some (by kernel_rfl))⟩
  f92 := ⟨Tryd.f63.name, by decide, Tryd.func63.trans (congrArg some (by kernel_rfl))⟩
  f96 := ⟨Tryd.f69.name, by decide, Tryd.func69.trans (congrArg some (by kernel_rfl))⟩
  t0 := Tryd.underlying0
  a0 := Tryd.isAgg0
  z0 := Tryd.sizeOf0
  v0 := Tryd.zeroValue0
  t3 := Tryd.underlying3
  a3 := Tryd.isAgg3
  z3 := Tryd.sizeOf3
  v3 := Tryd.zeroValue3
  t4 := Tryd.underlying4
  a4 := Tryd.isAgg4
  z4 := Tryd.sizeOf4
  v4 := Tryd.zeroValue4
  t5 := Tryd.underlying5
  a5 := Tryd.isAgg5
  z5 := Tryd.sizeOf5
  v5 := Tryd.zeroValue5
  t9 := Tryd.underlying9
  a9 := Tryd.isAgg9
  z9 := Tryd.sizeOf9
  v9 := Tryd.zeroValue9
  t22 := Tryd.underlying43
  a22 := Tryd.isAgg43
  z22 := Tryd.sizeOf43
  v22 := Tryd.zeroValue43
  t23 := Tryd.underlying30
  a23 := Tryd.isAgg30
  z23 := Tryd.sizeOf30
  v23 := Tryd.zeroValue30
  t44 := Tryd.underlying88
  a44 := Tryd.isAgg88
  z44 := Tryd.sizeOf88
  v44 := Tryd.zeroValue88
  t51 := Tryd.underlying79
  a51 := Tryd.isAgg79
  z51 := Tryd.sizeOf79
  v51 := Tryd.zeroValue79
  t60 := Tryd.underlying82
  a60 := Tryd.isAgg82
  z60 := Tryd.sizeOf82
  v60 := Tryd.zeroValue82
  t61 := Tryd.underlying83
  a61 := Tryd.isAgg83
  z61 := Tryd.sizeOf83
  v61 := Tryd.zeroValue83
  t67 := Tryd.underlying91
  a67 := Tryd.isAgg91
  z67 := Tryd.sizeOf91
  v67 := Tryd.zeroValue91
  t69 := Tryd.underlying93
  a69 := Tryd.isAgg93
  z69 := Tryd.sizeOf93
  v69 := Tryd.zeroValue93
  t75 := Tryd.underlying99
  a75 := Tryd.isAgg99
  z75 := Tryd.sizeOf99
  v75 := Tryd.zeroValue99
  t79 := Tryd.underlying103
  a79 := Tryd.isAgg103
  z79 := Tryd.sizeOf103
  v79 := Tryd.zeroValue103
  t83 := Tryd.underlying109
  a83 := Tryd.isAgg109
  z83 := Tryd.sizeOf109
  v83 := Tryd.zeroValue109
  t84 := Tryd.underlying110
  a84 := Tryd.isAgg110
  z84 := Tryd.sizeOf110
  v84 := Tryd.zeroValue110 }
open Go.Sort in
/-- slices.Sort of term's numbers. -/
theorem Tryd.slices_Sort_ids (blk off cap : Nat) (zs : List Int) (w : World) (hH : Go.Sort.Holds (Value.int .i64) w blk off zs.toArray) (hblk : blk < w.heap.size) (hsz : zs.length < 4611686018427387904) :
    Calls Tryd.prog 33 #[.slice (some ⟨blk, off, none⟩) zs.length cap] w fun e w' =>
      e = .returned (.tuple #[]) ∧ ∃ n os, w' = Go.Sort.grow (Go.Sort.putRow (Value.int .i64) (Go.Sort.ahead w n) blk off (zs.mergeSort fun x y => decide (x ≤ y)).toArray) os := AnyG.slices_Sort_int Tryd.laysSort blk off cap zs w hH hblk hsz
/-- slices.Sort of none. -/
theorem Tryd.slices_Sort_ids_none (p : Option Addr) (cap : Nat) (w : World) :
    Calls Tryd.prog 33 #[.slice p 0 cap] w fun e w' => e = .returned (.tuple #[]) ∧ w' = w := AnyG.slices_Sort_int_none Tryd.laysSort p cap w
end Go.Proofs
