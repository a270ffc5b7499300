/- The library's sort at this dump, laid by the kit's own tool. -/
import Derived.Shelf.SortG.Plain
import Derived.Shelf.SortG.SortNone
import Derived.Test.YtfligilbnpcnaaaGreatDoorProg
namespace Go.Proofs
open Go.Shelf
def Tryz.laysSortI_ren : Go.Shelf.Ren := ⟨fun | 53 => 48 | 64 => 51 | 63 => 75 | 78 => 87 | 79 => 88 | 70 => 91 | 71 => 92 | 72 => 93 | 73 => 94 | 74 => 95 | 75 => 96 | 59 => 97 | 76 => 98 | 77 => 99 | 88 => 110 | 89 => 101 | 90 => 102 | 91 => 111 | 92 => 112 | 68 => 113 | 96 => 119 | n => n, fun | 22 => 30 | 23 => 44 | 3 => 3 | 51 => 103 | 0 => 0 | 67 => 122 | 69 => 88 | 4 => 4 | 61 => 115 | 60 => 114 | 44 => 119 | 5 => 5 | 9 => 9 | 75 => 131 | 79 => 135 | 83 => 145 | 84 => 146 | n => n, fun | n => n⟩
theorem Tryz.laysSortI : Go.Proofs.SlLaysN.n53 Tryz.prog Tryz.laysSortI_ren := {
  mixed := by kernel_rfl
  f53 := ⟨Tryz.f48.name, by decide, Tryz.func48.trans (congrArg some (by kernel_rfl))⟩
  f59 := ⟨Tryz.f97.name, by decide, Tryz.func97.trans (congrArg some (by kernel_rfl))⟩
  f63 := ⟨Tryz.f75.name, by decide, Tryz.func75.trans (congrArg some (by kernel_rfl))⟩
  f64 := Tryz.func51.trans (congrArg some (by kernel_rfl))
  f68 := ⟨Tryz.f113.name, by decide, Tryz.func113.trans (congrArg some (by kernel_rfl))⟩
  f70 := ⟨Tryz.f91.name, by decide, Tryz.func91.trans (congrArg some (by kernel_rfl))⟩
  f71 := ⟨Tryz.f92.name, by decide, Tryz.func92.trans (congrArg some (by kernel_rfl))⟩
  f72 := ⟨Tryz.f93.name, by decide, Tryz.func93.trans (congrArg some (by kernel_rfl))⟩
  f73 := ⟨Tryz.f94.name, by decide, Tryz.func94.trans (congrArg some (by kernel_rfl))⟩
  f74 := ⟨Tryz.f95.name, by decide, Tryz.func95.trans (congrArg some (by kernel_rfl))⟩
  f75 := ⟨Tryz.f96.name, by decide, Tryz.func96.trans (congrArg some (by kernel_rfl))⟩
  f76 := ⟨Tryz.f98.name, by decide, Tryz.func98.trans (congrArg some (by kernel_rfl))⟩
  f77 := ⟨Tryz.f99.name, by decide, Tryz.func99.trans (congrArg some (by kernel_rfl))⟩
  f78 := Tryz.func87.trans (congrArg some (by kernel_rfl))
  f79 := Tryz.func88.trans (congrArg some (by kernel_rfl))
  f88 := ⟨Tryz.f110.name, by decide, Tryz.func110.trans (congrArg some (by kernel_rfl))⟩
  f89 := Tryz.func101.trans (congrArg some (by kernel_rfl))
  f90 := Tryz.func102.trans (congrArg some (by kernel_rfl))
  f91 := ⟨Tryz.f111.name, by decide, Tryz.func111.trans (congrArg some (by kernel_rfl))⟩
  f92 := ⟨Tryz.f112.name, by decide, Tryz.func112.trans (congrArg some (by kernel_rfl))⟩
  f96 := ⟨Tryz.f119.name, by decide, Tryz.func119.trans (congrArg some (by kernel_rfl))⟩
  t0 := Tryz.underlying0
  a0 := Tryz.isAgg0
  z0 := Tryz.sizeOf0
  v0 := Tryz.zeroValue0
  t3 := Tryz.underlying3
  a3 := Tryz.isAgg3
  z3 := Tryz.sizeOf3
  v3 := Tryz.zeroValue3
  t4 := Tryz.underlying4
  a4 := Tryz.isAgg4
  z4 := Tryz.sizeOf4
  v4 := Tryz.zeroValue4
  t5 := Tryz.underlying5
  a5 := Tryz.isAgg5
  z5 := Tryz.sizeOf5
  v5 := Tryz.zeroValue5
  t9 := Tryz.underlying9
  a9 := Tryz.isAgg9
  z9 := Tryz.sizeOf9
  v9 := Tryz.zeroValue9
  t22 := Tryz.underlying30
  a22 := Tryz.isAgg30
  z22 := Tryz.sizeOf30
  v22 := Tryz.zeroValue30
  t23 := Tryz.underlying44
  a23 := Tryz.isAgg44
  z23 := Tryz.sizeOf44
  v23 := Tryz.zeroValue44
  t44 := Tryz.underlying119
  a44 := Tryz.isAgg119
  z44 := Tryz.sizeOf119
  v44 := Tryz.zeroValue119
  t51 := Tryz.underlying103
  a51 := Tryz.isAgg103
  z51 := Tryz.sizeOf103
  v51 := Tryz.zeroValue103
  t60 := Tryz.underlying114
  a60 := Tryz.isAgg114
  z60 := Tryz.sizeOf114
  v60 := Tryz.zeroValue114
  t61 := Tryz.underlying115
  a61 := Tryz.isAgg115
  z61 := Tryz.sizeOf115
  v61 := Tryz.zeroValue115
  t67 := Tryz.underlying122
  a67 := Tryz.isAgg122
  z67 := Tryz.sizeOf122
  v67 := Tryz.zeroValue122
  t69 := Tryz.underlying88
  a69 := Tryz.isAgg88
  z69 := Tryz.sizeOf88
  v69 := Tryz.zeroValue88
  t75 := Tryz.underlying131
  a75 := Tryz.isAgg131
  z75 := Tryz.sizeOf131
  v75 := Tryz.zeroValue131
  t79 := Tryz.underlying135
  a79 := Tryz.isAgg135
  z79 := Tryz.sizeOf135
  v79 := Tryz.zeroValue135
  t83 := Tryz.underlying145
  a83 := Tryz.isAgg145
  z83 := Tryz.sizeOf145
  v83 := Tryz.zeroValue145
  t84 := Tryz.underlying146
  a84 := Tryz.isAgg146
  z84 := Tryz.sizeOf146
  v84 := Tryz.zeroValue146 }
def Tryz.laysSortN_ren : Go.Shelf.Ren := ⟨fun | 53 => 33 | 64 => 51 | 63 => 50 | 78 => 87 | 79 => 88 | 70 => 78 | 71 => 79 | 72 => 80 | 73 => 81 | 74 => 82 | 75 => 83 | 59 => 84 | 76 => 85 | 77 => 86 | 88 => 100 | 89 => 101 | 90 => 102 | 91 => 103 | 92 => 104 | 68 => 105 | 96 => 114 | n => n, fun | 22 => 23 | 23 => 2 | 3 => 3 | 51 => 103 | 0 => 0 | 67 => 122 | 69 => 88 | 4 => 4 | 61 => 115 | 60 => 114 | 44 => 119 | 5 => 5 | 9 => 9 | 75 => 131 | 79 => 135 | 83 => 145 | 84 => 146 | n => n, fun | n => n⟩
theorem Tryz.laysSortN : Go.Proofs.SlLaysN.n53 Tryz.prog Tryz.laysSortN_ren := {
  mixed := by kernel_rfl
  f53 := ⟨Tryz.f33.name, by decide, Tryz.func33.trans (congrArg some (by kernel_rfl))⟩
  f59 := ⟨Tryz.f84.name, by decide, Tryz.func84.trans (congrArg some (by kernel_rfl))⟩
  f63 := ⟨Tryz.f50.name, by decide, Tryz.func50.trans (congrArg some (by kernel_rfl))⟩
  f64 := Tryz.func51.trans (congrArg some (by kernel_rfl))
  f68 := ⟨Tryz.f105.name, by decide, Tryz.func105.trans (congrArg some (by kernel_rfl))⟩
  f70 := ⟨Tryz.f78.name, by decide, Tryz.func78.trans (congrArg some (by kernel_rfl))⟩
  f71 := ⟨Tryz.f79.name, by decide, Tryz.func79.trans (congrArg some (by kernel_rfl))⟩
  f72 := ⟨Tryz.f80.name, by decide, Tryz.func80.trans (congrArg some (by kernel_rfl))⟩
  f73 := ⟨Tryz.f81.name, by decide, Tryz.func81.trans (congrArg some (by kernel_rfl))⟩
  f74 := ⟨Tryz.f82.name, by decide, Tryz.func82.trans (congrArg some (by kernel_rfl))⟩
  f75 := ⟨Tryz.f83.name, by decide, Tryz.func83.trans (congrArg some (by kernel_rfl))⟩
  f76 := ⟨Tryz.f85.name, by decide, Tryz.func85.trans (congrArg some (by kernel_rfl))⟩
  f77 := ⟨Tryz.f86.name, by decide, Tryz.func86.trans (congrArg some (by kernel_rfl))⟩
  f78 := Tryz.func87.trans (congrArg some (by kernel_rfl))
  f79 := Tryz.func88.trans (congrArg some (by kernel_rfl))
  f88 := ⟨Tryz.f100.name, by decide, Tryz.func100.trans (congrArg some (by kernel_rfl))⟩
  f89 := Tryz.func101.trans (congrArg some (by kernel_rfl))
  f90 := Tryz.func102.trans (congrArg some (by kernel_rfl))
  f91 := ⟨Tryz.f103.name, by decide, Tryz.func103.trans (congrArg some (by kernel_rfl))⟩
  f92 := ⟨Tryz.f104.name, by decide, Tryz.func104.trans (congrArg some (by kernel_rfl))⟩
  f96 := ⟨Tryz.f114.name, by decide, Tryz.func114.trans (congrArg some (by kernel_rfl))⟩
  t0 := Tryz.underlying0
  a0 := Tryz.isAgg0
  z0 := Tryz.sizeOf0
  v0 := Tryz.zeroValue0
  t3 := Tryz.underlying3
  a3 := Tryz.isAgg3
  z3 := Tryz.sizeOf3
  v3 := Tryz.zeroValue3
  t4 := Tryz.underlying4
  a4 := Tryz.isAgg4
  z4 := Tryz.sizeOf4
  v4 := Tryz.zeroValue4
  t5 := Tryz.underlying5
  a5 := Tryz.isAgg5
  z5 := Tryz.sizeOf5
  v5 := Tryz.zeroValue5
  t9 := Tryz.underlying9
  a9 := Tryz.isAgg9
  z9 := Tryz.sizeOf9
  v9 := Tryz.zeroValue9
  t22 := Tryz.underlying23
  a22 := Tryz.isAgg23
  z22 := Tryz.sizeOf23
  v22 := Tryz.zeroValue23
  t23 := Tryz.underlying2
  a23 := Tryz.isAgg2
  z23 := Tryz.sizeOf2
  v23 := Tryz.zeroValue2
  t44 := Tryz.underlying119
  a44 := Tryz.isAgg119
  z44 := Tryz.sizeOf119
  v44 := Tryz.zeroValue119
  t51 := Tryz.underlying103
  a51 := Tryz.isAgg103
  z51 := Tryz.sizeOf103
  v51 := Tryz.zeroValue103
  t60 := Tryz.underlying114
  a60 := Tryz.isAgg114
  z60 := Tryz.sizeOf114
  v60 := Tryz.zeroValue114
  t61 := Tryz.underlying115
  a61 := Tryz.isAgg115
  z61 := Tryz.sizeOf115
  v61 := Tryz.zeroValue115
  t67 := Tryz.underlying122
  a67 := Tryz.isAgg122
  z67 := Tryz.sizeOf122
  v67 := Tryz.zeroValue122
  t69 := Tryz.underlying88
  a69 := Tryz.isAgg88
  z69 := Tryz.sizeOf88
  v69 := Tryz.zeroValue88
  t75 := Tryz.underlying131
  a75 := Tryz.isAgg131
  z75 := Tryz.sizeOf131
  v75 := Tryz.zeroValue131
  t79 := Tryz.underlying135
  a79 := Tryz.isAgg135
  z79 := Tryz.sizeOf135
  v79 := Tryz.zeroValue135
  t83 := Tryz.underlying145
  a83 := Tryz.isAgg145
  z83 := Tryz.sizeOf145
  v83 := Tryz.zeroValue145
  t84 := Tryz.underlying146
  a84 := Tryz.isAgg146
  z84 := Tryz.sizeOf146
  v84 := Tryz.zeroValue146 }
open Go.Sort in
/-- slices.Sort of term's numbers. -/
theorem Tryz.slices_Sort_ids (blk off cap : Nat) (zs : List Int) (w : World) (hH : Go.Sort.Holds (Value.int .i64) w blk off zs.toArray) (hblk : blk < w.heap.size) (hsz : zs.length < 4611686018427387904) :
    Calls Tryz.prog 48 #[.slice (some ⟨blk, off, none⟩) zs.length cap] w fun e w' =>
      e = .returned (.tuple #[]) ∧ ∃ n os, w' = Go.Sort.grow (Go.Sort.putRow (Value.int .i64) (Go.Sort.ahead w n) blk off (zs.mergeSort fun x y => decide (x ≤ y)).toArray) os := AnyG.slices_Sort_int Tryz.laysSortI blk off cap zs w hH hblk hsz
theorem Tryz.slices_Sort_ids_none (p : Option Addr) (cap : Nat) (w : World) :
    Calls Tryz.prog 48 #[.slice p 0 cap] w fun e w' => e = .returned (.tuple #[]) ∧ w' = w := AnyG.slices_Sort_int_none Tryz.laysSortI p cap w
open Go.Sort in
/-- slices.Sort of whole numbers. -/
theorem Tryz.slices_Sort_nums (blk off cap : Nat) (zs : List Int) (w : World) (hH : Go.Sort.Holds (Value.int .i64) w blk off zs.toArray) (hblk : blk < w.heap.size) (hsz : zs.length < 4611686018427387904) :
    Calls Tryz.prog 33 #[.slice (some ⟨blk, off, none⟩) zs.length cap] w fun e w' =>
      e = .returned (.tuple #[]) ∧ ∃ n os, w' = Go.Sort.grow (Go.Sort.putRow (Value.int .i64) (Go.Sort.ahead w n) blk off (zs.mergeSort fun x y => decide (x ≤ y)).toArray) os := AnyG.slices_Sort_int Tryz.laysSortN blk off cap zs w hH hblk hsz
theorem Tryz.slices_Sort_nums_none (p : Option Addr) (cap : Nat) (w : World) :
    Calls Tryz.prog 33 #[.slice p 0 cap] w fun e w' => e = .returned (.tuple #[]) ∧ w' = w := AnyG.slices_Sort_int_none Tryz.laysSortN p cap w
end Go.Proofs
