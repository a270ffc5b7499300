/- The library's sort at this dump, laid by the kit's own tool. -/
import Derived.Shelf.SortG.Plain
import Derived.Shelf.SortG.SortNone
import Derived.Test.YtfligilbnpcnaaaDoorProg
namespace Go.Proofs
open Go.Shelf
def Tryd.laysSortI_ren : Go.Shelf.Ren := ⟨fun | 53 => 31 | 64 => 33 | 63 => 59 | 78 => 69 | 79 => 70 | 70 => 75 | 71 => 76 | 72 => 77 | 73 => 78 | 74 => 79 | 75 => 80 | 59 => 81 | 76 => 82 | 77 => 83 | 88 => 94 | 89 => 85 | 90 => 86 | 91 => 95 | 92 => 96 | 68 => 97 | 96 => 103 | n => n, fun | 22 => 23 | 23 => 29 | 3 => 3 | 51 => 86 | 0 => 0 | 67 => 109 | 69 => 91 | 4 => 4 | 61 => 101 | 60 => 100 | 44 => 106 | 5 => 5 | 9 => 9 | 75 => 120 | 79 => 124 | 83 => 134 | 84 => 135 | n => n, fun | n => n⟩
theorem Tryd.laysSortI : Go.Proofs.SlLaysN.n53 Tryd.prog Tryd.laysSortI_ren := {
  mixed := by kernel_rfl
  f53 := ⟨Tryd.f31.name, by decide, Tryd.func31.trans (congrArg some (by kernel_rfl))⟩
  f59 := ⟨Tryd.f81.name, by decide, Tryd.func81.trans (congrArg some (by kernel_rfl))⟩
  f63 := ⟨Tryd.f59.name, by decide, Tryd.func59.trans (congrArg some (by kernel_rfl))⟩
  f64 := Tryd.func33.trans (congrArg some (by kernel_rfl))
  f68 := ⟨Tryd.f97.name, by decide, Tryd.func97.trans (congrArg some (by kernel_rfl))⟩
  f70 := ⟨Tryd.f75.name, by decide, Tryd.func75.trans (congrArg some (by kernel_rfl))⟩
  f71 := ⟨Tryd.f76.name, by decide, Tryd.func76.trans (congrArg some (by kernel_rfl))⟩
  f72 := ⟨Tryd.f77.name, by decide, Tryd.func77.trans (congrArg some (by kernel_rfl))⟩
  f73 := ⟨Tryd.f78.name, by decide, Tryd.func78.trans (congrArg some (by kernel_rfl))⟩
  f74 := ⟨Tryd.f79.name, by decide, Tryd.func79.trans (congrArg some (by kernel_rfl))⟩
  f75 := ⟨Tryd.f80.name, by decide, Tryd.func80.trans (congrArg some (by kernel_rfl))⟩
  f76 := ⟨Tryd.f82.name, by decide, Tryd.func82.trans (congrArg some (by kernel_rfl))⟩
  f77 := ⟨Tryd.f83.name, by decide, Tryd.func83.trans (congrArg some (by kernel_rfl))⟩
  f78 := Tryd.func69.trans (congrArg some (by kernel_rfl))
  f79 := Tryd.func70.trans (congrArg some (by kernel_rfl))
  f88 := ⟨Tryd.f94.name, by decide, Tryd.func94.trans (congrArg some (by kernel_rfl))⟩
  f89 := Tryd.func85.trans (congrArg some (by kernel_rfl))
  f90 := Tryd.func86.trans (congrArg some (by kernel_rfl))
  f91 := ⟨Tryd.f95.name, by decide, Tryd.func95.trans (congrArg some (by kernel_rfl))⟩
  f92 := ⟨Tryd.f96.name, by decide, Tryd.func96.trans (congrArg some (by kernel_rfl))⟩
  f96 := ⟨Tryd.f103.name, by decide, Tryd.func103.trans (congrArg some (by kernel_rfl))⟩
  t0 := Tryd.underlying0
  a0 := Tryd.isAgg0
  z0 := Tryd.sizeOf0
  v0 := Tryd.zeroValue0
  t3 := Tryd.underlying3
  a3 := Tryd.isAgg3
  z3 := Tryd.sizeOf3
  v3 := Tryd.zeroValue3
  t4 := Tryd.underlying4
  a4 := Tryd.isAgg4
  z4 := Tryd.sizeOf4
  v4 := Tryd.zeroValue4
  t5 := Tryd.underlying5
  a5 := Tryd.isAgg5
  z5 := Tryd.sizeOf5
  v5 := Tryd.zeroValue5
  t9 := Tryd.underlying9
  a9 := Tryd.isAgg9
  z9 := Tryd.sizeOf9
  v9 := Tryd.zeroValue9
  t22 := Tryd.underlying23
  a22 := Tryd.isAgg23
  z22 := Tryd.sizeOf23
  v22 := Tryd.zeroValue23
  t23 := Tryd.underlying29
  a23 := Tryd.isAgg29
  z23 := Tryd.sizeOf29
  v23 := Tryd.zeroValue29
  t44 := Tryd.underlying106
  a44 := Tryd.isAgg106
  z44 := Tryd.sizeOf106
  v44 := Tryd.zeroValue106
  t51 := Tryd.underlying86
  a51 := Tryd.isAgg86
  z51 := Tryd.sizeOf86
  v51 := Tryd.zeroValue86
  t60 := Tryd.underlying100
  a60 := Tryd.isAgg100
  z60 := Tryd.sizeOf100
  v60 := Tryd.zeroValue100
  t61 := Tryd.underlying101
  a61 := Tryd.isAgg101
  z61 := Tryd.sizeOf101
  v61 := Tryd.zeroValue101
  t67 := Tryd.underlying109
  a67 := Tryd.isAgg109
  z67 := Tryd.sizeOf109
  v67 := Tryd.zeroValue109
  t69 := Tryd.underlying91
  a69 := Tryd.isAgg91
  z69 := Tryd.sizeOf91
  v69 := Tryd.zeroValue91
  t75 := Tryd.underlying120
  a75 := Tryd.isAgg120
  z75 := Tryd.sizeOf120
  v75 := Tryd.zeroValue120
  t79 := Tryd.underlying124
  a79 := Tryd.isAgg124
  z79 := Tryd.sizeOf124
  v79 := Tryd.zeroValue124
  t83 := Tryd.underlying134
  a83 := Tryd.isAgg134
  z83 := Tryd.sizeOf134
  v83 := Tryd.zeroValue134
  t84 := Tryd.underlying135
  a84 := Tryd.isAgg135
  z84 := Tryd.sizeOf135
  v84 := Tryd.zeroValue135 }
def Tryd.laysSortN_ren : Go.Shelf.Ren := ⟨fun | 53 => 21 | 64 => 33 | 63 => 32 | 78 => 69 | 79 => 70 | 70 => 60 | 71 => 61 | 72 => 62 | 73 => 63 | 74 => 64 | 75 => 65 | 59 => 66 | 76 => 67 | 77 => 68 | 88 => 84 | 89 => 85 | 90 => 86 | 91 => 87 | 92 => 88 | 68 => 89 | 96 => 98 | n => n, fun | 22 => 30 | 23 => 2 | 3 => 3 | 51 => 86 | 0 => 0 | 67 => 109 | 69 => 91 | 4 => 4 | 61 => 101 | 60 => 100 | 44 => 106 | 5 => 5 | 9 => 9 | 75 => 120 | 79 => 124 | 83 => 134 | 84 => 135 | n => n, fun | n => n⟩
theorem Tryd.laysSortN : Go.Proofs.SlLaysN.n53 Tryd.prog Tryd.laysSortN_ren := {
  mixed := by kernel_rfl
  f53 := ⟨Tryd.f21.name, by decide, Tryd.func21.trans (congrArg some (by kernel_rfl))⟩
  f59 := ⟨Tryd.f66.name, by decide, Tryd.func66.trans (congrArg some (by kernel_rfl))⟩
  f63 := ⟨Tryd.f32.name, by decide, Tryd.func32.trans (congrArg some (by kernel_rfl))⟩
  f64 := Tryd.func33.trans (congrArg some (by kernel_rfl))
  f68 := ⟨Tryd.f89.name, by decide, Tryd.func89.trans (congrArg some (by kernel_rfl))⟩
  f70 := ⟨Tryd.f60.name, by decide, Tryd.func60.trans (congrArg some (by kernel_rfl))⟩
  f71 := ⟨Tryd.f61.name, by decide, Tryd.func61.trans (congrArg some (by kernel_rfl))⟩
  f72 := ⟨Tryd.f62.name, by decide, Tryd.func62.trans (congrArg some (by kernel_rfl))⟩
  f73 := ⟨Tryd.f63.name, by decide, Tryd.func63.trans (congrArg some (by kernel_rfl))⟩
  f74 := ⟨Tryd.f64.name, by decide, Tryd.func64.trans (congrArg some (by kernel_rfl))⟩
  f75 := ⟨Tryd.f65.name, by decide, Tryd.func65.trans (congrArg some (by kernel_rfl))⟩
  f76 := ⟨Tryd.f67.name, by decide, Tryd.func67.trans (congrArg some (by kernel_rfl))⟩
  f77 := ⟨Tryd.f68.name, by decide, Tryd.func68.trans (congrArg some (by kernel_rfl))⟩
  f78 := Tryd.func69.trans (congrArg some (by kernel_rfl))
  f79 := Tryd.func70.trans (congrArg some (by kernel_rfl))
  f88 := ⟨Tryd.f84.name, by decide, Tryd.func84.trans (congrArg some (by kernel_rfl))⟩
  f89 := Tryd.func85.trans (congrArg some (by kernel_rfl))
  f90 := Tryd.func86.trans (congrArg some (by kernel_rfl))
  f91 := ⟨Tryd.f87.name, by decide, Tryd.func87.trans (congrArg some (by kernel_rfl))⟩
  f92 := ⟨Tryd.f88.name, by decide, Tryd.func88.trans (congrArg some (by kernel_rfl))⟩
  f96 := ⟨Tryd.f98.name, by decide, Tryd.func98.trans (congrArg some (by kernel_rfl))⟩
  t0 := Tryd.underlying0
  a0 := Tryd.isAgg0
  z0 := Tryd.sizeOf0
  v0 := Tryd.zeroValue0
  t3 := Tryd.underlying3
  a3 := Tryd.isAgg3
  z3 := Tryd.sizeOf3
  v3 := Tryd.zeroValue3
  t4 := Tryd.underlying4
  a4 := Tryd.isAgg4
  z4 := Tryd.sizeOf4
  v4 := Tryd.zeroValue4
  t5 := Tryd.underlying5
  a5 := Tryd.isAgg5
  z5 := Tryd.sizeOf5
  v5 := Tryd.zeroValue5
  t9 := Tryd.underlying9
  a9 := Tryd.isAgg9
  z9 := Tryd.sizeOf9
  v9 := Tryd.zeroValue9
  t22 := Tryd.underlying30
  a22 := Tryd.isAgg30
  z22 := Tryd.sizeOf30
  v22 := Tryd.zeroValue30
  t23 := Tryd.underlying2
  a23 := Tryd.isAgg2
  z23 := Tryd.sizeOf2
  v23 := Tryd.zeroValue2
  t44 := Tryd.underlying106
  a44 := Tryd.isAgg106
  z44 := Tryd.sizeOf106
  v44 := Tryd.zeroValue106
  t51 := Tryd.underlying86
  a51 := Tryd.isAgg86
  z51 := Tryd.sizeOf86
  v51 := Tryd.zeroValue86
  t60 := Tryd.underlying100
  a60 := Tryd.isAgg100
  z60 := Tryd.sizeOf100
  v60 := Tryd.zeroValue100
  t61 := Tryd.underlying101
  a61 := Tryd.isAgg101
  z61 := Tryd.sizeOf101
  v61 := Tryd.zeroValue101
  t67 := Tryd.underlying109
  a67 := Tryd.isAgg109
  z67 := Tryd.sizeOf109
  v67 := Tryd.zeroValue109
  t69 := Tryd.underlying91
  a69 := Tryd.isAgg91
  z69 := Tryd.sizeOf91
  v69 := Tryd.zeroValue91
  t75 := Tryd.underlying120
  a75 := Tryd.isAgg120
  z75 := Tryd.sizeOf120
  v75 := Tryd.zeroValue120
  t79 := Tryd.underlying124
  a79 := Tryd.isAgg124
  z79 := Tryd.sizeOf124
  v79 := Tryd.zeroValue124
  t83 := Tryd.underlying134
  a83 := Tryd.isAgg134
  z83 := Tryd.sizeOf134
  v83 := Tryd.zeroValue134
  t84 := Tryd.underlying135
  a84 := Tryd.isAgg135
  z84 := Tryd.sizeOf135
  v84 := Tryd.zeroValue135 }
open Go.Sort in
/-- slices.Sort of term's numbers. -/
theorem Tryd.slices_Sort_ids (blk off cap : Nat) (zs : List Int) (w : World) (hH : Go.Sort.Holds (Value.int .i64) w blk off zs.toArray) (hblk : blk < w.heap.size) (hsz : zs.length < 4611686018427387904) :
    Calls Tryd.prog 31 #[.slice (some ⟨blk, off, none⟩) zs.length cap] w fun e w' =>
      e = .returned (.tuple #[]) ∧ ∃ n os, w' = Go.Sort.grow (Go.Sort.putRow (Value.int .i64) (Go.Sort.ahead w n) blk off (zs.mergeSort fun x y => decide (x ≤ y)).toArray) os := AnyG.slices_Sort_int Tryd.laysSortI blk off cap zs w hH hblk hsz
theorem Tryd.slices_Sort_ids_none (p : Option Addr) (cap : Nat) (w : World) :
    Calls Tryd.prog 31 #[.slice p 0 cap] w fun e w' => e = .returned (.tuple #[]) ∧ w' = w := AnyG.slices_Sort_int_none Tryd.laysSortI p cap w
open Go.Sort in
/-- slices.Sort of whole numbers. -/
theorem Tryd.slices_Sort_nums (blk off cap : Nat) (zs : List Int) (w : World) (hH : Go.Sort.Holds (Value.int .i64) w blk off zs.toArray) (hblk : blk < w.heap.size) (hsz : zs.length < 4611686018427387904) :
    Calls Tryd.prog 21 #[.slice (some ⟨blk, off, none⟩) zs.length cap] w fun e w' =>
      e = .returned (.tuple #[]) ∧ ∃ n os, w' = Go.Sort.grow (Go.Sort.putRow (Value.int .i64) (Go.Sort.ahead w n) blk off (zs.mergeSort fun x y => decide (x ≤ y)).toArray) os := AnyG.slices_Sort_int Tryd.laysSortN blk off cap zs w hH hblk hsz
theorem Tryd.slices_Sort_nums_none (p : Option Addr) (cap : Nat) (w : World) :
    Calls Tryd.prog 21 #[.slice p 0 cap] w fun e w' => e = .returned (.tuple #[]) ∧ w' = w := AnyG.slices_Sort_int_none Tryd.laysSortN p cap w
end Go.Proofs
