/- The library's sort at this dump, laid by the kit's own tool. -/
import Derived.Shelf.SortG.Plain
import Derived.Shelf.SortG.SortNone
import Derived.Test.YtpdeoalocejodaaGreatDoorProg
namespace Go.Proofs
open Go.Shelf
def Tryz.laysSort_ren : Go.Shelf.Ren := ⟨fun | 53 => 86 | 64 => 101 | 63 => 100 | 78 => 115 | 79 => 116 | 70 => 106 | 71 => 107 | 72 => 108 | 73 => 109 | 74 => 110 | 75 => 111 | 59 => 112 | 76 => 113 | 77 => 114 | 88 => 123 | 89 => 124 | 90 => 125 | 91 => 126 | 92 => 127 | 68 => 128 | 96 => 133 | n => n, fun | 22 => 50 | 23 => 26 | 3 => 3 | 51 => 112 | 0 => 0 | 67 => 144 | 69 => 90 | 4 => 4 | 61 => 136 | 60 => 135 | 44 => 141 | 5 => 5 | 9 => 9 | 75 => 151 | 79 => 155 | 83 => 163 | 84 => 164 | n => n, fun | n => n⟩
theorem Tryz.laysSort : Go.Proofs.SlLaysN.n53 Tryz.prog Tryz.laysSort_ren := {
 mixed := by kernel_rfl
 f53 := ⟨Tryz.f86.name, by decide, Tryz.func86.trans (congrArg some (by kernel_rfl))⟩
 f59 := ⟨Tryz.f112.name, by decide, Tryz.func112.trans (congrArg some (by kernel_rfl))⟩
 f63 := ⟨Tryz.f100.name, by decide, Tryz.func100.trans (congrArg some (by kernel_rfl))⟩
 f64 := Tryz.func101.trans (congrArg some (by kernel_rfl))
 f68 := ⟨Tryz.f128.name, by decide, Tryz.func128.trans (congrArg some (by kernel_rfl))⟩
 f70 := ⟨Tryz.f106.name, by decide, Tryz.func106.trans (congrArg some (by kernel_rfl))⟩
 f71 := ⟨Tryz.f107.name, by decide, Tryz.func107.trans (congrArg some (by kernel_rfl))⟩
 f72 := ⟨Tryz.f108.name, by decide, Tryz.func108.trans (congrArg some (by kernel_rfl))⟩
 f73 := ⟨Tryz.f109.name, by decide, Tryz.func109.trans (congrArg some (by kernel_rfl))⟩
 f74 := ⟨Tryz.f110.name, by decide, Tryz.func110.trans (congrArg some (by kernel_rfl))⟩
 f75 := ⟨Tryz.f111.name, by decide, Tryz.func111.trans (congrArg some (by kernel_rfl))⟩
 f76 := ⟨Tryz.f113.name, by decide, Tryz.func113.trans (congrArg some (by kernel_rfl))⟩
 f77 := ⟨Tryz.f114.name, by decide, Tryz.func114.trans (congrArg some (by kernel_rfl))⟩
 f78 := Tryz.func115.trans (congrArg some (by kernel_rfl))
 f79 := Tryz.func116.trans (congrArg some (by kernel_rfl))
 f88 := ⟨Tryz.f123.name, by decide, Tryz.func123.trans (congrArg some (by kernel_rfl))⟩
 f89 := Tryz.func124.trans (congrArg some (by kernel_rfl))
 f90 := Tryz.func125.trans (congrArg some (by kernel_rfl))
 f91 := ⟨Tryz.f126.name, by decide, Tryz.func126.trans (congrArg some (by kernel_rfl))⟩
 f92 := ⟨Tryz.f127.name, by decide, Tryz.func127.trans (congrArg some (by kernel_rfl))⟩
 f96 := ⟨Tryz.f133.name, by decide, Tryz.func133.trans (congrArg some (by kernel_rfl))⟩
 t0 := Tryz.underlying0
 a0 := Tryz.isAgg0
 z0 := Tryz.sizeOf0
 v0 := Tryz.zeroValue0
 t3 := Tryz.underlying3
 a3 := Tryz.isAgg3
 z3 := Tryz.sizeOf3
 v3 := Tryz.zeroValue3
 t4 := Tryz.underlying4
 a4 := Tryz.isAgg4
 z4 := Tryz.sizeOf4
 v4 := Tryz.zeroValue4
 t5 := Tryz.underlying5
 a5 := Tryz.isAgg5
 z5 := Tryz.sizeOf5
 v5 := Tryz.zeroValue5
 t9 := Tryz.underlying9
 a9 := Tryz.isAgg9
 z9 := Tryz.sizeOf9
 v9 := Tryz.zeroValue9
 t22 := Tryz.underlying50
 a22 := Tryz.isAgg50
 z22 := Tryz.sizeOf50
 v22 := Tryz.zeroValue50
 t23 := Tryz.underlying26
 a23 := Tryz.isAgg26
 z23 := Tryz.sizeOf26
 v23 := Tryz.zeroValue26
 t44 := Tryz.underlying141
 a44 := Tryz.isAgg141
 z44 := Tryz.sizeOf141
 v44 := Tryz.zeroValue141
 t51 := Tryz.underlying112
 a51 := Tryz.isAgg112
 z51 := Tryz.sizeOf112
 v51 := Tryz.zeroValue112
 t60 := Tryz.underlying135
 a60 := Tryz.isAgg135
 z60 := Tryz.sizeOf135
 v60 := Tryz.zeroValue135
 t61 := Tryz.underlying136
 a61 := Tryz.isAgg136
 z61 := Tryz.sizeOf136
 v61 := Tryz.zeroValue136
 t67 := Tryz.underlying144
 a67 := Tryz.isAgg144
 z67 := Tryz.sizeOf144
 v67 := Tryz.zeroValue144
 t69 := Tryz.underlying90
 a69 := Tryz.isAgg90
 z69 := Tryz.sizeOf90
 v69 := Tryz.zeroValue90
 t75 := Tryz.underlying151
 a75 := Tryz.isAgg151
 z75 := Tryz.sizeOf151
 v75 := Tryz.zeroValue151
 t79 := Tryz.underlying155
 a79 := Tryz.isAgg155
 z79 := Tryz.sizeOf155
 v79 := Tryz.zeroValue155
 t83 := Tryz.underlying163
 a83 := Tryz.isAgg163
 z83 := Tryz.sizeOf163
 v83 := Tryz.zeroValue163
 t84 := Tryz.underlying164
 a84 := Tryz.isAgg164
 z84 := Tryz.sizeOf164
 v84 := Tryz.zeroValue164 }
open Go.Sort in
/-- slices.Sort of term's numbers. -/
theorem Tryz.slices_Sort_ids (blk off cap : Nat) (zs : List Int) (w : World) (hH : Go.Sort.Holds (Value.int .i64) w blk off zs.toArray) (hblk : blk < w.heap.size) (hsz : zs.length < 4611686018427387904) :
 Calls Tryz.prog 86 #[.slice (some ⟨blk, off, none⟩) zs.length cap] w fun e w' =>
  e = .returned (.tuple #[]) ∧ ∃ n os, w' = Go.Sort.grow (Go.Sort.putRow (Value.int .i64) (Go.Sort.ahead w n) blk off (zs.mergeSort fun x y => decide (x ≤ y)).toArray) os := AnyG.slices_Sort_int Tryz.laysSort blk off cap zs w hH hblk hsz
theorem Tryz.slices_Sort_ids_none (p : Option Addr) (cap : Nat) (w : World) :
 Calls Tryz.prog 86 #[.slice p 0 cap] w fun e w' => e = .returned (.tuple #[]) ∧ w' = w := AnyG.slices_Sort_int_none Tryz.laysSort p cap w
end Go.Proofs
