/- The library's contracts at this dump, laid by the kit's own tool. -/
import Derived.Shelf.Small.Bits
import Derived.Shelf.Small.Wraps
import Derived.Shelf.Strconv.Itoa0
import Derived.Shelf.Sort.Plain
import Derived.Ground.Names2Prog
import Derived.Shelf.Slices.CompactI
import Derived.Shelf.Slices.SearchI
import Derived.Shelf.Slices.Cells
import Derived.Shelf.Slices.In.SortNone
import Derived.Test.YtaidbdgndljaeaaGreatDoorProg
namespace Go.Proofs
open Go.Shelf Go.Sort Go.Lib Go.RowKit
def Tryz.lays189_ren:Go.Shelf.Ren:=⟨fun | 189=>26 | 125=>62 | 257=>61 | 128=>93 | 129=>94 | 294=>84 | 295=>85 | 296=>86 | 297=>87 | 298=>88 | 299=>89 | 216=>90 | 300=>91 | 301=>92 | 328=>109 | 329=>110 | 330=>111 | 331=>112 | 332=>113 | 215=>114 | 343=>123 | n=>n,fun | 28=>35 | 3=>3 | 46=>115 | 0=>0 | 51=>43 | 53=>150 | 4=>4 | 183=>142 | 182=>141 | 131=>53 | 5=>5 | 9=>9 | 218=>167 | 222=>171 | 228=>180 | 229=>103 | n=>n,fun | n=>n⟩
theorem Tryz.lays189:Go.Proofs.Lays.n189 Tryz.prog Tryz.lays189_ren:={
 mixed:=by kernel_rfl
 f125:=Tryz.func62.trans (congrArg some (by kernel_rfl))
 f128:=Tryz.func93.trans (congrArg some (by kernel_rfl))
 f129:=Tryz.func94.trans (congrArg some (by kernel_rfl))
 f189:=Tryz.func26.trans (congrArg some (by kernel_rfl))
 f215:=Tryz.func114.trans (congrArg some (by kernel_rfl))
 f216:=Tryz.func90.trans (congrArg some (by kernel_rfl))
 f257:=Tryz.func61.trans (congrArg some (by kernel_rfl))
 f294:=Tryz.func84.trans (congrArg some (by kernel_rfl))
 f295:=Tryz.func85.trans (congrArg some (by kernel_rfl))
 f296:=Tryz.func86.trans (congrArg some (by kernel_rfl))
 f297:=Tryz.func87.trans (congrArg some (by kernel_rfl))
 f298:=Tryz.func88.trans (congrArg some (by kernel_rfl))
 f299:=Tryz.func89.trans (congrArg some (by kernel_rfl))
 f300:=Tryz.func91.trans (congrArg some (by kernel_rfl))
 f301:=Tryz.func92.trans (congrArg some (by kernel_rfl))
 f328:=Tryz.func109.trans (congrArg some (by kernel_rfl))
 f329:=Tryz.func110.trans (congrArg some (by kernel_rfl))
 f330:=Tryz.func111.trans (congrArg some (by kernel_rfl))
 f331:=Tryz.func112.trans (congrArg some (by kernel_rfl))
 f332:=Tryz.func113.trans (congrArg some (by kernel_rfl))
 f343:=Tryz.func123.trans (congrArg some (by kernel_rfl))
 t0:=Tryz.underlying0
 a0:=Tryz.isAgg0
 z0:=Tryz.sizeOf0
 v0:=Tryz.zeroValue0
 t3:=Tryz.underlying3
 a3:=Tryz.isAgg3
 z3:=Tryz.sizeOf3
 v3:=Tryz.zeroValue3
 t4:=Tryz.underlying4
 a4:=Tryz.isAgg4
 z4:=Tryz.sizeOf4
 v4:=Tryz.zeroValue4
 t5:=Tryz.underlying5
 a5:=Tryz.isAgg5
 z5:=Tryz.sizeOf5
 v5:=Tryz.zeroValue5
 t9:=Tryz.underlying9
 a9:=Tryz.isAgg9
 z9:=Tryz.sizeOf9
 v9:=Tryz.zeroValue9
 t28:=Tryz.underlying35
 a28:=Tryz.isAgg35
 z28:=Tryz.sizeOf35
 v28:=Tryz.zeroValue35
 t46:=Tryz.underlying115
 a46:=Tryz.isAgg115
 z46:=Tryz.sizeOf115
 v46:=Tryz.zeroValue115
 t51:=Tryz.underlying43
 a51:=Tryz.isAgg43
 z51:=Tryz.sizeOf43
 v51:=Tryz.zeroValue43
 t53:=Tryz.underlying150
 a53:=Tryz.isAgg150
 z53:=Tryz.sizeOf150
 v53:=Tryz.zeroValue150
 t131:=Tryz.underlying53
 a131:=Tryz.isAgg53
 z131:=Tryz.sizeOf53
 v131:=Tryz.zeroValue53
 t182:=Tryz.underlying141
 a182:=Tryz.isAgg141
 z182:=Tryz.sizeOf141
 v182:=Tryz.zeroValue141
 t183:=Tryz.underlying142
 a183:=Tryz.isAgg142
 z183:=Tryz.sizeOf142
 v183:=Tryz.zeroValue142
 t218:=Tryz.underlying167
 a218:=Tryz.isAgg167
 z218:=Tryz.sizeOf167
 v218:=Tryz.zeroValue167
 t222:=Tryz.underlying171
 a222:=Tryz.isAgg171
 z222:=Tryz.sizeOf171
 v222:=Tryz.zeroValue171
 t228:=Tryz.underlying180
 a228:=Tryz.isAgg180
 z228:=Tryz.sizeOf180
 v228:=Tryz.zeroValue180
 t229:=Tryz.underlying103
 a229:=Tryz.isAgg103
 z229:=Tryz.sizeOf103
 v229:=Tryz.zeroValue103 }
theorem Tryz.slices_Sort_int (blk off cap:Nat) (zs:List Int) (w:World) (hH:Holds (Value.int .i64) w blk off zs.toArray) (hblk:blk<w.heap.size) (hsz:zs.length<4611686018427387904) :
 Calls Tryz.prog 26 #[.slice (some ⟨blk,off,none⟩) zs.length cap] w fun e w' =>
  e=.returned (.tuple #[])∧∃ n os,w'=grow (putRow (Value.int .i64) (Sort.ahead w n) blk off (zs.mergeSort fun x y=>decide (x≤y)).toArray) os:=Any.slices_Sort_int Tryz.lays189 blk off cap zs w hH hblk hsz
theorem Tryz.slices_Sort_int_none (p:Option Addr) (cap:Nat) (w:World) :
 Calls Tryz.prog 26 #[.slice p 0 cap] w fun e w'=>e=.returned (.tuple #[])∧w'=w:=Any.slices_Sort_int_none Tryz.lays189 p cap w
end Go.Proofs
