/- The library's sort at this dump, laid by the kit's own tool. -/
import Derived.Shelf.SlGeneric
import Derived.Shelf.SortG.Plain
import Derived.Shelf.SortG.SortNone
import Derived.Test.YtoeicjlflmmmcaaGreatDoorProg
namespace Go.Proofs
open Go.Shelf
def Tryz.laysSort_ren:Go.Shelf.Ren:=⟨fun | 53=>43 | 64=>66 | 63=>65 | 78=>107 | 79=>108 | 70=>98 | 71=>99 | 72=>100 | 73=>101 | 74=>102 | 75=>103 | 59=>104 | 76=>105 | 77=>106 | 88=>118 | 89=>119 | 90=>120 | 91=>121 | 92=>122 | 68=>123 | 96=>153 | n=>n,fun | 22=>30 | 23=>37 | 3=>3 | 51=>122 | 0=>0 | 67=>158 | 69=>101 | 4=>4 | 61=>151 | 60=>150 | 44=>46 | 5=>5 | 9=>9 | 75=>169 | 79=>173 | 83=>187 | 84=>188 | n=>n,fun | n=>n⟩
theorem Tryz.laysSort:Go.Proofs.SlLaysN.n53 Tryz.prog Tryz.laysSort_ren:={
 mixed:=by kernel_rfl
 f53:=⟨Tryz.f43.name,by decide,Tryz.func43.trans (congrArg some (by kernel_rfl))⟩
 f59:=⟨Tryz.f104.name,by decide,Tryz.func104.trans (congrArg some (by kernel_rfl))⟩
 f63:=⟨Tryz.f65.name,by decide,Tryz.func65.trans (congrArg some (by kernel_rfl))⟩
 f64:=Tryz.func66.trans (congrArg some (by kernel_rfl))
 f68:=⟨Tryz.f123.name,by decide,Tryz.func123.trans (congrArg some (by kernel_rfl))⟩
 f70:=⟨Tryz.f98.name,by decide,Tryz.func98.trans (congrArg some (by kernel_rfl))⟩
 f71:=⟨Tryz.f99.name,by decide,Tryz.func99.trans (congrArg some (by kernel_rfl))⟩
 f72:=⟨Tryz.f100.name,by decide,Tryz.func100.trans (congrArg some (by kernel_rfl))⟩
 f73:=⟨Tryz.f101.name,by decide,Tryz.func101.trans (congrArg some (by kernel_rfl))⟩
 f74:=⟨Tryz.f102.name,by decide,Tryz.func102.trans (congrArg some (by kernel_rfl))⟩
 f75:=⟨Tryz.f103.name,by decide,Tryz.func103.trans (congrArg some (by kernel_rfl))⟩
 f76:=⟨Tryz.f105.name,by decide,Tryz.func105.trans (congrArg some (by kernel_rfl))⟩
 f77:=⟨Tryz.f106.name,by decide,Tryz.func106.trans (congrArg some (by kernel_rfl))⟩
 f78:=Tryz.func107.trans (congrArg some (by kernel_rfl))
 f79:=Tryz.func108.trans (congrArg some (by kernel_rfl))
 f88:=⟨Tryz.f118.name,by decide,Tryz.func118.trans (congrArg some (by kernel_rfl))⟩
 f89:=Tryz.func119.trans (congrArg some (by kernel_rfl))
 f90:=Tryz.func120.trans (congrArg some (by kernel_rfl))
 f91:=⟨Tryz.f121.name,by decide,Tryz.func121.trans (congrArg some (by kernel_rfl))⟩
 f92:=⟨Tryz.f122.name,by decide,Tryz.func122.trans (congrArg some (by kernel_rfl))⟩
 f96:=⟨Tryz.f153.name,by decide,Tryz.func153.trans (congrArg some (by kernel_rfl))⟩
 t0:=Tryz.underlying0
 a0:=Tryz.isAgg0
 z0:=Tryz.sizeOf0
 v0:=Tryz.zeroValue0
 t3:=Tryz.underlying3
 a3:=Tryz.isAgg3
 z3:=Tryz.sizeOf3
 v3:=Tryz.zeroValue3
 t4:=Tryz.underlying4
 a4:=Tryz.isAgg4
 z4:=Tryz.sizeOf4
 v4:=Tryz.zeroValue4
 t5:=Tryz.underlying5
 a5:=Tryz.isAgg5
 z5:=Tryz.sizeOf5
 v5:=Tryz.zeroValue5
 t9:=Tryz.underlying9
 a9:=Tryz.isAgg9
 z9:=Tryz.sizeOf9
 v9:=Tryz.zeroValue9
 t22:=Tryz.underlying30
 a22:=Tryz.isAgg30
 z22:=Tryz.sizeOf30
 v22:=Tryz.zeroValue30
 t23:=Tryz.underlying37
 a23:=Tryz.isAgg37
 z23:=Tryz.sizeOf37
 v23:=Tryz.zeroValue37
 t44:=Tryz.underlying46
 a44:=Tryz.isAgg46
 z44:=Tryz.sizeOf46
 v44:=Tryz.zeroValue46
 t51:=Tryz.underlying122
 a51:=Tryz.isAgg122
 z51:=Tryz.sizeOf122
 v51:=Tryz.zeroValue122
 t60:=Tryz.underlying150
 a60:=Tryz.isAgg150
 z60:=Tryz.sizeOf150
 v60:=Tryz.zeroValue150
 t61:=Tryz.underlying151
 a61:=Tryz.isAgg151
 z61:=Tryz.sizeOf151
 v61:=Tryz.zeroValue151
 t67:=Tryz.underlying158
 a67:=Tryz.isAgg158
 z67:=Tryz.sizeOf158
 v67:=Tryz.zeroValue158
 t69:=Tryz.underlying101
 a69:=Tryz.isAgg101
 z69:=Tryz.sizeOf101
 v69:=Tryz.zeroValue101
 t75:=Tryz.underlying169
 a75:=Tryz.isAgg169
 z75:=Tryz.sizeOf169
 v75:=Tryz.zeroValue169
 t79:=Tryz.underlying173
 a79:=Tryz.isAgg173
 z79:=Tryz.sizeOf173
 v79:=Tryz.zeroValue173
 t83:=Tryz.underlying187
 a83:=Tryz.isAgg187
 z83:=Tryz.sizeOf187
 v83:=Tryz.zeroValue187
 t84:=Tryz.underlying188
 a84:=Tryz.isAgg188
 z84:=Tryz.sizeOf188
 v84:=Tryz.zeroValue188 }
/-- slices.Sort of term's numbers. -/
theorem Tryz.slices_Sort_ids (blk off cap:Nat) (zs:List Int) (w:World) (hH:Go.Sort.Holds (Value.int .i64) w blk off zs.toArray) (hblk:blk<w.heap.size) (hsz:zs.length<4611686018427387904) :
 Calls Tryz.prog 43 #[.slice (some ⟨blk,off,none⟩) zs.length cap] w fun e w' =>
  e=.returned (.tuple #[])∧∃ n os,w'=Go.Sort.grow (Go.Sort.putRow (Value.int .i64) (Go.Sort.ahead w n) blk off (zs.mergeSort fun x y=>decide (x≤y)).toArray) os:=AnyG.slices_Sort_int Tryz.laysSort blk off cap zs w hH hblk hsz
theorem Tryz.slices_Sort_ids_none (p:Option Addr) (cap:Nat) (w:World) :
 Calls Tryz.prog 43 #[.slice p 0 cap] w fun e w'=>e=.returned (.tuple #[])∧w'=w:=AnyG.slices_Sort_int_none Tryz.laysSort p cap w
end Go.Proofs
