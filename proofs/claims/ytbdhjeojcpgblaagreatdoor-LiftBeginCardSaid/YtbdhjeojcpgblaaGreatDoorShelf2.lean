/- The library's sort at this dump, laid by the kit's own tool. -/
/-
 DERIVED: THE SHELF's CONTRACTS AT THIS DUMP,IN PLAIN WORDS (tools/lay-plain.mjs out of 'TryzSort.lean',which tools/lay-shelf.mjs wrote): THE SAME DECLARATIONS UNDER THE SAME NAMES: 'import','namespace','open','def','theorem' AND NOTHING ELSE: no command of the shelf's: FOR A HAND-IN. Each laying: the table of numbers ('.._ren') and one theorem,a field a fact of the dump's own or the kernel's comparison; each QFO: ONE APPLICATION.
-/
import Derived.Shelf.SlGeneric
import Derived.Shelf.SortG.Plain
import Derived.Shelf.SortG.SortNone
import Derived.Test.YtbdhjeojcpgblaaGreatDoorProg
namespace Go.Proofs
open Go.Shelf
def Tryz.laysSort_ren:Go.Shelf.Ren:=⟨fun | 53=>133 | 64=>144 | 63=>191 | 78=>205 | 79=>206 | 70=>220 | 71=>221 | 72=>222 | 73=>223 | 74=>224 | 75=>225 | 59=>226 | 76=>227 | 77=>228 | 88=>243 | 89=>230 | 90=>231 | 91=>244 | 92=>245 | 68=>246 | 96=>261 | n=>n,fun | 22=>38 | 23=>36 | 3=>3 | 51=>174 | 0=>0 | 67=>108 | 69=>233 | 4=>4 | 61=>265 | 60=>264 | 44=>145 | 5=>5 | 9=>9 | 75=>292 | 79=>296 | 83=>306 | 84=>93 | n=>n,fun | n=>n⟩
theorem Tryz.laysSort:Go.Proofs.SlLaysN.n53 Tryz.prog Tryz.laysSort_ren:={
 mixed:=by kernel_rfl
 f53:=⟨Tryz.f133.name,by decide,Tryz.func133.trans (congrArg some (by kernel_rfl))⟩
 f59:=⟨Tryz.f226.name,by decide,Tryz.func226.trans (congrArg some (by kernel_rfl))⟩
 f63:=⟨Tryz.f191.name,by decide,Tryz.func191.trans (congrArg some (by kernel_rfl))⟩
 f64:=Tryz.func144.trans (congrArg some (by kernel_rfl))
 f68:=⟨Tryz.f246.name,by decide,Tryz.func246.trans (congrArg some (by kernel_rfl))⟩
 f70:=⟨Tryz.f220.name,by decide,Tryz.func220.trans (congrArg some (by kernel_rfl))⟩
 f71:=⟨Tryz.f221.name,by decide,Tryz.func221.trans (congrArg some (by kernel_rfl))⟩
 f72:=⟨Tryz.f222.name,by decide,Tryz.func222.trans (congrArg some (by kernel_rfl))⟩
 f73:=⟨Tryz.f223.name,by decide,Tryz.func223.trans (congrArg some (by kernel_rfl))⟩
 f74:=⟨Tryz.f224.name,by decide,Tryz.func224.trans (congrArg some (by kernel_rfl))⟩
 f75:=⟨Tryz.f225.name,by decide,Tryz.func225.trans (congrArg some (by kernel_rfl))⟩
 f76:=⟨Tryz.f227.name,by decide,Tryz.func227.trans (congrArg some (by kernel_rfl))⟩
 f77:=⟨Tryz.f228.name,by decide,Tryz.func228.trans (congrArg some (by kernel_rfl))⟩
 f78:=Tryz.func205.trans (congrArg some (by kernel_rfl))
 f79:=Tryz.func206.trans (congrArg some (by kernel_rfl))
 f88:=⟨Tryz.f243.name,by decide,Tryz.func243.trans (congrArg some (by kernel_rfl))⟩
 f89:=Tryz.func230.trans (congrArg some (by kernel_rfl))
 f90:=Tryz.func231.trans (congrArg some (by kernel_rfl))
 f91:=⟨Tryz.f244.name,by decide,Tryz.func244.trans (congrArg some (by kernel_rfl))⟩
 f92:=⟨Tryz.f245.name,by decide,Tryz.func245.trans (congrArg some (by kernel_rfl))⟩
 f96:=⟨Tryz.f261.name,by decide,Tryz.func261.trans (congrArg some (by kernel_rfl))⟩
 t0:=Tryz.underlying0
 a0:=Tryz.isAgg0
 z0:=Tryz.sizeOf0
 v0:=Tryz.zeroValue0
 t3:=Tryz.underlying3
 a3:=Tryz.isAgg3
 z3:=Tryz.sizeOf3
 v3:=Tryz.zeroValue3
 t4:=Tryz.underlying4
 a4:=Tryz.isAgg4
 z4:=Tryz.sizeOf4
 v4:=Tryz.zeroValue4
 t5:=Tryz.underlying5
 a5:=Tryz.isAgg5
 z5:=Tryz.sizeOf5
 v5:=Tryz.zeroValue5
 t9:=Tryz.underlying9
 a9:=Tryz.isAgg9
 z9:=Tryz.sizeOf9
 v9:=Tryz.zeroValue9
 t22:=Tryz.underlying38
 a22:=Tryz.isAgg38
 z22:=Tryz.sizeOf38
 v22:=Tryz.zeroValue38
 t23:=Tryz.underlying36
 a23:=Tryz.isAgg36
 z23:=Tryz.sizeOf36
 v23:=Tryz.zeroValue36
 t44:=Tryz.underlying145
 a44:=Tryz.isAgg145
 z44:=Tryz.sizeOf145
 v44:=Tryz.zeroValue145
 t51:=Tryz.underlying174
 a51:=Tryz.isAgg174
 z51:=Tryz.sizeOf174
 v51:=Tryz.zeroValue174
 t60:=Tryz.underlying264
 a60:=Tryz.isAgg264
 z60:=Tryz.sizeOf264
 v60:=Tryz.zeroValue264
 t61:=Tryz.underlying265
 a61:=Tryz.isAgg265
 z61:=Tryz.sizeOf265
 v61:=Tryz.zeroValue265
 t67:=Tryz.underlying108
 a67:=Tryz.isAgg108
 z67:=Tryz.sizeOf108
 v67:=Tryz.zeroValue108
 t69:=Tryz.underlying233
 a69:=Tryz.isAgg233
 z69:=Tryz.sizeOf233
 v69:=Tryz.zeroValue233
 t75:=Tryz.underlying292
 a75:=Tryz.isAgg292
 z75:=Tryz.sizeOf292
 v75:=Tryz.zeroValue292
 t79:=Tryz.underlying296
 a79:=Tryz.isAgg296
 z79:=Tryz.sizeOf296
 v79:=Tryz.zeroValue296
 t83:=Tryz.underlying306
 a83:=Tryz.isAgg306
 z83:=Tryz.sizeOf306
 v83:=Tryz.zeroValue306
 t84:=Tryz.underlying93
 a84:=Tryz.isAgg93
 z84:=Tryz.sizeOf93
 v84:=Tryz.zeroValue93 }
open Go.Sort in
/-- slices.Sort of term's numbers. -/
theorem Tryz.slices_Sort_ids (blk off cap:Nat) (zs:List Int) (w:World) (hH:Go.Sort.Holds (Value.int .i64) w blk off zs.toArray) (hblk:blk<w.heap.size) (hsz:zs.length<4611686018427387904) :
 Calls Tryz.prog 133 #[.slice (some ⟨blk,off,none⟩) zs.length cap] w fun e w' =>
  e=.returned (.tuple #[])∧∃ n os,w'=Go.Sort.grow (Go.Sort.putRow (Value.int .i64) (Go.Sort.ahead w n) blk off (zs.mergeSort fun x y=>decide (x≤y)).toArray) os:=AnyG.slices_Sort_int Tryz.laysSort blk off cap zs w hH hblk hsz
theorem Tryz.slices_Sort_ids_none (p:Option Addr) (cap:Nat) (w:World) :
 Calls Tryz.prog 133 #[.slice p 0 cap] w fun e w'=>e=.returned (.tuple #[])∧w'=w:=AnyG.slices_Sort_int_none Tryz.laysSort p cap w
end Go.Proofs
