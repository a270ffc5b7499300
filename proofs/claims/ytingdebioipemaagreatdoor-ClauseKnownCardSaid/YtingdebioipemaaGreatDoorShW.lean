/- The library's contracts at this dump, laid by the kit's own tool. -/
import Derived.Lib.LaidU8T
import Derived.Test.YtingdebioipemaaGreatDoorProg
namespace Go.Proofs
open Go.Shelf Go.Lib Go.RowKit
def Tryz.lays199_ren:Go.Shelf.Ren:=⟨fun | 199=>66 | 261=>96 | 311=>124 | 312=>125 | n=>n,fun | 21=>21 | 4=>4 | 51=>122 | 141=>124 | 0=>0 | 196=>150 | 193=>147 | 3=>3 | 198=>153 | 49=>151 | 194=>148 | 201=>156 | 226=>180 | 46=>102 | 227=>181 | n=>n,fun | 6=>2 | n=>n⟩
theorem Tryz.lays199:Go.Proofs.Lays.n199 Tryz.prog Tryz.lays199_ren:={
 mixed:=by kernel_rfl
 f199:=Tryz.func66.trans (congrArg some (by kernel_rfl))
 f261:=Tryz.func96.trans (congrArg some (by kernel_rfl))
 f311:=Tryz.func124.trans (congrArg some (by kernel_rfl))
 f312:=Tryz.func125.trans (congrArg some (by kernel_rfl))
 t0:=Tryz.underlying0
 a0:=Tryz.isAgg0
 z0:=Tryz.sizeOf0
 v0:=Tryz.zeroValue0
 t3:=Tryz.underlying3
 a3:=Tryz.isAgg3
 z3:=Tryz.sizeOf3
 v3:=Tryz.zeroValue3
 t4:=Tryz.underlying4
 a4:=Tryz.isAgg4
 z4:=Tryz.sizeOf4
 v4:=Tryz.zeroValue4
 t21:=Tryz.underlying21
 a21:=Tryz.isAgg21
 z21:=Tryz.sizeOf21
 v21:=Tryz.zeroValue21
 t46:=Tryz.underlying102
 a46:=Tryz.isAgg102
 z46:=Tryz.sizeOf102
 v46:=Tryz.zeroValue102
 t49:=Tryz.underlying151
 a49:=Tryz.isAgg151
 z49:=Tryz.sizeOf151
 v49:=Tryz.zeroValue151
 t51:=Tryz.underlying122
 a51:=Tryz.isAgg122
 z51:=Tryz.sizeOf122
 v51:=Tryz.zeroValue122
 t141:=Tryz.underlying124
 a141:=Tryz.isAgg124
 z141:=Tryz.sizeOf124
 v141:=Tryz.zeroValue124
 t193:=Tryz.underlying147
 a193:=Tryz.isAgg147
 z193:=Tryz.sizeOf147
 v193:=Tryz.zeroValue147
 t194:=Tryz.underlying148
 a194:=Tryz.isAgg148
 z194:=Tryz.sizeOf148
 v194:=Tryz.zeroValue148
 t196:=Tryz.underlying150
 a196:=Tryz.isAgg150
 z196:=Tryz.sizeOf150
 v196:=Tryz.zeroValue150
 t198:=Tryz.underlying153
 a198:=Tryz.isAgg153
 z198:=Tryz.sizeOf153
 v198:=Tryz.zeroValue153
 t201:=Tryz.underlying156
 a201:=Tryz.isAgg156
 z201:=Tryz.sizeOf156
 v201:=Tryz.zeroValue156
 t226:=Tryz.underlying180
 a226:=Tryz.isAgg180
 z226:=Tryz.sizeOf180
 v226:=Tryz.zeroValue180
 t227:=Tryz.underlying181
 a227:=Tryz.isAgg181
 z227:=Tryz.sizeOf181
 v227:=Tryz.zeroValue181
 g6:=by kernel_rfl }
end Go.Proofs
