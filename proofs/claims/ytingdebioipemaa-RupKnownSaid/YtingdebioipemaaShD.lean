/- The laying of the library's Delete at this dump, printed by the kit's own tool. -/
import Derived.Shelf.SlLaysE
import Derived.Test.YtingdebioipemaaProg
namespace Go.Proofs
open Go.Shelf
def Try.laysDelete_ren:Go.Shelf.Ren:=⟨fun | 45=>28 | n=>n,fun | 22=>22 | 23=>25 | 3=>3 | 4=>4 | 0=>0 | n=>n,fun | n=>n⟩
theorem Try.laysDelete:Go.Proofs.SlLaysE.n45 Try.prog Try.laysDelete_ren:={
 mixed:=by kernel_rfl
 f45:=⟨Try.f28.name,by decide,Try.func28.trans (congrArg some (by kernel_rfl))⟩
 t0:=Try.underlying0
 a0:=Try.isAgg0
 z0:=Try.sizeOf0
 v0:=Try.zeroValue0
 t3:=Try.underlying3
 a3:=Try.isAgg3
 z3:=Try.sizeOf3
 v3:=Try.zeroValue3
 t4:=Try.underlying4
 a4:=Try.isAgg4
 z4:=Try.sizeOf4
 v4:=Try.zeroValue4
 t22:=Try.underlying22
 a22:=Try.isAgg22
 z22:=Try.sizeOf22
 v22:=Try.zeroValue22
 a23:=Try.isAgg25
 z23:=Try.sizeOf25 }
end Go.Proofs
