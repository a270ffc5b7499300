/- The package-level variables, as the row's condition lays them. -/
import Derived.Test.YtaidbdgndljaeaaGreatDoorCards
import Derived.Test.YtaidbdgndljaeaaGreatDoorTie
import Derived.WalkKit
import Derived.ProofKit
import Derived.OpenShut
import Derived.Deep.DeepHandedRow
import Derived.Lib.LaidTab
import Derived.Stop.LaidErr
import Derived.Test.YtaidbdgndljaeaaGreatDoorTabEq
import Derived.Test.YtaidbdgndljaeaaGreatDoorJ1
import Derived.Test.YtaidbdgndljaeaaGreatDoorAmD
namespace Go.Proofs.YtaidbdgndljaeaaGreatDoor
open Go Go.Am Go.Rv Go.ChangeShapes Go.WideShapes Go.ChangeAt Go.RowKit
set_option maxRecDepth 100000
theorem own:ownKnob Tryz.prog.godebug=none:=by kernel_rfl
theorem QGq:laidOutB Tryz.prog=true:=by kernel_rfl
theorem Qk9 {W:World} {name:String} {a b:Int} {rest:List (String × DataW Unit)} {g:Nat} (hg:Tryz.prog.globalNamed name=some g) (hty:(Tryz.prog.globals[g]?).map (·.type)=some 81)
 (h:laidMet Tryz.prog ((name,Lib.tabData .i64 [a,b])::rest) W):VR (QbA W) noNames (.ref (Qw9 .i64 [a,b]) 0) (.pointer (some ⟨g,0,none⟩))∧Gv W g (Qw9 .i64 [a,b]):=by
 have ht:=QmX hg hty Tryz.underlying81 rfl rfl rfl rfl Tryz.underlying3 (by kernel_rfl) (by kernel_rfl) h
 exact tab_hG hg ht (by simp)
theorem hG0 {W:World} (h:laidMetH Tryz.prog Rows.regionsCutsRow.laid W):∀ g x,G0 g=some x→VR (QbA W) noNames (.ref x 0) (.pointer (some ⟨g,0,none⟩))∧Gv W g x:=by
 have h0:laidMet Tryz.prog Rows.regionsCutsRow.laid W:=h
 have h1:=h0.tail
 have h2:=h1.tail
 have h3:=h2.tail
 have h4:=h3.tail
 intro g x hg
 unfold G0 at hg
 split at hg
 ·cases hg; exact Qk9 (name := "proofmark/rv.rd") (by kernel_rfl) (by kernel_rfl) h0
 ·cases hg; exact Qk9 (name := "proofmark/rv.rs1") (by kernel_rfl) (by kernel_rfl) h2
 ·cases hg; exact Qk9 (name := "proofmark/rv.rs2") (by kernel_rfl) (by kernel_rfl) h3
 ·cases hg; exact Qk9 (name := "proofmark/rv.f3") (by kernel_rfl) (by kernel_rfl) h1
 ·cases hg; exact Qk9 (name := "proofmark/rv.f7") (by kernel_rfl) (by kernel_rfl) h4
 ·cases hg
def setC (cs:Array Value):Obj→Obj
 | .cells _ t frozen=>.cells cs t frozen
 | o=>o
abbrev tBool:TypeId:=4
noncomputable def Qlh (os:Os):World :=
 { World.holding Tryz.prog os ⟨#[],#[],[]⟩ with heap:=((((((World.holding Tryz.prog os ⟨#[],#[],[]⟩).heap.modify 0 (setC #[.int .i64 7,.int .i64 5])).modify 1 (setC #[.int .i64 15,.int .i64 5])).modify 2 (setC #[.int .i64 20,.int .i64 5])).modify 3 (setC #[.int .i64 12,.int .i64 3])).modify 4 (setC #[.int .i64 25,.int .i64 7])) }
end Go.Proofs.YtaidbdgndljaeaaGreatDoor
