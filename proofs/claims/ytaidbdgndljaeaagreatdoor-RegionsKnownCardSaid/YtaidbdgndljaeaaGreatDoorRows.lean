/-
  NARROWER THAN 'FOR EVERY INPUT', by the rows' own cells (each row's printed sentence says how): RegionsCuts: laid · RegionsMoved: laid · RegionsCalls: laid · RegionsKnown: laid.
  DERIVED. THE GIVEN ROWS OF THIS SEAT. 4 by the template 'for every input the law returns true; each argument reads behind the call as it read before'; 0 by the template 'total and deterministic' (their statements: YtaidbdgndljaeaaGreatDoorTotals.lean).
  GIVEN WITH THE SEED: the statements are not yours to turn. If you find one false, say at which input.
  Laid BY PROGRAM, IN A SANDBOX (cutbox-rows.mjs): the forced cells as the released guide's own fill.sh prints them over the translation 2ffc870d24cb1af8… (all of the seat's roots in one cut). By AI agents, Wed Nov 11 2026. No macro, syntax, notation, axiom, sorry.
-/
import Derived.Test.YtaidbdgndljaeaaGreatDoorChecked
import GoSem.Claim
import GoSem.ClaimJoined
import GoSem.ClaimMapViews
import Derived.JoinedTies
import Derived.KernelRfl
namespace Go.Proofs.YtaidbdgndljaeaaGreatDoor
/- THE CELL 'sum', in the pinned program and in every row, IS THE sha256 OF THE DUMP (.gsa) THAT YtaidbdgndljaeaaGreatDoorProg.lean LOADS. Nothing in Lean hashes anything: it is a label: what it is worth is what the hold of that sum in a sandbox is worth. -/
noncomputable def Tryz.pinned : Pinned := { name := "ytaidbdgndljaeaagreatdoor", sum := "2ffc870d24cb1af8d223d7bae8115f4e7ce565aaf0fad2396e348e958c7dacbd", checked := Tryz.checked }
namespace Rows
def none {H : Type} : Left H := { results := [], args := [] }

/- WHAT THE LISTED PACKAGE-LEVEL VARIABLES READ AS WHEN THE CALL BEGINS. Each datum BY PROGRAM (the guide's laid-datum.mjs) off the statement by which the dump's own 'gosem.cut.vars' lays the variable. In a bare row this is a premise. The card (YtaidbdgndljaeaaGreatDoorCards.lean) ties it to the program's text. -/
def laid_proofmark_rv_rd {H : Type} : DataW H := .agg [.lit (.int .i64 7), .lit (.int .i64 5)]
def laid_proofmark_rv_f3 {H : Type} : DataW H := .agg [.lit (.int .i64 12), .lit (.int .i64 3)]
def laid_proofmark_rv_rs1 {H : Type} : DataW H := .agg [.lit (.int .i64 15), .lit (.int .i64 5)]
def laid_proofmark_rv_rs2 {H : Type} : DataW H := .agg [.lit (.int .i64 20), .lit (.int .i64 5)]
def laid_proofmark_rv_f7 {H : Type} : DataW H := .agg [.lit (.int .i64 25), .lit (.int .i64 7)]

/-- 'proofmarklaw22.RegionsCuts': WHATEVER THE INPUT: true; the input reads as it did. -/
def regionsCutsSpec : ChangeSpec := { name := "regionsCuts", fn := fun _ => fun
  | [d1, d2] => { results := [.lit (.bool true)], args := [d1, d2] }
  | _ => none }
def regionsCutsRow : OpenClaim := { program := "ytaidbdgndljaeaagreatdoor", sum := "2ffc870d24cb1af8d223d7bae8115f4e7ce565aaf0fad2396e348e958c7dacbd", func := "proofmark/proofmarklaw22.RegionsCuts", spec := "regionsCuts", unfollowed := true, recurses := true, named := ["proofmark/rv.rd", "proofmark/rv.rs1", "proofmark/rv.rs2", "proofmark/rv.f3", "proofmark/rv.f7"], apart := false, laid := [("proofmark/rv.rd", laid_proofmark_rv_rd), ("proofmark/rv.f3", laid_proofmark_rv_f3), ("proofmark/rv.rs1", laid_proofmark_rv_rs1), ("proofmark/rv.rs2", laid_proofmark_rv_rs2), ("proofmark/rv.f7", laid_proofmark_rv_f7)] }
def RegionsCutsSaid : Prop := regionsCutsRow.holds Tryz.pinned (OpenSpec.ofChange regionsCutsSpec)

/-- ITS FALSE NEIGHBOUR: 'it returns false'. Refute it at one input. -/
def regionsCutsWrong : ChangeSpec := { name := "regionsCuts", fn := fun _ => fun
  | [d1, d2] => { results := [.lit (.bool false)], args := [d1, d2] }
  | _ => none }
def RegionsCutsWrongFalsely : Prop := regionsCutsRow.holds Tryz.pinned (OpenSpec.ofChange regionsCutsWrong)

/-- 'proofmarklaw22.RegionsMoved': WHATEVER THE INPUT: true; the input reads as it did. -/
def regionsMovedSpec : ChangeSpec := { name := "regionsMoved", fn := fun _ => fun
  | [d1, d2] => { results := [.lit (.bool true)], args := [d1, d2] }
  | _ => none }
def regionsMovedRow : OpenClaim := { program := "ytaidbdgndljaeaagreatdoor", sum := "2ffc870d24cb1af8d223d7bae8115f4e7ce565aaf0fad2396e348e958c7dacbd", func := "proofmark/proofmarklaw22.RegionsMoved", spec := "regionsMoved", unfollowed := true, recurses := true, named := ["proofmark/rv.rd", "proofmark/rv.rs1", "proofmark/rv.rs2", "proofmark/rv.f3", "proofmark/rv.f7"], apart := false, laid := [("proofmark/rv.rd", laid_proofmark_rv_rd), ("proofmark/rv.f3", laid_proofmark_rv_f3), ("proofmark/rv.rs1", laid_proofmark_rv_rs1), ("proofmark/rv.rs2", laid_proofmark_rv_rs2), ("proofmark/rv.f7", laid_proofmark_rv_f7)] }
def RegionsMovedSaid : Prop := regionsMovedRow.holds Tryz.pinned (OpenSpec.ofChange regionsMovedSpec)

/-- ITS FALSE NEIGHBOUR: 'it returns false'. Refute it at one input. -/
def regionsMovedWrong : ChangeSpec := { name := "regionsMoved", fn := fun _ => fun
  | [d1, d2] => { results := [.lit (.bool false)], args := [d1, d2] }
  | _ => none }
def RegionsMovedWrongFalsely : Prop := regionsMovedRow.holds Tryz.pinned (OpenSpec.ofChange regionsMovedWrong)

/-- 'proofmarklaw22.RegionsCalls': WHATEVER THE INPUT: true; the input reads as it did. -/
def regionsCallsSpec : ChangeSpec := { name := "regionsCalls", fn := fun _ => fun
  | [d] => { results := [.lit (.bool true)], args := [d] }
  | _ => none }
def regionsCallsRow : OpenClaim := { program := "ytaidbdgndljaeaagreatdoor", sum := "2ffc870d24cb1af8d223d7bae8115f4e7ce565aaf0fad2396e348e958c7dacbd", func := "proofmark/proofmarklaw22.RegionsCalls", spec := "regionsCalls", unfollowed := true, recurses := true, named := ["proofmark/rv.rd", "proofmark/rv.rs1", "proofmark/rv.rs2", "proofmark/rv.f3", "proofmark/rv.f7"], apart := false, laid := [("proofmark/rv.rd", laid_proofmark_rv_rd), ("proofmark/rv.f3", laid_proofmark_rv_f3), ("proofmark/rv.rs1", laid_proofmark_rv_rs1), ("proofmark/rv.rs2", laid_proofmark_rv_rs2), ("proofmark/rv.f7", laid_proofmark_rv_f7)] }
def RegionsCallsSaid : Prop := regionsCallsRow.holds Tryz.pinned (OpenSpec.ofChange regionsCallsSpec)

/-- ITS FALSE NEIGHBOUR: 'it returns false'. Refute it at one input. -/
def regionsCallsWrong : ChangeSpec := { name := "regionsCalls", fn := fun _ => fun
  | [d] => { results := [.lit (.bool false)], args := [d] }
  | _ => none }
def RegionsCallsWrongFalsely : Prop := regionsCallsRow.holds Tryz.pinned (OpenSpec.ofChange regionsCallsWrong)

/-- 'proofmarklaw22.RegionsKnown': WHATEVER THE INPUT: true; the input reads as it did. -/
def regionsKnownSpec : ChangeSpec := { name := "regionsKnown", fn := fun _ => fun
  | [] => { results := [.lit (.bool true)], args := [] }
  | _ => none }
def regionsKnownRow : OpenClaim := { program := "ytaidbdgndljaeaagreatdoor", sum := "2ffc870d24cb1af8d223d7bae8115f4e7ce565aaf0fad2396e348e958c7dacbd", func := "proofmark/proofmarklaw22.RegionsKnown", spec := "regionsKnown", unfollowed := true, recurses := true, named := ["proofmark/rv.rd", "proofmark/rv.rs1", "proofmark/rv.rs2", "proofmark/rv.f3", "proofmark/rv.f7"], apart := false, laid := [("proofmark/rv.rd", laid_proofmark_rv_rd), ("proofmark/rv.f3", laid_proofmark_rv_f3), ("proofmark/rv.rs1", laid_proofmark_rv_rs1), ("proofmark/rv.rs2", laid_proofmark_rv_rs2), ("proofmark/rv.f7", laid_proofmark_rv_f7)] }
def RegionsKnownSaid : Prop := regionsKnownRow.holds Tryz.pinned (OpenSpec.ofChange regionsKnownSpec)

/-- ITS FALSE NEIGHBOUR: 'it returns false'. Refute it at one input. -/
def regionsKnownWrong : ChangeSpec := { name := "regionsKnown", fn := fun _ => fun
  | [] => { results := [.lit (.bool false)], args := [] }
  | _ => none }
def RegionsKnownWrongFalsely : Prop := regionsKnownRow.holds Tryz.pinned (OpenSpec.ofChange regionsKnownWrong)

/- THE SECOND FORM. 'bulk': how many values and letters a reading holds, each counted each time it is reached (what is shared counts as often as it is met; a slice's spare places count too). A statement '..UptoSaid' is the law's where the arguments, and the package variables that the reading takes, are together of bulk at most 1048576: NARROWER than '..Said'. Prove '..Said' where nothing that the law and all that it calls make is longer than what came in: it says more and counts as full. Else prove '..UptoSaid'. A law counts once. -/
mutual
def uptoBulk {H : Type} : DataW H → Nat
  | .lit (.string bytes) => bytes.length + 1
  | .lit _ => 1
  | .nil => 1
  | .ptr d => uptoBulk d + 1
  | .slice elems spare => uptoBulkAll elems + uptoBulkAll spare + 1
  | .agg parts => uptoBulkAll parts + 1
  | .iface _ d => uptoBulk d + 1
  | .map entries => uptoBulkEntries entries + 1
  | .held _ => 1
def uptoBulkAll {H : Type} : List (DataW H) → Nat
  | [] => 0
  | d :: r => uptoBulk d + uptoBulkAll r
def uptoBulkEntries {H : Type} : List (Lit × DataW H) → Nat
  | [] => 0
  | x :: r => uptoBulkEntry x + uptoBulkEntries r
def uptoBulkEntry {H : Type} : Lit × DataW H → Nat
  | (.string bytes, d) => bytes.length + uptoBulk d + 1
  | (_, d) => uptoBulk d + 1
 end
def uptoSmall : (H : Type) → List (DataW H) → Bool := fun _ ds => decide (uptoBulkAll ds ≤ 1048576)
def OpenSpec.upto (s : _root_.Go.ChangeSpec) : _root_.Go.OpenSpec := { _root_.Go.OpenSpec.ofChange s with cond := some uptoSmall }

/-- 'proofmarklaw22.RegionsCuts', WHERE WHAT IT READS IS OF BULK AT MOST 1048576: true; the input reads as it did. -/
def regionsCutsUptoRow : OpenClaim := { program := "ytaidbdgndljaeaagreatdoor", sum := "2ffc870d24cb1af8d223d7bae8115f4e7ce565aaf0fad2396e348e958c7dacbd", func := "proofmark/proofmarklaw22.RegionsCuts", spec := "regionsCuts", unfollowed := true, recurses := true, named := ["proofmark/rv.rd", "proofmark/rv.rs1", "proofmark/rv.rs2", "proofmark/rv.f3", "proofmark/rv.f7"], apart := false, laid := [("proofmark/rv.rd", laid_proofmark_rv_rd), ("proofmark/rv.f3", laid_proofmark_rv_f3), ("proofmark/rv.rs1", laid_proofmark_rv_rs1), ("proofmark/rv.rs2", laid_proofmark_rv_rs2), ("proofmark/rv.f7", laid_proofmark_rv_f7)], narrowed := true }
def RegionsCutsUptoSaid : Prop := regionsCutsUptoRow.holds Tryz.pinned (OpenSpec.upto regionsCutsSpec)

/-- 'proofmarklaw22.RegionsMoved', WHERE WHAT IT READS IS OF BULK AT MOST 1048576: true; the input reads as it did. -/
def regionsMovedUptoRow : OpenClaim := { program := "ytaidbdgndljaeaagreatdoor", sum := "2ffc870d24cb1af8d223d7bae8115f4e7ce565aaf0fad2396e348e958c7dacbd", func := "proofmark/proofmarklaw22.RegionsMoved", spec := "regionsMoved", unfollowed := true, recurses := true, named := ["proofmark/rv.rd", "proofmark/rv.rs1", "proofmark/rv.rs2", "proofmark/rv.f3", "proofmark/rv.f7"], apart := false, laid := [("proofmark/rv.rd", laid_proofmark_rv_rd), ("proofmark/rv.f3", laid_proofmark_rv_f3), ("proofmark/rv.rs1", laid_proofmark_rv_rs1), ("proofmark/rv.rs2", laid_proofmark_rv_rs2), ("proofmark/rv.f7", laid_proofmark_rv_f7)], narrowed := true }
def RegionsMovedUptoSaid : Prop := regionsMovedUptoRow.holds Tryz.pinned (OpenSpec.upto regionsMovedSpec)

/-- 'proofmarklaw22.RegionsCalls', WHERE WHAT IT READS IS OF BULK AT MOST 1048576: true; the input reads as it did. -/
def regionsCallsUptoRow : OpenClaim := { program := "ytaidbdgndljaeaagreatdoor", sum := "2ffc870d24cb1af8d223d7bae8115f4e7ce565aaf0fad2396e348e958c7dacbd", func := "proofmark/proofmarklaw22.RegionsCalls", spec := "regionsCalls", unfollowed := true, recurses := true, named := ["proofmark/rv.rd", "proofmark/rv.rs1", "proofmark/rv.rs2", "proofmark/rv.f3", "proofmark/rv.f7"], apart := false, laid := [("proofmark/rv.rd", laid_proofmark_rv_rd), ("proofmark/rv.f3", laid_proofmark_rv_f3), ("proofmark/rv.rs1", laid_proofmark_rv_rs1), ("proofmark/rv.rs2", laid_proofmark_rv_rs2), ("proofmark/rv.f7", laid_proofmark_rv_f7)], narrowed := true }
def RegionsCallsUptoSaid : Prop := regionsCallsUptoRow.holds Tryz.pinned (OpenSpec.upto regionsCallsSpec)

/-- 'proofmarklaw22.RegionsKnown', WHERE WHAT IT READS IS OF BULK AT MOST 1048576: true; the input reads as it did. -/
def regionsKnownUptoRow : OpenClaim := { program := "ytaidbdgndljaeaagreatdoor", sum := "2ffc870d24cb1af8d223d7bae8115f4e7ce565aaf0fad2396e348e958c7dacbd", func := "proofmark/proofmarklaw22.RegionsKnown", spec := "regionsKnown", unfollowed := true, recurses := true, named := ["proofmark/rv.rd", "proofmark/rv.rs1", "proofmark/rv.rs2", "proofmark/rv.f3", "proofmark/rv.f7"], apart := false, laid := [("proofmark/rv.rd", laid_proofmark_rv_rd), ("proofmark/rv.f3", laid_proofmark_rv_f3), ("proofmark/rv.rs1", laid_proofmark_rv_rs1), ("proofmark/rv.rs2", laid_proofmark_rv_rs2), ("proofmark/rv.f7", laid_proofmark_rv_f7)], narrowed := true }
def RegionsKnownUptoSaid : Prop := regionsKnownUptoRow.holds Tryz.pinned (OpenSpec.upto regionsKnownSpec)

end Rows
end Go.Proofs.YtaidbdgndljaeaaGreatDoor
