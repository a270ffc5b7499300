/-
  No cell of these rows narrows 'for every input' (looked for: loops, veiled, ifaces, maps, wideKeys, modest, calm, conditions, laid).
  DERIVED. THE GIVEN ROWS OF THIS SEAT. 5 by the template 'for every input the law returns true; each argument reads behind the call as it read before'; 0 by the template 'total and deterministic' (their statements: YtingdebioipemaaTotals.lean).
  GIVEN WITH THE SEED: the statements are not yours to turn. If you find one false, say at which input.
  Laid BY PROGRAM, IN A SANDBOX (cutbox-rows.mjs): the forced cells as the released guide's own fill.sh prints them over the translation 5a33a357fb05b7f1… (all of the seat's roots in one cut). By AI agents, Wed Nov 11 2026. No macro, syntax, notation, axiom, sorry.
-/
import Derived.Test.YtingdebioipemaaChecked
import GoSem.Claim
import GoSem.ClaimJoined
import GoSem.ClaimMapViews
import Derived.JoinedTies
import Derived.KernelRfl
namespace Go.Proofs.Ytingdebioipemaa
/- THE CELL 'sum', in the pinned program and in every row, IS THE sha256 OF THE DUMP (.gsa) THAT YtingdebioipemaaProg.lean LOADS. Nothing in Lean hashes anything: it is a label: what it is worth is what the hold of that sum in a sandbox is worth. -/
noncomputable def Try.pinned : Pinned := { name := "ytingdebioipemaa", sum := "5a33a357fb05b7f197b4608edb0bb2c5b06c51f5b726d0545d58cd250eb887f5", checked := Try.checked }
namespace Rows
def none {H : Type} : Left H := { results := [], args := [] }

/-- 'proofmarklaw08.RupCheck': WHATEVER THE INPUT: true; the input reads as it did. -/
def rupCheckSpec : ChangeSpec := { name := "rupCheck", fn := fun _ => fun
  | [d1, d2, d3] => { results := [.lit (.bool true)], args := [d1, d2, d3] }
  | _ => none }
def rupCheckRow : OpenClaim := { program := "ytingdebioipemaa", sum := "5a33a357fb05b7f197b4608edb0bb2c5b06c51f5b726d0545d58cd250eb887f5", func := "proofmark/proofmarklaw08.RupCheck", spec := "rupCheck", unfollowed := true, recurses := true, apart := false }
def RupCheckSaid : Prop := rupCheckRow.holds Try.pinned (OpenSpec.ofChange rupCheckSpec)

/-- ITS FALSE NEIGHBOUR: 'it returns false'. Refute it at one input. -/
def rupCheckWrong : ChangeSpec := { name := "rupCheck", fn := fun _ => fun
  | [d1, d2, d3] => { results := [.lit (.bool false)], args := [d1, d2, d3] }
  | _ => none }
def RupCheckWrongFalsely : Prop := rupCheckRow.holds Try.pinned (OpenSpec.ofChange rupCheckWrong)

/-- 'proofmarklaw08.RupTrue': WHATEVER THE INPUT: true; the input reads as it did. -/
def rupTrueSpec : ChangeSpec := { name := "rupTrue", fn := fun _ => fun
  | [d1, d2] => { results := [.lit (.bool true)], args := [d1, d2] }
  | _ => none }
def rupTrueRow : OpenClaim := { program := "ytingdebioipemaa", sum := "5a33a357fb05b7f197b4608edb0bb2c5b06c51f5b726d0545d58cd250eb887f5", func := "proofmark/proofmarklaw08.RupTrue", spec := "rupTrue", unfollowed := true, recurses := true, apart := false }
def RupTrueSaid : Prop := rupTrueRow.holds Try.pinned (OpenSpec.ofChange rupTrueSpec)

/-- ITS FALSE NEIGHBOUR: 'it returns false'. Refute it at one input. -/
def rupTrueWrong : ChangeSpec := { name := "rupTrue", fn := fun _ => fun
  | [d1, d2] => { results := [.lit (.bool false)], args := [d1, d2] }
  | _ => none }
def RupTrueWrongFalsely : Prop := rupTrueRow.holds Try.pinned (OpenSpec.ofChange rupTrueWrong)

/-- 'proofmarklaw08.RupMore': WHATEVER THE INPUT: true; the input reads as it did. -/
def rupMoreSpec : ChangeSpec := { name := "rupMore", fn := fun _ => fun
  | [d1, d2, d3] => { results := [.lit (.bool true)], args := [d1, d2, d3] }
  | _ => none }
def rupMoreRow : OpenClaim := { program := "ytingdebioipemaa", sum := "5a33a357fb05b7f197b4608edb0bb2c5b06c51f5b726d0545d58cd250eb887f5", func := "proofmark/proofmarklaw08.RupMore", spec := "rupMore", unfollowed := true, recurses := true, apart := false }
def RupMoreSaid : Prop := rupMoreRow.holds Try.pinned (OpenSpec.ofChange rupMoreSpec)

/-- ITS FALSE NEIGHBOUR: 'it returns false'. Refute it at one input. -/
def rupMoreWrong : ChangeSpec := { name := "rupMore", fn := fun _ => fun
  | [d1, d2, d3] => { results := [.lit (.bool false)], args := [d1, d2, d3] }
  | _ => none }
def RupMoreWrongFalsely : Prop := rupMoreRow.holds Try.pinned (OpenSpec.ofChange rupMoreWrong)

/-- 'proofmarklaw08.RupUnits': WHATEVER THE INPUT: true; the input reads as it did. -/
def rupUnitsSpec : ChangeSpec := { name := "rupUnits", fn := fun _ => fun
  | [d1, d2, d3] => { results := [.lit (.bool true)], args := [d1, d2, d3] }
  | _ => none }
def rupUnitsRow : OpenClaim := { program := "ytingdebioipemaa", sum := "5a33a357fb05b7f197b4608edb0bb2c5b06c51f5b726d0545d58cd250eb887f5", func := "proofmark/proofmarklaw08.RupUnits", spec := "rupUnits", unfollowed := true, recurses := true, apart := false }
def RupUnitsSaid : Prop := rupUnitsRow.holds Try.pinned (OpenSpec.ofChange rupUnitsSpec)

/-- ITS FALSE NEIGHBOUR: 'it returns false'. Refute it at one input. -/
def rupUnitsWrong : ChangeSpec := { name := "rupUnits", fn := fun _ => fun
  | [d1, d2, d3] => { results := [.lit (.bool false)], args := [d1, d2, d3] }
  | _ => none }
def RupUnitsWrongFalsely : Prop := rupUnitsRow.holds Try.pinned (OpenSpec.ofChange rupUnitsWrong)

/-- 'proofmarklaw08.RupKnown': WHATEVER THE INPUT: true; the input reads as it did. -/
def rupKnownSpec : ChangeSpec := { name := "rupKnown", fn := fun _ => fun
  | [] => { results := [.lit (.bool true)], args := [] }
  | _ => none }
def rupKnownRow : OpenClaim := { program := "ytingdebioipemaa", sum := "5a33a357fb05b7f197b4608edb0bb2c5b06c51f5b726d0545d58cd250eb887f5", func := "proofmark/proofmarklaw08.RupKnown", spec := "rupKnown", unfollowed := true, recurses := true, apart := false }
def RupKnownSaid : Prop := rupKnownRow.holds Try.pinned (OpenSpec.ofChange rupKnownSpec)

/-- ITS FALSE NEIGHBOUR: 'it returns false'. Refute it at one input. -/
def rupKnownWrong : ChangeSpec := { name := "rupKnown", fn := fun _ => fun
  | [] => { results := [.lit (.bool false)], args := [] }
  | _ => none }
def RupKnownWrongFalsely : Prop := rupKnownRow.holds Try.pinned (OpenSpec.ofChange rupKnownWrong)

/- THE SECOND FORM. 'bulk': how many values and letters a reading holds, each counted each time it is reached (what is shared counts as often as it is met; a slice's spare places count too). A statement '..UptoSaid' is the law's where the arguments, and the package variables that the reading takes, are together of bulk at most 1048576: NARROWER than '..Said'. Prove '..Said' where nothing that the law and all that it calls make is longer than what came in: it says more and counts as full. Else prove '..UptoSaid'. A law counts once. -/
mutual
def uptoBulk {H : Type} : DataW H → Nat
  | .lit (.string bytes) => bytes.length + 1
  | .lit _ => 1
  | .nil => 1
  | .ptr d => uptoBulk d + 1
  | .slice elems spare => uptoBulkAll elems + uptoBulkAll spare + 1
  | .agg parts => uptoBulkAll parts + 1
  | .iface _ d => uptoBulk d + 1
  | .map entries => uptoBulkEntries entries + 1
  | .held _ => 1
def uptoBulkAll {H : Type} : List (DataW H) → Nat
  | [] => 0
  | d :: r => uptoBulk d + uptoBulkAll r
def uptoBulkEntries {H : Type} : List (Lit × DataW H) → Nat
  | [] => 0
  | x :: r => uptoBulkEntry x + uptoBulkEntries r
def uptoBulkEntry {H : Type} : Lit × DataW H → Nat
  | (.string bytes, d) => bytes.length + uptoBulk d + 1
  | (_, d) => uptoBulk d + 1
 end
def uptoSmall : (H : Type) → List (DataW H) → Bool := fun _ ds => decide (uptoBulkAll ds ≤ 1048576)
def OpenSpec.upto (s : _root_.Go.ChangeSpec) : _root_.Go.OpenSpec := { _root_.Go.OpenSpec.ofChange s with cond := some uptoSmall }

/-- 'proofmarklaw08.RupCheck', WHERE WHAT IT READS IS OF BULK AT MOST 1048576: true; the input reads as it did. -/
def rupCheckUptoRow : OpenClaim := { program := "ytingdebioipemaa", sum := "5a33a357fb05b7f197b4608edb0bb2c5b06c51f5b726d0545d58cd250eb887f5", func := "proofmark/proofmarklaw08.RupCheck", spec := "rupCheck", unfollowed := true, recurses := true, apart := false, narrowed := true }
def RupCheckUptoSaid : Prop := rupCheckUptoRow.holds Try.pinned (OpenSpec.upto rupCheckSpec)

/-- 'proofmarklaw08.RupTrue', WHERE WHAT IT READS IS OF BULK AT MOST 1048576: true; the input reads as it did. -/
def rupTrueUptoRow : OpenClaim := { program := "ytingdebioipemaa", sum := "5a33a357fb05b7f197b4608edb0bb2c5b06c51f5b726d0545d58cd250eb887f5", func := "proofmark/proofmarklaw08.RupTrue", spec := "rupTrue", unfollowed := true, recurses := true, apart := false, narrowed := true }
def RupTrueUptoSaid : Prop := rupTrueUptoRow.holds Try.pinned (OpenSpec.upto rupTrueSpec)

/-- 'proofmarklaw08.RupMore', WHERE WHAT IT READS IS OF BULK AT MOST 1048576: true; the input reads as it did. -/
def rupMoreUptoRow : OpenClaim := { program := "ytingdebioipemaa", sum := "5a33a357fb05b7f197b4608edb0bb2c5b06c51f5b726d0545d58cd250eb887f5", func := "proofmark/proofmarklaw08.RupMore", spec := "rupMore", unfollowed := true, recurses := true, apart := false, narrowed := true }
def RupMoreUptoSaid : Prop := rupMoreUptoRow.holds Try.pinned (OpenSpec.upto rupMoreSpec)

/-- 'proofmarklaw08.RupUnits', WHERE WHAT IT READS IS OF BULK AT MOST 1048576: true; the input reads as it did. -/
def rupUnitsUptoRow : OpenClaim := { program := "ytingdebioipemaa", sum := "5a33a357fb05b7f197b4608edb0bb2c5b06c51f5b726d0545d58cd250eb887f5", func := "proofmark/proofmarklaw08.RupUnits", spec := "rupUnits", unfollowed := true, recurses := true, apart := false, narrowed := true }
def RupUnitsUptoSaid : Prop := rupUnitsUptoRow.holds Try.pinned (OpenSpec.upto rupUnitsSpec)

/-- 'proofmarklaw08.RupKnown', WHERE WHAT IT READS IS OF BULK AT MOST 1048576: true; the input reads as it did. -/
def rupKnownUptoRow : OpenClaim := { program := "ytingdebioipemaa", sum := "5a33a357fb05b7f197b4608edb0bb2c5b06c51f5b726d0545d58cd250eb887f5", func := "proofmark/proofmarklaw08.RupKnown", spec := "rupKnown", unfollowed := true, recurses := true, apart := false, narrowed := true }
def RupKnownUptoSaid : Prop := rupKnownUptoRow.holds Try.pinned (OpenSpec.upto rupKnownSpec)

end Rows
end Go.Proofs.Ytingdebioipemaa
