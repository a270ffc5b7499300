/- Contracts: the document's side of clauses: right formulas, models. -/
import Derived.Test.YtingdebioipemaaDoorJ2
/- Contracts: the document's side of clauses: right formulas, models. -/
namespace Go.Proofs.YtingdebioipemaaDoor
open Go Go.Am Go.Cl
set_option maxRecDepth 100000
variable {P : Program} {G : Nat → Option V}
end Go.Proofs.YtingdebioipemaaDoor
/- Contracts: the document's side of clauses: what holds in a model. -/
namespace Go.Proofs.YtingdebioipemaaDoor
open Go Go.Am Go.Cl
set_option maxRecDepth 100000
variable {P : Program} {G : Nat → Option V}
def bools (m : List Bool) : V := .lst 1 (m.map V.bool) false
theorem wself {n : Int} (h : -9223372036854775808 ≤ n ∧ n ≤ 9223372036854775807) : IntKind.i64.wrap n = n := by
  rw [wrap_id]
  · simp [IntKind.min, IntKind.signed, IntKind.bits]; omega
  · simp [IntKind.max, IntKind.signed, IntKind.bits]; omega
end Go.Proofs.YtingdebioipemaaDoor
/- Contracts: the document's side of clauses: clean ones. -/
namespace Go.Proofs.YtingdebioipemaaDoor
open Go Go.Am Go.Cl
set_option maxRecDepth 100000
variable {P : Program} {G : Nat → Option V}
end Go.Proofs.YtingdebioipemaaDoor
/- Contracts: the document's side of clauses: literals let hold; the literals gone through. -/
namespace Go.Proofs.YtingdebioipemaaDoor
open Go Go.Am Go.Cl
set_option maxRecDepth 100000
variable {P : Program} {G : Nat → Option V}
end Go.Proofs.YtingdebioipemaaDoor
/- Contracts: the document's side of clauses: literals let hold; a clause gone through. -/
namespace Go.Proofs.YtingdebioipemaaDoor
open Go Go.Am Go.Cl
set_option maxRecDepth 100000
variable {P : Program} {G : Nat → Option V}
end Go.Proofs.YtingdebioipemaaDoor
/- Contracts: the document's side of clauses: literals let hold; the clauses gone through. -/
namespace Go.Proofs.YtingdebioipemaaDoor
open Go Go.Am Go.Cl
set_option maxRecDepth 100000
variable {P : Program} {G : Nat → Option V}
end Go.Proofs.YtingdebioipemaaDoor
/- Contracts: the document's side of clauses: literals let hold. -/
namespace Go.Proofs.YtingdebioipemaaDoor
open Go Go.Am Go.Cl
set_option maxRecDepth 100000
variable {P : Program} {G : Nat → Option V}
end Go.Proofs.YtingdebioipemaaDoor
