/- The tables; the fields of words: walked. -/
import Derived.Test.YtkhdfbokkneeaaaDoorTabB
import Derived.Test.YtkhdfbokkneeaaaDoorRvG
import Derived.Test.YtkhdfbokkneeaaaDoorAmD
import Derived.KernelRfl
namespace Go.Proofs.YtkhdfbokkneeaaaDoor
open Go Go.Am Go.Rv
set_option maxRecDepth 100000
variable {P : Program}

def pr (a b : Int) : V := .agg [.int .i64 a, .int .i64 b]
/-- The package-level variables that are read. -/
def G0 : Nat → Option V := fun g => match g with
  | 0 => some (pr 7 5) | 1 => some (pr 15 5) | 2 => some (pr 20 5) | 3 => some (pr 12 3) | 4 => some (pr 25 7)
  | 5 => some (tabV .u64 Lib.pow10Tab) | _ => none

/-- A form, as the program has it. -/
def bitsV (l : List (Nat × Nat)) : V := match l with
  | [] => .lst 0 [] true
  | b :: l => .lst 2 ((b :: l).map fun b => pr b.1 b.2) true
def formC (f : Int) : List V := [.bool (hasRd f), .bool (hasR1 f), .bool (hasR2 f), bitsV (bitsOf f), .int .i64 (nghts f), .bool (isSgn f), .int .u32 (maskOf f)]
def rowC (r : RR) : List V := formC r.form ++ [.str r.name, .int .u32 (matchOf r)]
def zeroC : List V := [.bool false, .bool false, .bool false, .lst 0 [] true, .int .i64 0, .bool false, .int .u32 0, .str [], .int .u32 0]
def tabC : List V := zeroC ++ (T.map rowC).flatten
def rrC (r : RR) : List V := [.int .u8 r.form, .str r.name, .int .u32 r.code, .int .u32 r.f3, .int .u32 r.f7]

theorem c_table (hT : TabOk P tab) : Pure P G0 n_rv_table [] fun v => v = .agg tabC :=
  run_pure hT 200 80 (.agg tabC) (fun v => veq v (.agg tabC)) (veq_ok _) rfl (by kernel_rfl)
theorem c_rows (hT : TabOk P tab) : Pure P G0 n_proofmarkref10_rows [] fun v => v = .lst 5 (T.map fun r => .agg (rrC r)) true :=
  run_pure hT 200 80 (.lst 5 (T.map fun r => .agg (rrC r)) true) (fun v => veq v (.lst 5 (T.map fun r => .agg (rrC r)) true)) (veq_ok _) rfl (by kernel_rfl)
end Go.Proofs.YtkhdfbokkneeaaaDoor
