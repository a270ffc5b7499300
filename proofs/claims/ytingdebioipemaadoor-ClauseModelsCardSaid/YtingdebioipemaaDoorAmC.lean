/- A logic of programs over abstract values: joined texts. -/
import Derived.Test.YtingdebioipemaaDoorAmB

/- Running on abstract values: an interpreter whose success is a contract. -/
namespace Go.Am
open Go
def strictN {α : Type} (n : Nat) (K : Nat → α) : α := match n with
  | 0 => K 0
  | k + 1 => K (k + 1)
theorem strictN_eq {α : Type} (n : Nat) (K : Nat → α) : strictN n K = K n := by cases n <;> rfl
def strictI {α : Type} (n : Int) (K : Int → α) : α := match n with
  | .ofNat m => strictN m fun m => K (.ofNat m)
  | .negSucc m => strictN m fun m => K (.negSucc m)
theorem strictI_eq {α : Type} (n : Int) (K : Int → α) : strictI n K = K n := by cases n <;> simp [strictI, strictN_eq]
mutual
def strictV : V → (V → Bool) → Bool
  | .int k n, K => strictI n fun n => K (.int k n)
  | .bool b, K => if b then K (.bool true) else K (.bool false)
  | .ptr n v off, K => strictN n fun n => strictN v fun v => strictN off fun off => K (.ptr n v off)
  | .sl n v off sz len lim, K => strictN n fun n => strictN v fun v => strictN off fun off => strictN len fun len => match lim with
    | none => K (.sl n v off sz len none)
    | some c => strictN c fun c => K (.sl n v off sz len (some c))
  | .mp n v, K => strictN n fun n => strictN v fun v => K (.mp n v)
  | .agg l, K => strictL l fun l => K (.agg l)
  | .tup l, K => strictL l fun l => K (.tup l)
  | .lst sz l t, K => strictL l fun l => if t then K (.lst sz l true) else K (.lst sz l false)
  | .ref x off, K => strictV x fun x => strictN off fun off => K (.ref x off)
  | .any, K => K .any
  | .str s, K => strictS s fun s => K (.str s)
  | .val x, K => K (.val x)
  | .fn f l m, K => strictL l fun l => strictL m fun m => K (.fn f l m)
  | .iface t x, K => strictV x fun x => K (.iface t x)
def strictL : List V → (List V → Bool) → Bool
  | [], K => K []
  | v :: l, K => strictV v fun v => strictL l fun l => K (v :: l)
def strictS : List UInt8 → (List UInt8 → Bool) → Bool
  | [], K => K []
  | b :: l, K => strictS l fun l => K (b :: l)
end
theorem strictS_eq : ∀ (l : List UInt8) (K : List UInt8 → Bool), strictS l K = K l
  | [], _ => by rw [strictS]
  | b :: l, K => by rw [strictS, strictS_eq l]
mutual
theorem strictV_eq : ∀ (v : V) (K : V → Bool), strictV v K = K v
  | .int k n, K => by rw [strictV, strictI_eq]
  | .bool b, K => by cases b <;> rw [strictV] <;> rfl
  | .ptr n v off, K => by rw [strictV, strictN_eq, strictN_eq, strictN_eq]
  | .sl n v off sz len lim, K => by rw [strictV, strictN_eq, strictN_eq, strictN_eq, strictN_eq]; cases lim <;> simp [strictN_eq]
  | .mp n v, K => by rw [strictV, strictN_eq, strictN_eq]
  | .agg l, K => by rw [strictV, strictL_eq l]
  | .tup l, K => by rw [strictV, strictL_eq l]
  | .lst sz l t, K => by rw [strictV, strictL_eq l]; cases t <;> rfl
  | .ref x off, K => by rw [strictV, strictV_eq x, strictN_eq]
  | .any, K => by rw [strictV]
  | .str s, K => by rw [strictV, strictS_eq]
  | .val x, K => by rw [strictV]
  | .fn f l m, K => by rw [strictV, strictL_eq l, strictL_eq m]
  | .iface t x, K => by rw [strictV, strictV_eq x]
theorem strictL_eq : ∀ (l : List V) (K : List V → Bool), strictL l K = K l
  | [], K => by rw [strictL]
  | v :: l, K => by rw [strictL, strictV_eq v, strictL_eq l]
end
section
variable (G : Nat → Option V)
end
end Go.Am

/- The interpreter: reads and writes. -/
namespace Go.Am
open Go
section
variable (G : Nat → Option V)
end
end Go.Am

/- The interpreter: writes. -/
namespace Go.Am
open Go
section
variable (G : Nat → Option V)
end
end Go.Am

/- The interpreter: lists of operations, code, functions. -/
namespace Go.Am
open Go
section
variable (P : Program) (G : Nat → Option V)
end
end Go.Am

/- The interpreter: functions. -/
namespace Go.Am
open Go
section
variable (P : Program) (G : Nat → Option V)
def TabOk (T : Nat → Option AF) : Prop := ∀ f A, T f = some A → bodied P f = true ∧ ∃ M dd, compF P M dd f = some A
end
end Go.Am
