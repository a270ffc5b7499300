/- A logic of programs over abstract values: joined QaS. -/
import Derived.Test.YtpdeoalocejodaaGreatDoorAmB
namespace Go.Am
open Go
def Z3 {α : Type} (n : Nat) (K : Nat → α) : α := match n with
 | 0 => K 0
 | k + 1 => K (k + 1)
theorem Yj {α : Type} (n : Nat) (K : Nat → α) : Z3 n K = K n := by cases n <;> rfl
def Qqe {α : Type} (n : Int) (K : Int → α) : α := match n with
 | .ofNat m => Z3 m fun m => K (.ofNat m)
 | .negSucc m => Z3 m fun m => K (.negSucc m)
theorem QsQ {α : Type} (n : Int) (K : Int → α) : Qqe n K = K n := by cases n <;> simp [Qqe, Yj]
mutual
def Y0 : V → (V → Bool) → Bool
 | .int k n, K => Qqe n fun n => K (.int k n)
 | .bool b, K => if b then K (.bool true) else K (.bool false)
 | .ptr n v off, K => Z3 n fun n => Z3 v fun v => Z3 off fun off => K (.ptr n v off)
 | .sl n v off sz len lim, K => Z3 n fun n => Z3 v fun v => Z3 off fun off => Z3 len fun len => match lim with
   | none => K (.sl n v off sz len none)
   | some c => Z3 c fun c => K (.sl n v off sz len (some c))
 | .mp n v, K => Z3 n fun n => Z3 v fun v => K (.mp n v)
 | .agg l, K => Qdo l fun l => K (.agg l)
 | .tup l, K => Qdo l fun l => K (.tup l)
 | .lst sz l t, K => Qdo l fun l => if t then K (.lst sz l true) else K (.lst sz l false)
 | .ref x off, K => Y0 x fun x => Z3 off fun off => K (.ref x off)
 | .any, K => K .any
 | .str s, K => Qkh s fun s => K (.str s)
 | .val x, K => K (.val x)
 | .fn f l m, K => Qdo l fun l => Qdo m fun m => K (.fn f l m)
 | .iface t x, K => Y0 x fun x => K (.iface t x)
def Qdo : List V → (List V → Bool) → Bool
 | [], K => K []
 | v :: l, K => Y0 v fun v => Qdo l fun l => K (v :: l)
def Qkh : List UInt8 → (List UInt8 → Bool) → Bool
 | [], K => K []
 | b :: l, K => Qkh l fun l => K (b :: l)
end
theorem Qlv : ∀ (l : List UInt8) (K : List UInt8 → Bool), Qkh l K = K l
 | [], _ => by rw [Qkh]
 | b :: l, K => by rw [Qkh, Qlv l]
mutual
theorem Qh4 : ∀ (v : V) (K : V → Bool), Y0 v K = K v
 | .int k n, K => by rw [Y0, QsQ]
 | .bool b, K => by cases b <;> rw [Y0] <;> rfl
 | .ptr n v off, K => by rw [Y0, Yj, Yj, Yj]
 | .sl n v off sz len lim, K => by rw [Y0, Yj, Yj, Yj, Yj]; cases lim <;> simp [Yj]
 | .mp n v, K => by rw [Y0, Yj, Yj]
 | .agg l, K => by rw [Y0, Qbt l]
 | .tup l, K => by rw [Y0, Qbt l]
 | .lst sz l t, K => by rw [Y0, Qbt l]; cases t <;> rfl
 | .ref x off, K => by rw [Y0, Qh4 x, Yj]
 | .any, K => by rw [Y0]
 | .str s, K => by rw [Y0, Qlv]
 | .val x, K => by rw [Y0]
 | .fn f l m, K => by rw [Y0, Qbt l, Qbt m]
 | .iface t x, K => by rw [Y0, Qh4 x]
theorem Qbt : ∀ (l : List V) (K : List V → Bool), Qdo l K = K l
 | [], K => by rw [Qdo]
 | v :: l, K => by rw [Qdo, Qh4 v, Qbt l]
end
section
variable (G : Nat → Option V)
end
section
variable (G : Nat → Option V)
end
section
variable (G : Nat → Option V)
end
section
variable (P : Program) (G : Nat → Option V)
end
section
variable (P : Program) (G : Nat → Option V)
def Qj (T : Nat → Option AF) : Prop := ∀ f A, T f = some A → Qk P f = true ∧ ∃ M dd, QH P M dd f = some A
end
end Go.Am
