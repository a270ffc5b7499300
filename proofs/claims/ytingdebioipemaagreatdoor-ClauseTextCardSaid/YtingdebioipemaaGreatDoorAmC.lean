/- A logic of programs over abstract values: joined texts. -/
import Derived.Test.YtingdebioipemaaGreatDoorAmB
namespace Go.Am
open Go
def Yb {α:Type} (n:Nat) (K:Nat→α):α:=match n with
 | 0=>K 0
 | k+1=>K (k+1)
theorem Q1 {α:Type} (n:Nat) (K:Nat→α):Yb n K=K n:=by cases n <;> rfl
def Qh5 {α:Type} (n:Int) (K:Int→α):α:=match n with
 | .ofNat m=>Yb m fun m=>K (.ofNat m)
 | .negSucc m=>Yb m fun m=>K (.negSucc m)
theorem QjK {α:Type} (n:Int) (K:Int→α):Qh5 n K=K n:=by cases n <;> simp [Qh5,Q1]
mutual
def Xz:V→(V→Bool)→Bool
 | .int k n,K=>Qh5 n fun n=>K (.int k n)
 | .bool b,K=>if b then K (.bool true) else K (.bool false)
 | .ptr n v off,K=>Yb n fun n=>Yb v fun v=>Yb off fun off=>K (.ptr n v off)
 | .sl n v off sz len lim,K=>Yb n fun n=>Yb v fun v=>Yb off fun off=>Yb len fun len=>match lim with
   | none=>K (.sl n v off sz len none)
   | some c=>Yb c fun c=>K (.sl n v off sz len (some c))
 | .mp n v,K=>Yb n fun n=>Yb v fun v=>K (.mp n v)
 | .agg l,K=>Qaf l fun l=>K (.agg l)
 | .tup l,K=>Qaf l fun l=>K (.tup l)
 | .lst sz l t,K=>Qaf l fun l=>if t then K (.lst sz l true) else K (.lst sz l false)
 | .ref x off,K=>Xz x fun x=>Yb off fun off=>K (.ref x off)
 | .any,K=>K .any
 | .str s,K=>Qep s fun s=>K (.str s)
 | .val x,K=>K (.val x)
 | .fn f l m,K=>Qaf l fun l=>Qaf m fun m=>K (.fn f l m)
 | .iface t x,K=>Xz x fun x=>K (.iface t x)
def Qaf:List V→(List V→Bool)→Bool
 | [],K=>K []
 | v::l,K=>Xz v fun v=>Qaf l fun l=>K (v::l)
def Qep:List UInt8→(List UInt8→Bool)→Bool
 | [],K=>K []
 | b::l,K=>Qep l fun l=>K (b::l)
end
theorem Qft:∀ (l:List UInt8) (K:List UInt8→Bool),Qep l K=K l
 | [],_=>by rw [Qep]
 | b::l,K=>by rw [Qep,Qft l]
mutual
theorem QcM:∀ (v:V) (K:V→Bool),Xz v K=K v
 | .int k n,K=>by rw [Xz,QjK]
 | .bool b,K=>by cases b <;> rw [Xz] <;> rfl
 | .ptr n v off,K=>by rw [Xz,Q1,Q1,Q1]
 | .sl n v off sz len lim,K=>by rw [Xz,Q1,Q1,Q1,Q1]; cases lim <;> simp [Q1]
 | .mp n v,K=>by rw [Xz,Q1,Q1]
 | .agg l,K=>by rw [Xz,Y4 l]
 | .tup l,K=>by rw [Xz,Y4 l]
 | .lst sz l t,K=>by rw [Xz,Y4 l]; cases t <;> rfl
 | .ref x off,K=>by rw [Xz,QcM x,Q1]
 | .any,K=>by rw [Xz]
 | .str s,K=>by rw [Xz,Qft]
 | .val x,K=>by rw [Xz]
 | .fn f l m,K=>by rw [Xz,Y4 l,Y4 m]
 | .iface t x,K=>by rw [Xz,QcM x]
theorem Y4:∀ (l:List V) (K:List V→Bool),Qaf l K=K l
 | [],K=>by rw [Qaf]
 | v::l,K=>by rw [Qaf,QcM v,Y4 l]
end
section
variable (G:Nat→Option V)
end
section
variable (G:Nat→Option V)
end
section
variable (G:Nat→Option V)
end
section
variable (P:Program) (G:Nat→Option V)
end
section
variable (P:Program) (G:Nat→Option V)
def Qq (T:Nat→Option AF):Prop:=∀ f A,T f=some A→Qp P f=true∧∃ M dd,QP P M dd f=some A
end
end Go.Am
