/- A logic of programs over abstract values: joined texts. -/
import Derived.Test.YtingdebioipemaaAmB
namespace Go.Am
open Go
def Y8 {α:Type} (n:Nat) (K:Nat→α):α:=match n with
 | 0=>K 0
 | k+1=>K (k+1)
theorem XC {α:Type} (n:Nat) (K:Nat→α):Y8 n K=K n:=by cases n <;> rfl
def Qk8 {α:Type} (n:Int) (K:Int→α):α:=match n with
 | .ofNat m=>Y8 m fun m=>K (.ofNat m)
 | .negSucc m=>Y8 m fun m=>K (.negSucc m)
theorem Qne {α:Type} (n:Int) (K:Int→α):Qk8 n K=K n:=by cases n <;> simp [Qk8,XC]
mutual
def Yn:V→(V→Bool)→Bool
 | .int k n,K=>Qk8 n fun n=>K (.int k n)
 | .bool b,K=>if b then K (.bool true) else K (.bool false)
 | .ptr n v off,K=>Y8 n fun n=>Y8 v fun v=>Y8 off fun off=>K (.ptr n v off)
 | .sl n v off sz len lim,K=>Y8 n fun n=>Y8 v fun v=>Y8 off fun off=>Y8 len fun len=>match lim with
   | none=>K (.sl n v off sz len none)
   | some c=>Y8 c fun c=>K (.sl n v off sz len (some c))
 | .mp n v,K=>Y8 n fun n=>Y8 v fun v=>K (.mp n v)
 | .agg l,K=>QbV l fun l=>K (.agg l)
 | .tup l,K=>QbV l fun l=>K (.tup l)
 | .lst sz l t,K=>QbV l fun l=>if t then K (.lst sz l true) else K (.lst sz l false)
 | .ref x off,K=>Yn x fun x=>Y8 off fun off=>K (.ref x off)
 | .any,K=>K .any
 | .str s,K=>QgX s fun s=>K (.str s)
 | .val x,K=>K (.val x)
 | .fn f l m,K=>QbV l fun l=>QbV m fun m=>K (.fn f l m)
 | .iface t x,K=>Yn x fun x=>K (.iface t x)
def QbV:List V→(List V→Bool)→Bool
 | [],K=>K []
 | v::l,K=>Yn v fun v=>QbV l fun l=>K (v::l)
def QgX:List UInt8→(List UInt8→Bool)→Bool
 | [],K=>K []
 | b::l,K=>QgX l fun l=>K (b::l)
end
theorem Qib:∀ (l:List UInt8) (K:List UInt8→Bool),QgX l K=K l
 | [],_=>by rw [QgX]
 | b::l,K=>by rw [QgX,Qib l]
mutual
theorem Qfe:∀ (v:V) (K:V→Bool),Yn v K=K v
 | .int k n,K=>by rw [Yn,Qne]
 | .bool b,K=>by cases b <;> rw [Yn] <;> rfl
 | .ptr n v off,K=>by rw [Yn,XC,XC,XC]
 | .sl n v off sz len lim,K=>by rw [Yn,XC,XC,XC,XC]; cases lim <;> simp [XC]
 | .mp n v,K=>by rw [Yn,XC,XC]
 | .agg l,K=>by rw [Yn,Qaf l]
 | .tup l,K=>by rw [Yn,Qaf l]
 | .lst sz l t,K=>by rw [Yn,Qaf l]; cases t <;> rfl
 | .ref x off,K=>by rw [Yn,Qfe x,XC]
 | .any,K=>by rw [Yn]
 | .str s,K=>by rw [Yn,Qib]
 | .val x,K=>by rw [Yn]
 | .fn f l m,K=>by rw [Yn,Qaf l,Qaf m]
 | .iface t x,K=>by rw [Yn,Qfe x]
theorem Qaf:∀ (l:List V) (K:List V→Bool),QbV l K=K l
 | [],K=>by rw [QbV]
 | v::l,K=>by rw [QbV,Qfe v,Qaf l]
end
section
variable (G:Nat→Option V)
end
section
variable (G:Nat→Option V)
end
section
variable (G:Nat→Option V)
end
section
variable (P:Program) (G:Nat→Option V)
end
section
variable (P:Program) (G:Nat→Option V)
def Qj (T:Nat→Option AF):Prop:=∀ f A,T f=some A→Qm P f=true∧∃ M dd,QE P M dd f=some A
end
end Go.Am
