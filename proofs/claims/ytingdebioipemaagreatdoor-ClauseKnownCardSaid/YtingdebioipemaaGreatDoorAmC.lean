/- A logic of programs over abstract values: joined texts. -/
import Derived.Test.YtingdebioipemaaGreatDoorAmB
namespace Go.Am
open Go
def Zl {α:Type} (n:Nat) (K:Nat→α):α:=match n with
 | 0=>K 0
 | k+1=>K (k+1)
theorem XO {α:Type} (n:Nat) (K:Nat→α):Zl n K=K n:=by cases n <;> rfl
def Qmi {α:Type} (n:Int) (K:Int→α):α:=match n with
 | .ofNat m=>Zl m fun m=>K (.ofNat m)
 | .negSucc m=>Zl m fun m=>K (.negSucc m)
theorem QoA {α:Type} (n:Int) (K:Int→α):Qmi n K=K n:=by cases n <;> simp [Qmi,XO]
mutual
def YA:V→(V→Bool)→Bool
 | .int k n,K=>Qmi n fun n=>K (.int k n)
 | .bool b,K=>if b then K (.bool true) else K (.bool false)
 | .ptr n v off,K=>Zl n fun n=>Zl v fun v=>Zl off fun off=>K (.ptr n v off)
 | .sl n v off sz len lim,K=>Zl n fun n=>Zl v fun v=>Zl off fun off=>Zl len fun len=>match lim with
   | none=>K (.sl n v off sz len none)
   | some c=>Zl c fun c=>K (.sl n v off sz len (some c))
 | .mp n v,K=>Zl n fun n=>Zl v fun v=>K (.mp n v)
 | .agg l,K=>Qcj l fun l=>K (.agg l)
 | .tup l,K=>Qcj l fun l=>K (.tup l)
 | .lst sz l t,K=>Qcj l fun l=>if t then K (.lst sz l true) else K (.lst sz l false)
 | .ref x off,K=>YA x fun x=>Zl off fun off=>K (.ref x off)
 | .any,K=>K .any
 | .str s,K=>QhD s fun s=>K (.str s)
 | .val x,K=>K (.val x)
 | .fn f l m,K=>Qcj l fun l=>Qcj m fun m=>K (.fn f l m)
 | .iface t x,K=>YA x fun x=>K (.iface t x)
def Qcj:List V→(List V→Bool)→Bool
 | [],K=>K []
 | v::l,K=>YA v fun v=>Qcj l fun l=>K (v::l)
def QhD:List UInt8→(List UInt8→Bool)→Bool
 | [],K=>K []
 | b::l,K=>QhD l fun l=>K (b::l)
end
theorem Qjb:∀ (l:List UInt8) (K:List UInt8→Bool),QhD l K=K l
 | [],_=>by rw [QhD]
 | b::l,K=>by rw [QhD,Qjb l]
mutual
theorem QfN:∀ (v:V) (K:V→Bool),YA v K=K v
 | .int k n,K=>by rw [YA,QoA]
 | .bool b,K=>by cases b <;> rw [YA] <;> rfl
 | .ptr n v off,K=>by rw [YA,XO,XO,XO]
 | .sl n v off sz len lim,K=>by rw [YA,XO,XO,XO,XO]; cases lim <;> simp [XO]
 | .mp n v,K=>by rw [YA,XO,XO]
 | .agg l,K=>by rw [YA,QaN l]
 | .tup l,K=>by rw [YA,QaN l]
 | .lst sz l t,K=>by rw [YA,QaN l]; cases t <;> rfl
 | .ref x off,K=>by rw [YA,QfN x,XO]
 | .any,K=>by rw [YA]
 | .str s,K=>by rw [YA,Qjb]
 | .val x,K=>by rw [YA]
 | .fn f l m,K=>by rw [YA,QaN l,QaN m]
 | .iface t x,K=>by rw [YA,QfN x]
theorem QaN:∀ (l:List V) (K:List V→Bool),Qcj l K=K l
 | [],K=>by rw [Qcj]
 | v::l,K=>by rw [Qcj,QfN v,QaN l]
end
section
variable (G:Nat→Option V)
end
section
variable (G:Nat→Option V)
end
section
variable (G:Nat→Option V)
end
section
variable (P:Program) (G:Nat→Option V)
end
section
variable (P:Program) (G:Nat→Option V)
def Qn (T:Nat→Option AF):Prop:=∀ f A,T f=some A→Qo P f=true∧∃ M dd,QD P M dd f=some A
end
end Go.Am
