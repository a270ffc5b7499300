/- A logic of programs over abstract values: joined texts. -/
import Derived.Test.YtoeicjlflmmmcaaGreatDoorAmB
namespace Go.Am
open Go
def ZU {α:Type} (n:Nat) (K:Nat→α):α:=match n with
 | 0=>K 0
 | k+1=>K (k+1)
theorem X8 {α:Type} (n:Nat) (K:Nat→α):ZU n K=K n:=by cases n <;> rfl
def Qm1 {α:Type} (n:Int) (K:Int→α):α:=match n with
 | .ofNat m=>ZU m fun m=>K (.ofNat m)
 | .negSucc m=>ZU m fun m=>K (.negSucc m)
theorem QpL {α:Type} (n:Int) (K:Int→α):Qm1 n K=K n:=by cases n <;> simp [Qm1,X8]
mutual
def YQ:V→(V→Bool)→Bool
 | .int k n,K=>Qm1 n fun n=>K (.int k n)
 | .bool b,K=>if b then K (.bool true) else K (.bool false)
 | .ptr n v off,K=>ZU n fun n=>ZU v fun v=>ZU off fun off=>K (.ptr n v off)
 | .sl n v off sz len lim,K=>ZU n fun n=>ZU v fun v=>ZU off fun off=>ZU len fun len=>match lim with
   | none=>K (.sl n v off sz len none)
   | some c=>ZU c fun c=>K (.sl n v off sz len (some c))
 | .mp n v,K=>ZU n fun n=>ZU v fun v=>K (.mp n v)
 | .agg l,K=>Qb2 l fun l=>K (.agg l)
 | .tup l,K=>Qb2 l fun l=>K (.tup l)
 | .lst sz l t,K=>Qb2 l fun l=>if t then K (.lst sz l true) else K (.lst sz l false)
 | .ref x off,K=>YQ x fun x=>ZU off fun off=>K (.ref x off)
 | .any,K=>K .any
 | .str s,K=>Qii s fun s=>K (.str s)
 | .val x,K=>K (.val x)
 | .fn f l m,K=>Qb2 l fun l=>Qb2 m fun m=>K (.fn f l m)
 | .iface t x,K=>YQ x fun x=>K (.iface t x)
def Qb2:List V→(List V→Bool)→Bool
 | [],K=>K []
 | v::l,K=>YQ v fun v=>Qb2 l fun l=>K (v::l)
def Qii:List UInt8→(List UInt8→Bool)→Bool
 | [],K=>K []
 | b::l,K=>Qii l fun l=>K (b::l)
end
theorem Qjx:∀ (l:List UInt8) (K:List UInt8→Bool),Qii l K=K l
 | [],_=>by rw [Qii]
 | b::l,K=>by rw [Qii,Qjx l]
mutual
theorem Qgo:∀ (v:V) (K:V→Bool),YQ v K=K v
 | .int k n,K=>by rw [YQ,QpL]
 | .bool b,K=>by cases b <;> rw [YQ] <;> rfl
 | .ptr n v off,K=>by rw [YQ,X8,X8,X8]
 | .sl n v off sz len lim,K=>by rw [YQ,X8,X8,X8,X8]; cases lim <;> simp [X8]
 | .mp n v,K=>by rw [YQ,X8,X8]
 | .agg l,K=>by rw [YQ,QaR l]
 | .tup l,K=>by rw [YQ,QaR l]
 | .lst sz l t,K=>by rw [YQ,QaR l]; cases t <;> rfl
 | .ref x off,K=>by rw [YQ,Qgo x,X8]
 | .any,K=>by rw [YQ]
 | .str s,K=>by rw [YQ,Qjx]
 | .val x,K=>by rw [YQ]
 | .fn f l m,K=>by rw [YQ,QaR l,QaR m]
 | .iface t x,K=>by rw [YQ,Qgo x]
theorem QaR:∀ (l:List V) (K:List V→Bool),Qb2 l K=K l
 | [],K=>by rw [Qb2]
 | v::l,K=>by rw [Qb2,Qgo v,QaR l]
end
section
variable (G:Nat→Option V)
end
section
variable (G:Nat→Option V)
end
section
variable (G:Nat→Option V)
def onesB (l:List V):Bool:=l.all Qgq
theorem Qul {l:List V} (h:onesB l=true):ones l:=by simpa [onesB,ones,List.all_eq_true] using h
end
section
variable (P:Program) (G:Nat→Option V)
end
section
variable (P:Program) (G:Nat→Option V)
def Qe (T:Nat→Option AF):Prop:=∀ f A,T f=some A→Qj P f=true∧∃ M dd,Qy P M dd f=some A
end
end Go.Am
