/- A logic of programs over abstract values: joined texts. -/
import Derived.Test.YtoeicjlflmmmcaaGreatDoorAmB
namespace Go.Am
open Go
def YW {α:Type} (n:Nat) (K:Nat→α):α:=match n with
 | 0=>K 0
 | k+1=>K (k+1)
theorem Xk {α:Type} (n:Nat) (K:Nat→α):YW n K=K n:=by cases n <;> rfl
def Qq2 {α:Type} (n:Int) (K:Int→α):α:=match n with
 | .ofNat m=>YW m fun m=>K (.ofNat m)
 | .negSucc m=>YW m fun m=>K (.negSucc m)
theorem QtT {α:Type} (n:Int) (K:Int→α):Qq2 n K=K n:=by cases n <;> simp [Qq2,Xk]
mutual
def Yw:V→(V→Bool)→Bool
 | .int k n,K=>Qq2 n fun n=>K (.int k n)
 | .bool b,K=>if b then K (.bool true) else K (.bool false)
 | .ptr n v off,K=>YW n fun n=>YW v fun v=>YW off fun off=>K (.ptr n v off)
 | .sl n v off sz len lim,K=>YW n fun n=>YW v fun v=>YW off fun off=>YW len fun len=>match lim with
   | none=>K (.sl n v off sz len none)
   | some c=>YW c fun c=>K (.sl n v off sz len (some c))
 | .mp n v,K=>YW n fun n=>YW v fun v=>K (.mp n v)
 | .agg l,K=>Qb7 l fun l=>K (.agg l)
 | .tup l,K=>Qb7 l fun l=>K (.tup l)
 | .lst sz l t,K=>Qb7 l fun l=>if t then K (.lst sz l true) else K (.lst sz l false)
 | .ref x off,K=>Yw x fun x=>YW off fun off=>K (.ref x off)
 | .any,K=>K .any
 | .str s,K=>QkT s fun s=>K (.str s)
 | .val x,K=>K (.val x)
 | .fn f l m,K=>Qb7 l fun l=>Qb7 m fun m=>K (.fn f l m)
 | .iface t x,K=>Yw x fun x=>K (.iface t x)
def Qb7:List V→(List V→Bool)→Bool
 | [],K=>K []
 | v::l,K=>Yw v fun v=>Qb7 l fun l=>K (v::l)
def QkT:List UInt8→(List UInt8→Bool)→Bool
 | [],K=>K []
 | b::l,K=>QkT l fun l=>K (b::l)
end
theorem Qmi:∀ (l:List UInt8) (K:List UInt8→Bool),QkT l K=K l
 | [],_=>by rw [QkT]
 | b::l,K=>by rw [QkT,Qmi l]
mutual
theorem Qax:∀ (v:V) (K:V→Bool),Yw v K=K v
 | .int k n,K=>by rw [Yw,QtT]
 | .bool b,K=>by cases b <;> rw [Yw] <;> rfl
 | .ptr n v off,K=>by rw [Yw,Xk,Xk,Xk]
 | .sl n v off sz len lim,K=>by rw [Yw,Xk,Xk,Xk,Xk]; cases lim <;> simp [Xk]
 | .mp n v,K=>by rw [Yw,Xk,Xk]
 | .agg l,K=>by rw [Yw,Qay l]
 | .tup l,K=>by rw [Yw,Qay l]
 | .lst sz l t,K=>by rw [Yw,Qay l]; cases t <;> rfl
 | .ref x off,K=>by rw [Yw,Qax x,Xk]
 | .any,K=>by rw [Yw]
 | .str s,K=>by rw [Yw,Qmi]
 | .val x,K=>by rw [Yw]
 | .fn f l m,K=>by rw [Yw,Qay l,Qay m]
 | .iface t x,K=>by rw [Yw,Qax x]
theorem Qay:∀ (l:List V) (K:List V→Bool),Qb7 l K=K l
 | [],K=>by rw [Qb7]
 | v::l,K=>by rw [Qb7,Qax v,Qay l]
end
section
variable (G:Nat→Option V)
def xBin (op:BinOp) (x y:V) (K:V→Bool):Bool :=
 match op,x,y with
 | .shl,.int k a,.int _ b=>decide (0≤b)&&K (.int k (k.wrap (a * 2 ^ min b.toNat k.bits)))
 | .shr,.int k a,.int _ b=>decide (0≤b)&&K (.int k (a.fdiv (2 ^ min b.toNat k.bits)))
 | .add,.int k a,.int k' b=>decide (k=k')&&K (.int k (k.wrap (a+b)))
 | .sub,.int k a,.int k' b=>decide (k=k')&&K (.int k (k.wrap (a - b)))
 | .mul,.int k a,.int k' b=>decide (k=k')&&K (.int k (k.wrap (a * b)))
 | .quo,.int k a,.int k' b=>decide (k=k'∧b≠0)&&K (.int k (k.wrap (a.tdiv b)))
 | .rem,.int k a,.int k' b=>decide (k=k'∧b≠0)&&K (.int k (a.tmod b))
 | .and,.int k a,.int k' b=>decide (k=k')&&K (.int k (k.wrap (BitVec.ofInt k.bits a &&& BitVec.ofInt k.bits b).toNat))
 | .or,.int k a,.int k' b=>decide (k=k')&&K (.int k (k.wrap (BitVec.ofInt k.bits a ||| BitVec.ofInt k.bits b).toNat))
 | .xor,.int k a,.int k' b=>decide (k=k')&&K (.int k (k.wrap (BitVec.ofInt k.bits a ^^^ BitVec.ofInt k.bits b).toNat))
 | .andNot,.int k a,.int k' b=>decide (k=k')&&K (.int k (k.wrap (BitVec.ofInt k.bits a &&& ~~~ BitVec.ofInt k.bits b).toNat))
 | .eql,.int k a,.int k' b=>decide (k=k')&&K (.bool (a==b))
 | .neq,.int k a,.int k' b=>decide (k=k')&&K (.bool (a != b))
 | .lss,.int k a,.int k' b=>decide (k=k')&&K (.bool (decide (a<b)))
 | .leq,.int k a,.int k' b=>decide (k=k')&&K (.bool (decide (a≤b)))
 | .gtr,.int k a,.int k' b=>decide (k=k')&&K (.bool (decide (a > b)))
 | .geq,.int k a,.int k' b=>decide (k=k')&&K (.bool (decide (a≥b)))
 | .add,.str a,.str b=>decide (a.length+b.length≤9223372036854775807)&&K (.str (a++b))
 | .eql,.str a,.str b=>K (.bool (a==b))
 | .neq,.str a,.str b=>K (.bool (a != b))
 | _,_,_=>false
variable {K':V→Prop} {K:V→Bool} {x y u:V}
theorem QKs {op:BinOp} (k:∀ v,K v=true→K' v) (h:xBin op x y K=true):Qno op x y K':=by
 unfold xBin at h
 unfold Qno
 split at h <;> (try simp only [Bool.and_eq_true,decide_eq_true_eq,Bool.false_eq_true] at h) <;> first | exact ⟨h.1,k _ h.2⟩ | exact k _ h
def xUn (op:UnOp) (x:V) (K:V→Bool):Bool :=
 match op,x with
 | .neg,.int k n=>K (.int k (k.wrap (0 - n)))
 | .xor,.int k n=>K (.int k (k.wrap (BitVec.ofInt k.bits (if k.signed then -1 else k.max) ^^^ BitVec.ofInt k.bits n).toNat))
 | .not,.bool b=>K (.bool !b)
 | _,_=>false
theorem xUn_ok {op:UnOp} (k:∀ v,K v=true→K' v) (h:xUn op x K=true):QLN op x K':=by
 unfold xUn at h
 unfold QLN
 split at h <;> first | exact k _ h | cases h
def QtM (fr:Fr):List (Nat × Nat × Arg)→List V→(List V→Bool)→Bool
 | [],cs,K=>K cs
 | (off,sz,x)::r,cs,K=>decide ((arg G fr x).cells.length=sz∧off+sz≤cs.length)&&QtM fr r (cs.take off++(arg G fr x).cells++cs.drop (off+sz)) K
theorem Qkf {fr:Fr}:∀ {ps:List (Nat × Nat × Arg)} {cs:List V} {K:List V→Bool} {K':List V→Prop},(∀ v,K v=true→K' v)→QtM G fr ps cs K=true→Qic G fr ps cs K'
 | [],_,_,_,k,h=>k _ h
 | (off,sz,x)::r,cs,K,K',k,h=>by
   simp only [QtM,Bool.and_eq_true,decide_eq_true_eq] at h
   exact ⟨h.1,Qkf k h.2⟩
def QeE (fr:Fr) (len:Nat) (lo hi:Option Arg) (K:Nat→Nat→Bool):Bool :=
 match lo.map (arg G fr),hi.map (arg G fr) with
 | none,none=>K 0 len
 | none,some (.int _ h)=>decide (0≤h∧h.toNat≤len)&&K 0 h.toNat
 | some (.int _ l),none=>decide (0≤l∧l.toNat≤len)&&K l.toNat len
 | some (.int _ l),some (.int _ h)=>decide (0≤l∧l≤h∧h.toNat≤len)&&K l.toNat h.toNat
 | _,_=>false
theorem QbR {fr:Fr} {len:Nat} {lo hi:Option Arg} {K:Nat→Nat→Bool} {K':Nat→Nat→Prop} (k:∀ a b,K a b=true→K' a b) (h:QeE G fr len lo hi K=true):Q0 G fr len lo hi K':=by
 unfold QeE at h
 unfold Q0
 generalize lo.map (arg G fr)=x at h ⊢
 generalize hi.map (arg G fr)=y at h ⊢
 split at h <;> (try simp only [Bool.and_eq_true,decide_eq_true_eq,Bool.false_eq_true] at h) <;> first | exact ⟨h.1,k _ _ h.2⟩ | exact k _ _ h
def QMS (v v':Nat):Bool:=decide (v=v')
def QwC (sz:Nat) (alen:Option Nat) (y z:V) (K:V→Bool):Bool :=
 match alen,y,z with
 | none,.lst s l _,.int _ i=>decide (0≤i∧i.toNat<l.length∧s=sz)&&K (.ref (l.getD i.toNat .any) 0)
 | none,.sl n v off s len _,.int _ i=>decide (0≤i∧i.toNat<len∧s=sz)&&K (.ptr n v (off+i.toNat * sz))
 | some len,.ptr n v off,.int _ i=>decide (0≤i∧i.toNat<len)&&K (.ptr n v (off+i.toNat * sz))
 | some len,.ref y off,.int _ i=>decide (0≤i∧i.toNat<len)&&K (.ref y (off+i.toNat * sz))
 | _,_,_=>false
theorem QwB {sz:Nat} {alen:Option Nat} {z:V} (k:∀ v,K v=true→K' v) (h:QwC sz alen y z K=true):QiW sz alen y z K':=by
 unfold QwC at h
 unfold QiW
 split at h <;> simp only [Bool.and_eq_true,decide_eq_true_eq,Bool.false_eq_true] at h <;> exact ⟨h.1,k _ h.2⟩
def xNil (u:V) (K:V→Bool):Bool :=
 match u with
 | .ptr n v off=>K (.ptr n v off)
 | .ref y off=>K (.ref y off)
 | .fn (.func f) l m=>K (.fn (.func f) l m)
 | _=>false
theorem QKp (k:∀ v,K v=true→K' v) (h:xNil u K=true):Qrx u K':=by
 unfold xNil at h
 unfold Qrx
 split at h <;> first | exact k _ h | cases h
def Qwy (neg:Bool) (x y:V) (K:V→Bool):Bool :=
 match x,y with
 | .ptr ..,.val (.pointer none)=>K (.bool neg)
 | .ref ..,.val (.pointer none)=>K (.bool neg)
 | .val (.pointer none),.ptr ..=>K (.bool neg)
 | .val (.pointer none),.ref ..=>K (.bool neg)
 | .val (.pointer none),.val (.pointer none)=>K (.bool !neg)
 | _,_=>false
theorem Qwx {neg:Bool} (k:∀ v,K v=true→K' v) (h:Qwy neg x y K=true):Qfh neg x y K':=by
 unfold Qwy at h
 unfold Qfh
 split at h <;> first | exact k _ h | cases h
def QwE (neg:Bool) (x:V) (K:V→Bool):Bool :=
 match x with
 | .fn ..=>K (.bool neg)
 | .val .nilFunc=>K (.bool !neg)
 | _=>false
theorem QwD {neg:Bool} (k:∀ v,K v=true→K' v) (h:QwE neg x K=true):Qfi neg x K':=by
 unfold QwE at h
 unfold Qfi
 split at h <;> first | exact k _ h | cases h
def QwA (neg:Bool) (x:V) (K:V→Bool):Bool :=
 match x with
 | .iface ..=>K (.bool neg)
 | .val .nilIface=>K (.bool !neg)
 | _=>false
theorem Qwz {neg:Bool} (k:∀ v,K v=true→K' v) (h:QwA neg x K=true):Qg0 neg x K':=by
 unfold QwA at h
 unfold Qg0
 split at h <;> first | exact k _ h | cases h
def Qwv (neg:Bool) (x:V) (K:V→Bool):Bool :=
 match x with
 | .lst _ [] _=>K (.bool neg)&&K (.bool !neg)
 | .lst _ (_::_) _=>K (.bool neg)
 | .sl _ _ _ _ len _=>K (.bool neg)&&(decide (len≠0) || K (.bool !neg))
 | _=>false
theorem Qwu {neg:Bool} (k:∀ v,K v=true→K' v) (h:Qwv neg x K=true):Qfg neg x K':=by
 unfold Qwv at h
 unfold Qfg
 split at h <;> (try simp only [Bool.and_eq_true,Bool.false_eq_true] at h) <;> first | exact ⟨k _ h.1,k _ h.2⟩ | exact k _ h | exact ⟨k _ h.1,fun e=>k _ (by have:=h.2; simpa [e] using this)⟩
def xLen (σ:H) (kd:Nat) (u:V) (K:V→Bool):Bool :=
 match kd,u with
 | 0,.lst _ l _=>K (.int .i64 l.length)
 | 0,.sl _ _ _ _ len _=>K (.int .i64 len)
 | 1,.str s=>K (.int .i64 s.length)
 | 2,.val (.map none)=>K (.int .i64 0)
 | 2,.mp n v=>match σ.o[n]? with
   | some (some (.map v' es))=>QMS v v'&&K (.int .i64 es.length)
   | _=>false
 | _,_=>false
theorem QKr {σ:H} {kd:Nat} (k:∀ v,K v=true→K' v) (h:xLen σ kd u K=true):QpE σ kd u K':=by
 unfold xLen at h
 unfold QpE
 split at h <;> (try (split at h)) <;> (try (simp only [Bool.and_eq_true,QMS,decide_eq_true_eq,Bool.false_eq_true] at h)) <;> first | exact k _ h | (rename_i ho; simp only [ho]; exact ⟨h.1,k _ h.2⟩) | cases h
end
section
variable (G:Nat→Option V)
def Qtd (ag:Bool) (ks:List Kd) (k:V):Bool:=(k.isAgg==ag)&&(Qbo ks k.cells k.cells).isSome
def Qli (ag:Bool) (ks:List Kd) (k:V) (es:List (V × V)):Bool:=Qtd ag ks k&&es.all fun p=>(p.1.isAgg==ag)&&(Qbo ks k.cells p.1.cells).isSome
variable {k u:V} {ag:Bool}
theorem Qpr {ks:List Kd} (h:Qtd ag ks k=true):Qxz ag ks k:=by
 simp only [Qtd,Bool.and_eq_true,beq_iff_eq] at h
 exact h
theorem QiP {ks:List Kd} {es:List (V × V)} (h:Qli ag ks k es=true):Qcd ag ks k es:=by
 simp only [Qli,Bool.and_eq_true,List.all_eq_true,beq_iff_eq] at h
 exact ⟨Qpr h.1,h.2⟩
def QKq (σ:H) (ok ag:Bool) (ks:List Kd) (zero:V) (u k:V) (K:V→Bool):Bool :=
 match u with
 | .mp n v=>match σ.o[n]? with
   | some (some (.map v' es))=>(QMS v v'&&Qli ag ks k es)&&K (if ok then .tup [(Qku ks k es).getD zero,.bool (Qku ks k es).isSome] else (Qku ks k es).getD zero)
   | _=>false
 | .val (.map none)=>Qtd ag ks k&&K (if ok then .tup [zero,.bool false] else zero)
 | _=>false
variable {K':V→Prop} {K:V→Bool} {σ:H}
theorem Qza {ok:Bool} {ks:List Kd} {zero q:V} (k:∀ v,K v=true→K' v) (h:QKq σ ok ag ks zero u q K=true):QjM σ ok ag ks zero u q K':=by
 unfold QKq at h
 unfold QjM
 split at h
 ·split at h
  ·rename_i ho
   simp only [Bool.and_eq_true,QMS,decide_eq_true_eq] at h
   simp only [ho]
   exact ⟨⟨h.1.1,QiP h.1.2⟩,k _ h.2⟩
  ·cases h
 ·simp only [Bool.and_eq_true] at h
  exact ⟨Qpr h.1,k _ h.2⟩
 ·cases h
def Qzb (σ:H) (ag:Bool) (sz:Nat) (u:V) (K:V→Bool):Bool:=match u with
 | .ptr n v off=>match σ.o[n]? with
   | some (some (.arr v' _ cs))=>(QMS v v'&&(decide (off+sz≤cs.length)&&(ag || decide (sz=1))))&&K (Qc7 ag off sz cs)
   | _=>false
 | .ref y off=>(decide (off+sz≤y.cells.length)&&(ag || decide (sz=1)))&&K (Qc7 ag off sz y.cells)
 | _=>false
theorem QsI {sz:Nat} (k:∀ v,K v=true→K' v) (h:Qzb σ ag sz u K=true):QpD σ ag sz u K':=by
 unfold Qzb at h
 unfold QpD
 split at h
 ·split at h
  ·rename_i ho
   simp only [Bool.and_eq_true,QMS,decide_eq_true_eq,Bool.or_eq_true] at h
   simp only [ho]
   exact ⟨⟨h.1.1,h.1.2.1,fun e=>h.1.2.2.resolve_left (by simp [e])⟩,k _ h.2⟩
  ·cases h
 ·simp only [Bool.and_eq_true,decide_eq_true_eq,Bool.or_eq_true] at h
  exact ⟨⟨h.1.1,fun e=>h.1.2.resolve_left (by simp [e])⟩,k _ h.2⟩
 ·cases h
def xR (fr:Fr) (σ:H) (K:V→Bool):AOp→Bool
 | .mov x=>K (arg G fr x)
 | .same x=>match arg G fr x with
   | .str s=>K (.str s)
   | .int _ n=>decide (0≤n∧n<128)&&K (.str [UInt8.ofNat n.toNat])
   | _=>false
 | .pick c a b=>match arg G fr c with
   | .bool t=>if t then K (arg G fr a) else K (arg G fr b)
   | _=>false
 | .load ag sz x=>Qzb σ ag sz (arg G fr x) K
 | .nilc x=>xNil (arg G fr x) K
 | .bin op x y=>xBin op (arg G fr x) (arg G fr y) K
 | .eqb neg x y=>match arg G fr x,arg G fr y with
   | .bool a,.bool b=>K (.bool (if neg then a != b else a==b))
   | _,_=>false
 | .eqp neg x y=>Qwy neg (arg G fr x) (arg G fr y) K
 | .eqf neg x=>QwE neg (arg G fr x) K
 | .eqn neg x=>Qwv neg (arg G fr x) K
 | .eqi neg x=>QwA neg (arg G fr x) K
 | .eqs neg ks x y=>match arg G fr x,arg G fr y with
   | .agg l,.agg m=>match Qbo ks l m with
     | some b=>K (.bool (if neg then !b else b))
     | none=>false
   | _,_=>false
 | .un op x=>xUn op (arg G fr x) K
 | .conv k x=>match arg G fr x with
   | .int _ n=>K (.int k (k.wrap n))
   | _=>false
 | .mkfn f a b=>K (.fn f (a.map (arg G fr)) (b.map (arg G fr)))
 | .faddr off x=>match arg G fr x with
   | .ptr n v o=>K (.ptr n v (o+off))
   | .ref y o=>K (.ref y (o+off))
   | _=>false
 | .field ag off sz x=>match arg G fr x with
   | .agg cs=>(decide (off+sz≤cs.length)&&(ag || decide (sz=1)))&&K (Qc7 ag off sz cs)
   | _=>false
 | .iaddr alen sz x i=>QwC sz alen (arg G fr x) (arg G fr i) K
 | .aidx ag sz len x i=>match arg G fr x,arg G fr i with
   | .agg cs,.int _ i=>(decide (0≤i∧i.toNat<len∧i.toNat * sz+sz≤cs.length)&&(ag || decide (sz=1)))&&K (Qc7 ag (i.toNat * sz) sz cs)
   | _,_=>false
 | .sidx x i=>match arg G fr x,arg G fr i with
   | .str s,.int _ i=>decide (0≤i∧i.toNat<s.length)&&K (.int .u8 (s.getD i.toNat 0).toNat)
   | _,_=>false
 | .ssl x lo hi=>match arg G fr x with
   | .str s=>QeE G fr s.length lo hi fun l h=>K (.str ((s.drop l).take (h - l)))
   | _=>false
 | .slc sz x lo hi none=>match arg G fr x with
   | .lst s l tight=>QeE G fr l.length lo hi fun a b=>(decide (s=sz) || l.isEmpty)&&K (.lst s ((l.drop a).take (b - a)) (tight&&decide (b=l.length)))
   | .sl n v off s len lim=>QeE G fr len lo hi fun a b=>decide (s=sz∧(a=0∨a<b))&&K (.sl n v (off+a * sz) s (b - a) (lim.map (· - a)))
   | _=>false
 | .slc sz x lo hi (some mx)=>match arg G fr mx,arg G fr x with
   | .int _ m,.lst s l _=>QeE G fr m.toNat lo hi fun a b=>(decide (0≤m∧m.toNat≤l.length)&&(decide (s=sz) || l.isEmpty))&&K (.lst s ((l.drop a).take (b - a)) (decide (b=m.toNat)))
   | .int _ m,.sl n v off s len _=>QeE G fr m.toNat lo hi fun a b=>decide (s=sz∧(a=0∨a<b)∧0≤m∧m.toNat≤len)&&K (.sl n v (off+a * sz) s (b - a) (some (m.toNat - a)))
   | _,_=>false
 | .slarr n sz x lo hi=>match arg G fr x with
   | .ptr nm v off=>match σ.o[nm]? with
     | some (some (.arr v' _ cs))=>QeE G fr n lo hi fun a b=>decide (v=v'∧off+n * sz≤cs.length∧(a=0∨a<n))&&K (.sl nm v (off+a * sz) sz (b - a) (some (n - a)))
     | _=>false
   | _=>false
 | .extr x i=>match arg G fr x with
   | .tup l=>decide (i<l.length)&&K (l.getD i .any)
   | _=>false
 | .len kd x=>xLen σ kd (arg G fr x) K
 | .build zero parts=>parts.all (fun q=>Qcr (arg G fr q.2.2))&&QtM G fr parts zero fun cs=>K (.agg cs)
 | .maxi x y=>match arg G fr x,arg G fr y with
   | .int k a,.int k' b=>decide (k=k')&&K (.int k (if b > a then b else a))
   | _,_=>false
 | .mini x y=>match arg G fr x,arg G fr y with
   | .int k a,.int k' b=>decide (k=k')&&K (.int k (if b<a then b else a))
   | _,_=>false
 | .look ok ag ks zero x k=>QKq σ ok ag ks zero (arg G fr x) (arg G fr k) K
 | _=>false
theorem xR_ok {fr:Fr} {op:AOp} (k:∀ v,K v=true→K' v) (h:xR G fr σ K op=true):evR G fr σ K' op:=by
 cases op with
 | mov x=>exact k _ h
 | load ag sz x=>exact QsI k h
 | nilc x=>exact QKp k h
 | bin op x y=>exact QKs k h
 | eqp neg x y=>exact Qwx k h
 | eqf neg x=>exact QwD k h
 | eqn neg x=>exact Qwu k h
 | eqi neg x=>exact Qwz k h
 | un op x=>exact xUn_ok k h
 | mkfn f a b=>exact k _ h
 | iaddr al sz x i=>exact QwB k h
 | len kd x=>exact QKr k h
 | look ok ag ks z x q=>exact Qza k h
 | build z ps =>
   simp only [xR,Bool.and_eq_true,List.all_eq_true] at h
   exact ⟨h.1,Qkf G (fun v hv=>k _ hv) h.2⟩
 | same x =>
   simp only [xR] at h
   simp only [evR]
   split at h
   ·rename_i e1; simp only [e1]; exact k _ h
   ·rename_i e1
    simp only [Bool.and_eq_true,decide_eq_true_eq] at h
    simp only [e1]; exact ⟨h.1,k _ h.2⟩
   ·cases h
 | pick c a b =>
   simp only [xR] at h
   simp only [evR]
   split at h
   ·rename_i t ht
    simp only [ht]
    cases t with
    | true=>exact ⟨fun _=>k _ h,fun e=>by cases e⟩
    | false=>exact ⟨fun e=>(by cases e),fun _=>k _ h⟩
   ·cases h
 | eqb neg x y =>
   simp only [xR] at h
   simp only [evR]
   split at h
   ·rename_i e1 e2; simp only [e1,e2]; exact k _ h
   ·cases h
 | eqs neg ks x y =>
   simp only [xR] at h
   simp only [evR]
   split at h
   ·rename_i e1 e2
    simp only [e1,e2]
    split at h
    ·rename_i e3; simp only [e3]; exact k _ h
    ·cases h
   ·cases h
 | conv kk x =>
   simp only [xR] at h
   simp only [evR]
   split at h
   ·rename_i e1; simp only [e1]; exact k _ h
   ·cases h
 | faddr off x =>
   simp only [xR] at h
   simp only [evR,Qlr]
   split at h
   ·rename_i e1; simp only [e1]; exact k _ h
   ·rename_i e1; simp only [e1]; exact k _ h
   ·cases h
 | field ag off sz x =>
   simp only [xR] at h
   simp only [evR]
   split at h
   ·rename_i e1
    simp only [e1]
    simp only [Bool.and_eq_true,decide_eq_true_eq,Bool.or_eq_true] at h
    exact ⟨⟨h.1.1,fun e=>h.1.2.resolve_left (by simp [e])⟩,k _ h.2⟩
   ·cases h
 | aidx ag sz len x i =>
   simp only [xR] at h
   simp only [evR]
   split at h
   ·rename_i e1 e2
    simp only [e1,e2]
    simp only [Bool.and_eq_true,decide_eq_true_eq,Bool.or_eq_true] at h
    exact ⟨⟨h.1.1.1,h.1.1.2.1,h.1.1.2.2,fun e=>h.1.2.resolve_left (by simp [e])⟩,k _ h.2⟩
   ·cases h
 | sidx x i =>
   simp only [xR] at h
   simp only [evR]
   split at h
   ·rename_i e1 e2
    simp only [e1,e2]
    simp only [Bool.and_eq_true,decide_eq_true_eq] at h
    exact ⟨h.1,k _ h.2⟩
   ·cases h
 | ssl x lo hi =>
   simp only [xR] at h
   simp only [evR]
   split at h
   ·rename_i e1; simp only [e1]; exact QbR G (fun a b hab=>k _ hab) h
   ·cases h
 | slc sz x lo hi mx =>
   cases mx with
   | none =>
     simp only [xR] at h
     simp only [evR]
     split at h
     ·rename_i e1
      simp only [e1]
      refine QbR G (fun a b hab=>?_) h
      simp only [Bool.and_eq_true,decide_eq_true_eq,Bool.or_eq_true,List.isEmpty_iff] at hab
      exact ⟨hab.1,k _ (by simpa using hab.2)⟩
     ·rename_i e1
      simp only [e1]
      refine QbR G (fun a b hab=>?_) h
      simp only [Bool.and_eq_true,decide_eq_true_eq] at hab
      exact ⟨hab.1,k _ hab.2⟩
     ·cases h
   | some mx =>
     simp only [xR] at h
     simp only [evR]
     split at h
     ·rename_i e1 e2
      simp only [e1,e2]
      refine QbR G (fun a b hab=>?_) h
      simp only [Bool.and_eq_true,decide_eq_true_eq,Bool.or_eq_true,List.isEmpty_iff] at hab
      exact ⟨⟨hab.1.1.1,hab.1.1.2,hab.1.2⟩,k _ hab.2⟩
     ·rename_i e1 e2
      simp only [e1,e2]
      refine QbR G (fun a b hab=>?_) h
      simp only [Bool.and_eq_true,decide_eq_true_eq] at hab
      exact ⟨hab.1,k _ hab.2⟩
     ·cases h
 | slarr n sz x lo hi =>
   simp only [xR] at h
   simp only [evR]
   split at h
   ·rename_i e1
    simp only [e1]
    split at h
    ·rename_i e2
     simp only [e2]
     refine QbR G (fun a b hab=>?_) h
     simp only [Bool.and_eq_true,decide_eq_true_eq] at hab
     exact ⟨hab.1,k _ hab.2⟩
    ·cases h
   ·cases h
 | extr x i =>
   simp only [xR] at h
   simp only [evR]
   split at h
   ·rename_i e1
    simp only [e1]
    simp only [Bool.and_eq_true,decide_eq_true_eq] at h
    exact ⟨h.1,k _ h.2⟩
   ·cases h
 | maxi x y =>
   simp only [xR] at h
   simp only [evR]
   split at h
   ·rename_i e1 e2
    simp only [e1,e2]
    simp only [Bool.and_eq_true,decide_eq_true_eq] at h
    exact ⟨h.1,k _ h.2⟩
   ·cases h
 | mini x y =>
   simp only [xR] at h
   simp only [evR]
   split at h
   ·rename_i e1 e2
    simp only [e1,e2]
    simp only [Bool.and_eq_true,decide_eq_true_eq] at h
    exact ⟨h.1,k _ h.2⟩
   ·cases h
 | _=>simp [xR] at h
end
section
variable (G:Nat→Option V)
def Qm3 (l:List V):Bool:=l.all QiC
theorem QbP {l:List V} (h:Qm3 l=true):ones l:=by simpa [Qm3,ones,List.all_eq_true] using h
def QHQ (σ:H) (sz:Nat) (str:Bool) (x:V) (K:Nat→List V→Bool):Bool :=
 match str,x with
 | false,.lst s l _=>(decide (s=sz) || l.isEmpty)&&K l.length (l.map V.cells).flatten
 | false,.sl k v off s len _=>match σ.o[k]? with
   | some (some (.arr v' _ cs))=>decide (v=v'∧s=sz∧off+len * sz≤cs.length)&&K len ((cs.drop off).take (len * sz))
   | _=>false
 | true,.str s=>decide (sz=1)&&K s.length (s.map fun b=>.int .u8 b.toNat)
 | _,_=>false
variable {str:Bool} {sz base:Nat} {σ:H}
theorem Qiw {x:V} {K:Nat→List V→Bool} {K':Nat→List V→Prop} (k:∀ n l,K n l=true→K' n l) (h:QHQ σ sz str x K=true):Qie σ sz str x K':=by
 unfold QHQ at h
 unfold Qie
 split at h
 ·simp only [Bool.and_eq_true,decide_eq_true_eq,Bool.or_eq_true,List.isEmpty_iff] at h
  exact ⟨h.1,k _ _ h.2⟩
 ·split at h
  ·rename_i ho
   simp only [ho]
   simp only [Bool.and_eq_true,decide_eq_true_eq] at h
   exact ⟨h.1,k _ _ h.2⟩
  ·cases h
 ·simp only [Bool.and_eq_true,decide_eq_true_eq] at h
  exact ⟨h.1,k _ _ h.2⟩
 ·cases h
def isOpen:V→Bool
 | .sl _ _ _ _ _ none=>true
 | _=>false
def xApp (base:Nat) (σ:H) (K:V→H→Bool) (T sz bytes:Nat) (str:Bool) (s x:V):Bool :=
 match s with
 | .sl k v off s' len none=>match σ.o[k]? with
   | some (some (.arr v' T' cs))=>QHQ σ sz str x fun m ln=>decide (v=v'∧T=T'∧s'=sz∧base≤k∧off+len * sz=cs.length∧(len+m) * bytes≤140737488355328∧len+m≤9223372036854775807) &&
    K (.sl k σ.t 0 sz (len+m) none) ⟨σ.t+1,σ.o.set k (some (.arr σ.t T (cs.drop off++ln)))⟩
   | _=>false
 | u=>(QoY u&&!isOpen u)&&QHQ σ sz false u fun len lo=>QHQ σ sz str x fun m ln=>decide ((len=0∨0<m)∧(len+m) * bytes≤140737488355328∧len+m≤9223372036854775807) &&
  K (.sl σ.o.length σ.t 0 sz (len+m) none) (σ.push (.arr σ.t T (lo++ln)))
variable {K':V→H→Prop} {K:V→H→Bool} {fr:Fr}
theorem QKt (k:∀ v σ,K v σ=true→K' v σ) {T bytes:Nat} {s x:Arg} (h:xApp base σ K T sz bytes str (arg G fr s) (arg G fr x)=true):QpF base G fr σ K' T sz bytes str s x:=by
 unfold xApp at h
 unfold QpF
 generalize arg G fr s=u at h ⊢
 split at h
 ·simp only
  split at h
  ·rename_i ho
   simp only [ho]
   refine Qiw (fun m ln hm=>?_) h
   simp only [Bool.and_eq_true,decide_eq_true_eq] at hm
   exact ⟨hm.1,k _ _ hm.2⟩
  ·cases h
 ·rename_i hne
  simp only [Bool.and_eq_true] at h
  split
  ·rename_i kk vv off s' len
   exact absurd rfl (hne kk vv off s' len)
  ·refine ⟨h.1.1,Qiw (fun len lo hlo=>Qiw (fun m ln hm=>?_) hlo) h.2⟩
   simp only [Bool.and_eq_true,decide_eq_true_eq] at hm
   exact ⟨hm.1,k _ _ hm.2⟩
def xW (base:Nat) (fr:Fr) (σ:H) (K:V→H→Bool):AOp→Bool
 | .new T cs=>Qm3 cs&&K (.ptr σ.o.length σ.t 0) (σ.push (.arr σ.t T cs))
 | .box T x=>(Qcr (arg G fr x)&&Qm3 (arg G fr x).cells)&&K (.ptr σ.o.length σ.t 0) (σ.push (.arr σ.t T (arg G fr x).cells))
 | .store sz p x=>match arg G fr p with
   | .ptr k v off=>match σ.o[k]? with
     | some (some (.arr v' T cs))=>(decide (v=v'∧base≤k∧off+sz≤cs.length∧(arg G fr x).cells.length=sz)&&(Qcr (arg G fr x)&&Qm3 (arg G fr x).cells))&&K (.tup []) ⟨σ.t,σ.o.set k (some (.arr v T (QlN cs off (arg G fr x).cells)))⟩
     | _=>false
   | _=>false
 | .bsl true ag T sz zero len parts=>parts.all (fun q=>Qcr (arg G fr q.2.2))&&QtM G fr parts (List.replicate len zero).flatten fun cs=>Qm3 cs&&K (.sl σ.o.length σ.t 0 sz len none) (σ.push (.arr σ.t T cs))
 | .bsl false ag T sz zero len parts=>parts.all (fun q=>Qcr (arg G fr q.2.2))&&QtM G fr parts (List.replicate len zero).flatten fun cs=>(Qm3 cs&&Qc cs)&&K (.lst sz (if ag then Qbm sz len cs else cs) true) σ
 | .mkmap=>K (.mp σ.o.length σ.t) (σ.push (.map σ.t []))
 | .mksl T sz bytes zero l c=>match arg G fr l,arg G fr c with
   | .int _ l,.int _ c=>(decide (0≤l∧l≤c∧c * bytes≤140737488355328∧c≤9223372036854775807)&&Qm3 zero)&&K (.sl σ.o.length σ.t 0 sz l.toNat none) (σ.push (.arr σ.t T (List.replicate l.toNat zero).flatten))
   | _,_=>false
 | .mapup ag ks m k x=>match arg G fr m with
   | .mp nm v=>match σ.o[nm]? with
     | some (some (.map v' es))=>(decide (v=v'∧base≤nm)&&(Qli ag ks (arg G fr k) es&&Qf (arg G fr k)))&&K (.tup []) ⟨σ.t,σ.o.set nm (some (.map v (Qna ks (arg G fr k) (arg G fr x) es)))⟩
     | _=>false
   | _=>false
 | .app T sz bytes str s x=>xApp base σ K T sz bytes str (arg G fr s) (arg G fr x)
 | .appin sz bytes str s x=>match arg G fr s with
   | .sl k v off s' len lim=>match σ.o[k]? with
     | some (some (.arr v' T cs))=>QHQ σ sz str (arg G fr x) fun m ln=>(decide (v=v'∧s'=sz∧base≤k∧off+(len+m) * sz≤cs.length)&&(match lim with | none=>true | some c=>decide (len+m≤c)))&&K (.sl k v off sz (len+m) lim) ⟨σ.t,σ.o.set k (some (.arr v T (QlN cs (off+len * sz) ln)))⟩
     | _=>false
   | _=>false
 | .copy sz str d s=>match arg G fr d with
   | .sl k v off s' len lim=>match σ.o[k]? with
     | some (some (.arr v' T cs))=>QHQ σ sz str (arg G fr s) fun m ln=>decide (v=v'∧s'=sz∧base≤k∧off+len * sz≤cs.length)&&K (.int .i64 (min m len:Nat)) ⟨σ.t,σ.o.set k (some (.arr v T (QlN cs off (ln.take (min m len * sz)))))⟩
     | _=>false
   | _=>false
 | .clr sz zero x=>match arg G fr x with
   | .sl k v off s' len lim=>match σ.o[k]? with
     | some (some (.arr v' T cs))=>(decide (v=v'∧s'=sz∧base≤k∧off+len * sz≤cs.length)&&Qm3 zero)&&K (.tup []) ⟨σ.t,σ.o.set k (some (.arr v T (QlN cs off (List.replicate len zero).flatten)))⟩
     | _=>false
   | _=>false
 | .ment ag ks zero m k=>match arg G fr m with
   | .mp nm v=>match σ.o[nm]? with
     | some (some (.map v' es))=>(decide (v=v'∧base≤nm)&&(Qli ag ks (arg G fr k) es&&Qf (arg G fr k))) &&
      K (.tup [(Qku ks (arg G fr k) es).getD zero,.int .i64 ((Qf2 ks (arg G fr k) es).getD es.length:Nat)]) ⟨σ.t,σ.o.set nm (some (.map v (Qpe ks (arg G fr k) zero es)))⟩
     | _=>false
   | _=>false
 | .mst m s x=>match arg G fr m,arg G fr s with
   | .mp nm v,.int _ i=>match σ.o[nm]? with
     | some (some (.map v' es))=>decide (v=v'∧base≤nm∧0≤i∧i.toNat<es.length)&&K (.tup []) ⟨σ.t,σ.o.set nm (some (.map v (es.modify i.toNat fun p=>(p.1,arg G fr x))))⟩
     | _=>false
   | _,_=>false
 | .iter x=>match arg G fr x with
   | .mp nm v=>match σ.o[nm]? with
     | some (some (.map v' es))=>decide (v=v')&&K (.ptr σ.o.length σ.t 0) (σ.push (.it σ.t nm v es.length []))
     | _=>false
   | _=>false
 | .next x=>match arg G fr x with
   | .ptr k v 0=>match σ.o[k]? with
     | some (some (.it v' nm mv cnt seen))=>match σ.o[nm]? with
       | some (some (.map mv' es))=>decide (v=v'∧base≤k∧mv=mv'∧cnt=es.length)&&((!((List.range es.length).all fun i=>seen.elem i) || K (.tup [.bool false]) σ) &&
        (List.range es.length).all fun i=>seen.elem i || K (.tup [.bool true,(es.getD i (.any,.any)).1,(es.getD i (.any,.any)).2]) ⟨σ.t,σ.o.set k (some (.it v nm mv cnt (seen++[i])))⟩)
       | _=>false
     | _=>false
   | _=>false
 | .entry x=>match arg G fr x with
   | .ptr k v 0=>match σ.o[k]? with
     | some (some (.it v' nm mv cnt seen))=>match σ.o[nm]? with
       | some (some (.map mv' es))=>match seen.getLast? with
         | some i=>decide (v=v'∧mv=mv'∧cnt=es.length∧i<es.length)&&K (.tup [(es.getD i (.any,.any)).1,(es.getD i (.any,.any)).2]) σ
         | none=>false
       | _=>false
     | _=>false
   | _=>false
 | .tostr x=>QHQ σ 1 false (arg G fr x) fun _ ln=>ln.all isByte&&K (.str (ln.map QgT)) σ
 | .tobytes T x=>match arg G fr x with
   | .str s=>K (.sl σ.o.length σ.t 0 1 s.length none) (σ.push (.arr σ.t T (s.map QMe)))
   | _=>false
 | _=>false
theorem xW_ok {op:AOp} (k:∀ v σ,K v σ=true→K' v σ) (h:xW G base fr σ K op=true):evW base G fr σ K' op:=by
 cases op with
 | new T cs =>
   simp only [xW,Bool.and_eq_true] at h
   exact ⟨QbP h.1,k _ _ h.2⟩
 | box T x =>
   simp only [xW,Bool.and_eq_true] at h
   exact ⟨⟨h.1.1,QbP h.1.2⟩,k _ _ h.2⟩
 | mkmap=>exact k _ _ h
 | app T sz bytes str s x=>exact QKt G k h
 | store sz p x =>
   simp only [xW] at h
   simp only [evW]
   split at h
   ·rename_i e1
    simp only [e1]
    split at h
    ·rename_i e2
     simp only [e2]
     simp only [Bool.and_eq_true,decide_eq_true_eq] at h
     exact ⟨⟨h.1.1.1,h.1.1.2.1,h.1.1.2.2.1,h.1.2.1,h.1.1.2.2.2,QbP h.1.2.2⟩,k _ _ h.2⟩
    ·cases h
   ·cases h
 | bsl mu ag T sz zero len parts =>
   cases mu with
   | true =>
     simp only [xW,Bool.and_eq_true,List.all_eq_true] at h
     refine ⟨h.1,Qkf G (fun cs hcs=>?_) h.2⟩
     simp only [Bool.and_eq_true] at hcs
     exact ⟨QbP hcs.1,k _ _ hcs.2⟩
   | false =>
     simp only [xW,Bool.and_eq_true,List.all_eq_true] at h
     refine ⟨h.1,Qkf G (fun cs hcs=>?_) h.2⟩
     simp only [Bool.and_eq_true] at hcs
     exact ⟨⟨QbP hcs.1.1,hcs.1.2⟩,k _ _ hcs.2⟩
 | mksl T sz bytes zero l c =>
   simp only [xW] at h
   simp only [evW]
   split at h
   ·rename_i e1 e2
    simp only [e1,e2]
    simp only [Bool.and_eq_true,decide_eq_true_eq] at h
    exact ⟨⟨h.1.1.1,h.1.1.2.1,h.1.1.2.2.1,h.1.1.2.2.2,QbP h.1.2⟩,k _ _ h.2⟩
   ·cases h
 | mapup ag ks m q x =>
   simp only [xW] at h
   simp only [evW]
   split at h
   ·rename_i e1
    simp only [e1]
    split at h
    ·rename_i e2
     simp only [e2]
     simp only [Bool.and_eq_true,decide_eq_true_eq] at h
     exact ⟨⟨h.1.1.1,h.1.1.2,QiP h.1.2.1,h.1.2.2⟩,k _ _ h.2⟩
    ·cases h
   ·cases h
 | appin sz bytes str s x =>
   simp only [xW] at h
   simp only [evW]
   split at h
   ·rename_i lim e1
    simp only [e1]
    split at h
    ·rename_i e2
     simp only [e2]
     refine Qiw (fun m ln hm=>?_) h
     simp only [Bool.and_eq_true,decide_eq_true_eq] at hm
     refine ⟨⟨hm.1.1.1,hm.1.1.2.1,hm.1.1.2.2.1,hm.1.1.2.2.2,fun c hc=>?_⟩,k _ _ hm.2⟩
     have:=hm.1.2
     subst hc
     simpa using this
    ·cases h
   ·cases h
 | copy sz str d s =>
   simp only [xW] at h
   simp only [evW]
   split at h
   ·rename_i e1
    simp only [e1]
    split at h
    ·rename_i e2
     simp only [e2]
     refine Qiw (fun m ln hm=>?_) h
     simp only [Bool.and_eq_true,decide_eq_true_eq] at hm
     exact ⟨hm.1,k _ _ hm.2⟩
    ·cases h
   ·cases h
 | clr sz zero x =>
   simp only [xW] at h
   simp only [evW]
   split at h
   ·rename_i e1
    simp only [e1]
    split at h
    ·rename_i e2
     simp only [e2]
     simp only [Bool.and_eq_true,decide_eq_true_eq] at h
     exact ⟨⟨h.1.1.1,h.1.1.2.1,h.1.1.2.2.1,h.1.1.2.2.2,QbP h.1.2⟩,k _ _ h.2⟩
    ·cases h
   ·cases h
 | ment ag ks zero m q =>
   simp only [xW] at h
   simp only [evW]
   split at h
   ·rename_i e1
    simp only [e1]
    split at h
    ·rename_i e2
     simp only [e2]
     simp only [Bool.and_eq_true,decide_eq_true_eq] at h
     exact ⟨⟨h.1.1.1,h.1.1.2,QiP h.1.2.1,h.1.2.2⟩,k _ _ h.2⟩
    ·cases h
   ·cases h
 | mst m s x =>
   simp only [xW] at h
   simp only [evW]
   split at h
   ·rename_i e1 e2
    simp only [e1,e2]
    split at h
    ·rename_i e3
     simp only [e3]
     simp only [Bool.and_eq_true,decide_eq_true_eq] at h
     exact ⟨h.1,k _ _ h.2⟩
    ·cases h
   ·cases h
 | iter x =>
   simp only [xW] at h
   simp only [evW]
   split at h
   ·rename_i e1
    simp only [e1]
    split at h
    ·rename_i e2
     simp only [e2]
     simp only [Bool.and_eq_true,decide_eq_true_eq] at h
     exact ⟨h.1,k _ _ h.2⟩
    ·cases h
   ·cases h
 | next x =>
   simp only [xW] at h
   simp only [evW]
   split at h
   ·rename_i e1
    simp only [e1]
    split at h
    ·rename_i e2
     simp only [e2]
     split at h
     ·rename_i e3
      simp only [e3]
      simp only [Bool.and_eq_true,decide_eq_true_eq,Bool.or_eq_true,Bool.not_eq_true',List.all_eq_true,List.mem_range,List.elem_eq_mem] at h
      refine ⟨h.1,fun hall=>?_,fun i hi hs=>k _ _ ((h.2.2 i hi).resolve_left hs)⟩
      rcases h.2.1 with h1 | h1
      ·rw [List.all_eq_false] at h1
       obtain ⟨i,hi,hn⟩:=h1
       exact absurd (hall i (List.mem_range.1 hi)) (by simpa using hn)
      ·exact k _ _ h1
     ·cases h
    ·cases h
   ·cases h
 | entry x =>
   simp only [xW] at h
   simp only [evW]
   split at h
   ·rename_i e1
    simp only [e1]
    split at h
    ·rename_i e2
     simp only [e2]
     split at h
     ·rename_i e3
      simp only [e3]
      split at h
      ·rename_i e4
       simp only [e4]
       simp only [Bool.and_eq_true,decide_eq_true_eq] at h
       exact ⟨h.1,k _ _ h.2⟩
      ·cases h
     ·cases h
    ·cases h
   ·cases h
 | tostr x =>
   simp only [xW] at h
   simp only [evW]
   refine Qiw (fun m ln hm=>?_) h
   simp only [Bool.and_eq_true,List.all_eq_true] at hm
   exact ⟨hm.1,k _ _ hm.2⟩
 | tobytes T x =>
   simp only [xW] at h
   simp only [evW]
   split at h
   ·rename_i e1
    simp only [e1]
    exact k _ _ h
   ·cases h
 | _=>simp [xW] at h
end
def spine {α:Type}:List α→(List α→Bool)→Bool
 | [],K=>K []
 | v::l,K=>spine l fun l=>K (v::l)
theorem QmX {α:Type}:∀ (l:List α) (K:List α→Bool),spine l K=K l
 | [],_=>rfl
 | v::l,K=>by rw [spine,QmX l]
def QcL:List (Option Ob)→(List (Option Ob)→Bool)→Bool
 | [],K=>K []
 | none::l,K=>QcL l fun l=>K (none::l)
 | some (.arr v T cs)::l,K=>spine cs fun cs=>YW v fun v=>QcL l fun l=>K (some (.arr v T cs)::l)
 | some (.map v es)::l,K=>spine es fun es=>YW v fun v=>QcL l fun l=>K (some (.map v es)::l)
 | some (.it v a b c s)::l,K=>QcL l fun l=>K (some (.it v a b c s)::l)
theorem Qc6:∀ (l:List (Option Ob)) (K:List (Option Ob)→Bool),QcL l K=K l
 | [],_=>rfl
 | none::l,K=>by rw [QcL,Qc6 l]
 | some (.arr v T cs)::l,K=>by rw [QcL,QmX,Xk,Qc6 l]
 | some (.map v es)::l,K=>by rw [QcL,QmX,Xk,Qc6 l]
 | some (.it v a b c s)::l,K=>by rw [QcL,Qc6 l]
def Qq4 (σ:H) (K:H→Bool):Bool:=match σ with
 | ⟨t,o⟩=>YW t fun t=>QcL o fun o=>K ⟨t,o⟩
theorem QtU (σ:H) (K:H→Bool):Qq4 σ K=K σ:=by cases σ; simp [Qq4,Xk,Qc6]
def Qkh:Fr→(Fr→Bool)→Bool
 | [],K=>K []
 | (i,v)::r,K=>YW i fun i=>Yw v fun v=>Qkh r fun r=>K ((i,v)::r)
theorem QkU:∀ (l:Fr) (K:Fr→Bool),Qkh l K=K l
 | [],_=>rfl
 | (i,v)::r,K=>by rw [Qkh,Xk,Qax,QkU r]
def Qki:List (V × V)→(List (V × V)→Bool)→Bool
 | [],K=>K []
 | (a,b)::r,K=>Yw a fun a=>Yw b fun b=>Qki r fun r=>K ((a,b)::r)
theorem QkV:∀ (l:List (V × V)) (K:List (V × V)→Bool),Qki l K=K l
 | [],_=>rfl
 | (a,b)::r,K=>by rw [Qki,Qax,Qax,QkV r]
def Qba:List (Option Ob)→(List (Option Ob)→Bool)→Bool
 | [],K=>K []
 | none::l,K=>Qba l fun l=>K (none::l)
 | some (.arr v T cs)::l,K=>Qb7 cs fun cs=>YW v fun v=>Qba l fun l=>K (some (.arr v T cs)::l)
 | some (.map v es)::l,K=>Qki es fun es=>YW v fun v=>Qba l fun l=>K (some (.map v es)::l)
 | some (.it v a b c s)::l,K=>Qba l fun l=>K (some (.it v a b c s)::l)
theorem Qb6:∀ (l:List (Option Ob)) (K:List (Option Ob)→Bool),Qba l K=K l
 | [],_=>rfl
 | none::l,K=>by rw [Qba,Qb6 l]
 | some (.arr v T cs)::l,K=>by rw [Qba,Qay,Xk,Qb6 l]
 | some (.map v es)::l,K=>by rw [Qba,QkV,Xk,Qb6 l]
 | some (.it v a b c s)::l,K=>by rw [Qba,Qb6 l]
def QmW (σ:H) (K:H→Bool):Bool:=match σ with
 | ⟨t,o⟩=>YW t fun t=>Qba o fun o=>K ⟨t,o⟩
theorem Qq3 (σ:H) (K:H→Bool):QmW σ K=K σ:=by cases σ; simp [QmW,Xk,Qb6]
def Qpw:AT→Bool
 | .done=>false
 | .rd _ _ _ t=>Qpw t
 | .wr _ _ _ _ t=>Qpw t
 | .cl _ _ _ _ _ t=>Qpw t
 | .bad _ _ _ t=>Qpw t
 | .alt _ _=>true
section
variable (P:Program) (G:Nat→Option V)
def xG (g:Option (Nat × Bool)) (fr:Fr) (A B:Fr→Bool):Bool :=
 match g with
 | none=>A fr
 | some (s,b)=>match Qd fr s with
   | .bool c=>if c==b then A (QfT fr s (.bool b)) else B (QfT fr s (.bool !b))
   | .tup _=>B fr
   | _=>false
theorem Qzc {g:Option (Nat × Bool)} {fr:Fr} {A B:Fr→Bool} {A' B':Fr→Prop} (ka:∀ fr,A fr=true→A' fr) (kb:∀ fr,B fr=true→B' fr) (h:xG g fr A B=true):Qbr g fr A' B':=by
 unfold xG at h
 unfold Qbr
 split at h
 ·exact ka _ h
 ·split at h
  ·rename_i c hc
   simp only [hc]
   split at h
   ·rename_i e
    simp only [beq_iff_eq] at e
    exact ⟨fun _=>ka _ h,fun e'=>by subst e; cases c <;> cases e'⟩
   ·rename_i e
    simp only [beq_iff_eq] at e
    exact ⟨fun e'=>absurd e' e,fun _=>kb _ h⟩
  ·rename_i hc
   simp only [hc]
   exact kb _ h
  ·cases h
abbrev Call:=Nat→Nat→List V→H→(V→H→Bool)→Bool
def QyO (call:Call):Prop:=∀ base f args σ (K:V→H→Bool),call base f args σ K=true→Qn P f=true∧C P G base f args σ fun v σ=>K v σ=true
def xT (call:Call) (base:Nat):AT→Fr→H→(Fr→H→Bool)→Bool
 | .done,fr,σ,K=>K fr σ
 | .rd d g op t,fr,σ,K=>xG g fr (fun fr=>xR G fr σ (fun v=>Yw v fun v=>xT call base t (fput fr d v) σ K) op) (fun fr=>xT call base t (fput fr d (.tup [])) σ K)
 | .wr k d g op t,fr,σ,K=>xG g fr (fun fr=>xW G (if k&&!op.isApp then σ.o.length else base) fr σ (fun v σ'=>Yw v fun v=>Qq4 σ' fun σ'=>xT call base t (fput fr d v) σ' K) op) (fun fr=>xT call base t (fput fr d (.tup [])) σ K)
 | .cl k d g f args t,fr,σ,K=>xG g fr (fun fr=>match arg G fr f with
  | .fn (.func f) first cap=>call (if k then σ.o.length else base) f (first++args.map (arg G fr)++cap) σ fun v σ'=>xT call base t (fput fr d v) σ' K
  | _=>false) (fun fr=>xT call base t (fput fr d (.tup [])) σ K)
 | .bad _ d g t,fr,σ,K=>xG g fr (fun _=>false) (fun fr=>xT call base t (fput fr d (.tup [])) σ K)
 | .alt s t,fr,σ,K=>xT call base s fr σ K&&xT call base t fr σ K
theorem QkD {call:Call} (hc:QyO P G call) {n base:Nat}:∀ (t:AT) (fr:Fr) (σ:H) (K:Fr→H→Bool),xT G call base t fr σ K=true→wt P G n base t fr σ fun fr σ=>K fr σ=true
 | .done,fr,σ,K,h=>h
 | .rd d g op t,fr,σ,K,h=>Qzc (fun fr hf=>xR_ok G (fun v hv=>by rw [Qax] at hv; exact QkD hc t _ _ _ hv) hf) (fun fr hf=>QkD hc t _ _ _ hf) h
 | .wr k d g op t,fr,σ,K,h=>Qzc (fun fr hf=>xW_ok G (fun v σ' hv=>by rw [Qax,QtU] at hv; exact QkD hc t _ _ _ hv) hf) (fun fr hf=>QkD hc t _ _ _ hf) h
 | .cl k d g f args t,fr,σ,K,h=>Qzc (fun fr hf=>by
  unfold CV
  split at hf
  ·rename_i e
   simp only [e]
   obtain ⟨h1,h2⟩:=hc _ _ _ _ _ hf
   exact ⟨h1,h2.conseq fun v σ' hv=>QmS _ _ _ _ (QkD hc t _ _ _ hv)⟩
  ·cases hf) (fun fr hf=>QkD hc t _ _ _ hf) h
 | .bad _ d g t,fr,σ,K,h=>Qzc (fun fr hf=>by cases hf) (fun fr hf=>QkD hc t _ _ _ hf) h
 | .alt s t,fr,σ,K,h=>by
   simp only [xT,Bool.and_eq_true] at h
   exact ⟨QkD hc s _ _ _ h.1,QkD hc t _ _ _ h.2⟩
def xC (call:Call) (base:Nat):Nat→AC→Fr→H→(AE→Fr→H→Bool)→Bool
 | 0,_,_,_,_=>false
 | k+1,c,fr,σ,K=>match c with
   | .skip=>K .nrm fr σ
   | .reg t dead=>if Qpw t then xT G call base t fr σ fun fr σ=>Qkh (fdel fr dead) fun fr=>QmW σ fun σ=>K .nrm fr σ&&true
     else xT G call base t fr σ fun fr σ=>K .nrm (fdel fr dead) σ
   | .seq a b=>xC call base k a fr σ fun e fr σ=>match e with
     | .nrm=>xC call base k b fr σ K
     | e=>K e fr σ
   | .cond c a b=>match arg G fr c with
     | .bool t=>if t then xC call base k a fr σ K else xC call base k b fr σ K
     | _=>false
   | .block id a=>xC call base k a fr σ fun e fr σ=>match e with
     | .ex id'=>if id'=id then K .nrm fr σ else K (.ex id') fr σ
     | e=>K e fr σ
   | .loop a=>xC call base k a fr σ fun e fr σ=>match e with
     | .nrm=>xC call base k (.loop a) fr σ K
     | e=>K e fr σ
   | .exit id=>K (.ex id) fr σ
   | .ret=>K .ret fr σ
   | .bad=>false
theorem xC_ok {call:Call} (hc:QyO P G call) {n base:Nat}:∀ (k:Nat) (c:AC) (fr:Fr) (σ:H) (K:AE→Fr→H→Bool),xC G call base k c fr σ K=true→W P G n base c fr σ fun e fr σ=>K e fr σ=true:=by
 intro k
 induction k using Nat.strongRecOn with
 | _ k0 ihs =>
  cases k0 with
  | zero=>intro c fr σ K h; cases h
  | succ k =>
   have ih:=ihs k (Nat.lt_succ_self _)
   intro c fr σ K h
   cases c with
   | skip=>exact QIG h
   | reg t dead =>
     simp only [xC] at h
     split at h
     ·refine QMC (WT.conseq (QmS _ _ _ _ (QkD P G hc t _ _ _ h)) fun fr σ hf=>?_)
      simpa [QkU,Qq3] using hf
     ·exact QMC (QmS _ _ _ _ (QkD P G hc t _ _ _ h))
   | seq a b =>
     refine W_seq ((ih a fr σ _ h).conseq fun e fr σ he=>?_)
     cases e with
     | nrm=>exact ih b fr σ K he
     | ex id=>exact he
     | ret=>exact he
   | cond c a b =>
     simp only [xC] at h
     refine QIJ ?_
     unfold condK
     split at h
     ·rename_i t e
      simp only [e]
      cases t with
      | true=>exact ⟨fun _=>ih a fr σ K h,fun e=>by cases e⟩
      | false=>exact ⟨fun e=>(by cases e),fun _=>ih b fr σ K h⟩
     ·cases h
   | block id a =>
     refine QyL ((ih a fr σ _ h).conseq fun e fr σ he=>?_)
     cases e with
     | nrm=>exact he
     | ret=>exact he
     | ex id' =>
       simp only [QA0]
       simp only at he
       split
       ·rename_i e; rw [if_pos e] at he; exact he
       ·rename_i e; rw [if_neg e] at he; exact he
   | loop a =>
     refine QIH (α:=Nat × Fr × H) (fun s=>s.2.1) (fun s=>s.2.2) (fun s=>s.1) (fun s=>s.1≤k+1∧xC G call base s.1 (.loop a) s.2.1 s.2.2 K=true) (fun s hs=>?_) (k+1,fr,σ) ⟨Nat.le_refl _,h⟩
     obtain ⟨m,fr,σ⟩:=s
     obtain ⟨hm,hs⟩:=hs
     cases m with
     | zero=>cases hs
     | succ m =>
       have hs:xC G call base m a fr σ (fun e fr σ=>match e with
        | .nrm=>xC G call base m (.loop a) fr σ K
        | e=>K e fr σ)=true:=hs
       have hw:W P G n base a fr σ fun e fr σ=>(match e with
        | .nrm=>xC G call base m (.loop a) fr σ K
        | e=>K e fr σ)=true:=ihs m (by simp only at hm; omega) a fr σ _ hs
       refine hw.conseq fun e fr σ he=>?_
       cases e with
       | nrm=>exact ⟨(m,fr,σ),⟨by simp only at hm ⊢; omega,he⟩,Nat.lt_succ_self _,fun _ _ _ h=>h,rfl⟩
       | ex id=>exact he
       | ret=>exact he
   | exit id=>exact QII h
   | ret=>exact W_ret h
   | bad=>cases h
end
section
variable (P:Program) (G:Nat→Option V)
def xRes (fr:Fr) (σ:H):List RV→(List V→Bool)→Bool
 | [],K=>K []
 | .tmp t::r,K=>xRes fr σ r fun l=>K (Qd fr t::l)
 | .cell t ag sz::r,K=>Qzb σ ag sz (Qd fr t) fun v=>xRes fr σ r fun l=>K (v::l)
theorem Qww {fr:Fr} {σ:H} (rs:List RV):∀ {K:List V→Bool} {K':List V→Prop},(∀ l,K l=true→K' l)→xRes fr σ rs K=true→Qq7 G fr σ rs K':=by
 induction rs with
 | nil=>intro K K' k h; exact k _ h
 | cons r rs ih =>
   intro K K' k h
   cases r with
   | tmp t=>exact ih (K:=fun l=>K (Qd fr t::l)) (K':=fun l=>K' (Qd fr t::l)) (fun l hl=>k _ hl) h
   | cell t ag sz=>exact QsI (K:=fun v=>xRes fr σ rs fun l=>K (v::l)) (fun v hv=>ih (K:=fun l=>K (v::l)) (K':=fun l=>K' (v::l)) (fun l hl=>k _ hl) hv) h
def xF (T:Nat→Option AF) (fuel:Nat):Nat→Call
 | 0,_,_,_,_,_=>false
 | k+1,base,f,args,σ,K=>match T f with
   | some A=>decide (args.length≤A.n)&&Qb7 args fun args=>xC G (xF T fuel k) base fuel A.body (QzR 0 args) σ fun e fr σ=>match e with
     | .ex _=>false
     | _=>xRes fr σ A.res fun l=>K (QhU l) σ
   | none=>false
def Qe (T:Nat→Option AF):Prop:=∀ f A,T f=some A→Qn P f=true∧∃ M dd,QA P M dd f=some A
theorem xF_ok {T:Nat→Option AF} (hT:Qe P T) {fuel:Nat}:∀ k,QyO P G (xF G T fuel k)
 | 0=>fun base f args σ K h=>by cases h
 | k+1=>fun base f args σ K h=>by
   simp only [xF] at h
   split at h
   ·rename_i A hA
    simp only [Bool.and_eq_true,decide_eq_true_eq,Qay] at h
    obtain ⟨h1,M,dd,h2⟩:=hT f A hA
    refine ⟨h1,QIN h2 h.1 ((xC_ok P G (xF_ok hT k) fuel _ _ _ _ h.2).conseq fun e fr σ he=>?_)⟩
    cases e with
    | ex id=>cases he
    | nrm=>exact Qww G _ (fun l hl=>hl) he
    | ret=>exact Qww G _ (fun l hl=>hl) he
   ·cases h
end
end Go.Am
