/- A logic of programs over abstract values: joined texts. -/
import Derived.Test.YtfgccihafnjalaaGreatDoorAmB
namespace Go.Am
open Go
def XP {α:Type} (n:Nat) (K:Nat→α):α:=match n with
 | 0=>K 0
 | k+1=>K (k+1)
theorem QU {α:Type} (n:Nat) (K:Nat→α):XP n K=K n:=by cases n <;> rfl
def QsL {α:Type} (n:Int) (K:Int→α):α:=match n with
 | .ofNat m=>XP m fun m=>K (.ofNat m)
 | .negSucc m=>XP m fun m=>K (.negSucc m)
theorem Qvj {α:Type} (n:Int) (K:Int→α):QsL n K=K n:=by cases n <;> simp [QsL,QU]
mutual
def XA:V→(V→Bool)→Bool
 | .int k n,K=>QsL n fun n=>K (.int k n)
 | .bool b,K=>if b then K (.bool true) else K (.bool false)
 | .ptr n v off,K=>XP n fun n=>XP v fun v=>XP off fun off=>K (.ptr n v off)
 | .sl n v off sz len lim,K=>XP n fun n=>XP v fun v=>XP off fun off=>XP len fun len=>match lim with
   | none=>K (.sl n v off sz len none)
   | some c=>XP c fun c=>K (.sl n v off sz len (some c))
 | .mp n v,K=>XP n fun n=>XP v fun v=>K (.mp n v)
 | .agg l,K=>QaU l fun l=>K (.agg l)
 | .tup l,K=>QaU l fun l=>K (.tup l)
 | .lst sz l t,K=>QaU l fun l=>if t then K (.lst sz l true) else K (.lst sz l false)
 | .ref x off,K=>XA x fun x=>XP off fun off=>K (.ref x off)
 | .any,K=>K .any
 | .str s,K=>QlI s fun s=>K (.str s)
 | .val x,K=>K (.val x)
 | .fn f l m,K=>QaU l fun l=>QaU m fun m=>K (.fn f l m)
 | .iface t x,K=>XA x fun x=>K (.iface t x)
def QaU:List V→(List V→Bool)→Bool
 | [],K=>K []
 | v::l,K=>XA v fun v=>QaU l fun l=>K (v::l)
def QlI:List UInt8→(List UInt8→Bool)→Bool
 | [],K=>K []
 | b::l,K=>QlI l fun l=>K (b::l)
end
theorem Qol:∀ (l:List UInt8) (K:List UInt8→Bool),QlI l K=K l
 | [],_=>by rw [QlI]
 | b::l,K=>by rw [QlI,Qol l]
mutual
theorem YT:∀ (v:V) (K:V→Bool),XA v K=K v
 | .int k n,K=>by rw [XA,Qvj]
 | .bool b,K=>by cases b <;> rw [XA] <;> rfl
 | .ptr n v off,K=>by rw [XA,QU,QU,QU]
 | .sl n v off sz len lim,K=>by rw [XA,QU,QU,QU,QU]; cases lim <;> simp [QU]
 | .mp n v,K=>by rw [XA,QU,QU]
 | .agg l,K=>by rw [XA,YU l]
 | .tup l,K=>by rw [XA,YU l]
 | .lst sz l t,K=>by rw [XA,YU l]; cases t <;> rfl
 | .ref x off,K=>by rw [XA,YT x,QU]
 | .any,K=>by rw [XA]
 | .str s,K=>by rw [XA,Qol]
 | .val x,K=>by rw [XA]
 | .fn f l m,K=>by rw [XA,YU l,YU m]
 | .iface t x,K=>by rw [XA,YT x]
theorem YU:∀ (l:List V) (K:List V→Bool),QaU l K=K l
 | [],K=>by rw [QaU]
 | v::l,K=>by rw [QaU,YT v,YU l]
end
section
variable (G:Nat→Option V)
def xBin (op:BinOp) (x y:V) (K:V→Bool):Bool :=
 match op,x,y with
 | .shl,.int k a,.int _ b=>decide (0≤b)&&K (.int k (k.wrap (a * 2 ^ min b.toNat k.bits)))
 | .shr,.int k a,.int _ b=>decide (0≤b)&&K (.int k (a.fdiv (2 ^ min b.toNat k.bits)))
 | .add,.int k a,.int k' b=>decide (k=k')&&K (.int k (k.wrap (a+b)))
 | .sub,.int k a,.int k' b=>decide (k=k')&&K (.int k (k.wrap (a - b)))
 | .mul,.int k a,.int k' b=>decide (k=k')&&K (.int k (k.wrap (a * b)))
 | .quo,.int k a,.int k' b=>decide (k=k'∧b≠0)&&K (.int k (k.wrap (a.tdiv b)))
 | .rem,.int k a,.int k' b=>decide (k=k'∧b≠0)&&K (.int k (a.tmod b))
 | .and,.int k a,.int k' b=>decide (k=k')&&K (.int k (k.wrap (BitVec.ofInt k.bits a &&& BitVec.ofInt k.bits b).toNat))
 | .or,.int k a,.int k' b=>decide (k=k')&&K (.int k (k.wrap (BitVec.ofInt k.bits a ||| BitVec.ofInt k.bits b).toNat))
 | .xor,.int k a,.int k' b=>decide (k=k')&&K (.int k (k.wrap (BitVec.ofInt k.bits a ^^^ BitVec.ofInt k.bits b).toNat))
 | .andNot,.int k a,.int k' b=>decide (k=k')&&K (.int k (k.wrap (BitVec.ofInt k.bits a &&& ~~~ BitVec.ofInt k.bits b).toNat))
 | .eql,.int k a,.int k' b=>decide (k=k')&&K (.bool (a==b))
 | .neq,.int k a,.int k' b=>decide (k=k')&&K (.bool (a != b))
 | .lss,.int k a,.int k' b=>decide (k=k')&&K (.bool (decide (a<b)))
 | .leq,.int k a,.int k' b=>decide (k=k')&&K (.bool (decide (a≤b)))
 | .gtr,.int k a,.int k' b=>decide (k=k')&&K (.bool (decide (a > b)))
 | .geq,.int k a,.int k' b=>decide (k=k')&&K (.bool (decide (a≥b)))
 | .add,.str a,.str b=>decide (a.length+b.length≤9223372036854775807)&&K (.str (a++b))
 | .eql,.str a,.str b=>K (.bool (a==b))
 | .neq,.str a,.str b=>K (.bool (a != b))
 | _,_,_=>false
variable {K':V→Prop} {K:V→Bool} {x y u:V}
theorem QHB {op:BinOp} (k:∀ v,K v=true→K' v) (h:xBin op x y K=true):QpI op x y K':=by
 unfold xBin at h
 unfold QpI
 split at h <;> (try simp only [Bool.and_eq_true,decide_eq_true_eq,Bool.false_eq_true] at h) <;> first | exact ⟨h.1,k _ h.2⟩ | exact k _ h
def xUn (op:UnOp) (x:V) (K:V→Bool):Bool :=
 match op,x with
 | .neg,.int k n=>K (.int k (k.wrap (0 - n)))
 | .xor,.int k n=>K (.int k (k.wrap (BitVec.ofInt k.bits (if k.signed then -1 else k.max) ^^^ BitVec.ofInt k.bits n).toNat))
 | .not,.bool b=>K (.bool !b)
 | _,_=>false
theorem xUn_ok {op:UnOp} (k:∀ v,K v=true→K' v) (h:xUn op x K=true):QIP op x K':=by
 unfold xUn at h
 unfold QIP
 split at h <;> first | exact k _ h | cases h
def Qu8 (fr:Fr):List (Nat × Nat × Arg)→List V→(List V→Bool)→Bool
 | [],cs,K=>K cs
 | (off,sz,x)::r,cs,K=>decide ((arg G fr x).cells.length=sz∧off+sz≤cs.length)&&Qu8 fr r (cs.take off++(arg G fr x).cells++cs.drop (off+sz)) K
theorem QkR {fr:Fr}:∀ {ps:List (Nat × Nat × Arg)} {cs:List V} {K:List V→Bool} {K':List V→Prop},(∀ v,K v=true→K' v)→Qu8 G fr ps cs K=true→Qh9 G fr ps cs K'
 | [],_,_,_,k,h=>k _ h
 | (off,sz,x)::r,cs,K,K',k,h=>by
   simp only [Qu8,Bool.and_eq_true,decide_eq_true_eq] at h
   exact ⟨h.1,QkR k h.2⟩
def Qe1 (fr:Fr) (len:Nat) (lo hi:Option Arg) (K:Nat→Nat→Bool):Bool :=
 match lo.map (arg G fr),hi.map (arg G fr) with
 | none,none=>K 0 len
 | none,some (.int _ h)=>decide (0≤h∧h.toNat≤len)&&K 0 h.toNat
 | some (.int _ l),none=>decide (0≤l∧l.toNat≤len)&&K l.toNat len
 | some (.int _ l),some (.int _ h)=>decide (0≤l∧l≤h∧h.toNat≤len)&&K l.toNat h.toNat
 | _,_=>false
theorem Qbp {fr:Fr} {len:Nat} {lo hi:Option Arg} {K:Nat→Nat→Bool} {K':Nat→Nat→Prop} (k:∀ a b,K a b=true→K' a b) (h:Qe1 G fr len lo hi K=true):QE G fr len lo hi K':=by
 unfold Qe1 at h
 unfold QE
 generalize lo.map (arg G fr)=x at h ⊢
 generalize hi.map (arg G fr)=y at h ⊢
 split at h <;> (try simp only [Bool.and_eq_true,decide_eq_true_eq,Bool.false_eq_true] at h) <;> first | exact ⟨h.1,k _ _ h.2⟩ | exact k _ _ h
def QJO (v v':Nat):Bool:=decide (v=v')
def Qxf (sz:Nat) (alen:Option Nat) (y z:V) (K:V→Bool):Bool :=
 match alen,y,z with
 | none,.lst s l _,.int _ i=>decide (0≤i∧i.toNat<l.length∧s=sz)&&K (.ref (l.getD i.toNat .any) 0)
 | none,.sl n v off s len _,.int _ i=>decide (0≤i∧i.toNat<len∧s=sz)&&K (.ptr n v (off+i.toNat * sz))
 | some len,.ptr n v off,.int _ i=>decide (0≤i∧i.toNat<len)&&K (.ptr n v (off+i.toNat * sz))
 | some len,.ref y off,.int _ i=>decide (0≤i∧i.toNat<len)&&K (.ref y (off+i.toNat * sz))
 | _,_,_=>false
theorem Qxe {sz:Nat} {alen:Option Nat} {z:V} (k:∀ v,K v=true→K' v) (h:Qxf sz alen y z K=true):QiR sz alen y z K':=by
 unfold Qxf at h
 unfold QiR
 split at h <;> simp only [Bool.and_eq_true,decide_eq_true_eq,Bool.false_eq_true] at h <;> exact ⟨h.1,k _ h.2⟩
def xNil (u:V) (K:V→Bool):Bool :=
 match u with
 | .ptr n v off=>K (.ptr n v off)
 | .ref y off=>K (.ref y off)
 | .fn (.func f) l m=>K (.fn (.func f) l m)
 | _=>false
theorem QHx (k:∀ v,K v=true→K' v) (h:xNil u K=true):Qtr u K':=by
 unfold xNil at h
 unfold Qtr
 split at h <;> first | exact k _ h | cases h
def Qxd (neg:Bool) (x y:V) (K:V→Bool):Bool :=
 match x,y with
 | .ptr ..,.val (.pointer none)=>K (.bool neg)
 | .ref ..,.val (.pointer none)=>K (.bool neg)
 | .val (.pointer none),.ptr ..=>K (.bool neg)
 | .val (.pointer none),.ref ..=>K (.bool neg)
 | .val (.pointer none),.val (.pointer none)=>K (.bool !neg)
 | _,_=>false
variable {neg:Bool}
theorem Qxc (k:∀ v,K v=true→K' v) (h:Qxd neg x y K=true):Qfx neg x y K':=by
 unfold Qxd at h
 unfold Qfx
 split at h <;> first | exact k _ h | cases h
def Qxh (neg:Bool) (x:V) (K:V→Bool):Bool :=
 match x with
 | .fn ..=>K (.bool neg)
 | .val .nilFunc=>K (.bool !neg)
 | _=>false
theorem Qxg (k:∀ v,K v=true→K' v) (h:Qxh neg x K=true):Qfy neg x K':=by
 unfold Qxh at h
 unfold Qfy
 split at h <;> first | exact k _ h | cases h
def Qxb (neg:Bool) (x:V) (K:V→Bool):Bool :=
 match x with
 | .lst _ [] _=>K (.bool neg)&&K (.bool !neg)
 | .lst _ (_::_) _=>K (.bool neg)
 | .sl _ _ _ _ len _=>K (.bool neg)&&(decide (len≠0) || K (.bool !neg))
 | _=>false
theorem Qxa (k:∀ v,K v=true→K' v) (h:Qxb neg x K=true):Qfw neg x K':=by
 unfold Qxb at h
 unfold Qfw
 split at h <;> (try simp only [Bool.and_eq_true,Bool.false_eq_true] at h) <;> first | exact ⟨k _ h.1,k _ h.2⟩ | exact k _ h | exact ⟨k _ h.1,fun e=>k _ (by have:=h.2; simpa [e] using this)⟩
def xLen (σ:H) (kd:Nat) (u:V) (K:V→Bool):Bool :=
 match kd,u with
 | 0,.lst _ l _=>K (.int .i64 l.length)
 | 0,.sl _ _ _ _ len _=>K (.int .i64 len)
 | 1,.str s=>K (.int .i64 s.length)
 | 2,.val (.map none)=>K (.int .i64 0)
 | 2,.mp n v=>match σ.o[n]? with
   | some (some (.map v' es))=>QJO v v'&&K (.int .i64 es.length)
   | _=>false
 | _,_=>false
theorem QHz {σ:H} {kd:Nat} (k:∀ v,K v=true→K' v) (h:xLen σ kd u K=true):Qrn σ kd u K':=by
 unfold xLen at h
 unfold Qrn
 split at h <;> (try (split at h)) <;> (try (simp only [Bool.and_eq_true,QJO,decide_eq_true_eq,Bool.false_eq_true] at h)) <;> first | exact k _ h | (rename_i ho; simp only [ho]; exact ⟨h.1,k _ h.2⟩) | cases h
end
section
variable (G:Nat→Option V)
def Quv (ag:Bool) (ks:List Kd) (k:V):Bool:=(k.isAgg==ag)&&(QcJ ks k.cells k.cells).isSome
def Qmm (ag:Bool) (ks:List Kd) (k:V) (es:List (V × V)):Bool:=Quv ag ks k&&es.all fun p=>(p.1.isAgg==ag)&&(QcJ ks k.cells p.1.cells).isSome
variable {k u:V} {ks:List Kd} {ag:Bool}
theorem Qrd (h:Quv ag ks k=true):QAy ag ks k:=by
 simp only [Quv,Bool.and_eq_true,beq_iff_eq] at h
 exact h
theorem QiK {es:List (V × V)} (h:Qmm ag ks k es=true):QbQ ag ks k es:=by
 simp only [Qmm,Bool.and_eq_true,List.all_eq_true,beq_iff_eq] at h
 exact ⟨Qrd h.1,h.2⟩
def QHy (σ:H) (ok ag:Bool) (ks:List Kd) (zero:V) (u k:V) (K:V→Bool):Bool :=
 match u with
 | .mp n v=>match σ.o[n]? with
   | some (some (.map v' es))=>(QJO v v'&&Qmm ag ks k es)&&K (if ok then .tup [(Qng ks k es).getD zero,.bool (Qng ks k es).isSome] else (Qng ks k es).getD zero)
   | _=>false
 | .val (.map none)=>Quv ag ks k&&K (if ok then .tup [zero,.bool false] else zero)
 | _=>false
variable {K':V→Prop} {K:V→Bool} {σ:H}
theorem QzB {ok:Bool} {zero q:V} (k:∀ v,K v=true→K' v) (h:QHy σ ok ag ks zero u q K=true):QjZ σ ok ag ks zero u q K':=by
 unfold QHy at h
 unfold QjZ
 split at h
 ·split at h
  ·rename_i ho
   simp only [Bool.and_eq_true,QJO,decide_eq_true_eq] at h
   simp only [ho]
   exact ⟨⟨h.1.1,QiK h.1.2⟩,k _ h.2⟩
  ·cases h
 ·simp only [Bool.and_eq_true] at h
  exact ⟨Qrd h.1,k _ h.2⟩
 ·cases h
def QzC (σ:H) (ag:Bool) (sz:Nat) (u:V) (K:V→Bool):Bool:=match u with
 | .ptr n v off=>match σ.o[n]? with
   | some (some (.arr v' _ cs))=>(QJO v v'&&(decide (off+sz≤cs.length)&&(ag || decide (sz=1))))&&K (Qc5 ag off sz cs)
   | _=>false
 | .ref y off=>(decide (off+sz≤y.cells.length)&&(ag || decide (sz=1)))&&K (Qc5 ag off sz y.cells)
 | _=>false
theorem Qt3 {sz:Nat} (k:∀ v,K v=true→K' v) (h:QzC σ ag sz u K=true):Qrm σ ag sz u K':=by
 unfold QzC at h
 unfold Qrm
 split at h
 ·split at h
  ·rename_i ho
   simp only [Bool.and_eq_true,QJO,decide_eq_true_eq,Bool.or_eq_true] at h
   simp only [ho]
   exact ⟨⟨h.1.1,h.1.2.1,fun e=>h.1.2.2.resolve_left (by simp [e])⟩,k _ h.2⟩
  ·cases h
 ·simp only [Bool.and_eq_true,decide_eq_true_eq,Bool.or_eq_true] at h
  exact ⟨⟨h.1.1,fun e=>h.1.2.resolve_left (by simp [e])⟩,k _ h.2⟩
 ·cases h
def xR (fr:Fr) (σ:H) (K:V→Bool):AOp→Bool
 | .mov x=>K (arg G fr x)
 | .same x=>match arg G fr x with
   | .str s=>K (.str s)
   | .int _ n=>decide (0≤n∧n<128)&&K (.str [UInt8.ofNat n.toNat])
   | _=>false
 | .pick c a b=>match arg G fr c with
   | .bool t=>if t then K (arg G fr a) else K (arg G fr b)
   | _=>false
 | .load ag sz x=>QzC σ ag sz (arg G fr x) K
 | .nilc x=>xNil (arg G fr x) K
 | .bin op x y=>xBin op (arg G fr x) (arg G fr y) K
 | .eqb neg x y=>match arg G fr x,arg G fr y with
   | .bool a,.bool b=>K (.bool (if neg then a != b else a==b))
   | _,_=>false
 | .eqp neg x y=>Qxd neg (arg G fr x) (arg G fr y) K
 | .eqf neg x=>Qxh neg (arg G fr x) K
 | .eqn neg x=>Qxb neg (arg G fr x) K
 | .eqs neg ks x y=>match arg G fr x,arg G fr y with
   | .agg l,.agg m=>match QcJ ks l m with
     | some b=>K (.bool (if neg then !b else b))
     | none=>false
   | _,_=>false
 | .un op x=>xUn op (arg G fr x) K
 | .conv k x=>match arg G fr x with
   | .int _ n=>K (.int k (k.wrap n))
   | _=>false
 | .mkfn f a b=>K (.fn f (a.map (arg G fr)) (b.map (arg G fr)))
 | .faddr off x=>match arg G fr x with
   | .ptr n v o=>K (.ptr n v (o+off))
   | .ref y o=>K (.ref y (o+off))
   | _=>false
 | .field ag off sz x=>match arg G fr x with
   | .agg cs=>(decide (off+sz≤cs.length)&&(ag || decide (sz=1)))&&K (Qc5 ag off sz cs)
   | _=>false
 | .iaddr alen sz x i=>Qxf sz alen (arg G fr x) (arg G fr i) K
 | .aidx ag sz len x i=>match arg G fr x,arg G fr i with
   | .agg cs,.int _ i=>(decide (0≤i∧i.toNat<len∧i.toNat * sz+sz≤cs.length)&&(ag || decide (sz=1)))&&K (Qc5 ag (i.toNat * sz) sz cs)
   | _,_=>false
 | .sidx x i=>match arg G fr x,arg G fr i with
   | .str s,.int _ i=>decide (0≤i∧i.toNat<s.length)&&K (.int .u8 (s.getD i.toNat 0).toNat)
   | _,_=>false
 | .ssl x lo hi=>match arg G fr x with
   | .str s=>Qe1 G fr s.length lo hi fun l h=>K (.str ((s.drop l).take (h - l)))
   | _=>false
 | .slc sz x lo hi none=>match arg G fr x with
   | .lst s l tight=>Qe1 G fr l.length lo hi fun a b=>(decide (s=sz) || l.isEmpty)&&K (.lst s ((l.drop a).take (b - a)) (tight&&decide (b=l.length)))
   | .sl n v off s len lim=>Qe1 G fr len lo hi fun a b=>decide (s=sz∧(a=0∨a<b))&&K (.sl n v (off+a * sz) s (b - a) (lim.map (· - a)))
   | _=>false
 | .slc sz x lo hi (some mx)=>match arg G fr mx,arg G fr x with
   | .int _ m,.lst s l _=>Qe1 G fr m.toNat lo hi fun a b=>(decide (0≤m∧m.toNat≤l.length)&&(decide (s=sz) || l.isEmpty))&&K (.lst s ((l.drop a).take (b - a)) (decide (b=m.toNat)))
   | .int _ m,.sl n v off s len _=>Qe1 G fr m.toNat lo hi fun a b=>decide (s=sz∧(a=0∨a<b)∧0≤m∧m.toNat≤len)&&K (.sl n v (off+a * sz) s (b - a) (some (m.toNat - a)))
   | _,_=>false
 | .slarr n sz x lo hi=>match arg G fr x with
   | .ptr nm v off=>match σ.o[nm]? with
     | some (some (.arr v' _ cs))=>Qe1 G fr n lo hi fun a b=>decide (v=v'∧off+n * sz≤cs.length∧(a=0∨a<n))&&K (.sl nm v (off+a * sz) sz (b - a) (some (n - a)))
     | _=>false
   | _=>false
 | .extr x i=>match arg G fr x with
   | .tup l=>decide (i<l.length)&&K (l.getD i .any)
   | _=>false
 | .len kd x=>xLen σ kd (arg G fr x) K
 | .build zero parts=>parts.all (fun q=>Qb2 (arg G fr q.2.2))&&Qu8 G fr parts zero fun cs=>K (.agg cs)
 | .maxi x y=>match arg G fr x,arg G fr y with
   | .int k a,.int k' b=>decide (k=k')&&K (.int k (if b > a then b else a))
   | _,_=>false
 | .mini x y=>match arg G fr x,arg G fr y with
   | .int k a,.int k' b=>decide (k=k')&&K (.int k (if b<a then b else a))
   | _,_=>false
 | .look ok ag ks zero x k=>QHy σ ok ag ks zero (arg G fr x) (arg G fr k) K
 | _=>false
theorem xR_ok {fr:Fr} {op:AOp} (k:∀ v,K v=true→K' v) (h:xR G fr σ K op=true):evR G fr σ K' op:=by
 cases op with
 | mov x=>exact k _ h
 | load ag sz x=>exact Qt3 k h
 | nilc x=>exact QHx k h
 | bin op x y=>exact QHB k h
 | eqp neg x y=>exact Qxc k h
 | eqf neg x=>exact Qxg k h
 | eqn neg x=>exact Qxa k h
 | un op x=>exact xUn_ok k h
 | mkfn f a b=>exact k _ h
 | iaddr al sz x i=>exact Qxe k h
 | len kd x=>exact QHz k h
 | look ok ag ks z x q=>exact QzB k h
 | build z ps =>
   simp only [xR,Bool.and_eq_true,List.all_eq_true] at h
   exact ⟨h.1,QkR G (fun v hv=>k _ hv) h.2⟩
 | same x =>
   simp only [xR] at h
   simp only [evR]
   split at h
   ·rename_i e1; simp only [e1]; exact k _ h
   ·rename_i e1
    simp only [Bool.and_eq_true,decide_eq_true_eq] at h
    simp only [e1]; exact ⟨h.1,k _ h.2⟩
   ·cases h
 | pick c a b =>
   simp only [xR] at h
   simp only [evR]
   split at h
   ·rename_i t ht
    simp only [ht]
    cases t with
    | true=>exact ⟨fun _=>k _ h,fun e=>by cases e⟩
    | false=>exact ⟨fun e=>(by cases e),fun _=>k _ h⟩
   ·cases h
 | eqb neg x y =>
   simp only [xR] at h
   simp only [evR]
   split at h
   ·rename_i e1 e2; simp only [e1,e2]; exact k _ h
   ·cases h
 | eqs neg ks x y =>
   simp only [xR] at h
   simp only [evR]
   split at h
   ·rename_i e1 e2
    simp only [e1,e2]
    split at h
    ·rename_i e3; simp only [e3]; exact k _ h
    ·cases h
   ·cases h
 | conv kk x =>
   simp only [xR] at h
   simp only [evR]
   split at h
   ·rename_i e1; simp only [e1]; exact k _ h
   ·cases h
 | faddr off x =>
   simp only [xR] at h
   simp only [evR,Qmv]
   split at h
   ·rename_i e1; simp only [e1]; exact k _ h
   ·rename_i e1; simp only [e1]; exact k _ h
   ·cases h
 | field ag off sz x =>
   simp only [xR] at h
   simp only [evR]
   split at h
   ·rename_i e1
    simp only [e1]
    simp only [Bool.and_eq_true,decide_eq_true_eq,Bool.or_eq_true] at h
    exact ⟨⟨h.1.1,fun e=>h.1.2.resolve_left (by simp [e])⟩,k _ h.2⟩
   ·cases h
 | aidx ag sz len x i =>
   simp only [xR] at h
   simp only [evR]
   split at h
   ·rename_i e1 e2
    simp only [e1,e2]
    simp only [Bool.and_eq_true,decide_eq_true_eq,Bool.or_eq_true] at h
    exact ⟨⟨h.1.1.1,h.1.1.2.1,h.1.1.2.2,fun e=>h.1.2.resolve_left (by simp [e])⟩,k _ h.2⟩
   ·cases h
 | sidx x i =>
   simp only [xR] at h
   simp only [evR]
   split at h
   ·rename_i e1 e2
    simp only [e1,e2]
    simp only [Bool.and_eq_true,decide_eq_true_eq] at h
    exact ⟨h.1,k _ h.2⟩
   ·cases h
 | ssl x lo hi =>
   simp only [xR] at h
   simp only [evR]
   split at h
   ·rename_i e1; simp only [e1]; exact Qbp G (fun a b hab=>k _ hab) h
   ·cases h
 | slc sz x lo hi mx =>
   cases mx with
   | none =>
     simp only [xR] at h
     simp only [evR]
     split at h
     ·rename_i e1
      simp only [e1]
      refine Qbp G (fun a b hab=>?_) h
      simp only [Bool.and_eq_true,decide_eq_true_eq,Bool.or_eq_true,List.isEmpty_iff] at hab
      exact ⟨hab.1,k _ (by simpa using hab.2)⟩
     ·rename_i e1
      simp only [e1]
      refine Qbp G (fun a b hab=>?_) h
      simp only [Bool.and_eq_true,decide_eq_true_eq] at hab
      exact ⟨hab.1,k _ hab.2⟩
     ·cases h
   | some mx =>
     simp only [xR] at h
     simp only [evR]
     split at h
     ·rename_i e1 e2
      simp only [e1,e2]
      refine Qbp G (fun a b hab=>?_) h
      simp only [Bool.and_eq_true,decide_eq_true_eq,Bool.or_eq_true,List.isEmpty_iff] at hab
      exact ⟨⟨hab.1.1.1,hab.1.1.2,hab.1.2⟩,k _ hab.2⟩
     ·rename_i e1 e2
      simp only [e1,e2]
      refine Qbp G (fun a b hab=>?_) h
      simp only [Bool.and_eq_true,decide_eq_true_eq] at hab
      exact ⟨hab.1,k _ hab.2⟩
     ·cases h
 | slarr n sz x lo hi =>
   simp only [xR] at h
   simp only [evR]
   split at h
   ·rename_i e1
    simp only [e1]
    split at h
    ·rename_i e2
     simp only [e2]
     refine Qbp G (fun a b hab=>?_) h
     simp only [Bool.and_eq_true,decide_eq_true_eq] at hab
     exact ⟨hab.1,k _ hab.2⟩
    ·cases h
   ·cases h
 | extr x i =>
   simp only [xR] at h
   simp only [evR]
   split at h
   ·rename_i e1
    simp only [e1]
    simp only [Bool.and_eq_true,decide_eq_true_eq] at h
    exact ⟨h.1,k _ h.2⟩
   ·cases h
 | maxi x y =>
   simp only [xR] at h
   simp only [evR]
   split at h
   ·rename_i e1 e2
    simp only [e1,e2]
    simp only [Bool.and_eq_true,decide_eq_true_eq] at h
    exact ⟨h.1,k _ h.2⟩
   ·cases h
 | mini x y =>
   simp only [xR] at h
   simp only [evR]
   split at h
   ·rename_i e1 e2
    simp only [e1,e2]
    simp only [Bool.and_eq_true,decide_eq_true_eq] at h
    exact ⟨h.1,k _ h.2⟩
   ·cases h
 | _=>simp [xR] at h
end
section
variable (G:Nat→Option V)
def Qpq (l:List V):Bool:=l.all QAm
theorem Qds {l:List V} (h:Qpq l=true):ones l:=by simpa [Qpq,ones,List.all_eq_true] using h
def QEK (σ:H) (sz:Nat) (str:Bool) (x:V) (K:Nat→List V→Bool):Bool :=
 match str,x with
 | false,.lst s l _=>(decide (s=sz) || l.isEmpty)&&K l.length (l.map V.cells).flatten
 | false,.sl k v off s len _=>match σ.o[k]? with
   | some (some (.arr v' _ cs))=>decide (v=v'∧s=sz∧off+len * sz≤cs.length)&&K len ((cs.drop off).take (len * sz))
   | _=>false
 | true,.str s=>decide (sz=1)&&K s.length (s.map fun b=>.int .u8 b.toNat)
 | _,_=>false
variable {str:Bool} {sz base:Nat} {σ:H}
theorem Qio {x:V} {K:Nat→List V→Bool} {K':Nat→List V→Prop} (k:∀ n l,K n l=true→K' n l) (h:QEK σ sz str x K=true):Qib σ sz str x K':=by
 unfold QEK at h
 unfold Qib
 split at h
 ·simp only [Bool.and_eq_true,decide_eq_true_eq,Bool.or_eq_true,List.isEmpty_iff] at h
  exact ⟨h.1,k _ _ h.2⟩
 ·split at h
  ·rename_i ho
   simp only [ho]
   simp only [Bool.and_eq_true,decide_eq_true_eq] at h
   exact ⟨h.1,k _ _ h.2⟩
  ·cases h
 ·simp only [Bool.and_eq_true,decide_eq_true_eq] at h
  exact ⟨h.1,k _ _ h.2⟩
 ·cases h
def isOpen:V→Bool
 | .sl _ _ _ _ _ none=>true
 | _=>false
def xApp (base:Nat) (σ:H) (K:V→H→Bool) (T sz bytes:Nat) (str:Bool) (s x:V):Bool :=
 match s with
 | .sl k v off s' len none=>match σ.o[k]? with
   | some (some (.arr v' T' cs))=>QEK σ sz str x fun m ln=>decide (v=v'∧T=T'∧s'=sz∧base≤k∧off+len * sz=cs.length∧(len+m) * bytes≤140737488355328∧len+m≤9223372036854775807) &&
    K (.sl k σ.t 0 sz (len+m) none) ⟨σ.t+1,σ.o.set k (some (.arr σ.t T (cs.drop off++ln)))⟩
   | _=>false
 | u=>(QqI u&&!isOpen u)&&QEK σ sz false u fun len lo=>QEK σ sz str x fun m ln=>decide ((len=0∨0<m)∧(len+m) * bytes≤140737488355328∧len+m≤9223372036854775807) &&
  K (.sl σ.o.length σ.t 0 sz (len+m) none) (σ.push (.arr σ.t T (lo++ln)))
variable {K':V→H→Prop} {K:V→H→Bool} {fr:Fr}
theorem QHC (k:∀ v σ,K v σ=true→K' v σ) {T bytes:Nat} {s x:Arg} (h:xApp base σ K T sz bytes str (arg G fr s) (arg G fr x)=true):Qro base G fr σ K' T sz bytes str s x:=by
 unfold xApp at h
 unfold Qro
 generalize arg G fr s=u at h ⊢
 split at h
 ·simp only
  split at h
  ·rename_i ho
   simp only [ho]
   refine Qio (fun m ln hm=>?_) h
   simp only [Bool.and_eq_true,decide_eq_true_eq] at hm
   exact ⟨hm.1,k _ _ hm.2⟩
  ·cases h
 ·rename_i hne
  simp only [Bool.and_eq_true] at h
  split
  ·rename_i kk vv off s' len
   exact absurd rfl (hne kk vv off s' len)
  ·refine ⟨h.1.1,Qio (fun len lo hlo=>Qio (fun m ln hm=>?_) hlo) h.2⟩
   simp only [Bool.and_eq_true,decide_eq_true_eq] at hm
   exact ⟨hm.1,k _ _ hm.2⟩
def xW (base:Nat) (fr:Fr) (σ:H) (K:V→H→Bool):AOp→Bool
 | .new T cs=>Qpq cs&&K (.ptr σ.o.length σ.t 0) (σ.push (.arr σ.t T cs))
 | .box T x=>(Qb2 (arg G fr x)&&Qpq (arg G fr x).cells)&&K (.ptr σ.o.length σ.t 0) (σ.push (.arr σ.t T (arg G fr x).cells))
 | .store sz p x=>match arg G fr p with
   | .ptr k v off=>match σ.o[k]? with
     | some (some (.arr v' T cs))=>(decide (v=v'∧base≤k∧off+sz≤cs.length∧(arg G fr x).cells.length=sz)&&(Qb2 (arg G fr x)&&Qpq (arg G fr x).cells))&&K (.tup []) ⟨σ.t,σ.o.set k (some (.arr v T (Qno cs off (arg G fr x).cells)))⟩
     | _=>false
   | _=>false
 | .bsl true ag T sz zero len parts=>parts.all (fun q=>Qb2 (arg G fr q.2.2))&&Qu8 G fr parts (List.replicate len zero).flatten fun cs=>Qpq cs&&K (.sl σ.o.length σ.t 0 sz len none) (σ.push (.arr σ.t T cs))
 | .bsl false ag T sz zero len parts=>parts.all (fun q=>Qb2 (arg G fr q.2.2))&&Qu8 G fr parts (List.replicate len zero).flatten fun cs=>(Qpq cs&&Qb cs)&&K (.lst sz (if ag then Zx sz len cs else cs) true) σ
 | .mkmap=>K (.mp σ.o.length σ.t) (σ.push (.map σ.t []))
 | .mksl T sz bytes zero l c=>match arg G fr l,arg G fr c with
   | .int _ l,.int _ c=>(decide (0≤l∧l≤c∧c * bytes≤140737488355328∧c≤9223372036854775807)&&Qpq zero)&&K (.sl σ.o.length σ.t 0 sz l.toNat none) (σ.push (.arr σ.t T (List.replicate l.toNat zero).flatten))
   | _,_=>false
 | .mapup ag ks m k x=>match arg G fr m with
   | .mp nm v=>match σ.o[nm]? with
     | some (some (.map v' es))=>(decide (v=v'∧base≤nm)&&(Qmm ag ks (arg G fr k) es&&Qd (arg G fr k)))&&K (.tup []) ⟨σ.t,σ.o.set nm (some (.map v (Qnf ks (arg G fr k) (arg G fr x) es)))⟩
     | _=>false
   | _=>false
 | .app T sz bytes str s x=>xApp base σ K T sz bytes str (arg G fr s) (arg G fr x)
 | .appin sz bytes str s x=>match arg G fr s with
   | .sl k v off s' len lim=>match σ.o[k]? with
     | some (some (.arr v' T cs))=>QEK σ sz str (arg G fr x) fun m ln=>(decide (v=v'∧s'=sz∧base≤k∧off+(len+m) * sz≤cs.length)&&(match lim with | none=>true | some c=>decide (len+m≤c)))&&K (.sl k v off sz (len+m) lim) ⟨σ.t,σ.o.set k (some (.arr v T (Qno cs (off+len * sz) ln)))⟩
     | _=>false
   | _=>false
 | .copy sz str d s=>match arg G fr d with
   | .sl k v off s' len lim=>match σ.o[k]? with
     | some (some (.arr v' T cs))=>QEK σ sz str (arg G fr s) fun m ln=>decide (v=v'∧s'=sz∧base≤k∧off+len * sz≤cs.length)&&K (.int .i64 (min m len:Nat)) ⟨σ.t,σ.o.set k (some (.arr v T (Qno cs off (ln.take (min m len * sz)))))⟩
     | _=>false
   | _=>false
 | .clr sz zero x=>match arg G fr x with
   | .sl k v off s' len lim=>match σ.o[k]? with
     | some (some (.arr v' T cs))=>(decide (v=v'∧s'=sz∧base≤k∧off+len * sz≤cs.length)&&Qpq zero)&&K (.tup []) ⟨σ.t,σ.o.set k (some (.arr v T (Qno cs off (List.replicate len zero).flatten)))⟩
     | _=>false
   | _=>false
 | .ment ag ks zero m k=>match arg G fr m with
   | .mp nm v=>match σ.o[nm]? with
     | some (some (.map v' es))=>(decide (v=v'∧base≤nm)&&(Qmm ag ks (arg G fr k) es&&Qd (arg G fr k))) &&
      K (.tup [(Qng ks (arg G fr k) es).getD zero,.int .i64 ((Qgd ks (arg G fr k) es).getD es.length:Nat)]) ⟨σ.t,σ.o.set nm (some (.map v (Qq2 ks (arg G fr k) zero es)))⟩
     | _=>false
   | _=>false
 | .mst m s x=>match arg G fr m,arg G fr s with
   | .mp nm v,.int _ i=>match σ.o[nm]? with
     | some (some (.map v' es))=>decide (v=v'∧base≤nm∧0≤i∧i.toNat<es.length)&&K (.tup []) ⟨σ.t,σ.o.set nm (some (.map v (es.modify i.toNat fun p=>(p.1,arg G fr x))))⟩
     | _=>false
   | _,_=>false
 | .iter x=>match arg G fr x with
   | .mp nm v=>match σ.o[nm]? with
     | some (some (.map v' es))=>decide (v=v')&&K (.ptr σ.o.length σ.t 0) (σ.push (.it σ.t nm v es.length []))
     | _=>false
   | _=>false
 | .next x=>match arg G fr x with
   | .ptr k v 0=>match σ.o[k]? with
     | some (some (.it v' nm mv cnt seen))=>match σ.o[nm]? with
       | some (some (.map mv' es))=>decide (v=v'∧base≤k∧mv=mv'∧cnt=es.length)&&((!((List.range es.length).all fun i=>seen.elem i) || K (.tup [.bool false]) σ) &&
        (List.range es.length).all fun i=>seen.elem i || K (.tup [.bool true,(es.getD i (.any,.any)).1,(es.getD i (.any,.any)).2]) ⟨σ.t,σ.o.set k (some (.it v nm mv cnt (seen++[i])))⟩)
       | _=>false
     | _=>false
   | _=>false
 | .entry x=>match arg G fr x with
   | .ptr k v 0=>match σ.o[k]? with
     | some (some (.it v' nm mv cnt seen))=>match σ.o[nm]? with
       | some (some (.map mv' es))=>match seen.getLast? with
         | some i=>decide (v=v'∧mv=mv'∧cnt=es.length∧i<es.length)&&K (.tup [(es.getD i (.any,.any)).1,(es.getD i (.any,.any)).2]) σ
         | none=>false
       | _=>false
     | _=>false
   | _=>false
 | .tostr x=>QEK σ 1 false (arg G fr x) fun _ ln=>ln.all isByte&&K (.str (ln.map QgQ)) σ
 | .tobytes T x=>match arg G fr x with
   | .str s=>K (.sl σ.o.length σ.t 0 1 s.length none) (σ.push (.arr σ.t T (s.map QJc)))
   | _=>false
 | _=>false
theorem xW_ok {op:AOp} (k:∀ v σ,K v σ=true→K' v σ) (h:xW G base fr σ K op=true):evW base G fr σ K' op:=by
 cases op with
 | new T cs =>
   simp only [xW,Bool.and_eq_true] at h
   exact ⟨Qds h.1,k _ _ h.2⟩
 | box T x =>
   simp only [xW,Bool.and_eq_true] at h
   exact ⟨⟨h.1.1,Qds h.1.2⟩,k _ _ h.2⟩
 | mkmap=>exact k _ _ h
 | app T sz bytes str s x=>exact QHC G k h
 | store sz p x =>
   simp only [xW] at h
   simp only [evW]
   split at h
   ·rename_i e1
    simp only [e1]
    split at h
    ·rename_i e2
     simp only [e2]
     simp only [Bool.and_eq_true,decide_eq_true_eq] at h
     exact ⟨⟨h.1.1.1,h.1.1.2.1,h.1.1.2.2.1,h.1.2.1,h.1.1.2.2.2,Qds h.1.2.2⟩,k _ _ h.2⟩
    ·cases h
   ·cases h
 | bsl mu ag T sz zero len parts =>
   cases mu with
   | true =>
     simp only [xW,Bool.and_eq_true,List.all_eq_true] at h
     refine ⟨h.1,QkR G (fun cs hcs=>?_) h.2⟩
     simp only [Bool.and_eq_true] at hcs
     exact ⟨Qds hcs.1,k _ _ hcs.2⟩
   | false =>
     simp only [xW,Bool.and_eq_true,List.all_eq_true] at h
     refine ⟨h.1,QkR G (fun cs hcs=>?_) h.2⟩
     simp only [Bool.and_eq_true] at hcs
     exact ⟨⟨Qds hcs.1.1,hcs.1.2⟩,k _ _ hcs.2⟩
 | mksl T sz bytes zero l c =>
   simp only [xW] at h
   simp only [evW]
   split at h
   ·rename_i e1 e2
    simp only [e1,e2]
    simp only [Bool.and_eq_true,decide_eq_true_eq] at h
    exact ⟨⟨h.1.1.1,h.1.1.2.1,h.1.1.2.2.1,h.1.1.2.2.2,Qds h.1.2⟩,k _ _ h.2⟩
   ·cases h
 | mapup ag ks m q x =>
   simp only [xW] at h
   simp only [evW]
   split at h
   ·rename_i e1
    simp only [e1]
    split at h
    ·rename_i e2
     simp only [e2]
     simp only [Bool.and_eq_true,decide_eq_true_eq] at h
     exact ⟨⟨h.1.1.1,h.1.1.2,QiK h.1.2.1,h.1.2.2⟩,k _ _ h.2⟩
    ·cases h
   ·cases h
 | appin sz bytes str s x =>
   simp only [xW] at h
   simp only [evW]
   split at h
   ·rename_i lim e1
    simp only [e1]
    split at h
    ·rename_i e2
     simp only [e2]
     refine Qio (fun m ln hm=>?_) h
     simp only [Bool.and_eq_true,decide_eq_true_eq] at hm
     refine ⟨⟨hm.1.1.1,hm.1.1.2.1,hm.1.1.2.2.1,hm.1.1.2.2.2,fun c hc=>?_⟩,k _ _ hm.2⟩
     have:=hm.1.2
     subst hc
     simpa using this
    ·cases h
   ·cases h
 | copy sz str d s =>
   simp only [xW] at h
   simp only [evW]
   split at h
   ·rename_i e1
    simp only [e1]
    split at h
    ·rename_i e2
     simp only [e2]
     refine Qio (fun m ln hm=>?_) h
     simp only [Bool.and_eq_true,decide_eq_true_eq] at hm
     exact ⟨hm.1,k _ _ hm.2⟩
    ·cases h
   ·cases h
 | clr sz zero x =>
   simp only [xW] at h
   simp only [evW]
   split at h
   ·rename_i e1
    simp only [e1]
    split at h
    ·rename_i e2
     simp only [e2]
     simp only [Bool.and_eq_true,decide_eq_true_eq] at h
     exact ⟨⟨h.1.1.1,h.1.1.2.1,h.1.1.2.2.1,h.1.1.2.2.2,Qds h.1.2⟩,k _ _ h.2⟩
    ·cases h
   ·cases h
 | ment ag ks zero m q =>
   simp only [xW] at h
   simp only [evW]
   split at h
   ·rename_i e1
    simp only [e1]
    split at h
    ·rename_i e2
     simp only [e2]
     simp only [Bool.and_eq_true,decide_eq_true_eq] at h
     exact ⟨⟨h.1.1.1,h.1.1.2,QiK h.1.2.1,h.1.2.2⟩,k _ _ h.2⟩
    ·cases h
   ·cases h
 | mst m s x =>
   simp only [xW] at h
   simp only [evW]
   split at h
   ·rename_i e1 e2
    simp only [e1,e2]
    split at h
    ·rename_i e3
     simp only [e3]
     simp only [Bool.and_eq_true,decide_eq_true_eq] at h
     exact ⟨h.1,k _ _ h.2⟩
    ·cases h
   ·cases h
 | iter x =>
   simp only [xW] at h
   simp only [evW]
   split at h
   ·rename_i e1
    simp only [e1]
    split at h
    ·rename_i e2
     simp only [e2]
     simp only [Bool.and_eq_true,decide_eq_true_eq] at h
     exact ⟨h.1,k _ _ h.2⟩
    ·cases h
   ·cases h
 | next x =>
   simp only [xW] at h
   simp only [evW]
   split at h
   ·rename_i e1
    simp only [e1]
    split at h
    ·rename_i e2
     simp only [e2]
     split at h
     ·rename_i e3
      simp only [e3]
      simp only [Bool.and_eq_true,decide_eq_true_eq,Bool.or_eq_true,Bool.not_eq_true',List.all_eq_true,List.mem_range,List.elem_eq_mem] at h
      refine ⟨h.1,fun hall=>?_,fun i hi hs=>k _ _ ((h.2.2 i hi).resolve_left hs)⟩
      rcases h.2.1 with h1 | h1
      ·rw [List.all_eq_false] at h1
       obtain ⟨i,hi,hn⟩:=h1
       exact absurd (hall i (List.mem_range.1 hi)) (by simpa using hn)
      ·exact k _ _ h1
     ·cases h
    ·cases h
   ·cases h
 | entry x =>
   simp only [xW] at h
   simp only [evW]
   split at h
   ·rename_i e1
    simp only [e1]
    split at h
    ·rename_i e2
     simp only [e2]
     split at h
     ·rename_i e3
      simp only [e3]
      split at h
      ·rename_i e4
       simp only [e4]
       simp only [Bool.and_eq_true,decide_eq_true_eq] at h
       exact ⟨h.1,k _ _ h.2⟩
      ·cases h
     ·cases h
    ·cases h
   ·cases h
 | tostr x =>
   simp only [xW] at h
   simp only [evW]
   refine Qio (fun m ln hm=>?_) h
   simp only [Bool.and_eq_true,List.all_eq_true] at hm
   exact ⟨hm.1,k _ _ hm.2⟩
 | tobytes T x =>
   simp only [xW] at h
   simp only [evW]
   split at h
   ·rename_i e1
    simp only [e1]
    exact k _ _ h
   ·cases h
 | _=>simp [xW] at h
end
def spine {α:Type}:List α→(List α→Bool)→Bool
 | [],K=>K []
 | v::l,K=>spine l fun l=>K (v::l)
theorem Qpg {α:Type}:∀ (l:List α) (K:List α→Bool),spine l K=K l
 | [],_=>rfl
 | v::l,K=>by rw [spine,Qpg l]
def Qct:List (Option Ob)→(List (Option Ob)→Bool)→Bool
 | [],K=>K []
 | none::l,K=>Qct l fun l=>K (none::l)
 | some (.arr v T cs)::l,K=>spine cs fun cs=>XP v fun v=>Qct l fun l=>K (some (.arr v T cs)::l)
 | some (.map v es)::l,K=>spine es fun es=>XP v fun v=>Qct l fun l=>K (some (.map v es)::l)
 | some (.it v a b c s)::l,K=>Qct l fun l=>K (some (.it v a b c s)::l)
theorem QcY:∀ (l:List (Option Ob)) (K:List (Option Ob)→Bool),Qct l K=K l
 | [],_=>rfl
 | none::l,K=>by rw [Qct,QcY l]
 | some (.arr v T cs)::l,K=>by rw [Qct,Qpg,QU,QcY l]
 | some (.map v es)::l,K=>by rw [Qct,Qpg,QU,QcY l]
 | some (.it v a b c s)::l,K=>by rw [Qct,QcY l]
def QsN (σ:H) (K:H→Bool):Bool:=match σ with
 | ⟨t,o⟩=>XP t fun t=>Qct o fun o=>K ⟨t,o⟩
theorem Qvk (σ:H) (K:H→Bool):QsN σ K=K σ:=by cases σ; simp [QsN,QU,QcY]
def QkV:Fr→(Fr→Bool)→Bool
 | [],K=>K []
 | (i,v)::r,K=>XP i fun i=>XA v fun v=>QkV r fun r=>K ((i,v)::r)
theorem QlJ:∀ (l:Fr) (K:Fr→Bool),QkV l K=K l
 | [],_=>rfl
 | (i,v)::r,K=>by rw [QkV,QU,YT,QlJ r]
def QkW:List (V × V)→(List (V × V)→Bool)→Bool
 | [],K=>K []
 | (a,b)::r,K=>XA a fun a=>XA b fun b=>QkW r fun r=>K ((a,b)::r)
theorem QlK:∀ (l:List (V × V)) (K:List (V × V)→Bool),QkW l K=K l
 | [],_=>rfl
 | (a,b)::r,K=>by rw [QkW,YT,YT,QlK r]
def Qap:List (Option Ob)→(List (Option Ob)→Bool)→Bool
 | [],K=>K []
 | none::l,K=>Qap l fun l=>K (none::l)
 | some (.arr v T cs)::l,K=>QaU cs fun cs=>XP v fun v=>Qap l fun l=>K (some (.arr v T cs)::l)
 | some (.map v es)::l,K=>QkW es fun es=>XP v fun v=>Qap l fun l=>K (some (.map v es)::l)
 | some (.it v a b c s)::l,K=>Qap l fun l=>K (some (.it v a b c s)::l)
theorem Qbz:∀ (l:List (Option Ob)) (K:List (Option Ob)→Bool),Qap l K=K l
 | [],_=>rfl
 | none::l,K=>by rw [Qap,Qbz l]
 | some (.arr v T cs)::l,K=>by rw [Qap,YU,QU,Qbz l]
 | some (.map v es)::l,K=>by rw [Qap,QlK,QU,Qbz l]
 | some (.it v a b c s)::l,K=>by rw [Qap,Qbz l]
def Qpd (σ:H) (K:H→Bool):Bool:=match σ with
 | ⟨t,o⟩=>XP t fun t=>Qap o fun o=>K ⟨t,o⟩
theorem QsM (σ:H) (K:H→Bool):Qpd σ K=K σ:=by cases σ; simp [Qpd,QU,Qbz]
def Qrg:AT→Bool
 | .done=>false
 | .rd _ _ _ t=>Qrg t
 | .wr _ _ _ _ t=>Qrg t
 | .cl _ _ _ _ _ t=>Qrg t
 | .bad _ _ _ t=>Qrg t
 | .alt _ _=>true
section
variable (P:Program) (G:Nat→Option V)
def xG (g:Option (Nat × Bool)) (fr:Fr) (A B:Fr→Bool):Bool :=
 match g with
 | none=>A fr
 | some (s,b)=>match Qf fr s with
   | .bool c=>if c==b then A (Qf5 fr s (.bool b)) else B (Qf5 fr s (.bool !b))
   | .tup _=>B fr
   | _=>false
theorem QzD {g:Option (Nat × Bool)} {fr:Fr} {A B:Fr→Bool} {A' B':Fr→Prop} (ka:∀ fr,A fr=true→A' fr) (kb:∀ fr,B fr=true→B' fr) (h:xG g fr A B=true):QaS g fr A' B':=by
 unfold xG at h
 unfold QaS
 split at h
 ·exact ka _ h
 ·split at h
  ·rename_i c hc
   simp only [hc]
   split at h
   ·rename_i e
    simp only [beq_iff_eq] at e
    exact ⟨fun _=>ka _ h,fun e'=>by subst e; cases c <;> cases e'⟩
   ·rename_i e
    simp only [beq_iff_eq] at e
    exact ⟨fun e'=>absurd e' e,fun _=>kb _ h⟩
  ·rename_i hc
   simp only [hc]
   exact kb _ h
  ·cases h
abbrev Call:=Nat→Nat→List V→H→(V→H→Bool)→Bool
def QuX (call:Call):Prop:=∀ base f args σ (K:V→H→Bool),call base f args σ K=true→Qg P f=true∧C P G base f args σ fun v σ=>K v σ=true
def xT (call:Call) (base:Nat):AT→Fr→H→(Fr→H→Bool)→Bool
 | .done,fr,σ,K=>K fr σ
 | .rd d g op t,fr,σ,K=>xG g fr (fun fr=>xR G fr σ (fun v=>XA v fun v=>xT call base t (fput fr d v) σ K) op) (fun fr=>xT call base t (fput fr d (.tup [])) σ K)
 | .wr k d g op t,fr,σ,K=>xG g fr (fun fr=>xW G (if k&&!op.isApp then σ.o.length else base) fr σ (fun v σ'=>XA v fun v=>QsN σ' fun σ'=>xT call base t (fput fr d v) σ' K) op) (fun fr=>xT call base t (fput fr d (.tup [])) σ K)
 | .cl k d g f args t,fr,σ,K=>xG g fr (fun fr=>match arg G fr f with
  | .fn (.func f) first cap=>call (if k then σ.o.length else base) f (first++args.map (arg G fr)++cap) σ fun v σ'=>xT call base t (fput fr d v) σ' K
  | _=>false) (fun fr=>xT call base t (fput fr d (.tup [])) σ K)
 | .bad _ d g t,fr,σ,K=>xG g fr (fun _=>false) (fun fr=>xT call base t (fput fr d (.tup [])) σ K)
 | .alt s t,fr,σ,K=>xT call base s fr σ K&&xT call base t fr σ K
theorem Qlv {call:Call} (hc:QuX P G call) {n base:Nat}:∀ (t:AT) (fr:Fr) (σ:H) (K:Fr→H→Bool),xT G call base t fr σ K=true→wt P G n base t fr σ fun fr σ=>K fr σ=true
 | .done,fr,σ,K,h=>h
 | .rd d g op t,fr,σ,K,h=>QzD (fun fr hf=>xR_ok G (fun v hv=>by rw [YT] at hv; exact Qlv hc t _ _ _ hv) hf) (fun fr hf=>Qlv hc t _ _ _ hf) h
 | .wr k d g op t,fr,σ,K,h=>QzD (fun fr hf=>xW_ok G (fun v σ' hv=>by rw [YT,Qvk] at hv; exact Qlv hc t _ _ _ hv) hf) (fun fr hf=>Qlv hc t _ _ _ hf) h
 | .cl k d g f args t,fr,σ,K,h=>QzD (fun fr hf=>by
  unfold CV
  split at hf
  ·rename_i e
   simp only [e]
   obtain ⟨h1,h2⟩:=hc _ _ _ _ _ hf
   exact ⟨h1,h2.conseq fun v σ' hv=>Qo2 _ _ _ _ (Qlv hc t _ _ _ hv)⟩
  ·cases hf) (fun fr hf=>Qlv hc t _ _ _ hf) h
 | .bad _ d g t,fr,σ,K,h=>QzD (fun fr hf=>by cases hf) (fun fr hf=>Qlv hc t _ _ _ hf) h
 | .alt s t,fr,σ,K,h=>by
   simp only [xT,Bool.and_eq_true] at h
   exact ⟨Qlv hc s _ _ _ h.1,Qlv hc t _ _ _ h.2⟩
def xC (call:Call) (base:Nat):Nat→AC→Fr→H→(AE→Fr→H→Bool)→Bool
 | 0,_,_,_,_=>false
 | k+1,c,fr,σ,K=>match c with
   | .skip=>K .nrm fr σ
   | .reg t dead=>if Qrg t then xT G call base t fr σ fun fr σ=>QkV (fdel fr dead) fun fr=>Qpd σ fun σ=>K .nrm fr σ&&true
     else xT G call base t fr σ fun fr σ=>K .nrm (fdel fr dead) σ
   | .seq a b=>xC call base k a fr σ fun e fr σ=>match e with
     | .nrm=>xC call base k b fr σ K
     | e=>K e fr σ
   | .cond c a b=>match arg G fr c with
     | .bool t=>if t then xC call base k a fr σ K else xC call base k b fr σ K
     | _=>false
   | .block id a=>xC call base k a fr σ fun e fr σ=>match e with
     | .ex id'=>if id'=id then K .nrm fr σ else K (.ex id') fr σ
     | e=>K e fr σ
   | .loop a=>xC call base k a fr σ fun e fr σ=>match e with
     | .nrm=>xC call base k (.loop a) fr σ K
     | e=>K e fr σ
   | .exit id=>K (.ex id) fr σ
   | .ret=>K .ret fr σ
   | .bad=>false
theorem QHA {call:Call} (hc:QuX P G call) {n base:Nat}:∀ (k:Nat) (c:AC) (fr:Fr) (σ:H) (K:AE→Fr→H→Bool),xC G call base k c fr σ K=true→W P G n base c fr σ fun e fr σ=>K e fr σ=true:=by
 intro k
 induction k using Nat.strongRecOn with
 | _ k0 ihs =>
  cases k0 with
  | zero=>intro c fr σ K h; cases h
  | succ k =>
   have ih:=ihs k (Nat.lt_succ_self _)
   intro c fr σ K h
   cases c with
   | skip=>exact QFt h
   | reg t dead =>
     simp only [xC] at h
     split at h
     ·refine QJu (WT.conseq (Qo2 _ _ _ _ (Qlv P G hc t _ _ _ h)) fun fr σ hf=>?_)
      simpa [QlJ,QsM] using hf
     ·exact QJu (Qo2 _ _ _ _ (Qlv P G hc t _ _ _ h))
   | seq a b =>
     refine W_seq ((ih a fr σ _ h).conseq fun e fr σ he=>?_)
     cases e with
     | nrm=>exact ih b fr σ K he
     | ex id=>exact he
     | ret=>exact he
   | cond c a b =>
     simp only [xC] at h
     refine QFw ?_
     unfold condK
     split at h
     ·rename_i t e
      simp only [e]
      cases t with
      | true=>exact ⟨fun _=>ih a fr σ K h,fun e=>by cases e⟩
      | false=>exact ⟨fun e=>(by cases e),fun _=>ih b fr σ K h⟩
     ·cases h
   | block id a =>
     refine Qzd ((ih a fr σ _ h).conseq fun e fr σ he=>?_)
     cases e with
     | nrm=>exact he
     | ret=>exact he
     | ex id' =>
       simp only [QBi]
       simp only at he
       split
       ·rename_i e; rw [if_pos e] at he; exact he
       ·rename_i e; rw [if_neg e] at he; exact he
   | loop a =>
     refine QFu (α:=Nat × Fr × H) (fun s=>s.2.1) (fun s=>s.2.2) (fun s=>s.1) (fun s=>s.1≤k+1∧xC G call base s.1 (.loop a) s.2.1 s.2.2 K=true) (fun s hs=>?_) (k+1,fr,σ) ⟨Nat.le_refl _,h⟩
     obtain ⟨m,fr,σ⟩:=s
     obtain ⟨hm,hs⟩:=hs
     cases m with
     | zero=>cases hs
     | succ m =>
       have hs:xC G call base m a fr σ (fun e fr σ=>match e with
        | .nrm=>xC G call base m (.loop a) fr σ K
        | e=>K e fr σ)=true:=hs
       have hw:W P G n base a fr σ fun e fr σ=>(match e with
        | .nrm=>xC G call base m (.loop a) fr σ K
        | e=>K e fr σ)=true:=ihs m (by simp only at hm; omega) a fr σ _ hs
       refine hw.conseq fun e fr σ he=>?_
       cases e with
       | nrm=>exact ⟨(m,fr,σ),⟨by simp only at hm ⊢; omega,he⟩,Nat.lt_succ_self _,fun _ _ _ h=>h,rfl⟩
       | ex id=>exact he
       | ret=>exact he
   | exit id=>exact QFv h
   | ret=>exact W_ret h
   | bad=>cases h
end
section
variable (P:Program) (G:Nat→Option V)
def QEL (fr:Fr) (σ:H):List RV→(List V→Bool)→Bool
 | [],K=>K []
 | .tmp t::r,K=>QEL fr σ r fun l=>K (Qf fr t::l)
 | .cell t ag sz::r,K=>QzC σ ag sz (Qf fr t) fun v=>QEL fr σ r fun l=>K (v::l)
theorem Qip {fr:Fr} {σ:H} (rs:List RV):∀ {K:List V→Bool} {K':List V→Prop},(∀ l,K l=true→K' l)→QEL fr σ rs K=true→QsT G fr σ rs K':=by
 induction rs with
 | nil=>intro K K' k h; exact k _ h
 | cons r rs ih =>
   intro K K' k h
   cases r with
   | tmp t=>exact ih (K:=fun l=>K (Qf fr t::l)) (K':=fun l=>K' (Qf fr t::l)) (fun l hl=>k _ hl) h
   | cell t ag sz=>exact Qt3 (K:=fun v=>QEL fr σ rs fun l=>K (v::l)) (fun v hv=>ih (K:=fun l=>K (v::l)) (K':=fun l=>K' (v::l)) (fun l hl=>k _ hl) hv) h
def xF (T:Nat→Option AF) (fuel:Nat):Nat→Call
 | 0,_,_,_,_,_=>false
 | k+1,base,f,args,σ,K=>match T f with
   | some A=>decide (args.length≤A.n)&&QaU args fun args=>xC G (xF T fuel k) base fuel A.body (Qzs 0 args) σ fun e fr σ=>match e with
     | .ex _=>false
     | _=>QEL fr σ A.res fun l=>K (Qd4 l) σ
   | none=>false
def Qh (T:Nat→Option AF):Prop:=∀ f A,T f=some A→Qg P f=true∧∃ M dd,Qm P M dd f=some A
theorem xF_ok {T:Nat→Option AF} (hT:Qh P T) {fuel:Nat}:∀ k,QuX P G (xF G T fuel k)
 | 0=>fun base f args σ K h=>by cases h
 | k+1=>fun base f args σ K h=>by
   simp only [xF] at h
   split at h
   ·rename_i A hA
    simp only [Bool.and_eq_true,decide_eq_true_eq,YU] at h
    obtain ⟨h1,M,dd,h2⟩:=hT f A hA
    refine ⟨h1,Qzi h2 h.1 ((QHA P G (xF_ok hT k) fuel _ _ _ _ h.2).conseq fun e fr σ he=>?_)⟩
    cases e with
    | ex id=>cases he
    | nrm=>exact Qip G _ (fun l hl=>hl) he
    | ret=>exact Qip G _ (fun l hl=>hl) he
   ·cases h
end
end Go.Am
