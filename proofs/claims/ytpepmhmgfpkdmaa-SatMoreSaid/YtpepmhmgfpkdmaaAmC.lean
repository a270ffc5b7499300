/- A logic of programs over abstract values: joined texts. -/
import Derived.Test.YtpepmhmgfpkdmaaAmB

/- Running on abstract values: an interpreter whose success is a contract. -/
namespace Go.Am
open Go

def strictN {α : Type} (n : Nat) (K : Nat → α) : α := match n with
  | 0 => K 0
  | k + 1 => K (k + 1)
theorem strictN_eq {α : Type} (n : Nat) (K : Nat → α) : strictN n K = K n := by cases n <;> rfl
def strictI {α : Type} (n : Int) (K : Int → α) : α := match n with
  | .ofNat m => strictN m fun m => K (.ofNat m)
  | .negSucc m => strictN m fun m => K (.negSucc m)
theorem strictI_eq {α : Type} (n : Int) (K : Int → α) : strictI n K = K n := by cases n <;> simp [strictI, strictN_eq]

mutual
/-- A value, reckoned out. -/
def strictV : V → (V → Bool) → Bool
  | .int k n, K => strictI n fun n => K (.int k n)
  | .bool b, K => if b then K (.bool true) else K (.bool false)
  | .ptr n v off, K => strictN n fun n => strictN v fun v => strictN off fun off => K (.ptr n v off)
  | .sl n v off sz len lim, K => strictN n fun n => strictN v fun v => strictN off fun off => strictN len fun len => match lim with
    | none => K (.sl n v off sz len none)
    | some c => strictN c fun c => K (.sl n v off sz len (some c))
  | .mp n v, K => strictN n fun n => strictN v fun v => K (.mp n v)
  | .agg l, K => strictL l fun l => K (.agg l)
  | .tup l, K => strictL l fun l => K (.tup l)
  | .lst sz l t, K => strictL l fun l => if t then K (.lst sz l true) else K (.lst sz l false)
  | .ref x off, K => strictV x fun x => strictN off fun off => K (.ref x off)
  | .any, K => K .any
  | .str s, K => strictS s fun s => K (.str s)
  | .val x, K => K (.val x)
  | .fn f l m, K => strictL l fun l => strictL m fun m => K (.fn f l m)
  | .iface t x, K => strictV x fun x => K (.iface t x)
def strictL : List V → (List V → Bool) → Bool
  | [], K => K []
  | v :: l, K => strictV v fun v => strictL l fun l => K (v :: l)
def strictS : List UInt8 → (List UInt8 → Bool) → Bool
  | [], K => K []
  | b :: l, K => strictS l fun l => K (b :: l)
end

theorem strictS_eq : ∀ (l : List UInt8) (K : List UInt8 → Bool), strictS l K = K l
  | [], _ => by rw [strictS]
  | b :: l, K => by rw [strictS, strictS_eq l]

mutual
theorem strictV_eq : ∀ (v : V) (K : V → Bool), strictV v K = K v
  | .int k n, K => by rw [strictV, strictI_eq]
  | .bool b, K => by cases b <;> rw [strictV] <;> rfl
  | .ptr n v off, K => by rw [strictV, strictN_eq, strictN_eq, strictN_eq]
  | .sl n v off sz len lim, K => by rw [strictV, strictN_eq, strictN_eq, strictN_eq, strictN_eq]; cases lim <;> simp [strictN_eq]
  | .mp n v, K => by rw [strictV, strictN_eq, strictN_eq]
  | .agg l, K => by rw [strictV, strictL_eq l]
  | .tup l, K => by rw [strictV, strictL_eq l]
  | .lst sz l t, K => by rw [strictV, strictL_eq l]; cases t <;> rfl
  | .ref x off, K => by rw [strictV, strictV_eq x, strictN_eq]
  | .any, K => by rw [strictV]
  | .str s, K => by rw [strictV, strictS_eq]
  | .val x, K => by rw [strictV]
  | .fn f l m, K => by rw [strictV, strictL_eq l, strictL_eq m]
  | .iface t x, K => by rw [strictV, strictV_eq x]
theorem strictL_eq : ∀ (l : List V) (K : List V → Bool), strictL l K = K l
  | [], K => by rw [strictL]
  | v :: l, K => by rw [strictL, strictV_eq v, strictL_eq l]
end

section
variable (G : Nat → Option V)

def xBin (op : BinOp) (x y : V) (K : V → Bool) : Bool :=
  match op, x, y with
  | .shl, .int k a, .int _ b => decide (0 ≤ b) && K (.int k (k.wrap (a * 2 ^ min b.toNat k.bits)))
  | .shr, .int k a, .int _ b => decide (0 ≤ b) && K (.int k (a.fdiv (2 ^ min b.toNat k.bits)))
  | .add, .int k a, .int k' b => decide (k = k') && K (.int k (k.wrap (a + b)))
  | .sub, .int k a, .int k' b => decide (k = k') && K (.int k (k.wrap (a - b)))
  | .mul, .int k a, .int k' b => decide (k = k') && K (.int k (k.wrap (a * b)))
  | .quo, .int k a, .int k' b => decide (k = k' ∧ b ≠ 0) && K (.int k (k.wrap (a.tdiv b)))
  | .rem, .int k a, .int k' b => decide (k = k' ∧ b ≠ 0) && K (.int k (a.tmod b))
  | .and, .int k a, .int k' b => decide (k = k') && K (.int k (k.wrap (BitVec.ofInt k.bits a &&& BitVec.ofInt k.bits b).toNat))
  | .or, .int k a, .int k' b => decide (k = k') && K (.int k (k.wrap (BitVec.ofInt k.bits a ||| BitVec.ofInt k.bits b).toNat))
  | .xor, .int k a, .int k' b => decide (k = k') && K (.int k (k.wrap (BitVec.ofInt k.bits a ^^^ BitVec.ofInt k.bits b).toNat))
  | .andNot, .int k a, .int k' b => decide (k = k') && K (.int k (k.wrap (BitVec.ofInt k.bits a &&& ~~~ BitVec.ofInt k.bits b).toNat))
  | .eql, .int k a, .int k' b => decide (k = k') && K (.bool (a == b))
  | .neq, .int k a, .int k' b => decide (k = k') && K (.bool (a != b))
  | .lss, .int k a, .int k' b => decide (k = k') && K (.bool (decide (a < b)))
  | .leq, .int k a, .int k' b => decide (k = k') && K (.bool (decide (a ≤ b)))
  | .gtr, .int k a, .int k' b => decide (k = k') && K (.bool (decide (a > b)))
  | .geq, .int k a, .int k' b => decide (k = k') && K (.bool (decide (a ≥ b)))
  | .add, .str a, .str b => decide (a.length + b.length ≤ 9223372036854775807) && K (.str (a ++ b))
  | .eql, .str a, .str b => K (.bool (a == b))
  | .neq, .str a, .str b => K (.bool (a != b))
  | _, _, _ => false

theorem xBin_ok {op : BinOp} {x y : V} {K : V → Bool} {K' : V → Prop} (k : ∀ v, K v = true → K' v) (h : xBin op x y K = true) : evBin op x y K' := by
  unfold xBin at h
  unfold evBin
  split at h <;> (try simp only [Bool.and_eq_true, decide_eq_true_eq, Bool.false_eq_true] at h) <;> first | exact ⟨h.1, k _ h.2⟩ | exact k _ h

def xUn (op : UnOp) (x : V) (K : V → Bool) : Bool :=
  match op, x with
  | .neg, .int k n => K (.int k (k.wrap (0 - n)))
  | .xor, .int k n => K (.int k (k.wrap (BitVec.ofInt k.bits (if k.signed then -1 else k.max) ^^^ BitVec.ofInt k.bits n).toNat))
  | .not, .bool b => K (.bool !b)
  | _, _ => false

theorem xUn_ok {op : UnOp} {x : V} {K : V → Bool} {K' : V → Prop} (k : ∀ v, K v = true → K' v) (h : xUn op x K = true) : evUn op x K' := by
  unfold xUn at h
  unfold evUn
  split at h <;> first | exact k _ h | cases h

def xFill (fr : Fr) : List (Nat × Nat × Arg) → List V → (List V → Bool) → Bool
  | [], cs, K => K cs
  | (off, sz, x) :: r, cs, K => decide ((arg G fr x).cells.length = sz ∧ off + sz ≤ cs.length) && xFill fr r (cs.take off ++ (arg G fr x).cells ++ cs.drop (off + sz)) K

theorem xFill_ok {fr : Fr} : ∀ {ps : List (Nat × Nat × Arg)} {cs : List V} {K : List V → Bool} {K' : List V → Prop}, (∀ v, K v = true → K' v) → xFill G fr ps cs K = true → fillV G fr ps cs K'
  | [], _, _, _, k, h => k _ h
  | (off, sz, x) :: r, cs, K, K', k, h => by
    simp only [xFill, Bool.and_eq_true, decide_eq_true_eq] at h
    exact ⟨h.1, xFill_ok k h.2⟩

def xBounds (fr : Fr) (len : Nat) (lo hi : Option Arg) (K : Nat → Nat → Bool) : Bool :=
  match lo.map (arg G fr), hi.map (arg G fr) with
  | none, none => K 0 len
  | none, some (.int _ h) => decide (0 ≤ h ∧ h.toNat ≤ len) && K 0 h.toNat
  | some (.int _ l), none => decide (0 ≤ l ∧ l.toNat ≤ len) && K l.toNat len
  | some (.int _ l), some (.int _ h) => decide (0 ≤ l ∧ l ≤ h ∧ h.toNat ≤ len) && K l.toNat h.toNat
  | _, _ => false

theorem xBounds_ok {fr : Fr} {len : Nat} {lo hi : Option Arg} {K : Nat → Nat → Bool} {K' : Nat → Nat → Prop} (k : ∀ a b, K a b = true → K' a b) (h : xBounds G fr len lo hi K = true) : evBounds G fr len lo hi K' := by
  unfold xBounds at h
  unfold evBounds
  generalize lo.map (arg G fr) = x at h ⊢
  generalize hi.map (arg G fr) = y at h ⊢
  split at h <;> (try simp only [Bool.and_eq_true, decide_eq_true_eq, Bool.false_eq_true] at h) <;> first | exact ⟨h.1, k _ _ h.2⟩ | exact k _ _ h

def eqOb (v v' : Nat) : Bool := decide (v = v')

def xIaddr (sz : Nat) (alen : Option Nat) (y z : V) (K : V → Bool) : Bool :=
  match alen, y, z with
  | none, .lst s l _, .int _ i => decide (0 ≤ i ∧ i.toNat < l.length ∧ s = sz) && K (.ref (l.getD i.toNat .any) 0)
  | none, .sl n v off s len _, .int _ i => decide (0 ≤ i ∧ i.toNat < len ∧ s = sz) && K (.ptr n v (off + i.toNat * sz))
  | some len, .ptr n v off, .int _ i => decide (0 ≤ i ∧ i.toNat < len) && K (.ptr n v (off + i.toNat * sz))
  | some len, .ref y off, .int _ i => decide (0 ≤ i ∧ i.toNat < len) && K (.ref y (off + i.toNat * sz))
  | _, _, _ => false

theorem xIaddr_ok {sz : Nat} {alen : Option Nat} {y z : V} {K : V → Bool} {K' : V → Prop} (k : ∀ v, K v = true → K' v) (h : xIaddr sz alen y z K = true) : evIaddr sz alen y z K' := by
  unfold xIaddr at h
  unfold evIaddr
  split at h <;> simp only [Bool.and_eq_true, decide_eq_true_eq, Bool.false_eq_true] at h <;> exact ⟨h.1, k _ h.2⟩

def xNil (u : V) (K : V → Bool) : Bool :=
  match u with
  | .ptr n v off => K (.ptr n v off)
  | .ref y off => K (.ref y off)
  | .fn (.func f) l m => K (.fn (.func f) l m)
  | _ => false

theorem xNil_ok {u : V} {K : V → Bool} {K' : V → Prop} (k : ∀ v, K v = true → K' v) (h : xNil u K = true) : evNil u K' := by
  unfold xNil at h
  unfold evNil
  split at h <;> first | exact k _ h | cases h

def xPtrEq (neg : Bool) (x y : V) (K : V → Bool) : Bool :=
  match x, y with
  | .ptr .., .val (.pointer none) => K (.bool neg)
  | .ref .., .val (.pointer none) => K (.bool neg)
  | .val (.pointer none), .ptr .. => K (.bool neg)
  | .val (.pointer none), .ref .. => K (.bool neg)
  | .val (.pointer none), .val (.pointer none) => K (.bool !neg)
  | _, _ => false

theorem xPtrEq_ok {neg : Bool} {x y : V} {K : V → Bool} {K' : V → Prop} (k : ∀ v, K v = true → K' v) (h : xPtrEq neg x y K = true) : evPtrEq neg x y K' := by
  unfold xPtrEq at h
  unfold evPtrEq
  split at h <;> first | exact k _ h | cases h

def xFunEq (neg : Bool) (x : V) (K : V → Bool) : Bool :=
  match x with
  | .fn .. => K (.bool neg)
  | .val .nilFunc => K (.bool !neg)
  | _ => false

theorem xFunEq_ok {neg : Bool} {x : V} {K : V → Bool} {K' : V → Prop} (k : ∀ v, K v = true → K' v) (h : xFunEq neg x K = true) : evFunEq neg x K' := by
  unfold xFunEq at h
  unfold evFunEq
  split at h <;> first | exact k _ h | cases h

def xSlNil (neg : Bool) (x : V) (K : V → Bool) : Bool :=
  match x with
  | .lst _ [] _ => K (.bool neg) && K (.bool !neg)
  | .lst _ (_ :: _) _ => K (.bool neg)
  | .sl _ _ _ _ len _ => K (.bool neg) && (decide (len ≠ 0) || K (.bool !neg))
  | _ => false

theorem xSlNil_ok {neg : Bool} {x : V} {K : V → Bool} {K' : V → Prop} (k : ∀ v, K v = true → K' v) (h : xSlNil neg x K = true) : evSlNil neg x K' := by
  unfold xSlNil at h
  unfold evSlNil
  split at h <;> (try simp only [Bool.and_eq_true, Bool.false_eq_true] at h) <;> first | exact ⟨k _ h.1, k _ h.2⟩ | exact k _ h | exact ⟨k _ h.1, fun e => k _ (by have := h.2; simpa [e] using this)⟩

def xLen (σ : H) (kd : Nat) (u : V) (K : V → Bool) : Bool :=
  match kd, u with
  | 0, .lst _ l _ => K (.int .i64 l.length)
  | 0, .sl _ _ _ _ len _ => K (.int .i64 len)
  | 1, .str s => K (.int .i64 s.length)
  | 2, .val (.map none) => K (.int .i64 0)
  | 2, .mp n v => match σ.o[n]? with
    | some (some (.map v' es)) => eqOb v v' && K (.int .i64 es.length)
    | _ => false
  | _, _ => false

theorem xLen_ok {σ : H} {kd : Nat} {u : V} {K : V → Bool} {K' : V → Prop} (k : ∀ v, K v = true → K' v) (h : xLen σ kd u K = true) : evLen σ kd u K' := by
  unfold xLen at h
  unfold evLen
  split at h <;> (try (split at h)) <;> (try (simp only [Bool.and_eq_true, eqOb, decide_eq_true_eq, Bool.false_eq_true] at h)) <;> first | exact k _ h | (rename_i ho; simp only [ho]; exact ⟨h.1, k _ h.2⟩) | cases h

end
end Go.Am

/- The interpreter: reads and writes. -/
namespace Go.Am
open Go
section
variable (G : Nat → Option V)

def keyOkB (ag : Bool) (ks : List Kd) (k : V) : Bool := (k.isAgg == ag) && (beqL ks k.cells k.cells).isSome
def keysOkB (ag : Bool) (ks : List Kd) (k : V) (es : List (V × V)) : Bool := keyOkB ag ks k && es.all fun p => (p.1.isAgg == ag) && (beqL ks k.cells p.1.cells).isSome

theorem keyOkB_ok {ag : Bool} {ks : List Kd} {k : V} (h : keyOkB ag ks k = true) : keyOk ag ks k := by
  simp only [keyOkB, Bool.and_eq_true, beq_iff_eq] at h
  exact h

theorem keysOkB_ok {ag : Bool} {ks : List Kd} {k : V} {es : List (V × V)} (h : keysOkB ag ks k es = true) : keysOk ag ks k es := by
  simp only [keysOkB, Bool.and_eq_true, List.all_eq_true, beq_iff_eq] at h
  exact ⟨keyOkB_ok h.1, h.2⟩

def xLook (σ : H) (ok ag : Bool) (ks : List Kd) (zero : V) (u k : V) (K : V → Bool) : Bool :=
  match u with
  | .mp n v => match σ.o[n]? with
    | some (some (.map v' es)) => (eqOb v v' && keysOkB ag ks k es) && K (if ok then .tup [(mget ks k es).getD zero, .bool (mget ks k es).isSome] else (mget ks k es).getD zero)
    | _ => false
  | .val (.map none) => keyOkB ag ks k && K (if ok then .tup [zero, .bool false] else zero)
  | _ => false

theorem xLook_ok {σ : H} {ok ag : Bool} {ks : List Kd} {zero u q : V} {K : V → Bool} {K' : V → Prop} (k : ∀ v, K v = true → K' v) (h : xLook σ ok ag ks zero u q K = true) : evLook σ ok ag ks zero u q K' := by
  unfold xLook at h
  unfold evLook
  split at h
  · split at h
    · rename_i ho
      simp only [Bool.and_eq_true, eqOb, decide_eq_true_eq] at h
      simp only [ho]
      exact ⟨⟨h.1.1, keysOkB_ok h.1.2⟩, k _ h.2⟩
    · cases h
  · simp only [Bool.and_eq_true] at h
    exact ⟨keyOkB_ok h.1, k _ h.2⟩
  · cases h

def xLoad (σ : H) (ag : Bool) (sz : Nat) (u : V) (K : V → Bool) : Bool := match u with
  | .ptr n v off => match σ.o[n]? with
    | some (some (.arr v' _ cs)) => (eqOb v v' && (decide (off + sz ≤ cs.length) && (ag || decide (sz = 1)))) && K (partV ag off sz cs)
    | _ => false
  | .ref y off => (decide (off + sz ≤ y.cells.length) && (ag || decide (sz = 1))) && K (partV ag off sz y.cells)
  | _ => false

theorem xLoad_ok {σ : H} {ag : Bool} {sz : Nat} {u : V} {K : V → Bool} {K' : V → Prop} (k : ∀ v, K v = true → K' v) (h : xLoad σ ag sz u K = true) : evLoad σ ag sz u K' := by
  unfold xLoad at h
  unfold evLoad
  split at h
  · split at h
    · rename_i ho
      simp only [Bool.and_eq_true, eqOb, decide_eq_true_eq, Bool.or_eq_true] at h
      simp only [ho]
      exact ⟨⟨h.1.1, h.1.2.1, fun e => h.1.2.2.resolve_left (by simp [e])⟩, k _ h.2⟩
    · cases h
  · simp only [Bool.and_eq_true, decide_eq_true_eq, Bool.or_eq_true] at h
    exact ⟨⟨h.1.1, fun e => h.1.2.resolve_left (by simp [e])⟩, k _ h.2⟩
  · cases h

def xR (fr : Fr) (σ : H) (K : V → Bool) : AOp → Bool
  | .mov x => K (arg G fr x)
  | .same x => match arg G fr x with
    | .str s => K (.str s)
    | .int _ n => decide (0 ≤ n ∧ n < 128) && K (.str [UInt8.ofNat n.toNat])
    | _ => false
  | .pick c a b => match arg G fr c with
    | .bool t => if t then K (arg G fr a) else K (arg G fr b)
    | _ => false
  | .load ag sz x => xLoad σ ag sz (arg G fr x) K
  | .nilc x => xNil (arg G fr x) K
  | .bin op x y => xBin op (arg G fr x) (arg G fr y) K
  | .eqb neg x y => match arg G fr x, arg G fr y with
    | .bool a, .bool b => K (.bool (if neg then a != b else a == b))
    | _, _ => false
  | .eqp neg x y => xPtrEq neg (arg G fr x) (arg G fr y) K
  | .eqf neg x => xFunEq neg (arg G fr x) K
  | .eqn neg x => xSlNil neg (arg G fr x) K
  | .eqs neg ks x y => match arg G fr x, arg G fr y with
    | .agg l, .agg m => match beqL ks l m with
      | some b => K (.bool (if neg then !b else b))
      | none => false
    | _, _ => false
  | .un op x => xUn op (arg G fr x) K
  | .conv k x => match arg G fr x with
    | .int _ n => K (.int k (k.wrap n))
    | _ => false
  | .mkfn f a b => K (.fn f (a.map (arg G fr)) (b.map (arg G fr)))
  | .faddr off x => match arg G fr x with
    | .ptr n v o => K (.ptr n v (o + off))
    | .ref y o => K (.ref y (o + off))
    | _ => false
  | .field ag off sz x => match arg G fr x with
    | .agg cs => (decide (off + sz ≤ cs.length) && (ag || decide (sz = 1))) && K (partV ag off sz cs)
    | _ => false
  | .iaddr alen sz x i => xIaddr sz alen (arg G fr x) (arg G fr i) K
  | .aidx ag sz len x i => match arg G fr x, arg G fr i with
    | .agg cs, .int _ i => (decide (0 ≤ i ∧ i.toNat < len ∧ i.toNat * sz + sz ≤ cs.length) && (ag || decide (sz = 1))) && K (partV ag (i.toNat * sz) sz cs)
    | _, _ => false
  | .sidx x i => match arg G fr x, arg G fr i with
    | .str s, .int _ i => decide (0 ≤ i ∧ i.toNat < s.length) && K (.int .u8 (s.getD i.toNat 0).toNat)
    | _, _ => false
  | .ssl x lo hi => match arg G fr x with
    | .str s => xBounds G fr s.length lo hi fun l h => K (.str ((s.drop l).take (h - l)))
    | _ => false
  | .slc sz x lo hi none => match arg G fr x with
    | .lst s l tight => xBounds G fr l.length lo hi fun a b => (decide (s = sz) || l.isEmpty) && K (.lst s ((l.drop a).take (b - a)) (tight && decide (b = l.length)))
    | .sl n v off s len lim => xBounds G fr len lo hi fun a b => decide (s = sz ∧ (a = 0 ∨ a < b)) && K (.sl n v (off + a * sz) s (b - a) (lim.map (· - a)))
    | _ => false
  | .slc sz x lo hi (some mx) => match arg G fr mx, arg G fr x with
    | .int _ m, .lst s l _ => xBounds G fr m.toNat lo hi fun a b => (decide (0 ≤ m ∧ m.toNat ≤ l.length) && (decide (s = sz) || l.isEmpty)) && K (.lst s ((l.drop a).take (b - a)) (decide (b = m.toNat)))
    | .int _ m, .sl n v off s len _ => xBounds G fr m.toNat lo hi fun a b => decide (s = sz ∧ (a = 0 ∨ a < b) ∧ 0 ≤ m ∧ m.toNat ≤ len) && K (.sl n v (off + a * sz) s (b - a) (some (m.toNat - a)))
    | _, _ => false
  | .slarr n sz x lo hi => match arg G fr x with
    | .ptr nm v off => match σ.o[nm]? with
      | some (some (.arr v' _ cs)) => xBounds G fr n lo hi fun a b => decide (v = v' ∧ off + n * sz ≤ cs.length ∧ (a = 0 ∨ a < n)) && K (.sl nm v (off + a * sz) sz (b - a) (some (n - a)))
      | _ => false
    | _ => false
  | .extr x i => match arg G fr x with
    | .tup l => decide (i < l.length) && K (l.getD i .any)
    | _ => false
  | .len kd x => xLen σ kd (arg G fr x) K
  | .build zero parts => parts.all (fun q => solid (arg G fr q.2.2)) && xFill G fr parts zero fun cs => K (.agg cs)
  | .maxi x y => match arg G fr x, arg G fr y with
    | .int k a, .int k' b => decide (k = k') && K (.int k (if b > a then b else a))
    | _, _ => false
  | .mini x y => match arg G fr x, arg G fr y with
    | .int k a, .int k' b => decide (k = k') && K (.int k (if b < a then b else a))
    | _, _ => false
  | .look ok ag ks zero x k => xLook σ ok ag ks zero (arg G fr x) (arg G fr k) K
  | _ => false

theorem xR_ok {fr : Fr} {σ : H} {op : AOp} {K : V → Bool} {K' : V → Prop} (k : ∀ v, K v = true → K' v) (h : xR G fr σ K op = true) : evR G fr σ K' op := by
  cases op with
  | mov x => exact k _ h
  | load ag sz x => exact xLoad_ok k h
  | nilc x => exact xNil_ok k h
  | bin op x y => exact xBin_ok k h
  | eqp neg x y => exact xPtrEq_ok k h
  | eqf neg x => exact xFunEq_ok k h
  | eqn neg x => exact xSlNil_ok k h
  | un op x => exact xUn_ok k h
  | mkfn f a b => exact k _ h
  | iaddr al sz x i => exact xIaddr_ok k h
  | len kd x => exact xLen_ok k h
  | look ok ag ks z x q => exact xLook_ok k h
  | build z ps =>
    simp only [xR, Bool.and_eq_true, List.all_eq_true] at h
    exact ⟨h.1, xFill_ok G (fun v hv => k _ hv) h.2⟩
  | same x =>
    simp only [xR] at h
    simp only [evR]
    split at h
    · rename_i e1; simp only [e1]; exact k _ h
    · rename_i e1
      simp only [Bool.and_eq_true, decide_eq_true_eq] at h
      simp only [e1]; exact ⟨h.1, k _ h.2⟩
    · cases h
  | pick c a b =>
    simp only [xR] at h
    simp only [evR]
    split at h
    · rename_i t ht
      simp only [ht]
      cases t with
      | true => exact ⟨fun _ => k _ h, fun e => by cases e⟩
      | false => exact ⟨fun e => (by cases e), fun _ => k _ h⟩
    · cases h
  | eqb neg x y =>
    simp only [xR] at h
    simp only [evR]
    split at h
    · rename_i e1 e2; simp only [e1, e2]; exact k _ h
    · cases h
  | eqs neg ks x y =>
    simp only [xR] at h
    simp only [evR]
    split at h
    · rename_i e1 e2
      simp only [e1, e2]
      split at h
      · rename_i e3; simp only [e3]; exact k _ h
      · cases h
    · cases h
  | conv kk x =>
    simp only [xR] at h
    simp only [evR]
    split at h
    · rename_i e1; simp only [e1]; exact k _ h
    · cases h
  | faddr off x =>
    simp only [xR] at h
    simp only [evR, evFaddr]
    split at h
    · rename_i e1; simp only [e1]; exact k _ h
    · rename_i e1; simp only [e1]; exact k _ h
    · cases h
  | field ag off sz x =>
    simp only [xR] at h
    simp only [evR]
    split at h
    · rename_i e1
      simp only [e1]
      simp only [Bool.and_eq_true, decide_eq_true_eq, Bool.or_eq_true] at h
      exact ⟨⟨h.1.1, fun e => h.1.2.resolve_left (by simp [e])⟩, k _ h.2⟩
    · cases h
  | aidx ag sz len x i =>
    simp only [xR] at h
    simp only [evR]
    split at h
    · rename_i e1 e2
      simp only [e1, e2]
      simp only [Bool.and_eq_true, decide_eq_true_eq, Bool.or_eq_true] at h
      exact ⟨⟨h.1.1.1, h.1.1.2.1, h.1.1.2.2, fun e => h.1.2.resolve_left (by simp [e])⟩, k _ h.2⟩
    · cases h
  | sidx x i =>
    simp only [xR] at h
    simp only [evR]
    split at h
    · rename_i e1 e2
      simp only [e1, e2]
      simp only [Bool.and_eq_true, decide_eq_true_eq] at h
      exact ⟨h.1, k _ h.2⟩
    · cases h
  | ssl x lo hi =>
    simp only [xR] at h
    simp only [evR]
    split at h
    · rename_i e1; simp only [e1]; exact xBounds_ok G (fun a b hab => k _ hab) h
    · cases h
  | slc sz x lo hi mx =>
    cases mx with
    | none =>
      simp only [xR] at h
      simp only [evR]
      split at h
      · rename_i e1
        simp only [e1]
        refine xBounds_ok G (fun a b hab => ?_) h
        simp only [Bool.and_eq_true, decide_eq_true_eq, Bool.or_eq_true, List.isEmpty_iff] at hab
        exact ⟨hab.1, k _ (by simpa using hab.2)⟩
      · rename_i e1
        simp only [e1]
        refine xBounds_ok G (fun a b hab => ?_) h
        simp only [Bool.and_eq_true, decide_eq_true_eq] at hab
        exact ⟨hab.1, k _ hab.2⟩
      · cases h
    | some mx =>
      simp only [xR] at h
      simp only [evR]
      split at h
      · rename_i e1 e2
        simp only [e1, e2]
        refine xBounds_ok G (fun a b hab => ?_) h
        simp only [Bool.and_eq_true, decide_eq_true_eq, Bool.or_eq_true, List.isEmpty_iff] at hab
        exact ⟨⟨hab.1.1.1, hab.1.1.2, hab.1.2⟩, k _ hab.2⟩
      · rename_i e1 e2
        simp only [e1, e2]
        refine xBounds_ok G (fun a b hab => ?_) h
        simp only [Bool.and_eq_true, decide_eq_true_eq] at hab
        exact ⟨hab.1, k _ hab.2⟩
      · cases h
  | slarr n sz x lo hi =>
    simp only [xR] at h
    simp only [evR]
    split at h
    · rename_i e1
      simp only [e1]
      split at h
      · rename_i e2
        simp only [e2]
        refine xBounds_ok G (fun a b hab => ?_) h
        simp only [Bool.and_eq_true, decide_eq_true_eq] at hab
        exact ⟨hab.1, k _ hab.2⟩
      · cases h
    · cases h
  | extr x i =>
    simp only [xR] at h
    simp only [evR]
    split at h
    · rename_i e1
      simp only [e1]
      simp only [Bool.and_eq_true, decide_eq_true_eq] at h
      exact ⟨h.1, k _ h.2⟩
    · cases h
  | maxi x y =>
    simp only [xR] at h
    simp only [evR]
    split at h
    · rename_i e1 e2
      simp only [e1, e2]
      simp only [Bool.and_eq_true, decide_eq_true_eq] at h
      exact ⟨h.1, k _ h.2⟩
    · cases h
  | mini x y =>
    simp only [xR] at h
    simp only [evR]
    split at h
    · rename_i e1 e2
      simp only [e1, e2]
      simp only [Bool.and_eq_true, decide_eq_true_eq] at h
      exact ⟨h.1, k _ h.2⟩
    · cases h
  | _ => simp [xR] at h

end
end Go.Am

/- The interpreter: writes. -/
namespace Go.Am
open Go
section
variable (G : Nat → Option V)

def onesB (l : List V) : Bool := l.all oneV
theorem onesB_ok {l : List V} (h : onesB l = true) : ones l := by simpa [onesB, ones, List.all_eq_true] using h

def xSrc (σ : H) (sz : Nat) (str : Bool) (x : V) (K : Nat → List V → Bool) : Bool :=
  match str, x with
  | false, .lst s l _ => (decide (s = sz) || l.isEmpty) && K l.length (l.map V.cells).flatten
  | false, .sl k v off s len _ => match σ.o[k]? with
    | some (some (.arr v' _ cs)) => decide (v = v' ∧ s = sz ∧ off + len * sz ≤ cs.length) && K len ((cs.drop off).take (len * sz))
    | _ => false
  | true, .str s => decide (sz = 1) && K s.length (s.map fun b => .int .u8 b.toNat)
  | _, _ => false

theorem xSrc_ok {σ : H} {sz : Nat} {str : Bool} {x : V} {K : Nat → List V → Bool} {K' : Nat → List V → Prop} (k : ∀ n l, K n l = true → K' n l) (h : xSrc σ sz str x K = true) : evSrc σ sz str x K' := by
  unfold xSrc at h
  unfold evSrc
  split at h
  · simp only [Bool.and_eq_true, decide_eq_true_eq, Bool.or_eq_true, List.isEmpty_iff] at h
    exact ⟨h.1, k _ _ h.2⟩
  · split at h
    · rename_i ho
      simp only [ho]
      simp only [Bool.and_eq_true, decide_eq_true_eq] at h
      exact ⟨h.1, k _ _ h.2⟩
    · cases h
  · simp only [Bool.and_eq_true, decide_eq_true_eq] at h
    exact ⟨h.1, k _ _ h.2⟩
  · cases h

def isOpen : V → Bool
  | .sl _ _ _ _ _ none => true
  | _ => false

def xApp (base : Nat) (σ : H) (K : V → H → Bool) (T sz bytes : Nat) (str : Bool) (s x : V) : Bool :=
  match s with
  | .sl k v off s' len none => match σ.o[k]? with
    | some (some (.arr v' T' cs)) => xSrc σ sz str x fun m ln => decide (v = v' ∧ T = T' ∧ s' = sz ∧ base ≤ k ∧ off + len * sz = cs.length ∧ (len + m) * bytes ≤ 140737488355328 ∧ len + m ≤ 9223372036854775807) &&
        K (.sl k σ.t 0 sz (len + m) none) ⟨σ.t + 1, σ.o.set k (some (.arr σ.t T (cs.drop off ++ ln)))⟩
    | _ => false
  | u => (tightV u && !isOpen u) && xSrc σ sz false u fun len lo => xSrc σ sz str x fun m ln => decide ((len = 0 ∨ 0 < m) ∧ (len + m) * bytes ≤ 140737488355328 ∧ len + m ≤ 9223372036854775807) &&
        K (.sl σ.o.length σ.t 0 sz (len + m) none) (σ.push (.arr σ.t T (lo ++ ln)))

theorem xApp_ok {base : Nat} {fr : Fr} {σ : H} {K : V → H → Bool} {K' : V → H → Prop} (k : ∀ v σ, K v σ = true → K' v σ) {T sz bytes : Nat} {str : Bool} {s x : Arg} (h : xApp base σ K T sz bytes str (arg G fr s) (arg G fr x) = true) : evApp base G fr σ K' T sz bytes str s x := by
  unfold xApp at h
  unfold evApp
  generalize arg G fr s = u at h ⊢
  split at h
  · simp only
    split at h
    · rename_i ho
      simp only [ho]
      refine xSrc_ok (fun m ln hm => ?_) h
      simp only [Bool.and_eq_true, decide_eq_true_eq] at hm
      exact ⟨hm.1, k _ _ hm.2⟩
    · cases h
  · rename_i hne
    simp only [Bool.and_eq_true] at h
    split
    · rename_i kk vv off s' len
      exact absurd rfl (hne kk vv off s' len)
    · refine ⟨h.1.1, xSrc_ok (fun len lo hlo => xSrc_ok (fun m ln hm => ?_) hlo) h.2⟩
      simp only [Bool.and_eq_true, decide_eq_true_eq] at hm
      exact ⟨hm.1, k _ _ hm.2⟩

def xW (base : Nat) (fr : Fr) (σ : H) (K : V → H → Bool) : AOp → Bool
  | .new T cs => onesB cs && K (.ptr σ.o.length σ.t 0) (σ.push (.arr σ.t T cs))
  | .box T x => (solid (arg G fr x) && onesB (arg G fr x).cells) && K (.ptr σ.o.length σ.t 0) (σ.push (.arr σ.t T (arg G fr x).cells))
  | .store sz p x => match arg G fr p with
    | .ptr k v off => match σ.o[k]? with
      | some (some (.arr v' T cs)) => (decide (v = v' ∧ base ≤ k ∧ off + sz ≤ cs.length ∧ (arg G fr x).cells.length = sz) && (solid (arg G fr x) && onesB (arg G fr x).cells)) && K (.tup []) ⟨σ.t, σ.o.set k (some (.arr v T (putL cs off (arg G fr x).cells)))⟩
      | _ => false
    | _ => false
  | .bsl true ag T sz zero len parts => parts.all (fun q => solid (arg G fr q.2.2)) && xFill G fr parts (List.replicate len zero).flatten fun cs => onesB cs && K (.sl σ.o.length σ.t 0 sz len none) (σ.push (.arr σ.t T cs))
  | .bsl false ag T sz zero len parts => parts.all (fun q => solid (arg G fr q.2.2)) && xFill G fr parts (List.replicate len zero).flatten fun cs => (onesB cs && namelessL cs) && K (.lst sz (if ag then chunkV sz len cs else cs) true) σ
  | .mkmap => K (.mp σ.o.length σ.t) (σ.push (.map σ.t []))
  | .mksl T sz bytes zero l c => match arg G fr l, arg G fr c with
    | .int _ l, .int _ c => (decide (0 ≤ l ∧ l ≤ c ∧ c * bytes ≤ 140737488355328 ∧ c ≤ 9223372036854775807) && onesB zero) && K (.sl σ.o.length σ.t 0 sz l.toNat none) (σ.push (.arr σ.t T (List.replicate l.toNat zero).flatten))
    | _, _ => false
  | .mapup ag ks m k x => match arg G fr m with
    | .mp nm v => match σ.o[nm]? with
      | some (some (.map v' es)) => (decide (v = v' ∧ base ≤ nm) && (keysOkB ag ks (arg G fr k) es && nameless (arg G fr k))) && K (.tup []) ⟨σ.t, σ.o.set nm (some (.map v (mput ks (arg G fr k) (arg G fr x) es)))⟩
      | _ => false
    | _ => false
  | .app T sz bytes str s x => xApp base σ K T sz bytes str (arg G fr s) (arg G fr x)
  | .appin sz bytes str s x => match arg G fr s with
    | .sl k v off s' len lim => match σ.o[k]? with
      | some (some (.arr v' T cs)) => xSrc σ sz str (arg G fr x) fun m ln => (decide (v = v' ∧ s' = sz ∧ base ≤ k ∧ off + (len + m) * sz ≤ cs.length) && (match lim with | none => true | some c => decide (len + m ≤ c))) && K (.sl k v off sz (len + m) lim) ⟨σ.t, σ.o.set k (some (.arr v T (putL cs (off + len * sz) ln)))⟩
      | _ => false
    | _ => false
  | .copy sz str d s => match arg G fr d with
    | .sl k v off s' len lim => match σ.o[k]? with
      | some (some (.arr v' T cs)) => xSrc σ sz str (arg G fr s) fun m ln => decide (v = v' ∧ s' = sz ∧ base ≤ k ∧ off + len * sz ≤ cs.length) && K (.int .i64 (min m len : Nat)) ⟨σ.t, σ.o.set k (some (.arr v T (putL cs off (ln.take (min m len * sz)))))⟩
      | _ => false
    | _ => false
  | .clr sz zero x => match arg G fr x with
    | .sl k v off s' len lim => match σ.o[k]? with
      | some (some (.arr v' T cs)) => (decide (v = v' ∧ s' = sz ∧ base ≤ k ∧ off + len * sz ≤ cs.length) && onesB zero) && K (.tup []) ⟨σ.t, σ.o.set k (some (.arr v T (putL cs off (List.replicate len zero).flatten)))⟩
      | _ => false
    | _ => false
  | .ment ag ks zero m k => match arg G fr m with
    | .mp nm v => match σ.o[nm]? with
      | some (some (.map v' es)) => (decide (v = v' ∧ base ≤ nm) && (keysOkB ag ks (arg G fr k) es && nameless (arg G fr k))) &&
          K (.tup [(mget ks (arg G fr k) es).getD zero, .int .i64 ((midx ks (arg G fr k) es).getD es.length : Nat)]) ⟨σ.t, σ.o.set nm (some (.map v (mentL ks (arg G fr k) zero es)))⟩
      | _ => false
    | _ => false
  | .mst m s x => match arg G fr m, arg G fr s with
    | .mp nm v, .int _ i => match σ.o[nm]? with
      | some (some (.map v' es)) => decide (v = v' ∧ base ≤ nm ∧ 0 ≤ i ∧ i.toNat < es.length) && K (.tup []) ⟨σ.t, σ.o.set nm (some (.map v (es.modify i.toNat fun p => (p.1, arg G fr x))))⟩
      | _ => false
    | _, _ => false
  | .iter x => match arg G fr x with
    | .mp nm v => match σ.o[nm]? with
      | some (some (.map v' es)) => decide (v = v') && K (.ptr σ.o.length σ.t 0) (σ.push (.it σ.t nm v es.length []))
      | _ => false
    | _ => false
  | .next x => match arg G fr x with
    | .ptr k v 0 => match σ.o[k]? with
      | some (some (.it v' nm mv cnt seen)) => match σ.o[nm]? with
        | some (some (.map mv' es)) => decide (v = v' ∧ base ≤ k ∧ mv = mv' ∧ cnt = es.length) && ((!((List.range es.length).all fun i => seen.elem i) || K (.tup [.bool false]) σ) &&
            (List.range es.length).all fun i => seen.elem i || K (.tup [.bool true, (es.getD i (.any, .any)).1, (es.getD i (.any, .any)).2]) ⟨σ.t, σ.o.set k (some (.it v nm mv cnt (seen ++ [i])))⟩)
        | _ => false
      | _ => false
    | _ => false
  | .entry x => match arg G fr x with
    | .ptr k v 0 => match σ.o[k]? with
      | some (some (.it v' nm mv cnt seen)) => match σ.o[nm]? with
        | some (some (.map mv' es)) => match seen.getLast? with
          | some i => decide (v = v' ∧ mv = mv' ∧ cnt = es.length ∧ i < es.length) && K (.tup [(es.getD i (.any, .any)).1, (es.getD i (.any, .any)).2]) σ
          | none => false
        | _ => false
      | _ => false
    | _ => false
  | .tostr x => xSrc σ 1 false (arg G fr x) fun _ ln => ln.all isByte && K (.str (ln.map ofByteV)) σ
  | .tobytes T x => match arg G fr x with
    | .str s => K (.sl σ.o.length σ.t 0 1 s.length none) (σ.push (.arr σ.t T (s.map byteV)))
    | _ => false
  | _ => false

theorem xW_ok {base : Nat} {fr : Fr} {σ : H} {op : AOp} {K : V → H → Bool} {K' : V → H → Prop} (k : ∀ v σ, K v σ = true → K' v σ) (h : xW G base fr σ K op = true) : evW base G fr σ K' op := by
  cases op with
  | new T cs =>
    simp only [xW, Bool.and_eq_true] at h
    exact ⟨onesB_ok h.1, k _ _ h.2⟩
  | box T x =>
    simp only [xW, Bool.and_eq_true] at h
    exact ⟨⟨h.1.1, onesB_ok h.1.2⟩, k _ _ h.2⟩
  | mkmap => exact k _ _ h
  | app T sz bytes str s x => exact xApp_ok G k h
  | store sz p x =>
    simp only [xW] at h
    simp only [evW]
    split at h
    · rename_i e1
      simp only [e1]
      split at h
      · rename_i e2
        simp only [e2]
        simp only [Bool.and_eq_true, decide_eq_true_eq] at h
        exact ⟨⟨h.1.1.1, h.1.1.2.1, h.1.1.2.2.1, h.1.2.1, h.1.1.2.2.2, onesB_ok h.1.2.2⟩, k _ _ h.2⟩
      · cases h
    · cases h
  | bsl mu ag T sz zero len parts =>
    cases mu with
    | true =>
      simp only [xW, Bool.and_eq_true, List.all_eq_true] at h
      refine ⟨h.1, xFill_ok G (fun cs hcs => ?_) h.2⟩
      simp only [Bool.and_eq_true] at hcs
      exact ⟨onesB_ok hcs.1, k _ _ hcs.2⟩
    | false =>
      simp only [xW, Bool.and_eq_true, List.all_eq_true] at h
      refine ⟨h.1, xFill_ok G (fun cs hcs => ?_) h.2⟩
      simp only [Bool.and_eq_true] at hcs
      exact ⟨⟨onesB_ok hcs.1.1, hcs.1.2⟩, k _ _ hcs.2⟩
  | mksl T sz bytes zero l c =>
    simp only [xW] at h
    simp only [evW]
    split at h
    · rename_i e1 e2
      simp only [e1, e2]
      simp only [Bool.and_eq_true, decide_eq_true_eq] at h
      exact ⟨⟨h.1.1.1, h.1.1.2.1, h.1.1.2.2.1, h.1.1.2.2.2, onesB_ok h.1.2⟩, k _ _ h.2⟩
    · cases h
  | mapup ag ks m q x =>
    simp only [xW] at h
    simp only [evW]
    split at h
    · rename_i e1
      simp only [e1]
      split at h
      · rename_i e2
        simp only [e2]
        simp only [Bool.and_eq_true, decide_eq_true_eq] at h
        exact ⟨⟨h.1.1.1, h.1.1.2, keysOkB_ok h.1.2.1, h.1.2.2⟩, k _ _ h.2⟩
      · cases h
    · cases h
  | appin sz bytes str s x =>
    simp only [xW] at h
    simp only [evW]
    split at h
    · rename_i lim e1
      simp only [e1]
      split at h
      · rename_i e2
        simp only [e2]
        refine xSrc_ok (fun m ln hm => ?_) h
        simp only [Bool.and_eq_true, decide_eq_true_eq] at hm
        refine ⟨⟨hm.1.1.1, hm.1.1.2.1, hm.1.1.2.2.1, hm.1.1.2.2.2, fun c hc => ?_⟩, k _ _ hm.2⟩
        have := hm.1.2
        subst hc
        simpa using this
      · cases h
    · cases h
  | copy sz str d s =>
    simp only [xW] at h
    simp only [evW]
    split at h
    · rename_i e1
      simp only [e1]
      split at h
      · rename_i e2
        simp only [e2]
        refine xSrc_ok (fun m ln hm => ?_) h
        simp only [Bool.and_eq_true, decide_eq_true_eq] at hm
        exact ⟨hm.1, k _ _ hm.2⟩
      · cases h
    · cases h
  | clr sz zero x =>
    simp only [xW] at h
    simp only [evW]
    split at h
    · rename_i e1
      simp only [e1]
      split at h
      · rename_i e2
        simp only [e2]
        simp only [Bool.and_eq_true, decide_eq_true_eq] at h
        exact ⟨⟨h.1.1.1, h.1.1.2.1, h.1.1.2.2.1, h.1.1.2.2.2, onesB_ok h.1.2⟩, k _ _ h.2⟩
      · cases h
    · cases h
  | ment ag ks zero m q =>
    simp only [xW] at h
    simp only [evW]
    split at h
    · rename_i e1
      simp only [e1]
      split at h
      · rename_i e2
        simp only [e2]
        simp only [Bool.and_eq_true, decide_eq_true_eq] at h
        exact ⟨⟨h.1.1.1, h.1.1.2, keysOkB_ok h.1.2.1, h.1.2.2⟩, k _ _ h.2⟩
      · cases h
    · cases h
  | mst m s x =>
    simp only [xW] at h
    simp only [evW]
    split at h
    · rename_i e1 e2
      simp only [e1, e2]
      split at h
      · rename_i e3
        simp only [e3]
        simp only [Bool.and_eq_true, decide_eq_true_eq] at h
        exact ⟨h.1, k _ _ h.2⟩
      · cases h
    · cases h
  | iter x =>
    simp only [xW] at h
    simp only [evW]
    split at h
    · rename_i e1
      simp only [e1]
      split at h
      · rename_i e2
        simp only [e2]
        simp only [Bool.and_eq_true, decide_eq_true_eq] at h
        exact ⟨h.1, k _ _ h.2⟩
      · cases h
    · cases h
  | next x =>
    simp only [xW] at h
    simp only [evW]
    split at h
    · rename_i e1
      simp only [e1]
      split at h
      · rename_i e2
        simp only [e2]
        split at h
        · rename_i e3
          simp only [e3]
          simp only [Bool.and_eq_true, decide_eq_true_eq, Bool.or_eq_true, Bool.not_eq_true', List.all_eq_true, List.mem_range, List.elem_eq_mem] at h
          refine ⟨h.1, fun hall => ?_, fun i hi hs => k _ _ ((h.2.2 i hi).resolve_left hs)⟩
          rcases h.2.1 with h1 | h1
          · rw [List.all_eq_false] at h1
            obtain ⟨i, hi, hn⟩ := h1
            exact absurd (hall i (List.mem_range.1 hi)) (by simpa using hn)
          · exact k _ _ h1
        · cases h
      · cases h
    · cases h
  | entry x =>
    simp only [xW] at h
    simp only [evW]
    split at h
    · rename_i e1
      simp only [e1]
      split at h
      · rename_i e2
        simp only [e2]
        split at h
        · rename_i e3
          simp only [e3]
          split at h
          · rename_i e4
            simp only [e4]
            simp only [Bool.and_eq_true, decide_eq_true_eq] at h
            exact ⟨h.1, k _ _ h.2⟩
          · cases h
        · cases h
      · cases h
    · cases h
  | tostr x =>
    simp only [xW] at h
    simp only [evW]
    refine xSrc_ok (fun m ln hm => ?_) h
    simp only [Bool.and_eq_true, List.all_eq_true] at hm
    exact ⟨hm.1, k _ _ hm.2⟩
  | tobytes T x =>
    simp only [xW] at h
    simp only [evW]
    split at h
    · rename_i e1
      simp only [e1]
      exact k _ _ h
    · cases h
  | _ => simp [xW] at h

end
end Go.Am

/- The interpreter: lists of operations, code, functions. -/
namespace Go.Am
open Go

/-- The spine of a list, reckoned out. -/
def spine {α : Type} : List α → (List α → Bool) → Bool
  | [], K => K []
  | v :: l, K => spine l fun l => K (v :: l)
theorem spine_eq {α : Type} : ∀ (l : List α) (K : List α → Bool), spine l K = K l
  | [], _ => rfl
  | v :: l, K => by rw [spine, spine_eq l]
def strictO : List (Option Ob) → (List (Option Ob) → Bool) → Bool
  | [], K => K []
  | none :: l, K => strictO l fun l => K (none :: l)
  | some (.arr v T cs) :: l, K => spine cs fun cs => strictN v fun v => strictO l fun l => K (some (.arr v T cs) :: l)
  | some (.map v es) :: l, K => spine es fun es => strictN v fun v => strictO l fun l => K (some (.map v es) :: l)
  | some (.it v a b c s) :: l, K => strictO l fun l => K (some (.it v a b c s) :: l)
theorem strictO_eq : ∀ (l : List (Option Ob)) (K : List (Option Ob) → Bool), strictO l K = K l
  | [], _ => rfl
  | none :: l, K => by rw [strictO, strictO_eq l]
  | some (.arr v T cs) :: l, K => by rw [strictO, spine_eq, strictN_eq, strictO_eq l]
  | some (.map v es) :: l, K => by rw [strictO, spine_eq, strictN_eq, strictO_eq l]
  | some (.it v a b c s) :: l, K => by rw [strictO, strictO_eq l]
def strictH (σ : H) (K : H → Bool) : Bool := match σ with
  | ⟨t, o⟩ => strictN t fun t => strictO o fun o => K ⟨t, o⟩
theorem strictH_eq (σ : H) (K : H → Bool) : strictH σ K = K σ := by cases σ; simp [strictH, strictN_eq, strictO_eq]

/-- A frame, reckoned out. -/
def strictFr : Fr → (Fr → Bool) → Bool
  | [], K => K []
  | (i, v) :: r, K => strictN i fun i => strictV v fun v => strictFr r fun r => K ((i, v) :: r)
theorem strictFr_eq : ∀ (l : Fr) (K : Fr → Bool), strictFr l K = K l
  | [], _ => rfl
  | (i, v) :: r, K => by rw [strictFr, strictN_eq, strictV_eq, strictFr_eq r]
def strictEs : List (V × V) → (List (V × V) → Bool) → Bool
  | [], K => K []
  | (a, b) :: r, K => strictV a fun a => strictV b fun b => strictEs r fun r => K ((a, b) :: r)
theorem strictEs_eq : ∀ (l : List (V × V)) (K : List (V × V) → Bool), strictEs l K = K l
  | [], _ => rfl
  | (a, b) :: r, K => by rw [strictEs, strictV_eq, strictV_eq, strictEs_eq r]
/-- Objects, reckoned out whole. -/
def strictOO : List (Option Ob) → (List (Option Ob) → Bool) → Bool
  | [], K => K []
  | none :: l, K => strictOO l fun l => K (none :: l)
  | some (.arr v T cs) :: l, K => strictL cs fun cs => strictN v fun v => strictOO l fun l => K (some (.arr v T cs) :: l)
  | some (.map v es) :: l, K => strictEs es fun es => strictN v fun v => strictOO l fun l => K (some (.map v es) :: l)
  | some (.it v a b c s) :: l, K => strictOO l fun l => K (some (.it v a b c s) :: l)
theorem strictOO_eq : ∀ (l : List (Option Ob)) (K : List (Option Ob) → Bool), strictOO l K = K l
  | [], _ => rfl
  | none :: l, K => by rw [strictOO, strictOO_eq l]
  | some (.arr v T cs) :: l, K => by rw [strictOO, strictL_eq, strictN_eq, strictOO_eq l]
  | some (.map v es) :: l, K => by rw [strictOO, strictEs_eq, strictN_eq, strictOO_eq l]
  | some (.it v a b c s) :: l, K => by rw [strictOO, strictOO_eq l]
def strictHH (σ : H) (K : H → Bool) : Bool := match σ with
  | ⟨t, o⟩ => strictN t fun t => strictOO o fun o => K ⟨t, o⟩
theorem strictHH_eq (σ : H) (K : H → Bool) : strictHH σ K = K σ := by cases σ; simp [strictHH, strictN_eq, strictOO_eq]
def hasAlt : AT → Bool
  | .done => false
  | .rd _ _ _ t => hasAlt t
  | .wr _ _ _ _ t => hasAlt t
  | .cl _ _ _ _ _ t => hasAlt t
  | .bad _ _ _ t => hasAlt t
  | .alt _ _ => true

section
variable (P : Program) (G : Nat → Option V)

def xG (g : Option (Nat × Bool)) (fr : Fr) (A B : Fr → Bool) : Bool :=
  match g with
  | none => A fr
  | some (s, b) => match fget fr s with
    | .bool c => if c == b then A (fset fr s (.bool b)) else B (fset fr s (.bool !b))
    | .tup _ => B fr
    | _ => false

theorem xG_ok {g : Option (Nat × Bool)} {fr : Fr} {A B : Fr → Bool} {A' B' : Fr → Prop} (ka : ∀ fr, A fr = true → A' fr) (kb : ∀ fr, B fr = true → B' fr) (h : xG g fr A B = true) : wantG g fr A' B' := by
  unfold xG at h
  unfold wantG
  split at h
  · exact ka _ h
  · split at h
    · rename_i c hc
      simp only [hc]
      split at h
      · rename_i e
        simp only [beq_iff_eq] at e
        exact ⟨fun _ => ka _ h, fun e' => by subst e; cases c <;> cases e'⟩
      · rename_i e
        simp only [beq_iff_eq] at e
        exact ⟨fun e' => absurd e' e, fun _ => kb _ h⟩
    · rename_i hc
      simp only [hc]
      exact kb _ h
    · cases h

abbrev Call := Nat → Nat → List V → H → (V → H → Bool) → Bool
def CallOk (call : Call) : Prop := ∀ base f args σ (K : V → H → Bool), call base f args σ K = true → bodied P f = true ∧ C P G base f args σ fun v σ => K v σ = true

def xT (call : Call) (base : Nat) : AT → Fr → H → (Fr → H → Bool) → Bool
  | .done, fr, σ, K => K fr σ
  | .rd d g op t, fr, σ, K => xG g fr (fun fr => xR G fr σ (fun v => strictV v fun v => xT call base t (fput fr d v) σ K) op) (fun fr => xT call base t (fput fr d (.tup [])) σ K)
  | .wr k d g op t, fr, σ, K => xG g fr (fun fr => xW G (if k && !op.isApp then σ.o.length else base) fr σ (fun v σ' => strictV v fun v => strictH σ' fun σ' => xT call base t (fput fr d v) σ' K) op) (fun fr => xT call base t (fput fr d (.tup [])) σ K)
  | .cl k d g f args t, fr, σ, K => xG g fr (fun fr => match arg G fr f with
      | .fn (.func f) first cap => call (if k then σ.o.length else base) f (first ++ args.map (arg G fr) ++ cap) σ fun v σ' => xT call base t (fput fr d v) σ' K
      | _ => false) (fun fr => xT call base t (fput fr d (.tup [])) σ K)
  | .bad _ d g t, fr, σ, K => xG g fr (fun _ => false) (fun fr => xT call base t (fput fr d (.tup [])) σ K)
  | .alt s t, fr, σ, K => xT call base s fr σ K && xT call base t fr σ K

theorem xT_ok {call : Call} (hc : CallOk P G call) {n base : Nat} : ∀ (t : AT) (fr : Fr) (σ : H) (K : Fr → H → Bool), xT G call base t fr σ K = true → wt P G n base t fr σ fun fr σ => K fr σ = true
  | .done, fr, σ, K, h => h
  | .rd d g op t, fr, σ, K, h => xG_ok (fun fr hf => xR_ok G (fun v hv => by rw [strictV_eq] at hv; exact xT_ok hc t _ _ _ hv) hf) (fun fr hf => xT_ok hc t _ _ _ hf) h
  | .wr k d g op t, fr, σ, K, h => xG_ok (fun fr hf => xW_ok G (fun v σ' hv => by rw [strictV_eq, strictH_eq] at hv; exact xT_ok hc t _ _ _ hv) hf) (fun fr hf => xT_ok hc t _ _ _ hf) h
  | .cl k d g f args t, fr, σ, K, h => xG_ok (fun fr hf => by
      unfold CV
      split at hf
      · rename_i e
        simp only [e]
        obtain ⟨h1, h2⟩ := hc _ _ _ _ _ hf
        exact ⟨h1, h2.conseq fun v σ' hv => wt_sound _ _ _ _ (xT_ok hc t _ _ _ hv)⟩
      · cases hf) (fun fr hf => xT_ok hc t _ _ _ hf) h
  | .bad _ d g t, fr, σ, K, h => xG_ok (fun fr hf => by cases hf) (fun fr hf => xT_ok hc t _ _ _ hf) h
  | .alt s t, fr, σ, K, h => by
    simp only [xT, Bool.and_eq_true] at h
    exact ⟨xT_ok hc s _ _ _ h.1, xT_ok hc t _ _ _ h.2⟩

def xC (call : Call) (base : Nat) : Nat → AC → Fr → H → (AE → Fr → H → Bool) → Bool
  | 0, _, _, _, _ => false
  | k + 1, c, fr, σ, K => match c with
    | .skip => K .nrm fr σ
    | .reg t dead => if hasAlt t then xT G call base t fr σ fun fr σ => strictFr (fdel fr dead) fun fr => strictHH σ fun σ => K .nrm fr σ && true
      else xT G call base t fr σ fun fr σ => K .nrm (fdel fr dead) σ
    | .seq a b => xC call base k a fr σ fun e fr σ => match e with
      | .nrm => xC call base k b fr σ K
      | e => K e fr σ
    | .cond c a b => match arg G fr c with
      | .bool t => if t then xC call base k a fr σ K else xC call base k b fr σ K
      | _ => false
    | .block id a => xC call base k a fr σ fun e fr σ => match e with
      | .ex id' => if id' = id then K .nrm fr σ else K (.ex id') fr σ
      | e => K e fr σ
    | .loop a => xC call base k a fr σ fun e fr σ => match e with
      | .nrm => xC call base k (.loop a) fr σ K
      | e => K e fr σ
    | .exit id => K (.ex id) fr σ
    | .ret => K .ret fr σ
    | .bad => false

theorem xC_ok {call : Call} (hc : CallOk P G call) {n base : Nat} : ∀ (k : Nat) (c : AC) (fr : Fr) (σ : H) (K : AE → Fr → H → Bool), xC G call base k c fr σ K = true → W P G n base c fr σ fun e fr σ => K e fr σ = true := by
  intro k
  induction k using Nat.strongRecOn with
  | _ k0 ihs =>
   cases k0 with
   | zero => intro c fr σ K h; cases h
   | succ k =>
    have ih := ihs k (Nat.lt_succ_self _)
    intro c fr σ K h
    cases c with
    | skip => exact W_skip h
    | reg t dead =>
      simp only [xC] at h
      split at h
      · refine W_reg (WT.conseq (wt_sound _ _ _ _ (xT_ok P G hc t _ _ _ h)) fun fr σ hf => ?_)
        simpa [strictFr_eq, strictHH_eq] using hf
      · exact W_reg (wt_sound _ _ _ _ (xT_ok P G hc t _ _ _ h))
    | seq a b =>
      refine W_seq ((ih a fr σ _ h).conseq fun e fr σ he => ?_)
      cases e with
      | nrm => exact ih b fr σ K he
      | ex id => exact he
      | ret => exact he
    | cond c a b =>
      simp only [xC] at h
      refine W_cond ?_
      unfold condK
      split at h
      · rename_i t e
        simp only [e]
        cases t with
        | true => exact ⟨fun _ => ih a fr σ K h, fun e => by cases e⟩
        | false => exact ⟨fun e => (by cases e), fun _ => ih b fr σ K h⟩
      · cases h
    | block id a =>
      refine W_block ((ih a fr σ _ h).conseq fun e fr σ he => ?_)
      cases e with
      | nrm => exact he
      | ret => exact he
      | ex id' =>
        simp only [blkK]
        simp only at he
        split
        · rename_i e; rw [if_pos e] at he; exact he
        · rename_i e; rw [if_neg e] at he; exact he
    | loop a =>
      refine W_loop (α := Nat × Fr × H) (fun s => s.2.1) (fun s => s.2.2) (fun s => s.1) (fun s => s.1 ≤ k + 1 ∧ xC G call base s.1 (.loop a) s.2.1 s.2.2 K = true) (fun s hs => ?_) (k + 1, fr, σ) ⟨Nat.le_refl _, h⟩
      obtain ⟨m, fr, σ⟩ := s
      obtain ⟨hm, hs⟩ := hs
      cases m with
      | zero => cases hs
      | succ m =>
        have hs : xC G call base m a fr σ (fun e fr σ => match e with
          | .nrm => xC G call base m (.loop a) fr σ K
          | e => K e fr σ) = true := hs
        have hw : W P G n base a fr σ fun e fr σ => (match e with
          | .nrm => xC G call base m (.loop a) fr σ K
          | e => K e fr σ) = true := ihs m (by simp only at hm; omega) a fr σ _ hs
        refine hw.conseq fun e fr σ he => ?_
        cases e with
        | nrm => exact ⟨(m, fr, σ), ⟨by simp only at hm ⊢; omega, he⟩, Nat.lt_succ_self _, fun _ _ _ h => h, rfl⟩
        | ex id => exact he
        | ret => exact he
    | exit id => exact W_exit h
    | ret => exact W_ret h
    | bad => cases h

end
end Go.Am

/- The interpreter: functions. -/
namespace Go.Am
open Go
section
variable (P : Program) (G : Nat → Option V)

def xRes (fr : Fr) (σ : H) : List RV → (List V → Bool) → Bool
  | [], K => K []
  | .tmp t :: r, K => xRes fr σ r fun l => K (fget fr t :: l)
  | .cell t ag sz :: r, K => xLoad σ ag sz (fget fr t) fun v => xRes fr σ r fun l => K (v :: l)

theorem xRes_ok {fr : Fr} {σ : H} (rs : List RV) : ∀ {K : List V → Bool} {K' : List V → Prop}, (∀ l, K l = true → K' l) → xRes fr σ rs K = true → resV G fr σ rs K' := by
  induction rs with
  | nil => intro K K' k h; exact k _ h
  | cons r rs ih =>
    intro K K' k h
    cases r with
    | tmp t => exact ih (K := fun l => K (fget fr t :: l)) (K' := fun l => K' (fget fr t :: l)) (fun l hl => k _ hl) h
    | cell t ag sz => exact xLoad_ok (K := fun v => xRes fr σ rs fun l => K (v :: l)) (fun v hv => ih (K := fun l => K (v :: l)) (K' := fun l => K' (v :: l)) (fun l hl => k _ hl) hv) h

def xF (T : Nat → Option AF) (fuel : Nat) : Nat → Call
  | 0, _, _, _, _, _ => false
  | k + 1, base, f, args, σ, K => match T f with
    | some A => decide (args.length ≤ A.n) && strictL args fun args => xC G (xF T fuel k) base fuel A.body (mkFr 0 args) σ fun e fr σ => match e with
      | .ex _ => false
      | _ => xRes fr σ A.res fun l => K (oneRes l) σ
    | none => false

/-- A table of translations. -/
def TabOk (T : Nat → Option AF) : Prop := ∀ f A, T f = some A → bodied P f = true ∧ ∃ M dd, compF P M dd f = some A

theorem xF_ok {T : Nat → Option AF} (hT : TabOk P T) {fuel : Nat} : ∀ k, CallOk P G (xF G T fuel k)
  | 0 => fun base f args σ K h => by cases h
  | k + 1 => fun base f args σ K h => by
    simp only [xF] at h
    split at h
    · rename_i A hA
      simp only [Bool.and_eq_true, decide_eq_true_eq, strictL_eq] at h
      obtain ⟨h1, M, dd, h2⟩ := hT f A hA
      refine ⟨h1, C_body h2 h.1 ((xC_ok P G (xF_ok hT k) fuel _ _ _ _ h.2).conseq fun e fr σ he => ?_)⟩
      cases e with
      | ex id => cases he
      | nrm => exact xRes_ok G _ (fun l hl => hl) he
      | ret => exact xRes_ok G _ (fun l hl => hl) he
    · cases h

end
end Go.Am
