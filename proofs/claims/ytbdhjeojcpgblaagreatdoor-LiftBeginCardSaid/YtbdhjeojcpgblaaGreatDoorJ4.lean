/- Ours. -/
import Derived.Test.YtbdhjeojcpgblaaGreatDoorJ3
import Derived.Test.YtbdhjeojcpgblaaGreatDoorAmD
namespace Go.Proofs.YtbdhjeojcpgblaaGreatDoor
open Go Go.Am
set_option maxRecDepth 100000
variable {P:Program} {G:Nat→Option V}
set_option maxHeartbeats 1000000
def kEs (K:List (Int × Int)):List (V × V):=K.map fun p=>(.int .i64 p.1,.int .i64 p.2)
def kAt (K:List (Int × Int)) (x:Int):Option Int:=(K.find? fun p=>decide (x=p.1)).map (·.2)
theorem QCr (x y:Int):QbT [.i] (.int .i64 x) (.int .i64 y)=decide (x=y):=by
 by_cases h:x=y
 ·subst h
  simp [QbT,Qb1,V.cells,QqX]
 ·simp [QbT,Qb1,V.cells,QqX,h]
theorem Qwr (K:List (Int × Int)) (x:Int):Qn6 [.i] (.int .i64 x) (kEs K)=(kAt K x).map (V.int .i64):=by
 induction K with
 | nil=>rfl
 | cons p K ih =>
   simp only [Qn6,kEs,kAt,List.map_cons,List.find?_cons,QCr] at ih ⊢
   by_cases h:x=p.1
   ·simp [h]
   ·simp only [h,decide_false]
    exact ih
theorem QCp (x:Int):QCq false [.i] (.int .i64 x):=⟨rfl,by simp [Qb1,V.cells,QqX]⟩
theorem Qo5 (K:List (Int × Int)) (x:Int):Qan false [.i] (.int .i64 x) (kEs K):=by
 refine ⟨QCp x,fun p hp=>?_⟩
 obtain ⟨q,_,rfl⟩:=List.mem_map.1 hp
 exact ⟨rfl,by simp [Qb1,V.cells,QqX]⟩
theorem XQ {c:Prop} [Decidable c] {x y:Int} (h1:i64 x) (h2:i64 y):i64 (if c then x else y):=by split <;> assumption
theorem QDc {op a b:Int} (ha:i64 a) (hb:i64 b):i64 (doW op a b):=by
 have one (c:Prop) [Decidable c]:i64 (if c then 1 else 0):=by unfold i64; split <;> omega
 have hr:i64 (QBQ a b):=by
  unfold QBQ
  split
  ·exact ha
  ·split
   ·unfold i64; omega
   ·have h1:=Int.natAbs_tmod a b
    have h2:(a.tmod b).natAbs≤a.natAbs:=by rw [h1]; exact Nat.mod_le _ _
    unfold i64 at *
    by_cases h:0≤a
    ·have:=Int.tmod_nonneg b h
     omega
    ·have:=Int.tmod_nonneg b (a:=-a) (by omega)
     rw [Int.neg_tmod] at this
     omega
 have hs:i64 (a.fdiv (2 ^ min (Qcb .i64 b 63).toNat 64)):=by
  have hp:(0:Int)<2 ^ min (Qcb .i64 b 63).toNat 64:=Int.pow_pos (by omega)
  generalize (2:Int) ^ min (Qcb .i64 b 63).toNat 64=m at hp
  rw [Int.fdiv_eq_ediv_of_nonneg _ (by omega)]
  unfold i64 at *
  have h1:=Int.ediv_le_ediv hp (a:=a) (b:=9223372036854775807) (by omega)
  have h2:=Int.ediv_le_ediv hp (a:=-9223372036854775808) (b:=a) (by omega)
  have h3:(9223372036854775807:Int) / m≤9223372036854775807:=Int.ediv_le_self _ (by omega)
  have h4:-9223372036854775808≤(-9223372036854775808:Int) / m:=by
   rw [Int.le_ediv_iff_mul_le hp]
   omega
  omega
 have hdiv:i64 (QQh a b):=XQ (by unfold i64; omega) (XQ (Xo _) (Xo _))
 have hdn:i64 (divN a b):=XQ (by unfold i64; omega) (Xo _)
 have hrn:i64 (QBR a b):=XQ ha (Xo _)
 have hand:i64 (Qcb .i64 a b):=Xo _
 have hor:i64 (orI .i64 a b):=Xo _
 have hxor:i64 (QPx .i64 a b):=Xo _
 exact XQ (Xo _) (XQ (Xo _) (XQ (Xo _) (XQ hdiv (XQ hr (XQ hdn (XQ hrn (XQ hand (XQ hor (XQ hxor (XQ (Xo _) (XQ (Xo _) (XQ hs (XQ (one _) (XQ (one _) (XQ (one _) (by unfold i64; omega))))))))))))))))
section
attribute [local go_sem] List.cons_append List.length_cons List.length_nil List.nil_append Nat.add_zero Nat.le_refl Nat.zero_add Nd.cells and_true beq_self_eq_true false_implies kG_5 kG_6 kG_7 kG_9 QCB QiR Qo5 Qwr true_and true_implies
def QB3 (S:List Int) (C:List Cl) (K:List (Int × Int)) (d:Nd):Int :=
 if d.kind=1 then d.n else if d.kind=2 then symE S d.n else if d.kind=3 then QDr C d.a d.n ((kAt K d.y).getD 0) else doW d.op ((kAt K d.x).getD 0) ((kAt K d.y).getD 0)
def allH (ve vm vk:Nat) (S:List Int) (tS:Bool) (C:List Cl) (tC:Bool) (K:List (Int × Int)):List (Option Ob) :=
 [some (.arr ve 67 [.lst 1 (Xg S) tS,.lst 4 (C.map Cl.v) tC]),some (.map vm (kEs K)),some (.arr vk 227 [.mp 6 vm])]
end
section
attribute [local go_sem] Bool.not_false Nat.le_refl Nat.zero_add decide_true Qu
def fit (L:List Nd):Prop:=∀ x:Int,0≤x→x<L.length→((nd L x).kind=1∨(nd L x).kind=2∨(nd L x).kind=3∨(nd L x).kind=4)∧(0≤(nd L x).op∧(nd L x).op≤255)
end
variable {L:List Nd}
theorem Qsd (hok:okN L):fit L:=by
 intro x h0 h1
 obtain ⟨d,hd⟩:∃ d,L[x.toNat]?=some d:=⟨_,List.getElem?_eq_getElem (by omega)⟩
 have e:nd L x=d:=by simp [nd,List.getD_eq_getElem?_getD,hd]
 rw [e]
 obtain ⟨hp,h2,hk⟩:=Qr4 (hok _ d hd).2.2
 exact ⟨hk,by omega,by omega⟩
theorem nd_i64 (hok:okN L) (x:Int):i64 (nd L x).n:=by
 unfold nd
 rw [List.getD_eq_getElem?_getD]
 cases h:L[x.toNat]? with
 | none=>simp [i64,zeroNd]
 | some d=>exact (hok _ d h).1
section
attribute [local go_sem] Bool.not_false Bool.not_true List.cons_append List.length_cons List.length_nil List.nil_append Nat.le_refl Nat.mul_one Nat.zero_add Option.getD_none Option.getD_some Option.isSome_none Option.isSome_some allH and_true decide_true kG_6 kG_7 kG_8 kGs_8 Qo5 Qwr Qu Xl true_and true_implies
end
section
attribute [local go_sem] Bool.not_false Nat.le_refl Nat.zero_add decide_false Qu
end
def QhB (S:List Int) (C:List Cl) (v:Int→Int) (d:Nd):Int :=
 if d.kind=1 then d.n else if d.kind=2 then symE S d.n else if d.kind=3 then QDr C d.a d.n (v d.y) else doW d.op (v d.x) (v d.y)
variable {d:Nd} {v':Int→Int} {S l:List Int}
theorem Qxl {S':List Int} {C C':List Cl} {v:Int→Int} (hk:d.kind=1∨d.kind=2∨d.kind=3∨d.kind=4) (h:∀ p∈d.parts,v p=v' p)
 (hs:d.kind=2→symE S d.n=symE S' d.n) (hc:d.kind=3→∀ y,QDr C d.a d.n y=QDr C' d.a d.n y):QhB S C v d=QhB S' C' v' d:=by
 unfold QhB
 rcases hk with k | k | k | k
 ·rw [if_pos k,if_pos k]
 ·simp [k,hs k]
 ·have:=h d.y (by simp [Nd.parts,k])
  simp [k,this,hc k]
 ·have h1:=h d.x (by simp [Nd.parts,k])
  have h2:=h d.y (by simp [Nd.parts,k])
  simp [k,h1,h2]
theorem Qut {C:List Cl} {v:Int→Int} (hk:d.kind=1∨d.kind=2∨d.kind=3∨d.kind=4) (h:∀ p∈d.parts,v p=v' p):QhB S C v d=QhB S C v' d :=
 Qxl hk h (fun _=>rfl) (fun _ _=>rfl)
def Qrp (S:List Int) (C:List Cl) (out:List Int) (d:Nd):List Int:=out++[QhB S C (fun p=>out.getD p.toNat 0) d]
def vals (S:List Int) (C:List Cl) (L:List Nd):List Int:=L.foldl (Qrp S C) []
def val (S:List Int) (C:List Cl) (L:List Nd) (x:Int):Int:=(vals S C L).getD x.toNat 0
variable {L:List Nd}
theorem QBp {C:List Cl}:vals S C (L++[d])=vals S C L++[QhB S C (fun p=>(vals S C L).getD p.toNat 0) d]:=by simp [vals,Qrp]
theorem Qrm (S:List Int) (C:List Cl):∀ (L:List Nd) (o:List Int),(L.foldl (Qrp S C) o).length=o.length+L.length
 | [],o=>by simp
 | d::L,o=>by rw [List.foldl_cons,Qrm S C L]; simp [Qrp]; omega
theorem Qv6 {C:List Cl}:(vals S C L).length=L.length:=by simpa [vals] using Qrm S C L []
theorem Qro (S:List Int) (C:List Cl):∀ (L:List Nd) (o:List Int),∃ r,L.foldl (Qrp S C) o=o++r
 | [],o=>⟨[],by simp⟩
 | d::L,o=>by
   obtain ⟨r,hr⟩:=Qro S C L (Qrp S C o d)
   exact ⟨_,by rw [List.foldl_cons,hr,Qrp,List.append_assoc]⟩
variable {i:Nat}
theorem QxF {r:List Int} (h:i<l.length):(l++r).getD i 0=l.getD i 0:=by
 rw [List.getD_eq_getElem?_getD,List.getD_eq_getElem?_getD,List.getElem?_append_left h]
variable {x:Int}
theorem QxE (h:l.length=i):(l++[x]).getD i 0=x:=by
 rw [List.getD_eq_getElem?_getD,List.getElem?_append_right (by omega),h,Nat.sub_self]; rfl
theorem Qpw {C:List Cl} {n:Nat} (hi:i<n) (hn:n≤L.length):(vals S C (L.take n)).getD i 0=(vals S C L).getD i 0:=by
 obtain ⟨r,hr⟩:=Qro S C (L.drop n) (vals S C (L.take n))
 have e:vals S C L=vals S C (L.take n)++r:=by
  rw [← hr]
  conv=>lhs; rw [← List.take_append_drop n L]
  rw [vals,vals,List.foldl_append]
 rw [e,QxF]
 rw [Qv6,List.length_take]
 omega
theorem nd_get (h0:0≤x) (h1:x<L.length):L[x.toNat]?=some (nd L x):=by
 unfold nd
 rw [List.getD_eq_getElem?_getD,List.getElem?_eq_getElem (by omega)]
 rfl
theorem Qrq {C:List Cl} (hwf:gwf L) (hfit:fit L) (h0:0≤x) (h1:x<L.length):val S C L x=QhB S C (val S C L) (nd L x):=by
 have hg:=nd_get h0 h1
 have ht:=QoG hg
 have hl:(vals S C (L.take x.toNat)).length=x.toNat:=by rw [Qv6,List.length_take]; omega
 have e:val S C L x=(vals S C (L.take (x.toNat+1))).getD x.toNat 0:=by rw [Qpw (by omega) (by omega)]; rfl
 rw [e,ht,QBp,QxE hl]
 refine Qut (hfit x h0 h1).1 fun p hp=>?_
 have:=hwf _ _ hg p hp
 exact Qpw (by omega) (by omega)
theorem QBB {C:List Cl} {v:Int→Int} (hS:∀ x∈S,i64 x) (hC:∀ c∈C,i64 c.n) (hv:∀ p,i64 (v p)) (hd:i64 d.n):i64 (QhB S C v d):=by
 refine XQ hd (XQ ?_ (XQ ?_ (QDc (hv _) (hv _))))
 ·unfold symE
  refine XQ (by unfold i64; omega) ?_
  rw [List.getD_eq_getElem?_getD]
  cases h:S[d.n.toNat]? with
  | none=>simp [i64]
  | some x=>exact hS x (List.mem_of_getElem? h)
 ·unfold QDr
  refine XQ (by unfold i64; omega) ?_
  cases h:C[(fstC (isC d.a d.n (v d.y)) C 0).toNat]? with
  | none=>simp [i64]
  | some c=>exact hC c (List.mem_of_getElem? h)
theorem QwI (h:∀ x∈l,i64 x) (n:Nat):i64 (l.getD n 0):=by
 rw [List.getD_eq_getElem?_getD]
 cases e:l[n]? with
 | none=>simp [i64]
 | some x=>exact h x (List.mem_of_getElem? e)
theorem Qrn {S:List Int} {C:List Cl} (hS:∀ x∈S,i64 x) (hC:∀ c∈C,i64 c.n):∀ (L:List Nd),(∀ d∈L,i64 d.n)→∀ (o:List Int),(∀ x∈o,i64 x)→∀ x∈L.foldl (Qrp S C) o,i64 x
 | [],_,o,ho=>ho
 | d::L,hL,o,ho=>by
   rw [List.foldl_cons]
   refine Qrn hS hC L (fun d hd=>hL d (by simp [hd])) _ fun x hx=>?_
   rcases List.mem_append.1 hx with h | h
   ·exact ho x h
   ·rw [List.mem_singleton.1 h]
    exact QBB hS hC (fun p=>QwI ho _) (hL d (by simp))
theorem QRj {C:List Cl} (hS:∀ x∈S,i64 x) (hC:∀ c∈C,i64 c.n) (hL:∀ d∈L,i64 d.n) (x:Int):i64 (val S C L x) :=
 QwI (Qrn hS hC L hL [] (by simp)) _
theorem QRR (hok:okN L):∀ d∈L,i64 d.n:=fun d hd=>by
 obtain ⟨i,hi⟩:=List.mem_iff_getElem?.1 hd
 exact (hok i d hi).1
end Go.Proofs.YtbdhjeojcpgblaaGreatDoor
namespace Go.Proofs.YtbdhjeojcpgblaaGreatDoor
open Go Go.Am
set_option maxRecDepth 100000
set_option maxHeartbeats 1000000
theorem QpL (k:Nat):(0:Int)<2 ^ k:=Int.pow_pos (by omega)
theorem QEQ (k:Nat):((2 ^ k:Nat):Int)=2 ^ k:=by simp
theorem Qwl {k:Nat} (h:k≤64):(2:Int) ^ k≤18446744073709551616:=by
 have h1:=Nat.pow_le_pow_right (n:=2) (by omega) h
 have h3:(2:Nat) ^ 64=18446744073709551616:=rfl
 rw [h3] at h1
 rw [← QEQ]
 omega
variable {x y u:Int}
theorem QEm (h0:0≤x) (h1:x<18446744073709551616):IntKind.u64.wrap x=x:=by
 apply Qas
 ·have:IntKind.u64.min=0:=by decide
  omega
 ·have:IntKind.u64.max=18446744073709551615:=by decide
  omega
theorem QgE (x:Int):IntKind.u64.wrap x=x % 18446744073709551616:=by
 simp [IntKind.wrap,IntKind.bits,IntKind.signed]
theorem QBl (h:x % 18446744073709551616=y % 18446744073709551616):IntKind.i64.wrap x=IntKind.i64.wrap y:=by
 rw [IntKind.wrap_i64,IntKind.wrap_i64]
 omega
theorem Qw5 (x:Int):IntKind.i64.wrap x % 18446744073709551616=x % 18446744073709551616:=by
 rw [IntKind.wrap_i64]
 omega
def cg (x y:Int):Prop:=x % 18446744073709551616=y % 18446744073709551616
theorem cg.refl (x:Int):cg x x:=rfl
theorem cg.symm {x y:Int} (h:cg x y):cg y x:=Eq.symm h
theorem cg.trans {x y z:Int} (h:cg x y) (k:cg y z):cg x z:=Eq.trans h k
theorem cg.add {v:Int} (h:cg x y) (k:cg u v):cg (x+u) (y+v):=by unfold cg at *; omega
theorem cg.neg (h:cg x y):cg (-x) (-y):=by unfold cg at *; omega
theorem cg.mul {v:Int} (h:cg x y) (k:cg u v):cg (x * u) (y * v):=by
 unfold cg at *
 rw [Int.mul_emod,h,k,← Int.mul_emod]
theorem Qyc (x:Int):cg (IntKind.i64.wrap x) x:=Qw5 x
theorem QFP (x:Int):cg (IntKind.u64.wrap x) x:=by unfold cg; rw [QgE]; omega
theorem Qun (h:cg x y):IntKind.i64.wrap x=IntKind.i64.wrap y:=QBl h
theorem QEp (a:Int):0≤IntKind.u64.wrap a∧IntKind.u64.wrap a<18446744073709551616:=by rw [QgE]; omega
variable {P:Program} {G:Nat→Option V}
section
attribute [local go_sem] Nat.le_refl Nat.zero_add Nat.zero_le decide_false decide_true
end
end Go.Proofs.YtbdhjeojcpgblaaGreatDoor
