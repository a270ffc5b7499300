/- Contracts: the document's side of clauses: what holds in a Qgc. -/
import Derived.Test.YtingdebioipemaaJ5
open Nat renaming reduceEqDiff → rq, reduceAdd → rA, reduceLeDiff → rL, reduceLT → rTq, zero_add → zA, le_refl → lR, zero_le → zL, add_zero → aZ
open List renaming length_cons → lC, length_nil → lN, take_succ_cons → tS, length_append → lA, nil_append → nA, cons_append → cA, append_assoc → aA, take_nil → tN, take_zero → tZ, length_map → lM
open Bool renaming not_false → nF, not_true → nT
namespace Go.Proofs.Ytingdebioipemaa
open Go Go.Am Go.Cl
set_option maxRecDepth 100000
variable {P:Program} {G:Nat→Option V}
section
attribute [local go_sem] nF nT lM aZ lR zA zL and_true decide_false decide_true false_implies gt_iff_lt Qb Qt not_false_eq_true not_true_eq_false Q7 zqk_0 zqk_1 zqk_2 zqk_3 zqk_4 zqk_5 zqk_6 Xl zqj_0 zqj_1 zqj_2 zqj_3 zqj_4 zqj_5 zqj_6 zqj_7 zqj_8 true_and true_implies
def QlQ (m:List Bool):V:=.lst 1 (m.map V.bool) false
theorem Qir {m:List Bool} {j:Nat} (h:j<m.length):(m.map V.bool).getD j V.any=.bool (m.getD j false):=by
 simp [List.getD_eq_getElem?_getD,List.getElem?_eq_getElem h]
variable {n:Int}
theorem wnat (h:0≤n∧n≤9223372036854775807):IntKind.i64.wrap n=(n.toNat:Int):=by
 rw [ZW]
 ·omega
 ·simp [IntKind.min,IntKind.signed,IntKind.bits]; omega
 ·simp [IntKind.max,IntKind.signed,IntKind.bits]; omega
theorem QjA (h:-9223372036854775808≤n∧n≤9223372036854775807):IntKind.i64.wrap n=n:=by
 rw [ZW]
 ·simp [IntKind.min,IntKind.signed,IntKind.bits]; omega
 ·simp [IntKind.max,IntKind.signed,IntKind.bits]; omega
abbrev rclJ (t:Nat) (c:List Int) (m:List Bool):Nat→Fr→H→Prop:=fun i fr σ=>(∀ n∈c.take i,Qig m n=false)∧Qg fr 0=.lst 1 (ints c) false∧Qg fr 1=.lst 1 (m.map V.bool) false∧Qg fr 5=.int .i64 ((i:Nat):Int)∧σ=⟨t,[]⟩
abbrev rclE (c:List Int) (m:List Bool):AE→Fr→H→Prop:=fun e fr _=>(e=.ret∧Qg fr 4=.bool true∧X3 m c=true)∨(e=.ex 0∧X3 m c=false)
theorem Qkr (hT:Qj P tab) (c:List Int) (m:List Bool) (hc:∀ n∈c,n≠0∧-(m.length:Int)≤n∧n≤m.length) (hm:m.length≤16777216) (hl:c.length≤9223372036854775807) :
 Pure P G Zb [row c,QlQ m] fun u=>u=.bool (X3 m c):=by
 intro t
 simp only [row,QlQ]
 refine XU 0 (zL _) (QF hT XW (by simp [Q7]) (Qx 1000 ?_))
 simp -implicitDefEqProofs (disch:=omega) only [go_sem,↓reduceIte,reduceCtorEq,rq]
 refine XZ c (rclJ t c m) (rclE c m) ⟨by simp,?_⟩ (fun i n ha fr σ hJ=>?_) (fun i hi fr σ hJ=>?_) (fun e fr σ hE=>?_)
 ·simp -implicitDefEqProofs (disch:=omega) only [go_sem,↓reduceIte,reduceCtorEq,rq]
  simp
 ·obtain ⟨hno,f0,f1,f5,rfl⟩:=hJ
  obtain ⟨hlt,hD,e2⟩:=Qdo ha hl
  have hnm:=List.mem_of_getElem? ha
  have hts:=Qo ha
  obtain ⟨h0,h1,h2⟩:=hc n hnm
  have hyes:Qig m n=true→X3 m c=true:=fun h=>List.any_eq_true.2 ⟨n,hnm,h⟩
  have hnext:Qig m n=false→∀ x∈c.take (i+1),Qig m x=false:=fun h x hx=>by
   rw [hts,List.mem_append] at hx
   rcases hx with hx | hx
   ·exact hno x hx
   ·simp at hx; subst hx; exact h
  by_cases hp:0<n
  ·have hj:(n - 1).toNat<m.length:=by omega
   have e4:=wnat (n:=n - 1) (by omega)
   have hB:=Qir hj
   have hlit:Qig m n=m.getD (n - 1).toNat false:=by
    have:¬ n<0:=by omega
    simp [Qig,hp,this]
   rw [← hlit] at hB
   generalize (n - 1).toNat=j at *
   have hp':decide (0<n)=true:=by simpa using hp
   cases hv:Qig m n with
   | true =>
     rw [hv] at hB
     refine Qf [(0,.lst 1 (ints c) false),(1,.lst 1 (m.map V.bool) false),(5,.int .i64 ((i:Nat):Int))] ⟨f0,f1,f5,trivial⟩  14 ?_
     simp -implicitDefEqProofs (disch:=omega) only [go_sem,↓reduceIte,reduceCtorEq,rq,hlt]
     iterate 9 (try (refine Qc 2 ?_; simp -implicitDefEqProofs (disch:=omega) only [go_sem,↓reduceIte,reduceCtorEq,rA,rq,hlt,hD,e4,hj,hB,hp]))
     iterate 9 (try (refine Qc 4 ?_; simp -implicitDefEqProofs (disch:=omega) only [go_sem,↓reduceIte,reduceCtorEq,rq]))
     exact .inl ⟨rfl,rfl,hyes hv⟩
   | false =>
     have hn':¬ n<0:=by omega
     have hn'':decide (n<0)=false:=by simpa using hn'
     rw [hv] at hB
     refine Qf [(0,.lst 1 (ints c) false),(1,.lst 1 (m.map V.bool) false),(5,.int .i64 ((i:Nat):Int))] ⟨f0,f1,f5,trivial⟩  14 ?_
     simp -implicitDefEqProofs (disch:=omega) only [go_sem,↓reduceIte,reduceCtorEq,rq,hlt]
     iterate 9 (try (refine Qc 2 ?_; simp -implicitDefEqProofs (disch:=omega) only [go_sem,↓reduceIte,reduceCtorEq,rA,rq,hlt,hD,e4,hj,hB,hp]))
     iterate 9 (try (refine Qc 4 ?_; simp -implicitDefEqProofs (disch:=omega) only [go_sem,↓reduceIte,reduceCtorEq,rA,rq,hlt,hD,hn']))
     refine ⟨_,_,Shift.refl _ _ _ _,hnext hv,?_⟩
     simp -implicitDefEqProofs (disch:=omega) only [go_sem,↓reduceIte,reduceCtorEq,rq,e2]
  ·have hn:n<0:=by omega
   have hj:(-n - 1).toNat<m.length:=by omega
   have e3:=QjA (n:=0 - n) (by omega)
   have e4:=wnat (n:=0 - n - 1) (by omega)
   rw [show 0 - n - 1=-n - 1 by omega] at e4
   rw [show 0 - n=-n by omega] at e3
   have hB:=Qir hj
   have hlit:Qig m n = !m.getD (-n - 1).toNat false:=by simp [Qig,hn,hp]
   have hp':decide (0<n)=false:=by simpa using hp
   have hn':decide (n<0)=true:=by simpa using hn
   have hneg:IntKind.i64.wrap (0 - n)=-n:=by rw [show 0 - n=-n by omega]; exact e3
   generalize m.getD (-n - 1).toNat false=b at *
   generalize (-n - 1).toNat=j at *
   cases b with
   | false =>
     refine Qf [(0,.lst 1 (ints c) false),(1,.lst 1 (m.map V.bool) false),(5,.int .i64 ((i:Nat):Int))] ⟨f0,f1,f5,trivial⟩  14 ?_
     simp -implicitDefEqProofs (disch:=omega) only [go_sem,↓reduceIte,reduceCtorEq,rq,hlt]
     iterate 16 (try (refine Qc 2 ?_; simp -implicitDefEqProofs (disch:=omega) only [go_sem,↓reduceIte,reduceCtorEq,rA,rq,hlt,hD,hneg,e4,hj,hB,hp,hn]))
     iterate 9 (try (refine Qc 4 ?_; simp -implicitDefEqProofs (disch:=omega) only [go_sem,↓reduceIte,reduceCtorEq,rA,rq]))
     exact .inl ⟨rfl,rfl,hyes hlit⟩
   | true =>
     refine Qf [(0,.lst 1 (ints c) false),(1,.lst 1 (m.map V.bool) false),(5,.int .i64 ((i:Nat):Int))] ⟨f0,f1,f5,trivial⟩  14 ?_
     simp -implicitDefEqProofs (disch:=omega) only [go_sem,↓reduceIte,reduceCtorEq,rq,hlt]
     iterate 16 (try (refine Qc 2 ?_; simp -implicitDefEqProofs (disch:=omega) only [go_sem,↓reduceIte,reduceCtorEq,rA,rq,hlt,hD,hneg,e4,hj,hB,hp,hn]))
     iterate 9 (try (refine Qc 4 ?_; simp -implicitDefEqProofs (disch:=omega) only [go_sem,↓reduceIte,reduceCtorEq,rA,rq]))
     refine ⟨_,_,Shift.refl _ _ _ _,hnext hlit,?_⟩
     simp -implicitDefEqProofs (disch:=omega) only [go_sem,↓reduceIte,reduceCtorEq,rq,e2]
 ·obtain ⟨hno,f0,f1,f5,rfl⟩:=hJ
  rw [hi,List.take_length] at hno
  have hr:X3 m c=false:=List.any_eq_false.2 fun n h=>by rw [hno n h]; simp
  refine Qf [(0,.lst 1 (ints c) false),(1,.lst 1 (m.map V.bool) false),(5,.int .i64 ((i:Nat):Int))] ⟨f0,f1,f5,trivial⟩  1000 ?_
  simp -implicitDefEqProofs (disch:=omega) only [go_sem,↓reduceIte,reduceCtorEq,rq,hi,Nat.lt_irrefl]
  exact .inr ⟨rfl,hr⟩
 ·rcases hE with ⟨rfl,f4,hm⟩ | ⟨rfl,hm⟩
  ·refine Qc 1000 ?_
   simp -implicitDefEqProofs (disch:=omega) only [go_sem,f4,hm]
  ·refine Qc 1000 ?_
   simp -implicitDefEqProofs (disch:=omega) only [go_sem,↓reduceIte,hm]
abbrev hoJ (t:Nat) (v:Int) (F:List (List Int)) (m:List Bool):Nat→Fr→H→Prop:=fun i fr σ=>(∀ c∈F.take i,X3 m c=true)∧Qg fr 1=.lst 1 (m.map V.bool) false∧Qg fr 2=.ptr 0 t 0∧Qg fr 5=.int .i64 ((i:Nat):Int)∧σ=⟨t+1,rfH t v F⟩
abbrev hoE (v:Int) (F:List (List Int)) (m:List Bool):AE→Fr→H→Prop:=fun e fr _=>(e=.ret∧Qg fr 4=.bool false∧ZR v F m=false)∨(e=.ex 0∧ZR v F m=true)
theorem QmU (hT:Qj P tab) (v:Int) (F:List (List Int)) (m:List Bool) (hF:F.length≤9223372036854775807) (hc:∀ c∈F,c.length≤9223372036854775807) (hm:m.length≤9223372036854775807) :
 Pure P G Zs [fml v F,QlQ m] fun u=>u=.bool (ZR v F m):=by
 intro t
 have hR:=Qjj (P:=P) (G:=G) hT v F hF hc
 simp only [fml,rows,QlQ] at hR ⊢
 refine XU 0 (zL _) (QF hT Yl (by simp [Xl]) (Qx 1000 ?_))
 simp -implicitDefEqProofs (disch:=omega) only [go_sem,↓reduceIte,reduceCtorEq,rA,rq]
 refine Qi hT Xy hR (by simp [Qd,nameless]) 6 ?_
 cases hr:right v F with
 | false =>
   have hh:ZR v F m=false:=by simp [ZR,hr]
   simp -implicitDefEqProofs (disch:=omega) only [go_sem,↓reduceIte,reduceCtorEq,rq]
   iterate 9 (try (refine Qc 4 ?_; simp -implicitDefEqProofs (disch:=omega) only [go_sem,↓reduceIte,reduceCtorEq,rq]))
   rw [hh]
 | true =>
   by_cases hv:(m.length:Int)=v
   ·have hv2:((m.length:Int)=v)=True:=eq_true hv
    have hrr:=Xe.1 hr
    simp -implicitDefEqProofs (disch:=omega) only [go_sem,↓reduceIte,reduceCtorEq,rA,rq,rL]
    iterate 9 (try (refine Qc 4 ?_; simp -implicitDefEqProofs (disch:=omega) only [go_sem,↓reduceIte,reduceCtorEq,rA,rq,hv2]))
    refine XZ F (hoJ t v F m) (hoE v F m) ⟨by simp,?_⟩ (fun i c hci fr σ hJ=>?_) (fun i hi fr σ hJ=>?_) (fun e fr σ hE=>?_)
    ·simp -implicitDefEqProofs (disch:=omega) only [go_sem,↓reduceIte,reduceCtorEq,rq,rfH]
     simp
    ·obtain ⟨hok,f1,f2,f5,rfl⟩:=hJ
     obtain ⟨hlt,hD,e2⟩:=Qeg hci hF
     have hcm:=List.mem_of_getElem? hci
     have hts:=Qo hci
     have hC:=Qkr (P:=P) (G:=G) hT c m (fun n hn=>by have:=hrr.2 c hcm n hn; omega) (by omega) (hc c hcm)
     simp only [row,QlQ] at hC
     refine Qf [(1,.lst 1 (m.map V.bool) false),(2,.ptr 0 t 0),(5,.int .i64 ((i:Nat):Int))] ⟨f1,f2,f5,trivial⟩  1000 ?_
     simp -implicitDefEqProofs (disch:=omega) only [go_sem,↓reduceIte,rA,rq,rfH,hlt,hD]
     refine Qi hT XW hC (by simp [Qd,nameless]) 1000 ?_
     cases hcl:X3 m c with
     | false =>
       have hh:ZR v F m=false:=by
        have:F.all (X3 m)=false:=List.all_eq_false.2 ⟨c,hcm,by simp [hcl]⟩
        simp [ZR,this]
       simp -implicitDefEqProofs (disch:=omega) only [go_sem,↓reduceIte,rq]
       exact .inl ⟨rfl,rfl,hh⟩
     | true =>
       simp -implicitDefEqProofs (disch:=omega) only [go_sem,↓reduceIte,rq]
       refine ⟨_,_,Shift.refl _ _ _ _,fun d hd=>?_,?_⟩
       ·rw [hts,List.mem_append] at hd
        rcases hd with hd | hd
        ·exact hok d hd
        ·simp at hd; subst hd; exact hcl
       ·simp -implicitDefEqProofs (disch:=omega) only [go_sem,↓reduceIte,rq,rfH,e2]
    ·obtain ⟨hok,f1,f2,f5,rfl⟩:=hJ
     rw [hi,List.take_length] at hok
     have hh:ZR v F m=true:=by
      have:F.all (X3 m)=true:=List.all_eq_true.2 hok
      simp [ZR,hr,hv,this]
     refine Qf [(1,.lst 1 (m.map V.bool) false),(2,.ptr 0 t 0),(5,.int .i64 ((i:Nat):Int))] ⟨f1,f2,f5,trivial⟩  1000 ?_
     simp -implicitDefEqProofs (disch:=omega) only [go_sem,↓reduceIte,rA,rq,rfH,hi,Nat.lt_irrefl]
     exact .inr ⟨rfl,hh⟩
    ·rcases hE with ⟨rfl,f4,hh⟩ | ⟨rfl,hh⟩
     ·refine Qc 1000 ?_
      simp -implicitDefEqProofs (disch:=omega) only [go_sem,f4,hh]
     ·refine Qc 1000 ?_
      simp -implicitDefEqProofs (disch:=omega) only [go_sem,↓reduceIte,hh]
   ·have hv2:((m.length:Int)=v)=False:=eq_false hv
    have hh:ZR v F m=false:=by simp [ZR,hv]
    simp -implicitDefEqProofs (disch:=omega) only [go_sem,↓reduceIte,reduceCtorEq,rA,rq,rL]
    iterate 9 (try (refine Qc 4 ?_; simp -implicitDefEqProofs (disch:=omega) only [go_sem,↓reduceIte,reduceCtorEq,rA,rq,hv2]))
    rw [hh]
end
section
attribute [local go_sem] nF nT aZ lR Nat.mul_one Nat.one_mul Nat.succ_ne_zero zA zL Nat.zero_mul Option.getD_none Option.getD_some Option.isSome_none Option.isSome_some beq_self_eq_true bne_self_eq_false decide_false decide_true ge_iff_le gt_iff_lt Qt Xm Quu Qut QiD QiC Qk4 Qpa Qus Qo9 Qo8 Qo7 Qo6 Qo5 Qo4 Qmj Q6 Qua Qt9
theorem QdC {f:FuncId} {args:List V} {X:V} (h:∀ t,C P G 0 f args ⟨t,[]⟩ fun u σ=>(nameless u=true∧Wk u X)∨∃ k v' T cs,σ.o[k]?=some (some (.arr v' T cs))∧Qd cs=true∧nameless (YU k v' cs u)=true∧Wk (YU k v' cs u) X) (hX:nameless X=true):Pure P G f args fun u=>u=X:=by
 intro t
 refine Ql1 (Q:=fun u _=>nameless u=true∧Wk u X) (QaA (h t) fun u σ hu=>?_) fun u σ hu=>⟨X,hu.2,hX,rfl⟩
 rcases hu with hu | ⟨k,v',T,cs,h1,h2,h3,h4⟩
 ·exact .inl hu
 ·exact .inr ⟨k,v',T,cs,zL _,h1,h2,h3,h4⟩
theorem Qpi (tight:Bool):Wk (.lst 0 [] tight) (row []):=.lst _ _ _ _ _ .nil (.inl rfl)
variable {l Q c:List Int}
theorem Qlr {k w T:Nat}:YU k w (ints l) (.sl k w 0 1 l.length none)=row l:=by
 simp [YU,Qac,Qb,row]
 rw [← Qb l,List.take_length]
theorem QaP (l:List Int):nameless (row l)=true:=by simp [row,nameless]
variable {n p:Int}
theorem QiM (h:-9223372036854775808≤n∧n≤9223372036854775807):IntKind.i64.wrap (0 - n)=neg n:=by
 unfold neg
 split
 ·subst n; decide
 ·rw [QjA (by omega)]; omega
theorem Qw0:(if n < -n then -n else n)=av n:=by unfold av; split <;> split <;> omega
theorem QmW (hT:Qj P tab) (a b:Int) (ha:-9223372036854775808<a∧a≤9223372036854775807) (hb:-9223372036854775808<b∧b≤9223372036854775807):Pure P G Za [.int .i64 a,.int .i64 b] fun u=>u=.bool (decide (av a<av b)):=by
 intro t
 have h1:=QiM (n:=a) (by omega)
 have h2:=QiM (n:=b) (by omega)
 rw [neg,if_neg (by omega)] at h1 h2
 refine XU 0 (zL _) (QF hT QP (by simp [Q6]) (Qx 1000 ?_))
 simp -implicitDefEqProofs (disch:=omega) only [go_sem,↓reduceIte,reduceCtorEq,rq,h1,h2,Qw0]
theorem QiV {S:List Int}:(ints (Q++n::S)).take Q.length++[V.int .i64 p]++(ints (Q++n::S)).drop (Q.length+1)=ints (Q++p::S):=by
 simp [ints,List.drop_append]
theorem QjQ {S:List Int} {q:Int}:(ints (Q++q::n::S)).take (Q.length+1)++[V.int .i64 p]++(ints (Q++q::n::S)).drop (Q.length+1+1)=ints (Q++q::p::S):=by
 have:=QiV (Q:=Q++[q]) (S:=S) (p:=p) (n:=n)
 simpa using this
theorem Qqh {S:List Int}:(ints (Q++n::S)).getD Q.length .any=.int .i64 n:=by simp [ints,List.getD_eq_getElem?_getD]
theorem QmJ {S:List Int}:(ints (Q++p::n::S)).getD (Q.length+1) .any=.int .i64 n:=by simp [ints,List.getD_eq_getElem?_getD]
abbrev rdnJ (t tw:Nat) (c:List Int) (i z:Nat) (n:Int) (l:List Int):Nat→Fr→H→Prop:=fun m fr σ=>∃ Q S,m=Q.length∧Q++S=l∧(∀ s∈S,av n<av s)∧Qg fr 0=.lst 1 (ints c) false∧Qg fr 4=.sl 0 tw 0 1 (z+1) none∧Qg fr 5=.int .i64 ((i:Nat):Int)∧Qg fr 6=.int .i64 ((m:Nat):Int)∧σ=⟨t,[some (.arr tw 3 (ints (Q++n::S)))]⟩
abbrev rdnE (t tw:Nat) (c:List Int) (i z:Nat) (n:Int) (l:List Int):AE→Fr→H→Prop:=fun e fr σ=>e=.ex 2∧∃ Q S,Q++S=l∧Srt (Q++n::S)∧Qg fr 0=.lst 1 (ints c) false∧Qg fr 4=.sl 0 tw 0 1 (z+1) none∧Qg fr 5=.int .i64 ((i:Nat):Int)∧σ=⟨t,[some (.arr tw 3 (ints (Q++n::S)))]⟩
theorem Qwz {q:Nat} (h:q≤1000000):IntKind.i64.wrap (((q+1:Nat):Int) - 1)=((q:Nat):Int):=by rw [QjA (by omega)]; omega
variable {σ:H} {fr:Fr} {i:Nat}
theorem QpK (hT:Qj P tab) {t tw:Nat} {z:Nat} (hl:Srt l) (hn:∀ s∈l,av s≠av n) (hb:∀ s∈n::l,-9223372036854775808<s∧s≤9223372036854775807) (hz:l.length=z) (hlen:z≤1000000) {m:Nat} (hJ:rdnJ t tw c i z n l m fr σ) :
 W P G 76 0 (.seq (zg Qmj [43,44,45,46,47,48,49,50,51,52,53,54,55] (zw 56 .skip (.exit 2))) (.seq (.block 3 (.reg QiD [59,60,61,62,63,64,65,66,67,68,69,70,71,72,73,74])) (.reg QiC [57,58]))) fr σ (Y9 (fun fr σ=>∃ m' fr' σ',m'<m∧Shift G 76 0 fr σ fr' σ'∧rdnJ t tw c i z n l m' fr' σ') (rdnE t tw c i z n l)):=by
 obtain ⟨Q,S,hq,hQS,hS,f0,f4,f5,f6,rfl⟩:=hJ
 rcases List.eq_nil_or_concat Q with rfl | ⟨Q,p,rfl⟩
 ·rw [lN] at hq
  subst hq
  refine Qf [(0,.lst 1 (ints c) false),(4,.sl 0 tw 0 1 (z+1) none),(5,.int .i64 ((i:Nat):Int)),(6,.int .i64 0)] ⟨f0,f4,f5,f6,trivial⟩  14 ?_
  simp -implicitDefEqProofs (disch:=omega) only [go_sem,↓reduceIte,reduceCtorEq,rq,Int.lt_irrefl]
  iterate 9 (try (refine Qc 2 ?_; simp -implicitDefEqProofs (disch:=omega) only [go_sem,↓reduceIte,reduceCtorEq,rq]))
  iterate 4 (try (refine Qc 4 ?_; simp -implicitDefEqProofs (disch:=omega) only [go_sem,↓reduceIte,reduceCtorEq,rA,rq,rL,rTq,Nat.reduceSub,Nat.reduceMul,Int.reduceToNat,Int.reduceLE,Int.reduceLT,Int.reduceEq,Int.reduceNe,Nat.reduceBEq,Nat.reduceBNe,lM,Qb,false_implies,true_implies,true_and,and_true,not_true_eq_false,not_false_eq_true,lA,lC]))
  exact ⟨rfl,[],S,hQS,QiT (P:=[]) (hQS▸hl) hS (by simp),rfl,rfl,rfl,rfl⟩
 ·rw [List.concat_eq_append] at *
  rw [lA,List.length_singleton] at hq
  rw [aA] at hQS
  have hQz:Q.length+S.length+1=z:=by rw [← hz,← hQS]; simp; omega
  subst hq
  have w1:=Qwz (q:=Q.length) (by omega)
  have w2:(0:Int)<((Q.length+1:Nat):Int):=by omega
  have w2':decide ((0:Int)<((Q.length+1:Nat):Int))=true:=by simp
  have g1:=Qqh (Q:=Q) (S:=n::S) (n:=p)
  have g2:=QmJ (Q:=Q) (S:=S) (p:=p) (n:=n)
  have g3:=QjQ (Q:=Q) (S:=S) (p:=p) (n:=n) (q:=p)
  have g4:=QiV (Q:=Q) (S:=p::S) (p:=n) (n:=p)
  have hp:p∈l:=by rw [← hQS]; simp
  have hB:=QmW (P:=P) (G:=G) hT n p (hb n (by simp)) (hb p (by simp [hp]))
  have e1:Q++[p]++n::S=Q++p::n::S:=by simp
  by_cases hlt:av n<av p
  ·have hlt':decide (av n<av p)=true:=by simpa using hlt
   rw [hlt'] at hB
   rw [e1]
   refine Qf [(0,.lst 1 (ints c) false),(4,.sl 0 tw 0 1 (z+1) none),(5,.int .i64 ((i:Nat):Int)),(6,.int .i64 ((Q.length+1:Nat):Int))] ⟨f0,f4,f5,f6,trivial⟩  14 ?_
   simp -implicitDefEqProofs (disch:=omega) only [go_sem,↓reduceIte,reduceCtorEq,rA,rq,Qb,true_implies,true_and,and_true,lA,lC,w1,w2,g2]
   iterate 4 (try (refine Qc 2 ?_; simp -implicitDefEqProofs (disch:=omega) only [go_sem,↓reduceIte,reduceCtorEq,rA,rq,Qb,true_implies,true_and,and_true,lA,lC,g1]))
   refine Qi hT QP hB rfl 4 ?_
   simp -implicitDefEqProofs (disch:=omega) only [go_sem,↓reduceIte,reduceCtorEq,rq]
   iterate 9 (try (refine Qc 4 ?_; simp -implicitDefEqProofs (disch:=omega) only [go_sem,↓reduceIte,reduceCtorEq,rq,Qb,true_implies,true_and,and_true,lA,lC,w1,g1,g2,g3,g4]))
   refine ⟨Q.length,_,_,by omega,Shift.refl _ _ _ _,Q,p::S,rfl,by rw [← hQS]; simp,fun s hs=>?_,?_⟩
   ·rcases List.mem_cons.1 hs with rfl | hs
    ·exact hlt
    ·exact hS s hs
   ·simp -implicitDefEqProofs (disch:=omega) only [go_sem,↓reduceIte,reduceCtorEq,rq,and_true]
  ·have hlt':decide (av n<av p)=false:=by simpa using hlt
   rw [hlt'] at hB
   rw [e1]
   have hsr:Srt (Q++p::n::S):=by
    have:=QiT (P:=Q++[p]) (S:=S) (n:=n) (by rw [← hQS] at hl; simpa using hl) hS (fun q hq=>by
     simp at hq; subst hq
     have:=hn p hp; omega)
    rwa [e1] at this
   refine Qf [(0,.lst 1 (ints c) false),(4,.sl 0 tw 0 1 (z+1) none),(5,.int .i64 ((i:Nat):Int)),(6,.int .i64 ((Q.length+1:Nat):Int))] ⟨f0,f4,f5,f6,trivial⟩  14 ?_
   simp -implicitDefEqProofs (disch:=omega) only [go_sem,↓reduceIte,reduceCtorEq,rA,rq,Qb,true_implies,true_and,and_true,lA,lC,w1,w2,g2]
   iterate 4 (try (refine Qc 2 ?_; simp -implicitDefEqProofs (disch:=omega) only [go_sem,↓reduceIte,reduceCtorEq,rA,rq,Qb,true_implies,true_and,and_true,lA,lC,g1]))
   refine Qi hT QP hB rfl 4 ?_
   simp -implicitDefEqProofs (disch:=omega) only [go_sem,↓reduceIte,reduceCtorEq,rq]
   iterate 9 (try (refine Qc 4 ?_; simp -implicitDefEqProofs (disch:=omega) only [go_sem]))
   exact ⟨rfl,Q++[p],S,by rw [← hQS]; simp,by rw [e1]; exact hsr,rfl,rfl,rfl,by rw [e1]⟩
abbrev rcnJ (c:List Int):Nat→Fr→H→Prop:=fun i fr σ=>∃ out t tw,Srt out∧(∀ x,x∈out↔x∈c.take i)∧(∀ x∈c.take i,x≠0∧neg x ∉ c)∧Qg fr 0=.lst 1 (ints c) false∧Qg fr 4=.sl 0 tw 0 1 out.length none∧Qg fr 5=.int .i64 ((i:Nat):Int)∧σ=⟨t,[some (.arr tw 3 (ints out))]⟩
abbrev rcnE (c:List Int):AE→Fr→H→Prop:=fun e fr σ=>(e=.ret∧bad c=true∧Qg fr 2=.lst 0 [] true∧Qg fr 3=.bool false)∨(e=.ex 0∧bad c=false∧∃ t tw,Qg fr 4=.sl 0 tw 0 1 (canon c).length none∧σ=⟨t,[some (.arr tw 3 (ints (canon c)))]⟩)
theorem Qpt (h:Srt l):l.Nodup:=List.Pairwise.imp (fun {a b} (h:av a<av b) (e:a=b)=>by rw [e] at h; omega) h
theorem Qvn (h:n∈c) (k:n=0∨neg n∈c):bad c=true:=QfR.2 ⟨n,h,k⟩
theorem QpL (hT:Qj P tab) (hb:∀ n∈c,-9223372036854775808≤n∧n≤9223372036854775807) (hl:c.length≤1000000) (ha:c[i]?=some n) (hJ:rcnJ c i fr σ) :
 W P G 76 0 (.seq (zg Qo9 [7,8,9] (zw 10 .skip (.exit 0))) (.seq (.block 1 (.seq (zg Qo8 [13,14,15,16,17,18,19,20,21,22,23,24,25] (zw 26 (zg Qo7 [] .ret) .skip)) (.seq (zg Qo6 [27,28,29,30,31] (zw 32 (.exit 1) .skip)) (zg Qo5 [33,34,35,36,37,38,39] (zg Qo4 [40,41,42] (.block 2 (.loop (.seq (zg Qmj [43,44,45,46,47,48,49,50,51,52,53,54,55] (zw 56 .skip (.exit 2))) (.seq (.block 3 (.reg QiD [59,60,61,62,63,64,65,66,67,68,69,70,71,72,73,74])) (.reg QiC [57,58])))))))))) (.reg Qk4 [11,12]))) fr σ (Y9 (fun fr σ=>∃ fr' σ',Shift G 76 0 fr σ fr' σ'∧rcnJ c (i+1) fr' σ') (rcnE c)):=by
 obtain ⟨out,t,tw,hs,hm,hno,f0,f4,f5,rfl⟩:=hJ
 obtain ⟨hlt,hD,e2⟩:=Qdo ha (by omega)
 have hnm:=List.mem_of_getElem? ha
 have hts:=Qo ha
 have hol:out.length≤1000000:=by
  have:=Qeu (Qpt hs) (m:=c) fun x hx=>List.mem_of_mem_take ((hm x).1 hx)
  omega
 have hneg:=QiM (hb n hnm)
 by_cases h0:n=0
 ·have h0':(n==0)=true:=by simp [h0]
  have hbad:=Qvn hnm (.inl h0)
  refine Qf [(0,.lst 1 (ints c) false),(4,.sl 0 tw 0 1 out.length none),(5,.int .i64 ((i:Nat):Int))] ⟨f0,f4,f5,trivial⟩  14 ?_
  simp -implicitDefEqProofs (disch:=omega) only [go_sem,↓reduceIte,reduceCtorEq,rq,Qb,hlt]
  iterate 9 (try (refine Qc 4 ?_; simp -implicitDefEqProofs (disch:=omega) only [go_sem,↓reduceIte,reduceCtorEq,rq,Qb,true_implies,and_true,lC,hlt,hD,h0]))
  exact .inl ⟨rfl,hbad,rfl,rfl⟩
 have h0':(n==0)=false:=by simpa using h0
 have hH:=QqK (P:=P) (G:=G) hT c (neg n) (by omega)
 have hH2:=QqK (P:=P) (G:=G) hT out n (by omega)
 simp only [row] at hH hH2
 by_cases h1:neg n∈c
 ·have h1':decide (neg n∈c)=true:=by simpa using h1
  have hbad:=Qvn hnm (.inr h1)
  rw [h1'] at hH
  refine Qf [(0,.lst 1 (ints c) false),(4,.sl 0 tw 0 1 out.length none),(5,.int .i64 ((i:Nat):Int))] ⟨f0,f4,f5,trivial⟩  14 ?_
  simp -implicitDefEqProofs (disch:=omega) only [go_sem,↓reduceIte,reduceCtorEq,rq,Qb,hlt]
  iterate 9 (try (refine Qc 2 ?_; simp -implicitDefEqProofs (disch:=omega) only [go_sem,↓reduceIte,reduceCtorEq,rA,rq,Qb,true_implies,and_true,lC,h0',hneg,hlt,hD]))
  refine Qi hT Qk hH (by simp [Qd,nameless]) 4 ?_
  simp -implicitDefEqProofs (disch:=omega) only [go_sem,↓reduceIte,reduceCtorEq,rq]
  iterate 9 (try (refine Qc 4 ?_; simp -implicitDefEqProofs (disch:=omega) only [go_sem,↓reduceIte,reduceCtorEq,rq]))
  exact .inl ⟨rfl,hbad,rfl,rfl⟩
 have h1':decide (neg n∈c)=false:=by simpa using h1
 rw [h1'] at hH
 have hno2:∀ x∈c.take (i+1),x≠0∧neg x ∉ c:=fun x hx=>by
  rw [hts,List.mem_append] at hx
  rcases hx with hx | hx
  ·exact hno x hx
  ·simp at hx; subst hx; exact ⟨h0,h1⟩
 by_cases h2:n∈out
 ·have h2':decide (n∈out)=true:=by simpa using h2
  rw [h2'] at hH2
  have hm2:∀ x,x∈out↔x∈c.take (i+1):=fun x=>by
   rw [hts,List.mem_append,← hm x]
   simp only [List.mem_singleton]
   exact ⟨.inl,fun h=>h.elim id fun e=>e▸h2⟩
  refine Qf [(0,.lst 1 (ints c) false),(4,.sl 0 tw 0 1 out.length none),(5,.int .i64 ((i:Nat):Int))] ⟨f0,f4,f5,trivial⟩  14 ?_
  simp -implicitDefEqProofs (disch:=omega) only [go_sem,↓reduceIte,reduceCtorEq,rq,Qb,hlt]
  iterate 9 (try (refine Qc 2 ?_; simp -implicitDefEqProofs (disch:=omega) only [go_sem,↓reduceIte,reduceCtorEq,rA,rq,Qb,true_implies,and_true,lC,h0',hneg,hlt,hD]))
  refine Qi hT Qk hH (by simp [Qd,nameless]) 4 ?_
  simp -implicitDefEqProofs (disch:=omega) only [go_sem,↓reduceIte,reduceCtorEq,rq]
  iterate 5 (try (refine Qc 4 ?_; simp -implicitDefEqProofs (disch:=omega) only [go_sem,↓reduceIte,reduceCtorEq,rq,Qb,true_implies,and_true,lC,hlt,hD]))
  refine QJ hT Qk hH2 (.cons _ _ _ _ (seen_ints rfl) (.cons _ _ _ _ (.same _ rfl) .nil)) rfl 1000 ?_
  simp -implicitDefEqProofs (disch:=omega) only [go_sem,↓reduceIte,reduceCtorEq,rq]
  refine ⟨_,_,Shift.refl _ _ _ _,out,t,tw,hs,hm2,hno2,?_⟩
  simp -implicitDefEqProofs (disch:=omega) only [go_sem,↓reduceIte,reduceCtorEq,rq,and_true,e2]
 ·have h2':decide (n∈out)=false:=by simpa using h2
  rw [h2'] at hH2
  have w1:=Qwz (q:=out.length) hol
  have hap:ints out++[V.int .i64 n]=ints (out++[n]):=by simp [ints]
  have hne:∀ s∈out,av s≠av n:=fun s hs' e=>by
   obtain ⟨hs0,hs1⟩:=hno s ((hm s).1 hs')
   have hsc:s∈c:=List.mem_of_mem_take ((hm s).1 hs')
   have hsm:s≠mn:=fun e'=>hs1 (by subst e'; exact hsc)
   by_cases e2:s=n
   ·exact h2 (e2▸hs')
   ·have:n=-s:=by unfold av at e; split at e <;> split at e <;> omega
    rw [QdT hsm,← this] at hs1
    exact hs1 hnm
  have hbn:∀ s∈n::out,-9223372036854775808<s∧s≤9223372036854775807:=fun s hs'=>by
   have hk:s∈c∧neg s ∉ c:=by
    rcases List.mem_cons.1 hs' with rfl | hs'
    ·exact ⟨hnm,h1⟩
    ·exact ⟨List.mem_of_mem_take ((hm s).1 hs'),(hno s ((hm s).1 hs')).2⟩
   have hsm:s≠mn:=fun e'=>hk.2 (by subst e'; exact hk.1)
   have:=hb s hk.1
   unfold mn at hsm
   omega
  refine Qf [(0,.lst 1 (ints c) false),(4,.sl 0 tw 0 1 out.length none),(5,.int .i64 ((i:Nat):Int))] ⟨f0,f4,f5,trivial⟩  14 ?_
  simp -implicitDefEqProofs (disch:=omega) only [go_sem,↓reduceIte,reduceCtorEq,rq,Qb,hlt]
  iterate 9 (try (refine Qc 2 ?_; simp -implicitDefEqProofs (disch:=omega) only [go_sem,↓reduceIte,reduceCtorEq,rA,rq,Qb,true_implies,and_true,lC,h0',hneg,hlt,hD]))
  refine Qi hT Qk hH (by simp [Qd,nameless]) 4 ?_
  simp -implicitDefEqProofs (disch:=omega) only [go_sem,↓reduceIte,reduceCtorEq,rq]
  iterate 5 (try (refine Qc 4 ?_; simp -implicitDefEqProofs (disch:=omega) only [go_sem,↓reduceIte,reduceCtorEq,rq,Qb,true_implies,and_true,lC,hlt,hD]))
  refine QJ hT Qk hH2 (.cons _ _ _ _ (seen_ints rfl) (.cons _ _ _ _ (.same _ rfl) .nil)) rfl 1000 ?_
  simp -implicitDefEqProofs (disch:=omega) only [go_sem,↓reduceIte,reduceCtorEq,rq,rL,Qb,true_implies,true_and,and_true,lC,hlt,hD,w1]
  refine QC (rdnJ (t+1) t c i out.length n out) (rdnE (t+1) t c i out.length n out) (m0:=out.length) ⟨out,[],rfl,by simp,by simp,?_⟩ (fun m fr σ hJ=>QpK hT hs hne hbn rfl hol hJ) (fun e fr σ hE=>?_)
  ·rw [← hap]
   simp -implicitDefEqProofs (disch:=omega) only [go_sem,↓reduceIte,reduceCtorEq,rq,and_true]
  ·obtain ⟨rfl,Q,S,hQS,hsr,f0,f4,f5,rfl⟩:=hE
   subst hQS
   have hm2:∀ x,x∈Q++n::S↔x∈c.take (i+1):=fun x=>by
    rw [hts,List.mem_append (s:=c.take i),← hm x,Qp0]
    simp only [List.mem_singleton]
   refine Qc 1000 ?_
   simp -implicitDefEqProofs (disch:=omega) only [go_sem,↓reduceIte,f5]
   refine ⟨_,_,Shift.refl _ _ _ _,Q++n::S,t+1,t,hsr,hm2,hno2,?_⟩
   simp -implicitDefEqProofs (disch:=omega) only [go_sem,↓reduceIte,reduceCtorEq,rq,and_true,lA,lC,f0,f4,e2,Nat.add_assoc]
set_option maxHeartbeats 1000000 in
theorem Qsv (hT:Qj P tab) (c:List Int) (hb:∀ n∈c,-9223372036854775808≤n∧n≤9223372036854775807) (hl:c.length≤1000000):Pure P G Zt [row c] fun u=>u=.tup [row (Qs c).1,.bool (Qs c).2]:=by
 refine QdC (fun t=>?_) (by simp [nameless,Qd,QaP])
 simp only [row]
 refine QF hT Zl (by simp [Xm]) (Qx 1000 ?_)
 simp -implicitDefEqProofs (disch:=omega) only [go_sem,↓reduceIte,reduceCtorEq,rq]
 refine ZL (Shift.own (s:=4) (z:=0) (sz:=1) (T:=3) (by simp -implicitDefEqProofs (disch:=omega) only [go_sem,↓reduceIte,reduceCtorEq,rq]) (by decide)) ?_
 simp -implicitDefEqProofs (disch:=omega) only [go_sem,↓reduceIte,reduceCtorEq,rq,H.push,lN,nA]
 refine XZ c (rcnJ c) (rcnE c) ⟨[],t+1,t,.nil,by simp,by simp,?_⟩ (fun i n ha fr σ hJ=>QpL hT hb hl ha hJ) (fun i hi fr σ hJ=>?_) (fun e fr σ hE=>?_)
 ·simp -implicitDefEqProofs (disch:=omega) only [go_sem,↓reduceIte,reduceCtorEq,rq,true_and]
  simp [ints]
 ·obtain ⟨out,t,tw,hs,hm,hno,f0,f4,f5,rfl⟩:=hJ
  rw [hi,List.take_length] at hm hno
  have hbad:bad c=false:=by
   rw [Bool.eq_false_iff,ne_eq,QfR]
   rintro ⟨n,hn,h⟩
   exact h.elim (hno n hn).1 (hno n hn).2
  have ho:=QmT hbad hs hm
  refine Qf [(0,.lst 1 (ints c) false),(4,.sl 0 tw 0 1 out.length none),(5,.int .i64 ((i:Nat):Int))] ⟨f0,f4,f5,trivial⟩  1000 ?_
  simp -implicitDefEqProofs (disch:=omega) only [go_sem,↓reduceIte,reduceCtorEq,rq,Qb,hi,Nat.lt_irrefl]
  exact .inr ⟨rfl,hbad,t,tw,by rw [ho]; rfl,by rw [ho]⟩
 ·rcases hE with ⟨rfl,hbad,f2,f3⟩ | ⟨rfl,hbad,t,tw,f4,rfl⟩
  ·refine Qc 1000 ?_
   have hcs:Qs c=([],false):=by rw [Qs,if_pos hbad]
   simp -implicitDefEqProofs (disch:=omega) only [go_sem,true_and,f2,f3,hcs]
   exact .inl (.tup _ _ (.cons _ _ _ _ (Qpi _) (.cons _ _ _ _ (.refl _) .nil)))
  ·refine Qc 1000 ?_
   have hcs:Qs c=(canon c,true):=by rw [Qs,if_neg (by simp [hbad])]
   simp -implicitDefEqProofs (disch:=omega) only [go_sem,↓reduceIte,rq,f4,hcs]
   refine ⟨0,tw,_,ints (canon c),rfl,Xq _,?_,?_⟩
   ·simp only [YU,Qgd] at *
    have:=Qlr (k:=0) (w:=tw) (T:=0) (l:=canon c)
    simp only [YU] at this
    rw [this]
    simp [nameless,Qd,QaP]
   ·have:=Qlr (k:=0) (w:=tw) (T:=0) (l:=canon c)
    simp only [YU,Qgd] at this ⊢
    rw [this]
    exact .refl _
end
section
attribute [local go_sem] nF nT lM lR Nat.mul_one zA zL and_true decide_true Qb Qt Qd7 Qd6 Qd5 Qd4 Qd3 Qd2 true_and true_implies
def uR (tf tw tl:Nat) (v:Int) (F:List (List Int)) (S L:List Int):List (Option Ob) :=
 [some (.arr tf 28 [.int .i64 v,.lst 1 (F.map row) false]),some (.arr tw 3 (ints S)),some (.arr tl 3 (ints L))]
abbrev rkJ (tf tw:Nat) (v:Int) (F:List (List Int)) (S c:List Int) (ag:Bool) (i:Nat):Nat→Fr→H→Prop:=fun k fr σ=>∃ t tl L hd,L=Ze S (c.take k)∧hd=((c.take k).any fun n=>decide (n∈S))∧Qg fr 1=.ptr 0 tf 0∧Qg fr 4=.sl 1 tw 0 1 S.length none∧Qg fr 5=.bool ag∧Qg fr 6=.int .i64 ((i:Nat):Int)∧Qg fr 7=.bool hd∧Qg fr 8=.sl 2 tl 0 1 L.length none∧Qg fr 9=.int .i64 ((k:Nat):Int)∧σ=⟨t,uR tf tw tl v F S L⟩
abbrev rkE (tf tw:Nat) (v:Int) (F:List (List Int)) (S c:List Int) (ag:Bool) (i:Nat):AE→Fr→H→Prop:=fun e fr σ=>∃ t tl L hd,e=.ex 4∧L=Ze S c∧hd=(c.any fun n=>decide (n∈S))∧Qg fr 1=.ptr 0 tf 0∧Qg fr 4=.sl 1 tw 0 1 S.length none∧Qg fr 5=.bool ag∧Qg fr 6=.int .i64 ((i:Nat):Int)∧Qg fr 7=.bool hd∧Qg fr 8=.sl 2 tl 0 1 L.length none∧σ=⟨t,uR tf tw tl v F S L⟩
set_option maxHeartbeats 2000000 in
theorem QrL (hT:Qj P tab) {tf tw:Nat} {v:Int} {F:List (List Int)} {S c:List Int} {ag:Bool} {i:Nat} (hci:F[i]?=some c) (hF:F.length≤1000) (hcl:c.length≤1000) (hSl:S.length≤1000000) (hb:∀ n∈c,-16777216≤n∧n≤16777216)
 {k:Nat} {n:Int} (hn:c[k]?=some n) {fr:Fr} {σ:H} (hJ:rkJ tf tw v F S c ag i k fr σ) :
 W P G 129 0 (.seq (zg Qd7 [24,25,26,27,28,29,30] (zw 31 .skip (.exit 4))) (.seq (.block 5 (zg Qd6 [34,35,36,37,38,39,40,41] (zg Qd5 [42,43,44,45,46,47] (zg Qd4 [48,49,50,51,52,53,54,55,56,57,58,59,60,61,62,63] (zw 64 (.reg Qd3 [65,66,67,68]) .skip))))) (.reg Qd2 [32,33]))) fr σ (Y9 (fun fr σ=>∃ fr' σ',Shift G 129 0 fr σ fr' σ'∧rkJ tf tw v F S c ag i (k+1) fr' σ') (rkE tf tw v F S c ag i)):=by
 obtain ⟨t,tl,L,hd,hL,hhd,f1,f4,f5,f6,f7,f8,f9,rfl⟩:=hJ
 obtain ⟨hlt,hD,_⟩:=Qeg hci (by omega)
 obtain ⟨hlt2,hD2,e3⟩:=Qdo hn (by omega)
 have hts:=Qo hn
 have hnm:=List.mem_of_getElem? hn
 have hbn:=hb n hnm
 have hneg:IntKind.i64.wrap (0 - n)=-n:=by rw [QjA (by omega)]; omega
 have hLl:L.length≤1000:=by
  have:=QjZ (S:=S) (c.take k)
  rw [hL]; rw [List.length_take] at this; omega
 have h1:=QqK (P:=P) (G:=G) hT S n (by omega)
 have h2:=QqK (P:=P) (G:=G) hT S (-n) (by omega)
 have h3:=QqK (P:=P) (G:=G) hT L n (by omega)
 have hhd2:((c.take (k+1)).any fun n=>decide (n∈S))=(hd || decide (n∈S)):=by rw [hts,List.any_append,← hhd]; simp
 have hL2:Ze S (c.take (k+1))=if -n ∉ S∧n ∉ S∧n ∉ L then L++[n] else L:=by rw [hts,Qfn,← hL]
 have hap:ints L++[V.int .i64 n]=ints (L++[n]):=by simp [ints]
 have hLn:L.length+1=(L++[n]).length:=by simp
 simp only [row] at h1 h2 h3
 cases hd
 ·cases g1:decide (n∈S) <;> cases g2:decide (-n∈S) <;> cases g3:decide (n∈L) <;> rw [g1] at h1 hhd2 <;> rw [g2] at h2 <;> rw [g3] at h3 <;> simp only [Bool.or_false,Bool.or_true] at hhd2 <;> simp only [decide_eq_true_eq,decide_eq_false_iff_not] at g1 g2 g3 <;> simp only [g1,g2,g3,not_true_eq_false,not_false_eq_true,and_true,and_false,↓reduceIte] at hL2
  all_goals (
   refine Qf [(1,.ptr 0 tf 0),(4,.sl 1 tw 0 1 S.length none),(5,.bool ag),(6,.int .i64 ((i:Nat):Int)),(7,.bool false),(8,.sl 2 tl 0 1 L.length none),(9,.int .i64 ((k:Nat):Int))] ⟨f1,f4,f5,f6,f7,f8,f9,trivial⟩  14 ?_
   simp -implicitDefEqProofs (disch:=omega) only [go_sem,↓reduceIte,rA,rq,uR,hlt,hD,hlt2]
   iterate 9 (try (refine Qc 4 ?_; simp -implicitDefEqProofs (disch:=omega) only [go_sem,↓reduceIte,rA,rq,hlt,hD,hlt2,hD2]))
   refine QJ hT Qk h1 (.cons _ _ _ _ (seen_ints rfl) (.cons _ _ _ _ (.same _ rfl) .nil)) rfl 4 ?_
   simp -implicitDefEqProofs (disch:=omega) only [go_sem,↓reduceIte,rq]
   iterate 9 (try (refine Qc 4 ?_; simp -implicitDefEqProofs (disch:=omega) only [go_sem,↓reduceIte,rq,hneg]))
   refine QJ hT Qk h2 (.cons _ _ _ _ (seen_ints rfl) (.cons _ _ _ _ (.same _ rfl) .nil)) rfl 4 ?_
   simp -implicitDefEqProofs (disch:=omega) only [go_sem,↓reduceIte,rA,rq]
   iterate 9 (try (refine Qc 4 ?_; simp -implicitDefEqProofs (disch:=omega) only [go_sem,↓reduceIte,rA,rq]))
   try (refine QJ hT Qk h1 (.cons _ _ _ _ (seen_ints rfl) (.cons _ _ _ _ (.same _ rfl) .nil)) rfl 4 ?_; simp -implicitDefEqProofs (disch:=omega) only [go_sem,↓reduceIte,rA,rq]; iterate 9 (try (refine Qc 4 ?_; simp -implicitDefEqProofs (disch:=omega) only [go_sem,↓reduceIte,rA,rq])))
   try (refine QJ hT Qk h3 (.cons _ _ _ _ (seen_ints rfl) (.cons _ _ _ _ (.same _ rfl) .nil)) rfl 4 ?_; simp -implicitDefEqProofs (disch:=omega) only [go_sem,↓reduceIte,rA,rq]; iterate 9 (try (refine Qc 4 ?_; simp -implicitDefEqProofs (disch:=omega) only [go_sem,↓reduceIte,reduceCtorEq,rq,rL])))
   first | (refine ⟨_,_,Shift.refl _ _ _ _,t,tl,L,_,hL2.symm,hhd2.symm,?_⟩; simp -implicitDefEqProofs (disch:=omega) only [go_sem,↓reduceIte,rq,uR,e3]; done) | (refine ⟨_,_,Shift.refl _ _ _ _,t+1,t,L++[n],_,hL2.symm,hhd2.symm,?_⟩; simp -implicitDefEqProofs (disch:=omega) only [go_sem,↓reduceIte,rq,uR,e3,hap,lA]; done))
 ·cases g1:decide (n∈S) <;> cases g2:decide (-n∈S) <;> cases g3:decide (n∈L) <;> rw [g1] at h1 hhd2 <;> rw [g2] at h2 <;> rw [g3] at h3 <;> simp only [Bool.or_false,Bool.or_true] at hhd2 <;> simp only [decide_eq_true_eq,decide_eq_false_iff_not] at g1 g2 g3 <;> simp only [g1,g2,g3,not_true_eq_false,not_false_eq_true,and_true,and_false,↓reduceIte] at hL2
  all_goals (
   refine Qf [(1,.ptr 0 tf 0),(4,.sl 1 tw 0 1 S.length none),(5,.bool ag),(6,.int .i64 ((i:Nat):Int)),(7,.bool true),(8,.sl 2 tl 0 1 L.length none),(9,.int .i64 ((k:Nat):Int))] ⟨f1,f4,f5,f6,f7,f8,f9,trivial⟩  14 ?_
   simp -implicitDefEqProofs (disch:=omega) only [go_sem,↓reduceIte,rA,rq,uR,hlt,hD,hlt2]
   iterate 9 (try (refine Qc 4 ?_; simp -implicitDefEqProofs (disch:=omega) only [go_sem,↓reduceIte,rA,rq,hlt,hD,hlt2,hD2,hneg]))
   refine QJ hT Qk h2 (.cons _ _ _ _ (seen_ints rfl) (.cons _ _ _ _ (.same _ rfl) .nil)) rfl 4 ?_
   simp -implicitDefEqProofs (disch:=omega) only [go_sem,↓reduceIte,rA,rq]
   iterate 9 (try (refine Qc 4 ?_; simp -implicitDefEqProofs (disch:=omega) only [go_sem,↓reduceIte,rA,rq]))
   try (refine QJ hT Qk h1 (.cons _ _ _ _ (seen_ints rfl) (.cons _ _ _ _ (.same _ rfl) .nil)) rfl 4 ?_; simp -implicitDefEqProofs (disch:=omega) only [go_sem,↓reduceIte,rA,rq]; iterate 9 (try (refine Qc 4 ?_; simp -implicitDefEqProofs (disch:=omega) only [go_sem,↓reduceIte,rA,rq])))
   try (refine QJ hT Qk h3 (.cons _ _ _ _ (seen_ints rfl) (.cons _ _ _ _ (.same _ rfl) .nil)) rfl 4 ?_; simp -implicitDefEqProofs (disch:=omega) only [go_sem,↓reduceIte,rA,rq]; iterate 9 (try (refine Qc 4 ?_; simp -implicitDefEqProofs (disch:=omega) only [go_sem,↓reduceIte,reduceCtorEq,rq,rL])))
   first | (refine ⟨_,_,Shift.refl _ _ _ _,t,tl,L,_,hL2.symm,hhd2.symm,?_⟩; simp -implicitDefEqProofs (disch:=omega) only [go_sem,↓reduceIte,rq,uR,e3]; done) | (refine ⟨_,_,Shift.refl _ _ _ _,t+1,t,L++[n],_,hL2.symm,hhd2.symm,?_⟩; simp -implicitDefEqProofs (disch:=omega) only [go_sem,↓reduceIte,rq,uR,e3,hap,lA]; done))
end
section
attribute [local go_sem] nF nT aZ lR Nat.mul_one zA zL decide_false decide_true Qt QgP QgO Qd7 Qd6 Qd5 Qd4 Qd3 Qd2 QgN QgM QgL QgK QgJ QgI Qjt Qjs
def uR0 (tf tw:Nat) (v:Int) (F:List (List Int)) (S:List Int):List (Option Ob) :=
 [some (.arr tf 28 [.int .i64 v,.lst 1 (F.map row) false]),some (.arr tw 3 (ints S))]
abbrev rpJ (tf:Nat) (v:Int) (F:List (List Int)) (S:List Int):Nat→Fr→H→Prop:=fun i fr σ=>∃ S1 t tw,ZY S (F.take i)=some S1∧Inv F S1∧S.length≤S1.length∧Qg fr 1=.ptr 0 tf 0∧Qg fr 4=.sl 1 tw 0 1 S1.length none∧Qg fr 5=.bool (decide (S.length<S1.length))∧Qg fr 6=.int .i64 ((i:Nat):Int)∧σ=⟨t,uR0 tf tw v F S1⟩
abbrev rpE (tf:Nat) (v:Int) (F:List (List Int)) (S:List Int):AE→Fr→H→Prop:=fun e fr σ=>(e=.ret∧ZY S F=none∧Qg fr 2=.lst 0 [] true∧Qg fr 3=.bool false) ∨
 (e=.ex 2∧∃ S1 t tw,ZY S F=some S1∧Inv F S1∧S.length≤S1.length∧Qg fr 1=.ptr 0 tf 0∧Qg fr 4=.sl 1 tw 0 1 S1.length none∧Qg fr 5=.bool (decide (S.length<S1.length))∧σ=⟨t,uR0 tf tw v F S1⟩)
set_option maxHeartbeats 2000000 in
theorem QrJ (hT:Qj P tab) {tf:Nat} {v:Int} {F:List (List Int)} {S:List Int} (hF:F.length≤1000) (hc:∀ c∈F,c.length≤1000) (hz:Nz F) (hrt:∀ c∈F,∀ n∈c,-16777216≤n∧n≤16777216) {i:Nat} {c:List Int} (hci:F[i]?=some c) {fr:Fr} {σ:H} (hJ:rpJ tf v F S i fr σ) :
 W P G 129 0 (.seq (zg Qjt [17,18,19,20] (zw 21 .skip (.exit 2))) (.seq (.block 3 (zg Qjs [] (zg QgP [] (.seq (zg QgO [] (.block 4 (.loop (.seq (zg Qd7 [24,25,26,27,28,29,30] (zw 31 .skip (.exit 4))) (.seq (.block 5 (zg Qd6 [34,35,36,37,38,39,40,41] (zg Qd5 [42,43,44,45,46,47] (zg Qd4 [48,49,50,51,52,53,54,55,56,57,58,59,60,61,62,63] (zw 64 (.reg Qd3 [65,66,67,68]) .skip))))) (.reg Qd2 [32,33])))))) (.seq (zg QgN [69,70,71,72,73,74] (zw 75 (zg QgM [] .ret) .skip)) (zg QgL [76,77,78,79,80,81] (zw 82 (zg QgK [83,84,85,86,87,88] (.reg QgJ [])) .skip))))))) (.reg QgI [22,23]))) fr σ (Y9 (fun fr σ=>∃ fr' σ',Shift G 129 0 fr σ fr' σ'∧rpJ tf v F S (i+1) fr' σ') (rpE tf v F S)):=by
 obtain ⟨S1,t,tw,hp,hI,hle,f1,f4,f5,f6,rfl⟩:=hJ
 obtain ⟨hlt,hD,e2⟩:=Qeg hci (by omega)
 have hcm:=List.mem_of_getElem? hci
 have hSl:S1.length≤1000000:=by
  have h1:=hI.len
  have h2:=QgA hc
  have h3:F.length * 1000≤1000 * 1000:=Nat.mul_le_mul_right _ hF
  omega
 have hps:=Qbp (S:=S) hci hp
 have hst:=Qnf (S:=S1) (c:=c)
 have hLl:=QjZ (S:=S1) c
 have hcl:=hc c hcm
 refine Qf [(1,.ptr 0 tf 0),(4,.sl 1 tw 0 1 S1.length none),(5,.bool (decide (S.length<S1.length))),(6,.int .i64 ((i:Nat):Int))] ⟨f1,f4,f5,f6,trivial⟩  1000 ?_
 simp -implicitDefEqProofs (disch:=omega) only [go_sem,↓reduceIte,rA,rq,uR0,lM,true_implies,and_true,hlt]
 refine ZL (Shift.own (s:=8) (z:=0) (sz:=1) (T:=3) (by simp -implicitDefEqProofs (disch:=omega) only [go_sem,↓reduceIte,rq]) (by decide)) ?_
 simp -implicitDefEqProofs (disch:=omega) only [go_sem,↓reduceIte,rA,rq,H.push,lC,lN,cA,nA]
 refine XZ c (rkJ tf tw v F S1 c (decide (S.length<S1.length)) i) (rkE tf tw v F S1 c (decide (S.length<S1.length)) i) ⟨t+1,t,[],false,by simp [Ze],by simp,?_⟩ (fun k n hn fr σ hJ=>QrL hT hci hF hcl hSl (hrt c hcm) hn hJ) (fun k hk fr σ hJ=>?_) (fun e fr σ hE=>?_)
 ·simp -implicitDefEqProofs (disch:=omega) only [go_sem,↓reduceIte,rq,true_and,uR]
  simp [ints]
 ·obtain ⟨t,tl,L,hd,hL,hhd,f1,f4,f5,f6,f7,f8,f9,rfl⟩:=hJ
  rw [hk,List.take_length] at hL hhd
  refine Qf [(1,.ptr 0 tf 0),(4,.sl 1 tw 0 1 S1.length none),(5,.bool (decide (S.length<S1.length))),(6,.int .i64 ((i:Nat):Int)),(7,.bool hd),(8,.sl 2 tl 0 1 L.length none),(9,.int .i64 ((k:Nat):Int))] ⟨f1,f4,f5,f6,f7,f8,f9,trivial⟩ 1000 ?_
  simp -implicitDefEqProofs (disch:=omega) only [go_sem,↓reduceIte,rA,rq,lM,Qb,true_implies,and_true,uR,hlt,hD,hk,Nat.lt_irrefl]
  exact ⟨t,tl,L,hd,rfl,hL,hhd,rfl,rfl,rfl,rfl,rfl,rfl,rfl⟩
 ·obtain ⟨t,tl,L,hd,rfl,hL,hhd,f1,f4,f5,f6,f7,f8,rfl⟩:=hE
  rw [← hhd,← hL] at hst
  have hdrop:∀ S2 tw2,YF (uR0 tf tw2 v F S2) (uR tf tw2 tl v F S2 L):=fun S2 tw2=>by simp [YF,uR0,uR]
  cases hd with
  | true =>
    rw [if_pos rfl] at hst
    refine QQ [(1,.ptr 0 tf 0),(4,.sl 1 tw 0 1 S1.length none),(5,.bool (decide (S.length<S1.length))),(6,.int .i64 ((i:Nat):Int)),(7,.bool true),(8,.sl 2 tl 0 1 L.length none)] ⟨f1,f4,f5,f6,f7,f8,trivial⟩  14 ?_
    simp -implicitDefEqProofs (disch:=omega) only [go_sem,↓reduceIte,rq,uR]
    iterate 9 (try (refine Qc 4 ?_; simp -implicitDefEqProofs (disch:=omega) only [go_sem,↓reduceIte,rq]))
    refine ⟨_,_,Shift.drop (o':=uR0 tf tw v F S1) (t':=t) (hdrop _ _) (lR _) (zL _),S1,t,tw,by rw [hps,hst],hI,hle,?_⟩
    simp -implicitDefEqProofs (disch:=omega) only [go_sem,↓reduceIte,rq,uR0,and_true,e2]
  | false =>
    rw [if_neg (by simp)] at hst
    by_cases h0:L.length=0
    ·have h0':((L.length:Int)==0)=true:=by simp [h0]
     rw [if_pos h0] at hst
     have hno:=Qie hci hp hst
     refine QQ [(1,.ptr 0 tf 0),(4,.sl 1 tw 0 1 S1.length none),(5,.bool (decide (S.length<S1.length))),(6,.int .i64 ((i:Nat):Int)),(7,.bool false),(8,.sl 2 tl 0 1 L.length none)] ⟨f1,f4,f5,f6,f7,f8,trivial⟩  14 ?_
     simp -implicitDefEqProofs (disch:=omega) only [go_sem,↓reduceIte,rA,rq,uR,h0']
     iterate 9 (try (refine Qc 4 ?_; simp -implicitDefEqProofs (disch:=omega) only [go_sem,↓reduceIte,rq]))
     exact .inl ⟨rfl,hno,rfl,rfl⟩
    ·have h0':((L.length:Int)==0)=false:=by rw [beq_eq_false_iff_ne]; omega
     rw [if_neg h0] at hst
     by_cases h1:L.length=1
     ·have h1':((L.length:Int)==1)=true:=by simp [h1]
      rw [if_pos h1] at hst
      obtain ⟨a,ha⟩:=List.length_eq_one_iff.1 h1
      have hg:L.getD 0 0=a:=by rw [ha]; rfl
      have hD0:(ints L).getD 0 V.any=.int .i64 a:=by rw [ha]; rfl
      rw [hg] at hst
      have hap:ints S1++[V.int .i64 a]=ints (S1++[a]):=by simp [ints]
      have hdec:decide (S.length<(S1++[a]).length)=true:=by simp; omega
      have hI2:=((QgZ hz hI hcm).2 _ hst).1
      have h1l:0<L.length:=by omega
      refine QQ [(1,.ptr 0 tf 0),(4,.sl 1 tw 0 1 S1.length none),(5,.bool (decide (S.length<S1.length))),(6,.int .i64 ((i:Nat):Int)),(7,.bool false),(8,.sl 2 tl 0 1 L.length none)] ⟨f1,f4,f5,f6,f7,f8,trivial⟩  14 ?_
      simp -implicitDefEqProofs (disch:=omega) only [go_sem,↓reduceIte,rA,rq,uR,h0']
      iterate 16 (try (refine Qc 4 ?_; simp -implicitDefEqProofs (disch:=omega) only [go_sem,↓reduceIte,reduceCtorEq,rA,rq,rL,Int.reduceToNat,Int.reduceLE,Qb,true_implies,true_and,and_true,h1',hD0,hap]))
      refine ⟨_,_,Shift.drop (o':=uR0 tf t v F (S1++[a])) (t':=t+1) (hdrop _ _) (lR _) (zL _),S1++[a],t+1,t,by rw [hps,hst],hI2,by simp; omega,?_⟩
      rw [hdec]
      simp -implicitDefEqProofs (disch:=omega) only [go_sem,↓reduceIte,rq,uR0,and_true,e2,lA]
     ·have h1':((L.length:Int)==1)=false:=by rw [beq_eq_false_iff_ne]; omega
      rw [if_neg h1] at hst
      refine QQ [(1,.ptr 0 tf 0),(4,.sl 1 tw 0 1 S1.length none),(5,.bool (decide (S.length<S1.length))),(6,.int .i64 ((i:Nat):Int)),(7,.bool false),(8,.sl 2 tl 0 1 L.length none)] ⟨f1,f4,f5,f6,f7,f8,trivial⟩  14 ?_
      simp -implicitDefEqProofs (disch:=omega) only [go_sem,↓reduceIte,rA,rq,uR,h0']
      iterate 16 (try (refine Qc 4 ?_; simp -implicitDefEqProofs (disch:=omega) only [go_sem,↓reduceIte,rA,rq,h1']))
      refine ⟨_,_,Shift.drop (o':=uR0 tf tw v F S1) (t':=t) (hdrop _ _) (lR _) (zL _),S1,t,tw,by rw [hps,hst],hI,hle,?_⟩
      simp -implicitDefEqProofs (disch:=omega) only [go_sem,↓reduceIte,rq,uR0,and_true,e2]
end
end Go.Proofs.Ytingdebioipemaa
