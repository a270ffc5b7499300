/- Plain: the document's words of instructions that are decoded. -/
import Derived.Test.YtaidbdgndljaeaaGreatDoorJ7
import Derived.Test.YtaidbdgndljaeaaGreatDoorJ1
import Derived.Test.YtaidbdgndljaeaaGreatDoorJ6
import Derived.Test.YtaidbdgndljaeaaGreatDoorJ4
open Nat renaming reduceEqDiff → rq, reduceAdd → rA, reduceLeDiff → rL, reduceLT → rT, zero_add → zA, le_refl → lR, zero_le → zL, add_zero → aZ
open List renaming length_cons → lC, length_nil → lN, take_succ_cons → tS, length_append → lA, nil_append → nA, cons_append → cA, append_assoc → aA, take_nil → tN, take_zero → tZ, length_map → lM
open Bool renaming not_false → nF, not_true → nT
namespace Go.Rg
open Go Go.Am Go.Rv
set_option maxRecDepth 100000
set_option maxHeartbeats 2000000
def Dec (c:List In):Prop:=∀ x∈c,x=zeroI∨((enc T x).2=0∧1≤x.op)
theorem Qrs {w:Int} (h0:0≤w) (h1:w<4294967296) {x:In} (h:dec w=some x):(enc T x).2=0∧1≤x.op:=by
 obtain ⟨k,r,hk,hi,rfl⟩:=QiZ h
 rw [zA,enc_mk h0 h1 hk hi]
 refine ⟨rfl,?_⟩
 show (1:Int)≤(k:Int)+1
 omega
theorem Qsh {ws:List Int} (h:∀ w∈ws,0≤w∧w<4294967296):Dec (codeOf ws):=fun x hx=>by
 obtain ⟨w,hw,rfl⟩:=List.mem_map.1 hx
 cases hd:dec w with
 | none=>exact .inl rfl
 | some y=>exact .inr (Qrs (h w hw).1 (h w hw).2 hd)
theorem Qnc {c:List In} {i:Int} {x:In} (h:nth c i=some x):x∈c:=by
 obtain ⟨k,rfl,hk⟩:=Qkp h
 exact List.mem_of_getElem? hk
section
variable {x:In}
theorem Qnm {x:In} {k:Nat} {r:RR} (h:(enc T x).2=0) (hop:x.op=(k:Int)+1) (hr:T[k]?=some r) :
 ¬ (x.rd > 31∨x.rs1 > 31∨x.rs2 > 31∨(QW r.form=false∧x.rd≠0)∨(Q1 r.form=false∧x.rs1≠0)∨(Q5 r.form=false∧x.rs2≠0)∨((r.form=82∨r.form=69)∧x.imm≠0)):=by
 have hk:(x.op - 1).toNat=k:=by omega
 have hl:=(List.getElem?_eq_some_iff.1 hr).1
 unfold enc at h
 rw [if_pos (by omega),hk,hr] at h
 simp only at h
 intro hc
 rw [if_pos hc] at h
 simp at h
theorem f4 (h:(enc T x).2=0) (ho:x.op=4):x.rs2=0:=by
 have:=Qnm (k:=3) h (by omega) rfl
 simp [QW,Q1,Q5] at this
 omega
theorem f22 (h:(enc T x).2=0) (ho:x.op=22):x.rs2=0:=by
 have:=Qnm (k:=21) h (by omega) rfl
 simp [QW,Q1,Q5] at this
 omega
theorem f14 (h:(enc T x).2=0) (ho:x.op=14):x.rs2=0:=by
 have:=Qnm (k:=13) h (by omega) rfl
 simp [QW,Q1,Q5] at this
 omega
theorem f64 (h:(enc T x).2=0) (ho:x.op=64):x.rd=0∧x.rs1=0∧x.rs2=0∧x.imm=0:=by
 have:=Qnm (k:=63) h (by omega) rfl
 simp [QW,Q1,Q5] at this
 omega
end
def bk (c:List In) (i:Int):Bool:=match nth c i with
 | none=>false
 | some x=>decide (x.op=4)&&(decide (x.rd=0)&&(decide (x.rs1=1)&&decide (x.imm=0)))
variable {c:List In}
theorem bk_is (hd:Dec c) (i:Int):bk c i=isI c i jr:=by
 unfold bk isI
 cases h:nth c i with
 | none=>simp
 | some x =>
   have hx:=hd x (Qnc h)
   obtain ⟨a,b,e,d,f⟩:=x
   rw [Bool.eq_iff_iff]
   simp only [jr,Bool.and_eq_true,decide_eq_true_eq,Option.some.injEq,In.mk.injEq]
   constructor
   ·rintro ⟨rfl,rfl,rfl,rfl⟩
    rcases hx with hx | ⟨hx,_⟩
    ·simp [zeroI] at hx
    ·exact ⟨rfl,rfl,rfl,f4 hx rfl,rfl⟩
   ·rintro ⟨rfl,rfl,rfl,rfl,rfl⟩; exact ⟨rfl,rfl,rfl,rfl⟩
def rst (c:List In) (F i:Int):Bool:=match nth c i with
 | none=>false
 | some x=>!decide (F=0)&&(isI c (i+1) jr&&(decide (x.op=22)&&(decide (x.rd=2)&&(decide (x.rs1=2)&&decide (x.imm=F)))))
variable {F:Int}
theorem rst_is (hd:Dec c) (hF:0≤F) (i:Int):rst c F i=XS c F i:=by
 unfold rst XS
 cases h:nth c i with
 | none =>
   have:isI c i (QH 2 2 F)=false:=by unfold isI; rw [h]; simp
   simp [this]
 | some x =>
   have hx:=hd x (Qnc h)
   have he:isI c i (QH 2 2 F)=(decide (x.op=22)&&(decide (x.rd=2)&&(decide (x.rs1=2)&&decide (x.imm=F)))):=by
    unfold isI
    rw [h]
    obtain ⟨a,b,e,d,f⟩:=x
    rw [Bool.eq_iff_iff]
    simp only [QH,Bool.and_eq_true,decide_eq_true_eq,Option.some.injEq,In.mk.injEq]
    constructor
    ·rintro ⟨rfl,rfl,rfl,rfl,rfl⟩; exact ⟨rfl,rfl,rfl,rfl⟩
    ·rintro ⟨rfl,rfl,rfl,rfl⟩
     rcases hx with hx | ⟨hx,_⟩
     ·simp [zeroI] at hx
     ·exact ⟨rfl,rfl,rfl,f22 hx rfl,rfl⟩
   rw [he]
   have:(!decide (F=0))=decide (0<F):=by rw [Bool.eq_iff_iff]; simp; omega
   rw [this]
   simp only
   rw [Bool.and_comm (isI c (i+1) jr)]
def Qpa (c:List In) (i:Int):Bool:=match nth c i with
 | none=>false
 | some y=>decide (y.op=64)&&(match nth c (i - 1) with
   | none=>false
   | some x=>decide (x.op=22)&&(decide (x.rd=17)&&(decide (x.rs1=0)&&(decide (x.imm=3) || decide (x.imm=4)))))
theorem QyL (hd:Dec c) (i:Int):Qpa c i=QyK c i:=by
 unfold Qpa QyK
 cases h:nth c i with
 | none =>
   have:isI c i Qbe=false:=by unfold isI; rw [h]; simp
   simp [this]
 | some y =>
   have hy:=hd y (Qnc h)
   have he:isI c i Qbe=decide (y.op=64):=by
    unfold isI
    rw [h]
    obtain ⟨a,b,e,d,f⟩:=y
    rw [Bool.eq_iff_iff]
    simp only [Qbe,decide_eq_true_eq,Option.some.injEq,In.mk.injEq]
    constructor
    ·rintro ⟨rfl,rfl,rfl,rfl,rfl⟩; rfl
    ·rintro rfl
     rcases hy with hy | ⟨hy,_⟩
     ·simp [zeroI] at hy
     ·obtain ⟨h1,h2,h3,h4⟩:=f64 hy rfl
      exact ⟨rfl,h1,h2,h3,h4⟩
   rw [he]
   simp only
   cases h1:nth c (i - 1) with
   | none=>simp [isI,h1]
   | some x =>
     have hx:=hd x (Qnc h1)
     have hq:∀ n,isI c (i - 1) (QH 17 0 n)=(decide (x.op=22)&&(decide (x.rd=17)&&(decide (x.rs1=0)&&decide (x.imm=n)))):=fun n=>by
      unfold isI
      rw [h1]
      obtain ⟨a,b,e,d,f⟩:=x
      rw [Bool.eq_iff_iff]
      simp only [QH,Bool.and_eq_true,decide_eq_true_eq,Option.some.injEq,In.mk.injEq]
      constructor
      ·rintro ⟨rfl,rfl,rfl,rfl,rfl⟩; exact ⟨rfl,rfl,rfl,rfl⟩
      ·rintro ⟨rfl,rfl,rfl,rfl⟩
       rcases hx with hx | ⟨hx,_⟩
       ·simp [zeroI] at hx
       ·exact ⟨rfl,rfl,rfl,f22 hx rfl,rfl⟩
     rw [hq,hq]
     simp only
     generalize decide (x.op=22)=a
     generalize decide (x.rd=17)=b
     generalize decide (x.rs1=0)=e
     generalize decide (x.imm=3)=f
     generalize decide (x.imm=4)=g
     generalize decide (y.op=64)=d
     cases a <;> cases b <;> cases e <;> cases f <;> cases g <;> cases d <;> rfl
def baseD (x:In):Bool:=(decide (x.op=14) || (decide (x.op=21) || decide (x.op=10)))&&(decide (x.rs1=2)&&!(decide (x.rs2=2)&&!decide (x.op=14)))
theorem QFX {x:In} (h:(2:Int)∈rds x):x.rs1=2∨x.rs2=2:=by
 unfold rds Qeb at h
 split at h
 ·rw [List.mem_append] at h
  rcases h with h | h
  ·split at h
   ·simp at h; omega
   ·simp at h
  ·split at h
   ·simp at h; omega
   ·simp at h
 ·simp at h
theorem Qva {i:Nat} {x:In} (hx:x=zeroI∨((enc T x).2=0∧1≤x.op)) :
 QaH c F i x=((decide (i=0)&&decide (0<F)) || XS c F i || (!decide (wrs x=(2,true))&&(!decide ((2:Int)∈rds x) || baseD x))):=by
 unfold QaH
 by_cases hr:(2:Int)∈rds x
 ·have h2:=QFX hr
  rcases hx with rfl | ⟨he,_⟩
  ·simp [zeroI] at h2
  ·congr 3
   unfold baseD
   by_cases h14:x.op=14
   ·have:=f14 he h14
    rw [if_pos h14]
    have h1:x.rs1=2:=by omega
    simp [h14,h1]
   ·rw [if_neg h14]
    by_cases h21:x.op=21∨x.op=10
    ·rw [if_pos h21]
     rcases h21 with h | h
     ·by_cases h5:x.rs2=2
      ·simp [h,h5]
      ·have:x.rs1=2:=by omega
       simp [h,h5,this]
     ·by_cases h5:x.rs2=2
      ·simp [h,h5]
      ·have:x.rs1=2:=by omega
       simp [h,h5,this]
    ·rw [if_neg h21]
     have h1:x.op≠21:=fun e=>h21 (.inl e)
     have h3:x.op≠10:=fun e=>h21 (.inr e)
     simp [h14,h1,h3]
 ·simp [hr]
def goD (x:In) (i:Int) (to:Nat):Bool:=(Yh x&&decide ((to:Int)=tgt x i)) || (decide ((to:Int)=i+1)&&!(decide (x.op=3)&&decide (x.rd=0)))
def upD (x:In) (i:Int) (n:Nat):List Int:=((List.range n).filter fun to=>goD x i to).map fun k:Nat=>(k:Int)
theorem Qw5 (x:In) (i:Int) (n:Nat):upD x i (n+1)=upD x i n++if goD x i n then [(n:Int)] else []:=by
 unfold upD
 rw [List.range_succ,List.filter_append,List.map_append]
 congr 1
 by_cases h:goD x i n=true <;> simp [h]
theorem QFJ (x:In) (i:Int) (n:Nat):(upD x i n).length≤n:=by
 unfold upD
 have:=List.length_filter_le (fun to=>goD x i to) (List.range n)
 simpa using this
theorem two_lt (a b:Int):(two a b).Pairwise (·<·):=by
 unfold two
 split
 ·simpa
 ·split
  ·simpa
  ·simp
theorem upD_is (c:List In) (x:In) (i:Int):upD x i c.length=(ways x i).filter fun k=>!(decide (k<0) || decide ((c.length:Int)≤k)):=by
 refine QvR _ _ ?_ ?_ fun k=>?_
 ·unfold upD
  rw [List.pairwise_map]
  exact (List.pairwise_lt_range.filter _).imp fun h=>by omega
 ·refine List.Pairwise.filter _ ?_
  unfold ways
  split
  ·exact two_lt _ _
  ·split <;> simp
 ·have hb:Xd x=true→Yh x=true:=fun h=>by unfold Yh; rw [h]; rfl
  have hw:k∈ways x i↔(Yh x=true∧k=tgt x i)∨(k=i+1∧¬ (x.op=3∧x.rd=0)):=by
   unfold ways
   by_cases h1:Xd x=true
   ·rw [if_pos h1,QvB]
    have:¬ (x.op=3∧x.rd=0):=fun h=>by unfold Xd at h1; simp [h.1] at h1
    simp [hb h1,this]
   ·rw [if_neg h1]
    by_cases h2:Yh x=true
    ·rw [if_pos h2]
     have h3:x.op=3∧x.rd=0:=by unfold Yh at h2; simpa [h1] using h2
     simp [h2,h3]
    ·rw [if_neg h2]
     have h3:¬ (x.op=3∧x.rd=0):=fun h=>h2 (by unfold Yh; simp [h.1,h.2])
     simp only [List.mem_singleton]
     constructor
     ·exact fun h=>.inr ⟨h,h3⟩
     ·rintro (h | h)
      ·exact absurd h.1 h2
      ·exact h.1
  rw [List.mem_filter,hw]
  unfold upD goD
  simp only [List.mem_map,List.mem_filter,List.mem_range,Bool.or_eq_true,Bool.and_eq_true,decide_eq_true_eq,Bool.not_eq_true',Bool.or_eq_false_iff,decide_eq_false_iff_not,Bool.and_eq_false_iff]
  constructor
  ·rintro ⟨to,⟨h1,h2⟩,rfl⟩
   refine ⟨?_,by omega,by omega⟩
   rcases h2 with h2 | ⟨h2,h3⟩
   ·exact .inl h2
   ·refine .inr ⟨h2,fun h=>?_⟩
    rcases h3 with h3 | h3
    ·exact h3 h.1
    ·exact h3 h.2
  ·rintro ⟨h,h1,h2⟩
   refine ⟨k.toNat,⟨by omega,?_⟩,by omega⟩
   rw [show ((k.toNat:Nat):Int)=k by omega]
   rcases h with h | ⟨h,h3⟩
   ·exact .inl h
   ·refine .inr ⟨h,?_⟩
    by_cases h4:x.op=3
    ·exact .inr fun h5=>h3 ⟨h4,h5⟩
    ·exact .inl h4
theorem Qgl (c:List In):0≤frameC c∧frameC c≤1984:=by
 unfold frameC XZ; split <;> omega
end Go.Rg
namespace Go.Proofs.YtaidbdgndljaeaaGreatDoor
open Go Go.Am Go.Rv Go.Rg
set_option maxRecDepth 100000
variable {P:Program} {G:Nat→Option V}
set_option maxHeartbeats 2000000
section
attribute [local go_sem] nF nT cA lM nA aZ lR zA zL V.cells and_true decide_false decide_true false_implies ge_iff_le inC Q9 Qw XH QCm QCl QCk Xc QCh QCg QCf QCe QCd Xi QDR QDQ XF QCj QCi Yb QAr QAq true_and true_implies
def XP (c:List In):V:=.lst 1 (c.map fun x=>V.bool (decide (x.op≠0))) false
def dC (c:List In) (F:Int):List V:=[Q9 c,XP c,.int .i64 F]
variable {c:List In}
theorem Qja {F:Int}:Qb (dC c F)=true:=by simp [dC,Q9,XP,Qb,Qd]
theorem Qip {i:Nat} {x:In} (h:c[i]?=some x):(c.map fun x=>V.bool (decide (x.op≠0))).getD i V.any=.bool (decide (x.op≠0)):=by simp [List.getD_eq_getElem?_getD,h]
theorem opT {x:In} {n:Int} (hn:n≠0) (h:(x.op==n)=true):decide (x.op≠0)=true:=by
 have:x.op=n:=by simpa using h
 exact decide_eq_true (by omega)
theorem Qwh (hT:Qk P tab) (c:List In) (F:Int) (hd:Dec c) (i:Int) (hl:c.length≤1000000):Am.Pure P G Qaq [.agg (dC c F),.int .i64 i] fun v=>v=.bool (isI c i jr):=by
 intro t
 rw [← bk_is hd]
 refine Qp 0 (zL _) (Qt hT YS (by simp [XF]) (Qn 12 ?_))
 by_cases h0:0≤i∧i<c.length
 ·obtain ⟨k,rfl⟩:∃ k:Nat,i=k:=⟨i.toNat,by omega⟩
  have h1:k<c.length:=by omega
  have q1:decide (0≤(k:Int))=true:=decide_eq_true h0.1
  have q2:decide ((k:Int)<(c.length:Int))=true:=decide_eq_true h0.2
  have q3:=h0.1
  obtain ⟨x,hy⟩:∃ y,c[k]?=some y:=⟨_,List.getElem?_eq_getElem h1⟩
  have hD:=Xo hy
  have hG:=Qip hy
  simp only [inC] at hD
  have hr:bk c k=((x.op==4)&&((x.rd==0)&&((x.rs1==1)&&(x.imm==0)))):=by unfold bk; rw [Z2,hy]; simp only [QlT]
  have hc:(x.op==4)=true→decide (x.op≠0)=true:=opT (by decide)
  rw [hr]
  generalize decide (x.op≠0)=b0 at *
  generalize e1:(x.op==4)=b1 at *
  generalize e2:(x.rd==0)=b2 at *
  generalize e3:(x.rs1==1)=b3 at *
  generalize e4:(x.imm==0)=b4 at *
  simp -implicitDefEqProofs (disch:=omega) only [go_sem,↓reduceIte,reduceCtorEq,rA,rq,dC,XP,q3]
  repeat' (first | with_reducible refine And.intro ?_ ?_ | (intro hq; subst hq) | (refine Qa 4 ?_; simp -implicitDefEqProofs (disch:=omega) only [go_sem,↓reduceIte,reduceCtorEq,rA,rq,rL,q3,hD,hG,h1,e1,e2,e3,e4]))
  all_goals first | simp_all; done | (cases b1 <;> simp_all; done)
 ·have hr:bk c i=false:=by
   unfold bk nth
   by_cases h:i<0
   ·rw [if_pos h]
   ·rw [if_neg h,List.getElem?_eq_none (by omega)]
  rw [hr]
  by_cases h:0≤i
  ·have q1:decide (0≤i)=true:=decide_eq_true h
   have q2:decide (i<(c.length:Int))=false:=decide_eq_false (by omega)
   simp -implicitDefEqProofs (disch:=omega) only [go_sem,↓reduceIte,reduceCtorEq,rA,rq,dC,XP,q1]
   repeat' (first | with_reducible refine And.intro ?_ ?_ | (intro hq; subst hq) | (refine Qa 4 ?_; simp -implicitDefEqProofs (disch:=omega) only [go_sem,↓reduceIte,reduceCtorEq,rA,rq,rL,q2]))
  ·have q1:decide (0≤i)=false:=decide_eq_false h
   simp -implicitDefEqProofs (disch:=omega) only [go_sem,↓reduceIte,reduceCtorEq,rq,dC,XP,q1]
   repeat' (first | with_reducible refine And.intro ?_ ?_ | (intro hq; subst hq) | (refine Qa 4 ?_; simp -implicitDefEqProofs (disch:=omega) only [go_sem,↓reduceIte,reduceCtorEq,rq]))
theorem Qwi (hT:Qk P tab) (c:List In) (F:Int) (hd:Dec c) (hF:0≤F) (i:Int) (hl:c.length≤1000000) (hi:-10≤i∧i≤2000000):Am.Pure P G Zi [.agg (dC c F),.int .i64 i] fun v=>v=.bool (XS c F i):=by
 intro t
 rw [← rst_is hd hF]
 have hB:=Qwh (P:=P) (G:=G) hT c F hd (i+1) hl
 have w1:IntKind.i64.wrap (i+1)=i+1:=XA (by omega)
 have hn:Qb [.agg (dC c F),.int .i64 (i+1)]=true:=by simp [Qb,Qd,Qja]
 simp only [dC,Q9,XP,inC] at hB hn
 refine Qp 0 (zL _) (Qt hT Xv (by simp [Xc]) (Qn 12 ?_))
 by_cases h0:0≤i∧i<c.length
 ·obtain ⟨k,rfl⟩:∃ k:Nat,i=k:=⟨i.toNat,by omega⟩
  have h1:k<c.length:=by omega
  have q1:decide ((k:Int)<0)=false:=decide_eq_false (by omega)
  have q2:decide ((c.length:Int)≤(k:Int))=false:=decide_eq_false (by omega)
  have q3:(c.length≤k)=False:=eq_false (by omega)
  obtain ⟨x,hx⟩:∃ y,c[k]?=some y:=⟨_,List.getElem?_eq_getElem h1⟩
  have hD:=Xo hx
  have hG:=Qip hx
  simp only [inC] at hD
  have hr:rst c F k=(!(F==0)&&(isI c ((k:Int)+1) jr&&((x.op==22)&&((x.rd==2)&&((x.rs1==2)&&(x.imm==F)))))):=by unfold rst; rw [Z2,hx]; simp only [QlT]
  have hc:(x.op==22)=true→decide (x.op≠0)=true:=opT (by decide)
  rw [hr]
  generalize decide (x.op≠0)=b0 at *
  generalize isI c ((k:Int)+1) jr=bb at *
  generalize e0:(F==0)=bF at *
  generalize e1:(x.op==22)=b1 at *
  generalize e2:(x.rd==2)=b2 at *
  generalize e3:(x.rs1==2)=b3 at *
  generalize e4:(x.imm==F)=b4 at *
  simp -implicitDefEqProofs (disch:=omega) only [go_sem,↓reduceIte,reduceCtorEq,rq,dC,XP,q1]
  repeat' (first | with_reducible refine And.intro ?_ ?_ | (intro hq; subst hq) | (refine Qf hT YS hB hn 4 ?_; simp -implicitDefEqProofs (disch:=omega) only [go_sem,↓reduceIte,reduceCtorEq,rA,rq]) | (refine Qa 4 ?_; simp -implicitDefEqProofs (disch:=omega) only [go_sem,↓reduceIte,reduceCtorEq,rA,rq,rL,q3,hD,hG,h1,e0,e1,e2,e3,e4,w1]))
  all_goals first | simp_all; done | (cases b1 <;> simp_all; done)
 ·have hr:rst c F i=false:=by
   unfold rst nth
   by_cases h:i<0
   ·rw [if_pos h]
   ·rw [if_neg h,List.getElem?_eq_none (by omega)]
  rw [hr]
  by_cases h:i<0
  ·have q1:decide (i<0)=true:=decide_eq_true h
   simp -implicitDefEqProofs (disch:=omega) only [go_sem,↓reduceIte,reduceCtorEq,rq,dC,XP,q1]
   repeat' (first | with_reducible refine And.intro ?_ ?_ | (intro hq; subst hq) | (refine Qa 4 ?_; simp -implicitDefEqProofs (disch:=omega) only [go_sem,↓reduceIte,reduceCtorEq,rq]))
  ·have q1:decide (i<0)=false:=decide_eq_false h
   have q2:decide ((c.length:Int)≤i)=true:=decide_eq_true (by omega)
   simp -implicitDefEqProofs (disch:=omega) only [go_sem,↓reduceIte,reduceCtorEq,rq,dC,XP,q1]
   repeat' (first | with_reducible refine And.intro ?_ ?_ | (intro hq; subst hq) | (refine Qa 4 ?_; simp -implicitDefEqProofs (disch:=omega) only [go_sem,↓reduceIte,reduceCtorEq,rA,rq,rL,q2]))
theorem Qrw (hT:Qk P tab) (c:List In) (F:Int) (hd:Dec c) (hF:0≤F) (i:Int) (hl:c.length≤1000000) (hi:-9≤i∧i≤2000000):Am.Pure P G Yq [.agg (dC c F),.int .i64 i] fun v=>v=.bool (ret c F i):=by
 intro t
 have hA:=Qwh (P:=P) (G:=G) hT c F hd i hl
 have hB:=Qwi (P:=P) (G:=G) hT c F hd hF (i - 1) hl (by omega)
 have w1:IntKind.i64.wrap (i - 1)=i - 1:=XA (by omega)
 have hn:∀ i,Qb [.agg (dC c F),.int .i64 i]=true:=fun i=>by simp [Qb,Qd,Qja]
 have hr:ret c F i=(isI c i jr&&((F==0) || XS c F (i - 1))):=by unfold ret; rw [QlT]
 simp only [dC,Q9,XP,inC] at hA hB hn
 rw [hr]
 refine Qp 0 (zL _) (Qt hT Q7 (by simp [Xi]) (Qn 12 ?_))
 generalize isI c i jr=b1 at *
 generalize XS c F (i - 1)=b2 at *
 generalize e0:(F==0)=bF at *
 simp -implicitDefEqProofs (disch:=omega) only [go_sem,↓reduceIte,reduceCtorEq,rA,rq,dC,XP]
 repeat' (first | with_reducible refine And.intro ?_ ?_ | (intro hq; subst hq) | (refine Qf hT YS hA (hn _) 4 ?_; simp -implicitDefEqProofs (disch:=omega) only [go_sem,↓reduceIte,reduceCtorEq,rA,rq,e0]) | (refine Qf hT Xv hB (hn _) 4 ?_; simp -implicitDefEqProofs (disch:=omega) only [go_sem,↓reduceIte,reduceCtorEq,rA,rq]) | (refine Qa 4 ?_; simp -implicitDefEqProofs (disch:=omega) only [go_sem,↓reduceIte,reduceCtorEq,rA,rq,w1]))
 all_goals first | simp_all; done | (cases b1 <;> cases bF <;> simp_all; done)
theorem Qo1 (hT:Qk P tab) (x:In):Am.Pure P G Qa8 [.int .u8 x.op] fun v=>v=.bool (Xd x):=by
 intro t
 refine Qp 0 (zL _) (Qt hT YC (by simp [Yb]) (Qn 12 ?_))
 unfold Xd
 generalize e1:decide (5≤x.op)=b1 at *
 generalize e2:decide (x.op≤10)=b2 at *
 simp -implicitDefEqProofs (disch:=omega) only [go_sem,↓reduceIte,reduceCtorEq,rA,rq,e1,e2]
 repeat' (first | with_reducible refine And.intro ?_ ?_ | (intro hq; subst hq) | (refine Qa 4 ?_; simp -implicitDefEqProofs (disch:=omega) only [go_sem,↓reduceIte,reduceCtorEq,rq]))
 all_goals first | simp_all; done | (cases b1 <;> simp_all; done)
theorem Qqk (hT:Qk P tab) (c:List In) (F:Int) {k:Nat} {x:In} (hx:c[k]?=some x):Am.Pure P G Qas [.agg (dC c F),.int .i64 ((k:Nat):Int)] fun v=>v=.bool (Yh x):=by
 intro t
 have hlt:=(List.getElem?_eq_some_iff.1 hx).1
 have hD:=Xo hx
 have hG:=Qip hx
 have hB:=Qo1 (P:=P) (G:=G) hT x
 have hr:Yh x=(Xd x || ((x.op==3)&&(x.rd==0))):=by unfold Yh; simp only [QlT]
 have hc:(x.op==3)=true→decide (x.op≠0)=true:=opT (by decide)
 have hc2:Xd x=true→decide (x.op≠0)=true:=fun h=>by unfold Xd at h; simp at h; exact decide_eq_true (by omega)
 have hc3:(x.op==3)=true→Xd x=false:=fun h=>by
  have:x.op=3:=by simpa using h
  unfold Xd; simp [this]
 simp only [inC] at hD
 rw [hr]
 refine Qp 0 (zL _) (Qt hT Xp (by simp [XH]) (Qn 12 ?_))
 generalize Xd x=bb at *
 generalize decide (x.op≠0)=b0 at *
 generalize e1:(x.op==3)=b1 at *
 generalize e2:(x.rd==0)=b2 at *
 simp -implicitDefEqProofs (disch:=omega) only [go_sem,↓reduceIte,reduceCtorEq,rA,rq,rL,dC,XP,hD,hlt]
 repeat' (first | with_reducible refine And.intro ?_ ?_ | (intro hq; subst hq) | (refine Qf hT YC hB rfl 4 ?_; simp -implicitDefEqProofs (disch:=omega) only [go_sem,↓reduceIte,reduceCtorEq,rA,rq]) | (refine Qa 4 ?_; simp -implicitDefEqProofs (disch:=omega) only [go_sem,↓reduceIte,reduceCtorEq,rA,rq,rL,hG,hlt,e1,e2]))
 all_goals first | simp_all; done | (cases b1 <;> cases bb <;> simp_all; done)
end
section
attribute [local go_sem] lR zA ge_iff_le XV QCy QCx true_and
theorem QF8 (x:In):Qna x=((decide (1≤x.op)&&decide (x.op≤10)) || ((x.op==14) || ((x.op==21) || ((decide (22≤x.op)&&decide (x.op≤49)) || ((x.op==50) || ((decide (54≤x.op)&&decide (x.op≤62)) || (x.op==64))))))):=by
 unfold Qna
 rw [Bool.eq_iff_iff]
 simp
 omega
theorem Qsl (hT:Qk P tab) (x:In):Am.Pure P G QaX [.int .u8 x.op] fun v=>v=.bool (Qna x):=by
 intro t
 rw [QF8]
 refine Qp 0 (zL _) (Qt hT QaS (by simp [XV]) (Qn 12 ?_))
 generalize e1:decide (1≤x.op)=b1 at *
 generalize e2:decide (x.op≤10)=b2 at *
 generalize e3:(x.op==14)=b3 at *
 generalize e4:(x.op==21)=b4 at *
 generalize e5:decide (22≤x.op)=b5 at *
 generalize e6:decide (x.op≤49)=b6 at *
 generalize e7:(x.op==50)=b7 at *
 generalize e8:decide (54≤x.op)=b8 at *
 generalize e9:decide (x.op≤62)=b9 at *
 generalize e10:(x.op==64)=b10 at *
 simp -implicitDefEqProofs (disch:=omega) only [go_sem,↓reduceIte,reduceCtorEq,rA,rq,e1,e2]
 repeat' (first | with_reducible refine And.intro ?_ ?_ | (intro hq; subst hq) | (refine Qa 4 ?_; simp -implicitDefEqProofs (disch:=omega) only [go_sem,↓reduceIte,reduceCtorEq,rA,rq,e3,e4,e5,e6,e7,e8,e9,e10]))
 all_goals simp_all
end
end Go.Proofs.YtaidbdgndljaeaaGreatDoor
namespace Go.Proofs.YtaidbdgndljaeaaGreatDoor
open Go Go.Am Go.Rv
set_option maxRecDepth 100000
variable {P:Program} {G:Nat→Option V}
set_option maxHeartbeats 2000000
section
attribute [local go_sem] nF lR zA zL beq_self_eq_true decide_false decide_true ge_iff_le gt_iff_lt Qw Yw QAJ QAI YX QAT QAS QtE QtD QtC QtB QtA QAR QAQ QAP QAO QAN QAM QAL QAK YN Qzw Qzv Qtl Qtk Qtj Qti Qth Qtg Qzu Qzt Qzs Qzr Qzq Qzp Qzo Qzn YW Qz7 Qz6 Qz5 Qz4 Qz3
theorem Qhp (hT:Qk P tab) (f:Int) (hf:Forms f):Pure P G QcC [.int .u8 f] fun v=>v=.tup [.bool (QW f),.bool (Q1 f),.bool (Q5 f)]:=by
 intro t
 rcases hf with rfl | rfl | rfl | rfl | rfl | rfl | rfl | rfl | rfl | rfl <;>
 ·refine Qp 0 (zL _) (Qt hT Qs (by simp [YX]) (Qn 1000 ?_))
  simp -implicitDefEqProofs (disch:=omega) only [go_sem,↓reduceIte,reduceCtorEq,rq,Int.reduceEq,QW,Q1,Q5,Int.reduceBEq]
theorem QbD (hT:Qk P tab) (w:Int) (a m:Nat) (hw:u32 w) (ha:a≤31) (hm:m≤30):Pure P G QQ [.int .u32 w,.int .i64 a,.int .i64 m] fun v=>v=.int .u32 (fld w a m):=by
 intro t
 refine Qp 0 (zL _) (Qt hT Qc (by simp [Yw]) (Qn 1000 ?_))
 simp -implicitDefEqProofs (disch:=omega) only [go_sem,↓reduceIte,reduceCtorEq,rA,rq]
 exact congrArg (V.int .u32) (QrB hw ha hm)
theorem Qoc (n k:Int):(n.tmod k==0)=decide (n % k=0):=by
 rw [Bool.eq_iff_iff,beq_iff_eq,decide_eq_true_eq,← Int.dvd_iff_tmod_eq_zero,← Int.dvd_iff_emod_eq_zero]
theorem Qel (hT:Qk P tab) (f n:Int) (hf:Forms f):Pure P G QbY [.int .u8 f,.int .i64 n] fun v=>v=.bool (room f n):=by
 intro t
 have e1:=Qoc n 2
 have e2:=Qoc n 4096
 rcases hf with rfl | rfl | rfl | rfl | rfl | rfl | rfl | rfl | rfl | rfl <;>
 ·refine Qp 0 (zL _) (Qt hT Xe (by simp [YN]) (Qn 1000 ?_))
  simp -implicitDefEqProofs (disch:=omega) only [go_sem,↓reduceIte,reduceCtorEq,rA,rq,Int.reduceEq,room,e1,e2,Int.reduceBEq,or_true,or_false]
  try simp only [V.bool.injEq]
  try grind
def Qk7 (op:Int):List V:=if 1≤op∧op≤65 then rrC (T.getD (op.toNat - 1) ⟨0,[],0,0,0⟩) else rrC ⟨0,[],0,0,0⟩
theorem Qiy (hT:Qk P tab) (op:Int) (h0:0≤op) (h1:op≤255):Pure P G0 QcB [.int .u8 op] fun v=>v=.agg (Qk7 op):=by
 intro t
 have hl:(T.map fun r=>V.agg (rrC r)).length=65:=by rw [lM,QbF]
 refine Qp 0 (zL _) (Qt hT QR (by simp [YW]) (Qn 1000 ?_))
 simp -implicitDefEqProofs (disch:=omega) only [go_sem,↓reduceIte,reduceCtorEq]
 refine QN hT QbO (QEP hT) rfl 1000 fun v hv=>?_
 subst hv
 simp -implicitDefEqProofs (disch:=omega) only [go_sem,↓reduceIte,reduceCtorEq,rA,rq,hl]
 have e1:IntKind.i64.wrap op=op:=wrap_i64 (by omega) (by omega)
 rw [e1]
 refine ⟨fun h=>?_,fun h=>⟨fun h2=>?_,fun h2=>?_⟩⟩
 ·unfold Qk7; rw [if_neg (by omega)]; rfl
 ·unfold Qk7; rw [if_neg (by omega)]; rfl
 ·have e2:IntKind.u8.wrap (op - 1)=op - 1:=X8 _ (by simp [IntKind.min,IntKind.signed]; omega) (by simp [IntKind.max,IntKind.signed,IntKind.bits]; omega)
  have e3:(op - 1).toNat=op.toNat - 1:=by omega
  obtain ⟨r,hk⟩:∃ r,T[op.toNat - 1]?=some r:=⟨_,List.getElem?_eq_getElem (by rw [QbF]; omega)⟩
  have hg:(T.map fun r=>V.agg (rrC r)).getD (op.toNat - 1) .any=V.agg (rrC r):=by rw [List.getD_eq_getElem?_getD,List.getElem?_map,hk]; rfl
  have hr:Qk7 op=rrC r:=by unfold Qk7; rw [if_pos (by omega),List.getD_eq_getElem?_getD,hk]; rfl
  rw [e2,e3,hg,hr]
  simp -implicitDefEqProofs (disch:=omega) only [go_sem,rA,rrC,show op.toNat - 1<65 from by omega]
end
end Go.Proofs.YtaidbdgndljaeaaGreatDoor
namespace Go.Proofs.YtaidbdgndljaeaaGreatDoor
open Go Go.Am Go.Rv
set_option maxHeartbeats 2000000
theorem Xw (x:Int):IntKind.u32.wrap x=x % 4294967296:=by
 unfold IntKind.wrap; simp [IntKind.bits,IntKind.signed]
theorem QiY (n:Int) (a m:Nat) (h:a+m≤32):fld (n % 4294967296) a m=n / 2 ^ a % 2 ^ m:=by
 unfold fld
 obtain ⟨c,hc⟩:∃ c,32=(a+m)+c:=⟨32 - (a+m),by omega⟩
 have e:(4294967296:Int)=2 ^ a * (2 ^ m * 2 ^ c):=by
  rw [← Int.pow_add,← Int.pow_add,← Nat.add_assoc,← hc]; rfl
 have ha:(0:Int)<2 ^ a:=Int.pow_pos (by omega)
 rw [e,Int.emod_def n,Int.sub_eq_add_neg,← Int.mul_neg,Int.mul_assoc,Int.add_mul_ediv_left _ _ (by omega),Int.mul_assoc,Int.add_mul_emod_self_left]
set_option maxRecDepth 100000
variable {P:Program} {G:Nat→Option V}
set_option maxHeartbeats 4000000 in
section
attribute [local go_sem] nF nT aZ lR zA zL beq_self_eq_true decide_false decide_true gt_iff_lt Qj Qjt Qjs Qf3 Qf2 Qf1 Qf0 QfZ QfY QfX QfW QfV QfU Qjr QfT QfS QfR QfQ QfP QfO Qjq Qjp Qjo Qjn Qjm Qjl Qjk
theorem Qxr (hT:Qk P tab) (x:In) (hx:Zq x) (hop:1≤x.op∧x.op≤65) {r:RR} (hk:T[(x.op - 1).toNat]?=some r) (hbad:(x.rd > 31∨x.rs1 > 31∨x.rs2 > 31∨(QW r.form=false∧x.rd≠0)∨(Q1 r.form=false∧x.rs1≠0)∨(Q5 r.form=false∧x.rs2≠0)∨((r.form=82∨r.form=69)∧x.imm≠0))):Pure P G0 QI [.agg (inC x)] fun v=>v=.tup [.int .u32 (enc T x).1,.int .i64 (enc T x).2]:=by
 obtain ⟨⟨o0,o1⟩,⟨a0,a1⟩,⟨b0,b1⟩,⟨c0,c1⟩,hi⟩:=hx
 have hrow:Qk7 x.op=rrC r:=by
  unfold Qk7
  rw [if_pos hop]
  have:x.op.toNat - 1=(x.op - 1).toNat:=by omega
  rw [this,List.getD_eq_getElem?_getD,hk]; rfl
 have hf:=QjO (ZS r (List.mem_of_getElem? hk))
 have hF:Forms r.form:=by unfold Forms; rcases hf with h | h | h | h | h | h | h | h | h <;> simp [h]
 have he:enc T x=if x.rd > 31∨x.rs1 > 31∨x.rs2 > 31∨(QW r.form=false∧x.rd≠0)∨(Q1 r.form=false∧x.rs1≠0)∨(Q5 r.form=false∧x.rs2≠0)∨((r.form=82∨r.form=69)∧x.imm≠0) then (0,100)
  else if room r.form x.imm=false then (0,101)
  else (Qv r+x.rd * 128+x.rs1 * 32768+x.rs2 * 1048576+spread r.form x.imm,0):=by
  unfold enc; rw [if_pos (by rw [QbF]; exact hop),hk]
 have bad:(x.rd > 31∨x.rs1 > 31∨x.rs2 > 31∨(QW r.form=false∧x.rd≠0)∨(Q1 r.form=false∧x.rs1≠0)∨(Q5 r.form=false∧x.rs2≠0)∨((r.form=82∨r.form=69)∧x.imm≠0))→enc T x=(0,100):=fun h=>by rw [he,if_pos h]
 intro t
 have h1:=Qhp (G:=G0) hT r.form hF
 have h2:=Qel (G:=G0) hT r.form x.imm hF
 have hn32:u32 (IntKind.u32.wrap x.imm):=by rw [Xw]; exact ⟨by omega,by omega⟩
 have hfl:∀ a m:Nat,a≤31→m≤30→Pure P G0 QQ [.int .u32 (IntKind.u32.wrap x.imm),.int .i64 a,.int .i64 m] fun v=>v=.int .u32 (fld (IntKind.u32.wrap x.imm) a m):=fun a m ha hm=>QbD hT _ a m hn32 ha hm
 refine Qp 0 (zL _) (Qt hT QB (by simp [Qj]) (Qn 1000 ?_))
 simp -implicitDefEqProofs (disch:=omega) only [go_sem,↓reduceIte,reduceCtorEq,rA,rq,rL,inC]
 refine QN hT QR (Qiy hT x.op o0 o1) rfl 1000 fun v hv=>?_
 subst hv
 rw [hrow]
 simp -implicitDefEqProofs (disch:=omega) only [go_sem,↓reduceIte,reduceCtorEq,rA,rq,rL,rrC]
 refine QN hT Qs h1 rfl 1000 fun v hv=>?_
 subst hv
 have hb:=bad hbad
 rcases hf with hq | hq | hq | hq | hq | hq | hq | hq | hq
 all_goals (
  simp only [hq,QW,Q1,Q5,Int.reduceEq,or_true,or_false,false_or,decide_true,decide_false,Bool.true_eq_false,false_and,true_and,ne_eq,gt_iff_lt] at hbad
  simp -implicitDefEqProofs (disch:=omega) only [go_sem,↓reduceIte,reduceCtorEq,rA,rq,rL,rT,Int.reduceEq,hq,QW,Q1,Q5,Int.reduceBEq]
  repeat' (first | with_reducible refine And.intro ?_ ?_ | with_reducible intro _)
  all_goals (first | (rw [hb]; done) | (exfalso; omega)))
end
set_option maxHeartbeats 4000000 in
section
attribute [local go_sem] nF nT aZ lR zA zL beq_self_eq_true decide_false decide_true gt_iff_lt Qw Qj Qjt Qjs Qf3 Qf2 Qf1 Qf0 QfZ QfY QfX QfW QfV QfU Qjr QfT QfS QfR QfQ QfP QfO Qjq Qjp Qjo Qjn Qjm Qjl Qjk
theorem Qm7 (hT:Qk P tab) (x:In) (hx:Zq x) (hop:1≤x.op∧x.op≤65) {r:RR} (hk:T[(x.op - 1).toNat]?=some r) (hbad:¬ (x.rd > 31∨x.rs1 > 31∨x.rs2 > 31∨(QW r.form=false∧x.rd≠0)∨(Q1 r.form=false∧x.rs1≠0)∨(Q5 r.form=false∧x.rs2≠0)∨((r.form=82∨r.form=69)∧x.imm≠0))) (hsel:r.form=82∨r.form=87∨r.form=73∨r.form=72):Pure P G0 QI [.agg (inC x)] fun v=>v=.tup [.int .u32 (enc T x).1,.int .i64 (enc T x).2]:=by
 obtain ⟨⟨o0,o1⟩,⟨a0,a1⟩,⟨b0,b1⟩,⟨c0,c1⟩,hi⟩:=hx
 have hrow:Qk7 x.op=rrC r:=by
  unfold Qk7
  rw [if_pos hop]
  have:x.op.toNat - 1=(x.op - 1).toNat:=by omega
  rw [this,List.getD_eq_getElem?_getD,hk]; rfl
 have hf:=QjO (ZS r (List.mem_of_getElem? hk))
 have hF:Forms r.form:=by unfold Forms; rcases hf with h | h | h | h | h | h | h | h | h <;> simp [h]
 have he:enc T x=if x.rd > 31∨x.rs1 > 31∨x.rs2 > 31∨(QW r.form=false∧x.rd≠0)∨(Q1 r.form=false∧x.rs1≠0)∨(Q5 r.form=false∧x.rs2≠0)∨((r.form=82∨r.form=69)∧x.imm≠0) then (0,100)
  else if room r.form x.imm=false then (0,101)
  else (Qv r+x.rd * 128+x.rs1 * 32768+x.rs2 * 1048576+spread r.form x.imm,0):=by
  unfold enc; rw [if_pos (by rw [QbF]; exact hop),hk]
 have bad:(x.rd > 31∨x.rs1 > 31∨x.rs2 > 31∨(QW r.form=false∧x.rd≠0)∨(Q1 r.form=false∧x.rs1≠0)∨(Q5 r.form=false∧x.rs2≠0)∨((r.form=82∨r.form=69)∧x.imm≠0))→enc T x=(0,100):=fun h=>by rw [he,if_pos h]
 intro t
 have h1:=Qhp (G:=G0) hT r.form hF
 have h2:=Qel (G:=G0) hT r.form x.imm hF
 have hn32:u32 (IntKind.u32.wrap x.imm):=by rw [Xw]; exact ⟨by omega,by omega⟩
 have hfl:∀ a m:Nat,a≤31→m≤30→Pure P G0 QQ [.int .u32 (IntKind.u32.wrap x.imm),.int .i64 a,.int .i64 m] fun v=>v=.int .u32 (fld (IntKind.u32.wrap x.imm) a m):=fun a m ha hm=>QbD hT _ a m hn32 ha hm
 refine Qp 0 (zL _) (Qt hT QB (by simp [Qj]) (Qn 1000 ?_))
 simp -implicitDefEqProofs (disch:=omega) only [go_sem,↓reduceIte,reduceCtorEq,rA,rq,rL,inC]
 refine QN hT QR (Qiy hT x.op o0 o1) rfl 1000 fun v hv=>?_
 subst hv
 rw [hrow]
 simp -implicitDefEqProofs (disch:=omega) only [go_sem,↓reduceIte,reduceCtorEq,rA,rq,rL,rrC]
 refine QN hT Qs h1 rfl 1000 fun v hv=>?_
 subst hv
 have hg:=hbad
 simp only [not_or,ne_eq,not_and,Classical.not_not,gt_iff_lt] at hg
 obtain ⟨k1,k2,k3,z1,z2,z3,z4⟩:=hg
 have he2:=he
 rw [if_neg hbad] at he2
 have hok:room r.form x.imm=true→enc T x=(Qv r+x.rd * 128+x.rs1 * 32768+x.rs2 * 1048576+spread r.form x.imm,0):=fun h=>by rw [he2,h]; rfl
 have hno:room r.form x.imm=false→enc T x=(0,101):=fun h=>by rw [he2,h]; rfl
 have y1:QW r.form=false→(x.rd != 0)=false:=fun h=>by simp [z1 h]
 have y2:Q1 r.form=false→(x.rs1 != 0)=false:=fun h=>by simp [z2 h]
 have y3:Q5 r.form=false→(x.rs2 != 0)=false:=fun h=>by simp [z3 h]
 have y4:(r.form=82∨r.form=69)→(x.imm != 0)=false:=fun h=>by simp [z4 h]
 have gg:=ZS r (List.mem_of_getElem? hk)
 simp only [good,Bool.and_eq_true,Bool.or_eq_true,decide_eq_true_eq,or_assoc] at gg
 obtain ⟨⟨u0,u1,v0,v1,w0,w1⟩,gf⟩:=gg
 have hnm:r.form≠69→r.name≠[101,98,114,101,97,107]:=fun h=>by
  rcases gf with gf | gf | gf | gf | gf | gf | gf | gf | gf <;> first | exact gf.2 | exact gf.2.2 | exact gf.2.2.2 | exact absurd gf.1 h
 obtain ⟨sa,sb,sc,sd,ha0,ha1,hb0,hb1,hc0,hc1,hd0,hd1,hs,_⟩:=QbP r.form x.imm (by rcases hf with h | h | h | h | h | h | h | h | h <;> simp [h])
 have htot:room r.form x.imm=true→0≤Qv r+x.rd * 128+x.rs1 * 32768+x.rs2 * 1048576+spread r.form x.imm∧Qv r+x.rd * 128+x.rs1 * 32768+x.rs2 * 1048576+spread r.form x.imm<4294967296:=fun h=>by
  have:=QeJ (hok h) a0 b0 c0
  exact ⟨this.1,this.2.1⟩
 clear gf
 have hM:r.form≠69→Qv r=r.code+r.f3 * 4096+r.f7 * 33554432:=fun h=>by unfold Qv; rw [if_neg (hnm h)]
 have t1:IntKind.u32.wrap (r.f3 * 4096)=r.f3 * 4096:=wrap_u32 (by omega) (by omega)
 have t2:IntKind.u32.wrap (r.f7 * 33554432)=r.f7 * 33554432:=wrap_u32 (by omega) (by omega)
 have t3:IntKind.u32.wrap (IntKind.u32.wrap x.rd * 128)=x.rd * 128:=by rw [wrap_u32 (x:=x.rd) (by omega) (by omega)]; exact wrap_u32 (by omega) (by omega)
 have t4:IntKind.u32.wrap (IntKind.u32.wrap x.rs1 * 32768)=x.rs1 * 32768:=by rw [wrap_u32 (x:=x.rs1) (by omega) (by omega)]; exact wrap_u32 (by omega) (by omega)
 have t5:IntKind.u32.wrap (IntKind.u32.wrap x.rs2 * 1048576)=x.rs2 * 1048576:=by rw [wrap_u32 (x:=x.rs2) (by omega) (by omega)]; exact wrap_u32 (by omega) (by omega)
 have t6:IntKind.u32.wrap (IntKind.u32.wrap x.imm * 1048576)=x.imm % 4096 * 1048576:=by rw [Xw,Xw]; omega
 have fm:∀ a m:Nat,a+m≤32→fld (IntKind.u32.wrap x.imm) a m=x.imm / 2 ^ a % 2 ^ m:=fun a m h=>by rw [Xw,QiY _ _ _ h]
 rcases hsel with hq | hq | hq | hq
 all_goals (
  rw [hq] at y1 y2 y3 y4 hnm hok hno htot hs hM
  simp only [QW,Q1,Q5,Int.reduceEq,or_true,or_false,decide_true,decide_false,Bool.true_eq_false,false_implies,forall_const,ne_eq,not_false_eq_true] at y1 y2 y3 y4 hnm hM
  simp -implicitDefEqProofs (disch:=omega) only [go_sem,↓reduceIte,reduceCtorEq,rA,rq,rL,rT,Int.reduceEq,hq,QW,Q1,Q5,Int.reduceBEq,k1,k2,k3,y3,y4]
  refine QN hT Xe (Qel hT _ _ (by simp [Forms])) rfl 1000 fun v hv=>?_
  subst hv
  cases hr:room _ x.imm with
  | false =>
    simp -implicitDefEqProofs (disch:=omega) only [go_sem,↓reduceIte,reduceCtorEq,rA,rq]
    rw [hno hr]
  | true =>
    have ht:=htot hr
    simp -implicitDefEqProofs (disch:=omega) only [go_sem,↓reduceIte,reduceCtorEq,rA,rq,rL,Int.reduceToNat,Int.reduceLE,hnm,Int.reduceBEq,show min 12 32=12 from rfl,show min 25 32=25 from rfl,show min 7 32=7 from rfl,show min 15 32=15 from rfl,show min 20 32=20 from rfl,Int.reducePow]
    rw [hok hr]
    simp only [false_implies,true_and,V.tup.injEq,List.cons.injEq,V.int.injEq,and_true,t1,t2,t3,t4,t5,t6]
    rw [hM] at ht ⊢
    simp only [spread,Int.reduceEq,or_true,or_false,if_true,if_false] at ht ⊢
    simp only [Xw]
    omega)
end
set_option maxHeartbeats 4000000 in
section
attribute [local go_sem] nF nT aZ lR zA zL beq_self_eq_true decide_false decide_true gt_iff_lt Qw Qj Qjt Qjs Qf3 Qf2 Qf1 Qf0 QfZ QfY QfX QfW QfV QfU Qjr QfT QfS QfR QfQ QfP QfO Qjq Qjp Qjo Qjn Qjm Qjl Qjk
theorem QF3 (hT:Qk P tab) (x:In) (hx:Zq x) (hop:1≤x.op∧x.op≤65) {r:RR} (hk:T[(x.op - 1).toNat]?=some r) (hbad:¬ (x.rd > 31∨x.rs1 > 31∨x.rs2 > 31∨(QW r.form=false∧x.rd≠0)∨(Q1 r.form=false∧x.rs1≠0)∨(Q5 r.form=false∧x.rs2≠0)∨((r.form=82∨r.form=69)∧x.imm≠0))) (hsel:r.form=83):Pure P G0 QI [.agg (inC x)] fun v=>v=.tup [.int .u32 (enc T x).1,.int .i64 (enc T x).2]:=by
 obtain ⟨⟨o0,o1⟩,⟨a0,a1⟩,⟨b0,b1⟩,⟨c0,c1⟩,hi⟩:=hx
 have hrow:Qk7 x.op=rrC r:=by
  unfold Qk7
  rw [if_pos hop]
  have:x.op.toNat - 1=(x.op - 1).toNat:=by omega
  rw [this,List.getD_eq_getElem?_getD,hk]; rfl
 have hf:=QjO (ZS r (List.mem_of_getElem? hk))
 have hF:Forms r.form:=by unfold Forms; rcases hf with h | h | h | h | h | h | h | h | h <;> simp [h]
 have he:enc T x=if x.rd > 31∨x.rs1 > 31∨x.rs2 > 31∨(QW r.form=false∧x.rd≠0)∨(Q1 r.form=false∧x.rs1≠0)∨(Q5 r.form=false∧x.rs2≠0)∨((r.form=82∨r.form=69)∧x.imm≠0) then (0,100)
  else if room r.form x.imm=false then (0,101)
  else (Qv r+x.rd * 128+x.rs1 * 32768+x.rs2 * 1048576+spread r.form x.imm,0):=by
  unfold enc; rw [if_pos (by rw [QbF]; exact hop),hk]
 have bad:(x.rd > 31∨x.rs1 > 31∨x.rs2 > 31∨(QW r.form=false∧x.rd≠0)∨(Q1 r.form=false∧x.rs1≠0)∨(Q5 r.form=false∧x.rs2≠0)∨((r.form=82∨r.form=69)∧x.imm≠0))→enc T x=(0,100):=fun h=>by rw [he,if_pos h]
 intro t
 have h1:=Qhp (G:=G0) hT r.form hF
 have h2:=Qel (G:=G0) hT r.form x.imm hF
 have hn32:u32 (IntKind.u32.wrap x.imm):=by rw [Xw]; exact ⟨by omega,by omega⟩
 have hfl:∀ a m:Nat,a≤31→m≤30→Pure P G0 QQ [.int .u32 (IntKind.u32.wrap x.imm),.int .i64 a,.int .i64 m] fun v=>v=.int .u32 (fld (IntKind.u32.wrap x.imm) a m):=fun a m ha hm=>QbD hT _ a m hn32 ha hm
 refine Qp 0 (zL _) (Qt hT QB (by simp [Qj]) (Qn 1000 ?_))
 simp -implicitDefEqProofs (disch:=omega) only [go_sem,↓reduceIte,reduceCtorEq,rA,rq,rL,inC]
 refine QN hT QR (Qiy hT x.op o0 o1) rfl 1000 fun v hv=>?_
 subst hv
 rw [hrow]
 simp -implicitDefEqProofs (disch:=omega) only [go_sem,↓reduceIte,reduceCtorEq,rA,rq,rL,rrC]
 refine QN hT Qs h1 rfl 1000 fun v hv=>?_
 subst hv
 have hg:=hbad
 simp only [not_or,ne_eq,not_and,Classical.not_not,gt_iff_lt] at hg
 obtain ⟨k1,k2,k3,z1,z2,z3,z4⟩:=hg
 have he2:=he
 rw [if_neg hbad] at he2
 have hok:room r.form x.imm=true→enc T x=(Qv r+x.rd * 128+x.rs1 * 32768+x.rs2 * 1048576+spread r.form x.imm,0):=fun h=>by rw [he2,h]; rfl
 have hno:room r.form x.imm=false→enc T x=(0,101):=fun h=>by rw [he2,h]; rfl
 have y1:QW r.form=false→(x.rd != 0)=false:=fun h=>by simp [z1 h]
 have y2:Q1 r.form=false→(x.rs1 != 0)=false:=fun h=>by simp [z2 h]
 have y3:Q5 r.form=false→(x.rs2 != 0)=false:=fun h=>by simp [z3 h]
 have y4:(r.form=82∨r.form=69)→(x.imm != 0)=false:=fun h=>by simp [z4 h]
 have gg:=ZS r (List.mem_of_getElem? hk)
 simp only [good,Bool.and_eq_true,Bool.or_eq_true,decide_eq_true_eq,or_assoc] at gg
 obtain ⟨⟨u0,u1,v0,v1,w0,w1⟩,gf⟩:=gg
 have hnm:r.form≠69→r.name≠[101,98,114,101,97,107]:=fun h=>by
  rcases gf with gf | gf | gf | gf | gf | gf | gf | gf | gf <;> first | exact gf.2 | exact gf.2.2 | exact gf.2.2.2 | exact absurd gf.1 h
 obtain ⟨sa,sb,sc,sd,ha0,ha1,hb0,hb1,hc0,hc1,hd0,hd1,hs,_⟩:=QbP r.form x.imm (by rcases hf with h | h | h | h | h | h | h | h | h <;> simp [h])
 have htot:room r.form x.imm=true→0≤Qv r+x.rd * 128+x.rs1 * 32768+x.rs2 * 1048576+spread r.form x.imm∧Qv r+x.rd * 128+x.rs1 * 32768+x.rs2 * 1048576+spread r.form x.imm<4294967296:=fun h=>by
  have:=QeJ (hok h) a0 b0 c0
  exact ⟨this.1,this.2.1⟩
 clear gf
 have hM:r.form≠69→Qv r=r.code+r.f3 * 4096+r.f7 * 33554432:=fun h=>by unfold Qv; rw [if_neg (hnm h)]
 have t1:IntKind.u32.wrap (r.f3 * 4096)=r.f3 * 4096:=wrap_u32 (by omega) (by omega)
 have t2:IntKind.u32.wrap (r.f7 * 33554432)=r.f7 * 33554432:=wrap_u32 (by omega) (by omega)
 have t3:IntKind.u32.wrap (IntKind.u32.wrap x.rd * 128)=x.rd * 128:=by rw [wrap_u32 (x:=x.rd) (by omega) (by omega)]; exact wrap_u32 (by omega) (by omega)
 have t4:IntKind.u32.wrap (IntKind.u32.wrap x.rs1 * 32768)=x.rs1 * 32768:=by rw [wrap_u32 (x:=x.rs1) (by omega) (by omega)]; exact wrap_u32 (by omega) (by omega)
 have t5:IntKind.u32.wrap (IntKind.u32.wrap x.rs2 * 1048576)=x.rs2 * 1048576:=by rw [wrap_u32 (x:=x.rs2) (by omega) (by omega)]; exact wrap_u32 (by omega) (by omega)
 have t6:IntKind.u32.wrap (IntKind.u32.wrap x.imm * 1048576)=x.imm % 4096 * 1048576:=by rw [Xw,Xw]; omega
 have fm:∀ a m:Nat,a+m≤32→fld (IntKind.u32.wrap x.imm) a m=x.imm / 2 ^ a % 2 ^ m:=fun a m h=>by rw [Xw,QiY _ _ _ h]
 have hq:=hsel
 all_goals (
  rw [hq] at y1 y2 y3 y4 hnm hok hno htot hs hM
  simp only [QW,Q1,Q5,Int.reduceEq,or_true,or_false,decide_true,decide_false,Bool.true_eq_false,false_implies,forall_const,ne_eq,not_false_eq_true] at y1 y2 y3 y4 hnm hM
  simp -implicitDefEqProofs (disch:=omega) only [go_sem,↓reduceIte,reduceCtorEq,rA,rq,rL,rT,Int.reduceEq,hq,QW,Q1,Q5,Int.reduceBEq,k1,k2,k3,y1]
  refine QN hT Xe (Qel hT _ _ (by simp [Forms])) rfl 1000 fun v hv=>?_
  subst hv
  cases hr:room _ x.imm with
  | false =>
    simp -implicitDefEqProofs (disch:=omega) only [go_sem,↓reduceIte,reduceCtorEq,rA,rq]
    rw [hno hr]
  | true =>
    have ht:=htot hr
    simp -implicitDefEqProofs (disch:=omega) only [go_sem,↓reduceIte,reduceCtorEq,rA,rq,rL,Int.reduceToNat,Int.reduceLE,hnm,Int.reduceBEq,show min 12 32=12 from rfl,show min 25 32=25 from rfl,show min 7 32=7 from rfl,show min 15 32=15 from rfl,show min 20 32=20 from rfl,Int.reducePow]
    refine ⟨fun h=>h.elim,?_⟩
    refine QN hT Qc (hfl 5 7 (by omega) (by omega)) rfl 1000 fun v hv=>?_
    subst hv
    rw [fm 5 7 (by omega)]
    simp -implicitDefEqProofs (disch:=omega) only [go_sem,↓reduceIte,reduceCtorEq,rq,Int.reduceToNat,Int.reduceLE,show min 25 32=25 from rfl,Int.reducePow]
    refine QN hT Qc (hfl 0 5 (by omega) (by omega)) rfl 1000 fun v hv=>?_
    subst hv
    rw [fm 0 5 (by omega)]
    simp -implicitDefEqProofs (disch:=omega) only [go_sem,↓reduceIte,reduceCtorEq,rA,rq,Int.reduceToNat,Int.reduceLE,show min 7 32=7 from rfl,Int.reducePow]
    rw [hok hr]
    simp only [true_and,V.tup.injEq,List.cons.injEq,V.int.injEq,and_true,t1,t2,t3,t4,t5]
    rw [hM] at ht ⊢
    simp only [spread,Int.reduceEq,or_false,if_true,if_false] at ht ⊢
    simp only [Xw]
    omega)
end
end Go.Proofs.YtaidbdgndljaeaaGreatDoor
