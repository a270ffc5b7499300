/- The document's Encode, where it gives a word: walked. -/
import Derived.Test.YtaidbdgndljaeaaGreatDoorJ10
import Derived.Test.YtaidbdgndljaeaaGreatDoorAmD
open Nat renaming reduceEqDiff → rq, reduceAdd → rA, reduceLeDiff → rL, reduceLT → rT, zero_add → zA, le_refl → lR, zero_le → zL, add_zero → aZ
open List renaming length_cons → lC, length_nil → lN, take_succ_cons → tS, length_append → lA, nil_append → nA, cons_append → cA, append_assoc → aA, take_nil → tN, take_zero → tZ, length_map → lM
open Bool renaming not_false → nF, not_true → nT
namespace Go.Proofs.YtaidbdgndljaeaaGreatDoor
open Go Go.Am Go.Rv
set_option maxRecDepth 100000
variable {P:Program} {G:Nat→Option V}
set_option maxHeartbeats 4000000 in
section
attribute [local go_sem] nF nT aZ lR zA zL beq_self_eq_true decide_false decide_true gt_iff_lt Qw Qj Qjt Qjs Qf3 Qf2 Qf1 Qf0 QfZ QfY QfX QfW QfV QfU Qjr QfT QfS QfR QfQ QfP QfO Qjq Qjp Qjo Qjn Qjm Qjl Qjk
variable {r:RR}
theorem QF2 (hT:Qk P tab) (x:In) (hx:Zq x) (hop:1≤x.op∧x.op≤65) (hk:T[(x.op - 1).toNat]?=some r) (hbad:¬ (x.rd > 31∨x.rs1 > 31∨x.rs2 > 31∨(QW r.form=false∧x.rd≠0)∨(Q1 r.form=false∧x.rs1≠0)∨(Q5 r.form=false∧x.rs2≠0)∨((r.form=82∨r.form=69)∧x.imm≠0))) (hsel:r.form=66):Pure P G0 QI [.agg (inC x)] fun v=>v=.tup [.int .u32 (enc T x).1,.int .i64 (enc T x).2]:=by
 obtain ⟨⟨o0,o1⟩,⟨a0,a1⟩,⟨b0,b1⟩,⟨c0,c1⟩,hi⟩:=hx
 have hrow:Qk7 x.op=rrC r:=by
  unfold Qk7
  rw [if_pos hop]
  have:x.op.toNat - 1=(x.op - 1).toNat:=by omega
  rw [this,List.getD_eq_getElem?_getD,hk]; rfl
 have hf:=QjO (ZS r (List.mem_of_getElem? hk))
 have hF:Forms r.form:=by unfold Forms; rcases hf with h | h | h | h | h | h | h | h | h <;> simp [h]
 have he:enc T x=if x.rd > 31∨x.rs1 > 31∨x.rs2 > 31∨(QW r.form=false∧x.rd≠0)∨(Q1 r.form=false∧x.rs1≠0)∨(Q5 r.form=false∧x.rs2≠0)∨((r.form=82∨r.form=69)∧x.imm≠0) then (0,100)
  else if room r.form x.imm=false then (0,101)
  else (Qv r+x.rd * 128+x.rs1 * 32768+x.rs2 * 1048576+spread r.form x.imm,0):=by
  unfold enc; rw [if_pos (by rw [QbF]; exact hop),hk]
 have bad:(x.rd > 31∨x.rs1 > 31∨x.rs2 > 31∨(QW r.form=false∧x.rd≠0)∨(Q1 r.form=false∧x.rs1≠0)∨(Q5 r.form=false∧x.rs2≠0)∨((r.form=82∨r.form=69)∧x.imm≠0))→enc T x=(0,100):=fun h=>by rw [he,if_pos h]
 intro t
 have h1:=Qhp (G:=G0) hT r.form hF
 have h2:=Qel (G:=G0) hT r.form x.imm hF
 have hn32:u32 (IntKind.u32.wrap x.imm):=by rw [Xw]; exact ⟨by omega,by omega⟩
 have hfl:∀ a m:Nat,a≤31→m≤30→Pure P G0 QQ [.int .u32 (IntKind.u32.wrap x.imm),.int .i64 a,.int .i64 m] fun v=>v=.int .u32 (fld (IntKind.u32.wrap x.imm) a m):=fun a m ha hm=>QbD hT _ a m hn32 ha hm
 refine Qp 0 (zL _) (Qt hT QB (by simp [Qj]) (Qn 1000 ?_))
 simp -implicitDefEqProofs (disch:=omega) only [go_sem,↓reduceIte,reduceCtorEq,rA,rq,rL,inC]
 refine QN hT QR (Qiy hT x.op o0 o1) rfl 1000 fun v hv=>?_
 subst hv
 rw [hrow]
 simp -implicitDefEqProofs (disch:=omega) only [go_sem,↓reduceIte,reduceCtorEq,rA,rq,rL,rrC]
 refine QN hT Qs h1 rfl 1000 fun v hv=>?_
 subst hv
 have hg:=hbad
 simp only [not_or,ne_eq,not_and,Classical.not_not,gt_iff_lt] at hg
 obtain ⟨k1,k2,k3,z1,z2,z3,z4⟩:=hg
 have he2:=he
 rw [if_neg hbad] at he2
 have hok:room r.form x.imm=true→enc T x=(Qv r+x.rd * 128+x.rs1 * 32768+x.rs2 * 1048576+spread r.form x.imm,0):=fun h=>by rw [he2,h]; rfl
 have hno:room r.form x.imm=false→enc T x=(0,101):=fun h=>by rw [he2,h]; rfl
 have y1:QW r.form=false→(x.rd != 0)=false:=fun h=>by simp [z1 h]
 have y2:Q1 r.form=false→(x.rs1 != 0)=false:=fun h=>by simp [z2 h]
 have y3:Q5 r.form=false→(x.rs2 != 0)=false:=fun h=>by simp [z3 h]
 have y4:(r.form=82∨r.form=69)→(x.imm != 0)=false:=fun h=>by simp [z4 h]
 have gg:=ZS r (List.mem_of_getElem? hk)
 simp only [good,Bool.and_eq_true,Bool.or_eq_true,decide_eq_true_eq,or_assoc] at gg
 obtain ⟨⟨u0,u1,v0,v1,w0,w1⟩,gf⟩:=gg
 have hnm:r.form≠69→r.name≠[101,98,114,101,97,107]:=fun h=>by
  rcases gf with gf | gf | gf | gf | gf | gf | gf | gf | gf <;> first | exact gf.2 | exact gf.2.2 | exact gf.2.2.2 | exact absurd gf.1 h
 obtain ⟨sa,sb,sc,sd,ha0,ha1,hb0,hb1,hc0,hc1,hd0,hd1,hs,_⟩:=QbP r.form x.imm (by rcases hf with h | h | h | h | h | h | h | h | h <;> simp [h])
 have htot:room r.form x.imm=true→0≤Qv r+x.rd * 128+x.rs1 * 32768+x.rs2 * 1048576+spread r.form x.imm∧Qv r+x.rd * 128+x.rs1 * 32768+x.rs2 * 1048576+spread r.form x.imm<4294967296:=fun h=>by
  have:=QeJ (hok h) a0 b0 c0
  exact ⟨this.1,this.2.1⟩
 clear gf
 have hM:r.form≠69→Qv r=r.code+r.f3 * 4096+r.f7 * 33554432:=fun h=>by unfold Qv; rw [if_neg (hnm h)]
 have t1:IntKind.u32.wrap (r.f3 * 4096)=r.f3 * 4096:=wrap_u32 (by omega) (by omega)
 have t2:IntKind.u32.wrap (r.f7 * 33554432)=r.f7 * 33554432:=wrap_u32 (by omega) (by omega)
 have t3:IntKind.u32.wrap (IntKind.u32.wrap x.rd * 128)=x.rd * 128:=by rw [wrap_u32 (x:=x.rd) (by omega) (by omega)]; exact wrap_u32 (by omega) (by omega)
 have t4:IntKind.u32.wrap (IntKind.u32.wrap x.rs1 * 32768)=x.rs1 * 32768:=by rw [wrap_u32 (x:=x.rs1) (by omega) (by omega)]; exact wrap_u32 (by omega) (by omega)
 have t5:IntKind.u32.wrap (IntKind.u32.wrap x.rs2 * 1048576)=x.rs2 * 1048576:=by rw [wrap_u32 (x:=x.rs2) (by omega) (by omega)]; exact wrap_u32 (by omega) (by omega)
 have t6:IntKind.u32.wrap (IntKind.u32.wrap x.imm * 1048576)=x.imm % 4096 * 1048576:=by rw [Xw,Xw]; omega
 have fm:∀ a m:Nat,a+m≤32→fld (IntKind.u32.wrap x.imm) a m=x.imm / 2 ^ a % 2 ^ m:=fun a m h=>by rw [Xw,QiY _ _ _ h]
 have hq:=hsel
 all_goals (
  rw [hq] at y1 y2 y3 y4 hnm hok hno htot hs hM
  simp only [QW,Q1,Q5,Int.reduceEq,or_true,or_false,decide_true,decide_false,Bool.true_eq_false,false_implies,forall_const,ne_eq,not_false_eq_true] at y1 y2 y3 y4 hnm hM
  simp -implicitDefEqProofs (disch:=omega) only [go_sem,↓reduceIte,reduceCtorEq,rA,rq,rL,rT,Int.reduceEq,hq,QW,Q1,Q5,Int.reduceBEq,k1,k2,k3,y1]
  refine QN hT Xe (Qel hT _ _ (by simp [Forms])) rfl 1000 fun v hv=>?_
  subst hv
  cases hr:room _ x.imm with
  | false =>
    simp -implicitDefEqProofs (disch:=omega) only [go_sem,↓reduceIte,reduceCtorEq,rA,rq]
    rw [hno hr]
  | true =>
    have ht:=htot hr
    simp -implicitDefEqProofs (disch:=omega) only [go_sem,↓reduceIte,reduceCtorEq,rA,rq,rL,Int.reduceToNat,Int.reduceLE,hnm,Int.reduceBEq,show min 12 32=12 from rfl,show min 25 32=25 from rfl,show min 7 32=7 from rfl,show min 15 32=15 from rfl,show min 20 32=20 from rfl,Int.reducePow]
    refine ⟨fun h=>h.elim,?_⟩
    refine QN hT Qc (hfl 12 1 (by omega) (by omega)) rfl 1000 fun v hv=>?_
    subst hv
    rw [fm 12 1 (by omega)]
    simp -implicitDefEqProofs (disch:=omega) only [go_sem,↓reduceIte,reduceCtorEq,rq,Int.reduceToNat,Int.reduceLE,show min 31 32=31 from rfl,Int.reducePow]
    refine QN hT Qc (hfl 5 6 (by omega) (by omega)) rfl 1000 fun v hv=>?_
    subst hv
    rw [fm 5 6 (by omega)]
    simp -implicitDefEqProofs (disch:=omega) only [go_sem,↓reduceIte,reduceCtorEq,rq,Int.reduceToNat,Int.reduceLE,show min 25 32=25 from rfl,Int.reducePow]
    refine QN hT Qc (hfl 1 4 (by omega) (by omega)) rfl 1000 fun v hv=>?_
    subst hv
    rw [fm 1 4 (by omega)]
    simp -implicitDefEqProofs (disch:=omega) only [go_sem,↓reduceIte,reduceCtorEq,rq,Int.reduceToNat,Int.reduceLE,show min 8 32=8 from rfl,Int.reducePow]
    refine QN hT Qc (hfl 11 1 (by omega) (by omega)) rfl 1000 fun v hv=>?_
    subst hv
    rw [fm 11 1 (by omega)]
    simp -implicitDefEqProofs (disch:=omega) only [go_sem,↓reduceIte,reduceCtorEq,rA,rq,Int.reduceToNat,Int.reduceLE,show min 7 32=7 from rfl,Int.reducePow]
    rw [hok hr]
    simp only [true_and,V.tup.injEq,List.cons.injEq,V.int.injEq,and_true,t1,t2,t3,t4,t5]
    rw [hM] at ht ⊢
    simp only [spread,Int.reduceEq,or_false,if_true,if_false] at ht ⊢
    simp only [Xw]
    omega)
set_option maxHeartbeats 4000000 in
theorem QF1 (hT:Qk P tab) (x:In) (hx:Zq x) (hop:1≤x.op∧x.op≤65) (hk:T[(x.op - 1).toNat]?=some r) (hbad:¬ (x.rd > 31∨x.rs1 > 31∨x.rs2 > 31∨(QW r.form=false∧x.rd≠0)∨(Q1 r.form=false∧x.rs1≠0)∨(Q5 r.form=false∧x.rs2≠0)∨((r.form=82∨r.form=69)∧x.imm≠0))) (hsel:r.form=74):Pure P G0 QI [.agg (inC x)] fun v=>v=.tup [.int .u32 (enc T x).1,.int .i64 (enc T x).2]:=by
 obtain ⟨⟨o0,o1⟩,⟨a0,a1⟩,⟨b0,b1⟩,⟨c0,c1⟩,hi⟩:=hx
 have hrow:Qk7 x.op=rrC r:=by
  unfold Qk7
  rw [if_pos hop]
  have:x.op.toNat - 1=(x.op - 1).toNat:=by omega
  rw [this,List.getD_eq_getElem?_getD,hk]; rfl
 have hf:=QjO (ZS r (List.mem_of_getElem? hk))
 have hF:Forms r.form:=by unfold Forms; rcases hf with h | h | h | h | h | h | h | h | h <;> simp [h]
 have he:enc T x=if x.rd > 31∨x.rs1 > 31∨x.rs2 > 31∨(QW r.form=false∧x.rd≠0)∨(Q1 r.form=false∧x.rs1≠0)∨(Q5 r.form=false∧x.rs2≠0)∨((r.form=82∨r.form=69)∧x.imm≠0) then (0,100)
  else if room r.form x.imm=false then (0,101)
  else (Qv r+x.rd * 128+x.rs1 * 32768+x.rs2 * 1048576+spread r.form x.imm,0):=by
  unfold enc; rw [if_pos (by rw [QbF]; exact hop),hk]
 have bad:(x.rd > 31∨x.rs1 > 31∨x.rs2 > 31∨(QW r.form=false∧x.rd≠0)∨(Q1 r.form=false∧x.rs1≠0)∨(Q5 r.form=false∧x.rs2≠0)∨((r.form=82∨r.form=69)∧x.imm≠0))→enc T x=(0,100):=fun h=>by rw [he,if_pos h]
 intro t
 have h1:=Qhp (G:=G0) hT r.form hF
 have h2:=Qel (G:=G0) hT r.form x.imm hF
 have hn32:u32 (IntKind.u32.wrap x.imm):=by rw [Xw]; exact ⟨by omega,by omega⟩
 have hfl:∀ a m:Nat,a≤31→m≤30→Pure P G0 QQ [.int .u32 (IntKind.u32.wrap x.imm),.int .i64 a,.int .i64 m] fun v=>v=.int .u32 (fld (IntKind.u32.wrap x.imm) a m):=fun a m ha hm=>QbD hT _ a m hn32 ha hm
 refine Qp 0 (zL _) (Qt hT QB (by simp [Qj]) (Qn 1000 ?_))
 simp -implicitDefEqProofs (disch:=omega) only [go_sem,↓reduceIte,reduceCtorEq,rA,rq,rL,inC]
 refine QN hT QR (Qiy hT x.op o0 o1) rfl 1000 fun v hv=>?_
 subst hv
 rw [hrow]
 simp -implicitDefEqProofs (disch:=omega) only [go_sem,↓reduceIte,reduceCtorEq,rA,rq,rL,rrC]
 refine QN hT Qs h1 rfl 1000 fun v hv=>?_
 subst hv
 have hg:=hbad
 simp only [not_or,ne_eq,not_and,Classical.not_not,gt_iff_lt] at hg
 obtain ⟨k1,k2,k3,z1,z2,z3,z4⟩:=hg
 have he2:=he
 rw [if_neg hbad] at he2
 have hok:room r.form x.imm=true→enc T x=(Qv r+x.rd * 128+x.rs1 * 32768+x.rs2 * 1048576+spread r.form x.imm,0):=fun h=>by rw [he2,h]; rfl
 have hno:room r.form x.imm=false→enc T x=(0,101):=fun h=>by rw [he2,h]; rfl
 have y1:QW r.form=false→(x.rd != 0)=false:=fun h=>by simp [z1 h]
 have y2:Q1 r.form=false→(x.rs1 != 0)=false:=fun h=>by simp [z2 h]
 have y3:Q5 r.form=false→(x.rs2 != 0)=false:=fun h=>by simp [z3 h]
 have y4:(r.form=82∨r.form=69)→(x.imm != 0)=false:=fun h=>by simp [z4 h]
 have gg:=ZS r (List.mem_of_getElem? hk)
 simp only [good,Bool.and_eq_true,Bool.or_eq_true,decide_eq_true_eq,or_assoc] at gg
 obtain ⟨⟨u0,u1,v0,v1,w0,w1⟩,gf⟩:=gg
 have hnm:r.form≠69→r.name≠[101,98,114,101,97,107]:=fun h=>by
  rcases gf with gf | gf | gf | gf | gf | gf | gf | gf | gf <;> first | exact gf.2 | exact gf.2.2 | exact gf.2.2.2 | exact absurd gf.1 h
 obtain ⟨sa,sb,sc,sd,ha0,ha1,hb0,hb1,hc0,hc1,hd0,hd1,hs,_⟩:=QbP r.form x.imm (by rcases hf with h | h | h | h | h | h | h | h | h <;> simp [h])
 have htot:room r.form x.imm=true→0≤Qv r+x.rd * 128+x.rs1 * 32768+x.rs2 * 1048576+spread r.form x.imm∧Qv r+x.rd * 128+x.rs1 * 32768+x.rs2 * 1048576+spread r.form x.imm<4294967296:=fun h=>by
  have:=QeJ (hok h) a0 b0 c0
  exact ⟨this.1,this.2.1⟩
 clear gf
 have hM:r.form≠69→Qv r=r.code+r.f3 * 4096+r.f7 * 33554432:=fun h=>by unfold Qv; rw [if_neg (hnm h)]
 have t1:IntKind.u32.wrap (r.f3 * 4096)=r.f3 * 4096:=wrap_u32 (by omega) (by omega)
 have t2:IntKind.u32.wrap (r.f7 * 33554432)=r.f7 * 33554432:=wrap_u32 (by omega) (by omega)
 have t3:IntKind.u32.wrap (IntKind.u32.wrap x.rd * 128)=x.rd * 128:=by rw [wrap_u32 (x:=x.rd) (by omega) (by omega)]; exact wrap_u32 (by omega) (by omega)
 have t4:IntKind.u32.wrap (IntKind.u32.wrap x.rs1 * 32768)=x.rs1 * 32768:=by rw [wrap_u32 (x:=x.rs1) (by omega) (by omega)]; exact wrap_u32 (by omega) (by omega)
 have t5:IntKind.u32.wrap (IntKind.u32.wrap x.rs2 * 1048576)=x.rs2 * 1048576:=by rw [wrap_u32 (x:=x.rs2) (by omega) (by omega)]; exact wrap_u32 (by omega) (by omega)
 have t6:IntKind.u32.wrap (IntKind.u32.wrap x.imm * 1048576)=x.imm % 4096 * 1048576:=by rw [Xw,Xw]; omega
 have fm:∀ a m:Nat,a+m≤32→fld (IntKind.u32.wrap x.imm) a m=x.imm / 2 ^ a % 2 ^ m:=fun a m h=>by rw [Xw,QiY _ _ _ h]
 have hq:=hsel
 all_goals (
  rw [hq] at y1 y2 y3 y4 hnm hok hno htot hs hM
  simp only [QW,Q1,Q5,Int.reduceEq,or_true,or_false,decide_true,decide_false,Bool.true_eq_false,false_implies,forall_const,ne_eq,not_false_eq_true] at y1 y2 y3 y4 hnm hM
  simp -implicitDefEqProofs (disch:=omega) only [go_sem,↓reduceIte,reduceCtorEq,rA,rq,rL,rT,Int.reduceEq,hq,QW,Q1,Q5,Int.reduceBEq,k1,k2,k3,y2,y3]
  refine QN hT Xe (Qel hT _ _ (by simp [Forms])) rfl 1000 fun v hv=>?_
  subst hv
  cases hr:room _ x.imm with
  | false =>
    simp -implicitDefEqProofs (disch:=omega) only [go_sem,↓reduceIte,reduceCtorEq,rA,rq]
    rw [hno hr]
  | true =>
    have ht:=htot hr
    simp -implicitDefEqProofs (disch:=omega) only [go_sem,↓reduceIte,reduceCtorEq,rA,rq,rL,Int.reduceToNat,Int.reduceLE,hnm,Int.reduceBEq,show min 12 32=12 from rfl,show min 25 32=25 from rfl,show min 7 32=7 from rfl,show min 15 32=15 from rfl,show min 20 32=20 from rfl,Int.reducePow]
    refine ⟨fun h=>h.elim,?_⟩
    refine QN hT Qc (hfl 20 1 (by omega) (by omega)) rfl 1000 fun v hv=>?_
    subst hv
    rw [fm 20 1 (by omega)]
    simp -implicitDefEqProofs (disch:=omega) only [go_sem,↓reduceIte,reduceCtorEq,rq,Int.reduceToNat,Int.reduceLE,show min 31 32=31 from rfl,Int.reducePow]
    refine QN hT Qc (hfl 1 10 (by omega) (by omega)) rfl 1000 fun v hv=>?_
    subst hv
    rw [fm 1 10 (by omega)]
    simp -implicitDefEqProofs (disch:=omega) only [go_sem,↓reduceIte,reduceCtorEq,rq,Int.reduceToNat,Int.reduceLE,show min 21 32=21 from rfl,Int.reducePow]
    refine QN hT Qc (hfl 11 1 (by omega) (by omega)) rfl 1000 fun v hv=>?_
    subst hv
    rw [fm 11 1 (by omega)]
    simp -implicitDefEqProofs (disch:=omega) only [go_sem,↓reduceIte,reduceCtorEq,rq,Int.reduceToNat,Int.reduceLE,show min 20 32=20 from rfl,Int.reducePow]
    refine QN hT Qc (hfl 12 8 (by omega) (by omega)) rfl 1000 fun v hv=>?_
    subst hv
    rw [fm 12 8 (by omega)]
    simp -implicitDefEqProofs (disch:=omega) only [go_sem,↓reduceIte,reduceCtorEq,rA,rq,Int.reduceToNat,Int.reduceLE,show min 12 32=12 from rfl,Int.reducePow]
    rw [hok hr]
    simp only [true_and,V.tup.injEq,List.cons.injEq,V.int.injEq,and_true,t1,t2,t3,t4,t5]
    rw [hM] at ht ⊢
    simp only [spread,Int.reduceEq,or_false,if_true,if_false] at ht ⊢
    simp only [Xw]
    omega)
end
set_option maxHeartbeats 4000000 in
section
attribute [local go_sem] nF nT aZ lR zA zL beq_self_eq_true decide_false gt_iff_lt Qw Qj Qjt Qjs Qf3 Qf2 Qf1 Qf0 QfZ QfY QfX QfW QfV QfU Qjr QfT QfS QfR QfQ QfP QfO Qjq Qjp Qjo Qjn Qjm Qjl Qjk
theorem QF0 (hT:Qk P tab) (x:In) (hx:Zq x) (hop:1≤x.op∧x.op≤65) {r:RR} (hk:T[(x.op - 1).toNat]?=some r) (hbad:¬ (x.rd > 31∨x.rs1 > 31∨x.rs2 > 31∨(QW r.form=false∧x.rd≠0)∨(Q1 r.form=false∧x.rs1≠0)∨(Q5 r.form=false∧x.rs2≠0)∨((r.form=82∨r.form=69)∧x.imm≠0))) (hsel:r.form=69):Pure P G0 QI [.agg (inC x)] fun v=>v=.tup [.int .u32 (enc T x).1,.int .i64 (enc T x).2]:=by
 obtain ⟨⟨o0,o1⟩,⟨a0,a1⟩,⟨b0,b1⟩,⟨c0,c1⟩,hi⟩:=hx
 have hrow:Qk7 x.op=rrC r:=by
  unfold Qk7
  rw [if_pos hop]
  have:x.op.toNat - 1=(x.op - 1).toNat:=by omega
  rw [this,List.getD_eq_getElem?_getD,hk]; rfl
 have hf:=QjO (ZS r (List.mem_of_getElem? hk))
 have hF:Forms r.form:=by unfold Forms; rcases hf with h | h | h | h | h | h | h | h | h <;> simp [h]
 have he:enc T x=if x.rd > 31∨x.rs1 > 31∨x.rs2 > 31∨(QW r.form=false∧x.rd≠0)∨(Q1 r.form=false∧x.rs1≠0)∨(Q5 r.form=false∧x.rs2≠0)∨((r.form=82∨r.form=69)∧x.imm≠0) then (0,100)
  else if room r.form x.imm=false then (0,101)
  else (Qv r+x.rd * 128+x.rs1 * 32768+x.rs2 * 1048576+spread r.form x.imm,0):=by
  unfold enc; rw [if_pos (by rw [QbF]; exact hop),hk]
 have bad:(x.rd > 31∨x.rs1 > 31∨x.rs2 > 31∨(QW r.form=false∧x.rd≠0)∨(Q1 r.form=false∧x.rs1≠0)∨(Q5 r.form=false∧x.rs2≠0)∨((r.form=82∨r.form=69)∧x.imm≠0))→enc T x=(0,100):=fun h=>by rw [he,if_pos h]
 intro t
 have h1:=Qhp (G:=G0) hT r.form hF
 have h2:=Qel (G:=G0) hT r.form x.imm hF
 have hn32:u32 (IntKind.u32.wrap x.imm):=by rw [Xw]; exact ⟨by omega,by omega⟩
 have hfl:∀ a m:Nat,a≤31→m≤30→Pure P G0 QQ [.int .u32 (IntKind.u32.wrap x.imm),.int .i64 a,.int .i64 m] fun v=>v=.int .u32 (fld (IntKind.u32.wrap x.imm) a m):=fun a m ha hm=>QbD hT _ a m hn32 ha hm
 refine Qp 0 (zL _) (Qt hT QB (by simp [Qj]) (Qn 1000 ?_))
 simp -implicitDefEqProofs (disch:=omega) only [go_sem,↓reduceIte,reduceCtorEq,rA,rq,rL,inC]
 refine QN hT QR (Qiy hT x.op o0 o1) rfl 1000 fun v hv=>?_
 subst hv
 rw [hrow]
 simp -implicitDefEqProofs (disch:=omega) only [go_sem,↓reduceIte,reduceCtorEq,rA,rq,rL,rrC]
 refine QN hT Qs h1 rfl 1000 fun v hv=>?_
 subst hv
 have hg:=hbad
 simp only [not_or,ne_eq,not_and,Classical.not_not,gt_iff_lt] at hg
 obtain ⟨k1,k2,k3,z1,z2,z3,z4⟩:=hg
 have he2:=he
 rw [if_neg hbad] at he2
 have hok:room r.form x.imm=true→enc T x=(Qv r+x.rd * 128+x.rs1 * 32768+x.rs2 * 1048576+spread r.form x.imm,0):=fun h=>by rw [he2,h]; rfl
 have hno:room r.form x.imm=false→enc T x=(0,101):=fun h=>by rw [he2,h]; rfl
 have y1:QW r.form=false→(x.rd != 0)=false:=fun h=>by simp [z1 h]
 have y2:Q1 r.form=false→(x.rs1 != 0)=false:=fun h=>by simp [z2 h]
 have y3:Q5 r.form=false→(x.rs2 != 0)=false:=fun h=>by simp [z3 h]
 have y4:(r.form=82∨r.form=69)→(x.imm != 0)=false:=fun h=>by simp [z4 h]
 have gg:=ZS r (List.mem_of_getElem? hk)
 simp only [good,Bool.and_eq_true,Bool.or_eq_true,decide_eq_true_eq,or_assoc] at gg
 obtain ⟨⟨u0,u1,v0,v1,w0,w1⟩,gf⟩:=gg
 have hnm:r.form≠69→r.name≠[101,98,114,101,97,107]:=fun h=>by
  rcases gf with gf | gf | gf | gf | gf | gf | gf | gf | gf <;> first | exact gf.2 | exact gf.2.2 | exact gf.2.2.2 | exact absurd gf.1 h
 obtain ⟨sa,sb,sc,sd,ha0,ha1,hb0,hb1,hc0,hc1,hd0,hd1,hs,_⟩:=QbP r.form x.imm (by rcases hf with h | h | h | h | h | h | h | h | h <;> simp [h])
 have htot:room r.form x.imm=true→0≤Qv r+x.rd * 128+x.rs1 * 32768+x.rs2 * 1048576+spread r.form x.imm∧Qv r+x.rd * 128+x.rs1 * 32768+x.rs2 * 1048576+spread r.form x.imm<4294967296:=fun h=>by
  have:=QeJ (hok h) a0 b0 c0
  exact ⟨this.1,this.2.1⟩
 clear gf
 have hM:r.form≠69→Qv r=r.code+r.f3 * 4096+r.f7 * 33554432:=fun h=>by unfold Qv; rw [if_neg (hnm h)]
 have t1:IntKind.u32.wrap (r.f3 * 4096)=r.f3 * 4096:=wrap_u32 (by omega) (by omega)
 have t2:IntKind.u32.wrap (r.f7 * 33554432)=r.f7 * 33554432:=wrap_u32 (by omega) (by omega)
 have t3:IntKind.u32.wrap (IntKind.u32.wrap x.rd * 128)=x.rd * 128:=by rw [wrap_u32 (x:=x.rd) (by omega) (by omega)]; exact wrap_u32 (by omega) (by omega)
 have t4:IntKind.u32.wrap (IntKind.u32.wrap x.rs1 * 32768)=x.rs1 * 32768:=by rw [wrap_u32 (x:=x.rs1) (by omega) (by omega)]; exact wrap_u32 (by omega) (by omega)
 have t5:IntKind.u32.wrap (IntKind.u32.wrap x.rs2 * 1048576)=x.rs2 * 1048576:=by rw [wrap_u32 (x:=x.rs2) (by omega) (by omega)]; exact wrap_u32 (by omega) (by omega)
 have t6:IntKind.u32.wrap (IntKind.u32.wrap x.imm * 1048576)=x.imm % 4096 * 1048576:=by rw [Xw,Xw]; omega
 have fm:∀ a m:Nat,a+m≤32→fld (IntKind.u32.wrap x.imm) a m=x.imm / 2 ^ a % 2 ^ m:=fun a m h=>by rw [Xw,QiY _ _ _ h]
 have hq:=hsel
 all_goals (
  rw [hq] at y1 y2 y3 y4 hnm hok hno htot hs hM
  simp only [QW,Q1,Q5,Int.reduceEq,or_true,or_false,decide_false,false_implies,forall_const,ne_eq,not_true] at y1 y2 y3 y4 hnm hM
  simp -implicitDefEqProofs (disch:=omega) only [go_sem,↓reduceIte,reduceCtorEq,rA,rq,rL,rT,Int.reduceEq,hq,QW,Q1,Q5,Int.reduceBEq,k1,k2,k3,y1,y2,y3,y4]
  refine QN hT Xe (Qel hT _ _ (by simp [Forms])) rfl 1000 fun v hv=>?_
  subst hv
  cases hr:room _ x.imm with
  | false =>
    simp -implicitDefEqProofs (disch:=omega) only [go_sem,↓reduceIte,reduceCtorEq,rA,rq]
    rw [hno hr]
  | true =>
    have ht:=htot hr
    simp -implicitDefEqProofs (disch:=omega) only [go_sem,↓reduceIte,reduceCtorEq,rA,rq,rL,Int.reduceToNat,Int.reduceLE,Int.reduceBEq,show min 12 32=12 from rfl,show min 25 32=25 from rfl,show min 7 32=7 from rfl,show min 15 32=15 from rfl,show min 20 32=20 from rfl,Int.reducePow]
    rw [hok hr]
    simp only [true_and,V.tup.injEq,List.cons.injEq,V.int.injEq,and_true,t1,t2,t3,t4,t5]
    simp only [Qv,spread,Int.reduceEq,or_false,if_false] at ht ⊢
    have q1:=z1 (by rw [hq]; simp [QW])
    have q2:=z2 (by rw [hq]; simp [Q1])
    have q3:=z3 (by rw [hq]; simp [Q5])
    refine ⟨fun h=>?_,fun h=>?_⟩
    ·rw [if_pos h]; omega
    ·rw [if_neg h] at ht ⊢
     simp only [Xw]
     omega)
end
set_option maxHeartbeats 4000000 in
section
attribute [local go_sem] nF nT aZ lR zA zL beq_self_eq_true decide_false decide_true gt_iff_lt Qw Qj Qjt Qjs Qf3 Qf2 Qf1 Qf0 QfZ QfY QfX QfW QfV QfU Qjr QfT QfS QfR QfQ QfP QfO Qjq Qjp Qjo Qjn Qjm Qjl Qjk
theorem QFZ (hT:Qk P tab) (x:In) (hx:Zq x) (hop:1≤x.op∧x.op≤65) {r:RR} (hk:T[(x.op - 1).toNat]?=some r) (hbad:¬ (x.rd > 31∨x.rs1 > 31∨x.rs2 > 31∨(QW r.form=false∧x.rd≠0)∨(Q1 r.form=false∧x.rs1≠0)∨(Q5 r.form=false∧x.rs2≠0)∨((r.form=82∨r.form=69)∧x.imm≠0))) (hsel:r.form=85):Pure P G0 QI [.agg (inC x)] fun v=>v=.tup [.int .u32 (enc T x).1,.int .i64 (enc T x).2]:=by
 obtain ⟨⟨o0,o1⟩,⟨a0,a1⟩,⟨b0,b1⟩,⟨c0,c1⟩,hi⟩:=hx
 have hrow:Qk7 x.op=rrC r:=by
  unfold Qk7
  rw [if_pos hop]
  have:x.op.toNat - 1=(x.op - 1).toNat:=by omega
  rw [this,List.getD_eq_getElem?_getD,hk]; rfl
 have hf:=QjO (ZS r (List.mem_of_getElem? hk))
 have hF:Forms r.form:=by unfold Forms; rcases hf with h | h | h | h | h | h | h | h | h <;> simp [h]
 have he:enc T x=if x.rd > 31∨x.rs1 > 31∨x.rs2 > 31∨(QW r.form=false∧x.rd≠0)∨(Q1 r.form=false∧x.rs1≠0)∨(Q5 r.form=false∧x.rs2≠0)∨((r.form=82∨r.form=69)∧x.imm≠0) then (0,100)
  else if room r.form x.imm=false then (0,101)
  else (Qv r+x.rd * 128+x.rs1 * 32768+x.rs2 * 1048576+spread r.form x.imm,0):=by
  unfold enc; rw [if_pos (by rw [QbF]; exact hop),hk]
 have bad:(x.rd > 31∨x.rs1 > 31∨x.rs2 > 31∨(QW r.form=false∧x.rd≠0)∨(Q1 r.form=false∧x.rs1≠0)∨(Q5 r.form=false∧x.rs2≠0)∨((r.form=82∨r.form=69)∧x.imm≠0))→enc T x=(0,100):=fun h=>by rw [he,if_pos h]
 intro t
 have h1:=Qhp (G:=G0) hT r.form hF
 have h2:=Qel (G:=G0) hT r.form x.imm hF
 have hn32:u32 (IntKind.u32.wrap x.imm):=by rw [Xw]; exact ⟨by omega,by omega⟩
 have hfl:∀ a m:Nat,a≤31→m≤30→Pure P G0 QQ [.int .u32 (IntKind.u32.wrap x.imm),.int .i64 a,.int .i64 m] fun v=>v=.int .u32 (fld (IntKind.u32.wrap x.imm) a m):=fun a m ha hm=>QbD hT _ a m hn32 ha hm
 refine Qp 0 (zL _) (Qt hT QB (by simp [Qj]) (Qn 1000 ?_))
 simp -implicitDefEqProofs (disch:=omega) only [go_sem,↓reduceIte,reduceCtorEq,rA,rq,rL,inC]
 refine QN hT QR (Qiy hT x.op o0 o1) rfl 1000 fun v hv=>?_
 subst hv
 rw [hrow]
 simp -implicitDefEqProofs (disch:=omega) only [go_sem,↓reduceIte,reduceCtorEq,rA,rq,rL,rrC]
 refine QN hT Qs h1 rfl 1000 fun v hv=>?_
 subst hv
 have hg:=hbad
 simp only [not_or,ne_eq,not_and,Classical.not_not,gt_iff_lt] at hg
 obtain ⟨k1,k2,k3,z1,z2,z3,z4⟩:=hg
 have he2:=he
 rw [if_neg hbad] at he2
 have hok:room r.form x.imm=true→enc T x=(Qv r+x.rd * 128+x.rs1 * 32768+x.rs2 * 1048576+spread r.form x.imm,0):=fun h=>by rw [he2,h]; rfl
 have hno:room r.form x.imm=false→enc T x=(0,101):=fun h=>by rw [he2,h]; rfl
 have y1:QW r.form=false→(x.rd != 0)=false:=fun h=>by simp [z1 h]
 have y2:Q1 r.form=false→(x.rs1 != 0)=false:=fun h=>by simp [z2 h]
 have y3:Q5 r.form=false→(x.rs2 != 0)=false:=fun h=>by simp [z3 h]
 have y4:(r.form=82∨r.form=69)→(x.imm != 0)=false:=fun h=>by simp [z4 h]
 have gg:=ZS r (List.mem_of_getElem? hk)
 simp only [good,Bool.and_eq_true,Bool.or_eq_true,decide_eq_true_eq,or_assoc] at gg
 obtain ⟨⟨u0,u1,v0,v1,w0,w1⟩,gf⟩:=gg
 have hnm:r.form≠69→r.name≠[101,98,114,101,97,107]:=fun h=>by
  rcases gf with gf | gf | gf | gf | gf | gf | gf | gf | gf <;> first | exact gf.2 | exact gf.2.2 | exact gf.2.2.2 | exact absurd gf.1 h
 obtain ⟨sa,sb,sc,sd,ha0,ha1,hb0,hb1,hc0,hc1,hd0,hd1,hs,_⟩:=QbP r.form x.imm (by rcases hf with h | h | h | h | h | h | h | h | h <;> simp [h])
 have htot:room r.form x.imm=true→0≤Qv r+x.rd * 128+x.rs1 * 32768+x.rs2 * 1048576+spread r.form x.imm∧Qv r+x.rd * 128+x.rs1 * 32768+x.rs2 * 1048576+spread r.form x.imm<4294967296:=fun h=>by
  have:=QeJ (hok h) a0 b0 c0
  exact ⟨this.1,this.2.1⟩
 clear gf
 have hM:r.form≠69→Qv r=r.code+r.f3 * 4096+r.f7 * 33554432:=fun h=>by unfold Qv; rw [if_neg (hnm h)]
 have t1:IntKind.u32.wrap (r.f3 * 4096)=r.f3 * 4096:=wrap_u32 (by omega) (by omega)
 have t2:IntKind.u32.wrap (r.f7 * 33554432)=r.f7 * 33554432:=wrap_u32 (by omega) (by omega)
 have t3:IntKind.u32.wrap (IntKind.u32.wrap x.rd * 128)=x.rd * 128:=by rw [wrap_u32 (x:=x.rd) (by omega) (by omega)]; exact wrap_u32 (by omega) (by omega)
 have t4:IntKind.u32.wrap (IntKind.u32.wrap x.rs1 * 32768)=x.rs1 * 32768:=by rw [wrap_u32 (x:=x.rs1) (by omega) (by omega)]; exact wrap_u32 (by omega) (by omega)
 have t5:IntKind.u32.wrap (IntKind.u32.wrap x.rs2 * 1048576)=x.rs2 * 1048576:=by rw [wrap_u32 (x:=x.rs2) (by omega) (by omega)]; exact wrap_u32 (by omega) (by omega)
 have t6:IntKind.u32.wrap (IntKind.u32.wrap x.imm * 1048576)=x.imm % 4096 * 1048576:=by rw [Xw,Xw]; omega
 have fm:∀ a m:Nat,a+m≤32→fld (IntKind.u32.wrap x.imm) a m=x.imm / 2 ^ a % 2 ^ m:=fun a m h=>by rw [Xw,QiY _ _ _ h]
 have hq:=hsel
 all_goals (
  rw [hq] at y1 y2 y3 y4 hnm hok hno htot hs hM
  simp only [QW,Q1,Q5,Int.reduceEq,or_true,or_false,decide_true,decide_false,Bool.true_eq_false,false_implies,forall_const,ne_eq,not_false_eq_true] at y1 y2 y3 y4 hnm hM
  simp -implicitDefEqProofs (disch:=omega) only [go_sem,↓reduceIte,reduceCtorEq,rA,rq,rL,rT,Int.reduceEq,hq,QW,Q1,Q5,Int.reduceBEq,k1,k2,k3,y2,y3]
  refine QN hT Xe (Qel hT _ _ (by simp [Forms])) rfl 1000 fun v hv=>?_
  subst hv
  cases hr:room _ x.imm with
  | false =>
    simp -implicitDefEqProofs (disch:=omega) only [go_sem,↓reduceIte,reduceCtorEq,rA,rq]
    rw [hno hr]
  | true =>
    have ht:=htot hr
    simp -implicitDefEqProofs (disch:=omega) only [go_sem,↓reduceIte,reduceCtorEq,rA,rq,rL,Int.reduceToNat,Int.reduceLE,hnm,Int.reduceBEq,show min 12 32=12 from rfl,show min 25 32=25 from rfl,show min 7 32=7 from rfl,show min 15 32=15 from rfl,show min 20 32=20 from rfl,Int.reducePow]
    have hU:IntKind.u32.wrap x.imm=x.imm / 4096 % 1048576 * 4096:=by
     have hrr:-2147483648≤x.imm∧x.imm<2147483648∧x.imm % 4096=0:=by simpa [room] using hr
     rw [Xw]; clear hs ht t1 t2 t3 t4 t5 t6; omega
    rw [hok hr]
    simp only [false_implies,true_and,V.tup.injEq,List.cons.injEq,V.int.injEq,and_true,t1,t2,t3,t4,t5,hU]
    rw [hM] at ht ⊢
    simp only [spread,Int.reduceEq,or_false,if_true,if_false] at ht ⊢
    simp only [Xw]
    omega)
end
section
attribute [local go_sem] nF aZ lR zA zL beq_self_eq_true Qj Qjt Qjs Qf3 Qf2 Qf1 Qf0 QfZ QfY QfX QfW QfV QfU Qjr QfT QfS QfR QfQ QfP QfO Qjq Qjp Qjo Qjn Qjm Qjl Qjk
theorem Qo0 (hT:Qk P tab) (x:In) (hx:Zq x):Pure P G0 QI [.agg (inC x)] fun v=>v=.tup [.int .u32 (enc T x).1,.int .i64 (enc T x).2]:=by
 by_cases hop:1≤x.op∧x.op≤65
 ·obtain ⟨r,hk⟩:∃ r,T[(x.op - 1).toNat]?=some r:=⟨_,List.getElem?_eq_getElem (by rw [QbF]; omega)⟩
  by_cases hbad:(x.rd > 31∨x.rs1 > 31∨x.rs2 > 31∨(QW r.form=false∧x.rd≠0)∨(Q1 r.form=false∧x.rs1≠0)∨(Q5 r.form=false∧x.rs2≠0)∨((r.form=82∨r.form=69)∧x.imm≠0))
  ·exact Qxr hT x hx hop hk hbad
  ·rcases QjO (ZS r (List.mem_of_getElem? hk)) with h | h | h | h | h | h | h | h | h
   ·exact Qm7 hT x hx hop hk hbad (by simp [h])
   ·exact Qm7 hT x hx hop hk hbad (by simp [h])
   ·exact Qm7 hT x hx hop hk hbad (by simp [h])
   ·exact Qm7 hT x hx hop hk hbad (by simp [h])
   ·exact QF3 hT x hx hop hk hbad h
   ·exact QF2 hT x hx hop hk hbad h
   ·exact QFZ hT x hx hop hk hbad h
   ·exact QF1 hT x hx hop hk hbad h
   ·exact QF0 hT x hx hop hk hbad h
 ·obtain ⟨⟨o0,o1⟩,_⟩:=hx
  have he:enc T x=(0,100):=by unfold enc; rw [if_neg (by rw [QbF]; exact hop)]
  have hrow:Qk7 x.op=rrC ⟨0,[],0,0,0⟩:=by unfold Qk7; rw [if_neg hop]
  intro t
  have h1:=Qhp (G:=G0) hT 0 (by simp [Forms])
  refine Qp 0 (zL _) (Qt hT QB (by simp [Qj]) (Qn 1000 ?_))
  simp -implicitDefEqProofs (disch:=omega) only [go_sem,↓reduceIte,reduceCtorEq,rA,rq,rL,inC]
  refine QN hT QR (Qiy hT x.op o0 o1) rfl 1000 fun v hv=>?_
  subst hv
  rw [hrow]
  simp -implicitDefEqProofs (disch:=omega) only [go_sem,↓reduceIte,reduceCtorEq,rA,rq,rL,rrC]
  refine QN hT Qs h1 rfl 1000 fun v hv=>?_
  subst hv
  simp -implicitDefEqProofs (disch:=omega) only [go_sem,↓reduceIte,reduceCtorEq,rA,rq,rL,rT,Int.reduceBEq]
  rw [he]
end
section
attribute [local go_sem] aZ lR zA zL beq_self_eq_true ge_iff_le Qw QM QBd QBc QtO QtN QtM QBb QBa QA9 QA8 QA7 QA6 QA5 QA4 Qr QA3 QA2 QtL QtK QtJ QtI QtH QtG QtF QA1 QA0 QAZ QAY QAX QAW QAV QAU Yc QAb QAa Qz9 Qz8
theorem Qyt (hT:Qk P tab) (n:Int) (b:Nat) (h0:0≤n) (h1:n<4294967296) (hb:1≤b) (hb2:b≤32):Pure P G Qa9 [.int .i64 n,.int .i64 b] fun v=>v=.int .i64 (sgn n b):=by
 intro t
 obtain ⟨p1,p2⟩:=QbV (b - 1) 31 (by omega)
 obtain ⟨q1,q2⟩:=QbV b 32 hb2
 have e1:IntKind.i64.wrap ((b:Int) - 1)=((b - 1:Nat):Int):=by rw [wrap_i64 (by omega) (by omega)]; omega
 have e2:min (b - 1) 64=b - 1:=by omega
 have e3:min b 64=b:=by omega
 have e4:IntKind.i64.wrap (1 * 2 ^ (b - 1))=2 ^ (b - 1):=by rw [Int.one_mul]; exact wrap_i64 (by omega) (by omega)
 have e5:IntKind.i64.wrap (1 * 2 ^ b)=2 ^ b:=by rw [Int.one_mul]; exact wrap_i64 (by omega) (by omega)
 have e6:IntKind.i64.wrap (n - 2 ^ b)=n - 2 ^ b:=wrap_i64 (by omega) (by omega)
 refine Qp 0 (zL _) (Qt hT Xl (by simp [Yc]) (Qn 1000 ?_))
 simp -implicitDefEqProofs (disch:=omega) only [go_sem,↓reduceIte,reduceCtorEq,rq,e1,e2,e3,e4,e5,e6,Int.toNat_natCast]
 unfold sgn
 refine ⟨fun h=>?_,fun h=>?_⟩
 ·rw [if_pos h]
 ·rw [if_neg h]
theorem c_ris (hT:Qk P tab) (w:Int) (hw:u32 w) {r:RR} (hg:good r=true):Pure P G Qc7 [.int .u32 w,.agg (rrC r)] fun v=>v=.bool (is w r):=by
 intro t
 have hf:=QjO hg
 have g1:=QbD (G:=G) hT w 0 7 hw (by omega) (by omega)
 have g2:=QbD (G:=G) hT w 12 3 hw (by omega) (by omega)
 have g3:=QbD (G:=G) hT w 26 6 hw (by omega) (by omega)
 have g4:=QbD (G:=G) hT w 25 7 hw (by omega) (by omega)
 have bdec:∀ a b:Int,(a==b)=decide (a=b):=fun a b=>rfl
 have sdec:∀ a b:List UInt8,(a==b)=decide (a=b):=fun a b=>by rw [Bool.eq_iff_iff]; simp
 have fin:∀ b:Bool,b=is w r→V.bool b=V.bool (is w r):=fun b h=>by rw [h]
 have gg:=hg
 simp only [good,Bool.and_eq_true,decide_eq_true_eq] at gg
 have shr1:r.f7.fdiv (2 ^ min 1 32)=r.f7 / 2:=by rw [Int.fdiv_eq_ediv_of_nonneg _ (by decide)]; rfl
 rcases hf with hq | hq | hq | hq | hq | hq | hq | hq | hq
 ·have isE:is w r=decide (fld w 0 7=r.code∧fld w 12 3=r.f3∧fld w 25 7=r.f7):=by unfold is; simp [hq]
  refine Qp 0 (zL _) (Qt hT QV (by simp [QM]) (Qn 1000 ?_))
  simp -implicitDefEqProofs (disch:=omega) only [go_sem,↓reduceIte,reduceCtorEq,rA,rq,rL,rrC,hq,Int.reduceBEq]
  refine QN hT Qc g1 rfl 1000 fun v hv=>?_
  subst hv
  simp -implicitDefEqProofs (disch:=omega) only [go_sem,↓reduceIte,reduceCtorEq,rA,rq,rL]
  refine ⟨fun h0=>?_,fun h0=>fin _ (by rw [isE]; simp [*])⟩
  refine QN hT Qc g2 rfl 1000 fun v hv=>?_
  subst hv
  simp -implicitDefEqProofs (disch:=omega) only [go_sem,↓reduceIte,reduceCtorEq,rA,rq]
  refine ⟨fun h1=>?_,fun h1=>fin _ (by rw [isE]; simp [*])⟩
  refine QN hT Qc g4 rfl 1000 fun v hv=>?_
  subst hv
  simp -implicitDefEqProofs (disch:=omega) only [go_sem,↓reduceIte,reduceCtorEq,rA,rq]
  exact fin _ (by rw [isE]; simp [*])
 ·have isE:is w r=decide (fld w 0 7=r.code∧fld w 12 3=r.f3∧fld w 25 7=r.f7):=by unfold is; simp [hq]
  refine Qp 0 (zL _) (Qt hT QV (by simp [QM]) (Qn 1000 ?_))
  simp -implicitDefEqProofs (disch:=omega) only [go_sem,↓reduceIte,reduceCtorEq,rA,rq,rL,rrC,hq,Int.reduceBEq]
  refine QN hT Qc g1 rfl 1000 fun v hv=>?_
  subst hv
  simp -implicitDefEqProofs (disch:=omega) only [go_sem,↓reduceIte,reduceCtorEq,rA,rq,rL]
  refine ⟨fun h0=>?_,fun h0=>fin _ (by rw [isE]; simp [*])⟩
  refine QN hT Qc g2 rfl 1000 fun v hv=>?_
  subst hv
  simp -implicitDefEqProofs (disch:=omega) only [go_sem,↓reduceIte,reduceCtorEq,rA,rq]
  refine ⟨fun h1=>?_,fun h1=>fin _ (by rw [isE]; simp [*])⟩
  refine QN hT Qc g4 rfl 1000 fun v hv=>?_
  subst hv
  simp -implicitDefEqProofs (disch:=omega) only [go_sem,↓reduceIte,reduceCtorEq,rA,rq]
  exact fin _ (by rw [isE]; simp [*])
 ·have isE:is w r=decide (fld w 0 7=r.code∧fld w 12 3=r.f3):=by unfold is; simp [hq]
  refine Qp 0 (zL _) (Qt hT QV (by simp [QM]) (Qn 1000 ?_))
  simp -implicitDefEqProofs (disch:=omega) only [go_sem,↓reduceIte,reduceCtorEq,rA,rq,rL,rrC,hq,Int.reduceBEq]
  refine QN hT Qc g1 rfl 1000 fun v hv=>?_
  subst hv
  simp -implicitDefEqProofs (disch:=omega) only [go_sem,↓reduceIte,reduceCtorEq,rA,rq,rL]
  refine ⟨fun h0=>?_,fun h0=>fin _ (by rw [isE]; simp [*])⟩
  refine QN hT Qc g2 rfl 1000 fun v hv=>?_
  subst hv
  simp -implicitDefEqProofs (disch:=omega) only [go_sem,↓reduceIte,reduceCtorEq,rA,rq]
  exact fin _ (by rw [isE]; simp [*])
 ·have isE:is w r=decide (fld w 0 7=r.code∧fld w 12 3=r.f3∧fld w 26 6=r.f7 / 2):=by unfold is; simp [hq]
  refine Qp 0 (zL _) (Qt hT QV (by simp [QM]) (Qn 1000 ?_))
  simp -implicitDefEqProofs (disch:=omega) only [go_sem,↓reduceIte,reduceCtorEq,rA,rq,rL,rrC,hq,Int.reduceBEq]
  refine QN hT Qc g1 rfl 1000 fun v hv=>?_
  subst hv
  simp -implicitDefEqProofs (disch:=omega) only [go_sem,↓reduceIte,reduceCtorEq,rA,rq,rL]
  refine ⟨fun h0=>?_,fun h0=>fin _ (by rw [isE]; simp [*])⟩
  refine QN hT Qc g2 rfl 1000 fun v hv=>?_
  subst hv
  simp -implicitDefEqProofs (disch:=omega) only [go_sem,↓reduceIte,reduceCtorEq,rA,rq,Int.reduceToNat,Int.reduceLE,shr1]
  refine ⟨fun h1=>?_,fun h1=>fin _ (by rw [isE]; simp [*])⟩
  refine QN hT Qc g3 rfl 1000 fun v hv=>?_
  subst hv
  simp -implicitDefEqProofs (disch:=omega) only [go_sem,↓reduceIte,reduceCtorEq,rA,rq]
  exact fin _ (by rw [isE]; simp [*])
 ·have isE:is w r=decide (fld w 0 7=r.code∧fld w 12 3=r.f3):=by unfold is; simp [hq]
  refine Qp 0 (zL _) (Qt hT QV (by simp [QM]) (Qn 1000 ?_))
  simp -implicitDefEqProofs (disch:=omega) only [go_sem,↓reduceIte,reduceCtorEq,rA,rq,rL,rrC,hq,Int.reduceBEq]
  refine QN hT Qc g1 rfl 1000 fun v hv=>?_
  subst hv
  simp -implicitDefEqProofs (disch:=omega) only [go_sem,↓reduceIte,reduceCtorEq,rA,rq,rL]
  refine ⟨fun h0=>?_,fun h0=>fin _ (by rw [isE]; simp [*])⟩
  refine QN hT Qc g2 rfl 1000 fun v hv=>?_
  subst hv
  simp -implicitDefEqProofs (disch:=omega) only [go_sem,↓reduceIte,reduceCtorEq,rA,rq]
  exact fin _ (by rw [isE]; simp [*])
 ·have isE:is w r=decide (fld w 0 7=r.code∧fld w 12 3=r.f3):=by unfold is; simp [hq]
  refine Qp 0 (zL _) (Qt hT QV (by simp [QM]) (Qn 1000 ?_))
  simp -implicitDefEqProofs (disch:=omega) only [go_sem,↓reduceIte,reduceCtorEq,rA,rq,rL,rrC,hq,Int.reduceBEq]
  refine QN hT Qc g1 rfl 1000 fun v hv=>?_
  subst hv
  simp -implicitDefEqProofs (disch:=omega) only [go_sem,↓reduceIte,reduceCtorEq,rA,rq,rL]
  refine ⟨fun h0=>?_,fun h0=>fin _ (by rw [isE]; simp [*])⟩
  refine QN hT Qc g2 rfl 1000 fun v hv=>?_
  subst hv
  simp -implicitDefEqProofs (disch:=omega) only [go_sem,↓reduceIte,reduceCtorEq,rA,rq]
  exact fin _ (by rw [isE]; simp [*])
 ·have isE:is w r=decide (fld w 0 7=r.code):=by unfold is; simp [hq]
  refine Qp 0 (zL _) (Qt hT QV (by simp [QM]) (Qn 1000 ?_))
  simp -implicitDefEqProofs (disch:=omega) only [go_sem,↓reduceIte,reduceCtorEq,rA,rq,rL,rrC,hq,Int.reduceBEq]
  refine QN hT Qc g1 rfl 1000 fun v hv=>?_
  subst hv
  simp -implicitDefEqProofs (disch:=omega) only [go_sem,↓reduceIte,reduceCtorEq,rq]
  exact fin _ (by rw [isE]; simp [*])
 ·have isE:is w r=decide (fld w 0 7=r.code):=by unfold is; simp [hq]
  refine Qp 0 (zL _) (Qt hT QV (by simp [QM]) (Qn 1000 ?_))
  simp -implicitDefEqProofs (disch:=omega) only [go_sem,↓reduceIte,reduceCtorEq,rA,rq,rL,rrC,hq,Int.reduceBEq]
  refine QN hT Qc g1 rfl 1000 fun v hv=>?_
  subst hv
  simp -implicitDefEqProofs (disch:=omega) only [go_sem,↓reduceIte,reduceCtorEq,rq]
  exact fin _ (by rw [isE]; simp [*])
 ·have isE:is w r=decide (w=r.code∧r.name=[101,99,97,108,108]∨w=1048691∧r.name=[101,98,114,101,97,107]):=by unfold is; simp [hq]
  refine Qp 0 (zL _) (Qt hT QV (by simp [QM]) (Qn 1000 ?_))
  simp -implicitDefEqProofs (disch:=omega) only [go_sem,↓reduceIte,reduceCtorEq,rA,rq,rL,rrC,hq]
  repeat' (first | with_reducible refine And.intro ?_ ?_ | with_reducible intro _)
  all_goals (refine fin _ ?_; rw [isE]; clear g1 g2 g3 g4 isE; first | (simp [*]; done) | (simp only [sdec]; grind) | grind)
theorem Qby (j:Nat) (a b:Int) (ha:0≤a) (hb:0≤b) (hb':b<2 ^ j) (hd:a % 2 ^ j=0) (hs:a+b<4294967296):orI .u32 a b=a+b :=
 Qq4 .u32 j a b ha hb hb' hd (by simp [IntKind.max,IntKind.signed,IntKind.bits]; omega)
theorem Qwc (hT:Qk P tab) (w:Int) (hw:u32 w) {f:Int} (hf:Forms f):Pure P G Qba [.int .u32 w,.int .u8 f] fun v=>v=.int .i64 (number w f):=by
 intro t
 have cf:=fun a m ha hm=>QbD (G:=G) hT w a m hw ha hm
 have cs:=fun n b h0 h1 h2 h3=>Qyt (G:=G) hT n b h0 h1 h2 h3
 have fb:=Qrm w
 rcases hf with rfl | rfl | rfl | rfl | rfl | rfl | rfl | rfl | rfl | rfl
 ·refine Qp 0 (zL _) (Qt hT Qu (by simp [Qr]) (Qn 1000 ?_))
  simp -implicitDefEqProofs (disch:=omega) only [go_sem,↓reduceIte,reduceCtorEq,rq,Int.reduceBEq]
  simp [number]
 ·have b20:0≤fld w 20 5∧fld w 20 5<32:=fb 20 5
  have s1:IntKind.i64.wrap (fld w 20 5)=fld w 20 5:=wrap_i64 (by omega) (by omega)
  refine Qp 0 (zL _) (Qt hT Qu (by simp [Qr]) (Qn 1000 ?_))
  simp -implicitDefEqProofs (disch:=omega) only [go_sem,↓reduceIte,reduceCtorEq,rq,Int.reduceBEq]
  refine QN hT Qc (cf 20 5 (by omega) (by omega)) rfl 1000 fun v hv=>?_
  subst hv
  simp -implicitDefEqProofs (disch:=omega) only [go_sem,↓reduceIte,reduceCtorEq,rq,s1]
  simp [number]
 ·have b20:0≤fld w 20 12∧fld w 20 12<4096:=fb 20 12
  have s1:IntKind.i64.wrap (fld w 20 12)=fld w 20 12:=wrap_i64 (by omega) (by omega)
  refine Qp 0 (zL _) (Qt hT Qu (by simp [Qr]) (Qn 1000 ?_))
  simp -implicitDefEqProofs (disch:=omega) only [go_sem,↓reduceIte,reduceCtorEq,rq]
  refine QN hT Qc (cf 20 12 (by omega) (by omega)) rfl 1000 fun v hv=>?_
  subst hv
  simp -implicitDefEqProofs (disch:=omega) only [go_sem,↓reduceIte,reduceCtorEq,rq,s1]
  refine QN hT Xl (cs (fld w 20 12) 12 (by omega) (by omega) (by omega) (by omega)) rfl 1000 fun v hv=>?_
  subst hv
  simp -implicitDefEqProofs (disch:=omega) only [go_sem,↓reduceIte,reduceCtorEq,rq]
  simp [number]
 ·have b20:0≤fld w 20 6∧fld w 20 6<64:=fb 20 6
  have s1:IntKind.i64.wrap (fld w 20 6)=fld w 20 6:=wrap_i64 (by omega) (by omega)
  refine Qp 0 (zL _) (Qt hT Qu (by simp [Qr]) (Qn 1000 ?_))
  simp -implicitDefEqProofs (disch:=omega) only [go_sem,↓reduceIte,reduceCtorEq,rq,Int.reduceBEq]
  refine QN hT Qc (cf 20 6 (by omega) (by omega)) rfl 1000 fun v hv=>?_
  subst hv
  simp -implicitDefEqProofs (disch:=omega) only [go_sem,↓reduceIte,reduceCtorEq,rq,s1]
  simp [number]
 ·have b25:0≤fld w 25 7∧fld w 25 7<128:=fb 25 7
  have b7:0≤fld w 7 5∧fld w 7 5<32:=fb 7 5
  have s1:IntKind.u32.wrap (fld w 25 7 * 32)=fld w 25 7 * 32:=X8 _ (by simp [IntKind.min,IntKind.signed]; omega) (by simp [IntKind.max,IntKind.signed,IntKind.bits]; omega)
  have o1:orI .u32 (fld w 25 7 * 32) (fld w 7 5)=fld w 25 7 * 32+fld w 7 5:=Qby 5 _ _ (by omega) (by omega) (by omega) (by omega) (by omega)
  have s2:IntKind.i64.wrap (fld w 25 7 * 32+fld w 7 5)=fld w 25 7 * 32+fld w 7 5:=wrap_i64 (by omega) (by omega)
  refine Qp 0 (zL _) (Qt hT Qu (by simp [Qr]) (Qn 1000 ?_))
  simp -implicitDefEqProofs (disch:=omega) only [go_sem,↓reduceIte,reduceCtorEq,rq,Int.reduceBEq]
  refine QN hT Qc (cf 25 7 (by omega) (by omega)) rfl 1000 fun v hv=>?_
  subst hv
  simp -implicitDefEqProofs (disch:=omega) only [go_sem,↓reduceIte,reduceCtorEq,rq,Int.reduceToNat,Int.reduceLE,show min 5 32=5 from rfl,Int.reducePow,s1]
  refine QN hT Qc (cf 7 5 (by omega) (by omega)) rfl 1000 fun v hv=>?_
  subst hv
  simp -implicitDefEqProofs (disch:=omega) only [go_sem,↓reduceIte,reduceCtorEq,rq,o1,s2]
  refine QN hT Xl (cs (fld w 25 7 * 32+fld w 7 5) 12 (by omega) (by omega) (by omega) (by omega)) rfl 1000 fun v hv=>?_
  subst hv
  simp -implicitDefEqProofs (disch:=omega) only [go_sem,↓reduceIte,reduceCtorEq,rq]
  simp [number]
 ·have b31:0≤fld w 31 1∧fld w 31 1<2:=fb 31 1
  have b7:0≤fld w 7 1∧fld w 7 1<2:=fb 7 1
  have b25:0≤fld w 25 6∧fld w 25 6<64:=fb 25 6
  have b8:0≤fld w 8 4∧fld w 8 4<16:=fb 8 4
  have s1:IntKind.u32.wrap (fld w 31 1 * 4096)=fld w 31 1 * 4096:=X8 _ (by simp [IntKind.min,IntKind.signed]; omega) (by simp [IntKind.max,IntKind.signed,IntKind.bits]; omega)
  have s2:IntKind.u32.wrap (fld w 7 1 * 2048)=fld w 7 1 * 2048:=X8 _ (by simp [IntKind.min,IntKind.signed]; omega) (by simp [IntKind.max,IntKind.signed,IntKind.bits]; omega)
  have o1:orI .u32 (fld w 31 1 * 4096) (fld w 7 1 * 2048)=fld w 31 1 * 4096+fld w 7 1 * 2048:=Qby 12 _ _ (by omega) (by omega) (by omega) (by omega) (by omega)
  have s3:IntKind.u32.wrap (fld w 25 6 * 32)=fld w 25 6 * 32:=X8 _ (by simp [IntKind.min,IntKind.signed]; omega) (by simp [IntKind.max,IntKind.signed,IntKind.bits]; omega)
  have o2:orI .u32 (fld w 31 1 * 4096+fld w 7 1 * 2048) (fld w 25 6 * 32)=fld w 31 1 * 4096+fld w 7 1 * 2048+fld w 25 6 * 32:=Qby 11 _ _ (by omega) (by omega) (by omega) (by omega) (by omega)
  have s4:IntKind.u32.wrap (fld w 8 4 * 2)=fld w 8 4 * 2:=X8 _ (by simp [IntKind.min,IntKind.signed]; omega) (by simp [IntKind.max,IntKind.signed,IntKind.bits]; omega)
  have o3:orI .u32 (fld w 31 1 * 4096+fld w 7 1 * 2048+fld w 25 6 * 32) (fld w 8 4 * 2)=fld w 31 1 * 4096+fld w 7 1 * 2048+fld w 25 6 * 32+fld w 8 4 * 2:=Qby 5 _ _ (by omega) (by omega) (by omega) (by omega) (by omega)
  have s5:IntKind.i64.wrap (fld w 31 1 * 4096+fld w 7 1 * 2048+fld w 25 6 * 32+fld w 8 4 * 2)=fld w 31 1 * 4096+fld w 7 1 * 2048+fld w 25 6 * 32+fld w 8 4 * 2:=wrap_i64 (by omega) (by omega)
  refine Qp 0 (zL _) (Qt hT Qu (by simp [Qr]) (Qn 1000 ?_))
  simp -implicitDefEqProofs (disch:=omega) only [go_sem,↓reduceIte,reduceCtorEq,rq,Int.reduceBEq]
  refine QN hT Qc (cf 31 1 (by omega) (by omega)) rfl 1000 fun v hv=>?_
  subst hv
  simp -implicitDefEqProofs (disch:=omega) only [go_sem,↓reduceIte,reduceCtorEq,rq,Int.reduceToNat,Int.reduceLE,show min 12 32=12 from rfl,Int.reducePow,s1]
  refine QN hT Qc (cf 7 1 (by omega) (by omega)) rfl 1000 fun v hv=>?_
  subst hv
  simp -implicitDefEqProofs (disch:=omega) only [go_sem,↓reduceIte,reduceCtorEq,rq,Int.reduceToNat,Int.reduceLE,show min 11 32=11 from rfl,Int.reducePow,s2,o1]
  refine QN hT Qc (cf 25 6 (by omega) (by omega)) rfl 1000 fun v hv=>?_
  subst hv
  simp -implicitDefEqProofs (disch:=omega) only [go_sem,↓reduceIte,reduceCtorEq,rq,Int.reduceToNat,Int.reduceLE,show min 5 32=5 from rfl,Int.reducePow,s3,o2]
  refine QN hT Qc (cf 8 4 (by omega) (by omega)) rfl 1000 fun v hv=>?_
  subst hv
  simp -implicitDefEqProofs (disch:=omega) only [go_sem,↓reduceIte,reduceCtorEq,rq,Int.reduceToNat,Int.reduceLE,show min 1 32=1 from rfl,Int.reducePow,s4,o3,s5]
  refine QN hT Xl (cs (fld w 31 1 * 4096+fld w 7 1 * 2048+fld w 25 6 * 32+fld w 8 4 * 2) 13 (by omega) (by omega) (by omega) (by omega)) rfl 1000 fun v hv=>?_
  subst hv
  simp -implicitDefEqProofs (disch:=omega) only [go_sem,↓reduceIte,reduceCtorEq,rq]
  simp [number]
 ·have b12:0≤fld w 12 20∧fld w 12 20<1048576:=fb 12 20
  have s1:IntKind.i64.wrap (fld w 12 20)=fld w 12 20:=wrap_i64 (by omega) (by omega)
  have s2:IntKind.i64.wrap (fld w 12 20 * 4096)=fld w 12 20 * 4096:=wrap_i64 (by omega) (by omega)
  refine Qp 0 (zL _) (Qt hT Qu (by simp [Qr]) (Qn 1000 ?_))
  simp -implicitDefEqProofs (disch:=omega) only [go_sem,↓reduceIte,reduceCtorEq,rq,Int.reduceBEq]
  refine QN hT Qc (cf 12 20 (by omega) (by omega)) rfl 1000 fun v hv=>?_
  subst hv
  simp -implicitDefEqProofs (disch:=omega) only [go_sem,↓reduceIte,reduceCtorEq,rq,Int.reduceToNat,Int.reduceLE,show min 12 64=12 from rfl,Int.reducePow,s1,s2]
  refine QN hT Xl (cs (fld w 12 20 * 4096) 32 (by omega) (by omega) (by omega) (by omega)) rfl 1000 fun v hv=>?_
  subst hv
  simp -implicitDefEqProofs (disch:=omega) only [go_sem,↓reduceIte,reduceCtorEq,rq]
  simp [number]
 ·have b31:0≤fld w 31 1∧fld w 31 1<2:=fb 31 1
  have b12:0≤fld w 12 8∧fld w 12 8<256:=fb 12 8
  have b20:0≤fld w 20 1∧fld w 20 1<2:=fb 20 1
  have b21:0≤fld w 21 10∧fld w 21 10<1024:=fb 21 10
  have s1:IntKind.u32.wrap (fld w 31 1 * 1048576)=fld w 31 1 * 1048576:=X8 _ (by simp [IntKind.min,IntKind.signed]; omega) (by simp [IntKind.max,IntKind.signed,IntKind.bits]; omega)
  have s2:IntKind.u32.wrap (fld w 12 8 * 4096)=fld w 12 8 * 4096:=X8 _ (by simp [IntKind.min,IntKind.signed]; omega) (by simp [IntKind.max,IntKind.signed,IntKind.bits]; omega)
  have o1:orI .u32 (fld w 31 1 * 1048576) (fld w 12 8 * 4096)=fld w 31 1 * 1048576+fld w 12 8 * 4096:=Qby 20 _ _ (by omega) (by omega) (by omega) (by omega) (by omega)
  have s3:IntKind.u32.wrap (fld w 20 1 * 2048)=fld w 20 1 * 2048:=X8 _ (by simp [IntKind.min,IntKind.signed]; omega) (by simp [IntKind.max,IntKind.signed,IntKind.bits]; omega)
  have o2:orI .u32 (fld w 31 1 * 1048576+fld w 12 8 * 4096) (fld w 20 1 * 2048)=fld w 31 1 * 1048576+fld w 12 8 * 4096+fld w 20 1 * 2048:=Qby 12 _ _ (by omega) (by omega) (by omega) (by omega) (by omega)
  have s4:IntKind.u32.wrap (fld w 21 10 * 2)=fld w 21 10 * 2:=X8 _ (by simp [IntKind.min,IntKind.signed]; omega) (by simp [IntKind.max,IntKind.signed,IntKind.bits]; omega)
  have o3:orI .u32 (fld w 31 1 * 1048576+fld w 12 8 * 4096+fld w 20 1 * 2048) (fld w 21 10 * 2)=fld w 31 1 * 1048576+fld w 12 8 * 4096+fld w 20 1 * 2048+fld w 21 10 * 2:=Qby 11 _ _ (by omega) (by omega) (by omega) (by omega) (by omega)
  have s5:IntKind.i64.wrap (fld w 31 1 * 1048576+fld w 12 8 * 4096+fld w 20 1 * 2048+fld w 21 10 * 2)=fld w 31 1 * 1048576+fld w 12 8 * 4096+fld w 20 1 * 2048+fld w 21 10 * 2:=wrap_i64 (by omega) (by omega)
  refine Qp 0 (zL _) (Qt hT Qu (by simp [Qr]) (Qn 1000 ?_))
  simp -implicitDefEqProofs (disch:=omega) only [go_sem,↓reduceIte,reduceCtorEq,rq,Int.reduceBEq]
  refine QN hT Qc (cf 31 1 (by omega) (by omega)) rfl 1000 fun v hv=>?_
  subst hv
  simp -implicitDefEqProofs (disch:=omega) only [go_sem,↓reduceIte,reduceCtorEq,rq,Int.reduceToNat,Int.reduceLE,show min 20 32=20 from rfl,Int.reducePow,s1]
  refine QN hT Qc (cf 12 8 (by omega) (by omega)) rfl 1000 fun v hv=>?_
  subst hv
  simp -implicitDefEqProofs (disch:=omega) only [go_sem,↓reduceIte,reduceCtorEq,rq,Int.reduceToNat,Int.reduceLE,show min 12 32=12 from rfl,Int.reducePow,s2,o1]
  refine QN hT Qc (cf 20 1 (by omega) (by omega)) rfl 1000 fun v hv=>?_
  subst hv
  simp -implicitDefEqProofs (disch:=omega) only [go_sem,↓reduceIte,reduceCtorEq,rq,Int.reduceToNat,Int.reduceLE,show min 11 32=11 from rfl,Int.reducePow,s3,o2]
  refine QN hT Qc (cf 21 10 (by omega) (by omega)) rfl 1000 fun v hv=>?_
  subst hv
  simp -implicitDefEqProofs (disch:=omega) only [go_sem,↓reduceIte,reduceCtorEq,rq,Int.reduceToNat,Int.reduceLE,show min 1 32=1 from rfl,Int.reducePow,s4,o3,s5]
  refine QN hT Xl (cs (fld w 31 1 * 1048576+fld w 12 8 * 4096+fld w 20 1 * 2048+fld w 21 10 * 2) 21 (by omega) (by omega) (by omega) (by omega)) rfl 1000 fun v hv=>?_
  subst hv
  simp -implicitDefEqProofs (disch:=omega) only [go_sem,↓reduceIte,reduceCtorEq,rq]
  simp [number]
 ·refine Qp 0 (zL _) (Qt hT Qu (by simp [Qr]) (Qn 1000 ?_))
  simp -implicitDefEqProofs (disch:=omega) only [go_sem,↓reduceIte,reduceCtorEq,rq,Int.reduceBEq]
  simp [number]
 ·refine Qp 0 (zL _) (Qt hT Qu (by simp [Qr]) (Qn 1000 ?_))
  simp -implicitDefEqProofs (disch:=omega) only [go_sem,↓reduceIte,reduceCtorEq,rq,Int.reduceBEq]
  simp [number]
end
end Go.Proofs.YtaidbdgndljaeaaGreatDoor
