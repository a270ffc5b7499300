/- Ours. -/
import Derived.Test.YtbdhjeojcpgblaaGreatDoorJ19
import Derived.Test.YtbdhjeojcpgblaaGreatDoorY
open Nat renaming reduceEqDiff → rq, reduceAdd → rA, reduceLeDiff → rL, reduceLT → rT, zero_add → zA, le_refl → lR, zero_le → zL, add_zero → aZ
open List renaming length_cons → lC, length_nil → lN, take_succ_cons → tSq, length_append → lA, nil_append → nA, cons_append → cA, append_assoc → aA, take_nil → tN, take_zero → tZ, length_map → lM
open Bool renaming not_false → nF, not_true → nT
namespace Go.Proofs.YtbdhjeojcpgblaaGreatDoor
open Go Go.Am Go.Rv Go.Rg
set_option maxRecDepth 100000
set_option maxHeartbeats 4000000
section
attribute [local go_sem] nF aA List.append_nil cA List.getD_cons_succ List.getD_cons_zero lC lN nA tZ lR zA zL V.cells and_true false_implies proofmarklaw23_works Qzw Qzv Qq4 Qq3 Qq2 Qq1 Qzu Qzt Qzs Qzr Qzq Qzp Qzo Qzn
abbrev e0:List V:=[.int .u8 0,.int .i64 0,.int .i64 0,.int .i64 (-1),.int .i64 (-1),.int .u8 0]
def e4:List V:=[.int .u8 1,.int .i64 5,.int .i64 0,.int .i64 gq4.1,.int .i64 (-1),.int .u8 0]
abbrev QTN (v0:Nat):Fr:=[(2,.lst 5 [.agg lwF] false),(4,.ptr 1 v0 0),(5,sV rs0),(7,.int .i64 5),(8,sV rs1),(9,.ref (.agg e0) 0)]
abbrev QTM (v0:Nat):Fr:=[(2,.lst 5 [.agg lwF] false),(4,.ptr 1 v0 0),(5,sV rs0),(7,.int .i64 5),(8,sV rs1),(9,.ref (.agg e0) 0),(10,sV rs2),(11,.ref (.agg e0) 0)]
abbrev QTL (v0:Nat):Fr:=[(2,.lst 5 [.agg lwF] false),(4,.ptr 1 v0 0),(5,sV rs0),(7,.int .i64 5),(8,sV rs1),(9,.ref (.agg e0) 0),(10,sV rs2),(11,.ref (.agg e0) 0),(12,sV rs3),(13,.ref (.agg e0) 0)]
abbrev lwB4 (v0:Nat):Fr:=[(4,.ptr 1 v0 0),(5,sV rs0),(7,.int .i64 5),(8,sV rs1),(9,.ref (.agg e0) 0),(10,sV rs2),(11,.ref (.agg e0) 0),(12,sV rs3),(13,.ref (.agg e0) 0),(15,.ref (.agg e4) 0)]
theorem Qr9 (k w:Nat) (cs:List V) (rs:List Int) (sure:Bool):(sC rs (.lst 1 [] false) sure).map (XR k w cs)=sC rs (.lst 1 [] false) sure:=by
 unfold sC
 rw [List.map_append,Qsa]
 rfl
theorem QP2 {G:Nat→Option V} {n:Nat} {fr:Fr} {fmt:Int→List UInt8} {v0 v1 v2 v3 v4 t a b Ta Tb:Nat} {L:List Nd} {ca cb:List V} (hab:cb.map (XR 5 a ca)=cb) (na:Qb ca=true) (nb:Qb cb=true) :
 Shift G n 0 fr ⟨t,kG fmt v0 v1 v2 v3 v4 L++[some (.arr a Ta ca),some (.arr b Tb cb)]⟩ (Qby 6 b cb (Qby 5 a ca fr)) ⟨t,kG fmt v0 v1 v2 v3 v4 L⟩:=by
 have h1:=Qwc (G:=G) (n:=n) (fr:=fr) (fmt:=fmt) (v0:=v0) (v1:=v1) (v2:=v2) (v3:=v3) (v4:=v4) (t:=t) (k:=0) (v:=a) (T:=Ta) (L:=L) (ex:=[some (.arr a Ta ca),some (.arr b Tb cb)]) (cs:=ca) rfl na
 have e:QN (XR (5+0) a ca) 0 ([some (Ob.arr a Ta ca),some (.arr b Tb cb)].set 0 none)=[none,some (.arr b Tb cb)]:=by
  show [none,some (Ob.arr b Tb (cb.map (XR 5 a ca)))]=_
  rw [hab]
 rw [e] at h1
 exact h1.trans ((Qwc (k:=1) (v:=b) (T:=Tb) (cs:=cb) rfl nb).trans QBG)
section
variable {fmt:Int→List UInt8} {v0 v1 v2 v3 v4:Nat} {L:List Nd} {y0 y1 x:Option Ob} {zs:List (Option Ob)}
theorem Qo7:(kG fmt v0 v1 v2 v3 v4 L++y0::zs)[5]?=some y0:=rfl
theorem Qo6:(kG fmt v0 v1 v2 v3 v4 L++y0::y1::zs)[6]?=some y1:=rfl
theorem Qeg:(kG fmt v0 v1 v2 v3 v4 L++y0::zs).set 5 x=kG fmt v0 v1 v2 v3 v4 L++x::zs:=rfl
theorem Qef:(kG fmt v0 v1 v2 v3 v4 L++y0::y1::zs).set 6 x=kG fmt v0 v1 v2 v3 v4 L++y0::x::zs:=rfl
theorem Qeh:(kG fmt v0 v1 v2 v3 v4 L++[y0]).length=6:=rfl
end
theorem QEU (rs:List Int) (b:Bool):ones (sC rs (.lst 1 [] false) b):=by
 unfold sC Xg
 intro c hc
 simp only [List.mem_append,List.mem_map,List.mem_cons,List.not_mem_nil,or_false] at hc
 rcases hc with ⟨r,_,rfl⟩ | rfl | rfl <;> rfl
theorem Qce (rs:List Int) (x:V) (b:Bool):sC rs x b≠[]:=by simp [sC]
variable {Q:V→H→Prop} {v0 v1 v2 v3 v4 t:Nat}
theorem reg0 (hT:Qf Tryz.prog tab) (F:Fmt Tryz.prog G0) (SO:Qe8 Tryz.prog) (hP:Bits Tryz.prog G0) (k:∀ v2 v3 v4 t,W Tryz.prog G0 159 0 (X8 8 proofmarklaw23_works.body) (QTN v0) ⟨t,kG F.fmt v0 v1 v2 v3 v4 gq1.2⟩ (QkX G0 proofmarklaw23_works.res Q)) :
 W Tryz.prog G0 159 0 (X8 7 proofmarklaw23_works.body) (lwB v0) ⟨t,kG F.fmt v0 v1 v2 v3 v4 g0⟩ (QkX G0 proofmarklaw23_works.res Q):=by
 obtain ⟨T2,hT2⟩:∃ c,c=X8 8 proofmarklaw23_works.body:=⟨_,rfl⟩
 rw [dw7,← hT2]
 have hsl:(sC rs0 (V.lst 1 [] false) true).length=34:=by kernel_rfl
 have htk:List.take 34 (sC rs0 (V.lst 1 [] false) true)=sC rs0 (V.lst 1 [] false) true:=List.take_of_length_le (by omega)
 refine Qg 40 ?_
 refine ya ?_
 have hfC:lwF.length=5:=rfl
 have hfT:lwF.take 5=lwF:=rfl
 simp only [sV,QEb,hsl,htk,hfC,hfT,List.drop_zero,Qu,lR,rA,go_sem]
 have hst:=fun v2 v3 v4 t ex hex=>sst0 hT F SO hP (v0:=v0) (v1:=v1) (v2:=v2) (v3:=v3) (v4:=v4) (t:=t) (ex:=ex) hex
 have s0:Still []:=fun k w cs=>rfl
 have h0:=hst v2 v3 v4 t [] s0
 rw [List.append_nil] at h0
 have hr:(sC rs1 (V.lst 1 [] false) true).length=34:=by kernel_rfl
 have hon:ones (sC rs1 (V.lst 1 [] false) true)=True:=eq_true (QEU _ _)
 have hdr:List.drop 34 (sC rs1 (V.lst 1 [] false) true)=[]:=List.drop_eq_nil_of_le (by omega)
 have hlast:∀ (u:Nat) (w2 w3 w4:Nat) (a b:Nat) (fr:Fr),Qb9 (Qby 6 b (e0) (Qby 5 a (sC rs1 (V.lst 1 [] false) true) fr)) (QTN v0)→W Tryz.prog G0 159 0 T2 fr ⟨u,kG F.fmt v0 v1 w2 w3 w4 gq1.2++[some (.arr a 40 (sC rs1 (V.lst 1 [] false) true)),some (.arr b 56 (e0))]⟩ (fun e fr σ=>sem Tryz.prog G0 159 0 (QkX G0 [RV.tmp 0] Q) [] e fr σ):=fun u w2 w3 w4 a b fr hf=>by
  refine QaN (QP2 rfl (QpH _ _) rfl) ?_
  refine Qb5 (QTN v0) hf ?_
  rw [hT2]
  exact k w2 w3 w4 u
 have hlast2:∀ (u:Nat) (w2 w3 w4:Nat) (a b:Nat) (fr:Fr),Qb9 (Qby 6 b (sC rs1 (V.lst 1 [] false) true) (Qby 5 a (e0) fr)) (QTN v0)→W Tryz.prog G0 159 0 T2 fr ⟨u,kG F.fmt v0 v1 w2 w3 w4 gq1.2++[some (.arr a 56 (e0)),some (.arr b 40 (sC rs1 (V.lst 1 [] false) true))]⟩ (fun e fr σ=>sem Tryz.prog G0 159 0 (QkX G0 [RV.tmp 0] Q) [] e fr σ):=fun u w2 w3 w4 a b fr hf=>by
  refine QaN (QP2 (Qr9 _ _ _ _ _) rfl (QpH _ _)) ?_
  refine Qb5 (QTN v0) hf ?_
  rw [hT2]
  exact k w2 w3 w4 u
 refine ⟨?_,⟨?_,?_⟩,?_,?_⟩
 ·refine call hT QE h0 9 fun v σ hv=>?_
  obtain ⟨rfl,t1,a2,a3,a4,ht1,rfl⟩:=hv
  rw [List.append_nil]
  simp -implicitDefEqProofs (disch:=omega) only [go_sem,↓reduceIte,rA,rq,rT,eff,QEb,Qeh,Qo7,Qo6,Qeg,Qef,hr,hon]
  refine ⟨hlast _ _ _ _ _ _ _ ?_,hlast2 _ _ _ _ _ _ _ ?_⟩
  ·simp only [Qr,Qv,XR,rq,false_and,and_self,if_false,if_true,Qce,reduceCtorEq]; exact ⟨rfl,rfl,rfl,rfl,rfl,rfl,trivial⟩
  ·simp only [Qr,Qv,XR,rq,false_and,and_self,if_false,if_true,Qce,reduceCtorEq]; exact ⟨rfl,rfl,rfl,rfl,rfl,rfl,trivial⟩
 ·refine call hT QE (hst _ _ _ _ [_] fun k w cs=>rfl) 7 fun v σ hv=>?_
  obtain ⟨rfl,t1,a2,a3,a4,ht1,rfl⟩:=hv
  simp -implicitDefEqProofs (disch:=omega) only [go_sem,↓reduceIte,rA,rq,rT,eff,Qeh,Qo7,Qo6,Qeg,Qef,hr,hon]
  refine hlast _ _ _ _ _ _ _ ?_
  simp only [Qr,Qv,XR,rq,false_and,and_self,if_false,if_true,Qce,reduceCtorEq]; exact ⟨rfl,rfl,rfl,rfl,rfl,rfl,trivial⟩
 ·refine call hT QE (hst _ _ _ _ [_,_] fun k w cs=>rfl) 6 fun v σ hv=>?_
  obtain ⟨rfl,t1,a2,a3,a4,ht1,rfl⟩:=hv
  simp -implicitDefEqProofs (disch:=omega) only [go_sem,↓reduceIte,rA,rq,rT,eff,Qeh,Qo7,Qo6,Qeg,Qef,hr,hon]
  refine hlast _ _ _ _ _ _ _ ?_
  simp only [Qr,Qv,XR,rq,false_and,and_self,if_false,if_true,Qce,reduceCtorEq]; exact ⟨rfl,rfl,rfl,rfl,rfl,rfl,trivial⟩
 ·refine call hT QE (hst _ _ _ _ [_] fun k w cs=>rfl) 7 fun v σ hv=>?_
  obtain ⟨rfl,t1,a2,a3,a4,ht1,rfl⟩:=hv
  simp -implicitDefEqProofs (disch:=omega) only [go_sem,↓reduceIte,rA,rq,rT,eff,Qeh,Qo7,Qo6,Qeg,Qef,hr,hon]
  refine hlast2 _ _ _ _ _ _ _ ?_
  simp only [Qr,Qv,XR,rq,false_and,and_self,if_false,if_true,Qce,reduceCtorEq]; exact ⟨rfl,rfl,rfl,rfl,rfl,rfl,trivial⟩
 ·refine call hT QE (hst _ _ _ _ [_,_] fun k w cs=>rfl) 6 fun v σ hv=>?_
  obtain ⟨rfl,t1,a2,a3,a4,ht1,rfl⟩:=hv
  simp -implicitDefEqProofs (disch:=omega) only [go_sem,↓reduceIte,rA,rq,rT,eff,Qeh,Qo7,Qo6,Qeg,Qef,hr,hon]
  refine hlast2 _ _ _ _ _ _ _ ?_
  simp only [Qr,Qv,XR,rq,false_and,and_self,if_false,if_true,Qce,reduceCtorEq]; exact ⟨rfl,rfl,rfl,rfl,rfl,rfl,trivial⟩
theorem reg1 (hT:Qf Tryz.prog tab) (F:Fmt Tryz.prog G0) (SO:Qe8 Tryz.prog) (hP:Bits Tryz.prog G0) (k:∀ v2 v3 v4 t,W Tryz.prog G0 159 0 (X8 9 proofmarklaw23_works.body) (QTM v0) ⟨t,kG F.fmt v0 v1 v2 v3 v4 gq2.2⟩ (QkX G0 proofmarklaw23_works.res Q)) :
 W Tryz.prog G0 159 0 (X8 8 proofmarklaw23_works.body) (QTN v0) ⟨t,kG F.fmt v0 v1 v2 v3 v4 gq1.2⟩ (QkX G0 proofmarklaw23_works.res Q):=by
 obtain ⟨T2,hT2⟩:∃ c,c=X8 9 proofmarklaw23_works.body:=⟨_,rfl⟩
 rw [dw8,← hT2]
 have hsl:(sC rs0 (V.lst 1 [] false) true).length=34:=by kernel_rfl
 have htk:List.take 34 (sC rs0 (V.lst 1 [] false) true)=sC rs0 (V.lst 1 [] false) true:=List.take_of_length_le (by omega)
 refine Qg 40 ?_
 refine ya ?_
 have hfC:lwF.length=5:=rfl
 have hfT:lwF.take 5=lwF:=rfl
 simp only [sV,QEb,hsl,htk,hfC,hfT,List.drop_zero,Qu,lR,rA,go_sem]
 have hst:=fun v2 v3 v4 t ex hex=>sst1 hT F SO hP (v0:=v0) (v1:=v1) (v2:=v2) (v3:=v3) (v4:=v4) (t:=t) (ex:=ex) hex
 have s0:Still []:=fun k w cs=>rfl
 have h0:=hst v2 v3 v4 t [] s0
 rw [List.append_nil] at h0
 have hr:(sC rs2 (V.lst 1 [] false) true).length=34:=by kernel_rfl
 have hon:ones (sC rs2 (V.lst 1 [] false) true)=True:=eq_true (QEU _ _)
 have hdr:List.drop 34 (sC rs2 (V.lst 1 [] false) true)=[]:=List.drop_eq_nil_of_le (by omega)
 have hlast:∀ (u:Nat) (w2 w3 w4:Nat) (a b:Nat) (fr:Fr),Qb9 (Qby 6 b (e0) (Qby 5 a (sC rs2 (V.lst 1 [] false) true) fr)) (QTM v0)→W Tryz.prog G0 159 0 T2 fr ⟨u,kG F.fmt v0 v1 w2 w3 w4 gq2.2++[some (.arr a 40 (sC rs2 (V.lst 1 [] false) true)),some (.arr b 56 (e0))]⟩ (fun e fr σ=>sem Tryz.prog G0 159 0 (QkX G0 [RV.tmp 0] Q) [] e fr σ):=fun u w2 w3 w4 a b fr hf=>by
  refine QaN (QP2 rfl (QpH _ _) rfl) ?_
  refine Qb5 (QTM v0) hf ?_
  rw [hT2]
  exact k w2 w3 w4 u
 have hlast2:∀ (u:Nat) (w2 w3 w4:Nat) (a b:Nat) (fr:Fr),Qb9 (Qby 6 b (sC rs2 (V.lst 1 [] false) true) (Qby 5 a (e0) fr)) (QTM v0)→W Tryz.prog G0 159 0 T2 fr ⟨u,kG F.fmt v0 v1 w2 w3 w4 gq2.2++[some (.arr a 56 (e0)),some (.arr b 40 (sC rs2 (V.lst 1 [] false) true))]⟩ (fun e fr σ=>sem Tryz.prog G0 159 0 (QkX G0 [RV.tmp 0] Q) [] e fr σ):=fun u w2 w3 w4 a b fr hf=>by
  refine QaN (QP2 (Qr9 _ _ _ _ _) rfl (QpH _ _)) ?_
  refine Qb5 (QTM v0) hf ?_
  rw [hT2]
  exact k w2 w3 w4 u
 refine ⟨?_,⟨?_,?_⟩,?_,?_⟩
 ·refine call hT QE h0 9 fun v σ hv=>?_
  obtain ⟨rfl,t1,a2,a3,a4,ht1,rfl⟩:=hv
  rw [List.append_nil]
  simp -implicitDefEqProofs (disch:=omega) only [go_sem,↓reduceIte,rA,rq,rT,eff,QEb,Qeh,Qo7,Qo6,Qeg,Qef,hr,hon]
  refine ⟨hlast _ _ _ _ _ _ _ ?_,hlast2 _ _ _ _ _ _ _ ?_⟩
  ·simp only [Qr,Qv,XR,rq,false_and,and_self,if_false,if_true,Qce,reduceCtorEq]; exact ⟨rfl,rfl,rfl,rfl,rfl,rfl,rfl,rfl,trivial⟩
  ·simp only [Qr,Qv,XR,rq,false_and,and_self,if_false,if_true,Qce,reduceCtorEq]; exact ⟨rfl,rfl,rfl,rfl,rfl,rfl,rfl,rfl,trivial⟩
 ·refine call hT QE (hst _ _ _ _ [_] fun k w cs=>rfl) 7 fun v σ hv=>?_
  obtain ⟨rfl,t1,a2,a3,a4,ht1,rfl⟩:=hv
  simp -implicitDefEqProofs (disch:=omega) only [go_sem,↓reduceIte,rA,rq,rT,eff,Qeh,Qo7,Qo6,Qeg,Qef,hr,hon]
  refine hlast _ _ _ _ _ _ _ ?_
  simp only [Qr,Qv,XR,rq,false_and,and_self,if_false,if_true,Qce,reduceCtorEq]; exact ⟨rfl,rfl,rfl,rfl,rfl,rfl,rfl,rfl,trivial⟩
 ·refine call hT QE (hst _ _ _ _ [_,_] fun k w cs=>rfl) 6 fun v σ hv=>?_
  obtain ⟨rfl,t1,a2,a3,a4,ht1,rfl⟩:=hv
  simp -implicitDefEqProofs (disch:=omega) only [go_sem,↓reduceIte,rA,rq,rT,eff,Qeh,Qo7,Qo6,Qeg,Qef,hr,hon]
  refine hlast _ _ _ _ _ _ _ ?_
  simp only [Qr,Qv,XR,rq,false_and,and_self,if_false,if_true,Qce,reduceCtorEq]; exact ⟨rfl,rfl,rfl,rfl,rfl,rfl,rfl,rfl,trivial⟩
 ·refine call hT QE (hst _ _ _ _ [_] fun k w cs=>rfl) 7 fun v σ hv=>?_
  obtain ⟨rfl,t1,a2,a3,a4,ht1,rfl⟩:=hv
  simp -implicitDefEqProofs (disch:=omega) only [go_sem,↓reduceIte,rA,rq,rT,eff,Qeh,Qo7,Qo6,Qeg,Qef,hr,hon]
  refine hlast2 _ _ _ _ _ _ _ ?_
  simp only [Qr,Qv,XR,rq,false_and,and_self,if_false,if_true,Qce,reduceCtorEq]; exact ⟨rfl,rfl,rfl,rfl,rfl,rfl,rfl,rfl,trivial⟩
 ·refine call hT QE (hst _ _ _ _ [_,_] fun k w cs=>rfl) 6 fun v σ hv=>?_
  obtain ⟨rfl,t1,a2,a3,a4,ht1,rfl⟩:=hv
  simp -implicitDefEqProofs (disch:=omega) only [go_sem,↓reduceIte,rA,rq,rT,eff,Qeh,Qo7,Qo6,Qeg,Qef,hr,hon]
  refine hlast2 _ _ _ _ _ _ _ ?_
  simp only [Qr,Qv,XR,rq,false_and,and_self,if_false,if_true,Qce,reduceCtorEq]; exact ⟨rfl,rfl,rfl,rfl,rfl,rfl,rfl,rfl,trivial⟩
theorem reg2 (hT:Qf Tryz.prog tab) (F:Fmt Tryz.prog G0) (SO:Qe8 Tryz.prog) (hP:Bits Tryz.prog G0) (k:∀ v2 v3 v4 t,W Tryz.prog G0 159 0 (X8 10 proofmarklaw23_works.body) (QTL v0) ⟨t,kG F.fmt v0 v1 v2 v3 v4 gq3.2⟩ (QkX G0 proofmarklaw23_works.res Q)) :
 W Tryz.prog G0 159 0 (X8 9 proofmarklaw23_works.body) (QTM v0) ⟨t,kG F.fmt v0 v1 v2 v3 v4 gq2.2⟩ (QkX G0 proofmarklaw23_works.res Q):=by
 obtain ⟨T2,hT2⟩:∃ c,c=X8 10 proofmarklaw23_works.body:=⟨_,rfl⟩
 rw [dw9,← hT2]
 have hsl:(sC rs0 (V.lst 1 [] false) true).length=34:=by kernel_rfl
 have htk:List.take 34 (sC rs0 (V.lst 1 [] false) true)=sC rs0 (V.lst 1 [] false) true:=List.take_of_length_le (by omega)
 refine Qg 40 ?_
 refine ya ?_
 have hfC:lwF.length=5:=rfl
 have hfT:lwF.take 5=lwF:=rfl
 simp only [sV,QEb,hsl,htk,hfC,hfT,List.drop_zero,Qu,lR,rA,go_sem]
 have hst:=fun v2 v3 v4 t ex hex=>sst2 hT F  (v0:=v0) (v1:=v1) (v2:=v2) (v3:=v3) (v4:=v4) (t:=t) (ex:=ex) hex
 have s0:Still []:=fun k w cs=>rfl
 have h0:=hst v2 v3 v4 t [] s0
 rw [List.append_nil] at h0
 have hr:(sC rs3 (V.lst 1 [] false) true).length=34:=by kernel_rfl
 have hon:ones (sC rs3 (V.lst 1 [] false) true)=True:=eq_true (QEU _ _)
 have hdr:List.drop 34 (sC rs3 (V.lst 1 [] false) true)=[]:=List.drop_eq_nil_of_le (by omega)
 have hlast:∀ (u:Nat) (w2 w3 w4:Nat) (a b:Nat) (fr:Fr),Qb9 (Qby 6 b (e0) (Qby 5 a (sC rs3 (V.lst 1 [] false) true) fr)) (QTL v0)→W Tryz.prog G0 159 0 T2 fr ⟨u,kG F.fmt v0 v1 w2 w3 w4 gq3.2++[some (.arr a 40 (sC rs3 (V.lst 1 [] false) true)),some (.arr b 56 (e0))]⟩ (fun e fr σ=>sem Tryz.prog G0 159 0 (QkX G0 [RV.tmp 0] Q) [] e fr σ):=fun u w2 w3 w4 a b fr hf=>by
  refine QaN (QP2 rfl (QpH _ _) rfl) ?_
  refine Qb5 (QTL v0) hf ?_
  rw [hT2]
  exact k w2 w3 w4 u
 have hlast2:∀ (u:Nat) (w2 w3 w4:Nat) (a b:Nat) (fr:Fr),Qb9 (Qby 6 b (sC rs3 (V.lst 1 [] false) true) (Qby 5 a (e0) fr)) (QTL v0)→W Tryz.prog G0 159 0 T2 fr ⟨u,kG F.fmt v0 v1 w2 w3 w4 gq3.2++[some (.arr a 56 (e0)),some (.arr b 40 (sC rs3 (V.lst 1 [] false) true))]⟩ (fun e fr σ=>sem Tryz.prog G0 159 0 (QkX G0 [RV.tmp 0] Q) [] e fr σ):=fun u w2 w3 w4 a b fr hf=>by
  refine QaN (QP2 (Qr9 _ _ _ _ _) rfl (QpH _ _)) ?_
  refine Qb5 (QTL v0) hf ?_
  rw [hT2]
  exact k w2 w3 w4 u
 refine ⟨?_,⟨?_,?_⟩,?_,?_⟩
 ·refine call hT QE h0 9 fun v σ hv=>?_
  obtain ⟨rfl,t1,a2,a3,a4,ht1,rfl⟩:=hv
  rw [List.append_nil]
  simp -implicitDefEqProofs (disch:=omega) only [go_sem,↓reduceIte,rA,rq,rT,eff,QEb,Qeh,Qo7,Qo6,Qeg,Qef,hr,hon]
  refine ⟨hlast _ _ _ _ _ _ _ ?_,hlast2 _ _ _ _ _ _ _ ?_⟩
  ·simp only [Qr,Qv,XR,rq,false_and,and_self,if_false,if_true,Qce,reduceCtorEq]; exact ⟨rfl,rfl,rfl,rfl,rfl,rfl,rfl,rfl,rfl,rfl,trivial⟩
  ·simp only [Qr,Qv,XR,rq,false_and,and_self,if_false,if_true,Qce,reduceCtorEq]; exact ⟨rfl,rfl,rfl,rfl,rfl,rfl,rfl,rfl,rfl,rfl,trivial⟩
 ·refine call hT QE (hst _ _ _ _ [_] fun k w cs=>rfl) 7 fun v σ hv=>?_
  obtain ⟨rfl,t1,a2,a3,a4,ht1,rfl⟩:=hv
  simp -implicitDefEqProofs (disch:=omega) only [go_sem,↓reduceIte,rA,rq,rT,eff,Qeh,Qo7,Qo6,Qeg,Qef,hr,hon]
  refine hlast _ _ _ _ _ _ _ ?_
  simp only [Qr,Qv,XR,rq,false_and,and_self,if_false,if_true,Qce,reduceCtorEq]; exact ⟨rfl,rfl,rfl,rfl,rfl,rfl,rfl,rfl,rfl,rfl,trivial⟩
 ·refine call hT QE (hst _ _ _ _ [_,_] fun k w cs=>rfl) 6 fun v σ hv=>?_
  obtain ⟨rfl,t1,a2,a3,a4,ht1,rfl⟩:=hv
  simp -implicitDefEqProofs (disch:=omega) only [go_sem,↓reduceIte,rA,rq,rT,eff,Qeh,Qo7,Qo6,Qeg,Qef,hr,hon]
  refine hlast _ _ _ _ _ _ _ ?_
  simp only [Qr,Qv,XR,rq,false_and,and_self,if_false,if_true,Qce,reduceCtorEq]; exact ⟨rfl,rfl,rfl,rfl,rfl,rfl,rfl,rfl,rfl,rfl,trivial⟩
 ·refine call hT QE (hst _ _ _ _ [_] fun k w cs=>rfl) 7 fun v σ hv=>?_
  obtain ⟨rfl,t1,a2,a3,a4,ht1,rfl⟩:=hv
  simp -implicitDefEqProofs (disch:=omega) only [go_sem,↓reduceIte,rA,rq,rT,eff,Qeh,Qo7,Qo6,Qeg,Qef,hr,hon]
  refine hlast2 _ _ _ _ _ _ _ ?_
  simp only [Qr,Qv,XR,rq,false_and,and_self,if_false,if_true,Qce,reduceCtorEq]; exact ⟨rfl,rfl,rfl,rfl,rfl,rfl,rfl,rfl,rfl,rfl,trivial⟩
 ·refine call hT QE (hst _ _ _ _ [_,_] fun k w cs=>rfl) 6 fun v σ hv=>?_
  obtain ⟨rfl,t1,a2,a3,a4,ht1,rfl⟩:=hv
  simp -implicitDefEqProofs (disch:=omega) only [go_sem,↓reduceIte,rA,rq,rT,eff,Qeh,Qo7,Qo6,Qeg,Qef,hr,hon]
  refine hlast2 _ _ _ _ _ _ _ ?_
  simp only [Qr,Qv,XR,rq,false_and,and_self,if_false,if_true,Qce,reduceCtorEq]; exact ⟨rfl,rfl,rfl,rfl,rfl,rfl,rfl,rfl,rfl,rfl,trivial⟩
theorem reg3 (hT:Qf Tryz.prog tab) (F:Fmt Tryz.prog G0) (SO:Qe8 Tryz.prog) (hP:Bits Tryz.prog G0) (k:∀ v2 v3 v4 t,W Tryz.prog G0 159 0 (X8 11 proofmarklaw23_works.body) (lwB4 v0) ⟨t,kG F.fmt v0 v1 v2 v3 v4 gq4.2⟩ (QkX G0 proofmarklaw23_works.res Q)) :
 W Tryz.prog G0 159 0 (X8 10 proofmarklaw23_works.body) (QTL v0) ⟨t,kG F.fmt v0 v1 v2 v3 v4 gq3.2⟩ (QkX G0 proofmarklaw23_works.res Q):=by
 obtain ⟨T2,hT2⟩:∃ c,c=X8 11 proofmarklaw23_works.body:=⟨_,rfl⟩
 rw [dw10,← hT2]
 have hsl:(sC rs0 (V.lst 1 [] false) true).length=34:=by kernel_rfl
 have htk:List.take 34 (sC rs0 (V.lst 1 [] false) true)=sC rs0 (V.lst 1 [] false) true:=List.take_of_length_le (by omega)
 refine Qg 40 ?_
 refine ya ?_
 have hfC:lwF.length=5:=rfl
 have hfT:lwF.take 5=lwF:=rfl
 simp only [sV,QEb,hsl,htk,hfC,hfT,List.drop_zero,Qu,lR,rA,go_sem]
 have hst:=fun v2 v3 v4 t ex hex=>sst3 hT F SO hP (v0:=v0) (v1:=v1) (v2:=v2) (v3:=v3) (v4:=v4) (t:=t) (ex:=ex) hex
 have s0:Still []:=fun k w cs=>rfl
 have h0:=hst v2 v3 v4 t [] s0
 rw [List.append_nil] at h0
 have hr:(sC rs0 (V.lst 1 [] false) true).length=34:=by kernel_rfl
 have hon:ones (sC rs0 (V.lst 1 [] false) true)=True:=eq_true (QEU _ _)
 have hdr:List.drop 34 (sC rs0 (V.lst 1 [] false) true)=[]:=List.drop_eq_nil_of_le (by omega)
 have hlast:∀ (u:Nat) (w2 w3 w4:Nat) (a b:Nat) (fr:Fr),Qb9 (Qby 6 b (e4) (Qby 5 a (sC rs0 (V.lst 1 [] false) true) fr)) (lwB4 v0)→W Tryz.prog G0 159 0 T2 fr ⟨u,kG F.fmt v0 v1 w2 w3 w4 gq4.2++[some (.arr a 40 (sC rs0 (V.lst 1 [] false) true)),some (.arr b 56 (e4))]⟩ (fun e fr σ=>sem Tryz.prog G0 159 0 (QkX G0 [RV.tmp 0] Q) [] e fr σ):=fun u w2 w3 w4 a b fr hf=>by
  refine QaN (QP2 rfl (QpH _ _) rfl) ?_
  refine Qb5 (lwB4 v0) hf ?_
  rw [hT2]
  exact k w2 w3 w4 u
 have hlast2:∀ (u:Nat) (w2 w3 w4:Nat) (a b:Nat) (fr:Fr),Qb9 (Qby 6 b (sC rs0 (V.lst 1 [] false) true) (Qby 5 a (e4) fr)) (lwB4 v0)→W Tryz.prog G0 159 0 T2 fr ⟨u,kG F.fmt v0 v1 w2 w3 w4 gq4.2++[some (.arr a 56 (e4)),some (.arr b 40 (sC rs0 (V.lst 1 [] false) true))]⟩ (fun e fr σ=>sem Tryz.prog G0 159 0 (QkX G0 [RV.tmp 0] Q) [] e fr σ):=fun u w2 w3 w4 a b fr hf=>by
  refine QaN (QP2 (Qr9 _ _ _ _ _) rfl (QpH _ _)) ?_
  refine Qb5 (lwB4 v0) hf ?_
  rw [hT2]
  exact k w2 w3 w4 u
 refine ⟨?_,⟨?_,?_⟩,?_,?_⟩
 ·refine call hT QE h0 9 fun v σ hv=>?_
  obtain ⟨rfl,t1,a2,a3,a4,ht1,rfl⟩:=hv
  rw [List.append_nil]
  simp -implicitDefEqProofs (disch:=omega) only [go_sem,↓reduceIte,rA,rq,rT,eff,QEb,Qeh,Qo7,Qo6,Qeg,Qef,hr,hon]
  refine ⟨hlast _ _ _ _ _ _ _ ?_,hlast2 _ _ _ _ _ _ _ ?_⟩
  ·simp only [Qr,Qv,XR,rq,false_and,and_self,if_false,if_true,Qce]; exact ⟨rfl,rfl,rfl,rfl,rfl,rfl,rfl,rfl,rfl,rfl,trivial⟩
  ·simp only [Qr,Qv,XR,rq,false_and,and_self,if_false,if_true,Qce]; exact ⟨rfl,rfl,rfl,rfl,rfl,rfl,rfl,rfl,rfl,rfl,trivial⟩
 ·refine call hT QE (hst _ _ _ _ [_] fun k w cs=>rfl) 7 fun v σ hv=>?_
  obtain ⟨rfl,t1,a2,a3,a4,ht1,rfl⟩:=hv
  simp -implicitDefEqProofs (disch:=omega) only [go_sem,↓reduceIte,rA,rq,rT,eff,Qeh,Qo7,Qo6,Qeg,Qef,hr,hon]
  refine hlast _ _ _ _ _ _ _ ?_
  simp only [Qr,Qv,XR,rq,false_and,and_self,if_false,if_true,Qce]; exact ⟨rfl,rfl,rfl,rfl,rfl,rfl,rfl,rfl,rfl,rfl,trivial⟩
 ·refine call hT QE (hst _ _ _ _ [_,_] fun k w cs=>rfl) 6 fun v σ hv=>?_
  obtain ⟨rfl,t1,a2,a3,a4,ht1,rfl⟩:=hv
  simp -implicitDefEqProofs (disch:=omega) only [go_sem,↓reduceIte,rA,rq,rT,eff,Qeh,Qo7,Qo6,Qeg,Qef,hr,hon]
  refine hlast _ _ _ _ _ _ _ ?_
  simp only [Qr,Qv,XR,rq,false_and,and_self,if_false,if_true,Qce]; exact ⟨rfl,rfl,rfl,rfl,rfl,rfl,rfl,rfl,rfl,rfl,trivial⟩
 ·refine call hT QE (hst _ _ _ _ [_] fun k w cs=>rfl) 7 fun v σ hv=>?_
  obtain ⟨rfl,t1,a2,a3,a4,ht1,rfl⟩:=hv
  simp -implicitDefEqProofs (disch:=omega) only [go_sem,↓reduceIte,rA,rq,rT,eff,Qeh,Qo7,Qo6,Qeg,Qef,hr,hon]
  refine hlast2 _ _ _ _ _ _ _ ?_
  simp only [Qr,Qv,XR,rq,false_and,and_self,if_false,if_true,Qce]; exact ⟨rfl,rfl,rfl,rfl,rfl,rfl,rfl,rfl,rfl,rfl,trivial⟩
 ·refine call hT QE (hst _ _ _ _ [_,_] fun k w cs=>rfl) 6 fun v σ hv=>?_
  obtain ⟨rfl,t1,a2,a3,a4,ht1,rfl⟩:=hv
  simp -implicitDefEqProofs (disch:=omega) only [go_sem,↓reduceIte,rA,rq,rT,eff,Qeh,Qo7,Qo6,Qeg,Qef,hr,hon]
  refine hlast2 _ _ _ _ _ _ _ ?_
  simp only [Qr,Qv,XR,rq,false_and,and_self,if_false,if_true,Qce]; exact ⟨rfl,rfl,rfl,rfl,rfl,rfl,rfl,rfl,rfl,rfl,trivial⟩
end
section
attribute [local go_sem] List.append_nil List.getD_cons_succ List.getD_cons_zero lC lN aZ Nat.mul_one Nat.succ_ne_zero zA zL V.cells and_true beq_self_eq_true proofmarklaw23_works Qzw Qzv Qq4 Qq3 Qq2 Qq1 Qzu Qzt Qzs Qzr Qzq Qzp Qzo Qzn sV true_implies
theorem hq5:Qdo gq4.2 7=gq5:=rfl
theorem hv3:(sC rs3 (V.lst 1 [] false) true).getD 5 V.any=.int .i64 gq3.1:=by kernel_rfl
theorem hv1:(sC rs1 (V.lst 1 [] false) true).getD 5 V.any=.int .i64 gq1.1:=by kernel_rfl
theorem hv2:(sC rs2 (V.lst 1 [] false) true).getD 5 V.any=.int .i64 gq2.1:=by kernel_rfl
theorem hv0:(sC rs0 (V.lst 1 [] false) true).getD 5 V.any=.int .i64 4:=by kernel_rfl
theorem hl0:(sC rs0 (V.lst 1 [] false) true).length=34:=by kernel_rfl
theorem hl1:(sC rs1 (V.lst 1 [] false) true).length=34:=by kernel_rfl
theorem hl2:(sC rs2 (V.lst 1 [] false) true).length=34:=by kernel_rfl
theorem hl3:(sC rs3 (V.lst 1 [] false) true).length=34:=by kernel_rfl
attribute [local irreducible] gq1 gq2 gq3 gq4 gq5 gq6 gq7 gq8 gq9 rs1 rs2 rs3 rs0 g0 lwF lwK
theorem QS0 (hT:Qf Tryz.prog tab) (F:Fmt Tryz.prog G0) (SO:Qe8 Tryz.prog) (hP:Bits Tryz.prog G0):Am.Pure Tryz.prog G0 Q9 [] fun v=>v=V.bool true:=by
 intro t
 refine Qi 0 (zL _) (QFS hT F fun v0 v1 v2 v3 v4 t=>reg0 hT F SO hP fun v2 v3 v4 t=>reg1 hT F SO hP fun v2 v3 v4 t=>reg2 hT F SO hP fun v2 v3 v4 t=>reg3 hT F SO hP fun v2 v3 v4 t=>?_)
 obtain ⟨T2,hT2⟩:∃ c,c=X8 13 proofmarklaw23_works.body:=⟨_,rfl⟩
 rw [dw11,dw12,show X8 13 proofmarklaw23_works.body=.ret from rfl]
 clear T2 hT2
 have z:=szs
 have hN:=fun (v2 v3 v4 t:Nat)=>QgQ (G:=G0) hT (base:=0) (fmt:=F.fmt) (v0:=v0) (v1:=v1) (v2:=v2) (v3:=v3) (v4:=v4) (t:=t) (L:=gq4.2) (ex:=[]) (x:=gq3.1) (zL _)
 simp only [List.append_nil] at hN
 have l9:=sz9
 have q5:=o5.le
 have q6:=o6.le
 have q7:=o7.le
 have q8:=o8.le
 have q9:=o9.le
 have hC:=fun (v2 v3 v4 t:Nat)=>Qnk (G:=G0) hT F (v0:=v0) (v1:=v1) (v2:=v2) (v3:=v3) (v4:=v4) (t:=t) (L:=gq4.2) (ex:=[]) (n:=7) (by unfold i64; decide) (by omega)
 have hB:=fun (v2 v3 v4 t:Nat)=>QCz (G:=G0) hT F hP 30 (v0:=v0) (v1:=v1) (v2:=v2) (v3:=v3) (v4:=v4) (t:=t) (ex:=[]) o5.ok (by omega) (by omega) b6
 have hN1:=fun (v2 v3 v4 t:Nat)=>QSn (G:=G0) hT F hP 30 (v0:=v0) (v1:=v1) (v2:=v2) (v3:=v3) (v4:=v4) (t:=t) (ex:=[]) o6.ok (by omega) b7
 have hN2:=fun (v2 v3 v4 t:Nat)=>QSn (G:=G0) hT F hP 30 (v0:=v0) (v1:=v1) (v2:=v2) (v3:=v3) (v4:=v4) (t:=t) (ex:=[]) o7.ok (by omega) b8
 have hE:=fun (v2 v3 v4 t:Nat)=>QCz (G:=G0) hT F hP 30 (v0:=v0) (v1:=v1) (v2:=v2) (v3:=v3) (v4:=v4) (t:=t) (ex:=[]) o8.ok (by omega) (by omega) b9
 simp only [hq5] at hC
 have hv:Qjw gq4.2 gq3.1=.tup [.int .i64 4096,.bool true]:=by unfold Qjw; rw [n3]
 simp only [List.append_nil] at hC hB hN1 hN2 hE
 refine Qg 40 ?_
 simp -implicitDefEqProofs (disch:=omega) only [go_sem,↓reduceIte,rA,rq,rL,Int.reduceToNat,Int.reduceLE,hl3,hv3]
 refine call hT YD (hN _ _ _ _) 1000 fun v σ hv'=>?_
 obtain ⟨rfl,t1,ht1,rfl⟩:=hv'
 rw [hv]
 simp -implicitDefEqProofs (disch:=omega) only [go_sem,↓reduceIte,rA,rq,rL,rT,Int.reduceToNat,Int.reduceLE,hl1,hv1,e0]
 repeat' (first
  | (refine call hT Qah (hC _ _ _ _) 1000 fun v σ hv'=>?_
     obtain ⟨rfl,t2,a2,a3,a4,ht2,rfl⟩:=hv'
     simp -implicitDefEqProofs (disch:=omega) only [go_sem,↓reduceIte,rA,rq,rL,hl1,hv1,e4])
  | (refine call hT Qcn (hB _ _ _ _) 1000 fun v σ hv'=>?_
     obtain ⟨rfl,t2,a2,a3,a4,ht2,rfl⟩:=hv'
     simp -implicitDefEqProofs (disch:=omega) only [go_sem,↓reduceIte,rA,rq,rL,Int.reduceToNat,Int.reduceLE,hl1,hl2,hv1,hv2,s6])
  | (refine call hT QgK (hN1 _ _ _ _) 1000 fun v σ hv'=>?_
     obtain ⟨rfl,t2,a2,a3,a4,ht2,rfl⟩:=hv'
     simp -implicitDefEqProofs (disch:=omega) only [go_sem,↓reduceIte,rA,rq,rL,hl2,hv2])
  | (refine call hT QgK (hN2 _ _ _ _) 1000 fun v σ hv'=>?_
     obtain ⟨rfl,t2,a2,a3,a4,ht2,rfl⟩:=hv'
     simp -implicitDefEqProofs (disch:=omega) only [go_sem,↓reduceIte,rA,rq,rL,Int.reduceToNat,Int.reduceLE,hl0,hv0,hl2,hv2,s8])
  | (refine call hT Qcn (hE _ _ _ _) 1000 fun v σ hv'=>?_
     obtain ⟨rfl,t2,a2,a3,a4,ht2,rfl⟩:=hv'
     simp -implicitDefEqProofs (disch:=omega) only [go_sem,↓reduceIte,reduceCtorEq,rA,rq,rL,s9])
  | exact ⟨rfl,rfl⟩
  | refine ⟨?_,?_⟩)
end
end Go.Proofs.YtbdhjeojcpgblaaGreatDoor
