/- The law RelateFresh, at the arguments as they read. -/
import Derived.Test.YtfgccihafnjalaaGreatDoorJ16
namespace Go.Proofs.YtfgccihafnjalaaGreatDoor
open Go Go.Am Go.Re
set_option maxRecDepth 100000
set_option maxHeartbeats 1000000
variable {P:Program} {G:Nat→Option V}
theorem QpM (hT:Qn P tab) (F:Fmt P G) (hS:QkF P G) (hW:Works P G) (l:List Pr) (tg:Bool) (hl64:∀ x∈l,i64 x.n) {vars slots params next:Int} (hv0:0≤vars∧vars≤255) {m:Nat} (hm:m≤4) (hfn:Am.Pure P G Qw [.int .u8 slots] fun v=>v=.agg (fnC m)):Am.Pure P G Yy [.lst 3 (prs l) tg,.int .u8 vars,.int .u8 slots,.int .i64 params,.int .i64 next] fun u=>u=.bool true:=by
 refine fun t=>Xt 0 (Nat.zero_le _) (Q6 hT QbJ (by simp [proofmarklaw25_RelateFresh]) ?_)
 have hW':Am.Pure P G Xv [] fun u=>u=.bool true:=hW
 obtain ⟨n,hn⟩:∃ n:Nat,n=(vars % 9).toNat:=⟨_,rfl⟩
 have hn9:n≤8:=by omega
 have hmod:IntKind.i64.wrap (vars.tmod 9)=((n:Nat):Int):=by rw [Int.tmod_eq_emod_of_nonneg hv0.1,QkG (by omega)]; omega
 have honf:ones (fnC m)=True:=eq_true fun u hu=>by
  simp only [fnC,List.mem_cons,List.not_mem_nil,or_false] at hu; rcases hu with rfl | rfl | rfl | rfl | rfl <;> rfl
 have hnlf:Qc (fnC m)=true:=by simp [fnC,Qc,Qe]
 have hlf:(fnC m).length=5:=rfl
 by_cases hbig:30<l.length∨1099511627776<next
 ·have q1:(30:Int)<((l.length:Nat):Int)∨¬ (30:Int)<((l.length:Nat):Int)∧(1099511627776:Int)<next:=by omega
  rcases q1 with q1 | ⟨q1,q2⟩
  ·refine Qq 16 ?_
   simp -implicitDefEqProofs (disch:=omega) only [go_sem,↓reduceIte,reduceCtorEq,Nat.reduceAdd,Nat.reduceEqDiff,Int.reduceEq,Nat.zero_add,proofmarklaw25_RelateFresh,Qjd,Qjc,Qjb,Qja,Qi9,Qi8,Qi7,Qi6,Qi5,Qi4,Qdz,Qdy,Qdx,Qai,Qah,Qag,Qaf,Qdw,QaV,QaU,QaT,QaS,Qdv,and_true,not_false_eq_true,hmod]
   refine Yb hT QQ hfn rfl 14 ?_
   simp -implicitDefEqProofs (disch:=omega) only [go_sem,↓reduceIte,reduceCtorEq,Nat.reduceAdd,Nat.reduceEqDiff,Nat.zero_add,decide_true,Bool.not_false,Nat.le_refl,gt_iff_lt,Qf,and_true,List.nil_append,List.length_cons,List.length_nil,List.getElem?_cons_zero,List.set_cons_zero,Bool.not_false,List.take_zero,List.drop_succ_cons,List.drop_nil,q1,honf,hlf]
   iterate 20 (try (refine Qa 4 ?_; simp -implicitDefEqProofs (disch:=omega) only [go_sem,↓reduceIte,reduceCtorEq,Nat.reduceEqDiff]))
   refine Yb hT Xu hW' rfl 14 ?_
   simp -implicitDefEqProofs (disch:=omega) only [go_sem,↓reduceIte,reduceCtorEq,Nat.reduceEqDiff,Nat.zero_add,Nat.zero_le,and_true,List.length_cons,List.length_nil]
   try simp
  ·refine Qq 16 ?_
   simp -implicitDefEqProofs (disch:=omega) only [go_sem,↓reduceIte,reduceCtorEq,Nat.reduceAdd,Nat.reduceEqDiff,Int.reduceEq,Nat.zero_add,proofmarklaw25_RelateFresh,Qjd,Qjc,Qjb,Qja,Qi9,Qi8,Qi7,Qi6,Qi5,Qi4,Qdz,Qdy,Qdx,Qai,Qah,Qag,Qaf,Qdw,QaV,QaU,QaT,QaS,Qdv,and_true,not_false_eq_true,hmod]
   refine Yb hT QQ hfn rfl 14 ?_
   simp -implicitDefEqProofs (disch:=omega) only [go_sem,↓reduceIte,reduceCtorEq,Nat.reduceAdd,Nat.reduceEqDiff,Nat.zero_add,decide_true,decide_false,Bool.not_false,Nat.le_refl,gt_iff_lt,Qf,and_true,List.nil_append,List.length_cons,List.length_nil,List.getElem?_cons_zero,List.set_cons_zero,Bool.not_false,List.take_zero,List.drop_succ_cons,List.drop_nil,q1,q2,honf,hlf]
   iterate 20 (try (refine Qa 4 ?_; simp -implicitDefEqProofs (disch:=omega) only [go_sem,↓reduceIte,reduceCtorEq,Nat.reduceEqDiff]))
   refine Yb hT Xu hW' rfl 14 ?_
   simp -implicitDefEqProofs (disch:=omega) only [go_sem,↓reduceIte,reduceCtorEq,Nat.reduceEqDiff,Nat.zero_add,Nat.zero_le,and_true,List.length_cons,List.length_nil]
   try simp
 have q1:¬ (30:Int)<((l.length:Nat):Int):=by omega
 have q2:¬ (1099511627776:Int)<next:=by omega
 show W P G 138 0 (.seq (.reg Qjd []) (.seq (.reg Qjc [21,22,23]) (.seq (.reg Qjb [24,25]) (.seq (.seq (.reg Qja [26,27,28,29,30,31]) (.cond (.t 32) (.seq (.reg Qi9 [33]) .ret) .skip)) (Zd 4 proofmarklaw25_RelateFresh.body))))) _ _ (QtI G proofmarklaw25_RelateFresh.res _)
 obtain ⟨T4,hT4⟩:∃ c,c=Zd 4 proofmarklaw25_RelateFresh.body:=⟨_,rfl⟩
 rw [← hT4]
 refine Qq 16 ?_
 simp -implicitDefEqProofs (disch:=omega) only [go_sem,↓reduceIte,reduceCtorEq,Nat.reduceAdd,Nat.reduceEqDiff,Int.reduceEq,Nat.zero_add,proofmarklaw25_RelateFresh,Qjd,Qjc,Qjb,Qja,Qi9,Qi8,Qi7,Qi6,Qi5,Qi4,Qdz,Qdy,Qdx,Qai,Qah,Qag,Qaf,Qdw,QaV,QaU,QaT,QaS,Qdv,and_true,not_false_eq_true,hmod]
 refine Yb hT QQ hfn rfl 1 ?_
 simp -implicitDefEqProofs (disch:=omega) only [go_sem,↓reduceIte,reduceCtorEq,Nat.reduceEqDiff,and_true,List.nil_append,List.length_nil]
 iterate 30 (try (refine Qa 1 ?_; simp -implicitDefEqProofs (disch:=omega) only [go_sem,↓reduceIte,reduceCtorEq,Nat.reduceAdd,Nat.reduceEqDiff,Nat.zero_add,decide_false,Bool.not_false,Nat.le_refl,gt_iff_lt,Qf,and_true,List.nil_append,List.length_cons,List.length_nil,List.getElem?_cons_zero,List.set_cons_zero,Bool.not_false,List.take_zero,List.drop_succ_cons,List.drop_nil,q1,q2,honf,hlf]))
 refine Qml (XX [(0,.lst 3 (prs l) tg),(3,.int .i64 params),(4,.int .i64 next),(11,.int .i64 ((n:Nat):Int)),(12,.ptr 0 t 0)] ⟨rfl,rfl,rfl,rfl,rfl,trivial⟩ ?_)
 have hne0:¬ fnC m=[]:=by simp [fnC]
 have hsh:Shift G 138 0 [(0,.lst 3 (prs l) tg),(3,.int .i64 params),(4,.int .i64 next),(11,.int .i64 ((n:Nat):Int)),(12,.ptr 0 t 0)] ⟨t+1,[some (.arr t 39 (fnC m))]⟩ [(0,.lst 3 (prs l) tg),(3,.int .i64 params),(4,.int .i64 next),(11,.int .i64 ((n:Nat):Int)),(12,.ref (.agg (fnC m)) 0)] ⟨t+1,[]⟩:=by
  refine (Shift.freeze (k:=0) (Nat.zero_le _) rfl hnlf).trans ?_
  simp only [Ye,Zm,Z3,hne0,QP,List.set_cons_zero,Option.map_none,and_self,if_true,if_false]
  exact Shift.drop (o':=[]) trivial (Nat.le_refl _) (Nat.zero_le _)
 refine Qj9 hsh ?_
 rw [hT4]
 show W P G 138 0 (.seq (.reg Qi8 [34]) (.seq (.reg Qi7 [36,37,38,39,40,41,42,35,43,44]) (Zd 6 proofmarklaw25_RelateFresh.body))) _ _ (QtI G proofmarklaw25_RelateFresh.res _)
 obtain ⟨T6,hT6⟩:∃ c,c=Zd 6 proofmarklaw25_RelateFresh.body:=⟨_,rfl⟩
 rw [← hT6]
 refine Qq 14 ?_
 simp -implicitDefEqProofs (disch:=omega) only [go_sem,↓reduceIte,proofmarklaw25_RelateFresh,Qjd,Qjc,Qjb,Qja,Qi9,Qi8,Qi7,Qi6,Qi5,Qi4,Qdz,Qdy,Qdx,Qai,Qah,Qag,Qaf,Qdw,QaV,QaU,QaT,QaS,Qdv]
 refine call hT Qjj (c_New hT (o:=[]) (Nat.zero_le _)) 12 fun v σ hv=>?_
 obtain ⟨v0, v1, v2, v3, v4, t', i1, i2, i3, i4, ht', rfl, rfl, rfl, rfl, rfl, rfl⟩ := hv
 have hk0:([]:List (Option Ob))++[some (.map v1 []),some (.arr v0 93 [.sl (([]:List (Option Ob)).length+2) v2 0 6 0 none,.mp ([]:List (Option Ob)).length v1,.sl (([]:List (Option Ob)).length+3) v3 0 1 0 none,.sl (([]:List (Option Ob)).length+4) v4 0 1 0 none]),some (.arr v2 108 []),some (.arr v3 3 []),some (.arr v4 3 [])]=kG F.fmt v0 v1 v2 v3 v4 []++[]:=by
  simp [kG,QgH,ndC,QiR,Qiy]
 rw [hk0]
 have htf:List.take 5 (fnC m)=fnC m:=List.take_of_length_le (by rw [hlf]; omega)
 simp -implicitDefEqProofs (disch:=omega) only [go_sem,↓reduceIte,reduceCtorEq,Nat.reduceEqDiff,Nat.zero_add,Nat.le_refl,false_implies,and_true,List.length_nil,List.drop_zero,hlf,htf]
 iterate 20 (try (refine Qa 4 ?_; simp -implicitDefEqProofs (disch:=omega) only [go_sem,Qd,↓reduceIte,reduceCtorEq,Nat.reduceAdd,Nat.reduceEqDiff,Nat.reduceLeDiff,Nat.reduceLT,Nat.reduceSub,Nat.reduceMul,Int.reduceToNat,Int.reduceLE,Int.reduceLT,Int.reduceEq,Int.reduceNe,Nat.succ_ne_zero,Nat.zero_add,Nat.add_zero,Nat.mul_one,Nat.one_mul,Nat.zero_mul,decide_true,decide_false,Bool.not_true,Bool.not_false,Nat.le_refl,Nat.zero_le,ge_iff_le,gt_iff_lt,Nat.reduceBEq,Nat.reduceBNe,beq_self_eq_true,bne_self_eq_false,Option.isSome_some,Option.isSome_none,Option.getD_some,Option.getD_none,proofmarklaw25_RelateFresh,Qjd,Qjc,Qjb,Qja,Qi9,Qi8,Qi7,Qi6,Qi5,Qi4,Qdz,Qdy,Qdx,Qai,Qah,Qag,Qaf,Qdw,QaV,QaU,QaT,QaS,Qdv,Ym,Qo,Qf,false_implies,true_implies,true_and,and_true,not_true_eq_false,not_false_eq_true,Int.reduceBEq,List.append_assoc,List.cons_append,List.nil_append,List.length_append,List.length_cons,List.length_nil,List.getElem?_cons_zero,List.getElem?_cons_succ,List.getD_cons_zero,List.getD_cons_succ,List.set_cons_zero,List.set_cons_succ,Bool.not_true,Bool.not_false,List.take_succ_cons,List.take_zero,List.take_nil,List.drop_succ_cons,List.drop_zero,List.drop_nil,Qcq,QjD,Qdc,Qi1,QdR,QnK,Qei,Y5,Qa9,hlf,htf]))
 refine call hT QaM (QtO (P:=P) (G:=G) hT F hS (v0:=v0) (v1:=v1) (v2:=v2) (v3:=v3) (v4:=v4) (L:=[]) l tg (by omega) hl64 n m (by omega) hm params next (by omega) (by simp) []) 1 fun v σ hv=>?_
 obtain ⟨L0, L', t2, u2, u3, u4, ps, hps, b, hb, h1, h2, h3, h4, h5, h6, rfl, rfl⟩ := hv
 have hlen:(frV L0 L' (max 0 next) ps b n (QaR m params) m).length=36:=by simp [frV,woF,Q7]
 have hones:ones (frV L0 L' (max 0 next) ps b n (QaR m params) m)=True:=eq_true (by
  intro c hc
  simp only [frV,woF,QI,List.mem_cons,List.mem_append,List.mem_map,List.not_mem_nil,or_false] at hc
  rcases hc with rfl | rfl | ⟨r,_,rfl⟩ | rfl | rfl <;> rfl)
 obtain ⟨wo,hwo⟩:∃ wo,wo=frV L0 L' (max 0 next) ps b n (QaR m params) m:=⟨_,rfl⟩
 rw [← hwo] at hlen hones ⊢
 have htk:List.take 36 wo=wo:=List.take_of_length_le (by omega)
 simp -implicitDefEqProofs (disch:=omega) only [go_sem,↓reduceIte,reduceCtorEq,Nat.reduceEqDiff,List.append_nil]
 iterate 20 (try (refine Qa 1 ?_; simp -implicitDefEqProofs (disch:=omega) only [go_sem,↓reduceIte,reduceCtorEq,Nat.reduceAdd,Nat.reduceEqDiff,Nat.reduceLT,Nat.zero_add,Bool.not_false,Nat.le_refl,Nat.zero_le,and_true,List.nil_append,List.length_cons,List.length_nil,List.getD_cons_zero,List.getD_cons_succ,Bool.not_false,List.take_zero,List.drop_succ_cons,List.drop_nil,Qcq,QjD,Qdc,hlen,hones,List.append_nil]))
 refine Qml (XX [(0,.lst 3 (prs l) tg),(3,.int .i64 params),(4,.int .i64 next),(11,.int .i64 ((n:Nat):Int)),(12,.ref (.agg (fnC m)) 0),(13,.ptr 1 v0 0),(14,.ptr 5 t2 0),(15,.int .i64 (frS ps b n).2)] ⟨rfl,rfl,rfl,rfl,rfl,rfl,rfl,rfl,trivial⟩ ?_)
 have hnlw:Qc wo=true:=by rw [hwo]; exact QwZ _ _ _ _ _ _ _ _
 have hnew:¬ wo=[]:=fun e=>by rw [e] at hlen; cases hlen
 have hsh2:Shift G 138 0 [(0,.lst 3 (prs l) tg),(3,.int .i64 params),(4,.int .i64 next),(11,.int .i64 ((n:Nat):Int)),(12,.ref (.agg (fnC m)) 0),(13,.ptr 1 v0 0),(14,.ptr 5 t2 0),(15,.int .i64 (frS ps b n).2)] ⟨t2+1,kG F.fmt v0 v1 u2 u3 u4 L'++[some (.arr t2 49 wo)]⟩ [(0,.lst 3 (prs l) tg),(3,.int .i64 params),(4,.int .i64 next),(11,.int .i64 ((n:Nat):Int)),(12,.ref (.agg (fnC m)) 0),(13,.ptr 1 v0 0),(14,.ref (.agg wo) 0),(15,.int .i64 (frS ps b n).2)] ⟨t2+1,kG F.fmt v0 v1 u2 u3 u4 L'⟩:=by
  refine (Shift.freeze (k:=5) (Nat.zero_le _) rfl hnlw).trans ?_
  have e:(kG F.fmt v0 v1 u2 u3 u4 L'++[some (Ob.arr t2 49 wo)]).set 5 none=kG F.fmt v0 v1 u2 u3 u4 L'++[none]:=rfl
  rw [e,QkA (by decide)]
  simp only [Ye,Zm,Z3,hnew,QP,Nat.reduceEqDiff,false_and,and_self,if_true,if_false,Option.map_none]
  exact Shift.drop (Y8 _ _) (Nat.le_refl _) (Nat.zero_le _)
 refine Qj9 hsh2 ?_
 rw [hT6]
 have hcase:∀ (r:Nat),¬ (1≤r∧r≤31∧r≠2)→Xg ps 1 ((r:Nat):Int)=false:=fun r hr=>by
  unfold Xg
  refine List.any_eq_false.2 fun p hp=>?_
  have h2:=(List.mem_filter.1 (hps▸hp)).2
  unfold Q8 at h2
  simp only [Bool.and_eq_true,decide_eq_true_eq] at h2
  intro hc
  simp only [decide_eq_true_eq] at hc
  have h3:=h2.2
  rw [if_pos hc.1] at h3
  unfold QpZ at h3
  simp only [decide_eq_true_eq] at h3
  omega
 have hLl:L'.length≤2500:=by simpa using h5
 have hs0:Hs L0 (co 0):=by have:=h2 0 (by omega) (by omega); unfold Qtj at this; rwa [if_pos rfl] at this
 refine rf_B hT F hW (bh:=(frS ps b n).2) (lk:=hvW L' ps b n (-1)) (vs:=vsW L' ps b n) (rs:=rsW L0 L' ps b (max 0 next) n) (ss:=ssW L0 L' ps b (max 0 next) n (QaR m params)) hm rfl (hwo.trans (frV_wV _ _ _ _ _ _ _ _)) (Qjr _ _ _ _ _ _ _) (QvW _ _ _ _) (Qjr _ _ _ _ _ _ _) (by omega) hps ⟨fun v hv=>?_,fun r a1 a2 a3 _=>?_,fun i a1 _=>?_,?_⟩ ?_ (hs0.ext h4) ?_ (by omega) (by omega) fun σ=>⟨Nat.zero_le _,rfl,rfl⟩
 ·exact hoOk hl64 ps hps h6 (by omega) hv
 ·have:=h2 r a2 a3
  unfold Qtj at this
  rw [if_neg (by omega)] at this
  exact (show Hs L0 (sy (rNo (max 0 next) r)) from this).ext h4
 ·rw [Qjr] at a1
  exact (h3 i a1).ext h4
 ·exact apOk h6 h2 h3 h4 hb
 ·rw [Qqs (by omega),hcase 0 (by omega)]
  simp only [Bool.false_eq_true,if_false]
  unfold QkM Qtj
  rw [if_neg (by omega),if_pos rfl]
  exact (Xw hs0 h4).symm
 ·rw [Qqs (by omega),hcase 2 (by omega)]
  simp [QkM]
end Go.Proofs.YtfgccihafnjalaaGreatDoor
