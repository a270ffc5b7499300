/- The law RelateFresh: the world's measures. -/
import Derived.Test.YtfgccihafnjalaaGreatDoorJ15
import Derived.Test.YtfgccihafnjalaaGreatDoorY
open Nat renaming reduceEqDiff → rq, reduceAdd → rA, reduceLeDiff → rL, reduceLT → rT, zero_add → zA, le_refl → lR, zero_le → zL, add_zero → aZ
open List renaming length_cons → lC, length_nil → lN, take_succ_cons → tS, length_append → lA, nil_append → nA, cons_append → cA, append_assoc → aA, take_nil → tN, take_zero → tZ, length_map → lM
open Bool renaming not_false → nF, not_true → nT
namespace Go.Proofs.YtfgccihafnjalaaGreatDoor
open Go Go.Am Go.Re
set_option maxRecDepth 100000
variable {P:Program} {G:Nat→Option V}
set_option maxHeartbeats 1000000
section
attribute [local go_sem] Bool.false_or nF nT aA cA List.drop_nil List.drop_succ_cons List.drop_zero List.getD_cons_succ List.getD_cons_zero lA lC lN nA List.set_cons_succ List.set_cons_zero tN tS tZ aZ lR Nat.mul_one Nat.one_mul Nat.succ_ne_zero zA zL Nat.zero_mul Option.getD_none Option.getD_some Option.isSome_none Option.isSome_some and_true beq_self_eq_true bne_self_eq_false decide_false decide_true false_implies ge_iff_le gt_iff_lt Qj Qkg Qnh Qsl Qeb QcM Qbc QdB Qg0 Qh2 Qz not_false_eq_true not_true_eq_false proofmarklaw25_RelateFresh Qu7 Qu6 Qoh Qog Qof Qjx Qjw Qjv Qju Qoe Qjt Qjs Qu5 Qjr Qjq Qod Qu4 Qu3 Qu2 Qu1 Qu0 QuZ QuY Qk true_and true_implies
theorem rf_B (hT:Qh P tab) (F:Fmt P G) (hW:Works P G) {v0 v1 v2 v3 v4 t:Nat} {L:List Nd} {l ps:List Pr} {tg:Bool} {m n cnt:Nat} {params next bh lk:Int} {vs rs ss:List Int} {wv:List V} (hm:m≤4) (hcnt:cnt=Zk m params) (hwv:wv=wV vs lk rs ss (decide (m=0))) (hr:rs.length=32) (hvl:vs.length=n) (hsl:ss.length=cnt) (hn:n≤10) (hps:ps=Zw l n cnt) (hO:WdOk L ps n (max 0 next) bh lk vs rs ss) (h0:rs.getD 0 0=Xc L (co 0)) (hs0:Hs L (co 0)) (h2:rs.getD 2 0=-1) (hl:l.length≤30) (hL:L.length≤19000) {Q:V→Am.H→Prop} (hQ:∀ σ,Q (.bool true) σ) :
 W P G 138 0 (XJ 6 proofmarklaw25_RelateFresh.body) [(0,.lst 3 (prs l) tg),(3,.int .i64 params),(4,.int .i64 next),(11,.int .i64 ((n:Nat):Int)),(12,.ref (.agg (fnC m)) 0),(13,.ptr 1 v0 0),(14,.ref (.agg wv) 0),(15,.int .i64 bh)] ⟨t,kG F.fmt v0 v1 v2 v3 v4 L⟩ (QoH G proofmarklaw25_RelateFresh.res Q):=by
 have hC:=fun {L2:List Nd} {u2 u3 u4:Nat} (hE:Ext L L2) (hl2:L2.length≤20000) (t:Nat)=>rf_C (P:=P) (G:=G) hT F hW (v0:=v0) (v1:=v1) (v2:=u2) (v3:=u3) (v4:=u4) (t:=t) (next:=next) (tg:=tg) (cnt:=cnt) (bh:=bh) hwv hr hvl (by rw [hsl,hcnt]; unfold Zk; omega) hn hps (hO.ext hE) hl hl2 hQ
 show W P G 138 0 (.seq (.reg Qu0 [45,46,47,48,49,50,51]) (.seq (.seq (.reg QuZ [52,53,54,55,56,57,58,59,60,61,62,63,64,65,66,67,68,69,70,71,72,73,74,75,76,77,78,79,80,81,82,83,84,85,86,87,88]) (.cond (.t 89) (.seq (.reg QuY []) .ret) .skip)) (XJ 8 proofmarklaw25_RelateFresh.body))) _ _ _
 obtain ⟨T,hTT⟩:∃ c,c=XJ 8 proofmarklaw25_RelateFresh.body:=⟨_,rfl⟩
 rw [← hTT] at hC ⊢
 have hmin:(if (6:Int)<params then (6:Int) else params)=min params 6:=by split <;> omega
 have hmx:(if (0:Int)<min params 6 then min params 6 else 0)=max 0 (min params 6):=by split <;> omega
 have hq:IntKind.i64.wrap (Int.tdiv (8 * (m:Int)) 8)=(m:Int):=by rw [Int.mul_tdiv_cancel_left _ (by omega),QcU (by omega)]
 have hsum:IntKind.i64.wrap ((m:Int)+max 0 (min params 6))=(cnt:Int):=by rw [QcU (by omega),hcnt]; unfold Zk; omega
 have hfr:((8 * (m:Int))==0)=decide (m=0):=by rw [Bool.eq_iff_iff,beq_iff_eq,decide_eq_true_eq]; omega
 have hwl:wv.length=36:=by rw [hwv]; simp [wV,Qj,hr]
 have g0:wv.getD 0 V.any=.lst 1 (ints vs) false:=hwv▸rfl
 have g34:wv.getD 34 V.any=.lst 1 (ints ss) false:=hwv▸QzK hr
 have g35:wv.getD 35 V.any=.bool (decide (m=0)):=by
  rw [hwv]
  show (ints rs++[V.lst 1 (ints ss) false,V.bool (decide (m=0))]).getD 33 V.any=_
  rw [List.getD_eq_getElem?_getD,List.getElem?_append_right (by rw [Qj]; omega),Qj,hr]; rfl
 have gr:∀ k:Nat,k<32→wv.getD (2+k) V.any=.int .i64 (rs.getD k 0):=fun k hk=>by
  rw [hwv,Nat.add_comm]
  exact QxM (rs:=rs) (n:=((k:Nat):Int)) (by omega) (by omega) _
 have g2:wv.getD 2 V.any=.int .i64 (Xc L (co 0)):=by have:=gr 0 (by omega); rw [h0] at this; exact this
 have g4:wv.getD 4 V.any=.int .i64 (-1):=by have:=gr 2 (by omega); rw [h2] at this; exact this
 have b1:(((vs.length:Nat):Int) != ((n:Nat):Int))=false:=by simp [hvl]
 have b2:(((ss.length:Nat):Int) != ((cnt:Nat):Int))=false:=by simp [hsl]
 have b3:((-1:Int) != -1)=false:=rfl
 have b4:(Xc L (co 0) != Xc L (co 0))=false:=by simp
 have hcv:=fun t=>QdA (P:=P) (G:=G) hT F (v0:=v0) (v1:=v1) (v2:=v2) (v3:=v3) (v4:=v4) (t:=t) (L:=L) (ex:=[]) (n:=0) (by unfold i64; omega) (by omega)
 simp only [List.append_nil] at hcv
 simp only [fnC]
 refine Ql 16 ?_
 simp -implicitDefEqProofs (disch:=omega) only [go_sem,↓reduceIte,reduceCtorEq,rA,rq,rL,Int.reduceEq,hq,hmin,hmx,hsum]
 iterate 12 (try (refine Qa 4 ?_; simp -implicitDefEqProofs (disch:=omega) only [go_sem,↓reduceIte,reduceCtorEq,rA,rq,rL,Int.reduceToNat,Int.reduceLE,hwl,g0,g34,g35,g2,g4,b1,b2,hfr]))
 repeat' (first | with_reducible refine And.intro ?_ ?_ | (refine Qa 6 ?_; simp -implicitDefEqProofs (disch:=omega) only [go_sem,↓reduceIte,reduceCtorEq,rA,rq,rL,rT,Nat.reduceSub,Nat.reduceMul,Int.reduceToNat,Int.reduceLE,Int.reduceLT,Int.reduceEq,Int.reduceNe,Nat.reduceBEq,Nat.reduceBNe,Int.reduceBEq,List.getElem?_cons_zero,List.getElem?_cons_succ,hwl,g2]))
 all_goals
  refine CV.use 1 (CV.of hT XD (hcv _)) fun v σ hv=>?_
  obtain ⟨L2,t2,u2,u3,u4,x1,x2,x3,x4,rfl,rfl⟩:=hv
  rw [Xm hs0 x1]
  simp -implicitDefEqProofs (disch:=omega) only [go_sem,↓reduceIte,reduceCtorEq,rA,rq,rL,hwl,g2]
  iterate 16 (try (refine Qa 1 ?_; simp -implicitDefEqProofs (disch:=omega) only [go_sem,↓reduceIte,reduceCtorEq,rq]))
  refine Qd3 (Xv [(0,.lst 3 (prs l) tg),(4,.int .i64 next),(11,.int .i64 ((n:Nat):Int)),(13,.ptr 1 v0 0),(14,.ref (.agg wv) 0),(15,.int .i64 bh),(16,.int .i64 ((cnt:Nat):Int))] ⟨rfl,rfl,rfl,rfl,rfl,rfl,rfl,trivial⟩ ?_)
  exact hC x1 (by omega) _
end
section
attribute [local go_sem] nF nT aA cA List.drop_nil List.drop_succ_cons List.drop_zero List.getD_cons_succ List.getD_cons_zero lA lC lN nA List.set_cons_succ List.set_cons_zero tN tS tZ aZ lR Nat.mul_one Nat.one_mul Nat.succ_ne_zero zA zL Nat.zero_mul Option.getD_none Option.getD_some Option.isSome_none Option.isSome_some and_true beq_self_eq_true bne_self_eq_false decide_false decide_true false_implies ge_iff_le gt_iff_lt Qj Qkg Qnh Qsl Qeb QcM Qbc QdB Qg0 Qh2 Qai Qz not_false_eq_true not_true_eq_false proofmarklaw25_RelateFresh Qu7 Qu6 Qoh Qog Qof Qjx Qjw Qjv Qju Qoe Qjt Qjs Qu5 Qjr Qjq Qod Qu4 Qu3 Qu2 Qu1 Qu0 QuZ QuY Qk true_and true_implies
theorem QpX (hT:Qh P tab) (F:Fmt P G) (hS:Qb0 P G) (hW:Works P G) (l:List Pr) (tg:Bool) (hl64:∀ x∈l,i64 x.n) {vars slots params next:Int} (hv0:0≤vars∧vars≤255) {m:Nat} (hm:m≤4) (hfn:Am.Pure P G Qr [.int .u8 slots] fun v=>v=.agg (fnC m)):Am.Pure P G YC [.lst 3 (prs l) tg,.int .u8 vars,.int .u8 slots,.int .i64 params,.int .i64 next] fun u=>u=.bool true:=by
 refine fun t=>Xq 0 (zL _) (Q0 hT Qbd (by simp [proofmarklaw25_RelateFresh]) ?_)
 have hW':Am.Pure P G Xh [] fun u=>u=.bool true:=hW
 obtain ⟨n,hn⟩:∃ n:Nat,n=(vars % 9).toNat:=⟨_,rfl⟩
 have hn9:n≤8:=by omega
 have hmod:IntKind.i64.wrap (vars.tmod 9)=((n:Nat):Int):=by rw [Int.tmod_eq_emod_of_nonneg hv0.1,QcU (by omega)]; omega
 have honf:ones (fnC m)=True:=eq_true fun u hu=>by
  simp only [fnC,List.mem_cons,List.not_mem_nil,or_false] at hu; rcases hu with rfl | rfl | rfl | rfl | rfl <;> rfl
 have hnlf:Qb (fnC m)=true:=by simp [fnC,Qb,Qd]
 have hlf:(fnC m).length=5:=rfl
 by_cases hbig:30<l.length∨1099511627776<next
 ·have q1:(30:Int)<((l.length:Nat):Int)∨¬ (30:Int)<((l.length:Nat):Int)∧(1099511627776:Int)<next:=by omega
  rcases q1 with q1 | ⟨q1,q2⟩
  ·refine Ql 16 ?_
   refine yn ?_
   refine QX hT QG hfn rfl 14 ?_
   simp -implicitDefEqProofs (disch:=omega) only [go_sem,↓reduceIte,reduceCtorEq,rA,rq,List.getElem?_cons_zero,q1,honf,hlf]
   iterate 20 (try (refine Qa 4 ?_; simp -implicitDefEqProofs (disch:=omega) only [go_sem,↓reduceIte,reduceCtorEq,rq]))
   refine QX hT Xe hW' rfl 14 ?_
   refine ya ?_
   try simp
  ·refine Ql 16 ?_
   refine yn ?_
   refine QX hT QG hfn rfl 14 ?_
   simp -implicitDefEqProofs (disch:=omega) only [go_sem,↓reduceIte,reduceCtorEq,rA,rq,List.getElem?_cons_zero,q1,q2,honf,hlf]
   iterate 20 (try (refine Qa 4 ?_; simp -implicitDefEqProofs (disch:=omega) only [go_sem,↓reduceIte,reduceCtorEq,rq]))
   refine QX hT Xe hW' rfl 14 ?_
   refine ya ?_
   try simp
 have q1:¬ (30:Int)<((l.length:Nat):Int):=by omega
 have q2:¬ (1099511627776:Int)<next:=by omega
 show W P G 138 0 (.seq (.reg Qu7 []) (.seq (.reg Qu6 [21,22,23]) (.seq (.reg Qu5 [24,25]) (.seq (.seq (.reg Qu4 [26,27,28,29,30,31]) (.cond (.t 32) (.seq (.reg Qu3 [33]) .ret) .skip)) (XJ 4 proofmarklaw25_RelateFresh.body))))) _ _ (QoH G proofmarklaw25_RelateFresh.res _)
 obtain ⟨T4,hT4⟩:∃ c,c=XJ 4 proofmarklaw25_RelateFresh.body:=⟨_,rfl⟩
 rw [← hT4]
 refine Ql 16 ?_
 refine yn ?_
 refine QX hT QG hfn rfl 1 ?_
 refine ya ?_
 iterate 30 (try (refine Qa 1 ?_; simp -implicitDefEqProofs (disch:=omega) only [go_sem,↓reduceIte,reduceCtorEq,rA,rq,List.getElem?_cons_zero,q1,q2,honf,hlf]))
 refine Qd3 (Xv [(0,.lst 3 (prs l) tg),(3,.int .i64 params),(4,.int .i64 next),(11,.int .i64 ((n:Nat):Int)),(12,.ptr 0 t 0)] ⟨rfl,rfl,rfl,rfl,rfl,trivial⟩ ?_)
 have hne0:¬ fnC m=[]:=by simp [fnC]
 have hsh:Shift G 138 0 [(0,.lst 3 (prs l) tg),(3,.int .i64 params),(4,.int .i64 next),(11,.int .i64 ((n:Nat):Int)),(12,.ptr 0 t 0)] ⟨t+1,[some (.arr t 39 (fnC m))]⟩ [(0,.lst 3 (prs l) tg),(3,.int .i64 params),(4,.int .i64 next),(11,.int .i64 ((n:Nat):Int)),(12,.ref (.agg (fnC m)) 0)] ⟨t+1,[]⟩:=by
  refine (Shift.freeze (k:=0) (zL _) rfl hnlf).trans ?_
  simp only [QC,QW,X8,hne0,QA,List.set_cons_zero,Option.map_none,and_self,if_true,if_false]
  exact Shift.drop (o':=[]) trivial (lR _) (zL _)
 refine QfS hsh ?_
 rw [hT4]
 show W P G 138 0 (.seq (.reg Qu2 [34]) (.seq (.reg Qu1 [36,37,38,39,40,41,42,35,43,44]) (XJ 6 proofmarklaw25_RelateFresh.body))) _ _ (QoH G proofmarklaw25_RelateFresh.res _)
 obtain ⟨T6,hT6⟩:∃ c,c=XJ 6 proofmarklaw25_RelateFresh.body:=⟨_,rfl⟩
 rw [← hT6]
 refine Ql 14 ?_
 refine ya ?_
 refine call hT QfX (QI9 hT (o:=[]) (zL _)) 12 fun v σ hv=>?_
 obtain ⟨v0,v1,v2,v3,v4,t',i1,i2,i3,i4,ht',rfl,rfl,rfl,rfl,rfl,rfl⟩:=hv
 have hk0:([]:List (Option Ob))++[some (.map v1 []),some (.arr v0 93 [.sl (([]:List (Option Ob)).length+2) v2 0 6 0 none,.mp ([]:List (Option Ob)).length v1,.sl (([]:List (Option Ob)).length+3) v3 0 1 0 none,.sl (([]:List (Option Ob)).length+4) v4 0 1 0 none]),some (.arr v2 108 []),some (.arr v3 3 []),some (.arr v4 3 [])]=kG F.fmt v0 v1 v2 v3 v4 []++[]:=by
  simp [kG,Qf8,ndC,Qg8,QgZ]
 rw [hk0]
 have htf:List.take 5 (fnC m)=fnC m:=List.take_of_length_le (by rw [hlf]; omega)
 refine yw ?_
 iterate 20 (try (refine Qa 4 ?_; simp -implicitDefEqProofs (disch:=omega) only [go_sem,↓reduceIte,reduceCtorEq,rA,rq,rL,rT,Nat.reduceSub,Nat.reduceMul,Int.reduceToNat,Int.reduceLE,Int.reduceLT,Int.reduceEq,Int.reduceNe,Nat.reduceBEq,Nat.reduceBNe,Int.reduceBEq,List.getElem?_cons_zero,List.getElem?_cons_succ,hlf,htf]))
 refine call hT Zg (QpY (P:=P) (G:=G) hT F hS (v0:=v0) (v1:=v1) (v2:=v2) (v3:=v3) (v4:=v4) (L:=[]) l tg (by omega) hl64 n m (by omega) hm params next (by omega) (by simp) []) 1 fun v σ hv=>?_
 obtain ⟨L0,L',t2,u2,u3,u4,ps,hps,b,hb,h1,h2,h3,h4,h5,h6,rfl,rfl⟩:=hv
 have hlen:(frV L0 L' (max 0 next) ps b n (Zk m params) m).length=36:=by simp [frV,woF,Xs]
 have hones:ones (frV L0 L' (max 0 next) ps b n (Zk m params) m)=True:=eq_true (by
  intro c hc
  simp only [frV,woF,QK,List.mem_cons,List.mem_append,List.mem_map,List.not_mem_nil,or_false] at hc
  rcases hc with rfl | rfl | ⟨r,_,rfl⟩ | rfl | rfl <;> rfl)
 obtain ⟨wo,hwo⟩:∃ wo,wo=frV L0 L' (max 0 next) ps b n (Zk m params) m:=⟨_,rfl⟩
 rw [← hwo] at hlen hones ⊢
 have htk:List.take 36 wo=wo:=List.take_of_length_le (by omega)
 simp -implicitDefEqProofs (disch:=omega) only [go_sem,↓reduceIte,reduceCtorEq,rq,List.append_nil]
 iterate 20 (try (refine Qa 1 ?_; simp -implicitDefEqProofs (disch:=omega) only [go_sem,↓reduceIte,reduceCtorEq,rA,rq,rT,hlen,hones,List.append_nil]))
 refine Qd3 (Xv [(0,.lst 3 (prs l) tg),(3,.int .i64 params),(4,.int .i64 next),(11,.int .i64 ((n:Nat):Int)),(12,.ref (.agg (fnC m)) 0),(13,.ptr 1 v0 0),(14,.ptr 5 t2 0),(15,.int .i64 (frS ps b n).2)] ⟨rfl,rfl,rfl,rfl,rfl,rfl,rfl,rfl,trivial⟩ ?_)
 have hnlw:Qb wo=true:=by rw [hwo]; exact QuF _ _ _ _ _ _ _ _
 have hnew:¬ wo=[]:=fun e=>by rw [e] at hlen; cases hlen
 have hsh2:Shift G 138 0 [(0,.lst 3 (prs l) tg),(3,.int .i64 params),(4,.int .i64 next),(11,.int .i64 ((n:Nat):Int)),(12,.ref (.agg (fnC m)) 0),(13,.ptr 1 v0 0),(14,.ptr 5 t2 0),(15,.int .i64 (frS ps b n).2)] ⟨t2+1,kG F.fmt v0 v1 u2 u3 u4 L'++[some (.arr t2 49 wo)]⟩ [(0,.lst 3 (prs l) tg),(3,.int .i64 params),(4,.int .i64 next),(11,.int .i64 ((n:Nat):Int)),(12,.ref (.agg (fnC m)) 0),(13,.ptr 1 v0 0),(14,.ref (.agg wo) 0),(15,.int .i64 (frS ps b n).2)] ⟨t2+1,kG F.fmt v0 v1 u2 u3 u4 L'⟩:=by
  refine (Shift.freeze (k:=5) (zL _) rfl hnlw).trans ?_
  have e:(kG F.fmt v0 v1 u2 u3 u4 L'++[some (Ob.arr t2 49 wo)]).set 5 none=kG F.fmt v0 v1 u2 u3 u4 L'++[none]:=rfl
  rw [e,Z4 (by decide)]
  simp only [QC,QW,X8,hnew,QA,rq,false_and,and_self,if_true,if_false,Option.map_none]
  exact Shift.drop (XK _ _) (lR _) (zL _)
 refine QfS hsh2 ?_
 rw [hT6]
 have hcase:∀ (r:Nat),¬ (1≤r∧r≤31∧r≠2)→Xb ps 1 ((r:Nat):Int)=false:=fun r hr=>by
  unfold Xb
  refine List.any_eq_false.2 fun p hp=>?_
  have h2:=(List.mem_filter.1 (hps▸hp)).2
  unfold QQ at h2
  simp only [Bool.and_eq_true,decide_eq_true_eq] at h2
  intro hc
  simp only [decide_eq_true_eq] at hc
  have h3:=h2.2
  rw [if_pos hc.1] at h3
  unfold QkZ at h3
  simp only [decide_eq_true_eq] at h3
  omega
 have hLl:L'.length≤2500:=by simpa using h5
 have hs0:Hs L0 (co 0):=by have:=h2 0 (by omega) (by omega); unfold QqR at this; rwa [if_pos rfl] at this
 refine rf_B hT F hW (bh:=(frS ps b n).2) (lk:=hvW L' ps b n (-1)) (vs:=vsW L' ps b n) (rs:=rsW L0 L' ps b (max 0 next) n) (ss:=ssW L0 L' ps b (max 0 next) n (Zk m params)) hm rfl (hwo.trans (QE9 _ _ _ _ _ _ _ _)) (Qdq _ _ _ _ _ _ _) (Qly _ _ _ _) (Qdq _ _ _ _ _ _ _) (by omega) hps ⟨fun v hv=>?_,fun r a1 a2 a3 _=>?_,fun i a1 _=>?_,?_⟩ ?_ (hs0.ext h4) ?_ (by omega) (by omega) fun σ=>⟨zL _,rfl,rfl⟩
 ·exact hoOk hl64 ps hps h6 (by omega) hv
 ·have:=h2 r a2 a3
  unfold QqR at this
  rw [if_neg (by omega)] at this
  exact (show Hs L0 (sy (rNo (max 0 next) r)) from this).ext h4
 ·rw [Qdq] at a1
  exact (h3 i a1).ext h4
 ·exact apOk h6 h2 h3 h4 hb
 ·rw [Qop (by omega),hcase 0 (by omega)]
  simp only [Bool.false_eq_true,if_false]
  unfold Qfd QqR
  rw [if_neg (by omega),if_pos rfl]
  exact (Xm hs0 h4).symm
 ·rw [Qop (by omega),hcase 2 (by omega)]
  simp [Qfd]
end
end Go.Proofs.YtfgccihafnjalaaGreatDoor
