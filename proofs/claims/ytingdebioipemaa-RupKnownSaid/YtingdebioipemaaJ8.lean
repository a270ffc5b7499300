/- The law RupCheck. -/
import Derived.Test.YtingdebioipemaaJ7
import Derived.Test.YtingdebioipemaaJ5
open Nat renaming reduceEqDiff → rq, reduceAdd → rA, reduceLeDiff → rL, reduceLT → rTq, zero_add → zA, le_refl → lR, zero_le → zL, add_zero → aZ
open List renaming length_cons → lC, length_nil → lN, take_succ_cons → tS, length_append → lA, nil_append → nA, cons_append → cA, append_assoc → aA, take_nil → tN, take_zero → tZ, length_map → lM
open Bool renaming not_false → nF, not_true → nT
namespace Go.Proofs.Ytingdebioipemaa
open Go Go.Am Go.Cl
set_option maxRecDepth 100000
variable {G:Nat→Option V}
section
attribute [local go_sem] nF nT aZ lR Nat.mul_one Nat.one_mul Nat.succ_ne_zero zA zL Nat.zero_mul Option.getD_none Option.getD_some Option.isSome_none Option.isSome_some beq_self_eq_true bne_self_eq_false decide_false decide_true ge_iff_le gt_iff_lt Qt QU zq0_0 zq0_1 zq0_2 zq0_3 zq0_4 zq0_5 zq0_6 Xo zq7_0 zq7_1
theorem QqJ {P:Program} (hT:Qj P tab) (v:Int) (F:List (List Int)):Pure P G Zv [fml v F] fun u=>u=fml v F:=by
 intro t
 simp only [fml,rows]
 refine XU 0 (zL _) (QF hT Ym (by simp [Xo]) (Qx 1000 ?_))
 simp -implicitDefEqProofs (disch:=omega) only [go_sem,↓reduceIte,reduceCtorEq,rA,rq,rL]
theorem Qfg {v:Int} {F:List (List Int)}:∀ (k:Nat) (p:List (List Int)),k<p.length→(Y1 v F k p).length≤p.length∧∀ c∈Y1 v F k p,c∈p
 | 0,p,_=>⟨lR _,fun c h=>h⟩
 | k+1,p,hk=>by
   rw [Y1]
   have hl:=Qf0 (p:=p) (i:=k) (by omega)
   split
   ·have h:=Qfg (v:=v) (F:=F) k (Xz p k) (by omega)
    exact ⟨by omega,fun c hc=>QjP (h.2 c hc)⟩
   ·have h:=Qfg (v:=v) (F:=F) k p (by omega)
    exact h
theorem Qpz {v:Int} {F p:List (List Int)}:(short v F p).1.length≤p.length∧∀ c∈(short v F p).1,c∈p:=by
 unfold short
 split
 ·rename_i h
  have hpos:0<p.length:=by rw [ZV] at h; simp at h; omega
  exact Qfg _ _ (by omega)
 ·simp
set_option maxHeartbeats 1000000 in
theorem QbK (hT:Qj Try.prog tab) (v:Int) (F p:List (List Int)) (c:List Int) (hF:F.length≤9223372036854775807) (hFc:∀ c∈F,c.length≤9223372036854775807) (hp:p.length≤9223372036854775807) (hpc:∀ c∈p,c.length≤9223372036854775807)
 (hcl:c.length≤9223372036854775807) (hpb:∀ c∈p,∀ n∈c,-9223372036854775808≤n∧n≤9223372036854775807) (hb:∀ n∈c,-9223372036854775808≤n∧n≤9223372036854775807) :
 Pure Try.prog G Qr [fml v F,rows p,row c] fun u=>u=.bool true:=by
 have hW:=QfP (G:=G) hT
 have hf1:=QlK (G:=G) hT F 30 (by omega) hF hFc
 have hf2:=QlK (G:=G) hT p 12 (by omega) hp hpc
 simp only [fml,rows,row] at hf1 hf2 ⊢
 intro t
 refine XU 0 (zL _) (QF hT Qz (by simp [QU]) (Qx 1000 ?_))
 simp -implicitDefEqProofs (disch:=omega) only [go_sem,↓reduceIte,reduceCtorEq,rA,rq,true_implies,and_true]
 refine Qi hT QA hf1 (by simp [Qd,nameless]) 4 ?_
 cases h1:QmN F 30 with
 | false =>
   simp -implicitDefEqProofs (disch:=omega) only [go_sem,↓reduceIte,reduceCtorEq,rq]
   iterate 9 (try (refine Qc 4 ?_; simp -implicitDefEqProofs (disch:=omega) only [go_sem,↓reduceIte,reduceCtorEq,rq]))
   refine Qi hT Qh hW rfl 4 ?_
   simp -implicitDefEqProofs (disch:=omega) only [go_sem,↓reduceIte,reduceCtorEq,rq]
   iterate 4 (try (refine Qc 4 ?_; simp -implicitDefEqProofs (disch:=omega) only [go_sem,↓reduceIte,reduceCtorEq,rq,and_true]))
 | true =>
   simp -implicitDefEqProofs (disch:=omega) only [go_sem,↓reduceIte,reduceCtorEq,rA,rq]
   iterate 9 (try (refine Qc 4 ?_; simp -implicitDefEqProofs (disch:=omega) only [go_sem,↓reduceIte,reduceCtorEq,rA,rq,rL,rTq,Nat.reduceSub,Nat.reduceMul,Int.reduceToNat,Int.reduceLE,Int.reduceLT,Int.reduceEq,Int.reduceNe,Nat.reduceBEq,Nat.reduceBNe,lM,Qb,false_implies,true_implies,true_and,and_true,not_true_eq_false,not_false_eq_true]))
   refine Qi hT QA hf2 (by simp [Qd,nameless]) 4 ?_
   cases h2:QmN p 12 with
   | false =>
     simp -implicitDefEqProofs (disch:=omega) only [go_sem,↓reduceIte,reduceCtorEq,rA,rq]
     iterate 9 (try (refine Qc 4 ?_; simp -implicitDefEqProofs (disch:=omega) only [go_sem,↓reduceIte,reduceCtorEq,rq]))
     refine Qi hT Qh hW rfl 4 ?_
     simp -implicitDefEqProofs (disch:=omega) only [go_sem,↓reduceIte,reduceCtorEq,rq]
     iterate 4 (try (refine Qc 4 ?_; simp -implicitDefEqProofs (disch:=omega) only [go_sem,↓reduceIte,reduceCtorEq,rq,and_true]))
   | true =>
     rcases Nat.lt_or_ge 20 c.length with h3 | h3
     ·have h3':((20:Int)<(c.length:Int))=True:=eq_true (by omega)
      simp -implicitDefEqProofs (disch:=omega) only [go_sem,↓reduceIte,reduceCtorEq,rA,rq]
      iterate 9 (try (refine Qc 4 ?_; simp -implicitDefEqProofs (disch:=omega) only [go_sem,↓reduceIte,reduceCtorEq,rA,rq,Qb,h3']))
      refine Qi hT Qh hW rfl 4 ?_
      simp -implicitDefEqProofs (disch:=omega) only [go_sem,↓reduceIte,reduceCtorEq,rq]
      iterate 4 (try (refine Qc 4 ?_; simp -implicitDefEqProofs (disch:=omega) only [go_sem,↓reduceIte,reduceCtorEq,rq,and_true]))
     ·have h3':((20:Int)<(c.length:Int))=False:=eq_false (by omega)
      obtain ⟨hF30,hF20⟩:=Qik (k:=30) h1
      obtain ⟨hp12,hp20⟩:=Qik (k:=12) h2
      have hPl:=QqJ (P:=Try.prog) (G:=G) hT v F
      have hF500:∀ c∈F,c.length≤500:=fun c h=>by have:=hF20 c h; omega
      have hF1000:∀ c∈F,c.length≤1000:=fun c h=>by have:=hF20 c h; omega
      have hp500:∀ c∈p,c.length≤500:=fun c h=>by have:=hp20 c h; omega
      have hp1000:∀ c∈p,c.length≤1000:=fun c h=>by have:=hp20 c h; omega
      have a1:=QlN (G:=G) hT v F p (by omega) hF1000 hp1000 hpb
      have a2:=Qsu (P:=Try.prog) (G:=G) hT v F p (by omega) hF500 hp500 hpb
      have b1:=YP (G:=G) hT v F c (by omega) hF1000 (by omega) hb
      have b2:=QhD (P:=Try.prog) (G:=G) hT v F c (by omega) hF1000 (by omega) hb
      have d1:=QlP (G:=G) hT v F p (by omega) hF1000 hp1000 hpb
      have d2:=QmV (P:=Try.prog) (G:=G) hT v F p (by omega) hF500 hp500 hpb
      have e1:=Qax (G:=G) hT v F p (by omega) hF1000 hp1000 hpb
      have e2:=Qjk (P:=Try.prog) (G:=G) hT v F p (by omega) hF500 hp500 hpb
      have hsm:=Qpz (v:=v) (F:=F) (p:=p)
      have s1:=Qip (P:=Try.prog) (G:=G) hT (short v F p).1 (short v F p).1 (by omega) (by omega) (fun c h=>by have:=hp20 c (hsm.2 c h); omega) (fun c h=>by have:=hp20 c (hsm.2 c h); omega)
      rw [decide_eq_true rfl] at s1
      generalize (short v F p).1=S at *
      generalize (short v F p).2=ok at *
      simp only [fml,rows,row] at hPl a1 a2 b1 b2 d1 d2 e1 e2 s1
      have nn:Qd [V.agg [V.int .i64 v,V.lst 1 (F.map row) false],V.lst 1 (p.map row) false]=true:=by simp [Qd,nameless]
      have nc:Qd [V.agg [V.int .i64 v,V.lst 1 (F.map row) false],V.lst 1 (ints c) false]=true:=by simp [Qd,nameless]
      simp -implicitDefEqProofs (disch:=omega) only [go_sem,↓reduceIte,reduceCtorEq,rA,rq]
      iterate 9 (try (refine Qc 4 ?_; simp -implicitDefEqProofs (disch:=omega) only [go_sem,↓reduceIte,reduceCtorEq,rA,rq,Qb,false_implies,and_true,h3']))
      refine Qi hT Ym hPl (by simp [Qd,nameless]) 4 ?_
      simp -implicitDefEqProofs (disch:=omega) only [go_sem,↓reduceIte,reduceCtorEq,rA,rq,and_true]
      iterate 9 (try (refine Qc 4 ?_; simp -implicitDefEqProofs (disch:=omega) only [go_sem,↓reduceIte,reduceCtorEq,rA,rq,false_implies,and_true]))
      refine Qi hT Qd9 a1 nn 4 ?_
      simp -implicitDefEqProofs (disch:=omega) only [go_sem,↓reduceIte,reduceCtorEq,rA,rq,rTq]
      iterate 9 (try (refine Qc 4 ?_; simp -implicitDefEqProofs (disch:=omega) only [go_sem,↓reduceIte,reduceCtorEq,rA,rq,false_implies,and_true]))
      refine Qi hT Zj a2 nn 4 ?_
      simp -implicitDefEqProofs (disch:=omega) only [go_sem,↓reduceIte,reduceCtorEq,rA,rq,rTq]
      iterate 9 (try (refine Qc 4 ?_; simp -implicitDefEqProofs (disch:=omega) only [go_sem,↓reduceIte,reduceCtorEq,rA,rq,false_implies,and_true]))
      refine Qi hT QG b1 nc 4 ?_
      simp -implicitDefEqProofs (disch:=omega) only [go_sem,↓reduceIte,reduceCtorEq,rq]
      iterate 9 (try (refine Qc 4 ?_; simp -implicitDefEqProofs (disch:=omega) only [go_sem,↓reduceIte,reduceCtorEq,rA,rq,rL,rTq,Nat.reduceSub,Nat.reduceMul,Int.reduceToNat,Int.reduceLE,Int.reduceLT,Int.reduceEq,Int.reduceNe,Nat.reduceBEq,Nat.reduceBNe,lM,Qb,false_implies,true_implies,true_and,and_true,not_true_eq_false,not_false_eq_true]))
      refine Qi hT Xa b2 nc 4 ?_
      simp -implicitDefEqProofs (disch:=omega) only [go_sem,↓reduceIte,reduceCtorEq,rA,rq,false_implies,and_true]
      iterate 9 (try (refine Qc 4 ?_; simp -implicitDefEqProofs (disch:=omega) only [go_sem,↓reduceIte,reduceCtorEq,rA,rq,false_implies,and_true]))
      refine Qi hT QbU d1 nn 4 ?_
      simp -implicitDefEqProofs (disch:=omega) only [go_sem,↓reduceIte,reduceCtorEq,rA,rq]
      iterate 9 (try (refine Qc 4 ?_; simp -implicitDefEqProofs (disch:=omega) only [go_sem,↓reduceIte,reduceCtorEq,rA,rq,rL,rTq,Nat.reduceSub,Nat.reduceMul,Int.reduceToNat,Int.reduceLE,Int.reduceLT,Int.reduceEq,Int.reduceNe,Nat.reduceBEq,Nat.reduceBNe,lM,Qb,false_implies,true_implies,true_and,and_true,not_true_eq_false,not_false_eq_true]))
      refine Qi hT Yj d2 nn 4 ?_
      simp -implicitDefEqProofs (disch:=omega) only [go_sem,↓reduceIte,reduceCtorEq,rA,rq,false_implies,and_true]
      iterate 9 (try (refine Qc 4 ?_; simp -implicitDefEqProofs (disch:=omega) only [go_sem,↓reduceIte,reduceCtorEq,rA,rq,false_implies,and_true]))
      refine Qi hT Q4 e1 nn 4 ?_
      simp -implicitDefEqProofs (disch:=omega) only [go_sem,↓reduceIte,reduceCtorEq,rA,rq]
      iterate 9 (try (refine Qc 4 ?_; simp -implicitDefEqProofs (disch:=omega) only [go_sem,↓reduceIte,reduceCtorEq,rA,rq,rL,rTq,Nat.reduceSub,Nat.reduceMul,Int.reduceToNat,Int.reduceLE,Int.reduceLT,Int.reduceEq,Int.reduceNe,Nat.reduceBEq,Nat.reduceBNe,lM,Qb,false_implies,true_implies,true_and,and_true,not_true_eq_false,not_false_eq_true]))
      refine Qi hT Xx e2 nn 4 ?_
      simp -implicitDefEqProofs (disch:=omega) only [go_sem,↓reduceIte,reduceCtorEq,rA,rq]
      iterate 9 (try (refine Qc 4 ?_; simp -implicitDefEqProofs (disch:=omega) only [go_sem,↓reduceIte,reduceCtorEq,rA,rq]))
      refine Qi hT XL s1 (by simp [Qd,nameless]) 4 ?_
      simp -implicitDefEqProofs (disch:=omega) only [go_sem,↓reduceIte,reduceCtorEq,rA,rq]
      iterate 9 (try (refine Qc 4 ?_; simp -implicitDefEqProofs (disch:=omega) only [go_sem,↓reduceIte,reduceCtorEq,rA,rq,rL,rTq,Nat.reduceSub,Nat.reduceMul,Int.reduceToNat,Int.reduceLE,Int.reduceLT,Int.reduceEq,Int.reduceNe,Nat.reduceBEq,Nat.reduceBNe,lM,Qb,false_implies,true_implies,true_and,and_true,not_true_eq_false,not_false_eq_true]))
      refine Qi hT Qh hW rfl 4 ?_
      simp -implicitDefEqProofs (disch:=omega) only [go_sem,↓reduceIte,reduceCtorEq,rq]
      iterate 9 (try (refine Qc 4 ?_; simp -implicitDefEqProofs (disch:=omega) only [go_sem,↓reduceIte,reduceCtorEq,rA,rq,and_true]))
end
end Go.Proofs.Ytingdebioipemaa
namespace Go.Proofs.Ytingdebioipemaa
open Go Go.Am Go.Cl
set_option maxRecDepth 100000
variable {P:Program} {G:Nat→Option V}
section
attribute [local go_sem] nF lM aZ lR Nat.mul_one zA zL and_true decide_false decide_true false_implies Qt Xi zqi_0 zqi_1 Qog QsW QvW QvV QvU Qrc Qrb Qra QvT QvS rfH true_and true_implies
variable {k w T t0 n i:Nat} {o:List (Option Ob)}
theorem QrF {cs:List V} (h:o[k]?=some (some (.arr w T cs))) (hc:∀ u∈cs,u.cells=[u]∧nameless u=true):Seen o (.sl k w 0 1 cs.length none) (.lst 1 cs false) :=
 Seen.row (o:=o) k w 0 1 none T cs cs h (fun j u hj=>by
  have hm:=hc u (List.mem_of_getElem? hj)
  rw [hm.1]
  refine ⟨rfl,fun i d hd=>?_⟩
  cases i with
  | zero =>
    simp at hd; subst hd
    refine ⟨?_,hm.2⟩
    rw [show 0+j * 1+0=j by omega]; exact hj
  | succ i=>simp at hd) (fun _=>rfl)
variable {m:List Bool}
theorem seen_bools (h:o[k]?=some (some (.arr w T (m.map V.bool)))):Seen o (.sl k w 0 1 m.length none) (.lst 1 (m.map V.bool) false):=by
 have:=QrF h (fun u hu=>by
  obtain ⟨b,_,rfl⟩:=List.mem_map.1 hu
  exact ⟨rfl,rfl⟩)
 rwa [lM] at this
theorem QjR (hk:k<m.length) (b:Bool):List.take k (m.map V.bool)++[V.bool b]++List.drop (k+1) (m.map V.bool)=(m.set k b).map V.bool:=by
 rw [List.set_eq_take_append_cons_drop,if_pos hk]
 simp [List.map_take,List.map_drop]
theorem shl1:∀ n:Nat,n<9→IntKind.i64.wrap (1 * 2 ^ min n 64)=((2 ^ n:Nat):Int):=by decide
theorem pow8:∀ n:Nat,n<9→2 ^ n≤256:=by decide
abbrev mbJ (t0 tw t' n i:Nat) (F:List (List Int)):Nat→Fr→H→Prop:=fun k fr σ=>∃ m:List Bool,m.length=n∧Qg fr 1=.ptr 0 t0 0∧Qg fr 3=.int .i64 ((i:Nat):Int)∧Qg fr 4=.sl 1 tw 0 1 n none∧Qg fr 5=.int .i64 ((k:Nat):Int)∧σ=⟨t',rfH t0 n F++[some (.arr tw 4 (m.map V.bool))]⟩
abbrev mbE (t0 tw t' n i:Nat) (F:List (List Int)):AE→Fr→H→Prop:=fun e fr σ=>e=.ex 2∧∃ m:List Bool,m.length=n∧Qg fr 1=.ptr 0 t0 0∧Qg fr 3=.int .i64 ((i:Nat):Int)∧Qg fr 4=.sl 1 tw 0 1 n none∧σ=⟨t',rfH t0 n F++[some (.arr tw 4 (m.map V.bool))]⟩
variable {σ:H} {fr:Fr} {F:List (List Int)}
theorem Qr1 {tw t':Nat} (hn:n≤8) (hk:k<n) (hJ:mbJ t0 tw t' n i F k fr σ) :
 W P G 33 0 (.seq (zg Qrc [16,17,18] (zw 19 .skip (.exit 2))) (.seq (.block 3 (.reg Qrb [22,23,24,25,26,27,28,29])) (.reg Qra [20,21]))) fr σ (Y9 (fun fr σ=>∃ fr' σ',Shift G 33 0 fr σ fr' σ'∧mbJ t0 tw t' n i F (k+1) fr' σ') (mbE t0 tw t' n i F)):=by
 obtain ⟨m,hm,f1,f3,f4,f5,rfl⟩:=hJ
 have e2:=XP hk (by omega)
 have hput:=QjR (m:=m) (k:=k) (by omega)
 have hlt:(k:Int)<(n:Int):=by omega
 refine Qf [(1,.ptr 0 t0 0),(3,.int .i64 ((i:Nat):Int)),(4,.sl 1 tw 0 1 n none),(5,.int .i64 ((k:Nat):Int))] ⟨f1,f3,f4,f5,trivial⟩  1000 ?_
 simp -implicitDefEqProofs (disch:=omega) only [go_sem,↓reduceIte,rA,rq,rL,cA,nA,hlt,hm,hput]
 exact ⟨_,_,Shift.refl _ _ _ _,m.set k (andI IntKind.i64 (Int.fdiv (i:Int) (2 ^ min k 64)) 1==1),by simp [hm],rfl,rfl,rfl,by rw [e2]; rfl,rfl⟩
abbrev moJ (t0 n:Nat) (F:List (List Int)):Nat→Fr→H→Prop:=fun i fr σ=>∃ t',Qg fr 1=.ptr 0 t0 0∧Qg fr 3=.int .i64 ((i:Nat):Int)∧σ=⟨t',rfH t0 n F⟩
abbrev moE (n:Nat) (F:List (List Int)):AE→Fr→H→Prop:=fun e fr _=>(e=.ret∧Qg fr 2=.bool true∧∃ m,ZR n F m=true)∨e=.ex 0
theorem QrX (hT:Qj P tab) (hn:n≤8) (hF:F.length≤1000) (hc:∀ c∈F,c.length≤1000) (hi:i<2 ^ n) (hJ:moJ t0 n F i fr σ) :
 W P G 33 0 (.seq (zg QvW [6,7,8,9] (zw 10 .skip (.exit 0))) (.seq (.block 1 (zg QvV [13,14,15] (.seq (zg QvU [] (.block 2 (.loop (.seq (zg Qrc [16,17,18] (zw 19 .skip (.exit 2))) (.seq (.block 3 (.reg Qrb [22,23,24,25,26,27,28,29])) (.reg Qra [20,21])))))) (zg QvT [30,31] (zw 32 (zg QvS [] .ret) .skip))))) (.reg Qog [11,12]))) fr σ (Y9 (fun fr σ=>∃ fr' σ',Shift G 33 0 fr σ fr' σ'∧moJ t0 n F (i+1) fr' σ') (moE n F)):=by
 obtain ⟨t',f1,f3,rfl⟩:=hJ
 have hp:=pow8 n (by omega)
 have e2:=XP hi (by omega)
 have hlt:(i:Int)<((2 ^ n:Nat):Int):=by omega
 have hrep:(List.replicate n [V.bool false]).flatten=(List.replicate n false).map V.bool:=by
  clear hi e2 hlt hp hn
  induction n with
  | zero=>rfl
  | succ n ih=>rw [List.replicate_succ,List.flatten_cons,ih,List.replicate_succ]; rfl
 have hs:=shl1 n (by omega)
 generalize 2 ^ n=z at *
 refine Qf [(1,.ptr 0 t0 0),(3,.int .i64 ((i:Nat):Int))] ⟨f1,f3,trivial⟩  1000 ?_
 simp -implicitDefEqProofs (disch:=omega) only [go_sem,↓reduceIte,rA,rq,rL,hs,hlt,hrep]
 refine ZF n (mbJ t0 t' (t'+1) n i F) (mbE t0 t' (t'+1) n i F) ⟨List.replicate n false,by simp,?_⟩ (fun k hk fr σ hJ=>Qr1 hn hk hJ) (fun k hk fr σ hJ=>?_) (fun e fr σ hE=>?_)
 ·simp -implicitDefEqProofs (disch:=omega) only [go_sem,↓reduceIte,rq,cA,nA]
  simp
 ·obtain ⟨m,hm,f1,f3,f4,f5,rfl⟩:=hJ
  refine Qf [(1,.ptr 0 t0 0),(3,.int .i64 ((i:Nat):Int)),(4,.sl 1 t' 0 1 n none),(5,.int .i64 ((k:Nat):Int))] ⟨f1,f3,f4,f5,trivial⟩ 1000 ?_
  simp -implicitDefEqProofs (disch:=omega) only [go_sem,↓reduceIte,rA,rq,rL,hk,Int.lt_irrefl]
  exact ⟨rfl,m,hm,rfl,rfl,rfl,rfl⟩
 ·obtain ⟨rfl,m,hm,f1,f3,f4,rfl⟩:=hE
  have hH:=QmU (P:=P) (G:=G) hT n F m (by omega) (fun c h=>by have:=hc c h; omega) (by omega)
  simp only [fml,rows,QlQ] at hH
  have hV:∀ (o:List (Option Ob)) (k w T:Nat),o[k]?=some (some (.arr w T (m.map V.bool)))→Seen o (.sl k w 0 1 n none) (.lst 1 (m.map V.bool) false):=fun o k w T h=>by
   rw [← hm]; exact seen_bools h
  refine QQ [(1,.ptr 0 t0 0),(3,.int .i64 ((i:Nat):Int)),(4,.sl 1 t' 0 1 n none)] ⟨f1,f3,f4,trivial⟩ 1000 ?_
  simp -implicitDefEqProofs (disch:=omega) only [go_sem,↓reduceIte,reduceCtorEq,rA,rq,cA,nA]
  refine QJ hT Yl hH (.cons _ _ _ _ (.same _ (by simp [nameless,Qd])) (.cons _ _ _ _ (hV _ _ _ _ rfl) .nil)) rfl 1000 ?_
  cases hh:ZR n F m with
  | true =>
    simp -implicitDefEqProofs (disch:=omega) only [go_sem,↓reduceIte,rq]
    exact .inl ⟨rfl,rfl,m,hh⟩
  | false =>
    simp -implicitDefEqProofs (disch:=omega) only [go_sem,↓reduceIte,rq]
    refine ⟨_,_,Shift.drop (o':=rfH t0 n F) (t':=t'+1) (by simp [YF,rfH]) (lR _) (zL _),t'+1,?_⟩
    simp -implicitDefEqProofs (disch:=omega) only [go_sem,↓reduceIte,rq,e2]
theorem Qxx (hT:Qj P tab) (n:Nat) (F:List (List Int)) (hn:n≤8) (hF:F.length≤1000) (hc:∀ c∈F,c.length≤1000) :
 Pure P G Zp [fml n F] fun u=>u=.bool false∨(u=.bool true∧∃ m,ZR n F m=true):=by
 intro t0
 simp only [fml,rows]
 refine XU 0 (zL _) (QF hT Zk (by simp [Xi]) (Qx 1000 ?_))
 simp -implicitDefEqProofs (disch:=omega) only [go_sem,↓reduceIte,reduceCtorEq,rq]
 refine ZF (2 ^ n) (moJ t0 n F) (moE n F) ⟨t0+1,?_⟩ (fun i hi fr σ hJ=>QrX hT hn hF hc hi hJ) (fun i hi fr σ hJ=>?_) (fun e fr σ hE=>?_)
 ·simp -implicitDefEqProofs (disch:=omega) only [go_sem,↓reduceIte,reduceCtorEq,rq]
  simp
 ·obtain ⟨t',f1,f3,rfl⟩:=hJ
  have hs:=shl1 n (by omega)
  rw [← hi] at hs
  refine Qf [(1,.ptr 0 t0 0),(3,.int .i64 ((i:Nat):Int))] ⟨f1,f3,trivial⟩  1000 ?_
  simp -implicitDefEqProofs (disch:=omega) only [go_sem,↓reduceIte,rA,rq,rL,hs,Int.lt_irrefl]
  exact .inr rfl
 ·rcases hE with ⟨rfl,f2,hm⟩ | rfl
  ·refine Qc 1000 ?_
   simp -implicitDefEqProofs (disch:=omega) only [go_sem,f2]
   first | exact hm | exact .inr ⟨rfl,hm⟩ | exact .inr hm
  ·refine Qc 1000 ?_
   simp -implicitDefEqProofs (disch:=omega) only [go_sem,↓reduceIte]
   try simp
end
end Go.Proofs.Ytingdebioipemaa
namespace Go.Proofs.Ytingdebioipemaa
open Go Go.Am Go.Cl
set_option maxRecDepth 100000
variable {G:Nat→Option V}
section
attribute [local go_sem] nF nT cA lM nA aZ lR Nat.mul_one Nat.one_mul Nat.succ_ne_zero zA zL Nat.zero_mul Option.getD_none Option.getD_some Option.isSome_none Option.isSome_some and_true beq_self_eq_true bne_self_eq_false decide_false decide_true false_implies ge_iff_le gt_iff_lt Qb Qt not_false_eq_true not_true_eq_false QZ zq1_0 zq1_1 Qjz Qjy Qjx Qh8 Qh7 Qh6 Qjw Qjv Qju Qmk zq1_2 QuD zq1_3 zq1_4 zq1_5 zq1_6 Qrp Qro Qrn true_and true_implies
def rtH (t n:Nat) (F:List (List Int)):List (Option Ob):=[some (.arr t 24 [.int .i64 n,.lst 1 (F.map row) false]),some (.arr (t+1) 28 [.int .i64 n,.lst 1 (F.map row) false])]
abbrev rtjJ (t0 tw t' n i k:Nat) (F p:List (List Int)):Nat→Fr→H→Prop:=fun j fr σ=>∃ m:List Bool,m.length=n∧Qg fr 1=.lst 1 (p.map row) false∧Qg fr 2=.ptr 0 t0 0∧Qg fr 5=.ptr 1 (t0+1) 0∧Qg fr 6=.int .i64 ((i:Nat):Int)∧Qg fr 7=.int .i64 ((k:Nat):Int)∧Qg fr 8=.sl 2 tw 0 1 n none∧Qg fr 9=.int .i64 ((j:Nat):Int)∧σ=⟨t',rtH t0 n F++[some (.arr tw 4 (m.map V.bool))]⟩
abbrev rtjE (t0 tw t' n i k:Nat) (F p:List (List Int)):AE→Fr→H→Prop:=fun e fr σ=>e=.ex 4∧∃ m:List Bool,m.length=n∧Qg fr 1=.lst 1 (p.map row) false∧Qg fr 2=.ptr 0 t0 0∧Qg fr 5=.ptr 1 (t0+1) 0∧Qg fr 6=.int .i64 ((i:Nat):Int)∧Qg fr 7=.int .i64 ((k:Nat):Int)∧Qg fr 8=.sl 2 tw 0 1 n none∧σ=⟨t',rtH t0 n F++[some (.arr tw 4 (m.map V.bool))]⟩
variable {σ:H} {fr:Fr} {F p:List (List Int)} {t0 n i k:Nat}
theorem rj_rnd {tw t':Nat} (hn:n≤8) {j:Nat} (hj:j<n) (hJ:rtjJ t0 tw t' n i k F p j fr σ) :
 W Try.prog G 89 0 (.seq (zg Qh8 [62,63,64] (zw 65 .skip (.exit 4))) (.seq (.block 5 (.reg Qh7 [68,69,70,71,72,73,74,75])) (.reg Qh6 [66,67]))) fr σ (Y9 (fun fr σ=>∃ fr' σ',Shift G 89 0 fr σ fr' σ'∧rtjJ t0 tw t' n i k F p (j+1) fr' σ') (rtjE t0 tw t' n i k F p)):=by
 obtain ⟨m,hm,f1,f2,f5,f6,f7,f8,f9,rfl⟩:=hJ
 have e2:=XP hj (by omega)
 have hput:=QjR (m:=m) (k:=j) (by omega)
 have hlt:(j:Int)<(n:Int):=by omega
 refine Qf [(1,.lst 1 (p.map row) false),(2,.ptr 0 t0 0),(5,.ptr 1 (t0+1) 0),(6,.int .i64 ((i:Nat):Int)),(7,.int .i64 ((k:Nat):Int)),(8,.sl 2 tw 0 1 n none),(9,.int .i64 ((j:Nat):Int))] ⟨f1,f2,f5,f6,f7,f8,f9,trivial⟩  1000 ?_
 simp -implicitDefEqProofs (disch:=omega) only [go_sem,↓reduceIte,rA,rq,rL,rtH,hlt,hm,hput]
 exact ⟨_,_,Shift.refl _ _ _ _,m.set j (andI IntKind.i64 (Int.fdiv (k:Int) (2 ^ min j 64)) 1==1),by simp [hm],rfl,rfl,rfl,rfl,rfl,rfl,by rw [e2]; rfl,rfl⟩
abbrev rtkJ (t0 n i:Nat) (F p:List (List Int)):Nat→Fr→H→Prop:=fun k fr σ=>∃ t',Qg fr 1=.lst 1 (p.map row) false∧Qg fr 2=.ptr 0 t0 0∧Qg fr 5=.ptr 1 (t0+1) 0∧Qg fr 6=.int .i64 ((i:Nat):Int)∧Qg fr 7=.int .i64 ((k:Nat):Int)∧σ=⟨t',rtH t0 n F⟩
abbrev rtkE (t0 n i:Nat) (F p:List (List Int)):AE→Fr→H→Prop:=fun e fr σ=>e=.ex 2∧∃ t',Qg fr 1=.lst 1 (p.map row) false∧Qg fr 2=.ptr 0 t0 0∧Qg fr 5=.ptr 1 (t0+1) 0∧Qg fr 6=.int .i64 ((i:Nat):Int)∧σ=⟨t',rtH t0 n F⟩
variable {c:List Int}
set_option maxHeartbeats 1000000 in
theorem rk_rnd (hT:Qj Try.prog tab) (hn:n≤8) (hF:F.length≤1000) (hc:∀ c∈F,c.length≤1000) (hci:p[i]?=some c) (hpl:p.length≤1000) (hcl:c.length≤1000) (hfo:follows n F c=true) (hk:k<2 ^ n) (hJ:rtkJ t0 n i F p k fr σ) :
 W Try.prog G 89 0 (.seq (zg Qjz [52,53,54,55] (zw 56 .skip (.exit 2))) (.seq (.block 3 (zg Qjy [59,60,61] (.seq (zg Qjx [] (.block 4 (.loop (.seq (zg Qh8 [62,63,64] (zw 65 .skip (.exit 4))) (.seq (.block 5 (.reg Qh7 [68,69,70,71,72,73,74,75])) (.reg Qh6 [66,67])))))) (zg Qjw [76,77,78,79,80,81,82,83,84,85,86] (zw 87 (zg Qjv [] .ret) .skip))))) (.reg Qju [57,58]))) fr σ (Y9 (fun fr σ=>∃ fr' σ',Shift G 89 0 fr σ fr' σ'∧rtkJ t0 n i F p (k+1) fr' σ') (rtkE t0 n i F p)):=by
 obtain ⟨t',f1,f2,f5,f6,f7,rfl⟩:=hJ
 obtain ⟨hlti,hD,_⟩:=Qeg hci (by omega)
 have hp:=pow8 n (by omega)
 have e2:=XP hk (by omega)
 have hlt:(k:Int)<((2 ^ n:Nat):Int):=by omega
 have hrep:(List.replicate n [V.bool false]).flatten=(List.replicate n false).map V.bool:=by
  clear hk e2 hlt hp hn hfo f6 f7
  induction n with
  | zero=>rfl
  | succ n ih=>rw [List.replicate_succ,List.flatten_cons,ih,List.replicate_succ]; rfl
 have hs:=shl1 n (by omega)
 generalize 2 ^ n=z at *
 refine Qf [(1,.lst 1 (p.map row) false),(2,.ptr 0 t0 0),(5,.ptr 1 (t0+1) 0),(6,.int .i64 ((i:Nat):Int)),(7,.int .i64 ((k:Nat):Int))] ⟨f1,f2,f5,f6,f7,trivial⟩  1000 ?_
 simp -implicitDefEqProofs (disch:=omega) only [go_sem,↓reduceIte,rA,rq,rL,rtH,hs,hlt,hrep]
 refine ZF n (rtjJ t0 t' (t'+1) n i k F p) (rtjE t0 t' (t'+1) n i k F p) ⟨List.replicate n false,by simp,rfl,rfl,rfl,rfl,rfl,rfl,rfl,rfl⟩ (fun k hk fr σ hJ=>rj_rnd hn hk hJ) (fun j hj fr σ hJ=>?_) (fun e fr σ hE=>?_)
 ·obtain ⟨m,hm,f1,f2,f5,f6,f7,f8,f9,rfl⟩:=hJ
  refine Qf [(1,.lst 1 (p.map row) false),(2,.ptr 0 t0 0),(5,.ptr 1 (t0+1) 0),(6,.int .i64 ((i:Nat):Int)),(7,.int .i64 ((k:Nat):Int)),(8,.sl 2 t' 0 1 n none),(9,.int .i64 ((j:Nat):Int))] ⟨f1,f2,f5,f6,f7,f8,f9,trivial⟩ 1000 ?_
  simp -implicitDefEqProofs (disch:=omega) only [go_sem,↓reduceIte,rA,rq,rL,rtH,hj,Int.lt_irrefl]
  exact ⟨rfl,m,hm,rfl,rfl,rfl,rfl,rfl,rfl,rfl⟩
 ·obtain ⟨rfl,m,hm,f1,f2,f5,f6,f7,f8,rfl⟩:=hE
  have hH:=QmU (P:=Try.prog) (G:=G) hT n F m (by omega) (fun c h=>by have:=hc c h; omega) (by omega)
  have hcr:=(Qas.1 hfo).2.1
  have hC:=Qkr (P:=Try.prog) (G:=G) hT c m (fun x hx=>by have:=hcr x hx; omega) (by omega) (by omega)
  simp only [fml,rows,QlQ,row] at hH hC
  have hV:∀ (o:List (Option Ob)) (k w T:Nat),o[k]?=some (some (.arr w T (m.map V.bool)))→Seen o (.sl k w 0 1 n none) (.lst 1 (m.map V.bool) false):=fun o k w T h=>by
   rw [← hm]; exact seen_bools h
  refine QQ [(1,.lst 1 (p.map row) false),(2,.ptr 0 t0 0),(5,.ptr 1 (t0+1) 0),(6,.int .i64 ((i:Nat):Int)),(7,.int .i64 ((k:Nat):Int)),(8,.sl 2 t' 0 1 n none)] ⟨f1,f2,f5,f6,f7,f8,trivial⟩ 4 ?_
  simp -implicitDefEqProofs (disch:=omega) only [go_sem,↓reduceIte,reduceCtorEq,rA,rq,rtH]
  iterate 9 (try (refine Qc 4 ?_; simp -implicitDefEqProofs (disch:=omega) only [go_sem,↓reduceIte,rq]))
  refine QJ hT Yl hH (.cons _ _ _ _ (.same _ (by simp [nameless,Qd])) (.cons _ _ _ _ (hV _ _ _ _ rfl) .nil)) rfl 4 ?_
  cases hh:ZR n F m with
  | false =>
    simp -implicitDefEqProofs (disch:=omega) only [go_sem,↓reduceIte,rq]
    iterate 9 (try (refine Qc 4 ?_; simp -implicitDefEqProofs (disch:=omega) only [go_sem,↓reduceIte,rq]))
    refine ⟨_,_,Shift.drop (o':=rtH t0 n F) (t':=t'+1) (by simp [YF,rtH]) (lR _) (zL _),t'+1,?_⟩
    simp -implicitDefEqProofs (disch:=omega) only [go_sem,↓reduceIte,rq,rtH,e2]
  | true =>
    have hcl2:X3 m c=true:=QeC hfo fun d hd=>by
     simp only [ZR,Bool.and_eq_true,List.all_eq_true] at hh
     exact hh.2.2 d hd
    rw [hcl2] at hC
    simp -implicitDefEqProofs (disch:=omega) only [go_sem,↓reduceIte,rA,rq]
    iterate 9 (try (refine Qc 4 ?_; simp -implicitDefEqProofs (disch:=omega) only [go_sem,↓reduceIte,rA,rq,hD]))
    refine QJ hT XW hC (.cons _ _ _ _ (.same _ (by simp [nameless])) (.cons _ _ _ _ (hV _ _ _ _ rfl) .nil)) rfl 4 ?_
    simp -implicitDefEqProofs (disch:=omega) only [go_sem,↓reduceIte,rA,rq]
    iterate 9 (try (refine Qc 4 ?_; simp -implicitDefEqProofs (disch:=omega) only [go_sem,↓reduceIte,rq]))
    refine ⟨_,_,Shift.drop (o':=rtH t0 n F) (t':=t'+1) (by simp [YF,rtH]) (lR _) (zL _),t'+1,?_⟩
    simp -implicitDefEqProofs (disch:=omega) only [go_sem,↓reduceIte,rq,rtH,e2]
abbrev rtiJ (t0 n:Nat) (F p:List (List Int)):Nat→Fr→H→Prop:=fun i fr σ=>∃ t',Qg fr 1=.lst 1 (p.map row) false∧Qg fr 2=.ptr 0 t0 0∧Qg fr 5=.ptr 1 (t0+1) 0∧Qg fr 6=.int .i64 ((i:Nat):Int)∧σ=⟨t',rtH t0 n F⟩
theorem ri_rnd (hT:Qj Try.prog tab) (hn:n≤8) (hF:F.length≤1000) (hc:∀ c∈F,c.length≤1000) (hpl:p.length≤1000) (hpc:∀ c∈p,c.length≤1000) (hpb:∀ c∈p,∀ n∈c,-9223372036854775808≤n∧n≤9223372036854775807) (hci:p[i]?=some c) (hJ:rtiJ t0 n F p i fr σ) :
 W Try.prog G 89 0 wh fr σ (Y9 (fun fr σ=>∃ fr' σ',Shift G 89 0 fr σ fr' σ'∧rtiJ t0 n F p (i+1) fr' σ') fun e _ _=>e=.ex 0):=by
 obtain ⟨t',f1,f2,f5,f6,rfl⟩:=hJ
 obtain ⟨hlti,hD,e2⟩:=Qeg hci (by omega)
 have hcm:=List.mem_of_getElem? hci
 have hFo:=YP (G:=G) hT n F c hF hc (hpc c hcm) (hpb c hcm)
 simp only [fml,rows,row] at hFo
 refine Qf [(1,.lst 1 (p.map row) false),(2,.ptr 0 t0 0),(5,.ptr 1 (t0+1) 0),(6,.int .i64 ((i:Nat):Int))] ⟨f1,f2,f5,f6,trivial⟩  1000 ?_
 simp -implicitDefEqProofs (disch:=omega) only [go_sem,↓reduceIte,reduceCtorEq,rA,rq,rtH,hlti,hD]
 refine Qi hT QG hFo (by simp [Qd,nameless]) 1000 ?_
 cases hfo:follows n F c with
 | false =>
   simp -implicitDefEqProofs (disch:=omega) only [go_sem,↓reduceIte,rq]
   refine ⟨_,_,Shift.refl _ _ _ _,t',?_⟩
   simp -implicitDefEqProofs (disch:=omega) only [go_sem,↓reduceIte,rq,rtH,e2]
 | true =>
   simp -implicitDefEqProofs (disch:=omega) only [go_sem,↓reduceIte,rq]
   refine ZF (2 ^ n) (rtkJ t0 n i F p) (rtkE t0 n i F p) ⟨t',rfl,rfl,rfl,rfl,rfl,rfl⟩ (fun k hk fr σ hJ=>rk_rnd hT hn hF hc hci hpl (hpc c hcm) hfo hk hJ) (fun k hk fr σ hJ=>?_) (fun e fr σ hE=>?_)
   ·obtain ⟨t',f1,f2,f5,f6,f7,rfl⟩:=hJ
    have hs:=shl1 n (by omega)
    rw [← hk] at hs
    refine Qf [(1,.lst 1 (p.map row) false),(2,.ptr 0 t0 0),(5,.ptr 1 (t0+1) 0),(6,.int .i64 ((i:Nat):Int)),(7,.int .i64 ((k:Nat):Int))] ⟨f1,f2,f5,f6,f7,trivial⟩  1000 ?_
    simp -implicitDefEqProofs (disch:=omega) only [go_sem,↓reduceIte,rA,rq,rL,rtH,hs,Int.lt_irrefl]
    exact ⟨rfl,t',rfl,rfl,rfl,rfl,rfl⟩
   ·obtain ⟨rfl,t',f1,f2,f5,f6,rfl⟩:=hE
    refine QjL [(1,.lst 1 (p.map row) false),(2,.ptr 0 t0 0),(5,.ptr 1 (t0+1) 0),(6,.int .i64 ((i:Nat):Int))] ⟨f1,f2,f5,f6,trivial⟩  1000 ?_
    simp -implicitDefEqProofs (disch:=omega) only [go_sem,↓reduceIte,rq,rtH]
    refine ⟨_,_,Shift.refl _ _ _ _,t',?_⟩
    simp -implicitDefEqProofs (disch:=omega) only [go_sem,↓reduceIte,rq,rtH,e2]
set_option maxHeartbeats 1000000 in
theorem QqM (hT:Qj Try.prog tab) (v:Int) (F p:List (List Int)) (hF:F.length≤9223372036854775807) (hFc:∀ c∈F,c.length≤9223372036854775807) (hp:p.length≤9223372036854775807) (hpc:∀ c∈p,c.length≤9223372036854775807)
 (hpb:∀ c∈p,∀ n∈c,-9223372036854775808≤n∧n≤9223372036854775807):Pure Try.prog G XS [fml v F,rows p] fun u=>u=.bool true:=by
 have hW:=QfP (G:=G) hT
 have hf1:=QlK (G:=G) hT F 30 (by omega) hF hFc
 have hf2:=QlK (G:=G) hT p 12 (by omega) hp hpc
 have hR:=Qaw (P:=Try.prog) (G:=G) hT v F hF hFc
 simp only [fml,rows] at hf1 hf2 hR ⊢
 intro t
 refine XU 0 (zL _) (QF hT YZ (by simp [QZ]) (Qx 1000 ?_))
 simp -implicitDefEqProofs (disch:=omega) only [go_sem,↓reduceIte,reduceCtorEq,rA,rq]
 refine Qi hT QA hf1 (by simp [Qd,nameless]) 4 ?_
 cases h1:QmN F 30 with
 | false =>
   simp -implicitDefEqProofs (disch:=omega) only [go_sem,↓reduceIte,reduceCtorEq,rq]
   iterate 9 (try (refine Qc 4 ?_; simp -implicitDefEqProofs (disch:=omega) only [go_sem,↓reduceIte,reduceCtorEq,rq]))
   refine Qi hT Qh hW rfl 4 ?_
   simp -implicitDefEqProofs (disch:=omega) only [go_sem,↓reduceIte,reduceCtorEq,rq]
   iterate 4 (try (refine Qc 4 ?_; simp -implicitDefEqProofs (disch:=omega) only [go_sem,↓reduceIte,reduceCtorEq,rq]))
 | true =>
   simp -implicitDefEqProofs (disch:=omega) only [go_sem,↓reduceIte,reduceCtorEq,rA,rq]
   iterate 9 (try (refine Qc 4 ?_; simp -implicitDefEqProofs (disch:=omega) only [go_sem,↓reduceIte,reduceCtorEq,rA,rq,rL,rTq,Nat.reduceSub,Nat.reduceMul,Int.reduceToNat,Int.reduceLE,Int.reduceLT,Int.reduceEq,Int.reduceNe,Nat.reduceBEq,Nat.reduceBNe,rtH]))
   refine Qi hT QA hf2 (by simp [Qd,nameless]) 4 ?_
   cases h2:QmN p 12 with
   | false =>
     simp -implicitDefEqProofs (disch:=omega) only [go_sem,↓reduceIte,reduceCtorEq,rA,rq]
     iterate 9 (try (refine Qc 4 ?_; simp -implicitDefEqProofs (disch:=omega) only [go_sem,↓reduceIte,reduceCtorEq,rq]))
     refine Qi hT Qh hW rfl 4 ?_
     simp -implicitDefEqProofs (disch:=omega) only [go_sem,↓reduceIte,reduceCtorEq,rq]
     iterate 4 (try (refine Qc 4 ?_; simp -implicitDefEqProofs (disch:=omega) only [go_sem,↓reduceIte,reduceCtorEq,rq]))
   | true =>
     by_cases h3:8<v
     ·simp -implicitDefEqProofs (disch:=omega) only [go_sem,↓reduceIte,reduceCtorEq,rA,rq]
      iterate 9 (try (refine Qc 4 ?_; simp -implicitDefEqProofs (disch:=omega) only [go_sem,↓reduceIte,reduceCtorEq,rA,rq,rL,h3]))
      refine Qi hT Qh hW rfl 4 ?_
      simp -implicitDefEqProofs (disch:=omega) only [go_sem,↓reduceIte,reduceCtorEq,rq]
      iterate 4 (try (refine Qc 4 ?_; simp -implicitDefEqProofs (disch:=omega) only [go_sem,↓reduceIte,reduceCtorEq,rq]))
     ·obtain ⟨hF30,hF20⟩:=Qik (k:=30) h1
      obtain ⟨hp10,hp20⟩:=Qik (k:=12) h2
      simp -implicitDefEqProofs (disch:=omega) only [go_sem,↓reduceIte,reduceCtorEq,rA,rq]
      iterate 9 (try (refine Qc 4 ?_; simp -implicitDefEqProofs (disch:=omega) only [go_sem,↓reduceIte,reduceCtorEq,rA,rq,rL,h3]))
      refine Qi hT Ql hR (by simp [Qd,nameless]) 4 ?_
      cases h4:right v F with
      | false =>
        simp -implicitDefEqProofs (disch:=omega) only [go_sem,↓reduceIte,reduceCtorEq,rA,rq]
        iterate 9 (try (refine Qc 4 ?_; simp -implicitDefEqProofs (disch:=omega) only [go_sem,↓reduceIte]))
        refine Qi hT Qh hW rfl 4 ?_
        simp -implicitDefEqProofs (disch:=omega) only [go_sem,↓reduceIte,reduceCtorEq,rq]
        iterate 4 (try (refine Qc 4 ?_; simp -implicitDefEqProofs (disch:=omega) only [go_sem,↓reduceIte,reduceCtorEq,rq]))
      | true =>
        have hF1000:∀ c∈F,c.length≤1000:=fun c h=>by have:=hF20 c h; omega
        have hp1000:∀ c∈p,c.length≤1000:=fun c h=>by have:=hp20 c h; omega
        obtain ⟨n,rfl⟩:=Int.eq_ofNat_of_zero_le (show 0≤v from (Xe.1 h4).1.1)
        have hn:n≤8:=by omega
        have hPl:=QqJ (P:=Try.prog) (G:=G) hT n F
        have hCk:=Qax (G:=G) hT n F p (by omega) hF1000 hp1000 hpb
        have hMo:=Qxx (P:=Try.prog) (G:=G) hT n F hn (by omega) hF1000
        simp only [fml,rows] at hPl hCk hMo
        have htail:∀ {fr:Fr},Qg fr 1=.lst 1 (p.map row) false→Qg fr 2=.ptr 0 t 0→Qg fr 5=.ptr 1 (t+1) 0→Qg fr 6=.int .i64 0→∀ {t'},∀ {s:List KI} {Q:AE→Fr→H→Prop},(∀ fr σ,sem Try.prog G 89 0 Q s (.ex 0) fr σ)→sem Try.prog G 89 0 Q (.ac (.loop wh)::s) .nrm fr ⟨t',rtH t n F⟩:=by
         intro fr f1 f2 f5 f6 t' s Q k
         refine XZ p (rtiJ t n F p) (fun e _ _=>e=.ex 0) ⟨t',f1,f2,f5,by simpa using f6,rfl⟩ (fun i c hci fr σ hJ=>ri_rnd hT hn (by omega) hF1000 (by omega) hp1000 hpb hci hJ) (fun i hi fr σ hJ=>?_) (fun e fr σ hE=>?_)
         ·obtain ⟨t',f1,f2,f5,f6,rfl⟩:=hJ
          refine Qf [(1,.lst 1 (p.map row) false),(6,.int .i64 ((i:Nat):Int))] ⟨f1,f6,trivial⟩ 1000 ?_
          simp -implicitDefEqProofs (disch:=omega) only [go_sem,↓reduceIte,rq,rtH,hi,Int.lt_irrefl]
         ·obtain rfl:=hE
          exact k _ _
        simp -implicitDefEqProofs (disch:=omega) only [go_sem,↓reduceIte,reduceCtorEq,rA,rq]
        iterate 9 (try (refine Qc 4 ?_; simp -implicitDefEqProofs (disch:=omega) only [go_sem,↓reduceIte,reduceCtorEq,rA,rq]))
        refine Qi hT Ym hPl (by simp [Qd,nameless]) 4 ?_
        simp -implicitDefEqProofs (disch:=omega) only [go_sem,↓reduceIte,reduceCtorEq,rA,rq]
        iterate 9 (try (refine Qc 4 ?_; simp -implicitDefEqProofs (disch:=omega) only [go_sem,↓reduceIte,reduceCtorEq,rA,rq]))
        refine Qi hT Q4 hCk (by simp [Qd,nameless]) 4 ?_
        cases h5:Xc n F p with
        | false =>
          simp -implicitDefEqProofs (disch:=omega) only [go_sem,↓reduceIte,reduceCtorEq,rq]
          iterate 9 (try (refine Qc 4 ?_; simp -implicitDefEqProofs (disch:=omega) only [go_sem,↓reduceIte,reduceCtorEq,rq]))
          refine htail rfl rfl rfl rfl fun fr σ=>?_
          refine Qc 4 ?_
          simp -implicitDefEqProofs (disch:=omega) only [go_sem,↓reduceIte]
          iterate 4 (try (refine Qc 4 ?_; simp -implicitDefEqProofs (disch:=omega) only [go_sem,↓reduceIte,reduceCtorEq,rA,rq,rL,rTq,Nat.reduceSub,Nat.reduceMul,Int.reduceToNat,Int.reduceLE,Int.reduceLT,Int.reduceEq,Int.reduceNe,Nat.reduceBEq,Nat.reduceBNe,rtH]))
          refine Qi hT Qh hW rfl 4 ?_
          simp -implicitDefEqProofs (disch:=omega) only [go_sem,↓reduceIte,rq]
          iterate 4 (try (refine Qc 4 ?_; simp -implicitDefEqProofs (disch:=omega) only [go_sem,↓reduceIte,reduceCtorEq,rA,rq,rL,rTq,Nat.reduceSub,Nat.reduceMul,Int.reduceToNat,Int.reduceLE,Int.reduceLT,Int.reduceEq,Int.reduceNe,Nat.reduceBEq,Nat.reduceBNe,rtH]))
        | true =>
          simp -implicitDefEqProofs (disch:=omega) only [go_sem,↓reduceIte,reduceCtorEq,rA,rq]
          iterate 9 (try (refine Qc 4 ?_; simp -implicitDefEqProofs (disch:=omega) only [go_sem,↓reduceIte,reduceCtorEq,rA,rq,rL,rTq,Nat.reduceSub,Nat.reduceMul,Int.reduceToNat,Int.reduceLE,Int.reduceLT,Int.reduceEq,Int.reduceNe,Nat.reduceBEq,Nat.reduceBNe,rtH]))
          refine callP hT Zk hMo (by simp [Qd,nameless]) 4 fun u hu=>?_
          rcases hu with rfl | ⟨rfl,m,hm⟩
          ·simp -implicitDefEqProofs (disch:=omega) only [go_sem,↓reduceIte,reduceCtorEq,rq]
           iterate 9 (try (refine Qc 4 ?_; simp -implicitDefEqProofs (disch:=omega) only [go_sem,↓reduceIte,reduceCtorEq,rq]))
           refine htail rfl rfl rfl rfl fun fr σ=>?_
           refine Qc 4 ?_
           simp -implicitDefEqProofs (disch:=omega) only [go_sem,↓reduceIte]
           iterate 4 (try (refine Qc 4 ?_; simp -implicitDefEqProofs (disch:=omega) only [go_sem,↓reduceIte,reduceCtorEq,rA,rq,rL,rTq,Nat.reduceSub,Nat.reduceMul,Int.reduceToNat,Int.reduceLE,Int.reduceLT,Int.reduceEq,Int.reduceNe,Nat.reduceBEq,Nat.reduceBNe,rtH]))
           refine Qi hT Qh hW rfl 4 ?_
           simp -implicitDefEqProofs (disch:=omega) only [go_sem,↓reduceIte,rq]
           iterate 4 (try (refine Qc 4 ?_; simp -implicitDefEqProofs (disch:=omega) only [go_sem,↓reduceIte,reduceCtorEq,rA,rq,rL,rTq,Nat.reduceSub,Nat.reduceMul,Int.reduceToNat,Int.reduceLE,Int.reduceLT,Int.reduceEq,Int.reduceNe,Nat.reduceBEq,Nat.reduceBNe,rtH]))
          ·have:=QlI h5 m
           simp [ZR,this] at hm
end
end Go.Proofs.Ytingdebioipemaa
namespace Go.Sat
open Go Go.Cl
structure S where
 cl:List (List Int)
 wt:Int→List Nat
 va:List Int
 lv:List Nat
 re:List Int
 he:List Nat
 tr:List Int
 dn:Nat
 ms:List Nat
 pf:List (List Int)
 lf:Nat
def S.is (s:S) (l:Int):Int:=if l<0 then - s.va.getD l.natAbs 0 else s.va.getD l.natAbs 0
def S.lev (s:S) (l:Int):Nat:=s.lv.getD l.natAbs 0
def S.sub (s:S) (l:Int) (x:List Nat):S:={ s with wt:=fun y=>if y=l then x else s.wt y }
def S.burn (s:S):Option S:=if s.lf=0 then none else some { s with lf:=s.lf - 1 }
def S.set (s:S) (l r:Int):Option S :=
 if s.lf=0 then none else
 some { s with lf:=s.lf - 1,va:=s.va.set l.natAbs (if l<0 then -1 else 1),lv:=s.lv.set l.natAbs s.ms.length,re:=s.re.set l.natAbs r,tr:=s.tr++[l] }
def S.push (s:S) (l:Int) (n:Nat):S:=s.sub l (s.wt l++[n])
def S.add (s:S) (c:List Int):S :=
 ({ s with cl:=s.cl++[c] }.push (c.getD 0 0) s.cl.length).push (c.getD 1 0) s.cl.length
def swap (c:List Int) (i j:Nat):List Int:=(c.set i (c.getD j 0)).set j (c.getD i 0)
def S.find (s:S) (c:List Int) (k:Nat):Option Nat:=((c.drop k).findIdx? fun x=>s.is x != -1).map (k+·)
inductive Vis where
 | moved (s:S)
 | kept (s:S)
 | bad (s:S)
 | out
def turn (c:List Int) (l:Int):List Int:=if c.getD 0 0=l then swap c 0 1 else c
def S.put (s:S) (n:Nat) (c:List Int):S:={ s with cl:=s.cl.set n c }
def S.visD (s:S) (n:Nat) (c:List Int):Vis :=
 if s.is (c.getD 0 0)=1 then .kept (s.put n c) else
 match s.find c 2 with
 | some k=>.moved (((s.put n c).put n (swap c 1 k)).push (c.getD k 0) n)
 | none=>if s.is (c.getD 0 0)=-1 then .bad (s.put n c) else
   match (s.put n c).set (c.getD 0 0) n with
   | none=>.out
   | some s=>.kept s
def S.visit (s:S) (n:Nat) (l:Int):Vis:=s.visD n (turn (s.cl.getD n []) l)
def S.pass (l:Int):List Nat→List Nat→S→Option (S × Option Nat)
 | kept,[],s=>some (s.sub l kept,none)
 | kept,n::r,s=>match s.visit n l with
   | .moved s=>S.pass l kept r s
   | .kept s=>S.pass l (kept++[n]) r s
   | .bad s=>some (s.sub l (kept++n::r),some n)
   | .out=>none
def S.spreadN:Nat→S→Option (S × Option Nat)
 | 0,s=>some (s,none)
 | k+1,s=>match s.tr[s.dn]? with
   | none=>some (s,none)
   | some l=>match S.pass (-l) [] (s.wt (-l)) { s with dn:=s.dn+1 } with
     | none=>none
     | some (s,some n)=>some (s,some n)
     | some (s,none)=>S.spreadN k s
def S.room (s:S):Nat:=s.lf+(s.tr.length - s.dn)
def S.spread (s:S):Option (S × Option Nat):=S.spreadN (s.room+1) s
def zeros (va:List Int) (l:List Int):List Int:=l.foldl (fun va x=>va.set x.natAbs 0) va
def S.back (s:S) (level:Nat):S :=
 match s.ms[level]? with
 | none=>s
 | some m=>{ s with va:=zeros s.va (s.tr.drop m),tr:=s.tr.take m,ms:=s.ms.take level,dn:=m }
structure L where
 seen:List Nat
 out:List Int
 op:Nat
 level:Nat
 he:List Nat
def L.mark1 (lv:List Nat) (D:Nat) (st:L) (x:Int):L :=
 if x.natAbs∈st.seen∨lv.getD x.natAbs 0=0 then st else
 if lv.getD x.natAbs 0=D then { st with seen:=st.seen++[x.natAbs],he:=st.he.set x.natAbs (st.he.getD x.natAbs 0+1),op:=st.op+1 }
 else { st with seen:=st.seen++[x.natAbs],he:=st.he.set x.natAbs (st.he.getD x.natAbs 0+1),out:=st.out++[x],level:=max st.level (lv.getD x.natAbs 0) }
def L.mark (lv:List Nat) (D:Nat) (st:L) (c:List Int):L:=c.foldl (L.mark1 lv D) st
def S.reason (s:S) (l:Int):List Int:=(s.cl.getD (s.re.getD l.natAbs 0).toNat []).filter fun x=>x != l
def S.walk (s:S):List Int→L→Option (Int × L)
 | [],_=>none
 | l::rt,st=>if l.natAbs∈st.seen then (if st.op=1 then some (l,st) else S.walk s rt (L.mark s.lv s.ms.length { st with op:=st.op - 1 } (s.reason l))) else S.walk s rt st
def S.learn (s:S) (n:Nat):Option (List Int × Nat × S) :=
 (s.walk s.tr.reverse (L.mark s.lv s.ms.length ⟨[],[],0,0,s.he⟩ (s.cl.getD n []))).map fun p=>(-p.1::p.2.out,p.2.level,{ s with he:=p.2.he })
def S.pick (s:S):Nat:=((List.range (s.va.length - 1)).map (·+1)).foldl (fun b v=>if s.va.getD v 0=0∧(b=0∨s.he.getD b 0<s.he.getD v 0) then v else b) 0
def S.far (s:S) (c:List Int):Nat:=((List.range (c.length - 1)).map (·+1)).foldl (fun b k=>if s.lev (c.getD b 0)<s.lev (c.getD k 0) then k else b) 1
def S.teach (s:S) (c:List Int) (level:Nat):Option S :=
 let s:={ s with pf:=s.pf++[(Qs c).1] }.back level
 if c.length=1 then s.set (c.getD 0 0) (-1) else
 let c:=swap c 1 (s.far c)
 (s.add c).set (c.getD 0 0) s.cl.length
def S.round (s:S):Option (S × Option Bool) :=
 match s.spread with
 | none=>none
 | some (s,some n) =>
   if s.ms.length=0 then some ({ s with pf:=s.pf++[[]] },some false) else
   match s.burn with
   | none=>none
   | some s=>match s.learn n with
     | none=>none
     | some (c,level,s)=>(s.teach c level).map fun s=>(s,none)
 | some (s,none) =>
   if s.pick=0 then some (s,some true) else
   ({ s with ms:=s.ms++[s.tr.length] }.set (-(s.pick:Int)) (-1)).map fun s=>(s,none)
def S.runN:Nat→S→Option (S × Bool)
 | 0,_=>none
 | k+1,s=>match s.round with
   | none=>none
   | some (s,some b)=>some (s,b)
   | some (s,none)=>S.runN k s
def S.run (s:S):Option (S × Bool):=S.runN (s.lf+1) s
def S.begin:List (List Int)→S→Option (S × Option Bool)
 | [],s=>some (s,none)
 | c::F,s =>
   if (Qs c).2=false then S.begin F s else
   match (Qs c).1 with
   | []=>some ({ s with pf:=s.pf++[[]] },some false)
   | [l]=>if s.is l=-1 then some ({ s with pf:=s.pf++[[]] },some false) else
     if s.is l=0 then (match s.set l (-1) with | none=>none | some s=>S.begin F s) else S.begin F s
   | c=>S.begin F (s.add c)
def S.new (vars fuel:Nat):S:=⟨[],fun _=>[],List.replicate (vars+1) 0,List.replicate (vars+1) 0,List.replicate (vars+1) 0,List.replicate (vars+1) 0,[],0,[],[],fuel⟩
def Qng (vars:Nat) (F:List (List Int)) (fuel:Nat):Option (S × Bool) :=
 match S.begin F (S.new vars fuel) with
 | none=>none
 | some (s,some b)=>some (s,b)
 | some (s,none)=>s.run
def Okc (N:Nat) (c:List Int):Prop:=(∀ l∈c,l≠0∧l.natAbs<N)∧(c.map Int.natAbs).Nodup
variable {c:List Int}
theorem QjU (h:(c.map Int.natAbs).Nodup) {a b:Int} (ha:a∈c) (hb:b∈c) (e:a.natAbs=b.natAbs):a=b:=by
 induction c with
 | nil=>cases ha
 | cons x c ih =>
   rw [List.map_cons,List.nodup_cons] at h
   rcases List.mem_cons.1 ha with rfl | ha' <;> rcases List.mem_cons.1 hb with rfl | hb'
   ·rfl
   ·exact absurd (List.mem_map.2 ⟨b,hb',e.symm⟩) h.1
   ·exact absurd (List.mem_map.2 ⟨a,ha',e⟩) h.1
   ·exact ih h.2 ha' hb'
variable {l r:Int} {N:Nat}
theorem Okc.neg (h:Okc N c) (hl:l∈c):-l ∉ c:=fun h'=>by
 have:=QjU h.2 hl h' (by simp)
 have:=(h.1 l hl).1
 omega
theorem Okc.nodup (h:Okc N c):c.Nodup:=List.Pairwise.of_map Int.natAbs (fun a b hab e=>hab (congrArg Int.natAbs e)) h.2
def Wat (cl:List (List Int)) (m:Nat) (l:Int):Prop:=∃ c,cl[m]?=some c∧(c[0]?=some l∨c[1]?=some l)
def Rea (s:S) (i:Nat) (l:Int):Prop:=∃ (r:Nat) (c:List Int),s.re.getD l.natAbs 0=r∧s.cl[r]?=some c∧l∈c∧∀ x∈c,x≠l→∃ j:Nat,j<i∧s.tr[j]?=some (-x)
structure Inv (N:Nat) (s:S):Prop where
 nva:s.va.length=N
 nlv:s.lv.length=N
 nre:s.re.length=N
 nhe:s.he.length=N
 cls:∀ c∈s.cl,2≤c.length∧Okc N c
 wat:∀ l,(s.wt l).Nodup∧∀ m,m∈s.wt l↔Wat s.cl m l
 tro:Okc N s.tr
 val:∀ v:Nat,s.va.getD v 0=if (v:Int)∈s.tr then 1 else if -(v:Int)∈s.tr then -1 else 0
 lev:∀ l∈s.tr,s.lev l≤s.ms.length
 mks:∀ (k m:Nat),s.ms[k]?=some m→m≤s.tr.length∧∀ (i:Nat) (l:Int),s.tr[i]?=some l→(m≤i↔k<s.lev l)
 rea:∀ (i:Nat) (l:Int),s.tr[i]?=some l→0<s.lev l→s.ms[s.lev l - 1]?≠some i→Rea s i l
 dnl:s.dn≤s.tr.length
 dnm:∀ m∈s.ms,m≤s.dn
variable {s s':S}
theorem Inv.is_val (h:Inv N s) (l:Int):s.is l=if l∈s.tr then 1 else if -l∈s.tr then -1 else 0:=by
 unfold S.is
 have hv:=h.val l.natAbs
 by_cases hl:l<0
 ·have e:(l.natAbs:Int)=-l:=by omega
  rw [e,Int.neg_neg] at hv
  rw [if_pos hl,hv]
  by_cases h1:l∈s.tr
  ·rw [if_pos h1,if_pos h1,if_neg (h.tro.neg h1)]; rfl
  ·rw [if_neg h1,if_neg h1]
   split <;> rfl
 ·have e:(l.natAbs:Int)=l:=by omega
  rw [e] at hv
  rw [if_neg hl,hv]
theorem Inv.is_one (h:Inv N s):s.is l=1↔l∈s.tr:=by
 rw [h.is_val]; repeat' split
 all_goals simp_all
theorem Inv.is_neg (h:Inv N s):s.is l=-1↔-l∈s.tr:=by
 rw [h.is_val]
 by_cases h1:l∈s.tr
 ·rw [if_pos h1]; simp [h.tro.neg h1]
 ·rw [if_neg h1]; split <;> simp_all
theorem Inv.is_zero (h:Inv N s):s.is l=0↔l ∉ s.tr∧-l ∉ s.tr:=by
 rw [h.is_val]; repeat' split
 all_goals simp_all
structure Ext (s s':S):Prop where
 ms:s'.ms=s.ms
 dn:s'.dn=s.dn
 pf:s'.pf=s.pf
 len:s'.cl.length=s.cl.length
 tr:∃ t,s'.tr=s.tr++t
 lf:s'.lf+s'.tr.length=s.lf+s.tr.length
 le:s'.lf≤s.lf
 he:s'.he=s.he
theorem Ext.refl (s:S):Ext s s:=⟨rfl,rfl,rfl,rfl,⟨[],by simp⟩,rfl,lR _,rfl⟩
theorem Ext.trans {a b c:S} (h:Ext a b) (k:Ext b c):Ext a c :=
 ⟨k.ms.trans h.ms,k.dn.trans h.dn,k.pf.trans h.pf,k.len.trans h.len,by obtain ⟨t,e⟩:=h.tr; obtain ⟨u,f⟩:=k.tr; exact ⟨t++u,by rw [f,e,aA]⟩,k.lf.trans h.lf,Nat.le_trans k.le h.le,k.he.trans h.he⟩
theorem Ext.mem (h:Ext s s') (hl:l∈s.tr):l∈s'.tr:=by
 obtain ⟨t,e⟩:=h.tr
 rw [e]; exact List.mem_append_left _ hl
theorem S.set_some (e:s.set l r=some s'):s.lf≠0∧s'={ s with lf:=s.lf - 1,va:=s.va.set l.natAbs (if l<0 then -1 else 1),lv:=s.lv.set l.natAbs s.ms.length,re:=s.re.set l.natAbs r,tr:=s.tr++[l] }:=by
 unfold S.set at e
 split at e
 ·cases e
 ·rename_i h
  exact ⟨h,(Option.some.inj e).symm⟩
theorem Qld (e:s.set l r=some s'):Ext s s':=by
 obtain ⟨h,rfl⟩:=S.set_some e
 exact ⟨rfl,rfl,rfl,rfl,⟨[l],rfl⟩,by simp; omega,Nat.sub_le _ _,rfl⟩
theorem Qb6 {α:Type} (l:List α) (i j:Nat) (a d:α):(l.set i a).getD j d=if i=j∧i<l.length then a else l.getD j d:=by
 simp only [List.getD_eq_getElem?_getD,List.getElem?_set]
 by_cases h:i=j
 ·subst h
  by_cases h2:i<l.length
  ·simp [h2]
  ·simp [h2]
 ·simp [h]
theorem Inv.set {N:Nat} {s s':S} (h:Inv N s) {l r:Int} (e:s.set l r=some s') (h0:l≠0) (hN:l.natAbs<N) (h1:l ∉ s.tr) (h2:-l ∉ s.tr)
 (hr:s.ms.length=0∨s.ms[s.ms.length - 1]?=some s.tr.length∨∃ (n:Nat) (c:List Int),r=n∧s.cl[n]?=some c∧l∈c∧∀ x∈c,x≠l→-x∈s.tr):Inv N s':=by
 obtain ⟨hf,rfl⟩:=S.set_some e
 have hne:∀ x∈s.tr,l.natAbs≠x.natAbs:=fun x hx e=>by
  have:x=l∨x=-l:=by omega
  rcases this with rfl | rfl
  ·exact h1 hx
  ·exact h2 hx
 have hlev:∀ x∈s.tr,(s.lv.set l.natAbs s.ms.length).getD x.natAbs 0=s.lev x:=fun x hx=>by
  rw [Qb6,if_neg (fun q=>hne x hx q.1)]; rfl
 have hlevl:(s.lv.set l.natAbs s.ms.length).getD l.natAbs 0=s.ms.length:=by
  rw [Qb6,if_pos ⟨rfl,by rw [h.nlv]; exact hN⟩]
 have hat:∀ (i:Nat) (x:Int),(s.tr++[l])[i]?=some x→(s.tr[i]?=some x∧i<s.tr.length)∨(i=s.tr.length∧x=l):=fun i x hx=>by
  rw [List.getElem?_append] at hx
  split at hx
  ·rename_i hi; exact .inl ⟨hx,hi⟩
  ·rename_i hi
   have:i - s.tr.length=0:=by
    rcases Nat.eq_zero_or_pos (i - s.tr.length) with h | h
    ·exact h
    ·rw [List.getElem?_eq_none (by simp; omega)] at hx; cases hx
   rw [this] at hx
   simp at hx
   exact .inr ⟨by omega,hx.symm⟩
 constructor
 ·simp [h.nva]
 ·simp [h.nlv]
 ·simp [h.nre]
 ·exact h.nhe
 ·exact h.cls
 ·exact h.wat
 ·refine ⟨fun x hx=>?_,?_⟩
  ·rcases List.mem_append.1 hx with hx | hx
   ·exact h.tro.1 x hx
   ·simp at hx; subst hx; exact ⟨h0,hN⟩
  ·simp only [List.map_append,List.map_cons,List.map_nil]
   rw [List.nodup_append]
   refine ⟨h.tro.2,by simp,fun a ha b hb=>?_⟩
   obtain ⟨x,hx,rfl⟩:=List.mem_map.1 ha
   simp at hb; subst hb
   exact fun e=>hne x hx e.symm
 ·intro v
  have hv:=h.val v
  simp only [Qb6,h.nva,List.mem_append,List.mem_singleton]
  by_cases hvl:l.natAbs=v
  ·rw [if_pos ⟨hvl,hN⟩]
   by_cases hneg:l<0
   ·have a1:((v:Int)∈s.tr∨(v:Int)=l)↔False:=by
     have:(v:Int)=-l:=by omega
     rw [this]; simp only [iff_false,not_or]; exact ⟨h2,by omega⟩
    have a2:(-(v:Int)∈s.tr∨-(v:Int)=l)↔True:=by
     simp only [iff_true]; right; omega
    simp [a1,a2,hneg]
   ·have a1:((v:Int)∈s.tr∨(v:Int)=l)↔True:=by simp only [iff_true]; right; omega
    simp [a1,hneg]
  ·rw [if_neg (fun q=>hvl q.1),hv]
   have a1:(v:Int)≠l:=by omega
   have a2:-(v:Int)≠l:=by omega
   simp [a1,a2]
 ·intro x hx
  rcases List.mem_append.1 hx with hx | hx
  ·show (s.lv.set l.natAbs s.ms.length).getD x.natAbs 0≤_
   rw [hlev x hx]; exact h.lev x hx
  ·simp at hx; subst hx
   show (s.lv.set x.natAbs s.ms.length).getD x.natAbs 0≤_
   rw [hlevl]; exact lR _
 ·intro k m hk
  obtain ⟨g1,g2⟩:=h.mks k m hk
  refine ⟨by simp; omega,fun i x hx=>?_⟩
  show m≤i↔k<(s.lv.set l.natAbs s.ms.length).getD x.natAbs 0
  rcases hat i x hx with ⟨hx,_⟩ | ⟨rfl,rfl⟩
  ·rw [hlev x (List.mem_of_getElem? hx)]; exact g2 i x hx
  ·rw [hlevl]
   exact ⟨fun _=>(List.getElem?_eq_some_iff.1 hk).1,fun _=>g1⟩
 ·intro i x hx hl hk
  replace hl:0<(s.lv.set l.natAbs s.ms.length).getD x.natAbs 0:=hl
  replace hk:s.ms[(s.lv.set l.natAbs s.ms.length).getD x.natAbs 0 - 1]?≠some i:=hk
  have hput:∀ {j:Nat} {y:Int},s.tr[j]?=some y→(s.tr++[l])[j]?=some y:=fun {j y} hj=>by
   rw [List.getElem?_append_left (List.getElem?_eq_some_iff.1 hj).1]; exact hj
  rcases hat i x hx with ⟨hx,_⟩ | ⟨rfl,rfl⟩
  ·rw [hlev x (List.mem_of_getElem? hx)] at hl hk
   obtain ⟨r',c,g1,g2,g3,g4⟩:=h.rea i x hx hl hk
   refine ⟨r',c,?_,g2,g3,fun y hy hyx=>?_⟩
   ·show (s.re.set l.natAbs r).getD x.natAbs 0=_
    rw [Qb6,if_neg (fun q=>hne x (List.mem_of_getElem? hx) q.1)]; exact g1
   ·obtain ⟨j,hj,hj'⟩:=g4 y hy hyx
    exact ⟨j,hj,hput hj'⟩
  ·rw [hlevl] at hl hk
   rcases hr with hr | hr | ⟨n,c,rfl,g2,g3,g4⟩
   ·omega
   ·exact absurd hr hk
   ·refine ⟨n,c,?_,g2,g3,fun y hy hyx=>?_⟩
    ·show (s.re.set x.natAbs _).getD x.natAbs 0=_
     rw [Qb6,if_pos ⟨rfl,by rw [h.nre]; exact hN⟩]
    ·obtain ⟨j,hj⟩:=List.getElem?_of_mem (g4 y hy hyx)
     exact ⟨j,(List.getElem?_eq_some_iff.1 hj).1,hput hj⟩
 ·have:=h.dnl; simp; omega
 ·exact h.dnm
end Go.Sat
