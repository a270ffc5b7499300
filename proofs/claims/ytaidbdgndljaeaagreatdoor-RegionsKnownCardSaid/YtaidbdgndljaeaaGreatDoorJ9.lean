/- The chapter's examples. -/
import Derived.Test.YtaidbdgndljaeaaGreatDoorJ8
open Nat renaming reduceEqDiff → rq, reduceAdd → rA, reduceLeDiff → rL, reduceLT → rT, zero_add → zA, le_refl → lR, zero_le → zL, add_zero → aZ
open List renaming length_cons → lC, length_nil → lN, take_succ_cons → tS, length_append → lA, nil_append → nA, cons_append → cA, append_assoc → aA, take_nil → tN, take_zero → tZ, length_map → lM
open Bool renaming not_false → nF, not_true → nT
namespace Go.Proofs.YtaidbdgndljaeaaGreatDoor
open Go Go.Am Go.Rv Go.Rg
set_option maxRecDepth 100000
section
attribute [local go_sem] nF nT cA lM List.map_cons List.map_nil nA aZ lR Nat.mul_one Nat.one_mul Nat.succ_ne_zero zA zL Nat.zero_mul Option.getD_none Option.getD_some Option.isSome_none Option.isSome_some V.cells QH and_true beq_self_eq_true bne_self_eq_false Qz decide_false decide_true Qbe fC false_implies flt fnC ge_iff_le gt_iff_lt inC Q9 Qq jr Qw not_false_eq_true not_true_eq_false onV Yy zq4_0 zq4_1 zq4_2 zq4_3 zq4_4 zq4_5 zq4_6 zq4_7 zq4_8 true_and true_implies
def l1:List In:=[jr]
def l2:List In:=[QH 2 2 (-16),QH 2 2 16,jr]
def l3:List In:=[QH 2 2 (-16),jr]
def l4:List In:=[QH 5 2 0]
def l5:List In:=[QH 5 5 1,⟨3,0,0,0,-4⟩]
def l6:List In:=[QH 17 0 3,Qbe,jr]
def l7:List In:=[QH 5 5 1,QH 6 6 1,⟨5,0,5,6,-4⟩,jr]
def okB (l:List In):Bool:=l.all fun x=>decide (0≤x.op∧x.op≤255)&&(decide (0≤x.rd∧x.rd≤255)&&(decide (0≤x.rs1∧x.rs1≤255)&&(decide (0≤x.rs2∧x.rs2≤255)&&decide (-9223372036854775808≤x.imm∧x.imm≤9223372036854775807))))
theorem Qc3 {l:List In} (h:okB l=true):∀ x∈l,Zq x:=fun x hx=>by
 have:=List.all_eq_true.1 h x hx
 simp only [Bool.and_eq_true,decide_eq_true_eq] at this
 exact ⟨this.1,this.2.1,this.2.2.1,this.2.2.2.1,by unfold i64; omega⟩
theorem r1:ofS (ZR [l1] 0)=.inl [⟨nameAt 0,0,l1,0,[]⟩]:=by kernel_rfl
theorem r2:ofS (ZR [l2] 0)=.inl [⟨nameAt 0,0,l2,16,[]⟩]:=by kernel_rfl
theorem r3:ofS (ZR [l3] 0)=.inr (0,1,223):=by kernel_rfl
theorem r4:ofS (ZR [l4] 0)=.inr (0,0,221):=by kernel_rfl
theorem r5:ofS (ZR [l5] 0)=.inr (0,1,222):=by kernel_rfl
theorem r6:ofS (ZR [l6] 0)=.inl [⟨nameAt 0,0,l6,0,[]⟩]:=by kernel_rfl
theorem r7:ofS (ZR [l7] 0)=.inl [⟨nameAt 0,0,l7,0,[1]⟩]:=by kernel_rfl
theorem ofX (hT:Qk Tryz.prog tab) (l:List In) (hl:l.length≤1000) (hok:okB l=true) {r:List Rg.Fn ⊕ (Nat × Nat × Int)} (hr:ofS (ZR [l] 0)=r):Am.Pure Tryz.prog G0 Zo [.lst 5 (l.map fun x=>V.agg (inC x)) true] fun v=>v=onV r:=by
 have:=Pure.args (.cons _ _ _ _ (.lst 5 5 _ _ true (WkL.refl _) (.inr rfl)) .nil) (c_ofL hT l hl (Qc3 hok))
 rw [hr] at this
 exact this
theorem QlH (hT:Qk Tryz.prog tab):Am.Pure Tryz.prog G0 Qbt [] fun v=>v=.bool true:=by
 have o1:=ofX hT l1 (by decide) rfl r1
 have o2:=ofX hT l2 (by decide) rfl r2
 have o3:=ofX hT l3 (by decide) rfl r3
 have o4:=ofX hT l4 (by decide) rfl r4
 have o5:=ofX hT l5 (by decide) rfl r5
 have o6:=ofX hT l6 (by decide) rfl r6
 have o7:=ofX hT l7 (by decide) rfl r7
 have hJ:=c_jr (P:=Tryz.prog) (G:=G0) hT
 have hA:=Qhq (P:=Tryz.prog) (G:=G0) hT
 have z0:((0:Nat):Int)=0:=rfl
 have z1:((1:Nat):Int)=1:=rfl
 simp only [l1,l2,l3,l4,l5,l6,l7,inC,Q9,fC,fnC,Qz,flt,onV,List.map_cons,List.map_nil,QH,jr,Qbe,z0,z1] at o1 o2 o3 o4 o5 o6 o7 hJ hA
 have ok6:∀ x∈l6,Zq x:=Qc3 rfl
 have q1:=QeT (P:=Tryz.prog) (G:=G0) hT (nameAt 0) 0 0 l1 [] 0 (by decide) (by decide)
 have q2:=QeT (P:=Tryz.prog) (G:=G0) hT (nameAt 0) 0 16 l2 [] 2 (by decide) (by decide)
 have q3:=Pure.args (.cons _ _ _ _ (.refl _) (.cons _ _ _ _ (.lst 1 1 _ _ true (WkL.refl _) (.inr rfl)) .nil)) (Qjd (P:=Tryz.prog) (G:=G0) hT [1] [1] (by decide) (by decide))
 have q4:=Qwo (P:=Tryz.prog) (G:=G0) hT (nameAt 0) 0 0 l6 [] 1 (by decide) ok6 (by decide)
 have q5:=Qry (G:=G0) hT (nameAt 0) 0 0 l6 [] 1 (by decide) ok6 (by decide)
 rw [show ret l1 0 0=true from rfl] at q1
 rw [show ret l2 16 2=true from rfl] at q2
 rw [show decide (([1]:List Int)=[1])=true from rfl] at q3
 rw [show ends l6 1=true from rfl] at q4
 rw [show next l6 0 1=[] from rfl] at q5
 have i1:ints [1]=[.int .i64 1]:=rfl
 simp only [l1,l2,l6,inC,Q9,fnC,Qz,List.map_cons,List.map_nil,QH,jr,Qbe,i1] at q1 q2 q3 q4 q5
 intro t
 refine Qp 0 (zL _) (Qt hT Qm (by simp [Yy]) (Qn 20 ?_))
 simp -implicitDefEqProofs (disch:=omega) only [go_sem,↓reduceIte]
 refine Qf hT QC hJ (by simp [Qb]) 16 ?_
 simp -implicitDefEqProofs (disch:=omega) only [go_sem,↓reduceIte,reduceCtorEq,rA,rq]
 refine Qf hT Xf o1 (by simp [Qb,Qd]) 16 ?_
 simp -implicitDefEqProofs (disch:=omega) only [go_sem,↓reduceIte,reduceCtorEq,rA,rq,rT]
 refine Qf hT Qi (hA 2 2 (-16)) (by simp [Qb,Qd]) 16 ?_
 simp -implicitDefEqProofs (disch:=omega) only [go_sem,↓reduceIte,reduceCtorEq,rq]
 refine Qf hT Qi (hA 2 2 16) (by simp [Qb,Qd]) 16 ?_
 simp -implicitDefEqProofs (disch:=omega) only [go_sem,↓reduceIte,reduceCtorEq,rq]
 refine Qf hT QC hJ (by simp [Qb]) 16 ?_
 simp -implicitDefEqProofs (disch:=omega) only [go_sem,↓reduceIte,reduceCtorEq,rA,rq,rL]
 refine Qf hT Xf o2 (by simp [Qb,Qd]) 16 ?_
 simp -implicitDefEqProofs (disch:=omega) only [go_sem,↓reduceIte,reduceCtorEq,rA,rq,rT]
 refine Qf hT Qi (hA 2 2 (-16)) (by simp [Qb,Qd]) 16 ?_
 simp -implicitDefEqProofs (disch:=omega) only [go_sem,↓reduceIte,reduceCtorEq,rq]
 refine Qf hT QC hJ (by simp [Qb]) 16 ?_
 simp -implicitDefEqProofs (disch:=omega) only [go_sem,↓reduceIte,reduceCtorEq,rA,rq,rL]
 refine Qf hT Xf o3 (by simp [Qb,Qd]) 16 ?_
 simp -implicitDefEqProofs (disch:=omega) only [go_sem,↓reduceIte,reduceCtorEq,rA,rq,rT]
 refine Qf hT Qi (hA 5 2 0) (by simp [Qb,Qd]) 16 ?_
 simp -implicitDefEqProofs (disch:=omega) only [go_sem,↓reduceIte,reduceCtorEq,rA,rq]
 refine Qf hT Xf o4 (by simp [Qb,Qd]) 16 ?_
 simp -implicitDefEqProofs (disch:=omega) only [go_sem,↓reduceIte,reduceCtorEq,rA,rq,rT]
 refine Qf hT Qi (hA 5 5 1) (by simp [Qb,Qd]) 16 ?_
 simp -implicitDefEqProofs (disch:=omega) only [go_sem,↓reduceIte,reduceCtorEq,rA,rq,rL]
 refine Qf hT Xf o5 (by simp [Qb,Qd]) 16 ?_
 simp -implicitDefEqProofs (disch:=omega) only [go_sem,↓reduceIte,reduceCtorEq,rA,rq,rT]
 refine Qf hT Qi (hA 17 0 3) (by simp [Qb,Qd]) 16 ?_
 simp -implicitDefEqProofs (disch:=omega) only [go_sem,↓reduceIte,reduceCtorEq,rA,rq,rL]
 refine Qf hT QC hJ (by simp [Qb]) 16 ?_
 simp -implicitDefEqProofs (disch:=omega) only [go_sem,↓reduceIte,reduceCtorEq,rA,rq,rL]
 refine Qf hT Xf o6 (by simp [Qb,Qd]) 16 ?_
 simp -implicitDefEqProofs (disch:=omega) only [go_sem,↓reduceIte,reduceCtorEq,rA,rq,rT]
 refine Qf hT Qi (hA 5 5 1) (by simp [Qb,Qd]) 16 ?_
 simp -implicitDefEqProofs (disch:=omega) only [go_sem,↓reduceIte,reduceCtorEq,rq]
 refine Qf hT Qi (hA 6 6 1) (by simp [Qb,Qd]) 16 ?_
 simp -implicitDefEqProofs (disch:=omega) only [go_sem,↓reduceIte,reduceCtorEq,rA,rq,rL]
 refine Qf hT QC hJ (by simp [Qb]) 16 ?_
 simp -implicitDefEqProofs (disch:=omega) only [go_sem,↓reduceIte,reduceCtorEq,rA,rq,rL]
 refine Qf hT Xf o7 (by simp [Qb,Qd]) 16 ?_
 simp -implicitDefEqProofs (disch:=omega) only [go_sem,↓reduceIte,reduceCtorEq,rA,rq,rL,rT]
 iterate 1 (try (refine Qa 8 ?_; simp -implicitDefEqProofs (disch:=omega) only [go_sem,↓reduceIte,reduceCtorEq,rA,rq]))
 refine Qf hT QJ q1 (by simp [Qb,Qd]) 8 ?_
 simp -implicitDefEqProofs (disch:=omega) only [go_sem,↓reduceIte,reduceCtorEq,rA,rq,i1]
 iterate 1 (try (refine Qa 8 ?_; simp -implicitDefEqProofs (disch:=omega) only [go_sem,↓reduceIte,reduceCtorEq,rA,rq,rL]))
 refine Qf hT QJ q2 (by simp [Qb,Qd]) 8 ?_
 simp -implicitDefEqProofs (disch:=omega) only [go_sem,↓reduceIte,reduceCtorEq,rA,rq,rL]
 iterate 5 (try (refine Qa 8 ?_; simp -implicitDefEqProofs (disch:=omega) only [go_sem,↓reduceIte,reduceCtorEq,rA,rq,rL]))
 refine Qf hT YD q3 (by simp [Qb,Qd]) 8 ?_
 simp -implicitDefEqProofs (disch:=omega) only [go_sem,↓reduceIte,reduceCtorEq,rA,rq]
 iterate 3 (try (refine Qa 8 ?_; simp -implicitDefEqProofs (disch:=omega) only [go_sem,↓reduceIte,reduceCtorEq,rA,rq]))
 refine Qf hT Zk q4 (by simp [Qb,Qd]) 8 ?_
 simp -implicitDefEqProofs (disch:=omega) only [go_sem,↓reduceIte,reduceCtorEq,rA,rq]
 iterate 1 (try (refine Qa 8 ?_; simp -implicitDefEqProofs (disch:=omega) only [go_sem,↓reduceIte,reduceCtorEq,rA,rq,rL,rT,Nat.reduceSub,Nat.reduceMul,Int.reduceToNat,Int.reduceLE,Int.reduceLT,Int.reduceEq,Int.reduceNe,Nat.reduceBEq,Nat.reduceBNe,Int.reduceBEq,Int.reduceBNe,i1]))
 refine Qf hT YI q5 (by simp [Qb,Qd]) 8 ?_
 simp -implicitDefEqProofs (disch:=omega) only [go_sem,↓reduceIte,reduceCtorEq,rA,rq]
 iterate 2 (try (refine Qa 8 ?_; simp -implicitDefEqProofs (disch:=omega) only [go_sem,↓reduceIte,reduceCtorEq,rA,rq,rL,rT,Nat.reduceSub,Nat.reduceMul,Int.reduceToNat,Int.reduceLE,Int.reduceLT,Int.reduceEq,Int.reduceNe,Nat.reduceBEq,Nat.reduceBNe,Int.reduceBEq,Int.reduceBNe,i1]))
 rfl
end
section
attribute [local go_sem] nF nT lM nA lR zA zL V.cells and_true Qz decide_false decide_true fC false_implies fnC gt_iff_lt inC Q9 Qw YY zq8_0 zq8_1 QFn QFm QFl QFk QFj QFi QFh zq8_9 true_and true_implies
structure FnOk (m:Im) (f:Rg.Fn):Prop where
 good:Rg.Good (ats m) f.pl f.code f.frame
 ok:∀ x∈f.code,Zq x
 len:f.code.length≤1000
 cu:f.cuts=Rg.cuts f.code f.frame
 fr:0≤f.frame∧f.frame≤1984
variable {f:Rg.Fn} {m:Im}
theorem QvD (hT:Qk Tryz.prog tab) (hf:FnOk m f) {i:Nat} {x:In} (hx:f.code[i]?=some x) {t:Nat} {fr:Fr} {σ:H} (hJ:Qg fr 1=.ref (.agg (fC f)) 0∧Qg fr 3=.int .i64 ((i:Nat):Int)∧σ=⟨t,[none]⟩) :
 W Tryz.prog G0 91 0 (.seq (zg QFn [6,7,8,9] (zw 10 .skip (.exit 0))) (.seq (.block 1 (zg QFm [14,15,16,17,18,19,13,20,21] (.seq (zg QFl [22,23,24,25,26,27,28,29,30,31,32,33,34,35,36,37,38,39,40,41,42,43,44,45,46,47,48,49,50,51,52,53,54,55,56,57,58,59,60,61,62,63,64,65] (zw 66 (zg QFk [] .ret) .skip)) (zg QFj [67,68,69,70,71,72,73,74,75,76,77,78,79,80,81,82,83,84,85,86,87,88,89] (zw 90 (zg QFi [] .ret) .skip))))) (.reg QFh [11,12]))) fr σ (QbQ (fun fr' σ'=>∃ fr'' σ'',Shift G0 91 0 fr' σ' fr'' σ''∧Qg fr'' 1=.ref (.agg (fC f)) 0∧Qg fr'' 3=.int .i64 ((i+1:Nat):Int)∧σ''=⟨t,[none]⟩) (fun e _ σ'=>e=.ex 0)):=by
 obtain ⟨f1,f3,rfl⟩:=hJ
 have hlt:=(List.getElem?_eq_some_iff.1 hx).1
 have hl:=hf.len
 have hfr:=hf.fr
 have hD:=Xo hx
 have e2:=ZT hlt (by omega)
 have hW:=Qrx hT x (hf.ok x (List.mem_of_getElem? hx))
 have hgw:=hf.good.writes hx
 have hR1:=QeT (P:=Tryz.prog) (G:=G0) hT f.name f.pl f.frame f.code f.cuts ((i:Int)+1) (by omega) (by omega)
 have hR:=QeT (P:=Tryz.prog) (G:=G0) hT f.name f.pl f.frame f.code f.cuts (i:Int) (by omega) (by omega)
 have w1:IntKind.i64.wrap ((i:Int)+1)=(i:Int)+1:=XA (by omega)
 have wF:IntKind.i64.wrap (0 - f.frame)=-f.frame:=by rw [XA (by omega)]; omega
 have hn:=fun n=>show Qb [.agg (fC f),.int .i64 n]=true by simp [Qb,Qd,fC,Qfl]
 have hb2:=QrV (c:=f.code) (F:=f.frame) (i:=(i:Int))
 simp only [inC] at hW hD
 simp only [fC,fnC,Q9,Qz,inC] at hR hR1 hn
 refine Qh [(1,.ref (.agg (fC f)) 0),(3,.int .i64 ((i:Nat):Int))] ⟨f1,f3,trivial⟩  20 ?_
 simp -implicitDefEqProofs (disch:=omega) only [go_sem,↓reduceIte,reduceCtorEq,rA,rq,rL,hlt,hD]
 iterate 4 (try (refine Qa 4 ?_; simp -implicitDefEqProofs (disch:=omega) only [go_sem,↓reduceIte,rq]))
 refine Qf hT Qhv hW rfl 7 ?_
 simp -implicitDefEqProofs (disch:=omega) only [go_sem,↓reduceIte,rA,rq,rT]
 refine QiJ (fun fr σ=>Qg fr 1=.ref (.agg (fC f)) 0∧Qg fr 3=.int .i64 ((i:Nat):Int)∧σ=⟨t,[none]⟩) ?_ fun fr σ hJ=>?_
 ·refine Qn 8 ?_
  generalize hwx:wrs x=wx at *
  obtain ⟨wd,wb⟩:=wx
  simp only at hW hgw
  cases wb with
  | false =>
    simp -implicitDefEqProofs (disch:=omega) only [go_sem,↓reduceIte,rq]
    iterate 12 (try (refine Qa 8 ?_; simp -implicitDefEqProofs (disch:=omega) only [go_sem,↓reduceIte,rq]))
  | true =>
    by_cases h2:wd=2
    ·have h2':(wd==2)=true:=by simp [h2]
     by_cases g1:i=0∧x.imm=-f.frame
     ·have g1':((i:Int)==0)=true:=by simp [g1.1]
      have g1'':((i:Int)=0)=True:=eq_true (by omega)
      have g2':(x.imm==-f.frame)=true:=by simp [g1.2]
      have g2'':(x.imm=-f.frame)=True:=eq_true g1.2
      simp -implicitDefEqProofs (disch:=omega) only [go_sem,↓reduceIte,rA,rq,h2']
      iterate 12 (try (refine Qa 8 ?_; simp -implicitDefEqProofs (disch:=omega) only [go_sem,↓reduceIte,rA,rq,rL,g1',g2',hlt,hD,wF]))
     ·obtain ⟨q1,q2,q3⟩:=(hgw (by rw [h2])).resolve_left g1
      rw [q1] at hR1
      have p2:(x.imm==f.frame)=true:=by simp [q2]
      have p3:decide (0<f.frame)=true:=decide_eq_true q3
      have p3':((0:Int)<f.frame)=True:=eq_true q3
      by_cases z:i=0
      ·have g1':((i:Int)==0)=true:=by simp [z]
       have g1'':((i:Int)=0)=True:=eq_true (by omega)
       have g2':(x.imm==-f.frame)=false:=by rw [QlT]; exact decide_eq_false fun h=>g1 ⟨z,h⟩
       simp -implicitDefEqProofs (disch:=omega) only [go_sem,↓reduceIte,rA,rq,h2']
       iterate 6 (try (refine Qa 8 ?_; simp -implicitDefEqProofs (disch:=omega) only [go_sem,↓reduceIte,reduceCtorEq,rA,rq,rL,g1',g2',hlt,hD,wF,w1]))
       refine Qf hT QJ hR1 (hn _) 8 ?_
       simp -implicitDefEqProofs (disch:=omega) only [go_sem,↓reduceIte,rA,rq,rL,hlt,hD]
       iterate 6 (try (refine Qa 8 ?_; simp -implicitDefEqProofs (disch:=omega) only [go_sem,↓reduceIte,rA,rq,rL,p2,p3']))
      ·have g1':((i:Int)==0)=false:=by simp [z]
       have g1'':((i:Int)=0)=False:=eq_false (by omega)
       simp -implicitDefEqProofs (disch:=omega) only [go_sem,↓reduceIte,rA,rq,h2']
       iterate 6 (try (refine Qa 8 ?_; simp -implicitDefEqProofs (disch:=omega) only [go_sem,↓reduceIte,reduceCtorEq,rA,rq,g1',w1]))
       refine Qf hT QJ hR1 (hn _) 8 ?_
       simp -implicitDefEqProofs (disch:=omega) only [go_sem,↓reduceIte,rA,rq,rL,hlt,hD]
       iterate 6 (try (refine Qa 8 ?_; simp -implicitDefEqProofs (disch:=omega) only [go_sem,↓reduceIte,rA,rq,rL,p2,p3']))
    ·have h2':(wd==2)=false:=by simp [h2]
     simp -implicitDefEqProofs (disch:=omega) only [go_sem,↓reduceIte,rA,rq,h2']
     iterate 12 (try (refine Qa 8 ?_; simp -implicitDefEqProofs (disch:=omega) only [go_sem,↓reduceIte,rq]))
 clear f1 f3
 obtain ⟨f1,f3,rfl⟩:=hJ
 refine Qh9 [(1,.ref (.agg (fC f)) 0),(3,.int .i64 ((i:Nat):Int))] ⟨f1,f3,trivial⟩ ?_
 refine Qa 8 ?_
 simp -implicitDefEqProofs (disch:=omega) only [go_sem,↓reduceIte,reduceCtorEq,rA,rq]
 refine Qf hT QJ hR (hn _) 8 ?_
 cases hrt:ret f.code f.frame i with
 | false =>
   simp -implicitDefEqProofs (disch:=omega) only [go_sem,↓reduceIte,rq]
   iterate 9 (try (refine Qa 8 ?_; simp -implicitDefEqProofs (disch:=omega) only [go_sem,↓reduceIte,rq,e2]))
   exact ⟨_,_,Shift.refl _ _ _ _,rfl,rfl,rfl⟩
 | true =>
   by_cases h0:0<f.frame
   ·have h0':decide (0<f.frame)=true:=decide_eq_true h0
    obtain ⟨k,hk,y,hy,hyF⟩:=hb2 hrt (by omega)
    obtain rfl:i=k+1:=by omega
    have hDy:=Xo hy
    simp only [inC] at hDy
    have wk:IntKind.i64.wrap (((k+1:Nat):Int) - 1)=((k:Nat):Int):=by rw [XA (by omega)]; omega
    have z':(((k+1:Nat):Int)==0)=false:=by rw [QlT]; exact decide_eq_false (by omega)
    have z'':((((k+1:Nat):Int))=0)=False:=eq_false (by omega)
    have hlk:k<f.code.length:=by omega
    have y':(y.imm != f.frame)=false:=by simp [hyF]
    simp -implicitDefEqProofs (disch:=omega) only [go_sem,↓reduceIte,rA,rq,rL,h0,z']
    iterate 9 (try (refine Qa 8 ?_; simp -implicitDefEqProofs (disch:=omega) only [go_sem,↓reduceIte,rA,rq,rL,e2,wk,hDy,hlk,y']))
    exact ⟨_,_,Shift.refl _ _ _ _,rfl,rfl,rfl⟩
   ·have h0':decide (0<f.frame)=false:=decide_eq_false h0
    simp -implicitDefEqProofs (disch:=omega) only [go_sem,↓reduceIte,rA,rq,rL,h0]
    iterate 9 (try (refine Qa 8 ?_; simp -implicitDefEqProofs (disch:=omega) only [go_sem,↓reduceIte,rq,e2]))
    exact ⟨_,_,Shift.refl _ _ _ _,rfl,rfl,rfl⟩
theorem c_let (hT:Qk Tryz.prog tab) (hf:FnOk m f):Am.Pure Tryz.prog G0 QcD [.agg (fC f)] fun v=>v=.bool true:=by
 have hnl:Qb (fC f)=true:=Qfl
 have hl:=hf.len
 intro t
 refine Qp 0 (zL _) (Qt hT Qcy (by simp [YY]) (Qn 5 ?_))
 simp -implicitDefEqProofs (disch:=omega) only [go_sem,↓reduceIte,reduceCtorEq,rq]
 refine Q8 (Shift.freeze (k:=0) (v:=t) (T:=37) (cs:=fC f) (zL _) rfl hnl) ?_
 simp only [fC,fnC,Q9,Qz,inC,YG,Zd,QiX,Qaa,Xt,List.set_cons_zero,Option.map_none]
 refine Qa 12 ?_
 simp -implicitDefEqProofs (disch:=omega) only [go_sem,↓reduceIte,reduceCtorEq,rq]
 refine Xn f.code (fun i fr σ=>Qg fr 1=.ref (.agg (fC f)) 0∧Qg fr 3=.int .i64 ((i:Nat):Int)∧σ=⟨t+1,[none]⟩) (fun e _ _=>e=.ex 0) ?_ (fun i x hx fr σ hJ=>QvD hT hf hx hJ) (fun i hi fr σ hJ=>?_) (fun e fr σ hE=>?_)
 ·simp -implicitDefEqProofs (disch:=omega) only [go_sem,↓reduceIte,reduceCtorEq,rq]
  rfl
 ·obtain ⟨f1,f3,rfl⟩:=hJ
  refine Qh [(1,.ref (.agg (fC f)) 0),(3,.int .i64 ((i:Nat):Int))] ⟨f1,f3,trivial⟩  12 ?_
  simp -implicitDefEqProofs (disch:=omega) only [go_sem,↓reduceIte,rA,rq,rL,hi,Nat.lt_irrefl]
  exact rfl
 ·subst hE
  refine Qa 12 ?_
  simp -implicitDefEqProofs (disch:=omega) only [go_sem,↓reduceIte]
end
section
attribute [local go_sem] nF lM lR Nat.mul_one zA zL V.cells and_true Qz decide_false decide_true fC false_implies fnC ge_iff_le inC Q9 Qq Qw Qn6 Qn5 Qn4 Qn3 Qn2 Qn1 Qn0 QnZ QnY QnX QnW QnV true_and true_implies us
def Qfj (n:Nat) (l:List Int):List V:=(List.range n).map fun k:Nat=>V.bool (decide ((k:Int)∈l))
theorem Qf7 (n:Nat) (l:List Int):(Qfj n l).length=n:=by simp [Qfj]
variable {l:List Int} {n k:Nat}
theorem Qvh (h:k<n):(Qfj n l).getD k V.any=.bool (decide ((k:Int)∈l)):=by
 simp [Qfj,List.getD_eq_getElem?_getD,h]
theorem Qvg (h:k<n):(Qfj n l).set k (.bool true)=Qfj n ((k:Int)::l):=by
 apply List.ext_getElem?
 intro i
 by_cases hi:i<n
 ·by_cases hik:i=k
  ·subst hik
   rw [List.getElem?_set_self (by rw [Qf7]; exact hi)]
   simp [Qfj,hi]
  ·rw [List.getElem?_set_ne (Ne.symm hik)]
   have:((i:Int)=(k:Int))=False:=eq_false (by omega)
   simp [Qfj,hi,this]
 ·rw [List.getElem?_eq_none (by rw [List.length_set,Qf7]; omega),List.getElem?_eq_none (by rw [Qf7]; omega)]
theorem Qog (n:Nat):(List.replicate n [V.bool false]).flatten=Qfj n []:=by
 apply List.ext_getElem?
 intro i
 have h1:(List.replicate n [V.bool false]).flatten=List.replicate n (V.bool false):=by
  induction n with
  | zero=>rfl
  | succ n ih=>rw [List.replicate_succ,List.flatten_cons,ih,List.replicate_succ]; rfl
 rw [h1]
 by_cases hi:i<n
 ·simp [Qfj,hi]
 ·simp [Qfj,hi]
abbrev rcJ (f:Rg.Fn) (ws:List Int) (x5 x7:V):Nat→Fr→H→Prop:=fun j fr σ=>∃ t k w o at_ l,Tr f.code f.frame at_ l∧0≤at_∧at_<f.code.length∧o[k]?=some (some (.arr w 4 (Qfj f.code.length l)))∧Qg fr 1=.lst 1 (us ws) false∧Qg fr 5=x5∧Qg fr 7=x7∧Qg fr 8=.ref (.agg (fC f)) 0∧Qg fr 9=.sl k w 0 1 f.code.length none∧Qg fr 10=.int .i64 at_∧Qg fr 11=.int .i64 ((j:Nat):Int)∧σ=⟨t,o⟩
abbrev rcE (f:Rg.Fn) (ws:List Int) (x5 x7:V):AE→Fr→H→Prop:=fun e fr _=>e=.ex 2∧Qg fr 1=.lst 1 (us ws) false∧Qg fr 5=x5∧Qg fr 7=x7∧Qg fr 8=.ref (.agg (fC f)) 0
theorem Qxq (hT:Qk Tryz.prog tab) {m:Im} {f:Rg.Fn} (hf:FnOk m f) {ws:List Int} (hws:ws.length≤1000) (hwb:∀ w∈ws,0≤w∧w≤255) {x5 x7:V} {j:Nat} {wj:Int} (hj:ws[j]?=some wj) {fr:Fr} {σ:H} (hJ:rcJ f ws x5 x7 j fr σ) :
 W Tryz.prog G0 107 0 (.seq (zg Qn6 [56,57,58] (zw 59 .skip (.exit 2))) (.seq (.block 3 (.seq (zg Qn5 [62,63,64] (zw 65 (.reg Qn4 [66,67,68,69]) .skip)) (.seq (zg Qn3 [70,71,72] (zw 73 (zg Qn2 [] .ret) .skip)) (zg Qn1 [74,75,76] (zg Qn0 [77,78,79] (.seq (zg QnZ [80,81] (zw 82 (.exit 2) .skip)) (zg QnY [83,84,85,86,87,88,89,90,91,92,93] (zg QnX [94,95,96,97,98,99,100,101] (zw 102 (zg QnW [] .ret) .skip))))))))) (.reg QnV [60,61]))) fr σ (QbQ (fun fr σ=>∃ fr' σ',Shift G0 107 0 fr σ fr' σ'∧rcJ f ws x5 x7 (j+1) fr' σ') (rcE f ws x5 x7)):=by
 obtain ⟨t,k,w,o,at_,l,hTr,ha0,ha1,ho,f1,f5,f7,f8,f9,f10,f11,rfl⟩:=hJ
 have hlt:=(List.getElem?_eq_some_iff.1 hj).1
 have hl:=hf.len
 have hfr:=hf.fr
 have e2:=ZT hlt (by omega)
 obtain ⟨an,rfl⟩:∃ an:Nat,at_=an:=⟨at_.toNat,by omega⟩
 have han:an<f.code.length:=by omega
 have hDw:(ws.map (V.int .u8)).getD j V.any=.int .u8 wj:=by simp [List.getD_eq_getElem?_getD,hj]
 have hH:=c_has (P:=Tryz.prog) (G:=G0) hT f.cuts an (by
  rw [hf.cu]; unfold Rg.cuts; rw [lM]
  have:=List.length_filter_le (fun k:Nat=>decide (1<XB f.code f.frame f.code.length (k:Int))) (List.range f.code.length)
  rw [List.length_range] at this; omega)
 have hN:=Qry (G:=G0) hT f.name f.pl f.frame f.code f.cuts an (by omega) hf.ok (by omega)
 have hn1:Qb [Qz f.cuts,.int .i64 (an:Int)]=true:=by simp [Qb,Qd,Qz]
 have hn2:Qb [.agg (fC f),.int .i64 (an:Int)]=true:=by simp [Qb,Qd,fC,Qfl]
 have hnx:=fun q hq=>Qnd (c:=f.code) (F:=f.frame) (i:=(an:Int)) (k:=q) hq
 have hn0:=hf.good.first an
 have hnl:=Qkq f.code f.frame an
 have hgo:=fun l q (h:Tr f.code f.frame an l) (hc:(an:Int) ∉ Rg.cuts f.code f.frame∨l=[]) (hq:q∈next f.code f.frame an)=>Tr.go (k:=q) h hc hq
 simp only [Qz] at hH hn1
 simp only [fC,fnC,Q9,Qz,inC] at hN hn2
 have hl1:((f.code.length:Nat):Int) * 1≤140737488355328:=by omega
 have hl2:(0≤(f.code.length:Int)∧(f.code.length:Int)≤f.code.length∧(f.code.length:Int) * ((1:Nat):Int)≤140737488355328∧(f.code.length:Int)≤9223372036854775807∧ones [V.bool false])=True:=eq_true ⟨by omega,by omega,by omega,by omega,by intro u hu; simp at hu; subst hu; rfl⟩
 refine Qh [(1,.lst 1 (us ws) false),(5,x5),(7,x7),(8,.ref (.agg (fC f)) 0),(9,.sl k w 0 1 f.code.length none),(10,.int .i64 ((an:Nat):Int)),(11,.int .i64 ((j:Nat):Int))] ⟨f1,f5,f7,f8,f9,f10,f11,trivial⟩  20 ?_
 simp -implicitDefEqProofs (disch:=omega) only [go_sem,↓reduceIte,rA,rq,hlt]
 refine Qf hT Qcz hH hn1 1 ?_
 simp -implicitDefEqProofs (disch:=omega) only [go_sem,↓reduceIte,rq]
 refine QiJ (fun fr σ=>∃ t k w o l,Tr f.code f.frame an l∧((an:Int) ∉ Rg.cuts f.code f.frame∨l=[])∧(an:Int) ∉ l∧o[k]?=some (some (.arr w 4 (Qfj f.code.length l)))∧Qg fr 1=.lst 1 (us ws) false∧Qg fr 5=x5∧Qg fr 7=x7∧Qg fr 8=.ref (.agg (fC f)) 0∧Qg fr 9=.sl k w 0 1 f.code.length none∧Qg fr 10=.int .i64 ((an:Nat):Int)∧Qg fr 11=.int .i64 ((j:Nat):Int)∧σ=⟨t,o⟩) ?_ fun fr σ hJ=>?_
 ·refine Qn 12 ?_
  by_cases hc:(an:Int)∈f.cuts
  ·rw [decide_eq_true hc]
   simp -implicitDefEqProofs (disch:=omega) only [go_sem,↓reduceIte,rA,rq,rL,Int.toNat_natCast,Qog]
   exact ⟨t+1,o.length,t,_,[],Tr.again (hf.cu▸hc),.inr rfl,by simp,List.getElem?_concat_length,rfl,rfl,rfl⟩
  ·rw [decide_eq_false hc]
   simp -implicitDefEqProofs (disch:=omega) only [go_sem,↓reduceIte,rq]
   rw [hf.cu] at hc
   exact ⟨t,k,w,o,l,hTr,.inl hc,hTr.fresh hf.good.first hc,ho,rfl,rfl,rfl⟩
 clear f1 f5 f7 f8 f9 f10 f11 ho hTr
 obtain ⟨t,k,w,o,l,hTr,hcl,hno,ho,f1,f5,f7,f8,f9,f10,f11,rfl⟩:=hJ
 have hDs:(Qfj f.code.length l).getD an V.any=.bool false:=by rw [Qvh han,decide_eq_false hno]
 have hset:List.take an (Qfj f.code.length l)++[V.bool true]++List.drop (an+1) (Qfj f.code.length l)=Qfj f.code.length (an::l):=by
  rw [← Qvg han,List.set_eq_take_append_cons_drop,if_pos (by rw [Qf7]; exact han)]; simp
 have hkl:=(List.getElem?_eq_some_iff.1 ho).1
 have hoS:∀ X,(o.set k X)[k]?=some X:=fun X=>List.getElem?_set_self hkl
 have han':((an:Int)<(f.code.length:Int))=True:=eq_true (by omega)
 refine Qh9 [(1,.lst 1 (us ws) false),(5,x5),(7,x7),(8,.ref (.agg (fC f)) 0),(9,.sl k w 0 1 f.code.length none),(10,.int .i64 ((an:Nat):Int)),(11,.int .i64 ((j:Nat):Int))] ⟨f1,f5,f7,f8,f9,f10,f11,trivial⟩ ?_
 refine Qa 30 ?_
 simp -implicitDefEqProofs (disch:=omega) only [go_sem,↓reduceIte,reduceCtorEq,rA,rq,Qf7,ho,hDs,han,hset]
 refine Qf hT YI hN hn2 4 ?_
 simp -implicitDefEqProofs (disch:=omega) only [go_sem,↓reduceIte,rq]
 have hwj:=hwb wj (List.mem_of_getElem? hj)
 have wc:IntKind.i64.wrap wj=wj:=XA (by omega)
 have hgo':=hgo l
 generalize hL:next f.code f.frame an=L at *
 by_cases hz:L.length=0
 ·have hz':((L.length:Int)==0)=true:=by simp [hz]
  have hz'':((L.length:Int)=0)=True:=eq_true (by omega)
  iterate 4 (try (refine Qa 8 ?_; simp -implicitDefEqProofs (disch:=omega) only [go_sem,↓reduceIte,rq,hz']))
  exact ⟨rfl,rfl,rfl,rfl,rfl⟩
 ·have hz':((L.length:Int)==0)=false:=by simp [hz]
  have hz'':((L.length:Int)=0)=False:=eq_false (by omega)
  have hzn:(¬ ((L.length:Int)=0))=True:=eq_true (by omega)
  have hmod:wj.tmod (L.length:Int)=((wj.toNat % L.length:Nat):Int):=by
   rw [Int.tmod_eq_emod_of_nonneg hwj.1]
   obtain ⟨wn,hwn⟩:∃ wn:Nat,wj=wn:=⟨wj.toNat,by omega⟩
   rw [hwn]; rfl
  have hrl:wj.toNat % L.length<L.length:=Nat.mod_lt _ (by omega)
  obtain ⟨q,hq⟩:∃ q,L[wj.toNat % L.length]?=some q:=⟨_,List.getElem?_eq_getElem hrl⟩
  have hDq:=Qdd hq
  have hqm:=List.mem_of_getElem? hq
  obtain ⟨q0,q1⟩:=hnx q hqm
  have hq0:q≠0:=fun e=>hn0 (e▸hqm)
  have hT2:=hgo' q hTr hcl hqm
  have p1:decide (q<1)=false:=decide_eq_false (by omega)
  have p1':(q<1)=False:=eq_false (by omega)
  have p2:decide ((f.code.length:Int)≤q)=false:=decide_eq_false (by omega)
  have p2':((f.code.length:Int)≤q)=False:=eq_false (by omega)
  have hlt':((j:Int)<(ws.length:Int))=True:=eq_true (by omega)
  iterate 8 (try (refine Qa 8 ?_; simp -implicitDefEqProofs (disch:=omega) only [go_sem,↓reduceIte,rA,rq,rL,hz',hzn,hmod,hrl,hDq,hDw,hlt,wc,p1',p2',e2]))
  refine ⟨_,_,Shift.refl _ _ _ _,t,k,w,o.set k (some (.arr w 4 (Qfj f.code.length (an::l)))),q,an::l,hT2,by omega,q1,hoS _,?_⟩
  simp -implicitDefEqProofs (disch:=omega) only [go_sem,↓reduceIte,rq]
  try simp
end
section
attribute [local go_sem] nF nT cA lM nA lR zA zL V.cells bne_self_eq_false decide_false decide_true gt_iff_lt Qw Xs zq0_0 zq0_1 QuT QuS QuR QuQ Qn6 Qn5 Qn4 Qn3 Qn2 Qn1 zq0_2 Qn0 QnZ QnY QnX QnW QnV QuP QuO QuN QEp zq0_3 zq0_4 zq0_5 zq0_6 QFA QFz QFy
theorem QvO (x:In):0≤XZ x∧XZ x≤1984:=by
 unfold XZ; split <;> omega
variable {f:Rg.Fn} {n:Nat} {r:List Rg.Fn} {m:Im}
theorem QGt (h:ofS m=.inl r) (hw:∀ w∈m.code,0≤w∧w<4294967296) (hl:m.code.length≤1000) (hn:r[n]?=some f):FnOk m f∧0<f.code.length:=by
 obtain ⟨hr,hlen,hg⟩:=Qev h
 obtain ⟨s,hs,rfl,hgd⟩:=hg n f hn
 obtain ⟨a,b,_,_,hab,hbl,es,ew⟩:=(QgU hr).bounds hs
 have hwl:(words m n).length=b - a:=by rw [ew]; simp; omega
 have hcl:(codeOf (words m n)).length=b - a:=by simp [codeOf,hwl]
 have hwb:∀ w∈words m n,0≤w∧w<4294967296:=fun w h=>by
  rw [ew] at h
  exact hw w (List.mem_of_mem_drop (List.mem_of_mem_take h))
 refine ⟨⟨hgd.1,fun x hx=>?_,by show (codeOf (words m n)).length≤_; omega,rfl,QvO _⟩,by show 0<(codeOf (words m n)).length; omega⟩
 obtain ⟨w,hw,rfl⟩:=List.mem_map.1 hx
 cases hd:dec w with
 | none=>simp [Zq,zeroI,i64]
 | some y =>
   obtain ⟨d1,d2⟩:=QlA (hwb w hw).1 hd
   exact ⟨d1.1,d1.2.1,d1.2.2.1,d1.2.2.2,by show i64 y.imm; unfold i64; omega⟩
theorem Qxn (hT:Qk Tryz.prog tab) (hr:∀ (n:Nat) (f:Rg.Fn),r[n]?=some f→FnOk m f∧0<f.code.length) (hrl:r.length≤1000) {ws:List Int} (hws:ws.length≤1000) (hwb:∀ w∈ws,0≤w∧w≤255) (hn:r[n]?=some f) {fr:Fr} {σ:H} (hJ:∃ t o,Qg fr 1=.lst 1 (us ws) false∧Qg fr 5=.lst 5 (r.map fun f=>V.agg (fC f)) false∧Qg fr 7=.int .i64 ((n:Nat):Int)∧σ=⟨t,o⟩) :
 W Tryz.prog G0 107 0 (.seq (zg QFA [38,39,40] (zw 41 .skip (.exit 0))) (.seq (.block 1 (zg QFz [44,45,46,47] (.seq (zg QFy [48,49,50] (zw 51 (zg QuT [] .ret) .skip)) (zg QuS [52,53,54,55] (zg QuR [] (.seq (zg QuQ [] (.block 2 (.loop (.seq (zg Qn6 [56,57,58] (zw 59 .skip (.exit 2))) (.seq (.block 3 (.seq (zg Qn5 [62,63,64] (zw 65 (.reg Qn4 [66,67,68,69]) .skip)) (.seq (zg Qn3 [70,71,72] (zw 73 (zg Qn2 [] .ret) .skip)) (zg Qn1 [74,75,76] (zg Qn0 [77,78,79] (.seq (zg QnZ [80,81] (zw 82 (.exit 2) .skip)) (zg QnY [83,84,85,86,87,88,89,90,91,92,93] (zg QnX [94,95,96,97,98,99,100,101] (zw 102 (zg QnW [] .ret) .skip))))))))) (.reg QnV [60,61])))))) (zg QuP [103,104] (zw 105 (zg QuO [] .ret) .skip)))))))) (.reg QuN [42,43]))) fr σ (QbQ (fun fr σ=>∃ fr' σ',Shift G0 107 0 fr σ fr' σ'∧∃ t o,Qg fr' 1=.lst 1 (us ws) false∧Qg fr' 5=.lst 5 (r.map fun f=>V.agg (fC f)) false∧Qg fr' 7=.int .i64 ((n+1:Nat):Int)∧σ'=⟨t,o⟩) (fun e _ _=>e=.ex 0)):=by
 obtain ⟨t,o,f1,f5,f7,rfl⟩:=hJ
 have hlt:=(List.getElem?_eq_some_iff.1 hn).1
 have e2:=ZT hlt (by omega)
 obtain ⟨hf,h0⟩:=hr n f hn
 have hl:=hf.len
 have hD:(r.map fun f=>V.agg (fC f)).getD n V.any=.agg [.str f.name,.int .i64 f.pl,.lst 5 (f.code.map fun x=>V.agg [.int .u8 x.op,.int .u8 x.rd,.int .u8 x.rs1,.int .u8 x.rs2,.int .i64 x.imm]) false,.int .i64 f.frame,.lst 1 (ints f.cuts) false]:=by simp [List.getD_eq_getElem?_getD,hn]; rfl
 have hnl:Qb (fC f)=true:=Qfl
 have hcat:∀ X:Option Ob,(o++[X])[o.length]?=some X:=fun X=>List.getElem?_concat_length
 have hset:∀ X Y:Option Ob,(o++[X]).set o.length Y=o++[Y]:=fun X Y=>Qm2 o X Y
 refine Qh [(1,.lst 1 (us ws) false),(5,.lst 5 (r.map fun f=>V.agg (fC f)) false),(7,.int .i64 ((n:Nat):Int))] ⟨f1,f5,f7,trivial⟩  21 ?_
 simp -implicitDefEqProofs (disch:=omega) only [go_sem,↓reduceIte,reduceCtorEq,rA,rq,hlt,hD,hcat,hset]
 refine Q8 (Shift.freeze (k:=o.length) (v:=t) (T:=37) (cs:=fC f) (zL _) (hcat _) hnl) ?_
 simp only [fC,fnC,Q9,Qz,inC,YG,Zd,Qaa,and_self,if_true,reduceCtorEq,if_false]
 generalize Xt _ _ _=o'
 have hz':((f.code.length:Int)==0)=false:=by rw [QlT]; exact decide_eq_false (by omega)
 have hz'':((f.code.length:Int)=0)=False:=eq_false (by omega)
 have hl2:(0≤(f.code.length:Int)∧(f.code.length:Int)≤f.code.length∧(f.code.length:Int) * ((1:Nat):Int)≤140737488355328∧(f.code.length:Int)≤9223372036854775807∧ones [V.bool false])=True:=eq_true ⟨by omega,by omega,by omega,by omega,by intro u hu; simp at hu; subst hu; rfl⟩
 have hL:=c_let hT hf
 simp only [fC,fnC,Q9,Qz,inC] at hL
 refine Qa 40 ?_
 simp -implicitDefEqProofs (disch:=omega) only [go_sem,↓reduceIte,rA,rq,rL,us,true_implies,true_and,and_true,hz',Int.toNat_natCast,Qog,H.push]
 refine Xn ws (rcJ f ws (.lst 5 (r.map fun f=>V.agg (fC f)) false) (.int .i64 ((n:Nat):Int))) (rcE f ws (.lst 5 (r.map fun f=>V.agg (fC f)) false) (.int .i64 ((n:Nat):Int))) ⟨t+1+1,o'.length,t+1,_,0,[],Tr.first,by omega,by omega,List.getElem?_concat_length,?_⟩ (fun j w hj fr σ hJ=>Qxq hT hf hws hwb hj hJ) (fun j hj fr σ hJ=>?_) (fun e fr σ hE=>?_)
 ·simp -implicitDefEqProofs (disch:=omega) only [go_sem,↓reduceIte,rq,inC,Q9,fC,fnC,Qz,us,true_and,and_true]
  rfl
 ·obtain ⟨t2,k,w,o2,at_,l,hTr,ha0,ha1,ho,f1,f5,f7,f8,f9,f10,f11,rfl⟩:=hJ
  refine Qh [(1,.lst 1 (us ws) false),(5,.lst 5 (r.map fun f=>V.agg (fC f)) false),(7,.int .i64 ((n:Nat):Int)),(8,.ref (.agg (fC f)) 0),(11,.int .i64 ((j:Nat):Int))] ⟨f1,f5,f7,f8,f11,trivial⟩  20 ?_
  simp -implicitDefEqProofs (disch:=omega) only [go_sem,↓reduceIte,rq,inC,Q9,fC,fnC,Qz,us,hj,Nat.lt_irrefl]
  exact ⟨rfl,rfl,rfl,rfl,rfl⟩
 ·obtain ⟨rfl,f1,f5,f7,f8⟩:=hE
  obtain ⟨t3,o3⟩:=σ
  refine YE [(1,.lst 1 (us ws) false),(5,.lst 5 (r.map fun f=>V.agg (fC f)) false),(7,.int .i64 ((n:Nat):Int)),(8,.ref (.agg (fC f)) 0)] ⟨f1,f5,f7,f8,trivial⟩ 20 ?_
  simp -implicitDefEqProofs (disch:=omega) only [go_sem,↓reduceIte,reduceCtorEq,rA,rq,inC,Q9,fC,fnC,Qz,us,false_implies,and_true]
  refine Qf hT Qcy hL (by simp [Qb,Qd]) 20 ?_
  simp -implicitDefEqProofs (disch:=omega) only [go_sem,↓reduceIte,rq,e2]
  exact ⟨_,_,Shift.refl _ _ _ _,t3,o3,rfl,rfl,rfl,rfl⟩
theorem Qiz (hT:Qk Tryz.prog tab) (m:Im) (ws:List Int) (hsn:∀ s∈m.syms,s.1.length≤9223372036854775807) (hw:∀ w∈m.code,0≤w∧w<4294967296) (hwb:∀ w∈ws,0≤w∧w≤255) :
 Am.Pure Tryz.prog G0 YF [QaY m,.lst 1 (us ws) false] fun v=>v=.bool true:=by
 have hWk:=QlH hT
 have hin:=Qbv m
 intro t
 refine Qp 0 (zL _) (Qt hT Xb (by simp [Xs]) (Qn 5 ?_))
 simp -implicitDefEqProofs (disch:=omega) only [go_sem,↓reduceIte,reduceCtorEq,rq,us,and_true,QaY,X5,QU,QF]
 refine Q8 (Shift.freeze (k:=0) (v:=t) (T:=25) (cs:=X5 m) (zL _) rfl (QiU m)) ?_
 simp only [X5,QU,QF,YG,Zd,QiX,Qaa,Xt,List.set_cons_zero,Option.map_none]
 refine Qa 8 ?_
 by_cases g1:150<m.code.length
 ·have g1':decide ((150:Int)<(m.code.length:Int))=true:=decide_eq_true (by omega)
  have g1'':((150:Int)<(m.code.length:Int))=True:=eq_true (by omega)
  simp -implicitDefEqProofs (disch:=omega) only [go_sem,↓reduceIte,reduceCtorEq,rA,rq,true_implies,and_true,g1'']
  iterate 6 (try (refine Qa 8 ?_; simp -implicitDefEqProofs (disch:=omega) only [go_sem,↓reduceIte,reduceCtorEq,rq]))
  refine Qf hT Qm hWk rfl 8 ?_
  simp -implicitDefEqProofs (disch:=omega) only [go_sem,↓reduceIte,reduceCtorEq,rq,and_true]
 have g1':decide ((150:Int)<(m.code.length:Int))=false:=decide_eq_false (by omega)
 have g1'':((150:Int)<(m.code.length:Int))=False:=eq_false (by omega)
 by_cases g2:20<m.syms.length
 ·have g2':decide ((20:Int)<(m.syms.length:Int))=true:=decide_eq_true (by omega)
  have g2'':((20:Int)<(m.syms.length:Int))=True:=eq_true (by omega)
  simp -implicitDefEqProofs (disch:=omega) only [go_sem,↓reduceIte,reduceCtorEq,rA,rq,true_implies,and_true,g1'']
  iterate 6 (try (refine Qa 8 ?_; simp -implicitDefEqProofs (disch:=omega) only [go_sem,↓reduceIte,reduceCtorEq,rA,rq,rL,true_implies,and_true,g2'']))
  refine Qf hT Qm hWk rfl 8 ?_
  simp -implicitDefEqProofs (disch:=omega) only [go_sem,↓reduceIte,reduceCtorEq,rq,and_true]
 have g2':decide ((20:Int)<(m.syms.length:Int))=false:=decide_eq_false (by omega)
 have g2'':((20:Int)<(m.syms.length:Int))=False:=eq_false (by omega)
 by_cases g3:200<ws.length
 ·have g3':decide ((200:Int)<(ws.length:Int))=true:=decide_eq_true (by omega)
  have g3'':((200:Int)<(ws.length:Int))=True:=eq_true (by omega)
  simp -implicitDefEqProofs (disch:=omega) only [go_sem,↓reduceIte,reduceCtorEq,rA,rq,true_implies,and_true,g1'']
  iterate 6 (try (refine Qa 8 ?_; simp -implicitDefEqProofs (disch:=omega) only [go_sem,↓reduceIte,reduceCtorEq,rA,rq,rL,true_implies,and_true,g2'',g3'']))
  refine Qf hT Qm hWk rfl 8 ?_
  simp -implicitDefEqProofs (disch:=omega) only [go_sem,↓reduceIte,reduceCtorEq,rq,and_true]
 have g3':decide ((200:Int)<(ws.length:Int))=false:=decide_eq_false (by omega)
 have g3'':((200:Int)<(ws.length:Int))=False:=eq_false (by omega)
 have hO:=c_Of hT m ⟨by omega,by omega,hsn⟩ hw (by omega)
 simp only [QaY,X5,QU,QF] at hO hin
 simp -implicitDefEqProofs (disch:=omega) only [go_sem,↓reduceIte,reduceCtorEq,rA,rq,true_implies,and_true,g1'']
 iterate 6 (try (refine Qa 8 ?_; simp -implicitDefEqProofs (disch:=omega) only [go_sem,↓reduceIte,reduceCtorEq,rA,rq,rL,false_implies,true_implies,and_true,g2'',g3'']))
 refine Qf hT QbN hO hin 8 ?_
 cases hr:ofS m with
 | inr e =>
   obtain ⟨a,b,e⟩:=e
   have hne:e≠0:=by
    unfold ofS at hr
    split at hr
    ·exact QgV hr
    ·simp only [Sum.inr.injEq,Prod.mk.injEq] at hr; omega
   have hne':(e != 0)=true:=by simp [hne]
   simp only [ofV,Qad,List.map_nil]
   simp -implicitDefEqProofs (disch:=omega) only [go_sem,↓reduceIte,reduceCtorEq,rA,rq,rT,and_true,flt]
   iterate 4 (try (refine Qa 8 ?_; simp -implicitDefEqProofs (disch:=omega) only [go_sem,↓reduceIte,reduceCtorEq,rA,rq,true_implies,and_true,hne']))
   refine Qf hT Qm hWk rfl 8 ?_
   simp -implicitDefEqProofs (disch:=omega) only [go_sem,↓reduceIte,reduceCtorEq,rA,rq,and_true]
 | inl r =>
   have hlen:=(Qev hr).2.1
   simp only [ofV,Qad]
   simp -implicitDefEqProofs (disch:=omega) only [go_sem,↓reduceIte,reduceCtorEq,rA,rq,rT,inC,Q9,fC,fnC,Qz,and_true,flt]
   iterate 4 (try (refine Qa 8 ?_; simp -implicitDefEqProofs (disch:=omega) only [go_sem,↓reduceIte,reduceCtorEq,rA,rq,true_implies,and_true]))
   refine Xn r (fun n fr σ=>∃ t o,Qg fr 1=.lst 1 (us ws) false∧Qg fr 5=.lst 5 (r.map fun f=>V.agg (fC f)) false∧Qg fr 7=.int .i64 ((n:Nat):Int)∧σ=⟨t,o⟩) (fun e _ _=>e=.ex 0) (by exact ⟨_,_,rfl,rfl,rfl,rfl⟩) (fun n f hn fr σ hJ=>Qxn hT (fun n f hn=>QGt hr hw (by omega) hn) (by omega) (by omega) hwb hn hJ) (fun n hn fr σ hJ=>?_) (fun e fr σ hE=>?_)
   ·obtain ⟨t2,o,f1,f5,f7,rfl⟩:=hJ
    refine Qh [(1,.lst 1 (us ws) false),(5,.lst 5 (r.map fun f=>V.agg (fC f)) false),(7,.int .i64 ((n:Nat):Int))] ⟨f1,f5,f7,trivial⟩  12 ?_
    simp -implicitDefEqProofs (disch:=omega) only [go_sem,↓reduceIte,rq,inC,Q9,fC,fnC,Qz,us,hn,Nat.lt_irrefl]
   ·subst hE
    refine Qa 8 ?_
    simp -implicitDefEqProofs (disch:=omega) only [go_sem,↓reduceIte]
    refine Qf hT Qm hWk rfl 8 ?_
    simp -implicitDefEqProofs (disch:=omega) only [go_sem,↓reduceIte,rq,and_true]
end
end Go.Proofs.YtaidbdgndljaeaaGreatDoor
