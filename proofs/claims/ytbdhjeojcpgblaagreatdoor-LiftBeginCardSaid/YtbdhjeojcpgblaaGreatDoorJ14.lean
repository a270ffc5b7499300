/- Ours. -/
import Derived.Test.YtbdhjeojcpgblaaGreatDoorJ13
import Derived.Test.YtbdhjeojcpgblaaGreatDoorJ10
import Derived.Test.YtbdhjeojcpgblaaGreatDoorJ1
import Derived.Test.YtbdhjeojcpgblaaGreatDoorY
open Nat renaming reduceEqDiff → rq, reduceAdd → rA, reduceLeDiff → rL, reduceLT → rT, zero_add → zA, le_refl → lR, zero_le → zL, add_zero → aZ
open List renaming length_cons → lC, length_nil → lN, take_succ_cons → tSq, length_append → lA, nil_append → nA, cons_append → cA, append_assoc → aA, take_nil → tN, take_zero → tZ, length_map → lM
open Bool renaming not_false → nF, not_true → nT
namespace Go.Proofs.YtbdhjeojcpgblaaGreatDoor
open Go Go.Am Go.Rv Go.Rg
set_option maxRecDepth 100000
variable {G:Nat→Option V}
section
attribute [local go_sem] nF nT aZ lR Nat.mul_one Nat.one_mul Nat.succ_ne_zero zA zL Nat.zero_mul Option.getD_none Option.getD_some Option.isSome_none Option.isSome_some beq_self_eq_true bne_self_eq_false decide_false decide_true ge_iff_le gt_iff_lt Qu Yv QPw QPv Quk QPu QPt QPs QPr QPq QPp QPo QA5
theorem QDo (a b:Int):Qae ([a,b].mergeSort fun x y=>decide (x≤y))=Rg.two a b:=by
 have h1:([a,b].mergeSort fun x y=>decide (x≤y))=if a≤b then [a,b] else [b,a]:=by
  simp [List.mergeSort,List.MergeSort.Internal.splitInTwo,List.merge]
 rw [h1]
 unfold Rg.two
 by_cases h:a≤b
 ·rw [if_pos h]
  by_cases h2:a<b
  ·rw [if_pos h2,Qae,if_neg (by omega),Qae]
  ·have:a=b:=by omega
   subst this
   rw [if_neg h2,if_neg h2,Qae,if_pos rfl,Qae]
 ·rw [if_neg h,if_neg (by omega),if_pos (by omega),Qae,if_neg (by omega),Qae]
theorem Qth (a:Int):Qae ([a].mergeSort fun x y=>decide (x≤y))=[a]:=by simp [Qae]
def QQj (n:Nat) (l:List Int):List Int:=l.filter fun k:Int=>!(decide (k<0) || decide ((n:Int)≤k))
variable {c:List In} {F:Int}
theorem QRZ (hT:Qf Tryz.prog tab) {nm:List UInt8} {pl:Int} {K:List Int} {out:List Int} {t w:Nat} {X:Option Ob} (ho:out.length≤2) {fr:Fr} {Q:V→H→Prop}
 (hk:∀ t' cs,Qb cs=true→Q (.sl 2 w 0 1 (QQj c.length (Qae (out.mergeSort fun x y=>decide (x≤y)))).length none) ⟨t',[none,X,some (.arr w 3 (ints (QQj c.length (Qae (out.mergeSort fun x y=>decide (x≤y))))++cs))]⟩)
 (f2:Ql fr 2=.ref (.agg (fnC nm pl c F K)) 0) (f6:Ql fr 6=.sl 2 w 0 1 out.length none) :
 W Tryz.prog G 59 0 (zg QA5 [53,54] (zg Quk [55,56,57,58] .ret)) fr ⟨t,[none,X,some (.arr w 3 (ints out))]⟩ (QkX G [RV.tmp 4] Q):=by
 have hS:=QwX (P:=Tryz.prog) (G:=G) (sortI rfl) (base:=0) (k:=2) (v:=w) (T:=3) (t:=t) (o:=[none,X,some (.arr w 3 (ints out))]) (zs:=out) (n:=out.length) (lim:=none) (zL _) rfl rfl (by omega)
 have hml:(out.mergeSort fun x y=>decide (x≤y)).length=out.length:=by simp
 generalize hq:(out.mergeSort fun x y=>decide (x≤y))=q at *
 have hC:=QDz (G:=G) (base:=0) (k:=2) (v:=w) (T:=3) (t:=t) (o:=[none,X,some (.arr w 3 (ints q))]) (zs:=q) (zL _) rfl (by omega)
 rw [hml] at hC
 have hcl:=Qmi q
 refine Qt [(2,.ref (.agg (fnC nm pl c F K)) 0),(6,.sl 2 w 0 1 out.length none)] ⟨f2,f6,trivial⟩  12 ?_
 simp -implicitDefEqProofs (disch:=omega) only [go_sem,↓reduceIte,rq,fnC,Y9,Xv,inC]
 refine call hT Qbm hS 12 fun v σ hv=>?_
 obtain ⟨rfl,rfl⟩:=hv
 refine ya ?_
 refine call hT QdV hC 12 fun v σ hv=>?_
 obtain ⟨rfl,cells,hcn,rfl⟩:=hv
 have hD:=Qtm (P:=Tryz.prog) (G:=G) hT (base:=0) (t:=t) (g:=YX) (w:=w) (o:=[none,X]) (cap:=[fnR nm pl c F K]) (cs:=cells) hcn (p:=fun k=>decide (k<0) || decide ((c.length:Int)≤k)) (c:=Qae q) (by simp) (fun w' cs t n hn=>CV.of hT QaV ((QF1 (P:=Tryz.prog) (G:=G) hT nm pl F c K n).conseq fun v σ hv=>⟨by
  rw [hv.1]; congr 1; rw [Bool.eq_iff_iff]; simp,t,lR _,hv.2⟩)) (by omega)
 simp only [fnR,fnC,Y9,Xv,inC,lC,lN,cA,nA] at hD
 refine ya ?_
 refine call hT Zf hD 12 fun v σ hv=>?_
 obtain ⟨t',cs,_,hcs,rfl,rfl⟩:=hv
 refine ya ?_
 exact hk t' cs hcs
theorem QE0 {i:Int} {x:In} (h:nth c i=some x):next c F i=if ret c F i || ends c i then [] else QQj c.length (Rg.ways x i):=by unfold next; rw [h]; rfl
theorem c_Next (hT:Qf Tryz.prog tab) (nm:List UInt8) (pl F:Int) (c:List In) (K:List Int) (i:Int) (hl:c.length≤1000000) (hc:∀ x∈c,QqN x) (hi:-9≤i∧i≤2000000):Am.Pure Tryz.prog G QcK [.agg (fnC nm pl c F K),.int .i64 i] fun v=>v=Xv (next c F i):=by
 have hR:=Qmj (P:=Tryz.prog) (G:=G) hT nm pl F c K i hl hi
 have hE:=c_Ends (P:=Tryz.prog) (G:=G) hT nm pl F c K i hl hc hi
 have hnl:=Qld (nm:=nm) (pl:=pl) (F:=F) (c:=c) (K:=K)
 have hn2:Qb [.agg (fnC nm pl c F K),.int .i64 i]=true:=by
  simp [Qb,Qd,hnl]
 simp only [fnC,Y9,Xv,inC] at hR hE hn2
 refine Qmm (fun t=>?_) (by simp [Xv,Qd])
 refine Qk hT Qcx (by simp [Yv]) (Qg 5 ?_)
 simp -implicitDefEqProofs (disch:=omega) only [go_sem,↓reduceIte,reduceCtorEq,rq,fnC,Y9,Xv,inC,V.cells,and_true,nA]
 refine Xr (Shift.freeze (k:=0) (v:=t) (T:=46) (cs:=fnC nm pl c F K) (zL _) rfl hnl) ?_
 simp only [fnC,Y9,Xv,inC,Qr,Qv,Qp9,XR,QN,List.set_cons_zero,Option.map_none]
 refine Qa 12 ?_
 by_cases h0:i<0
 ·have h0':decide (i<0)=true:=decide_eq_true h0
  have hr:next c F i=[]:=by unfold next nth; rw [if_pos h0]
  simp -implicitDefEqProofs (disch:=omega) only [go_sem,↓reduceIte,reduceCtorEq,rq,and_true,h0]
  iterate 9 (try (refine Qa 4 ?_; simp -implicitDefEqProofs (disch:=omega) only [go_sem,↓reduceIte,reduceCtorEq,rq,true_and]))
  rw [hr]
  exact .inl (.lst 0 1 [] [] true .nil (.inl rfl))
 have h0':decide (i<0)=false:=decide_eq_false h0
 obtain ⟨k,rfl⟩:∃ k:Nat,i=k:=⟨i.toNat,by omega⟩
 by_cases h1:c.length≤k
 ·have h1':decide ((c.length:Int)≤(k:Int))=true:=decide_eq_true (by omega)
  have hr:next c F k=[]:=by unfold next; rw [QpO,List.getElem?_eq_none h1]
  simp -implicitDefEqProofs (disch:=omega) only [go_sem,↓reduceIte,reduceCtorEq,rA,rq,rL,V.cells,lM,true_implies,and_true,h0]
  iterate 9 (try (refine Qa 4 ?_; simp -implicitDefEqProofs (disch:=omega) only [go_sem,↓reduceIte,reduceCtorEq,rq,true_and,h1]))
  rw [hr]
  exact .inl (.lst 0 1 [] [] true .nil (.inl rfl))
 have h1':decide ((c.length:Int)≤(k:Int))=false:=decide_eq_false (by omega)
 have h1'':¬ (c.length:Int)≤(k:Int):=by omega
 have hlt:k<c.length:=by omega
 obtain ⟨x,hx⟩:∃ x,c[k]?=some x:=⟨_,List.getElem?_eq_getElem hlt⟩
 have hr:=QE0 (F:=F) (show nth c (k:Int)=some x by rw [QpO]; exact hx)
 simp -implicitDefEqProofs (disch:=omega) only [go_sem,↓reduceIte,reduceCtorEq,rA,rq,rL,V.cells,lM,true_implies,and_true,h0]
 iterate 3 (try (refine Qa 4 ?_; simp -implicitDefEqProofs (disch:=omega) only [go_sem,↓reduceIte,reduceCtorEq,rA,rq,V.cells,false_implies,and_true,h1]))
 refine Qj hT Xh hR hn2 4 ?_
 cases hrt:ret c F k with
 | true =>
   rw [hrt] at hr
   refine ya ?_
   iterate 6 (try (refine Qa 4 ?_; simp -implicitDefEqProofs (disch:=omega) only [go_sem,↓reduceIte,reduceCtorEq,rq,true_and]))
   rw [hr]
   exact .inl (.lst 0 1 [] [] true .nil (.inl rfl))
 | false =>
   simp -implicitDefEqProofs (disch:=omega) only [go_sem,↓reduceIte,reduceCtorEq,rA,rq,V.cells,false_implies,and_true]
   iterate 1 (try (refine Qa 4 ?_; simp -implicitDefEqProofs (disch:=omega) only [go_sem,↓reduceIte,reduceCtorEq,rA,rq]))
   refine Qj hT Qcy hE hn2 2 ?_
   cases hen:ends c k with
   | true =>
     rw [hrt,hen] at hr
     refine ya ?_
     iterate 6 (try (refine Qa 4 ?_; simp -implicitDefEqProofs (disch:=omega) only [go_sem,↓reduceIte,reduceCtorEq,rq,true_and]))
     rw [hr]
     exact .inl (.lst 0 1 [] [] true .nil (.inl rfl))
   | false =>
     rw [hrt,hen] at hr
     refine ya ?_
     have hD:=QaI hx
     simp only [inC] at hD
     refine Qa 16 ?_
     simp -implicitDefEqProofs (disch:=omega) only [go_sem,↓reduceIte,reduceCtorEq,rA,rq,rL,V.cells,lM,false_implies,true_implies,and_true,cA,nA,hD,hlt]
     have hJm:=Qvu (P:=Tryz.prog) (G:=G) hT x
     have hBr:=Qpk (P:=Tryz.prog) (G:=G) hT x
     have hxo:=hc x (List.mem_of_getElem? hx)
     have hi64:-9223372036854775808≤x.imm∧x.imm≤9223372036854775807:=by have:=hxo.2.2.2.2; unfold i64 at this; omega
     have h4:=QRr hi64
     have w1:IntKind.i64.wrap (x.imm.tdiv 4)=x.imm.tdiv 4:=Yz (by omega)
     have w2:IntKind.i64.wrap ((k:Int)+x.imm.tdiv 4)=tgt x k:=by rw [Yz (by omega)]; rfl
     have w3:IntKind.i64.wrap ((k:Int)+1)=(k:Int)+1:=Yz (by omega)
     have hap:∀ (l:List Int) (y:Int),ints l++[V.int .i64 y]=ints (l++[y]):=fun l y=>by simp [ints]
     simp only [inC] at hJm hBr
     refine Xr (Shift.own (s:=6) (z:=0) (sz:=1) (T:=3) (yb) (by decide)) ?_
     refine yn ?_
     refine Qa 1 ?_
     refine ya ?_
     refine QpF (fun fr σ=>Ql fr 1=.int .i64 (k:Int)∧Ql fr 2=.ref (.agg (fnC nm pl c F K)) 0∧Ql fr 5=.ptr 1 (t+1) 0∧∃ t2 w,Ql fr 6=.sl 2 w 0 1 (if Qbw x then [tgt x k] else []).length none∧σ=⟨t2,[none,some (.arr (t+1) 70 (inC x)),some (.arr w 3 (ints (if Qbw x then [tgt x k] else [])))]⟩) ?_ fun fr σ hJ=>?_
     ·refine Qg 6 ?_
      simp -implicitDefEqProofs (disch:=omega) only [go_sem,↓reduceIte,reduceCtorEq,rA,rq,fnC,Y9,Xv,inC,false_implies,and_true]
      refine Qj hT Ys hJm rfl 4 ?_
      cases hj:Qbw x with
      | false =>
        refine yk ?_
        iterate 4 (try (refine Qa 4 ?_; simp -implicitDefEqProofs (disch:=omega) only [go_sem,↓reduceIte,reduceCtorEq,rA,rq,rL,rT,Nat.reduceSub,Nat.reduceMul,Int.reduceToNat,Int.reduceLE,Int.reduceLT,Int.reduceEq,Int.reduceNe,Nat.reduceBEq,Nat.reduceBNe,fnC,Y9,Xv,inC,V.cells,lM,false_implies,true_implies,true_and,and_true,not_true_eq_false,not_false_eq_true,Int.reduceBEq,Int.reduceBNe,cA,nA]))
        try simp [ints]
      | true =>
        refine ya ?_
        iterate 4 (try (refine Qa 4 ?_; simp -implicitDefEqProofs (disch:=omega) only [go_sem,↓reduceIte,reduceCtorEq,rA,rq,rL,Int.reduceEq,V.cells,true_implies,true_and,and_true,not_false_eq_true,cA,nA,w1,w2]))
        try simp [ints]
     obtain ⟨f1,f2,f5,t2,w,f6,rfl⟩:=hJ
     refine Qa 1 ?_
     simp -implicitDefEqProofs (disch:=omega) only [go_sem,inC]
     have hbj:Z6 x=true→Qbw x=true:=fun h=>by unfold Qbw; rw [h]; rfl
     have hway:Rg.ways x k=Qae (((if Qbw x then [tgt x k] else [])++(if Z6 x || !Qbw x then [(k:Int)+1] else [])).mergeSort fun a b=>decide (a≤b)):=by
      unfold Rg.ways
      cases hb:Z6 x with
      | true=>rw [hbj hb]; exact (QDo _ _).symm
      | false =>
        cases hj:Qbw x with
        | true=>exact (Qth _).symm
        | false=>exact (Qth _).symm
     have hlen:((if Qbw x then [tgt x k] else [])++(if Z6 x || !Qbw x then [(k:Int)+1] else [])).length≤2:=by
      rw [lA]; split <;> split <;> simp
     generalize ho1:(if Qbw x then [tgt x k] else [])=o1 at *
     have hl1:o1.length≤2:=by rw [lA] at hlen; omega
     refine QpF (fun fr σ=>Ql fr 2=.ref (.agg (fnC nm pl c F K)) 0∧∃ t3 w,Ql fr 6=.sl 2 w 0 1 (o1++(if Z6 x || !Qbw x then [(k:Int)+1] else [])).length none∧σ=⟨t3,[none,some (.arr (t+1) 70 (inC x)),some (.arr w 3 (ints (o1++(if Z6 x || !Qbw x then [(k:Int)+1] else []))))]⟩) ?_ fun fr σ hJ=>?_
     ·have hsn:o1.length+1=(o1++[(k:Int)+1]).length:=by simp
      have hb1:o1.length+1≤9223372036854775807:=by omega
      refine Qt [(1,.int .i64 (k:Int)),(2,.ref (.agg (fnC nm pl c F K)) 0),(5,.ptr 1 (t+1) 0),(6,.sl 2 w 0 1 o1.length none)] ⟨f1,f2,f5,f6,trivial⟩  6 ?_
      simp -implicitDefEqProofs (disch:=omega) only [go_sem,↓reduceIte,reduceCtorEq,rA,rq,fnC,Y9,Xv,inC,false_implies,and_true]
      refine Qj hT Y5 hBr rfl 4 ?_
      cases hb:Z6 x with
      | true =>
        refine ya ?_
        iterate 6 (try (refine Qa 4 ?_; simp -implicitDefEqProofs (disch:=omega) only [go_sem,↓reduceIte,reduceCtorEq,rq,rL,V.cells,true_and,and_true,cA,nA,w3,hap,XA]))
        try simp []
      | false =>
        simp -implicitDefEqProofs (disch:=omega) only [go_sem,↓reduceIte,reduceCtorEq,rA,rq,false_implies,and_true]
        iterate 1 (try (refine Qa 4 ?_; simp -implicitDefEqProofs (disch:=omega) only [go_sem,↓reduceIte,reduceCtorEq,rA,rq,rL,rT,Nat.reduceSub,Nat.reduceMul,Int.reduceToNat,Int.reduceLE,Int.reduceLT,Int.reduceEq,Int.reduceNe,Nat.reduceBEq,Nat.reduceBNe,fnC,Y9,Xv,inC,V.cells,lM,false_implies,true_implies,true_and,and_true,not_true_eq_false,not_false_eq_true,Int.reduceBEq,Int.reduceBNe,cA,nA]))
        refine Qj hT Ys hJm rfl 4 ?_
        cases hj:Qbw x with
        | true =>
          refine ya ?_
          iterate 6 (try (refine Qa 4 ?_; simp -implicitDefEqProofs (disch:=omega) only [go_sem,↓reduceIte,rq,true_and]))
          try simp []
        | false =>
          refine ya ?_
          iterate 6 (try (refine Qa 4 ?_; simp -implicitDefEqProofs (disch:=omega) only [go_sem,↓reduceIte,reduceCtorEq,rq,rL,V.cells,true_and,and_true,cA,nA,w3,hap,XA]))
          try simp []
     obtain ⟨f2,t3,w,f6,rfl⟩:=hJ
     refine QRZ hT hlen (fun t' cs hcs=>?_) f2 f6
     rw [← hway]
     rw [if_neg (by simp [])] at hr
     rw [hr]
     have hfz:XR 2 w (ints (QQj c.length (Rg.ways x k))++cs) (.sl 2 w 0 1 (QQj c.length (Rg.ways x k)).length none)=Xv (QQj c.length (Rg.ways x k)):=by
      have hle:(QQj c.length (Rg.ways x k)).length≤(ints (QQj c.length (Rg.ways x k))).length+cs.length:=by rw [XA]; omega
      simp [XR,Qd1,Xv,List.take_left' (XA _),hle]
     refine .inr ⟨2,w,3,_,rfl,?_,?_,?_⟩
     ·rw [XP,Qir,hcs]; rfl
     ·rw [hfz]; simp [Xv,Qd]
     ·rw [hfz]; exact .refl _
end
end Go.Proofs.YtbdhjeojcpgblaaGreatDoor
namespace Go.Rg
open Go Go.Am Go.Rv
set_option maxRecDepth 100000
def encs (l:List In):List Int:=l.filterMap fun x=>if (enc T x).2=0 then some (enc T x).1 else none
def nameAt (i:Nat):List UInt8:=[102,UInt8.ofNat (97+i % 26),UInt8.ofNat (97+i / 26)]
def QuT (m:Im) (l:List In):Im:=⟨m.data,m.syms++[(nameAt m.syms.length,4 * (m.code.length:Int))],m.code++encs l⟩
def QeC (ls:List (List In)) (d:Int):Im:=ls.foldl QuT ⟨d,[],[]⟩
def QrN (x:In):Prop:=¬ (x.op=3∧x.rd=1)
variable {x:In} {i:Nat} {c l:List In} {pl pl' F d:Int} {ats' a b:List Int}
theorem Qpx {ats:List Int} (h:QrN x):Zp ats pl c F i x=Zp ats' pl' c F i x:=by
 unfold Zp
 by_cases hj:Qbw x=true
 ·rw [if_pos hj,if_pos hj]
 ·rw [if_neg hj,if_neg hj]
  by_cases ho:x.op=3
  ·rw [if_pos ho,if_pos ho]
   have:¬ x.rd=1:=fun e=>h ⟨ho,e⟩
   simp [this]
  ·rw [if_neg ho,if_neg ho]
theorem Qsg {ats:List Int} (h:QrN x):YG ats pl c F i x=YG ats' pl' c F i x:=by
 unfold YG
 rw [Qpx (ats:=ats) (ats':=ats') (pl:=pl) (pl':=pl') h]
theorem QkV {ats ats':List Int} {pl pl':Int} {c:List In} {F:Int}:∀ {i:Nat} {ws:List Int},(∀ w∈ws,∀ x,dec w=some x→QrN x)→YY ats pl c F i ws=YY ats' pl' c F i ws
 | _,[],_=>rfl
 | i,w::l,h=>by
   unfold YY
   cases hd:dec w with
   | none=>rfl
   | some x =>
     have hn:=h w (by simp) x hd
     simp only []
     rw [Qsg (ats:=ats) (ats':=ats') (pl:=pl) (pl':=pl') hn,QkV (ats:=ats) (ats':=ats') (pl:=pl) (pl':=pl') fun w hw=>h w (List.mem_cons_of_mem _ hw)]
structure QTz (x:In):Prop where
 rd:0≤x.rd
 rs1:0≤x.rs1
 rs2:0≤x.rs2
theorem QFM (hl:∀ x∈l,QTz x):∀ w∈encs l,∃ x∈l,dec w=some x∧enc T x=(w,0):=fun w hw=>by
 unfold encs at hw
 obtain ⟨x,hx,he⟩:=List.mem_filterMap.1 hw
 split at he
 ·rename_i h0
  injection he with he
  have:=hl x hx
  have he':enc T x=(w,0):=by rw [← he,← h0]
  exact ⟨x,hx,(QDd he' this.rd this.rs1 this.rs2).2.2,he'⟩
 ·cases he
theorem QwS (h:∀ x∈l,(enc T x).2=0):encs l=l.map fun x=>(enc T x).1:=by
 induction l with
 | nil=>rfl
 | cons x l ih =>
   unfold encs at ih ⊢
   rw [List.filterMap_cons,if_pos (h x (by simp)),List.map_cons,ih fun y hy=>h y (List.mem_cons_of_mem _ hy)]
theorem Qvs (hl:∀ x∈l,QTz x) (h:∀ x∈l,(enc T x).2=0):codeOf (encs l)=l:=by
 rw [QwS h]
 unfold codeOf
 rw [List.map_map]
 conv=>rhs; rw [← List.map_id l]
 refine List.map_congr_left fun x hx=>?_
 have hk:=hl x hx
 have he:enc T x=((enc T x).1,0):=by rw [← h x hx]
 have:=(QDd he hk.rd hk.rs1 hk.rs2).2.2
 show ((first (enc T x).1 0 T).getD Qpr)=x
 rw [this]; rfl
theorem QFq (l:List In) (d:Int):QeC [l] d=⟨d,[(nameAt 0,0)],encs l⟩:=by simp [QeC,QuT]
theorem QFp (a l:List In) (d:Int):QeC [a,l] d=⟨d,[(nameAt 0,0),(nameAt 1,4 * (encs a).length)],encs a++encs l⟩:=by simp [QeC,QuT]
theorem Qu2 (l:List In):(encs l).length≤l.length:=List.length_filterMap_le _ _
theorem QBm {nm:List UInt8} {ws:List Int}:words ⟨d,[(nm,0)],ws⟩ 0=ws:=by
 unfold words from_ to_ ats
 simp only [List.map_cons,List.map_nil,List.getD_cons_zero,lC,lN]
 rw [if_neg (by omega),Int.tdiv_eq_ediv_of_nonneg (by omega),Int.tdiv_eq_ediv_of_nonneg (by omega)]
 have:((4 * (ws.length:Int)) / 4).toNat=ws.length:=by omega
 rw [this]
 simp
variable {n0 n1:List UInt8}
theorem Qw8:words ⟨d,[(n0,0),(n1,4 * a.length)],a++b⟩ 0=a:=by
 unfold words from_ to_ ats
 simp only [List.map_cons,List.map_nil,List.getD_cons_zero,lC,lN,List.getD_cons_succ]
 rw [if_pos (by omega),Int.tdiv_eq_ediv_of_nonneg (by omega),Int.tdiv_eq_ediv_of_nonneg (by omega)]
 have:((4 * (a.length:Int)) / 4).toNat=a.length:=by omega
 rw [this]
 simp
theorem Qw7:words ⟨d,[(n0,0),(n1,4 * a.length)],a++b⟩ 1=b:=by
 unfold words from_ to_ ats
 simp only [List.map_cons,List.map_nil,List.getD_cons_zero,lC,lN,List.getD_cons_succ]
 rw [if_neg (by omega),Int.tdiv_eq_ediv_of_nonneg (by omega),Int.tdiv_eq_ediv_of_nonneg (by omega)]
 have e1:((4 * (a.length:Int)) / 4).toNat=a.length:=by omega
 have e2:((4 * ((a++b).length:Int)) / 4).toNat=a.length+b.length:=by rw [lA]; omega
 rw [e1,e2]
 simp
theorem moved {a:List In} (hl:∀ x∈l,QTz x) (he:∀ x∈l,(enc T x).2=0∧QrN x) (h0:0<l.length) (h1:l.length≤60) (ha:a.length≤60) :
 match ofS (QeC [l] 0),ofS (QeC [a,l] 0) with
 | .inr _,.inr _=>True
 | .inr _,.inl _=>False
 | .inl r,.inr (n,_,e)=>r.length=1∧(n=0∨e=2)
 | .inl r,.inl q=>∃ f g h:Fn,r=[f]∧q=[g,h]∧h={ f with name:=h.name,pl:=4 * g.code.length }∧f.code=l:=by
 have hw:∀ w∈encs l,∀ x,dec w=some x→QrN x:=fun w hw x hx=>by
  obtain ⟨y,hy,h1,_⟩:=QFM hl w hw
  rw [hx] at h1; injection h1 with h1; subst h1
  exact (he x hy).2
 have hcode:=Qvs hl fun x hx=>(he x hx).1
 have hlen:(encs l).length=l.length:=by rw [QwS fun x hx=>(he x hx).1]; simp
 have hle:=Qu2 a
 have hlc:(codeOf (encs a)).length=(encs a).length:=by simp [codeOf]
 rw [QFq,QFp]
 have hr1:right ⟨0,[(nameAt 0,0)],encs l⟩=true:=by
  have e1:(decide (1≤(encs l).length))=true:=by simp; omega
  have e2:(decide ((encs l).length≤262144))=true:=by simp; omega
  have e3:(decide ((0:Int)<4 * ((encs l).length:Int)))=true:=by simp; omega
  simp only [right,QdX,Qes,e1,e2,e3,List.map_cons,List.map_nil,lC,lN]
  rfl
 unfold ofS
 rw [if_pos hr1]
 simp only [readAll,QBm]
 have hfree:=fun (ats ats':List Int) (pl pl':Int)=>QkV (ats:=ats) (ats':=ats') (pl:=pl) (pl':=pl') (c:=codeOf (encs l)) (F:=frameC (codeOf (encs l))) (i:=0) hw
 cases hr2:right ⟨0,[(nameAt 0,0),(nameAt 1,4 * (encs a).length)],encs a++encs l⟩ with
 | false =>
   simp only [Bool.false_eq_true,if_false]
   cases h:Qis (ats ⟨0,[(nameAt 0,0)],encs l⟩) (nameAt 0) 0 (encs l) with
   | inl f=>simp
   | inr e=>simp
 | true =>
   simp only [if_true,Qw8,Qw7,zA]
   cases hA:Qis (ats ⟨0,[(nameAt 0,0),(nameAt 1,4 * (encs a).length)],encs a++encs l⟩) (nameAt 0) 0 (encs a) with
   | inr e =>
     simp only
     cases h:Qis (ats ⟨0,[(nameAt 0,0)],encs l⟩) (nameAt 0) 0 (encs l) with
     | inl f=>simp
     | inr e=>simp
   | inl g =>
     have hg:=(QoS hA).1
     simp only
     unfold Qis
     rw [hfree (ats ⟨0,[(nameAt 0,0),(nameAt 1,4 * (encs a).length)],encs a++encs l⟩) (ats ⟨0,[(nameAt 0,0)],encs l⟩) (4 * (encs a).length) 0]
     cases YY (ats ⟨0,[(nameAt 0,0)],encs l⟩) 0 (codeOf (encs l)) (frameC (codeOf (encs l))) 0 (encs l) with
     | some e=>simp
     | none =>
       simp only
       refine ⟨QyG (nameAt 0) 0 (encs l),g,QyG (nameAt 1) (4 * (encs a).length) (encs l),rfl,rfl,?_,hcode⟩
       rw [hg]
       simp only [QyG,hlc]
end Go.Rg
namespace Go.Rg
open Go Go.Am Go.Rv
structure Tr (c:List In) (F at_:Int) (l:List Int):Prop where
 way:Way c F (at_::l)
 mid:∀ x∈l.dropLast,x ∉ cuts c F
 start:∀ s,(at_::l).getLast?=some s→s=0∨s∈cuts c F
variable {F a:Int} {c:List In}
theorem Tr.first:Tr c F 0 []:=⟨trivial,fun x hx=>by simp at hx,fun s hs=>by simp at hs; exact .inl hs.symm⟩
theorem Tr.again (h:a∈cuts c F):Tr c F a []:=⟨trivial,fun x hx=>by simp at hx,fun s hs=>by simp at hs; subst hs; exact .inr h⟩
variable {l:List Int}
theorem Tr.fresh (h0:∀ i,(0:Int) ∉ next c F i) (h:Tr c F a l) (ha:a ∉ cuts c F):a ∉ l:=by
 rcases List.eq_nil_or_concat l with rfl | ⟨m,s,rfl⟩
 ·simp
 ·rw [List.concat_eq_append] at *
  have hw:=QEo h0 (a::m) s h.way (fun x hx=>?_) (h.start s (by rw [← cA]; exact List.getLast?_concat))
  ·rw [cA,List.nodup_cons] at hw; exact hw.1
  ·rcases List.mem_cons.1 hx with rfl | hx
   ·exact ha
   ·exact h.mid x (by simpa using hx)
set_option maxRecDepth 100000
theorem count_one {k:Int}:∀ {l:List Int},l.Nodup→k∈l→l.count k=1
 | [],_,h=>absurd h (by simp)
 | a::l,hn,h=>by
   obtain ⟨h1,h2⟩:=List.nodup_cons.1 hn
   rw [List.count_cons]
   by_cases e:a=k
   ·subst e
    rw [List.count_eq_zero.2 h1]; simp
   ·have hk:k∈l:=by simpa [Ne.symm e] using h
    rw [count_one h2 hk]; simp [e]
theorem Qul (c:List In) (F:Int) (n:Nat) (k:Int):Qat c F (n+1) k=Qat c F n k+(next c F n).count k:=by
 unfold Qat
 rw [List.range_succ,List.countP_append]
 congr 1
 rw [List.countP_cons,List.countP_nil,zA]
 have hn:=QoU c F n
 by_cases h:k∈next c F n
 ·simp only [h,decide_true,if_true]
  exact (count_one hn h).symm
 ·simp only [h,decide_false,Bool.false_eq_true,if_false]
  exact (List.count_eq_zero.2 h).symm
theorem QBn (c:List In) (F:Int) (n:Nat) (k:Int):Qat c F n k≤n:=by
 unfold Qat
 have:=List.countP_le_length (p:=fun i:Nat=>decide (k∈next c F (i:Int))) (l:=List.range n)
 simpa using this
theorem Qjm {n:Nat} {k:Int} (h:0<Qat c F n k):0≤k∧k<c.length:=by
 unfold Qat at h
 obtain ⟨i,_,hi⟩:=List.countP_pos_iff.1 h
 exact QCd (by simpa using hi)
theorem QP3:∀ (l m:List Int),l.Pairwise (·<·)→m.Pairwise (·<·)→(∀ x,x∈l↔x∈m)→l=m
 | [],[],_,_,_=>rfl
 | [],b::m,_,_,h=>absurd ((h b).2 (by simp)) (by simp)
 | a::l,[],_,_,h=>absurd ((h a).1 (by simp)) (by simp)
 | a::l,b::m,hl,hm,h=>by
   obtain ⟨ha,hl'⟩:=List.pairwise_cons.1 hl
   obtain ⟨hb,hm'⟩:=List.pairwise_cons.1 hm
   have hab:a=b:=by
    have h1:=(h a).1 (by simp)
    have h2:=(h b).2 (by simp)
    simp only [List.mem_cons] at h1 h2
    rcases h1 with h1 | h1
    ·exact h1
    ·rcases h2 with h2 | h2
     ·exact h2.symm
     ·have:=hb a h1; have:=ha b h2; omega
   subst hab
   rw [QP3 l m hl' hm' fun x=>?_]
   constructor
   ·intro hx
    have:=(h x).1 (by simp [hx])
    simp only [List.mem_cons] at this
    rcases this with rfl | h1
    ·have:=ha x hx; omega
    ·exact h1
   ·intro hx
    have:=(h x).2 (by simp [hx])
    simp only [List.mem_cons] at this
    rcases this with rfl | h1
    ·have:=hb x hx; omega
    ·exact h1
theorem QSS (c:List In) (F:Int):(cuts c F).Pairwise (·<·):=by
 unfold cuts
 rw [List.pairwise_map]
 exact (List.pairwise_lt_range.filter _).imp fun h=>by omega
theorem QRz (h:l.Nodup):(l.mergeSort fun x y=>decide (x≤y)).Pairwise (·<·):=by
 have h1:=List.pairwise_mergeSort (le:=fun x y:Int=>decide (x≤y)) (fun a b c h1 h2=>by simp at *; omega) (fun a b=>by simp; omega) l
 have h2:(l.mergeSort fun x y=>decide (x≤y)).Nodup:=(List.mergeSort_perm _ _).nodup_iff.2 h
 exact (h1.and h2).imp fun ⟨h1,h2⟩=>by
  simp at h1
  omega
theorem QSR {S:List Int} {seen:List Nat} (hS:S.Nodup) (hm:∀ k,k∈S↔0<Qat c F c.length k) (hn:seen.Nodup) (hlt:∀ i∈seen,i<S.length) (hall:∀ i,i<S.length→i∈seen) :
 (((seen.map fun i=>S.getD i 0).filter fun k=>decide (1<Qat c F c.length k)).mergeSort fun x y=>decide (x≤y))=cuts c F:=by
 have hmap:(seen.map fun i=>S.getD i 0).Nodup:=by
  unfold List.Nodup
  rw [List.pairwise_map]
  refine hn.imp_of_mem fun {i j} hi hj hne=>?_
  intro e
  have h1:=hlt i hi
  have h2:=hlt j hj
  rw [List.getD_eq_getElem?_getD,List.getD_eq_getElem?_getD,List.getElem?_eq_getElem h1,List.getElem?_eq_getElem h2] at e
  exact hne ((List.getElem_inj hS).1 e)
 refine QP3 _ _ (QRz (hmap.filter _)) (QSS c F) fun x=>?_
 rw [List.mem_mergeSort,List.mem_filter,Qwt,List.mem_map]
 constructor
 ·rintro ⟨_,h2⟩
  have h2:1<Qat c F c.length x:=by simpa using h2
  exact ⟨(Qjm (by omega:0<Qat c F c.length x)).1,(Qjm (by omega:0<Qat c F c.length x)).2,h2⟩
 ·rintro ⟨_,_,h2⟩
  obtain ⟨i,hi,e⟩:=List.mem_iff_getElem.1 ((hm x).2 (by omega))
  refine ⟨⟨i,hall i hi,?_⟩,by simpa using h2⟩
  rw [List.getD_eq_getElem?_getD,List.getElem?_eq_getElem hi,e]; rfl
end Go.Rg
namespace Go.Proofs.YtbdhjeojcpgblaaGreatDoor
open Go Go.Am Go.Rv Go.Rg
set_option maxRecDepth 100000
variable {G:Nat→Option V}
section
attribute [local go_sem] nF nT lR Nat.mul_one zA zL decide_false decide_true gt_iff_lt Qu Yu QOu QOt Quj QAR QAQ Qui Quh Qug Quf QAP QAO QOs QAN QAM QAL Qv3 Qv2 Qv1 Qv0
def cf (cnt:Int→Nat):Int→V:=fun k=>.int .i64 ((cnt k:Nat):Int)
theorem QSf (cnt:Int→Nat) (a:Int):Qxy (cf cnt) a (.int .i64 ((cnt a+1:Nat):Int))=cf fun k=>if k=a then cnt a+1 else cnt k:=by
 funext k
 unfold Qxy cf
 split <;> simp_all
def MapAt (S:List Int) (cnt:Int→Nat):Prop:=S.Nodup∧∀ k,k∈S↔0<cnt k
variable {cnt:Int→Nat} {S K:List Int}
theorem MapAt.add (h:MapAt S cnt) (a:Int):MapAt (QwC S a) fun k=>if k=a then cnt a+1 else cnt k:=by
 refine ⟨Qxz h.1,fun k=>?_⟩
 rw [Qws]
 show _↔0<(if k=a then cnt a+1 else cnt k)
 split
 ·rename_i e; subst e; exact ⟨fun _=>by omega,fun _=>.inr rfl⟩
 ·rename_i e
  exact ⟨fun hk=>hk.elim (fun hk=>(h.2 k).1 hk) fun hk=>absurd hk e,fun hk=>.inl ((h.2 k).2 hk)⟩
abbrev wyJ (nm:List UInt8) (pl:Int) (c:List In) (F:Int) (K:List Int) (tm i:Nat) (L:List Int) (cnt0:Int→Nat):Nat→Fr→H→Prop:=fun j fr σ=>∃ t S cnt,MapAt S cnt∧(∀ k,cnt k=cnt0 k+(L.take j).count k)∧Ql fr 1=.ref (.agg (fnC nm pl c F K)) 0∧Ql fr 2=.lst 0 [] true∧Ql fr 3=.mp 1 tm∧Ql fr 13=.int .i64 c.length∧Ql fr 14=.int .i64 ((i:Nat):Int)∧Ql fr 19=.lst 1 (ints L) false∧Ql fr 20=.int .i64 L.length∧Ql fr 21=.int .i64 ((j:Nat):Int)∧σ=⟨t,[none,some (.map tm (km kI (cf cnt) S))]⟩
abbrev wyE (nm:List UInt8) (pl:Int) (c:List In) (F:Int) (K:List Int) (tm i:Nat) (L:List Int) (cnt0:Int→Nat):AE→Fr→H→Prop:=fun e fr σ=>∃ t S cnt,e=.ex 2∧MapAt S cnt∧(∀ k,cnt k=cnt0 k+L.count k)∧Ql fr 1=.ref (.agg (fnC nm pl c F K)) 0∧Ql fr 2=.lst 0 [] true∧Ql fr 3=.mp 1 tm∧Ql fr 13=.int .i64 c.length∧Ql fr 14=.int .i64 ((i:Nat):Int)∧σ=⟨t,[none,some (.map tm (km kI (cf cnt) S))]⟩
variable {σ:H} {fr:Fr} {tm i:Nat} {c:List In} {pl F:Int} {nm:List UInt8}
theorem QEl {P:Program} {L:List Int} {cnt0:Int→Nat} (hL:L.length≤1000000) (h0:∀ k,cnt0 k≤1000000) (hn:∀ k,L.count k≤1) {j:Nat} {x:Int} (hx:L[j]?=some x) (hJ:wyJ nm pl c F K tm i L cnt0 j fr σ) :
 W P G 47 0 (zg Qv3 [] (.seq (zw 22 .skip (.exit 2)) (.seq (.block 3 (zg Qv2 [23,24] (.reg Qv1 [25,26,27,28]))) (.reg Qv0 [29])))) fr σ (QgX (fun fr σ=>∃ fr' σ',Shift G 47 0 fr σ fr' σ'∧wyJ nm pl c F K tm i L cnt0 (j+1) fr' σ') (wyE nm pl c F K tm i L cnt0)):=by
 obtain ⟨t,S,cnt,hM,hc,f1,f2,f3,f13,f14,f19,f20,f21,rfl⟩:=hJ
 have hlt:=(List.getElem?_eq_some_iff.1 hx).1
 have hD:=QCI hx
 have e2:=Qe9 hlt (by omega)
 have hcx:=hc x
 have hle:(L.take j).count x≤L.count x:=(List.take_sublist j L).count_le x
 have hcb:cnt x≤1000001:=by have:=h0 x; have:=hn x; omega
 have w1:IntKind.i64.wrap (((cnt x:Nat):Int)+1)=((cnt x+1:Nat):Int):=by rw [Yz (by omega)]; rfl
 have hg:(Qn6 [Kd.i] (.int .i64 x) (km kI (cf cnt) S)).getD (.int .i64 0)=.int .i64 ((cnt x:Nat):Int):=by
  have:=QjL (ks:=[Kd.i]) (key:=kI) QFj (cf cnt) x S
  rw [show kI x=V.int .i64 x from rfl] at this
  rw [this]
  split
  ·rfl
  ·rename_i hx
   have:cnt x=0:=by
    rcases Nat.eq_zero_or_pos (cnt x) with h | h
    ·exact h
    ·exact absurd ((hM.2 x).2 h) hx
   simp [this]
 have hp:Qr0 [Kd.i] (.int .i64 x) (.int .i64 ((cnt x+1:Nat):Int)) (km kI (cf cnt) S)=km kI (cf fun k=>if k=x then cnt x+1 else cnt k) (QwC S x):=by
  have:=Qm8 (ks:=[Kd.i]) (key:=kI) QFj (cf cnt) x (.int .i64 ((cnt x+1:Nat):Int)) S hM.1
  rw [QSf] at this
  exact this
 have hk:∀ f S,Qan false [Kd.i] (V.int .i64 x) (km kI f S)=True:=fun f S=>eq_true (Qp4 x f S)
 have hnl:Qd (V.int .i64 x)=true:=rfl
 refine Qt [(1,.ref (.agg (fnC nm pl c F K)) 0),(2,.lst 0 [] true),(3,.mp 1 tm),(13,.int .i64 c.length),(14,.int .i64 ((i:Nat):Int)),(19,.lst 1 (ints L) false),(20,.int .i64 L.length),(21,.int .i64 ((j:Nat):Int))] ⟨f1,f2,f3,f13,f14,f19,f20,f21,trivial⟩  1000 ?_
 simp -implicitDefEqProofs (disch:=omega) only [go_sem,↓reduceIte,rq,fnC,Y9,Xv,inC,V.cells,XA,true_implies,and_true,hlt,hD,hg,hp,hk,w1,hnl]
 refine ⟨_,_,Shift.refl _ _ _ _,t,QwC S x,_,hM.add x,fun k=>?_,?_⟩
 ·rw [List.take_add_one,hx,List.count_append]
  have:=hc k
  by_cases e:k=x
  ·subst e; simp; omega
  ·simp [e,Ne.symm e]; omega
 ·simp -implicitDefEqProofs (disch:=omega) only [go_sem,↓reduceIte,rq,fnC,Y9,Xv,inC,and_true,e2]
abbrev cuJ (nm:List UInt8) (pl:Int) (c:List In) (F:Int) (K:List Int) (tm:Nat):Nat→Fr→H→Prop:=fun i fr σ=>∃ t S cnt,MapAt S cnt∧(∀ k,cnt k=Qat c F i k)∧Ql fr 1=.ref (.agg (fnC nm pl c F K)) 0∧Ql fr 2=.lst 0 [] true∧Ql fr 3=.mp 1 tm∧Ql fr 13=.int .i64 c.length∧Ql fr 14=.int .i64 ((i:Nat):Int)∧σ=⟨t,[none,some (.map tm (km kI (cf cnt) S))]⟩
abbrev cuE (nm:List UInt8) (pl:Int) (c:List In) (F:Int) (K:List Int) (tm:Nat):AE→Fr→H→Prop:=fun e fr σ=>∃ t S cnt,e=.ex 0∧MapAt S cnt∧(∀ k,cnt k=Qat c F c.length k)∧Ql fr 1=.ref (.agg (fnC nm pl c F K)) 0∧Ql fr 2=.lst 0 [] true∧Ql fr 3=.mp 1 tm∧σ=⟨t,[none,some (.map tm (km kI (cf cnt) S))]⟩
theorem QE1 (c:List In) (F i:Int):(next c F i).length≤2:=by
 unfold next
 split
 ·simp
 ·split
  ·simp
  ·refine Nat.le_trans (List.length_filter_le _ _) ?_
   unfold Rg.ways
   split
   ·unfold Rg.two; split
    ·simp
    ·split <;> simp
   ·split <;> simp
theorem QFN (hT:Qf Tryz.prog tab) (hl:c.length≤1000000) (hc:∀ x∈c,QqN x) {x:In} (hx:c[i]?=some x) (hJ:cuJ nm pl c F K tm i fr σ) :
 W Tryz.prog G 47 0 (zg QAN [] (.seq (zw 15 .skip (.exit 0)) (.seq (.block 1 (zg QAM [16] (zg QAL [17,18] (.block 2 (.loop (zg Qv3 [] (.seq (zw 22 .skip (.exit 2)) (.seq (.block 3 (zg Qv2 [23,24] (.reg Qv1 [25,26,27,28]))) (.reg Qv0 [29]))))))))) (.reg Quj [30])))) fr σ (QgX (fun fr σ=>∃ fr' σ',Shift G 47 0 fr σ fr' σ'∧cuJ nm pl c F K tm (i+1) fr' σ') (cuE nm pl c F K tm)):=by
 obtain ⟨t,S,cnt,hM,hcn,f1,f2,f3,f13,f14,rfl⟩:=hJ
 have hlt:=(List.getElem?_eq_some_iff.1 hx).1
 have e2:=Qe9 hlt (by omega)
 have hN:=c_Next (G:=G) hT nm pl F c K (i:Int) hl hc (by omega)
 have hn2:Qb [.agg (fnC nm pl c F K),.int .i64 (i:Int)]=true:=by
  have hnl:=Qld (nm:=nm) (pl:=pl) (F:=F) (c:=c) (K:=K)
  simp [Qb,Qd,hnl]
 have hll:=QE1 c F i
 have hnd:=QoU c F i
 have hsuc:=fun k=>Qul c F i k
 generalize hL:next c F i=L at *
 simp only [fnC,Y9,Xv,inC] at hN hn2
 refine Qt [(1,.ref (.agg (fnC nm pl c F K)) 0),(2,.lst 0 [] true),(3,.mp 1 tm),(13,.int .i64 c.length),(14,.int .i64 ((i:Nat):Int))] ⟨f1,f2,f3,f13,f14,trivial⟩  14 ?_
 simp -implicitDefEqProofs (disch:=omega) only [go_sem,↓reduceIte,rq,fnC,Y9,Xv,inC,hlt]
 iterate 4 (try (refine Qa 4 ?_; simp -implicitDefEqProofs (disch:=omega) only [go_sem,↓reduceIte,reduceCtorEq,rA,rq,V.cells,false_implies,and_true]))
 refine Qj hT Qcx hN hn2 12 ?_
 simp -implicitDefEqProofs (disch:=omega) only [go_sem,↓reduceIte,rq,XA]
 refine ZJ L (wyJ nm pl c F K tm i L cnt) (wyE nm pl c F K tm i L cnt) ⟨t,S,cnt,hM,by simp,?_⟩ (fun j x hx fr σ hJ=>QEl (by omega) (fun k=>by rw [hcn]; have:=QBn c F i k; omega) (fun k=>?_) hx hJ) (fun j hj fr σ hJ=>?_) (fun e fr σ hE=>?_)
 ·simp -implicitDefEqProofs (disch:=omega) only [go_sem,↓reduceIte,rq,fnC,Y9,Xv,inC,true_and,and_true]
  try simp
 ·by_cases hk:k∈L
  ·rw [count_one hnd hk]; exact lR _
  ·rw [List.count_eq_zero.2 hk]; omega
 ·obtain ⟨t2,S2,cnt2,hM2,hc2,f1,f2,f3,f13,f14,f19,f20,f21,rfl⟩:=hJ
  rw [hj,List.take_length] at hc2
  refine Qt [(1,.ref (.agg (fnC nm pl c F K)) 0),(2,.lst 0 [] true),(3,.mp 1 tm),(13,.int .i64 c.length),(14,.int .i64 ((i:Nat):Int)),(19,.lst 1 (ints L) false),(20,.int .i64 L.length),(21,.int .i64 ((j:Nat):Int))] ⟨f1,f2,f3,f13,f14,f19,f20,f21,trivial⟩  12 ?_
  simp -implicitDefEqProofs (disch:=omega) only [go_sem,↓reduceIte,rq,fnC,Y9,Xv,inC,hj,Nat.lt_irrefl]
  exact ⟨t2,S2,cnt2,rfl,hM2,hc2,rfl,rfl,rfl,rfl,rfl,rfl⟩
 ·obtain ⟨t2,S2,cnt2,rfl,hM2,hc2,f1,f2,f3,f13,f14,rfl⟩:=hE
  refine QrB [(1,.ref (.agg (fnC nm pl c F K)) 0),(2,.lst 0 [] true),(3,.mp 1 tm),(13,.int .i64 c.length),(14,.int .i64 ((i:Nat):Int))] ⟨f1,f2,f3,f13,f14,trivial⟩ 12 ?_
  simp -implicitDefEqProofs (disch:=omega) only [go_sem,↓reduceIte,rq,fnC,Y9,Xv,inC,e2]
  refine ⟨_,_,Shift.refl _ _ _ _,t2,S2,cnt2,hM2,fun k=>by rw [hc2,hcn,hsuc],?_⟩
  simp -implicitDefEqProofs (disch:=omega) only [go_sem,↓reduceIte,rq,fnC,Y9,Xv,inC,and_true]
def got (S:List Int) (cnt:Int→Nat) (seen:List Nat):List Int:=(seen.map fun i=>S.getD i 0).filter fun k=>decide (1<cnt k)
theorem QFs (S:List Int) (cnt:Int→Nat) (seen:List Nat) (i:Nat):got S cnt (seen++[i])=got S cnt seen++(if 1<cnt (S.getD i 0) then [S.getD i 0] else []):=by
 unfold got
 rw [List.map_append,List.filter_append]
 congr 1
 simp only [List.map_cons,List.map_nil,List.filter_cons,List.filter_nil,decide_eq_true_eq]
theorem QpG {seen:List Nat} {n:Nat} (hn:seen.Nodup) (h:∀ i∈seen,i<n):seen.length≤n:=by
 have:=List.Nodup.length_le_of_subset hn (l₂:=List.range n) fun i hi=>List.mem_range.2 (h i hi)
 simpa using this
abbrev rgJ (nm:List UInt8) (pl:Int) (c:List In) (F:Int) (K:List Int) (tm ti:Nat) (S:List Int) (cnt:Int→Nat):Nat→Fr→H→Prop:=fun m fr σ=>∃ t w seen out,seen.Nodup∧(∀ i∈seen,i<S.length)∧m=S.length - seen.length∧out=got S cnt seen∧Ql fr 1=.ref (.agg (fnC nm pl c F K)) 0∧Ql fr 7=.sl 2 w 0 1 out.length none∧Ql fr 32=.ptr 3 ti 0∧σ=⟨t,[none,some (.map tm (km kI (cf cnt) S)),some (.arr w 3 (ints out)),some (.it ti 1 tm S.length seen)]⟩
abbrev rgE (S:List Int) (cnt:Int→Nat):AE→Fr→H→Prop:=fun e fr σ=>∃ t w seen out X Y,e=.ex 4∧seen.Nodup∧(∀ i∈seen,i<S.length)∧(∀ i,i<S.length→i∈seen)∧out=got S cnt seen∧Ql fr 7=.sl 2 w 0 1 out.length none∧σ=⟨t,[none,X,some (.arr w 3 (ints out)),Y]⟩
theorem QEL {P:Program} {ti:Nat} (hS:S.length≤1000000) {m:Nat} (hJ:rgJ nm pl c F K tm ti S cnt m fr σ) :
 W P G 47 0 (zg Qui [33] (.seq (zw 34 .skip (.exit 4)) (.block 5 (zg Quh [35,36,37] (zg Qug [38] (zw 39 (.reg Quf [40,41,42,43]) .skip)))))) fr σ (QgX (fun fr σ=>∃ m' fr' σ',m'<m∧Shift G 47 0 fr σ fr' σ'∧rgJ nm pl c F K tm ti S cnt m' fr' σ') (rgE S cnt)):=by
 obtain ⟨t,w,seen,out,hn,hlt,rfl,ho,f1,f7,f32,rfl⟩:=hJ
 have hsl:=QpG hn hlt
 refine Qt [(1,.ref (.agg (fnC nm pl c F K)) 0),(7,.sl 2 w 0 1 out.length none),(32,.ptr 3 ti 0)] ⟨f1,f7,f32,trivial⟩  12 ?_
 simp -implicitDefEqProofs (disch:=omega) only [go_sem,↓reduceIte,fnC,Y9,Xv,inC]
 simp only [evW]
 simp -implicitDefEqProofs (disch:=omega) only [go_sem,↓reduceIte,rA,rq,rT,and_true,Qnf]
 refine ⟨fun hall=>⟨t,w,seen,out,_,_,rfl,hn,hlt,hall,ho,rfl,rfl⟩,fun i hi hni=>?_⟩
 have hgl:(seen++[i]).getLast?=some i:=by simp
 have hgd:(km kI (cf cnt) S).getD i (V.any,V.any)=(.int .i64 (S.getD i 0),.int .i64 ((cnt (S.getD i 0):Nat):Int)):=by
  simp [km,List.getD_eq_getElem?_getD,List.getElem?_eq_getElem hi,kI,cf]
 have hgs:=QFs S cnt seen i
 rw [← ho] at hgs
 have hol:out.length≤S.length:=by rw [ho]; unfold got; have:=List.length_filter_le (fun k=>decide (1<cnt k)) (seen.map fun i=>S.getD i 0); rw [lM] at this; omega
 have hsn:seen.length<S.length:=by
  have h2:(seen++[i]).Nodup:=by rw [List.nodup_append]; exact ⟨hn,by simp,fun a ha b hb=>by simp at hb; subst hb; exact fun e=>hni (e▸ha)⟩
  have:=QpG h2 (n:=S.length) fun j hj=>by
   simp only [List.mem_append,List.mem_singleton] at hj
   rcases hj with hj | rfl
   ·exact hlt j hj
   ·exact hi
  simp at this; omega
 have hn2:(seen++[i]).Nodup:=by rw [List.nodup_append]; exact ⟨hn,by simp,fun a ha b hb=>by simp at hb; subst hb; exact fun e=>hni (e▸ha)⟩
 have hlt2:∀ j∈seen++[i],j<S.length:=fun j hj=>by
  simp only [List.mem_append,List.mem_singleton] at hj
  rcases hj with hj | rfl
  ·exact hlt j hj
  ·exact hi
 generalize S.getD i 0=x at *
 have hap:∀ (l:List Int) (y:Int),ints l++[V.int .i64 y]=ints (l++[y]):=fun l y=>by simp [ints]
 simp only [evW]
 simp -implicitDefEqProofs (disch:=omega) only [go_sem,↓reduceIte,rq,and_true,Qnf,hgl,hgd,hi]
 by_cases h1:1<cnt x
 ·rw [if_pos h1] at hgs
  have h1':decide ((1:Int)<((cnt x:Nat):Int))=true:=decide_eq_true (by omega)
  have h1'':((1:Int)<((cnt x:Nat):Int))=True:=eq_true (by omega)
  have hln:out.length+1=(out++[x]).length:=by simp
  iterate 6 (try (refine Qa 4 ?_; simp -implicitDefEqProofs (disch:=omega) only [go_sem,↓reduceIte,reduceCtorEq,rA,rq,rL,rT,V.cells,XA,true_and,and_true,cA,nA,h1'',hap]))
  refine ⟨S.length - (seen.length+1),_,_,by omega,Shift.refl _ _ _ _,t+1,t,seen++[i],out++[x],hn2,hlt2,by simp,hgs.symm,?_⟩
  simp -implicitDefEqProofs (disch:=omega) only [go_sem,↓reduceIte,rq,fnC,Y9,Xv,inC,and_true,hln]
  try simp
 ·rw [if_neg h1,List.append_nil] at hgs
  have h1':decide ((1:Int)<((cnt x:Nat):Int))=false:=decide_eq_false (by omega)
  have h1'':((1:Int)<((cnt x:Nat):Int))=False:=eq_false (by omega)
  iterate 6 (try (refine Qa 4 ?_; simp -implicitDefEqProofs (disch:=omega) only [go_sem,↓reduceIte,rA,rq,rT,h1'']))
  refine ⟨S.length - (seen.length+1),_,_,by omega,Shift.refl _ _ _ _,t,w,seen++[i],out,hn2,hlt2,by simp,hgs.symm,?_⟩
  simp -implicitDefEqProofs (disch:=omega) only [go_sem,↓reduceIte,rq,fnC,Y9,Xv,inC,and_true]
  try simp
theorem c_cuts (hT:Qf Tryz.prog tab) (nm:List UInt8) (pl F:Int) (c:List In) (K:List Int) (hl:c.length≤262144) (hc:∀ x∈c,QqN x):Am.Pure Tryz.prog G QcJ [.agg (fnC nm pl c F K)] fun v=>v=Xv (Rg.cuts c F):=by
 have hnl:=Qld (nm:=nm) (pl:=pl) (F:=F) (c:=c) (K:=K)
 refine Qmm (fun t=>?_) (by simp [Xv,Qd])
 refine Qk hT Qcw (by simp [Yu]) (Qg 5 ?_)
 simp -implicitDefEqProofs (disch:=omega) only [go_sem,↓reduceIte,reduceCtorEq,rq,fnC,Y9,Xv,inC,V.cells,and_true,nA]
 refine Xr (Shift.freeze (k:=0) (v:=t) (T:=46) (cs:=fnC nm pl c F K) (zL _) rfl hnl) ?_
 simp only [fnC,Y9,Xv,inC,Qr,Qv,Qp9,XR,QN,List.set_cons_zero,Option.map_none]
 refine Qa 40 ?_
 simp -implicitDefEqProofs (disch:=omega) only [go_sem,↓reduceIte,reduceCtorEq,rA,rq,rL,V.cells,lM,true_implies,and_true,cA,nA,H.push]
 generalize t+1=tm at *
 refine ZJ c (cuJ nm pl c F K tm) (cuE nm pl c F K tm) ⟨tm+1,[],fun _=>0,⟨by simp,by simp⟩,by simp [Qat],?_⟩ (fun i x hx fr σ hJ=>QFN hT (by omega) hc hx hJ) (fun i hi fr σ hJ=>?_) (fun e fr σ hE=>?_)
 ·simp -implicitDefEqProofs (disch:=omega) only [go_sem,↓reduceIte,reduceCtorEq,rq,fnC,Y9,Xv,inC,true_and]
  try simp [km]
 ·obtain ⟨t2,S,cnt,hM,hcn,f1,f2,f3,f13,f14,rfl⟩:=hJ
  refine Qt [(1,.ref (.agg (fnC nm pl c F K)) 0),(2,.lst 0 [] true),(3,.mp 1 tm),(13,.int .i64 c.length),(14,.int .i64 ((i:Nat):Int))] ⟨f1,f2,f3,f13,f14,trivial⟩  12 ?_
  simp -implicitDefEqProofs (disch:=omega) only [go_sem,↓reduceIte,rq,fnC,Y9,Xv,inC,hi,Nat.lt_irrefl]
  exact ⟨t2,S,cnt,rfl,hM,by rw [← hi]; exact hcn,rfl,rfl,rfl,rfl⟩
 ·obtain ⟨t2,S,cnt,rfl,hM,hcn,f1,f2,f3,rfl⟩:=hE
  have hSl:S.length≤c.length:=by
   have h:=List.Nodup.length_le_of_subset hM.1 (l₂:=(List.range c.length).map fun k:Nat=>(k:Int)) fun k hk=>by
    have h1:=(hM.2 k).1 hk
    rw [hcn] at h1
    have:=Qjm h1
    exact List.mem_map.2 ⟨k.toNat,List.mem_range.2 (by omega),by omega⟩
   simpa using h
  refine Qcd [(1,.ref (.agg (fnC nm pl c F K)) 0),(2,.lst 0 [] true),(3,.mp 1 tm)] ⟨f1,f2,f3,trivial⟩ 4 ?_
  simp -implicitDefEqProofs (disch:=omega) only [go_sem,↓reduceIte,rq,fnC,Y9,Xv,inC]
  refine Xr (Shift.own (s:=7) (z:=0) (sz:=1) (T:=3) (yb) (by decide)) ?_
  refine yn ?_
  refine Qa 12 ?_
  refine ya ?_
  simp only [evW]
  simp -implicitDefEqProofs (disch:=omega) only [go_sem,↓reduceIte,rA,rq,cA,nA,Qnf,H.push]
  refine Qdm (rgJ nm pl c F K tm (t2+1) S cnt) (rgE S cnt) (m0:=S.length) ⟨t2+1+1,t2,[],[],by simp,by simp,by simp,by simp [got],?_⟩ (fun m fr σ hJ=>QEL (by omega) hJ) (fun e fr σ hE=>?_)
  ·simp -implicitDefEqProofs (disch:=omega) only [go_sem,↓reduceIte,rq,fnC,Y9,Xv,inC,true_and]
   try simp [ints]
  ·obtain ⟨t3,w,seen,out,X,Y,rfl,hsn,hslt,hall,hout,f7,rfl⟩:=hE
   have hol:out.length≤S.length:=by
    rw [hout]; unfold got
    have h1:=List.length_filter_le (fun k=>decide (1<cnt k)) (seen.map fun i=>S.getD i 0)
    rw [lM] at h1
    have h2:=QpG hsn hslt
    omega
   have hfin:(out.mergeSort fun x y=>decide (x≤y))=Rg.cuts c F:=by
    have:=QSR (c:=c) (F:=F) hM.1 (fun k=>by rw [hM.2,hcn]) hsn hslt hall
    rw [hout]; unfold got
    rw [show (fun k=>decide (1<cnt k))=fun k=>decide (1<Qat c F c.length k) from funext fun k=>by rw [hcn]]
    exact this
   have hS:=QwX (P:=Tryz.prog) (G:=G) (sortI rfl) (base:=0) (k:=2) (v:=w) (T:=3) (t:=t3) (o:=[none,X,some (.arr w 3 (ints out)),Y]) (zs:=out) (n:=out.length) (lim:=none) (zL _) rfl rfl (by omega)
   rw [hfin] at hS
   have hcl:(Rg.cuts c F).length=out.length:=by rw [← hfin]; simp
   refine Qcd [(7,.sl 2 w 0 1 out.length none)] ⟨f7,trivial⟩ 12 ?_
   refine ya ?_
   refine call hT Qbm hS 12 fun v σ hv=>?_
   obtain ⟨rfl,rfl⟩:=hv
   refine ya ?_
   have hfz:XR 2 w (ints (Rg.cuts c F)) (.sl 2 w 0 1 out.length none)=Xv (Rg.cuts c F):=by
    rw [← hcl]
    have hle:(Rg.cuts c F).length≤(ints (Rg.cuts c F)).length:=by rw [XA]; exact lR _
    simp [XR,Qd1,Xv,List.take_of_length_le,XA]
   refine ⟨2,w,3,ints (Rg.cuts c F),rfl,Qir _,?_,?_⟩
   ·rw [hfz]; simp [Xv,Qd]
   ·rw [hfz]; exact .refl _
end
end Go.Proofs.YtbdhjeojcpgblaaGreatDoor
namespace Go.Proofs.YtbdhjeojcpgblaaGreatDoor
open Go Go.Am Go.Rv Go.Rg
set_option maxRecDepth 100000
variable {P:Program} {G:Nat→Option V}
section
attribute [local go_sem] aZ lR Nat.succ_ne_zero zA zL decide_false decide_true ge_iff_le gt_iff_lt Qu QaD QOD QOC QOB QOA QOz Q0 QKN QKM Xi QIs QIr QIq QIp QIo QIn QIm QIl
theorem ibne (a b:Int):(a != b) = !decide (a=b):=by rw [Bool.eq_iff_iff]; simp
theorem QS6 (hT:Qf P tab) (x:In) (hb:-9223372036854775808<x.imm∧x.imm≤9223372036854775807):Am.Pure P G Qgb [.agg (inC x)] fun v=>v=.int .i64 (QjS x):=by
 intro t
 have w1:IntKind.i64.wrap (0 - x.imm)=-x.imm:=by rw [Yz (by omega)]; omega
 have w2:IntKind.i64.wrap (-x.imm)=-x.imm:=Yz (by omega)
 refine Qi 0 (zL _) (Qk hT QfI (by simp [QaD]) (Qg 12 ?_))
 unfold QjS
 by_cases g1:x.op=22
 ·have g1':(x.op != 22)=false:=by simp [g1]
  by_cases g2:x.rd=2
  ·have g2':(x.rd != 2)=false:=by simp [g2]
   by_cases g3:x.rs1=2
   ·have g3':(x.rs1 != 2)=false:=by simp [g3]
    by_cases g4:-x.imm<8
    ·have g4':decide (-x.imm<8)=true:=decide_eq_true g4
     rw [if_neg (by omega)]
     simp -implicitDefEqProofs (disch:=omega) only [go_sem,↓reduceIte,reduceCtorEq,rA,rq,inC,V.cells,true_implies,and_true,nA,w1]
     iterate 12 (try (refine Qa 4 ?_; simp -implicitDefEqProofs (disch:=omega) only [go_sem,↓reduceIte,reduceCtorEq,rA,rq,rL,true_implies,and_true,g1',g2',g3',g4]))
    ·have g4':decide (-x.imm<8)=false:=decide_eq_false g4
     by_cases g5:1984 < -x.imm
     ·have g5':decide (1984 < -x.imm)=true:=decide_eq_true g5
      rw [if_neg (by omega)]
      simp -implicitDefEqProofs (disch:=omega) only [go_sem,↓reduceIte,reduceCtorEq,rA,rq,inC,V.cells,true_implies,and_true,nA,w1]
      iterate 12 (try (refine Qa 4 ?_; simp -implicitDefEqProofs (disch:=omega) only [go_sem,↓reduceIte,reduceCtorEq,rA,rq,rL,true_implies,and_true,g1',g2',g3',g4,g5]))
     ·have g5':decide (1984 < -x.imm)=false:=decide_eq_false g5
      by_cases g6:(-x.imm).tmod 8=0
      ·have g6':((-x.imm).tmod 8 != 0)=false:=by rw [ibne,decide_eq_true g6]; rfl
       rw [if_pos ⟨g1,g2,g3,by omega,by omega,g6⟩]
       simp -implicitDefEqProofs (disch:=omega) only [go_sem,↓reduceIte,reduceCtorEq,rA,rq,inC,V.cells,true_implies,and_true,nA,w1]
       iterate 12 (try (refine Qa 4 ?_; simp -implicitDefEqProofs (disch:=omega) only [go_sem,↓reduceIte,reduceCtorEq,rA,rq,rL,Int.reduceEq,true_implies,and_true,not_false_eq_true,g1',g2',g3',g4,g5,g6']))
      ·have g6':((-x.imm).tmod 8 != 0)=true:=by rw [ibne,decide_eq_false g6]; rfl
       rw [if_neg (fun h=>g6 h.2.2.2.2.2)]
       simp -implicitDefEqProofs (disch:=omega) only [go_sem,↓reduceIte,reduceCtorEq,rA,rq,inC,V.cells,true_implies,and_true,nA,w1]
       iterate 12 (try (refine Qa 4 ?_; simp -implicitDefEqProofs (disch:=omega) only [go_sem,↓reduceIte,reduceCtorEq,rA,rq,rL,Int.reduceEq,true_implies,and_true,not_false_eq_true,g1',g2',g3',g4,g5,g6']))
   ·have g3':(x.rs1 != 2)=true:=by simp [g3]
    rw [if_neg (fun h=>g3 h.2.2.1)]
    simp -implicitDefEqProofs (disch:=omega) only [go_sem,↓reduceIte,reduceCtorEq,rA,rq,inC,V.cells,true_implies,and_true,nA,w1]
    iterate 12 (try (refine Qa 4 ?_; simp -implicitDefEqProofs (disch:=omega) only [go_sem,↓reduceIte,reduceCtorEq,rA,rq,rL,true_implies,and_true,g1',g2',g3']))
  ·have g2':(x.rd != 2)=true:=by simp [g2]
   rw [if_neg (fun h=>g2 h.2.1)]
   simp -implicitDefEqProofs (disch:=omega) only [go_sem,↓reduceIte,reduceCtorEq,rA,rq,inC,V.cells,true_implies,and_true,nA,w1]
   iterate 12 (try (refine Qa 4 ?_; simp -implicitDefEqProofs (disch:=omega) only [go_sem,↓reduceIte,reduceCtorEq,rA,rq,rL,true_implies,and_true,g1',g2']))
 ·have g1':(x.op != 22)=true:=by simp [g1]
  rw [if_neg (fun h=>g1 h.1)]
  simp -implicitDefEqProofs (disch:=omega) only [go_sem,↓reduceIte,reduceCtorEq,rA,rq,inC,V.cells,true_implies,and_true,nA,w1]
  iterate 12 (try (refine Qa 4 ?_; simp -implicitDefEqProofs (disch:=omega) only [go_sem,↓reduceIte,reduceCtorEq,rA,rq,rL,true_implies,and_true,g1']))
theorem QF3 (hT:Qf P tab) (l:List Int) (q:Bool) (a:Int) (hl:l.length≤1000):Am.Pure P G ZD [.lst 1 (us l) q,.int .u8 a] fun v=>∃ k:Int,v=.int .i64 k∧(0≤k↔a∈l):=by
 intro t
 refine Qi 0 (zL _) (Qk hT ZA (by simp [Xi]) (Qg 1000 ?_))
 simp -implicitDefEqProofs (disch:=omega) only [go_sem,↓reduceIte,reduceCtorEq,rq,lM,us]
 refine ZJ l (fun i fr σ=>a ∉ l.take i∧Ql fr 0=.lst 1 (us l) q∧Ql fr 1=.int .u8 a∧Ql fr 7=.int .i64 l.length∧Ql fr 8=.int .i64 ((i:Nat):Int)∧σ=⟨t,[]⟩)
  (fun e fr σ=>σ=⟨t,[]⟩∧((e=.ret∧a∈l∧∃ i:Nat,Ql fr 4=.int .i64 (i:Int))∨(e=.ex 0∧a ∉ l))) ⟨by simp,?_⟩ (fun i x hx fr σ hJ=>?_) (fun i hi fr σ hJ=>?_) (fun e fr σ hE=>?_)
 ·simp -implicitDefEqProofs (disch:=omega) only [go_sem,↓reduceIte,reduceCtorEq,rq,us]
  try simp
 ·obtain ⟨hno,f0,f1,f7,f8,rfl⟩:=hJ
  have hlt:=(List.getElem?_eq_some_iff.1 hx).1
  have hD:(l.map (V.int .u8)).getD i V.any=.int .u8 x:=by simp [List.getD_eq_getElem?_getD,hx]
  have e2:=Qe9 hlt (by omega)
  refine Qg 1000 ?_
  by_cases he:a=x
  ·have he':(a==x)=true:=by simp [he]
   simp -implicitDefEqProofs (disch:=omega) only [go_sem,↓reduceIte,reduceCtorEq,rq,lM,us,f0,f1,f7,f8,hlt,hD,he']
   exact ⟨he▸List.mem_of_getElem? hx,i,rfl⟩
  ·have he':(a==x)=false:=by simp [he]
   simp -implicitDefEqProofs (disch:=omega) only [go_sem,↓reduceIte,reduceCtorEq,rq,lM,us,f0,f1,f7,f8,hlt,hD,he']
   refine ⟨_,_,Shift.refl _ _ _ _,?_,?_⟩
   ·rw [List.take_add_one,hx]; simp [hno,he]
   ·simp -implicitDefEqProofs (disch:=omega) only [go_sem,↓reduceIte,reduceCtorEq,rq,us,f0,f1,f7,e2]
 ·obtain ⟨hno,f0,f1,f7,f8,rfl⟩:=hJ
  rw [hi,List.take_length] at hno
  refine Qg 1000 ?_
  simp -implicitDefEqProofs (disch:=omega) only [go_sem,↓reduceIte,reduceCtorEq,rq,f7,f8,hi,Nat.lt_irrefl]
  exact hno
 ·obtain ⟨rfl,hE⟩:=hE
  rcases hE with ⟨rfl,hm,i,f4⟩ | ⟨rfl,hno⟩
  ·refine Qa 1000 ?_
   refine yv ?_
   exact ⟨i,rfl,by simp [hm]⟩
  ·refine Qa 1000 ?_
   refine ya ?_
   exact ⟨-1,rfl,by simp [hno]⟩
theorem QnK (hT:Qf P tab) (l:List Int) (q:Bool) (a:Int) (hl:l.length≤1000):Am.Pure P G YP [.lst 1 (us l) q,.int .u8 a] fun v=>v=.bool (decide (a∈l)):=by
 intro t
 have hI:=QF3 (P:=P) (G:=G) hT l q a hl
 simp only [us] at hI
 refine Qi 0 (zL _) (Qk hT XO (by simp [Q0]) (Qg 1000 ?_))
 simp -implicitDefEqProofs (disch:=omega) only [go_sem,↓reduceIte,reduceCtorEq,rq,us]
 refine Qbe hT ZA hI (by simp [Qb,Qd]) 1000 fun v hv=>?_
 obtain ⟨k,rfl,hk⟩:=hv
 refine ya ?_
 simp [hk]
end
end Go.Proofs.YtbdhjeojcpgblaaGreatDoor
