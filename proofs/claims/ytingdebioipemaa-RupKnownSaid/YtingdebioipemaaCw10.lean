/- Contracts: the first row that does not follow. -/
import Derived.Test.YtingdebioipemaaJ3
namespace Go.Proofs.Ytingdebioipemaa
open Go Go.Am Go.Cl
set_option maxRecDepth 100000
variable {G:Nat→Option V}
section
attribute [local go_sem] Bool.not_false Bool.not_true List.length_map Nat.add_zero Nat.le_refl Nat.mul_one Nat.zero_add Nat.zero_le decide_false decide_true gt_iff_lt Qt Qdb zqe_0 zqe_1 zqe_2 Qda zqc_0 zqc_1 zqc_2 Qri Qrh Qrg Qrf Qre Qrd zqc_9 Qw QvM QvL QvK QvJ
theorem ZO (F:List (List Int)):((F.map row).map V.cells).flatten=F.map row:=by
 induction F with
 | nil=>rfl
 | cons c F ih=>simp only [List.map_cons,List.flatten_cons] at ih ⊢; rw [ih]; rfl
theorem QmY {P:Program} (hT:Qj P tab) {base t:Nat} {o:List (Option Ob)} (F:List (List Int)) (hl:F.length≤1000000) :
 C P G base XN [.lst 1 (F.map row) false] ⟨t,o⟩ fun v σ=>∃ t' w,t≤t'∧v=.sl o.length w 0 1 F.length none∧σ=⟨t',o++[some (.arr w 25 (F.map row))]⟩:=by
 refine C_own 1 25 (Q:=fun v σ=>(v=.sl o.length t 0 1 F.length none∧σ=⟨t+1,o++[some (.arr t 25 (F.map row))]⟩)∨(F=[]∧v=.lst 0 [] true∧σ=⟨t,o⟩)) ?_ fun v σ hv=>?_
 ·refine QF hT Qy (by simp [Qw]) (Qx 1000 ?_)
  have hfl:=ZO F
  simp -implicitDefEqProofs (disch:=omega) only [go_sem,↓reduceIte,reduceCtorEq,Nat.reduceEqDiff,hfl]
  cases F with
  | nil=>exact rfl
  | cons n c=>exact trivial
 ·rcases hv with ⟨rfl,rfl⟩ | ⟨rfl,rfl,rfl⟩
  ·exact .inl ⟨_,_,by omega,rfl,rfl⟩
  ·exact .inr ⟨0,rfl,_,_,Nat.le_succ _,rfl,rfl⟩
theorem Qam {o:List (Option Ob)} {k w T:Nat} {R:List (List Int)} (h:o[k]?=some (some (.arr w T (R.map row)))):Seen o (.sl k w 0 1 R.length none) (.lst 1 (R.map row) false):=by
 have:=Seen.row (o:=o) k w 0 1 none T (R.map row) (R.map row) h (fun j u hj=>?_) (fun _=>rfl)
 ·rwa [List.length_map] at this
 ·simp only [List.getElem?_map,Option.map_eq_some_iff] at hj
  obtain ⟨c,hc,rfl⟩:=hj
  refine ⟨rfl,fun i d hd=>?_⟩
  cases i with
  | zero=>simp [row,V.cells] at hd; subst hd; simp [hc,row,nameless]
  | succ i=>simp [row,V.cells] at hd
def gAH (tf tg tw:Nat) (v:Int) (F R:List (List Int)):List (Option Ob):=[some (.arr tf 24 [.int .i64 v,.lst 1 (F.map row) false]),some (.arr tw 25 (R.map row)),some (.arr tg 24 [.int .i64 v,.sl 1 tw 0 1 R.length none])]
abbrev gAJ (tf tg:Nat) (v:Int) (F p:List (List Int)):Nat→Fr→H→Prop:=fun m fr σ=>∃ i t tw,i≤p.length∧m=p.length - i∧Q3 v F p=i+Q3 v (F++p.take i) (p.drop i)∧Qg fr 5=.ptr 2 tg 0∧Qg fr 1=.lst 1 (p.map row) false∧Qg fr 14=.lst 1 (p.map row) false∧Qg fr 15=.int .i64 p.length∧Qg fr 16=.int .i64 ((i:Nat):Int)∧σ=⟨t,gAH tf tg tw v F (F++p.take i)⟩
abbrev gAE (v:Int) (F p:List (List Int)):AE→Fr→H→Prop:=fun e fr _=>(e=.ret∧Qg fr 4=.int .i64 (Q3 v F p))∨(e=.ex 0∧Qg fr 1=.lst 1 (p.map row) false∧Q3 v F p=p.length)
set_option maxHeartbeats 1000000 in
theorem Qsc (hT:Qj Try.prog tab) {tf tg:Nat} {v:Int} {F p:List (List Int)} (hF:F.length+p.length≤1000) (hc:∀ c∈F,c.length≤1000) (hp:∀ c∈p,c.length≤1000) (hb:∀ c∈p,∀ n∈c,-9223372036854775808≤n∧n≤9223372036854775807) {m:Nat} {fr:Fr} {σ:H} (hJ:gAJ tf tg v F p m fr σ) :
 W Try.prog G 35 0 (AC.seq (AC.reg Qri [])   (AC.seq (AC.cond (Arg.t 17)   AC.skip   (AC.exit 0))   (AC.seq (AC.block 1 (AC.seq (AC.reg Qrh [18,19,20])   (AC.seq (AC.seq (AC.reg Qrg [21,22,23])   (AC.cond (Arg.t 24)   (AC.seq (AC.reg Qrf [25])   AC.ret)   AC.skip))   (AC.reg Qre [26,27,28,29,30,31]))))   (AC.reg Qrd [32])))) fr σ (Y9 (fun fr σ=>∃ m' fr' σ',m'<m∧Shift G 35 0 fr σ fr' σ'∧gAJ tf tg v F p m' fr' σ') (gAE v F p)):=by
 obtain ⟨i,t,tw,hi,rfl,hfi,f5,f1,f14,f15,f16,rfl⟩:=hJ
 rcases Nat.lt_or_ge i p.length with hlt | hge
 ·obtain ⟨c,hci⟩:∃ c,p[i]?=some c:=⟨_,List.getElem?_eq_getElem hlt⟩
  have hD:=XD hci
  have hcm:=List.mem_of_getElem? hci
  have e2:=XP hlt (by omega)
  have hd:p.drop i=c::p.drop (i+1):=by
   rw [List.drop_eq_getElem_cons hlt]
   congr 1
   exact (List.getElem?_eq_some_iff.1 hci).2
  have hts:=Qo hci
  have hRl:(F++p.take i).length≤999:=by rw [List.length_append,List.length_take]; omega
  have hRc:∀ d∈F++p.take i,d.length≤1000:=fun d h=>(List.mem_append.1 h).elim (hc d) fun h=>hp d (List.mem_of_mem_take h)
  have hFo:=YP (G:=G) hT v (F++p.take i) c (by omega) hRc (hp c hcm) (hb c hcm)
  rw [hd,Q3] at hfi
  have happ:F++p.take (i+1)=(F++p.take i)++[c]:=by rw [hts,List.append_assoc]
  generalize F++p.take i=R at *
  simp only [fml,rows,row] at hFo
  cases hfo:follows v R c with
  | false =>
    rw [hfo] at hFo hfi
    have hres:Q3 v F p=i:=by simpa using hfi
    refine Qf [(5,.ptr 2 tg 0),(1,.lst 1 (p.map row) false),(14,.lst 1 (p.map row) false),(15,.int .i64 p.length),(16,.int .i64 ((i:Nat):Int))] ⟨f5,f1,f14,f15,f16,trivial⟩  1000 ?_
    simp -implicitDefEqProofs (disch:=omega) only [go_sem,↓reduceIte,reduceCtorEq,Nat.reduceAdd,Nat.reduceEqDiff,List.length_cons,List.length_nil,gAH,hlt,hD]
    refine QJ hT QG hFo (.cons _ _ _ _ (.agg _ _ (.cons _ _ _ _ (.same _ rfl) (.cons _ _ _ _ (Qam rfl) .nil))) (.cons _ _ _ _ (.same _ rfl) .nil)) rfl 1000 ?_
    simp -implicitDefEqProofs (disch:=omega) only [go_sem,↓reduceIte,Nat.reduceEqDiff]
    exact .inl ⟨rfl,by rw [hres]; rfl⟩
  | true =>
    rw [hfo] at hFo hfi
    rw [if_pos rfl,← happ] at hfi
    refine Qf [(5,.ptr 2 tg 0),(1,.lst 1 (p.map row) false),(14,.lst 1 (p.map row) false),(15,.int .i64 p.length),(16,.int .i64 ((i:Nat):Int))] ⟨f5,f1,f14,f15,f16,trivial⟩  1000 ?_
    simp -implicitDefEqProofs (disch:=omega) only [go_sem,↓reduceIte,reduceCtorEq,Nat.reduceAdd,Nat.reduceEqDiff,List.length_cons,List.length_nil,gAH,hlt,hD]
    refine QJ hT QG hFo (.cons _ _ _ _ (.agg _ _ (.cons _ _ _ _ (.same _ rfl) (.cons _ _ _ _ (Qam rfl) .nil))) (.cons _ _ _ _ (.same _ rfl) .nil)) rfl 1000 ?_
    simp -implicitDefEqProofs (disch:=omega) only [go_sem,↓reduceIte,reduceCtorEq,Nat.reduceAdd,Nat.reduceEqDiff,Nat.reduceLeDiff,List.length_cons,List.length_nil,List.cons_append,List.nil_append]
    refine ⟨p.length - (i+1),_,_,by omega,Shift.refl _ _ _ _,i+1,t+1,t,by omega,rfl,by omega,?_⟩
    simp -implicitDefEqProofs (disch:=omega) only [go_sem,↓reduceIte,Nat.reduceEqDiff,List.length_cons,List.length_nil,gAH,e2,happ,List.length_append,List.map_append,row]
 ·have hi:i=p.length:=by omega
  have hres:Q3 v F p=p.length:=by rw [hi,List.drop_length] at hfi; simpa [Q3] using hfi
  refine Qf [(5,.ptr 2 tg 0),(1,.lst 1 (p.map row) false),(14,.lst 1 (p.map row) false),(15,.int .i64 p.length),(16,.int .i64 ((i:Nat):Int))] ⟨f5,f1,f14,f15,f16,trivial⟩  1000 ?_
  simp -implicitDefEqProofs (disch:=omega) only [go_sem,↓reduceIte,Nat.reduceEqDiff,hi,Nat.lt_irrefl]
  exact .inr ⟨rfl,rfl,hres⟩
def gBH (tf tg tw:Nat) (v:Int) (F R:List (List Int)):List (Option Ob):=[some (.arr tf 24 [.int .i64 v,.lst 1 (F.map row) false]),some (.arr tg 24 [.int .i64 v,.sl 2 tw 0 1 R.length none]),some (.arr tw 25 (R.map row))]
abbrev gBJ (tf tg:Nat) (v:Int) (F p:List (List Int)):Nat→Fr→H→Prop:=fun m fr σ=>∃ i t tw,i≤p.length∧m=p.length - i∧Q3 v F p=i+Q3 v (F++p.take i) (p.drop i)∧Qg fr 5=.ptr 1 tg 0∧Qg fr 1=.lst 1 (p.map row) false∧Qg fr 14=.lst 1 (p.map row) false∧Qg fr 15=.int .i64 p.length∧Qg fr 16=.int .i64 ((i:Nat):Int)∧σ=⟨t,gBH tf tg tw v F (F++p.take i)⟩
abbrev gBE (v:Int) (F p:List (List Int)):AE→Fr→H→Prop:=fun e fr _=>(e=.ret∧Qg fr 4=.int .i64 (Q3 v F p))∨(e=.ex 0∧Qg fr 1=.lst 1 (p.map row) false∧Q3 v F p=p.length)
set_option maxHeartbeats 1000000 in
theorem Qsb (hT:Qj Try.prog tab) {tf tg:Nat} {v:Int} {F p:List (List Int)} (hF:F.length+p.length≤1000) (hc:∀ c∈F,c.length≤1000) (hp:∀ c∈p,c.length≤1000) (hb:∀ c∈p,∀ n∈c,-9223372036854775808≤n∧n≤9223372036854775807) {m:Nat} {fr:Fr} {σ:H} (hJ:gBJ tf tg v F p m fr σ) :
 W Try.prog G 35 0 (AC.seq (AC.reg Qri [])   (AC.seq (AC.cond (Arg.t 17)   AC.skip   (AC.exit 0))   (AC.seq (AC.block 1 (AC.seq (AC.reg Qrh [18,19,20])   (AC.seq (AC.seq (AC.reg Qrg [21,22,23])   (AC.cond (Arg.t 24)   (AC.seq (AC.reg Qrf [25])   AC.ret)   AC.skip))   (AC.reg Qre [26,27,28,29,30,31]))))   (AC.reg Qrd [32])))) fr σ (Y9 (fun fr σ=>∃ m' fr' σ',m'<m∧Shift G 35 0 fr σ fr' σ'∧gBJ tf tg v F p m' fr' σ') (gBE v F p)):=by
 obtain ⟨i,t,tw,hi,rfl,hfi,f5,f1,f14,f15,f16,rfl⟩:=hJ
 rcases Nat.lt_or_ge i p.length with hlt | hge
 ·obtain ⟨c,hci⟩:∃ c,p[i]?=some c:=⟨_,List.getElem?_eq_getElem hlt⟩
  have hD:=XD hci
  have hcm:=List.mem_of_getElem? hci
  have e2:=XP hlt (by omega)
  have hd:p.drop i=c::p.drop (i+1):=by
   rw [List.drop_eq_getElem_cons hlt]
   congr 1
   exact (List.getElem?_eq_some_iff.1 hci).2
  have hts:=Qo hci
  have hRl:(F++p.take i).length≤999:=by rw [List.length_append,List.length_take]; omega
  have hRc:∀ d∈F++p.take i,d.length≤1000:=fun d h=>(List.mem_append.1 h).elim (hc d) fun h=>hp d (List.mem_of_mem_take h)
  have hFo:=YP (G:=G) hT v (F++p.take i) c (by omega) hRc (hp c hcm) (hb c hcm)
  rw [hd,Q3] at hfi
  have happ:F++p.take (i+1)=(F++p.take i)++[c]:=by rw [hts,List.append_assoc]
  generalize F++p.take i=R at *
  simp only [fml,rows,row] at hFo
  cases hfo:follows v R c with
  | false =>
    rw [hfo] at hFo hfi
    have hres:Q3 v F p=i:=by simpa using hfi
    refine Qf [(5,.ptr 1 tg 0),(1,.lst 1 (p.map row) false),(14,.lst 1 (p.map row) false),(15,.int .i64 p.length),(16,.int .i64 ((i:Nat):Int))] ⟨f5,f1,f14,f15,f16,trivial⟩  1000 ?_
    simp -implicitDefEqProofs (disch:=omega) only [go_sem,↓reduceIte,reduceCtorEq,Nat.reduceAdd,Nat.reduceEqDiff,List.length_cons,List.length_nil,gBH,hlt,hD]
    refine QJ hT QG hFo (.cons _ _ _ _ (.agg _ _ (.cons _ _ _ _ (.same _ rfl) (.cons _ _ _ _ (Qam rfl) .nil))) (.cons _ _ _ _ (.same _ rfl) .nil)) rfl 1000 ?_
    simp -implicitDefEqProofs (disch:=omega) only [go_sem,↓reduceIte,Nat.reduceEqDiff]
    exact .inl ⟨rfl,by rw [hres]; rfl⟩
  | true =>
    rw [hfo] at hFo hfi
    rw [if_pos rfl,← happ] at hfi
    refine Qf [(5,.ptr 1 tg 0),(1,.lst 1 (p.map row) false),(14,.lst 1 (p.map row) false),(15,.int .i64 p.length),(16,.int .i64 ((i:Nat):Int))] ⟨f5,f1,f14,f15,f16,trivial⟩  1000 ?_
    simp -implicitDefEqProofs (disch:=omega) only [go_sem,↓reduceIte,reduceCtorEq,Nat.reduceAdd,Nat.reduceEqDiff,List.length_cons,List.length_nil,gBH,hlt,hD]
    refine QJ hT QG hFo (.cons _ _ _ _ (.agg _ _ (.cons _ _ _ _ (.same _ rfl) (.cons _ _ _ _ (Qam rfl) .nil))) (.cons _ _ _ _ (.same _ rfl) .nil)) rfl 1000 ?_
    simp -implicitDefEqProofs (disch:=omega) only [go_sem,↓reduceIte,reduceCtorEq,Nat.reduceAdd,Nat.reduceEqDiff,Nat.reduceLeDiff,List.length_cons,List.length_nil,List.cons_append,List.nil_append]
    refine ⟨p.length - (i+1),_,_,by omega,Shift.refl _ _ _ _,i+1,t+1,t,by omega,rfl,by omega,?_⟩
    simp -implicitDefEqProofs (disch:=omega) only [go_sem,↓reduceIte,Nat.reduceEqDiff,List.length_cons,List.length_nil,gBH,e2,happ,List.length_append,List.map_append,row]
 ·have hi:i=p.length:=by omega
  have hres:Q3 v F p=p.length:=by rw [hi,List.drop_length] at hfi; simpa [Q3] using hfi
  refine Qf [(5,.ptr 1 tg 0),(1,.lst 1 (p.map row) false),(14,.lst 1 (p.map row) false),(15,.int .i64 p.length),(16,.int .i64 ((i:Nat):Int))] ⟨f5,f1,f14,f15,f16,trivial⟩  1000 ?_
  simp -implicitDefEqProofs (disch:=omega) only [go_sem,↓reduceIte,Nat.reduceEqDiff,hi,Nat.lt_irrefl]
  exact .inr ⟨rfl,rfl,hres⟩
theorem Qhn (v:Int):∀ (p F:List (List Int)),Q3 v F p≤p.length
 | [],_=>Nat.le_refl _
 | c::p,F=>by
   unfold Q3
   split
   ·have:=Qhn v p (F++[c]); simp; omega
   ·exact Nat.zero_le _
set_option maxHeartbeats 1000000 in
theorem QlP (hT:Qj Try.prog tab) (v:Int) (F p:List (List Int)) (hF:F.length+p.length≤1000) (hc:∀ c∈F,c.length≤1000) (hp:∀ c∈p,c.length≤1000) (hb:∀ c∈p,∀ n∈c,-9223372036854775808≤n∧n≤9223372036854775807) :
 Pure Try.prog G Qg9 [fml v F,rows p] fun u=>u=.int .i64 (Q3 v F p):=by
 intro t
 simp only [fml,rows]
 refine XU 0 (Nat.zero_le _) (QF hT QbU (by simp [Qda]) (Qx 1000 ?_))
 simp -implicitDefEqProofs (disch:=omega) only [go_sem,↓reduceIte,reduceCtorEq,Nat.reduceAdd,Nat.reduceEqDiff,Nat.reduceLeDiff,List.length_cons,List.length_nil,List.cons_append,List.nil_append]
 refine And.intro ?_ ?_
 ·refine call hT Qy (QmY hT F (by omega)) 1000 fun u σ hu=>?_
  obtain ⟨t1,w,ht1,rfl,rfl⟩:=hu
  simp -implicitDefEqProofs (disch:=omega) only [go_sem,↓reduceIte,reduceCtorEq,Nat.reduceAdd,Nat.reduceEqDiff,Nat.reduceLeDiff,List.length_cons,List.length_nil,List.cons_append,List.nil_append]
  refine QC (gAJ t t1 v F p) (gAE v F p) (m0:=p.length) ⟨0,t1+1,w,by omega,rfl,by simp,?_⟩ (fun m fr σ hJ=>Qsc hT hF hc hp hb hJ) (fun e fr σ hE=>?_)
  ·simp -implicitDefEqProofs (disch:=omega) only [go_sem,↓reduceIte,reduceCtorEq,Nat.reduceEqDiff,gAH,List.take_zero,List.append_nil]
   first | rfl | exact ⟨rfl,rfl⟩
  ·rcases hE with ⟨rfl,f4⟩ | ⟨rfl,f1,hres⟩
   ·refine Qc 1000 ?_
    simp -implicitDefEqProofs (disch:=omega) only [go_sem,f4]
   ·refine Qc 1000 ?_
    simp -implicitDefEqProofs (disch:=omega) only [go_sem,↓reduceIte,Nat.reduceEqDiff,f1,hres]
 ·refine call hT Qy (QmY hT F (by omega)) 1000 fun u σ hu=>?_
  obtain ⟨t1,w,ht1,rfl,rfl⟩:=hu
  simp -implicitDefEqProofs (disch:=omega) only [go_sem,↓reduceIte,reduceCtorEq,Nat.reduceAdd,Nat.reduceEqDiff,Nat.reduceLeDiff,List.length_cons,List.length_nil,List.cons_append,List.nil_append]
  refine QC (gBJ t (t+1) v F p) (gBE v F p) (m0:=p.length) ⟨0,t1,w,by omega,rfl,by simp,?_⟩ (fun m fr σ hJ=>Qsb hT hF hc hp hb hJ) (fun e fr σ hE=>?_)
  ·simp -implicitDefEqProofs (disch:=omega) only [go_sem,↓reduceIte,reduceCtorEq,Nat.reduceEqDiff,gBH,List.take_zero,List.append_nil]
   first | rfl | exact ⟨rfl,rfl⟩
  ·rcases hE with ⟨rfl,f4⟩ | ⟨rfl,f1,hres⟩
   ·refine Qc 1000 ?_
    simp -implicitDefEqProofs (disch:=omega) only [go_sem,f4]
   ·refine Qc 1000 ?_
    simp -implicitDefEqProofs (disch:=omega) only [go_sem,↓reduceIte,Nat.reduceEqDiff,f1,hres]
theorem ZV {v:Int} {F p:List (List Int)}:Xc v F p=(decide (0<p.length)&&(decide (p.getLast?=some [])&&decide (Q3 v F p=p.length))):=by
 unfold Xc
 congr 1
 cases p <;> simp
theorem Qax (hT:Qj Try.prog tab) (v:Int) (F p:List (List Int)) (hF:F.length+p.length≤1000) (hc:∀ c∈F,c.length≤1000) (hp:∀ c∈p,c.length≤1000) (hb:∀ c∈p,∀ n∈c,-9223372036854775808≤n∧n≤9223372036854775807) :
 Pure Try.prog G Qb2 [fml v F,rows p] fun u=>u=.bool (Xc v F p):=by
 intro t
 have hFi:=QlP (G:=G) hT v F p hF hc hp hb
 have hle:=Qhn v p F
 simp only [fml,rows] at hFi ⊢
 refine XU 0 (Nat.zero_le _) (QF hT Q4 (by simp [Qdb]) (Qx 14 ?_))
 have hnF:Qd [V.agg [V.int .i64 v,V.lst 1 (F.map row) false],V.lst 1 (p.map row) false]=true:=by simp [Qd,nameless]
 rcases Nat.eq_zero_or_pos p.length with hz | hpos
 ·have hcs:Xc v F p=false:=by rw [ZV]; simp [hz]
  have h0:¬ (0<(p.length:Int)):=by omega
  have h0':decide (0<(p.length:Int))=false:=by simpa using h0
  simp -implicitDefEqProofs (disch:=omega) only [go_sem,↓reduceIte,reduceCtorEq,Nat.reduceEqDiff,and_true]
  iterate 14 (try (refine Qc 2 ?_; simp -implicitDefEqProofs (disch:=omega) only [go_sem,↓reduceIte,reduceCtorEq,Nat.reduceEqDiff,true_and,h0]))
  rw [hcs]
 ·have h0:0<(p.length:Int):=by omega
  have h0':decide (0<(p.length:Int))=true:=by simpa using h0
  obtain ⟨c,hci⟩:∃ c,p[p.length - 1]?=some c:=⟨_,List.getElem?_eq_getElem (by omega)⟩
  have hD:=XD hci
  have hlast:p.getLast?=some c:=by rw [List.getLast?_eq_getElem?]; exact hci
  have e4:IntKind.i64.wrap ((p.length:Int) - 1)=((p.length - 1:Nat):Int):=by
   rw [ZW]
   ·omega
   ·simp [IntKind.min,IntKind.signed,IntKind.bits]; omega
   ·simp [IntKind.max,IntKind.signed,IntKind.bits]; omega
  have hlt:p.length - 1<p.length:=by omega
  by_cases hcn:c=[]
  ·have hcl:((c.length:Int)==0)=true:=by rw [hcn]; rfl
   have hcs:Xc v F p=decide (Q3 v F p=p.length):=by rw [ZV]; simp [hpos,hlast,hcn]
   simp -implicitDefEqProofs (disch:=omega) only [go_sem,↓reduceIte,reduceCtorEq,Nat.reduceEqDiff,and_true]
   iterate 6 (try (refine Qc 2 ?_; simp -implicitDefEqProofs (disch:=omega) only [go_sem,↓reduceIte,reduceCtorEq,Nat.reduceAdd,Nat.reduceEqDiff,Qb,false_implies,true_implies,and_true,h0,e4,hD,hlt,hcl]))
   iterate 2 (try (refine Qc 2 ?_; simp -implicitDefEqProofs (disch:=omega) only [go_sem,↓reduceIte,reduceCtorEq,Nat.reduceAdd,Nat.reduceEqDiff]))
   refine Qi hT QbU hFi hnF 2 ?_
   simp -implicitDefEqProofs (disch:=omega) only [go_sem,↓reduceIte,reduceCtorEq,Nat.reduceAdd,Nat.reduceEqDiff]
   iterate 9 (try (refine Qc 2 ?_; simp -implicitDefEqProofs (disch:=omega) only [go_sem,↓reduceIte,reduceCtorEq,Nat.reduceEqDiff,true_and]))
   rw [hcs]
   congr 1
   rw [Bool.eq_iff_iff,beq_iff_eq,decide_eq_true_eq]
   omega
  ·have hcl:((c.length:Int)==0)=false:=by
    rw [beq_eq_false_iff_ne]; have:=List.length_pos_iff.2 hcn; omega
   have hcs:Xc v F p=false:=by rw [ZV]; simp [hlast,hcn]
   simp -implicitDefEqProofs (disch:=omega) only [go_sem,↓reduceIte,reduceCtorEq,Nat.reduceEqDiff,and_true]
   iterate 14 (try (refine Qc 2 ?_; simp -implicitDefEqProofs (disch:=omega) only [go_sem,↓reduceIte,reduceCtorEq,Nat.reduceAdd,Nat.reduceEqDiff,Qb,true_implies,true_and,and_true,h0,e4,hD,hlt,hcl]))
   rw [hcs]
end
end Go.Proofs.Ytingdebioipemaa
