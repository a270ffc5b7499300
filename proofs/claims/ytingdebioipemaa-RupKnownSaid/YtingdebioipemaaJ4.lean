/- Contracts: a row of rows copied and struck; what is asked of a row left out. -/
import Derived.Test.YtingdebioipemaaCw10
import Derived.Test.YtingdebioipemaaShE
import Derived.Test.YtingdebioipemaaAmD
open Nat renaming reduceEqDiff → rq, reduceAdd → rA, reduceLeDiff → rL, reduceLT → rTq, zero_add → zA, le_refl → lR, zero_le → zL, add_zero → aZ
open List renaming length_cons → lC, length_nil → lN, take_succ_cons → tS, length_append → lA, nil_append → nA, cons_append → cA, append_assoc → aA, take_nil → tN, take_zero → tZ, length_map → lM
open Bool renaming not_false → nF, not_true → nT
namespace Go.Proofs.Ytingdebioipemaa
open Go Go.Am Go.Cl
set_option maxRecDepth 100000
variable {G:Nat→Option V}
section
attribute [local go_sem] nF lM lR Nat.mul_one zA Qt ZM zqo_0 zqo_1 Qw QvM QvL QvK QvJ
variable {R:List (List Int)}
theorem QjF (ys:List V):(R.map row++ys).take R.length=R.map row:=by
 rw [List.take_append_of_le_length (by simp),List.take_of_length_le (by simp)]
variable {ys:List V} {o:List (Option Ob)} {base t k w T i:Nat}
theorem QmZ {P:Program} (hT:Qj P tab) (hl:R.length≤1000000) (h0:0<R.length) (ho:o[k]?=some (some (.arr w T (R.map row++ys)))) :
 C P G base XN [.sl k w 0 1 R.length none] ⟨t,o⟩ fun v σ=>∃ t' w,t≤t'∧v=.sl o.length w 0 1 R.length none∧σ=⟨t',o++[some (.arr w 25 (R.map row))]⟩:=by
 have hfl:=ZO R
 have htk:=QjF (R:=R) ys
 have h1:¬ R.length=0:=by omega
 refine QF hT Qy (by simp [Qw]) (Qx 1000 ?_)
 simp -implicitDefEqProofs (disch:=omega) only [go_sem,↓reduceIte,reduceCtorEq,rq,htk,lA,ho,h0,h1]
 exact ⟨⟨t+1,t,by omega,rfl,rfl,rfl⟩,fun h=>h.elim⟩
theorem Qni (h:o[k]?=some (some (.arr w T (R.map row++ys)))):Seen o (.sl k w 0 1 R.length none) (.lst 1 (R.map row) false):=by
 have:=Seen.row (o:=o) k w 0 1 none T (R.map row++ys) (R.map row) h (fun j u hj=>?_) (fun _=>rfl)
 ·rwa [lM] at this
 ·have hlt:=(List.getElem?_eq_some_iff.1 hj).1
  have hj':=hj
  simp only [List.getElem?_map,Option.map_eq_some_iff] at hj
  obtain ⟨c,hc,rfl⟩:=hj
  refine ⟨rfl,fun i d hd=>?_⟩
  cases i with
  | zero =>
    simp [row,V.cells] at hd; subst hd
    refine ⟨?_,by simp [nameless]⟩
    rw [show 0+j * 1+0=j by omega,List.getElem?_append_left hlt]
    simpa [row] using hj'
  | succ i=>simp [row,V.cells] at hd
theorem Qso (i:Nat):(R.map row).take i++(R.map row).drop (i+1)=(Xz R i).map row:=by
 simp [Xz,List.map_append,List.map_take,List.map_drop]
theorem Qsx (hk:base≤k) (ho:o[k]?=some (some (.arr w T (R.map row++ys)))) (hi:i+1<R.length) (hl:R.length≤1000) :
 C Try.prog G base X1 [.sl k w 0 1 R.length none,.int .i64 i,.int .i64 ((i:Int)+1)] ⟨t,o⟩ fun r σ'=>r=.sl k w 0 1 (R.length - 1) none∧σ'=⟨t,o.set k (some (.arr w T ((Xz R i).map row++V.lst 0 [] true::ys)))⟩:=by
 have h:=QsH (P:=Try.prog) (G:=G) (f:=X1) (base:=base) (t:=t) (i:=i) (xs:=R.map row) (ys:=ys) (z:=.lst 0 [] true) (zr:=⟨.slice none 0 0,rfl⟩) hk ho (by simpa using hi) (fun I ρ=>.lstN _ _ _ _ _ (fun _=>rfl))
  (fun blk off cap d w hH hs hc=>w_del (fun x:One=>x.1) (fun x=>x.2) ⟨.slice none 0 0,rfl⟩ Try.zeroValue25 ((Try.prog.info? 25).get (by kernel_rfl)) (by kernel_rfl) (by kernel_rfl) blk off cap i d w hH hc (by simp at hs; omega) (by simp at hs; omega))
 rw [Qso,lM] at h
 exact h
set_option maxHeartbeats 1000000 in
theorem Qno (hT:Qj Try.prog tab) {kf tf Tf ko to To kr:Nat} {v:Int} {F:List (List Int)} (hb:base≤o.length)
 (h1:o[kf]?=some (some (.arr tf Tf [.int .i64 v,.lst 1 (F.map row) false]))) (h2:o[ko]?=some (some (.arr to To [.sl kr w 0 1 R.length none]))) (h3:o[kr]?=some (some (.arr w T (R.map row++ys)))) (hi:i+1<R.length)
 (hF:F.length+R.length≤1000) (hc:∀ c∈F,c.length≤1000) (hp:∀ c∈R,c.length≤1000) (hbd:∀ c∈R,∀ n∈c,-9223372036854775808≤n∧n≤9223372036854775807) :
 CV Try.prog G base (.fn (.func Qa3) [] [.ptr kf tf 0,.ptr ko to 0]) [.int .i64 i] ⟨t,o⟩ fun u σ=>u=.bool (!Xc v F (Xz R i))∧∃ t',t≤t'∧σ=⟨t',o⟩:=by
 have e2:IntKind.i64.wrap ((i:Int)+1)=(i:Int)+1:=by rw [IntKind.wrap_i64]; omega
 have dl:(Xz R i).length=R.length - 1:=by simp [Xz]; omega
 have dm:∀ c∈Xz R i,c∈R:=fun c h=>by
  simp only [Xz,List.mem_append] at h
  rcases h with h | h
  ·exact List.mem_of_mem_take h
  ·exact List.mem_of_mem_drop h
 have hCk:=Qax (G:=G) hT v F (Xz R i) (by omega) hc (fun c h=>hp c (dm c h)) (fun c h=>hbd c (dm c h))
 simp only [fml,rows] at hCk
 have g1:∀ x,(o++[x])[kf]?=some (some (.arr tf Tf [.int .i64 v,.lst 1 (F.map row) false])):=fun x=>by
  rw [List.getElem?_append_left (List.getElem?_eq_some_iff.1 h1).1]; exact h1
 have sv:∀ w T,Seen (o++[some (.arr w T ((Xz R i).map row++[V.lst 0 [] true]))]) (.sl o.length w 0 1 (R.length - 1) none) (.lst 1 ((Xz R i).map row) false):=fun w T=>by
  rw [← dl]; exact Qni List.getElem?_concat_length
 refine CV.of hT QdR (XU o.length hb (QF hT QdR (by simp [ZM]) (Qx 1000 ?_)))
 simp -implicitDefEqProofs (disch:=omega) only [go_sem,↓reduceIte,reduceCtorEq,rA,rq,lC,lN,h1,h2,e2]
 refine And.intro ?_ ?_
 ·refine call hT Qy (QmZ hT (by omega) (by omega) h3) 1000 fun u σ hu=>?_
  obtain ⟨t1,w1,ht1,rfl,rfl⟩:=hu
  simp -implicitDefEqProofs (disch:=omega) only [go_sem,↓reduceIte,reduceCtorEq,rq]
  refine call hT Xp (Qsx (ys:=[]) hb (by rw [List.getElem?_concat_length,List.append_nil]) hi (by omega)) 1000 fun u σ hu=>?_
  obtain ⟨rfl,rfl⟩:=hu
  simp -implicitDefEqProofs (disch:=omega) only [go_sem,↓reduceIte,reduceCtorEq,rq,Yp]
  refine QJ hT Q4 hCk (.cons _ _ _ _ (.same _ (by simp [nameless,Qd])) (.cons _ _ _ _ (sv _ _) .nil)) rfl 1000 ?_
  simp -implicitDefEqProofs (disch:=omega) only [go_sem,↓reduceIte,reduceCtorEq,rq]
  exact ⟨by simp,t1,ht1,rfl,List.take_left⟩
 ·refine call hT Qy (QmZ hT (by omega) (by omega) h3) 1000 fun u σ hu=>?_
  obtain ⟨t1,w1,ht1,rfl,rfl⟩:=hu
  simp -implicitDefEqProofs (disch:=omega) only [go_sem,↓reduceIte,reduceCtorEq,rA,rq,lC,lN,g1 _]
  refine And.intro ?_ ?_
  ·refine call hT Xp (Qsx (ys:=[]) hb (by rw [List.getElem?_concat_length,List.append_nil]) hi (by omega)) 1000 fun u σ hu=>?_
   obtain ⟨rfl,rfl⟩:=hu
   simp -implicitDefEqProofs (disch:=omega) only [go_sem,↓reduceIte,reduceCtorEq,rq,Yp]
   refine QJ hT Q4 hCk (.cons _ _ _ _ (.same _ (by simp [nameless,Qd])) (.cons _ _ _ _ (sv _ _) .nil)) rfl 1000 ?_
   simp -implicitDefEqProofs (disch:=omega) only [go_sem,↓reduceIte,reduceCtorEq,rq]
   exact ⟨by simp,t1,ht1,rfl,List.take_left⟩
  ·refine call hT Xp (Qsx (ys:=[]) hb (by rw [List.getElem?_concat_length,List.append_nil]) hi (by omega)) 1000 fun u σ hu=>?_
   obtain ⟨rfl,rfl⟩:=hu
   simp -implicitDefEqProofs (disch:=omega) only [go_sem,↓reduceIte,reduceCtorEq,rA,rq,lC,lN,g1 _,Yp]
   refine QJ hT Q4 hCk (.cons _ _ _ _ (.same _ (by simp [nameless,Qd])) (.cons _ _ _ _ (sv _ _) .nil)) rfl 1000 ?_
   simp -implicitDefEqProofs (disch:=omega) only [go_sem,↓reduceIte,reduceCtorEq,rq]
   exact ⟨by simp,t1,ht1,rfl,List.take_left⟩
end
section
attribute [local go_sem] nF nT lR Nat.mul_one zA zL decide_false decide_true Qt Qwi Qwh Qwg Qwf Qwe Qrm Qrl Qrk Qrj Qwd Qer zqr_0 zqr_1
theorem QbZ:∀ c:List Int,Qd (ints c)=true
 | []=>rfl
 | _::c=>by simpa [ints,Qd,nameless] using QbZ c
variable {P:Program}
theorem QwO (hT:Qj P tab) (c:List Int) (hl:c.length≤1000000):Pure P G Q1 [row c] fun v=>v=row c:=fun t=>by
 refine QaA (QfQ hT c hl) fun v σ hv=>.inr ?_
 obtain ⟨t',w,ht,rfl,rfl⟩:=hv
 refine ⟨0,w,3,ints c,lR _,rfl,QbZ c,?_⟩
 have e:(ints c).take c.length=ints c:=List.take_of_length_le (by rw [Qb]; omega)
 simp [YU,Qac,Qb,row,nameless,e]
variable {t:Nat}
theorem c_back (hT:Qj P tab) {base:Nat} {o:List (Option Ob)} (n:Nat):C P G base Qif [.int .i64 n] ⟨t,o⟩ fun v σ=>v=.fn (.func Qb0) [] [.ptr o.length t 0]∧σ=⟨t+1,o++[some (.arr t 3 [.int .i64 n])]⟩:=by
 refine QF hT Qia (by simp [Qer]) (Qx 1000 ?_)
 simp -implicitDefEqProofs (disch:=omega) only [go_sem,↓reduceIte,reduceCtorEq,rq]
def shH (t:Nat) (v:Int) (F:List (List Int)) (cs:List V) (n:Nat):List (Option Ob):=[some (.arr t 24 [.int .i64 v,.lst 1 (F.map row) false]),some (.arr (t+1) 25 cs),some (.arr (t+2) 22 [.sl 1 (t+1) 0 1 n none])]
def shG (t:Nat) (v:Int) (F:List (List Int)) (cs:List V) (n:Nat):List (Option Ob):=[some (.arr t 24 [.int .i64 v,.lst 1 (F.map row) false]),some (.arr (t+1) 25 cs),some (.arr (t+2) 22 [.sl 1 (t+1) 0 1 n none]),some (.arr (t+3) 51 [.fn (.func Qa3) [] [.ptr 0 t 0,.ptr 2 (t+2) 0]])]
variable {p:List (List Int)}
theorem sh_set {i:Nat} {c:List Int} {z:V} (h:p[i]?=some c) :
 ((p.take i).map row++List.replicate (p.length - i) z).take i++[row c]++((p.take i).map row++List.replicate (p.length - i) z).drop (i+1)=(p.take (i+1)).map row++List.replicate (p.length - (i+1)) z:=by
 have hlt:=(List.getElem?_eq_some_iff.1 h).1
 have l1:((p.take i).map row).length=i:=by simp; omega
 obtain ⟨m,hm⟩:∃ m,p.length - i=m+1:=⟨p.length - i - 1,by omega⟩
 rw [Qo h,hm,show p.length - (i+1)=m by omega,List.take_append_of_le_length (by omega),List.take_of_length_le (by omega),List.drop_append,l1,List.drop_eq_nil_of_le (by omega),show i+1 - i=1 by omega,List.replicate_succ]
 simp
abbrev shJ (t:Nat) (v:Int) (F p:List (List Int)):Nat→Fr→H→Prop:=fun m fr σ=>∃ i,i≤p.length∧m=p.length - i∧Qg fr 2=.ptr 0 t 0∧Qg fr 6=.ptr 2 (t+2) 0∧Qg fr 1=.lst 1 (p.map row) false∧Qg fr 18=.lst 1 (p.map row) false∧Qg fr 19=.int .i64 p.length∧Qg fr 20=.int .i64 ((i:Nat):Int)∧σ=⟨t+3,shH t v F ((p.take i).map row++List.replicate (p.length - i) (.lst 0 [] true)) p.length⟩
abbrev shE (t:Nat) (v:Int) (F p:List (List Int)):AE→Fr→H→Prop:=fun e fr σ=>e=.ex 0∧Qg fr 2=.ptr 0 t 0∧Qg fr 6=.ptr 2 (t+2) 0∧Qg fr 1=.lst 1 (p.map row) false∧σ=⟨t+3,shH t v F (p.map row) p.length⟩
set_option maxHeartbeats 1000000 in
theorem QrE (hT:Qj Try.prog tab) {v:Int} {F:List (List Int)} (hl:p.length≤1000) (hp:∀ c∈p,c.length≤1000) {m:Nat} {fr:Fr} {σ:H} (hJ:shJ t v F p m fr σ) :
 W Try.prog G 46 0 (zg Qrm [] (.seq (zw 21 .skip (.exit 0)) (.seq (.block 1 (zg Qrl [22,23,24] (.reg Qrk [25,26,27,28,29]))) (.reg Qrj [30])))) fr σ (Y9 (fun fr σ=>∃ m' fr' σ',m'<m∧Shift G 46 0 fr σ fr' σ'∧shJ t v F p m' fr' σ') (shE t v F p)):=by
 obtain ⟨i,hi,rfl,f2,f6,f1,f18,f19,f20,rfl⟩:=hJ
 rcases Nat.lt_or_ge i p.length with hlt | hge
 ·obtain ⟨c,hci⟩:∃ c,p[i]?=some c:=⟨_,List.getElem?_eq_getElem hlt⟩
  have hD:=XD hci
  have hcl:=hp c (List.mem_of_getElem? hci)
  have e2:=XP hlt (by omega)
  have hts:=Qo hci
  have hlen:((p.take i).map row++List.replicate (p.length - i) (V.lst 0 [] true)).length=p.length:=by simp; omega
  have hCl:=QwO (G:=G) hT c (by omega)
  have e3:i+1≤p.length:=hlt
  have hset:=sh_set (z:=V.lst 0 [] true) hci
  generalize (p.take i).map row++List.replicate (p.length - i) (V.lst 0 [] true)=X at *
  simp only [row] at hCl hset
  refine Qf [(2,.ptr 0 t 0),(6,.ptr 2 (t+2) 0),(1,.lst 1 (p.map row) false),(18,.lst 1 (p.map row) false),(19,.int .i64 p.length),(20,.int .i64 ((i:Nat):Int))] ⟨f2,f6,f1,f18,f19,f20,trivial⟩  1000 ?_
  simp -implicitDefEqProofs (disch:=omega) only [go_sem,↓reduceIte,rA,rq,lM,lC,lN,shH,hlt,hD]
  refine Qi hT Qu hCl (by simp [Qd,nameless]) 1000 ?_
  simp -implicitDefEqProofs (disch:=omega) only [go_sem,↓reduceIte,rq,lC,lN,hlen,hlt,e3,hset]
  refine ⟨p.length - (i+1),_,_,by omega,Shift.refl _ _ _ _,i+1,by omega,rfl,?_⟩
  simp -implicitDefEqProofs (disch:=omega) only [go_sem,↓reduceIte,rq,shH,e2]
 ·have hi:i=p.length:=by omega
  refine Qf [(2,.ptr 0 t 0),(6,.ptr 2 (t+2) 0),(1,.lst 1 (p.map row) false),(18,.lst 1 (p.map row) false),(19,.int .i64 p.length),(20,.int .i64 ((i:Nat):Int))] ⟨f2,f6,f1,f18,f19,f20,trivial⟩  1000 ?_
  simp -implicitDefEqProofs (disch:=omega) only [go_sem,↓reduceIte,rq,shH,hi,Nat.lt_irrefl,List.take_length,Nat.sub_self,List.replicate_zero,List.append_nil]
  exact ⟨rfl,rfl,rfl,rfl,rfl⟩
theorem Qmz (z:V):∀ n:Nat,(List.replicate n [z]).flatten=List.replicate n z
 | 0=>rfl
 | n+1=>by rw [List.replicate_succ,List.flatten_cons,Qmz z n]; rfl
abbrev shP:List KI:=[.ac (.reg Qwi []),.ac (zg Qwh [11,12,13] (zw 14 (zg Qwg [] .ret) .skip)),.ac (.reg Qwf [15,16,17]),
 .ac (zg Qwe [] (.block 0 (.loop (zg Qrm [] (.seq (zw 21 .skip (.exit 0)) (.seq (.block 1 (zg Qrl [22,23,24] (.reg Qrk [25,26,27,28,29]))) (.reg Qrj [30]))))))),.ac (.reg Qwd [31])]
abbrev shQ (t:Nat) (v:Int) (F p:List (List Int)):AE→Fr→H→Prop:=fun e fr σ=>(e=.ret∧Xc v F p=false∧Qg fr 4=.lst 0 [] true∧Qg fr 5=.bool false) ∨
 (e=.nrm∧Xc v F p=true∧Qg fr 1=.lst 1 (p.map row) false∧Qg fr 6=.ptr 2 (t+2) 0∧Qg fr 9=.ptr 3 (t+3) 0∧σ=⟨t+4,shG t v F (p.map row) p.length⟩)
set_option maxHeartbeats 1000000 in
theorem sh_pre (hT:Qj Try.prog tab) (t:Nat) (v:Int) (F p:List (List Int)) (hF:F.length+p.length≤1000) (hc:∀ c∈F,c.length≤1000) (hp:∀ c∈p,c.length≤1000) (hb:∀ c∈p,∀ n∈c,-9223372036854775808≤n∧n≤9223372036854775807) :
 sem Try.prog G 46 0 (shQ t v F p) shP .nrm (QpX 0 [fml v F,rows p]) ⟨t,[]⟩:=by
 have hCk:=Qax (G:=G) hT v F p hF hc hp hb
 have hnF:Qd [V.agg [V.int .i64 v,V.lst 1 (F.map row) false],V.lst 1 (p.map row) false]=true:=by simp [Qd,nameless]
 simp only [fml,rows] at hCk ⊢
 refine Qc 1000 ?_
 simp -implicitDefEqProofs (disch:=omega) only [go_sem,↓reduceIte,reduceCtorEq,rA,rq,lC,lN,nA]
 refine Qi hT Q4 hCk hnF 1000 ?_
 cases hck:Xc v F p with
 | false =>
   simp -implicitDefEqProofs (disch:=omega) only [go_sem,↓reduceIte,reduceCtorEq,rq]
   exact .inl ⟨rfl,hck,rfl,rfl⟩
 | true =>
   simp -implicitDefEqProofs (disch:=omega) only [go_sem,↓reduceIte,reduceCtorEq,rA,rq,lM,lC,lN,cA,nA,Qmz]
   refine QC (shJ t v F p) (shE t v F p) (m0:=p.length) ⟨0,by omega,rfl,?_⟩ (fun m fr σ hJ=>QrE hT (by omega) hp hJ) (fun e fr σ hE=>?_)
   ·simp -implicitDefEqProofs (disch:=omega) only [go_sem,↓reduceIte,reduceCtorEq,rq,nA,shH,tZ,List.map_nil,Nat.sub_zero]
    rfl
   ·obtain ⟨rfl,f2,f6,f1,rfl⟩:=hE
    refine Qc 1000 ?_
    have hnf:Value.nilFunc.oneCell'=true:=rfl
    simp -implicitDefEqProofs (disch:=omega) only [go_sem,↓reduceIte,rA,rq,lC,lN,cA,nA,f2,f6,shH,hnf]
    refine .inr ⟨rfl,hck,?_,?_,?_,rfl⟩ <;> simp [Qhq,YO,f1,f6]
end
section
attribute [local go_sem] nF nT cA lC lN nA lR zA zL Qab Qct Qaa Qcs Qcr
variable {i:Nat} {R:List (List Int)}
theorem Qnv (h:i<R.length):(Xz R i).length=R.length - 1:=by simp [Xz]; omega
theorem Qnu {c:List Int} (h:c∈Xz R i):c∈R:=by
 simp only [Xz,List.mem_append] at h
 rcases h with h | h
 ·exact List.mem_of_mem_take h
 ·exact List.mem_of_mem_drop h
abbrev rjJ (t:Nat) (v:Int) (F p:List (List Int)):Nat→H→Prop:=fun k σ=>∃ t' R ys,k≤p.length - 1∧t+5≤t'∧Y1 v F (p.length - 1 - k) R=Y1 v F (p.length - 1) p∧p.length - 1 - k<R.length∧R.length≤p.length∧(∀ c∈R,c∈p)∧Qd ys=true ∧
 σ=⟨t',shG t v F (R.map row++ys) R.length++[some (.arr (t+4) 3 [.int .i64 p.length])]⟩
set_option maxHeartbeats 1000000 in
theorem QrO (hT:Qj Try.prog tab) {t k:Nat} {v:Int} {F p:List (List Int)} (hF:F.length+p.length≤1000) (hc:∀ c∈F,c.length≤1000) (hp:∀ c∈p,c.length≤1000) (hb:∀ c∈p,∀ n∈c,-9223372036854775808≤n∧n≤9223372036854775807)
 (hk:k<p.length - 1) {fr:Fr} (f6:Qg fr 6=.ptr 2 (t+2) 0) (f9:Qg fr 9=.ptr 3 (t+3) 0) {σ:H} (hJ:rjJ t v F p k σ) :
 W Try.prog G 46 0 Qab (Qic [35] [.int .i64 ((p.length - 2 - k:Nat):Int)] fr) σ (seqK Try.prog G 46 0 Qaa fun e _ σ'=>e=.nrm∧rjJ t v F p (k+1) σ'):=by
 obtain ⟨t',R,ys,h1,h2,h3,h4,h5,h6,h7,rfl⟩:=hJ
 obtain ⟨i,hi⟩:∃ i,i=p.length - 2 - k:=⟨_,rfl⟩
 have hi1:p.length - 1 - k=i+1:=by omega
 have hi2:p.length - 1 - (k+1)=i:=by omega
 have hi3:i+1<R.length:=by omega
 have e2:IntKind.i64.wrap ((i:Int)+1)=(i:Int)+1:=by rw [IntKind.wrap_i64]; omega
 have e3:=Qnv (R:=R) (i:=i) (by omega)
 rw [← hi]
 rw [hi1,Y1] at h3
 simp only [Qic]
 refine Qf [(6,.ptr 2 (t+2) 0),(9,.ptr 3 (t+3) 0),(35,.int .i64 (i:Int))] ⟨by rw [YO]; exact f6,by rw [YO]; exact f9,by rw [YO]; rfl,trivial⟩ 1000 ?_
 simp -implicitDefEqProofs (disch:=omega) only [go_sem,↓reduceIte,rq]
 simp only [seqK]
 refine Qx 1000 ?_
 simp -implicitDefEqProofs (disch:=omega) only [go_sem,↓reduceIte,rq,shG]
 refine CV.use 1000 (Qno hT (i:=i) (F:=F) (R:=R) (ys:=ys) (v:=v) (zL _) rfl rfl rfl hi3 (by omega) hc (fun c h=>hp c (h6 c h)) (fun c h=>hb c (h6 c h))) fun u σ hu=>?_
 obtain ⟨rfl,t2,ht2,rfl⟩:=hu
 cases hck:Xc v F (Xz R i) with
 | false =>
   simp -implicitDefEqProofs (disch:=omega) only [go_sem,↓reduceIte,rq]
   rw [hck] at h3
   exact ⟨t2,R,ys,by omega,by omega,by rw [hi2]; simpa using h3,by omega,h5,h6,h7,rfl⟩
 | true =>
   simp -implicitDefEqProofs (disch:=omega) only [go_sem,↓reduceIte,rq,e2]
   refine call hT Xp (Qsx (k:=1) (R:=R) (ys:=ys) (zL _) rfl hi3 (by omega)) 1000 fun u σ hu=>?_
   obtain ⟨rfl,rfl⟩:=hu
   simp -implicitDefEqProofs (disch:=omega) only [go_sem,↓reduceIte,rq]
   rw [hck] at h3
   exact ⟨t2,Xz R i,V.lst 0 [] true::ys,by omega,by omega,by rw [hi2]; simpa using h3,by omega,by omega,fun c h=>h6 c (Qnu h),by simpa [Qd,nameless] using h7,by rw [e3]; rfl⟩
end
end Go.Proofs.Ytingdebioipemaa
