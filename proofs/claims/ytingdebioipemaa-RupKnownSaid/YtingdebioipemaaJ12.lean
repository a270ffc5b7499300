/- The solver is sound, and complete: passes, what is looked at, levels undone, what is learned. -/
import Derived.Test.YtingdebioipemaaJ10
import Derived.Test.YtingdebioipemaaJ11
import Derived.Test.YtingdebioipemaaJ3
import Derived.Test.YtingdebioipemaaAmD
open Nat renaming reduceEqDiff → rq, reduceAdd → rA, reduceLeDiff → rL, reduceLT → rTq, zero_add → zA, le_refl → lR, zero_le → zL, add_zero → aZ
open List renaming length_cons → lC, length_nil → lN, take_succ_cons → tS, length_append → lA, nil_append → nA, cons_append → cA, append_assoc → aA, take_nil → tN, take_zero → tZ, length_map → lM
open Bool renaming not_false → nF, not_true → nT
namespace Go.Sat
open Go Go.Cl
variable {s s':S}
theorem Cmp.mono {ex ex':Nat→Int→Prop} (h:Cmp s ex) (k:∀ m a,ex m a→ex' m a):Cmp s ex':=fun m c hc a b hp i hi hx he=>h m c hc a b hp i hi hx fun e=>he (k m a e)
abbrev noex:Nat→Int→Prop:=fun _ _=>False
variable {Q:(Nat→Bool)→Prop}
theorem Tel.sub (h:Tel Q s s') (l:Int) (x:List Nat):Tel Q s (s'.sub l x):=⟨h.ex,h.lv,⟨h.trn.fw,h.trn.bk⟩⟩
def PassT (Q:(Nat→Bool)→Prop) (s:S) (l:Int):Option (S × Option Nat)→Prop
 | none=>True
 | some (s',none)=>Tel Q s s'∧Cmp s' noex
 | some (s',some _)=>Tel Q s s'∧Cmp s' fun _ a=>a=l
variable {l:Int}
theorem PassT.of (h:Tel Q s s') (hm:s'.ms=s.ms):∀ {r:Option (S × Option Nat)},PassT Q s' l r→PassT Q s l r
 | none,_=>trivial
 | some (_,none),k=>⟨h.trans k.1 hm,k.2⟩
 | some (_,some _),k=>⟨h.trans k.1 hm,k.2⟩
def SpreadT (Q:(Nat→Bool)→Prop) (s:S):Option (S × Option Nat)→Prop
 | none=>True
 | some (s',none)=>Tel Q s s'∧Cmp s' noex
 | some (s',some _)=>Tel Q s s'∧Cmp s' fun _ a=>s'.ms.length≤s'.lev a
theorem SpreadT.of (h:Tel Q s s') (hm:s'.ms=s.ms):∀ {r:Option (S × Option Nat)},SpreadT Q s' r→SpreadT Q s r
 | none,_=>trivial
 | some (_,none),k=>⟨h.trans k.1 hm,k.2⟩
 | some (_,some _),k=>⟨h.trans k.1 hm,k.2⟩
def One (s:S) (M:Nat→Bool) (p:Nat) (st:L):Prop:=∃ x,tru M x=true∧(x∈st.out∨(-x∈s.tr.take p∧x.natAbs∈st.seen∧s.lev x=s.ms.length))
theorem Snd.lev {Q:(Nat→Bool)→Prop} {N:Nat} {s:S} (hi:Inv N s) (h:Snd Q s) {M:Nat→Bool} (hM:Q M) {x:Int} (hx:-x∈s.tr) (ht:tru M x=true):0<s.lev x:=by
 rcases Nat.eq_zero_or_pos (s.lev x) with h0 | h0
 ·have:=(h M hM).2 _ hx (by rw [Qdg]; exact h0)
  have hx0:=(hi.tro.1 _ hx).1
  rw [QwE (by omega),ht] at this
  cases this
 ·exact h0
variable {st:L} {N p:Nat}
theorem Qrr (h:Inv N s) (hs:Qjr N s (p+1) st) (ho:1≤st.op) (hl:s.tr[p]?=some l):(l.natAbs∈st.seen→s.lev l=s.ms.length)∧st.op=(s.tr.take p).countP (cnt s st.seen)+[l].countP (cnt s st.seen):=by
 have htake:s.tr.take (p+1)=s.tr.take p++[l]:=by rw [List.take_add_one,hl]; rfl
 have hopn:=hs.opn
 rw [htake,List.countP_append] at hopn
 refine ⟨fun g1=>?_,hopn⟩
 have hle:=h.lev l (List.mem_of_getElem? hl)
 by_cases e:s.lev l=s.ms.length
 ·exact e
 exfalso
 have hz:[l].countP (cnt s st.seen)=0:=by simp [cnt,e]
 rw [hz] at hopn
 obtain ⟨y,hy,hyc⟩:=List.countP_pos_iff.1 (show 0<(s.tr.take p).countP (cnt s st.seen) by omega)
 obtain ⟨i,hi⟩:=List.getElem?_of_mem hy
 rw [List.getElem?_take] at hi
 split at hi
 ·have:=h.lev_mono hi hl (by omega)
  simp [cnt] at hyc
  omega
 ·cases hi
theorem Qpk (h:Inv N s) (hD:0<s.ms.length) (hs:Qjr N s (p+1) st) (ho:1≤st.op) (hl:s.tr[p]?=some l) (g1:l.natAbs∈st.seen) (g2:st.op≠1) :
 ∃ (r:Nat) (c:List Int),s.re.getD l.natAbs 0=r∧s.cl[r]?=some c∧s.reason l=c.filter (fun x=>x != l)∧l∈c∧(∀ x,x∈s.reason l↔x∈c∧x≠l)∧(∀ x∈s.reason l,∃ j,j<p∧s.tr[j]?=some (-x))∧Qjr N s p { st with op:=st.op - 1 }∧Qjr N s p (L.mark s.lv s.ms.length { st with op:=st.op - 1 } (s.reason l))∧1≤(L.mark s.lv s.ms.length { st with op:=st.op - 1 } (s.reason l)).op:=by
 obtain ⟨k1,hopn⟩:=Qrr h hs ho hl
 have hlev:=k1 g1
 have hp:=hs.ple
 have h1:[l].countP (cnt s st.seen)=1:=by simp [cnt,g1,hlev]
 rw [h1] at hopn
 have hrea:Rea s p l:=by
  refine h.rea p l hl (by omega) fun e=>?_
  obtain ⟨y,hy,hyc⟩:=List.countP_pos_iff.1 (show 0<(s.tr.take p).countP (cnt s st.seen) by omega)
  obtain ⟨i,hi⟩:=List.getElem?_of_mem hy
  rw [List.getElem?_take] at hi
  split at hi
  ·simp [cnt] at hyc
   have:=((h.mks _ _ e).2 i y hi).2 (by omega)
   omega
  ·cases hi
 obtain ⟨r,c,r1,r2,r3,r4⟩:=hrea
 have hreason:s.reason l=c.filter fun x=>x != l:=by
  unfold S.reason; rw [r1,Int.toNat_natCast,getD_some r2]
 have hs':Qjr N s p { st with op:=st.op - 1 }:=⟨by omega,hs.hlen,hs.heat,by show st.op - 1=(s.tr.take p).countP (cnt s st.seen); omega,hs.sn,hs.out,hs.outn,hs.lvl⟩
 have hf:∀ x∈s.reason l,∃ j,j<p∧s.tr[j]?=some (-x):=fun x hx=>by
  rw [hreason,List.mem_filter] at hx
  exact r4 x hx.1 (by simpa using hx.2)
 have hm:=Qb4 h hs' (c:=s.reason l) hf
 refine ⟨r,c,r1,r2,hreason,r3,fun x=>by rw [hreason,List.mem_filter]; simp,hf,hs',hm.1,?_⟩
 rw [hm.1.opn]
 obtain ⟨y,hy,hyc⟩:=List.countP_pos_iff.1 (show 0<(s.tr.take p).countP (cnt s st.seen) by omega)
 refine List.countP_pos_iff.2 ⟨y,hy,?_⟩
 simp only [cnt,Bool.and_eq_true,decide_eq_true_eq] at hyc ⊢
 exact ⟨hm.2.1 _ hyc.1,hyc.2⟩
end Go.Sat
namespace Go.Proofs.Ytingdebioipemaa
open Go Go.Am Go.Cl Go.Sat
set_option maxRecDepth 100000
variable {P:Program} {G:Nat→Option V}
section
attribute [local go_sem] nF lR Nat.mul_one zA decide_false decide_true gt_iff_lt Qt Xu Qs6 Qs5 Yu Qtw Qtv Qtu Qtt Qts Qtr Qtq Qtp QI QvQ QvP QvO QvN
variable {c:List Int} {o:List (Option Ob)} {base t T:Nat}
theorem QmX (hT:Qj P tab) {k w:Nat} {cells:List V} (hc:c≠[]) (hl:c.length≤1000000) (ho:o[k]?=some (some (.arr w T (ints c++cells)))) :
 C P G base Q1 [.sl k w 0 1 c.length none] ⟨t,o⟩ fun v σ=>v=.sl o.length t 0 1 c.length none∧σ=⟨t+1,o++[some (.arr t 3 (ints c))]⟩:=by
 have hpos:0<c.length:=List.length_pos_iff.2 hc
 have hne:¬ c.length=0:=by omega
 have ht:(ints c++cells).take c.length=ints c:=by rw [List.take_append_of_le_length (by rw [Qb]; omega),List.take_of_length_le (by rw [Qb]; omega)]
 refine QF hT Qu (by simp [QI]) (Qx 1000 ?_)
 simp -implicitDefEqProofs (disch:=omega) only [go_sem,↓reduceIte,reduceCtorEq,rq,ho,hne,hpos,lA,Qb,ht]
theorem Qnn (hT:Qj P tab) {kb tb:Nat} {a:Int} (h1:o[kb]?=some (some (.arr tb T [.int .i64 a]))) :
 Qdr P G base (.fn (.func Yw) [] [.ptr kb tb 0]) o (fun n=>n==a) c:=fun t n hn=>by
 refine CV.of hT ZI (QF hT ZI (by simp [Xu]) (Qx 1000 ?_))
 simp -implicitDefEqProofs (disch:=omega) only [go_sem,↓reduceIte,reduceCtorEq,rq,h1]
 exact ⟨t,lR _,rfl⟩
def QhM (s:S) (n:Nat):Nat:=((List.range n).map (·+1)).foldl (fun b v=>if s.va.getD v 0=0∧(b=0∨s.he.getD b 0<s.he.getD v 0) then v else b) 0
theorem Qid (s:S) (n:Nat):QhM s (n+1)=if s.va.getD (n+1) 0=0∧(QhM s n=0∨s.he.getD (QhM s n) 0<s.he.getD (n+1) 0) then n+1 else QhM s n:=by
 unfold QhM
 rw [List.range_succ,List.map_append,List.foldl_append]; rfl
theorem QmA (s:S):∀ n,QhM s n≤n
 | 0=>lR _
 | n+1=>by rw [Qid]; have:=QmA s n; split <;> omega
abbrev pkJ (K:Vs) (s:S) (fu t:Nat) (es:List (Int × V)) (cs ps:List V) (rest:List (Option Ob)):Nat→Fr→H→Prop:=fun i fr σ=>Qg fr 0=.ptr 0 K.s 0∧Qg fr 3=.int .i64 (QhM s i:Int)∧Qg fr 4=.int .i64 ((i+1:Nat):Int)∧σ=hp K s fu t es cs ps rest
abbrev pkE (K:Vs) (s:S) (fu t:Nat) (es:List (Int × V)) (cs ps:List V) (rest:List (Option Ob)):AE→Fr→H→Prop:=fun e fr σ=>e=.ex 0∧Qg fr 3=.int .i64 (s.pick:Int)∧σ=hp K s fu t es cs ps rest
theorem c_pick (hT:Qj P tab) {N fu:Nat} {K:Vs} {s:S} {es:List (Int × V)} {cs ps:List V} {rest:List (Option Ob)} (hi:Inv N s) (hb:Bd fu N s) :
 C P G base Qbq [.ptr 0 K.s 0] (hp K s fu t es cs ps rest) fun v σ=>v=.int .i64 (s.pick:Int)∧σ=hp K s fu t es cs ps rest:=by
 have hbn:=hb.bn
 have hva:=hi.nva
 have hhe:=hi.nhe
 refine QF hT Qbk (by simp [Yu]) (Qx 1000 ?_)
 simp -implicitDefEqProofs (disch:=omega) only [go_sem,↓reduceIte,reduceCtorEq,rq]
 refine ZF (N - 1) (pkJ K s fu t es cs ps rest) (pkE K s fu t es cs ps rest) ⟨rfl,rfl,rfl,rfl⟩ (fun i hlt fr σ hJ=>?_) (fun i hi2 fr σ hJ=>?_) (fun e fr σ hE=>?_)
 ·obtain ⟨f0,f3,f4,rfl⟩:=hJ
  have h1:((i+1:Nat):Int)<(s.va.length:Int):=by omega
  have h2:i+1<s.va.length:=by omega
  have h3:i+1<s.he.length:=by omega
  have hD:=Qi9 h2
  have hDh:=QaO h3
  have e2:=XP (i:=i+1) (n:=s.va.length) h2 (by omega)
  have hnext:=Qid s i
  have hple:=QmA s i
  have h4:QhM s i<s.he.length:=by omega
  have hDp:=QaO h4
  generalize s.va.getD (i+1) 0=x at *
  generalize QhM s i=b at *
  generalize s.he.getD b 0=y at *
  generalize s.he.getD (i+1) 0=z at *
  by_cases g1:x=0
  ·have g1':(x==0)=true:=beq_iff_eq.2 g1
   have g1p:(x=0)=True:=eq_true g1
   by_cases g2:b=0
   ·have g2':((b:Int)==0)=true:=by rw [g2]; rfl
    have g2p:((b:Int)=0)=True:=eq_true (by omega)
    rw [if_pos ⟨g1,.inl g2⟩] at hnext
    refine Qf [(0,.ptr 0 K.s 0),(3,.int .i64 (b:Int)),(4,.int .i64 ((i+1:Nat):Int))] ⟨f0,f3,f4,trivial⟩  1000 ?_
    simp -implicitDefEqProofs (disch:=omega) only [go_sem,↓reduceIte,reduceCtorEq,rA,rq,rL,hp,sc,Yf,Int.toNat_natCast,h1,h2,hD,g1',g2',e2,true_implies,true_and,and_true]
    exact ⟨_,_,Shift.refl _ _ _ _,rfl,by rw [hnext]; rfl,rfl,rfl⟩
   ·have g2':((b:Int)==0)=false:=beq_eq_false_iff_ne.2 (by omega)
    have g2p:((b:Int)=0)=False:=eq_false (by omega)
    by_cases g3:y<z
    ·have g3':decide ((y:Int)<(z:Int))=true:=decide_eq_true (by omega)
     have g3p:((y:Int)<(z:Int))=True:=eq_true (by omega)
     rw [if_pos ⟨g1,.inr g3⟩] at hnext
     refine Qf [(0,.ptr 0 K.s 0),(3,.int .i64 (b:Int)),(4,.int .i64 ((i+1:Nat):Int))] ⟨f0,f3,f4,trivial⟩  1000 ?_
     simp -implicitDefEqProofs (disch:=omega) only [go_sem,↓reduceIte,reduceCtorEq,rA,rq,rL,hp,sc,QN,Yf,Int.toNat_natCast,h1,h2,h3,h4,hD,hDh,hDp,g1',g2',g3p,e2,true_implies,true_and,and_true]
     exact ⟨_,_,Shift.refl _ _ _ _,rfl,by rw [hnext]; rfl,rfl,rfl⟩
    ·have g3':decide ((y:Int)<(z:Int))=false:=decide_eq_false (by omega)
     have g3p:((y:Int)<(z:Int))=False:=eq_false (by omega)
     rw [if_neg fun q=>q.2.elim g2 g3] at hnext
     refine Qf [(0,.ptr 0 K.s 0),(3,.int .i64 (b:Int)),(4,.int .i64 ((i+1:Nat):Int))] ⟨f0,f3,f4,trivial⟩  1000 ?_
     simp -implicitDefEqProofs (disch:=omega) only [go_sem,↓reduceIte,reduceCtorEq,rA,rq,rL,hp,sc,QN,Yf,Int.toNat_natCast,h1,h2,h3,h4,hD,hDh,hDp,g1',g2',g3p,e2,true_implies,true_and,and_true]
     exact ⟨_,_,Shift.refl _ _ _ _,rfl,by rw [hnext]; rfl,rfl,rfl⟩
  ·have g1':(x==0)=false:=beq_eq_false_iff_ne.2 g1
   have g1p:(x=0)=False:=eq_false g1
   rw [if_neg fun q=>g1 q.1] at hnext
   refine Qf [(0,.ptr 0 K.s 0),(3,.int .i64 (b:Int)),(4,.int .i64 ((i+1:Nat):Int))] ⟨f0,f3,f4,trivial⟩  1000 ?_
   simp -implicitDefEqProofs (disch:=omega) only [go_sem,↓reduceIte,reduceCtorEq,rA,rq,rL,hp,sc,Yf,Int.toNat_natCast,h1,h2,hD,g1',e2,true_implies,true_and,and_true]
   exact ⟨_,_,Shift.refl _ _ _ _,rfl,by rw [hnext]; rfl,rfl,rfl⟩
 ·obtain ⟨f0,f3,f4,rfl⟩:=hJ
  have h1:¬ ((i+1:Nat):Int)<(s.va.length:Int):=by omega
  refine Qf [(0,.ptr 0 K.s 0),(3,.int .i64 (QhM s i:Int)),(4,.int .i64 ((i+1:Nat):Int))] ⟨f0,f3,f4,trivial⟩  1000 ?_
  simp -implicitDefEqProofs (disch:=omega) only [go_sem,↓reduceIte,reduceCtorEq,rA,rq,rL,hp,sc,h1]
  exact ⟨rfl,by rw [hi2,← hva]; rfl,rfl⟩
 ·obtain ⟨rfl,f3,rfl⟩:=hE
  refine Qc 1000 ?_
  simp -implicitDefEqProofs (disch:=omega) only [go_sem,↓reduceIte,rq,f3]
end
section
attribute [local go_sem] nF nT lR Nat.mul_one zA zL beq_self_eq_true decide_false decide_true gt_iff_lt Qt Qfa Qe9 Qe8 Qe7 Qe6 Qe5 Qe4 Qe3 QgE QgD Qh5 Qh4 Qh3
def sn (l:List Nat):List Int:=l.map fun (v:Nat)=>(v:Int)
variable {v N fu t k0 k1 vm jc i:Nat} {l:List Nat}
theorem QpZ:(v:Int)∈sn l↔v∈l:=by
 unfold sn
 rw [List.mem_map]
 exact ⟨fun ⟨w,h,e⟩=>by have:w=v:=by omega
                        exact this▸h,fun h=>⟨v,h,rfl⟩⟩
theorem QwH (l:List Nat) (v:Nat):sn (l++[v])=sn l++[(v:Int)]:=by simp [sn]
theorem QmF (h:v∈l):(QmC [Kd.i] (V.int .i64 (v:Int)) (kn (sn l))).getD (V.int .i64 0)=.int .i64 1:=by
 rw [show kn (sn l)=im .i64 (fun _=>V.int .i64 1) (sn l) from rfl,Qhg,if_pos (QpZ.2 h)]
theorem QmG (h:v ∉ l):(QmC [Kd.i] (V.int .i64 (v:Int)) (kn (sn l))).getD (V.int .i64 0)=.int .i64 0:=by
 rw [show kn (sn l)=im .i64 (fun _=>V.int .i64 1) (sn l) from rfl,Qhg,if_neg fun q=>h (QpZ.1 q)]
theorem kn_put (h:v ∉ l):Qjq [Kd.i] (V.int .i64 (v:Int)) (V.int .i64 1) (kn (sn l))=kn (sn (l++[v])):=by
 rw [QwH]
 exact Qi3 .i64 (fun _=>V.int .i64 1) v (.int .i64 1) rfl (sn l) fun q=>h (QpZ.1 q)
theorem Qbx (x:Int) (l:List Nat):Qdh false [Kd.i] (.int .i64 x) (kn (sn l)):=ZQ .i64 _ _ _
structure Te (K:Vs) (s:S) (fu t:Nat) (ps:List V) (es:List (Int × V)) (cs:List V) (k0 k1 vm wo t':Nat) (st:L) (r:List (Option Ob)) (ow:Nat→Own) (σ:H):Prop where
 ht:t≤t'
 rw:RW s es cs r ow
 m:r[k0]?=some (some (.map vm (kn (sn st.seen))))
 m0:ow k0=.no
 o:r[k1]?=some (some (.arr wo 3 (ints (0::st.out))))
 o0:ow k1=.no
 ne:k0≠k1
 eq:σ=hp K { s with he:=st.he } fu t' es cs ps r
abbrev l1J (K:Vs) (s:S) (fu t:Nat) (ps:List V) (es:List (Int × V)) (cs:List V) (k0 k1 vm jc wc:Nat) (p:Int) (c:List Int) (cells:List V) (st0:L):Nat→Fr→H→Prop:=fun i fr σ =>
 ∃ wo t' r ow,Te K s fu t ps es cs k0 k1 vm wo t' (L.mark s.lv s.ms.length st0 (c.take i)) r ow σ∧r[jc]?=some (some (.arr wc 3 (ints c++cells))) ∧
   Qg fr 0=.ptr 0 K.s 0∧Qg fr 6=.mp (k0+10) vm∧Qg fr 7=.sl (k1+10) wo 0 1 ((L.mark s.lv s.ms.length st0 (c.take i)).out.length+1) none∧Qg fr 8=.int .i64 ((L.mark s.lv s.ms.length st0 (c.take i)).op:Int) ∧
   Qg fr 9=.int .i64 ((L.mark s.lv s.ms.length st0 (c.take i)).level:Int)∧Qg fr 10=.int .i64 p∧Qg fr 31=.sl (jc+10) wc 0 1 c.length none∧Qg fr 32=.int .i64 (c.length:Int)∧Qg fr 33=.int .i64 (i:Int)
abbrev l1E (K:Vs) (s:S) (fu t:Nat) (ps:List V) (es:List (Int × V)) (cs:List V) (k0 k1 vm:Nat) (p:Int) (c:List Int) (st0:L):AE→Fr→H→Prop:=fun e fr σ=>e=.ex 2 ∧ 
 ∃ wo t' r ow,Te K s fu t ps es cs k0 k1 vm wo t' (L.mark s.lv s.ms.length st0 c) r ow σ∧Qg fr 0=.ptr 0 K.s 0∧Qg fr 6=.mp (k0+10) vm∧Qg fr 7=.sl (k1+10) wo 0 1 ((L.mark s.lv s.ms.length st0 c).out.length+1) none∧Qg fr 8=.int .i64 ((L.mark s.lv s.ms.length st0 c).op:Int) ∧
   Qg fr 9=.int .i64 ((L.mark s.lv s.ms.length st0 c).level:Int)∧Qg fr 10=.int .i64 p
theorem Qp1 (lv:List Nat) (D:Nat) (st:L) (c:List Int) (x:Int):L.mark lv D st (c++[x])=L.mark1 lv D (L.mark lv D st c) x:=by simp [L.mark]
variable {σ:H} {fr:Fr} {st0 st:L} {c:List Int} {es:List (Int × V)} {ps cs:List V} {s:S} {K:Vs} {p:Int}
theorem Qr6 (hT:Qj P tab) {wc q:Nat} {cells:List V} (hi:Inv N s) (hb:Bd fu N s) (hs0:Qjr N s q st0) (hc:∀ x∈c,∃ i,i<q∧s.tr[i]?=some (-x)) (hj0:jc≠k0) (hj1:jc≠k1) (hcl:c.length≤1000)
 {x:Int} (hx:c[i]?=some x) (hJ:l1J K s fu t ps es cs k0 k1 vm jc wc p c cells st0 i fr σ) :
 W P G 142 0 we fr σ (Y9 (fun fr σ=>∃ fr' σ',Shift G 142 0 fr σ fr' σ'∧l1J K s fu t ps es cs k0 k1 vm jc wc p c cells st0 (i+1) fr' σ') (l1E K s fu t ps es cs k0 k1 vm p c st0)):=by
 obtain ⟨wo,t',r,ow,hte,hrow,f0,f6,f7,f8,f9,f10,f31,f32,f33⟩:=hJ
 have hil:=(List.getElem?_eq_some_iff.1 hx).1
 have hnext:L.mark s.lv s.ms.length st0 (c.take (i+1))=L.mark1 s.lv s.ms.length (L.mark s.lv s.ms.length st0 (c.take i)) x:=by rw [Qo hx,Qp1]
 have hst:=(Qb4 hi hs0 (c:=c.take i) fun y hy=>hc y (List.mem_of_mem_take hy)).1
 obtain ⟨a,ha,hxa⟩:=hc x (List.mem_of_getElem? hx)
 have hxN:x.natAbs<N:=by have:=(hi.tro.1 _ (List.mem_of_getElem? hxa)).2; simpa using this
 unfold l1J
 rw [hnext]
 generalize L.mark s.lv s.ms.length st0 (c.take i)=st at *
 have hbn:=hb.bn
 have htl:=YT hi.tro
 have hlt:(i:Int)<(c.length:Int):=by omega
 have hD:=ZC (c:=c) cells hx
 have e2:=XP hil (by omega)
 have hlv:x.natAbs<s.lv.length:=by rw [hi.nlv]; exact hxN
 have hhe:x.natAbs<st.he.length:=by rw [hst.hlen]; exact hxN
 have hLv:=QaO hlv
 have hHe:=QaO hhe
 have hopb:st.op≤1000:=by
  rw [hst.opn]
  have:=List.countP_le_length (p:=cnt s st.seen) (l:=s.tr.take q)
  rw [List.length_take] at this; omega
 have hop2:=XP (i:=st.op) (n:=1001) (by omega) (by omega)
 have hheb:st.he.getD x.natAbs 0≤8388609:=by
  have h1:=hb.he x.natAbs
  rw [hst.heat]; split <;> omega
 have hhe2:=XP (i:=st.he.getD x.natAbs 0) (n:=8388610) (by omega) (by omega)
 obtain ⟨ht,hrw,hm,hm0,ho,ho0,hne,rfl⟩:=hte
 have hk0l:=(List.getElem?_eq_some_iff.1 hm).1
 have hk1l:=(List.getElem?_eq_some_iff.1 ho).1
 have habs:=QlL (P:=P) (G:=G) hT (n:=x) (by omega)
 unfold L.mark1
 by_cases g1:x.natAbs∈st.seen
 ·have hlk:=QmF g1
  rw [if_pos (.inl g1)]
  refine Qf [(0,.ptr 0 K.s 0),(6,.mp (k0+10) vm),(7,.sl (k1+10) wo 0 1 (st.out.length+1) none),(8,.int .i64 (st.op:Int)),(9,.int .i64 (st.level:Int)),(10,.int .i64 p),(31,.sl (jc+10) wc 0 1 c.length none),(32,.int .i64 (c.length:Int)),(33,.int .i64 (i:Int))] ⟨f0,f6,f7,f8,f9,f10,f31,f32,f33,trivial⟩  1000 ?_
  simp -implicitDefEqProofs (disch:=omega) only [go_sem,↓reduceIte,reduceCtorEq,rq,hp,sc,Qb,lA,Int.toNat_natCast,hlt,hil,hD,hrow]
  refine Qi hT X4 habs rfl 1000 ?_
  simp -implicitDefEqProofs (disch:=omega) only [go_sem,↓reduceIte,reduceCtorEq,rq,hm,Qbx,e2,hlk,Int.zero_lt_one,and_true]
  exact ⟨_,_,Shift.refl _ _ _ _,wo,t',r,ow,⟨ht,hrw,hm,hm0,ho,ho0,hne,rfl⟩,hrow,rfl,rfl,rfl,rfl,rfl,rfl,rfl,rfl,rfl⟩
 have hlk:=QmG g1
 have hkp:=kn_put g1
 generalize hvl:s.lv.getD x.natAbs 0=y at *
 by_cases g2:y=0
 ·have g2':((y:Int)==0)=true:=beq_iff_eq.2 (by omega)
  have g2p:((y:Int)=0)=True:=eq_true (by omega)
  rw [if_pos (.inr g2)]
  refine Qf [(0,.ptr 0 K.s 0),(6,.mp (k0+10) vm),(7,.sl (k1+10) wo 0 1 (st.out.length+1) none),(8,.int .i64 (st.op:Int)),(9,.int .i64 (st.level:Int)),(10,.int .i64 p),(31,.sl (jc+10) wc 0 1 c.length none),(32,.int .i64 (c.length:Int)),(33,.int .i64 (i:Int))] ⟨f0,f6,f7,f8,f9,f10,f31,f32,f33,trivial⟩  1000 ?_
  simp -implicitDefEqProofs (disch:=omega) only [go_sem,↓reduceIte,reduceCtorEq,rq,hp,sc,Qb,lA,Int.toNat_natCast,hlt,hil,hD,hrow]
  refine Qi hT X4 habs rfl 1000 ?_
  simp -implicitDefEqProofs (disch:=omega) only [go_sem,↓reduceIte,reduceCtorEq,rA,rq,rL,QN,Int.toNat_natCast,hm,Qbx,e2,hlk,Int.lt_irrefl,hlv,hLv,g2',true_implies,true_and,and_true]
  exact ⟨_,_,Shift.refl _ _ _ _,wo,t',r,ow,⟨ht,hrw,hm,hm0,ho,ho0,hne,rfl⟩,hrow,rfl,rfl,rfl,rfl,rfl,rfl,rfl,rfl,rfl⟩
 have g2':((y:Int)==0)=false:=beq_eq_false_iff_ne.2 (by omega)
 have g2p:((y:Int)=0)=False:=eq_false (by omega)
 rw [if_neg fun q=>q.elim g1 g2]
 have hsetm:=hrw.setno hm0 (some (.map vm (kn (sn (st.seen++[x.natAbs])))))
 have hr1:(r.set k0 (some (.map vm (kn (sn (st.seen++[x.natAbs]))))))[k1]?=some (some (.arr wo 3 (ints (0::st.out)))):=by rw [List.getElem?_set_ne hne]; exact ho
 have hrj:(r.set k0 (some (.map vm (kn (sn (st.seen++[x.natAbs]))))))[jc]?=some (some (.arr wc 3 (ints c++cells))):=by rw [List.getElem?_set_ne (Ne.symm hj0)]; exact hrow
 have hr0:(r.set k0 (some (.map vm (kn (sn (st.seen++[x.natAbs]))))))[k0]?=some (some (.map vm (kn (sn (st.seen++[x.natAbs]))))):=List.getElem?_set_self hk0l
 obtain ⟨r1,hr1e⟩:∃ r1,r.set k0 (some (.map vm (kn (sn (st.seen++[x.natAbs])))))=r1:=⟨_,rfl⟩
 rw [hr1e] at hsetm hr1 hrj hr0
 have hkll:k1<r1.length:=by rw [← hr1e,List.length_set]; exact hk1l
 by_cases g3:y=s.ms.length
 ·have g3':((y:Int)==(s.ms.length:Int))=true:=beq_iff_eq.2 (by omega)
  rw [if_pos g3]
  refine Qf [(0,.ptr 0 K.s 0),(6,.mp (k0+10) vm),(7,.sl (k1+10) wo 0 1 (st.out.length+1) none),(8,.int .i64 (st.op:Int)),(9,.int .i64 (st.level:Int)),(10,.int .i64 p),(31,.sl (jc+10) wc 0 1 c.length none),(32,.int .i64 (c.length:Int)),(33,.int .i64 (i:Int))] ⟨f0,f6,f7,f8,f9,f10,f31,f32,f33,trivial⟩  1000 ?_
  simp -implicitDefEqProofs (disch:=omega) only [go_sem,↓reduceIte,reduceCtorEq,rq,hp,sc,Qb,lA,Int.toNat_natCast,hlt,hil,hD,hrow]
  refine Qi hT X4 habs rfl 1000 ?_
  simp -implicitDefEqProofs (disch:=omega) only [go_sem,↓reduceIte,reduceCtorEq,rA,rq,rL,QN,Int.toNat_natCast,hm,Qbx,e2,hlk,Int.lt_irrefl,hlv,hLv,g2',g3',hkp,hr1e,hhe,hHe,hhe2,Qi0,hop2,true_implies,true_and,and_true]
  exact ⟨_,_,Shift.refl _ _ _ _,wo,t',r1,ow,⟨ht,hsetm,hr0,hm0,hr1,ho0,hne,by simp [hp,sc]⟩,hrj,rfl,rfl,rfl,rfl,rfl,rfl,rfl,rfl,rfl⟩
 ·have g3':((y:Int)==(s.ms.length:Int))=false:=beq_eq_false_iff_ne.2 (by omega)
  rw [if_neg g3]
  have hmax:(if st.level<y then (y:Int) else (st.level:Int))=((max st.level y:Nat):Int):=by split <;> omega
  have hol:st.out.length≤1000:=by
   have h1:=Qgv (n:=N) hst.outn fun v hv=>by
    obtain ⟨z,hz,rfl⟩:=List.mem_map.1 hv
    exact hst.sn _ (hst.out z hz).2.2.2.2
   rw [lM] at h1; omega
  have hsnoc:ints (0::st.out)++[.int .i64 x]=ints (0::(st.out++[x])):=Qhi _ _
  refine Qf [(0,.ptr 0 K.s 0),(6,.mp (k0+10) vm),(7,.sl (k1+10) wo 0 1 (st.out.length+1) none),(8,.int .i64 (st.op:Int)),(9,.int .i64 (st.level:Int)),(10,.int .i64 p),(31,.sl (jc+10) wc 0 1 c.length none),(32,.int .i64 (c.length:Int)),(33,.int .i64 (i:Int))] ⟨f0,f6,f7,f8,f9,f10,f31,f32,f33,trivial⟩  1000 ?_
  simp -implicitDefEqProofs (disch:=omega) only [go_sem,↓reduceIte,reduceCtorEq,rq,hp,sc,Qb,lA,Int.toNat_natCast,hlt,hil,hD,hrow]
  refine Qi hT X4 habs rfl 1000 ?_
  simp -implicitDefEqProofs (disch:=omega) only [go_sem,↓reduceIte,reduceCtorEq,rA,rq,rL,QN,Qb,Int.toNat_natCast,hm,Qbx,e2,hlk,Int.lt_irrefl,hlv,hLv,g2',g3',hkp,hr1e,hhe,hHe,hhe2,Qi0,hr1,hsnoc,lC,hmax,true_implies,true_and,and_true]
  refine ⟨_,_,Shift.refl _ _ _ _,t',t'+1,_,ow,⟨by omega,hsetm.setno ho0 _,by rw [List.getElem?_set_ne (Ne.symm hne)]; exact hr0,hm0,List.getElem?_set_self hkll,ho0,hne,by simp [hp,sc]⟩,by rw [List.getElem?_set_ne (Ne.symm hj1)]; exact hrj,rfl,rfl,rfl,rfl,rfl,rfl,rfl,rfl,rfl⟩
theorem Qw3 (hT:Qj P tab) {wc:Nat} {cells:List V} (hii:i=c.length) (hJ:l1J K s fu t ps es cs k0 k1 vm jc wc p c cells st0 i fr σ) :
 W P G 142 0 we fr σ (Y9 (fun _ _=>False) (l1E K s fu t ps es cs k0 k1 vm p c st0)):=by
 obtain ⟨wo,t',r,ow,hte,hrow,f0,f6,f7,f8,f9,f10,f31,f32,f33⟩:=hJ
 have hge:¬ (i:Int)<(c.length:Int):=by omega
 rw [hii,List.take_length] at hte f7 f8 f9
 generalize hst:L.mark s.lv s.ms.length st0 c=st at *
 refine Qf [(0,.ptr 0 K.s 0),(6,.mp (k0+10) vm),(7,.sl (k1+10) wo 0 1 (st.out.length+1) none),(8,.int .i64 (st.op:Int)),(9,.int .i64 (st.level:Int)),(10,.int .i64 p),(31,.sl (jc+10) wc 0 1 c.length none),(32,.int .i64 (c.length:Int)),(33,.int .i64 (i:Int))] ⟨f0,f6,f7,f8,f9,f10,f31,f32,f33,trivial⟩  1000 ?_
 simp -implicitDefEqProofs (disch:=omega) only [go_sem,↓reduceIte,reduceCtorEq,rq,hge]
 unfold l1E
 rw [hst]
 exact ⟨rfl,wo,t',r,ow,hte,rfl,rfl,rfl,rfl,rfl,rfl⟩
abbrev l2J (K:Vs) (s:S) (k0 k1 vm wo:Nat) (st:L) (σ0:H) (R:Option (Int × L)) (N M:Nat):Nat→Fr→H→Prop:=fun p fr σ=>p≤M∧Qjr N s p st∧s.walk (s.tr.take p).reverse st=R∧1≤st.op ∧
 Qg fr 0=.ptr 0 K.s 0∧Qg fr 6=.mp (k0+10) vm∧Qg fr 7=.sl (k1+10) wo 0 1 (st.out.length+1) none∧Qg fr 8=.int .i64 (st.op:Int)∧Qg fr 9=.int .i64 (st.level:Int)∧Qg fr 10=.int .i64 ((p:Int) - 1)∧σ=σ0
abbrev l2E (K:Vs) (s:S) (k0 k1 vm wo:Nat) (st:L) (σ0:H) (R:Option (Int × L)) (N M:Nat):AE→Fr→H→Prop:=fun e fr σ=>e=.ex 4∧∃ p l,p+1≤M∧s.tr[p]?=some l∧l.natAbs∈st.seen∧Qjr N s (p+1) st∧s.walk (s.tr.take (p+1)).reverse st=R ∧
 Qg fr 0=.ptr 0 K.s 0∧Qg fr 6=.mp (k0+10) vm∧Qg fr 7=.sl (k1+10) wo 0 1 (st.out.length+1) none∧Qg fr 8=.int .i64 (st.op:Int)∧Qg fr 9=.int .i64 (st.level:Int)∧Qg fr 10=.int .i64 (p:Int)∧σ=σ0
theorem Qpl {p:Nat} {l:Int} (hl:s.tr[p]?=some l) (h:l.natAbs ∉ st.seen):s.walk (s.tr.take (p+1)).reverse st=s.walk (s.tr.take p).reverse st:=by
 have htake:s.tr.take (p+1)=s.tr.take p++[l]:=by rw [List.take_add_one,hl]; rfl
 rw [htake,List.reverse_append,List.reverse_singleton,List.singleton_append]
 conv=>lhs; unfold S.walk
 rw [if_neg h]
theorem Qr5 (hT:Qj P tab) {M wo t':Nat} {r:List (Option Ob)} {R:Option (Int × L)} (hi:Inv N s) (hN:N≤1000) (hm:r[k0]?=some (some (.map vm (kn (sn st.seen)))))
 {m:Nat} (hJ:l2J K s k0 k1 vm wo st (hp K { s with he:=st.he } fu t' es cs ps r) R N M m fr σ) :
 W P G 142 0 (.seq (zg QgE [93,94,95,96,97,98,99,100,101,102] (zw 103 .skip (.exit 4))) (.block 5 (.reg QgD [104,105]))) fr σ (Y9 (fun fr σ=>∃ m' fr' σ',m'<m∧Shift G 142 0 fr σ fr' σ'∧l2J K s k0 k1 vm wo st (hp K { s with he:=st.he } fu t' es cs ps r) R N M m' fr' σ') (l2E K s k0 k1 vm wo st (hp K { s with he:=st.he } fu t' es cs ps r) R N M)):=by
 obtain ⟨hM,hs,hR,hop,f0,f6,f7,f8,f9,f10,rfl⟩:=hJ
 have hple:=hs.ple
 cases m with
 | zero=>have:=hs.opn; simp at this; omega
 | succ p =>
   have htl:=YT hi.tro
   have hpl:p<s.tr.length:=by omega
   obtain ⟨l,hl⟩:∃ l,s.tr[p]?=some l:=⟨_,List.getElem?_eq_getElem hpl⟩
   have hlN:=(hi.tro.1 l (List.mem_of_getElem? hl)).2
   have f10:Qg fr 10=.int .i64 (p:Int):=by rw [f10]; congr 1; omega
   have hD:(ints s.tr).getD p V.any=.int .i64 l:=Yx hl
   have habs:=QlL (P:=P) (G:=G) hT (n:=l) (by omega)
   have hopn:=hs.opn
   have htake:s.tr.take (p+1)=s.tr.take p++[l]:=by rw [List.take_add_one,hl]; rfl
   by_cases g1:l.natAbs∈st.seen
   ·have hlk:=QmF g1
    refine Qf [(0,.ptr 0 K.s 0),(6,.mp (k0+10) vm),(7,.sl (k1+10) wo 0 1 (st.out.length+1) none),(8,.int .i64 (st.op:Int)),(9,.int .i64 (st.level:Int)),(10,.int .i64 (p:Int))] ⟨f0,f6,f7,f8,f9,f10,trivial⟩  1000 ?_
    simp -implicitDefEqProofs (disch:=omega) only [go_sem,↓reduceIte,reduceCtorEq,rA,rq,rL,hp,sc,Qb,Int.toNat_natCast,hpl,hD]
    refine Qi hT X4 habs rfl 1000 ?_
    simp -implicitDefEqProofs (disch:=omega) only [go_sem,↓reduceIte,reduceCtorEq,rq,hm,Qbx,hlk,Int.reduceBEq]
    exact ⟨rfl,p,l,hM,hl,g1,hs,hR,rfl,rfl,rfl,rfl,rfl,rfl,rfl⟩
   ·have hlk:=QmG g1
    have hw:IntKind.i64.wrap ((p:Int) - 1)=(p:Int) - 1:=by
     rw [ZW] <;> (try omega)
     all_goals (first | (simp [IntKind.min,IntKind.signed,IntKind.bits]; omega) | (simp [IntKind.max,IntKind.signed,IntKind.bits]; omega))
    refine Qf [(0,.ptr 0 K.s 0),(6,.mp (k0+10) vm),(7,.sl (k1+10) wo 0 1 (st.out.length+1) none),(8,.int .i64 (st.op:Int)),(9,.int .i64 (st.level:Int)),(10,.int .i64 (p:Int))] ⟨f0,f6,f7,f8,f9,f10,trivial⟩  1000 ?_
    simp -implicitDefEqProofs (disch:=omega) only [go_sem,↓reduceIte,reduceCtorEq,rA,rq,rL,hp,sc,Qb,Int.toNat_natCast,hpl,hD]
    refine Qi hT X4 habs rfl 1000 ?_
    simp -implicitDefEqProofs (disch:=omega) only [go_sem,↓reduceIte,reduceCtorEq,rq,hm,Qbx,hlk,hw]
    refine ⟨p,_,_,Nat.lt_succ_self _,Shift.refl _ _ _ _,by omega,⟨by omega,hs.hlen,hs.heat,?_,hs.sn,hs.out,hs.outn,hs.lvl⟩,by rw [← Qpl hl g1]; exact hR,hop,rfl,rfl,rfl,rfl,rfl,rfl,rfl⟩
    rw [hopn,htake,List.countP_append]
    simp [cnt,g1]
end
section
attribute [local go_sem] nF aZ lR Nat.mul_one zA zL Qt X7 QtC QtB Qfa Qe9 Qe8 Qe7 Qe6 Qe5 Qe4 Qe3 QgE QgD QtA QkM QkL QkK QkJ QkI QkH QkG Qtz Qty Qtx Qon Qh5 Qh4 Qh3
abbrev l0J (K:Vs) (N:Nat) (s:S) (fu t:Nat) (ps:List V) (es:List (Int × V)) (cs:List V) (k0 k1 vm:Nat) (R:Option (Int × L)):Nat→Fr→H→Prop:=fun m fr σ =>
 ∃ st c cells jc wc wo t' r ow,Te K s fu t ps es cs k0 k1 vm wo t' st r ow σ∧r[jc]?=some (some (.arr wc 3 (ints c++cells)))∧jc≠k0∧jc≠k1∧c.length≤1000∧(∀ x∈c,∃ i,i<m∧s.tr[i]?=some (-x))∧Qjr N s m st ∧
   1≤(L.mark s.lv s.ms.length st c).op∧s.walk (s.tr.take m).reverse (L.mark s.lv s.ms.length st c)=R ∧
   Qg fr 0=.ptr 0 K.s 0∧Qg fr 6=.mp (k0+10) vm∧Qg fr 7=.sl (k1+10) wo 0 1 (st.out.length+1) none∧Qg fr 8=.int .i64 (st.op:Int)∧Qg fr 9=.int .i64 (st.level:Int)∧Qg fr 10=.int .i64 ((m:Int) - 1)∧Qg fr 11=.sl (jc+10) wc 0 1 c.length none
def Lq (K:Vs) (s:S) (fu t:Nat) (ps:List V) (es:List (Int × V)) (cs:List V) (k1:Nat) (l:Int) (st:L) (σ:H) (wo:Nat):Prop :=
 ∃ t' r ow,t≤t'∧RW s es cs r ow∧r[k1]?=some (some (.arr wo 3 (ints (-l::st.out))))∧ow k1=.no∧σ=hp K { s with he:=st.he } fu t' es cs ps r
abbrev l0E (K:Vs) (s:S) (fu t:Nat) (ps:List V) (es:List (Int × V)) (cs:List V) (k1:Nat) (R:Option (Int × L)):AE→Fr→H→Prop:=fun e fr σ =>
 e=.ret∧∃ l st wo,R=some (l,st)∧Qg fr 4=.sl (k1+10) wo 0 1 (st.out.length+1) none∧Qg fr 5=.int .i64 (st.level:Int)∧Lq K s fu t ps es cs k1 l st σ wo
variable {s:S}
theorem QwB {p:Nat} {st:L} {l:Int} (hl:s.tr[p]?=some l) (h:l.natAbs∈st.seen):s.walk (s.tr.take (p+1)).reverse st=if st.op=1 then some (l,st) else s.walk (s.tr.take p).reverse (L.mark s.lv s.ms.length { st with op:=st.op - 1 } (s.reason l)):=by
 have htake:s.tr.take (p+1)=s.tr.take p++[l]:=by rw [List.take_add_one,hl]; rfl
 rw [htake,List.reverse_append,List.reverse_singleton,List.singleton_append]
 conv=>lhs; unfold S.walk
 rw [if_pos h]
variable {es:List (Int × V)} {ps cs:List V} {K:Vs} {N fu t:Nat}
theorem Qr7 (hT:Qj P tab) {k0 k1 vm:Nat} {R:Option (Int × L)} (hi:Inv N s) (hb:Bd fu N s) (hDp:0<s.ms.length) {m:Nat} {fr:Fr} {σ:H} (hJ:l0J K N s fu t ps es cs k0 k1 vm R m fr σ) :
 W P G 142 0 (.block 1 (.seq (zg Qon [] (.block 2 (.loop (zg Qh5 [] (.seq (zw 34 .skip (.exit 2)) (.seq (.block 3 (zg Qh4 [35,36] (zg Qh3 [37,38] (.seq (zg Qfa [39,40,41,42,43,44,45,46,47,48,49,50,51] (zw 52 (.exit 3) .skip)) (zg Qe9 [53,54] (zg Qe8 [55,56,57,58,59,60,61,62,63] (.seq (zg Qe7 [64,65,66,67,68,69,70,71,72,73,74,75] (zw 76 (zg Qe6 [77,78] (.exit 3)) .skip)) (zg Qe5 [79,80,81,82] (.reg Qe4 [83,84,85,86,87,88,89,90,91]))))))))) (.reg Qe3 [92]))))))) (.seq (.block 4 (.loop (.seq (zg QgE [93,94,95,96,97,98,99,100,101,102] (zw 103 .skip (.exit 4))) (.block 5 (.reg QgD [104,105]))))) (zg QkM [106,107,108,109,110,111,112] (zg QkL [113,114] (.seq (zg QkK [115,116] (zg QkJ [117] (zw 118 (zg QkI [119,120,121,122] (zg QkH [123,124] .ret)) .skip))) (.reg QkG [125,126,127,128,129,130,131,132,133,134,135,136,137,138,139,140,141]))))))) fr σ (Y9 (fun fr σ=>∃ m' fr' σ',m'<m∧Shift G 142 0 fr σ fr' σ'∧l0J K N s fu t ps es cs k0 k1 vm R m' fr' σ') (l0E K s fu t ps es cs k1 R)):=by
 obtain ⟨st,c,cells,jc,wc,wo,t',r,ow,hte,hrow,hj0,hj1,hcl,hc,hs,hop,hR,f0,f6,f7,f8,f9,f10,f11⟩:=hJ
 have hbn:=hb.bn
 have htl:=YT hi.tro
 refine Qf [(0,.ptr 0 K.s 0),(6,.mp (k0+10) vm),(7,.sl (k1+10) wo 0 1 (st.out.length+1) none),(8,.int .i64 (st.op:Int)),(9,.int .i64 (st.level:Int)),(10,.int .i64 ((m:Int) - 1)),(11,.sl (jc+10) wc 0 1 c.length none)] ⟨f0,f6,f7,f8,f9,f10,f11,trivial⟩  1000 ?_
 simp -implicitDefEqProofs (disch:=omega) only [go_sem,↓reduceIte,reduceCtorEq,rq]
 refine XZ c (l1J K s fu t ps es cs k0 k1 vm jc wc ((m:Int) - 1) c cells st) (l1E K s fu t ps es cs k0 k1 vm ((m:Int) - 1) c st) ?_ (fun i x hx fr σ hJ=>Qr6 hT hi hb hs hc hj0 hj1 hcl hx hJ) (fun i hii fr σ hJ=>Qw3 hT hii hJ) (fun e fr σ hE=>?_)
 ·exact ⟨wo,t',r,ow,hte,hrow,rfl,rfl,rfl,rfl,rfl,rfl,rfl,rfl,rfl⟩
 obtain ⟨rfl,wo1,t1,r1,ow1,hte1,f0,f6,f7,f8,f9,f10⟩:=hE
 have hst1:=(Qb4 hi hs hc).1
 generalize hmk:L.mark s.lv s.ms.length st c=st1 at *
 obtain ⟨ht1,hrw1,hm1,hm01,ho1,ho01,hne1,rfl⟩:=hte1
 refine QQ [(0,.ptr 0 K.s 0),(6,.mp (k0+10) vm),(7,.sl (k1+10) wo1 0 1 (st1.out.length+1) none),(8,.int .i64 (st1.op:Int)),(9,.int .i64 (st1.level:Int)),(10,.int .i64 ((m:Int) - 1))] ⟨f0,f6,f7,f8,f9,f10,trivial⟩  6 ?_
 simp -implicitDefEqProofs (disch:=omega) only [go_sem]
 refine QC (l2J K s k0 k1 vm wo1 st1 (hp K { s with he:=st1.he } fu t1 es cs ps r1) R N m) (l2E K s k0 k1 vm wo1 st1 (hp K { s with he:=st1.he } fu t1 es cs ps r1) R N m) (m0:=m) ⟨lR _,hst1,hR,hop,rfl,rfl,rfl,rfl,rfl,rfl,rfl⟩ (fun m fr σ hJ=>Qr5 hT hi hbn.2 hm1 hJ) (fun e fr σ hE=>?_)
 obtain ⟨rfl,p,l,hpm,hl,hsn,hs2,hR2,f0,f6,f7,f8,f9,f10,rfl⟩:=hE
 have hpl:=(List.getElem?_eq_some_iff.1 hl).1
 have hlN:=(hi.tro.1 l (List.mem_of_getElem? hl)).2
 have hD:(ints s.tr).getD p V.any=.int .i64 l:=Yx hl
 have habs:=QlL (P:=P) (G:=G) hT (n:=l) (by omega)
 have hw1:IntKind.i64.wrap ((p:Int) - 1)=(p:Int) - 1:=by
  rw [ZW] <;> (try omega)
  all_goals (first | (simp [IntKind.min,IntKind.signed,IntKind.bits]; omega) | (simp [IntKind.max,IntKind.signed,IntKind.bits]; omega))
 have hw2:IntKind.i64.wrap ((st1.op:Int) - 1)=((st1.op - 1:Nat):Int):=by
  have hopb:st1.op≤1000:=by
   rw [hst1.opn]
   have:=List.countP_le_length (p:=cnt s st1.seen) (l:=s.tr.take m)
   rw [List.length_take] at this; omega
  rw [ZW] <;> (try omega)
  all_goals (first | (simp [IntKind.min,IntKind.signed,IntKind.bits]; omega) | (simp [IntKind.max,IntKind.signed,IntKind.bits]; omega))
 have hneg:IntKind.i64.wrap (0 - l)=-l:=by
  rw [QdQ (by omega)]; unfold neg; rw [if_neg (by omega)]
 have hk1l:=(List.getElem?_eq_some_iff.1 ho1).1
 have ho2:(r1++[some (.arr t1 3 [.int .i64 l])])[k1]?=some (some (.arr wo1 3 (ints (0::st1.out)))):=by rw [List.getElem?_append_left hk1l]; exact ho1
 rw [QwB hl hsn] at hR2
 by_cases g1:st1.op=1
 ·have g1':(((st1.op - 1:Nat):Int)==0)=true:=beq_iff_eq.2 (by omega)
  rw [if_pos g1] at hR2
  have hput:.int .i64 (-l)::(ints (0::st1.out)).drop 1=ints (-l::st1.out):=Qj3 (c:=0::st1.out) (x:=-l) (by simp)
  refine QQ [(0,.ptr 0 K.s 0),(6,.mp (k0+10) vm),(7,.sl (k1+10) wo1 0 1 (st1.out.length+1) none),(8,.int .i64 (st1.op:Int)),(9,.int .i64 (st1.level:Int)),(10,.int .i64 (p:Int))] ⟨f0,f6,f7,f8,f9,f10,trivial⟩  1000 ?_
  simp -implicitDefEqProofs (disch:=omega) only [go_sem,↓reduceIte,reduceCtorEq,rA,rq,rL,Int.reduceToNat,Int.reduceLE,hp,sc,Qb,Int.toNat_natCast,hpl,hD,hw1,hw2,List.getElem?_concat_length,Yp,g1',hneg,ho2,lC,hput]
  have hown:(if k1=r1.length then Own.no else ow1 k1)=.no:=(if_neg (by omega)).trans ho01
  exact ⟨rfl,l,st1,wo1,hR2.symm,rfl,rfl,t1+1,_,_,by omega,(hrw1.newno (some (.arr t1 3 [.int .i64 l]))).setno hown _,List.getElem?_set_self (by rw [lA]; omega),hown,by simp [hp,sc]⟩
 ·have g1':(((st1.op - 1:Nat):Int)==0)=false:=beq_eq_false_iff_ne.2 (by omega)
  rw [if_neg g1] at hR2
  obtain ⟨n2,c2,hre,hcl2,hreas,hlc,_,hfal,hst2,hst3,hop3⟩:=Qpk hi hDp hs2 hop hl hsn g1
  refine QQ [(0,.ptr 0 K.s 0),(6,.mp (k0+10) vm),(7,.sl (k1+10) wo1 0 1 (st1.out.length+1) none),(8,.int .i64 (st1.op:Int)),(9,.int .i64 (st1.level:Int)),(10,.int .i64 (p:Int))] ⟨f0,f6,f7,f8,f9,f10,trivial⟩  1000 ?_
  obtain ⟨j2,w2,hrow2,hcell2,hown2⟩:=hrw1.cl n2 c2 hcl2
  have hj2l:=(List.getElem?_eq_some_iff.1 hcell2).1
  have hln:l.natAbs<s.re.length:=by rw [hi.nre]; exact hlN
  have hRe:(ints s.re).getD l.natAbs V.any=.int .i64 (n2:Int):=by rw [Xb hln,hre]
  have hn2:n2<cs.length:=(List.getElem?_eq_some_iff.1 hrow2).1
  have hrD:cs.getD n2 V.any=.sl (j2+10) w2 0 1 c2.length none:=getD_some hrow2
  simp -implicitDefEqProofs (disch:=omega) only [go_sem,↓reduceIte,reduceCtorEq,rA,rq,rL,hp,sc,Qb,Int.toNat_natCast,hpl,hD,hw1,hw2,List.getElem?_concat_length,Yp,g1']
  refine Qi hT X4 habs rfl 1000 ?_
  simp -implicitDefEqProofs (disch:=omega) only [go_sem,↓reduceIte,reduceCtorEq,rq,Qb,Int.toNat_natCast,hln,hRe,hn2,hrD]
  have hc2ok:=hi.cls c2 (List.mem_of_getElem? hcl2)
  have hc2len:=YT hc2ok.2
  refine call hT Qu (QmX (c:=c2) (cells:=[]) (k:=j2+10) (w:=w2) (T:=3) hT ?_ ?_ ?_) 1000 fun v σ hv=>?_
  ·intro e; rw [e] at hc2ok; have:=hc2ok.1; simp at this
  ·omega
  ·simp only [List.getElem?_cons_succ,List.append_nil]
   rw [List.getElem?_append_left hj2l]; exact hcell2
  obtain ⟨rfl,rfl⟩:=hv
  simp -implicitDefEqProofs (disch:=omega) only [go_sem,↓reduceIte,reduceCtorEq,rq,lA,lC]
  have hbox:∀ ex,((hp K { s with he:=st1.he } fu t1 es cs ps (r1++[some (.arr t1 3 [.int .i64 l])])).o++ex)[r1.length+10]?=some (some (.arr t1 3 [.int .i64 l])):=fun ex=>by
   simp only [hp,cA,List.getElem?_cons_succ,aA]
   rw [List.getElem?_append_right (lR _)]; simp
  have hDel:=Qdl (P:=P) (G:=G) hT (base:=0) (t:=t1+1+1) (g:=Yw) (w:=t1+1) (o:=(hp K { s with he:=st1.he } fu t1 es cs ps (r1++[some (.arr t1 3 [.int .i64 l])])).o) (cap:=[.ptr (r1.length+10) t1 0]) (p:=fun n=>n==l) (c:=c2) (zL _) (fun w' cells=>Qnn hT (hbox _)) (by omega)
  have hol:(hp K { s with he:=st1.he } fu t1 es cs ps (r1++[some (.arr t1 3 [.int .i64 l])])).o.length=r1.length+11:=by simp [hp]
  rw [hol] at hDel
  refine call hT QD hDel 1000 fun v σ hv=>?_
  obtain ⟨t3,cells3,ht3,_,rfl,rfl⟩:=hv
  simp -implicitDefEqProofs (disch:=omega) only [go_sem,↓reduceIte,reduceCtorEq,rq]
  have hfe:(c2.filter fun n=>!(n==l))=s.reason l:=hreas.symm
  rw [hfe]
  have hk0l:=(List.getElem?_eq_some_iff.1 hm1).1
  have hown:∀ k,k<r1.length→ow1 k=.no→(if k=(r1++[some (Ob.arr t1 3 [.int .i64 l])]).length then Own.no else if k=r1.length then Own.no else ow1 k)=.no:=fun k hk h=>by
   rw [if_neg (by rw [lA]; omega),if_neg (by omega)]; exact h
  refine ⟨p,_,_,by omega,Shift.refl _ _ _ _,{ st1 with op:=st1.op - 1 },s.reason l,cells3,r1.length+1,t1+1,wo1,t3,r1++[some (.arr t1 3 [.int .i64 l])]++[some (.arr (t1+1) 3 (ints (s.reason l)++cells3))],_,
   ⟨by omega,(hrw1.newno (some (.arr t1 3 [.int .i64 l]))).newno (some (.arr (t1+1) 3 (ints (s.reason l)++cells3))),?_,hown k0 hk0l hm01,?_,hown k1 hk1l ho01,hne1,?_⟩,?_,by omega,by omega,?_,hfal,hst2,hop3,hR2,rfl,rfl,rfl,rfl,rfl,rfl,rfl⟩
  ·rw [aA,List.getElem?_append_left hk0l]; exact hm1
  ·rw [aA,List.getElem?_append_left hk1l]; exact ho1
  ·simp [hp,sc]
  ·rw [List.getElem?_append_right (by rw [lA]; exact lR _)]; simp
  ·have:=List.length_filter_le (fun x=>x != l) c2
   rw [hreas]; omega
theorem Qxs (hT:Qj P tab) {n:Nat} {rest:List (Option Ob)} {ow:Nat→Own} (hi:Inv N s) (hb:Bd fu N s) (hw:RW s es cs rest ow) (hDp:0<s.ms.length) {c:List Int} (hc:s.cl[n]?=some c) (hf:∀ x∈c,-x∈s.tr) {y:Int} (hy:y∈c) (hyl:s.lev y=s.ms.length) {d:List Int} {level:Nat} {he:List Nat} (e:s.learn n=some (d,level,{ s with he:=he })) :
 C P G 0 QaT [.ptr 0 K.s 0,.int .i64 (n:Int)] (hp K s fu t es cs ps rest) fun v σ=>∃ k wo t' r ow',t≤t'∧v=.tup [.sl (k+10) wo 0 1 d.length none,.int .i64 (level:Int)]∧RW s es cs r ow'∧r[k]?=some (some (.arr wo 3 (ints d)))∧ow' k=.no∧σ=hp K { s with he:=he } fu t' es cs ps r:=by
 obtain ⟨j,w,hrow,hcell,hown⟩:=hw.cl n c hc
 have hjl:=(List.getElem?_eq_some_iff.1 hcell).1
 have hn2:n<cs.length:=(List.getElem?_eq_some_iff.1 hrow).1
 have hrD:cs.getD n V.any=.sl (j+10) w 0 1 c.length none:=getD_some hrow
 have hbn:=hb.bn
 have htl:=YT hi.tro
 refine QF hT QaI (by simp [X7]) (Qx 1000 ?_)
 have htpos:0<s.tr.length:=List.length_pos_iff.2 (fun e=>by have:=hf y hy; rw [e] at this; cases this)
 have hw1:IntKind.i64.wrap ((s.tr.length:Int) - 1)=(s.tr.length:Int) - 1:=by
  rw [ZW] <;> (try omega)
  all_goals (first | (simp [IntKind.min,IntKind.signed,IntKind.bits]; omega) | (simp [IntKind.max,IntKind.signed,IntKind.bits]; omega))
 have hz:0=(s.tr.take s.tr.length).countP (cnt s []):=by
  rw [eq_comm,List.countP_eq_zero]
  intro x hx; simp [cnt]
 have hs0:Qjr N s s.tr.length ⟨[],[],0,0,s.he⟩:=⟨lR _,hi.nhe,(fun v=>by simp),hz,(fun v hv=>by cases hv),(fun x hx=>by cases hx),(by simp),.inl ⟨rfl,rfl⟩⟩
 have hff:∀ x∈c,∃ j,j<s.tr.length∧s.tr[j]?=some (-x):=fun x hx=>by
  obtain ⟨i,hi⟩:=List.getElem?_of_mem (hf x hx)
  exact ⟨i,(List.getElem?_eq_some_iff.1 hi).1,hi⟩
 have hm:=Qb4 hi hs0 (c:=c) hff
 have hop:1≤(L.mark s.lv s.ms.length ⟨[],[],0,0,s.he⟩ c).op:=by
  rw [hm.1.opn,List.take_length]
  refine List.countP_pos_iff.2 ⟨-y,hf y hy,?_⟩
  simp only [cnt,Bool.and_eq_true,decide_eq_true_eq,Qdg,Int.natAbs_neg]
  exact ⟨hm.2.2 y hy (by omega),hyl⟩
 unfold S.learn at e
 rw [getD_some hc,Option.map_eq_some_iff] at e
 obtain ⟨⟨l,st⟩,e1,e2⟩:=e
 have hd:d=-l::st.out:=(Prod.mk.inj e2).1.symm
 have hlevel:level=st.level:=(Prod.mk.inj (Prod.mk.inj e2).2).1.symm
 have hhe:he=st.he:=by
  have:=(Prod.mk.inj (Prod.mk.inj e2).2).2
  exact (congrArg S.he this).symm
 have hcok:=hi.cls c (List.mem_of_getElem? hc)
 have hclen:=YT hcok.2
 simp -implicitDefEqProofs (disch:=omega) only [go_sem,↓reduceIte,reduceCtorEq,rA,rq,rL,hp,sc,Int.toNat_natCast,hn2,hrD,hw1]
 refine QC (l0J K N s fu t ps es cs rest.length (rest.length+1) t (some (l,st))) (l0E K s fu t ps es cs (rest.length+1) (some (l,st))) (m0:=s.tr.length) ?_ (fun m fr σ hJ=>Qr7 hT hi hb hDp hJ) (fun e fr σ hE=>?_)
 ·refine ⟨⟨[],[],0,0,s.he⟩,c,[],j,w,t+1,t+2,rest++[some (.map t [])]++[some (.arr (t+1) 3 [.int .i64 0])],_,⟨by omega,(hw.newno (some (.map t []))).newno (some (.arr (t+1) 3 [.int .i64 0])),?_,?_,?_,?_,by omega,?_⟩,?_,by omega,by omega,by omega,hff,hs0,hop,by rw [List.take_length]; exact e1,rfl,rfl,by simp [Qg],rfl,rfl,rfl,rfl⟩
  ·rw [aA,List.getElem?_append_right (lR _)]; simp [sn,kn,im]
  ·simp
  ·rw [List.getElem?_append_right (by simp)]; simp [ints]
  ·simp
  ·simp [hp,sc]
  ·rw [aA,List.getElem?_append_left hjl,List.append_nil]; exact hcell
 ·obtain ⟨rfl,l2,st2,wo,hR,f4,f5,t',r,ow',ht',hrw,hrow',hown',rfl⟩:=hE
  cases hR
  refine Qc 1000 ?_
  simp -implicitDefEqProofs (disch:=omega) only [go_sem,f4,f5]
  rw [hd,hlevel,hhe]
  exact ⟨rest.length+1,wo,t',r,ow',ht',rfl,hrw,hrow',hown',rfl⟩
end
end Go.Proofs.Ytingdebioipemaa
namespace Go.Proofs.Ytingdebioipemaa
open Go Go.Am Go.Cl Go.Sat
set_option maxRecDepth 100000
variable {G:Nat→Option V}
def PfOk (ps:List V) (pf:List (List Int)):Prop:=ps.length=pf.length∧∀ (i:Nat) (p:List Int),pf[i]?=some p→∃ z b,ps[i]?=some (.lst z (ints p) b)∧(p=[]∨z=1)
theorem PfOk.snoc {ps:List V} {pf:List (List Int)} (h:PfOk ps pf) {p:List Int} {z:Nat} {b:Bool} (hp:p=[]∨z=1):PfOk (ps++[.lst z (ints p) b]) (pf++[p]):=by
 refine ⟨by simp [h.1],fun i q hq=>?_⟩
 rw [List.getElem?_append] at hq
 split at hq
 ·rename_i hi
  obtain ⟨z',b',h1,h2⟩:=h.2 i q hq
  exact ⟨z',b',by rw [List.getElem?_append_left (by rw [h.1]; exact hi)]; exact h1,h2⟩
 ·have hi0:i - pf.length=0:=by
   rcases Nat.eq_zero_or_pos (i - pf.length) with e | e
   ·exact e
   ·rw [List.getElem?_eq_none (by simp; omega)] at hq; cases hq
  rw [hi0] at hq
  simp at hq
  subst hq
  have:i=ps.length:=by rw [h.1]; omega
  subst this
  exact ⟨z,b,by simp,hp⟩
theorem Qlm (g:V→V) (o:List (Option Ob)):Xw g o.length (o++[none])=o++[none]:=by
 refine List.ext_getElem? fun i=>?_
 rw [ZB]
 split
 ·rfl
 ·rename_i h
  rw [List.getElem?_append_right (by omega)]
  cases hk:i - o.length with
  | zero=>rfl
  | succ n=>simp
theorem Qsz (hT:Qj Try.prog tab) (c:List Int) (hne:c≠[]) (hb:∀ n∈c,-9223372036854775808≤n∧n≤9223372036854775807) (hl:c.length≤1000000) {t k w0 T:Nat} {o:List (Option Ob)} (ho:o[k]?=some (some (.arr w0 T (ints c)))) :
 C Try.prog G o.length YM [.sl k w0 0 1 c.length none] ⟨t,o⟩ fun u σ=>∃ t' z b,t≤t'∧u=.tup [.lst z (ints (Qs c).1) b,.bool (Qs c).2]∧((Qs c).1=[]∨z=1)∧σ=⟨t',o++[none]⟩:=by
 refine Qm4 (Qjl hT c hb hl (lR _) fun b=>(QmX (cells:=[]) hT hne hl (by rw [List.append_nil]; exact ho)).conseq fun v σ ⟨h1,h2⟩=>⟨t+1,t,by omega,h1,h2⟩) fun u σ ⟨t',w,x,ht,hσ,hn,hu⟩=>?_
 subst hσ
 refine ⟨o.length,w,3,x,lR _,by simp,hn,?_⟩
 rw [show (o++[some (Ob.arr w 3 x)]).set o.length none=o++[none] from Yp _ _ _,Qlm]
 rcases hu with ⟨rfl,hu⟩ | ⟨q,cells,hcl,rfl,rfl⟩
 ·refine ⟨t',0,true,ht,?_,.inl (by rw [hu]),rfl⟩
  rw [hu]; simp [YU,Qgd,ints]
 ·rw [hcl]
  refine ⟨t',1,false,ht,?_,.inr rfl,rfl⟩
  simp [YU,Qgd,Qac,Qb]
end Go.Proofs.Ytingdebioipemaa
