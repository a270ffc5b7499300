/- Plain: what the ends of a made world hold, as the law of Fresh asks it. -/
import Derived.Test.YtfgccihafnjalaaGreatDoorJ11
import Derived.Test.YtfgccihafnjalaaGreatDoorJ13
import Derived.Test.YtfgccihafnjalaaGreatDoorJ12
import Derived.Test.YtfgccihafnjalaaGreatDoorY
open Nat renaming reduceEqDiff → rq, reduceAdd → rA, reduceLeDiff → rL, reduceLT → rT, zero_add → zA, le_refl → lR, zero_le → zL, add_zero → aZ
open List renaming length_cons → lC, length_nil → lN, take_succ_cons → tS, length_append → lA, nil_append → nA, cons_append → cA, append_assoc → aA, take_nil → tN, take_zero → tZ, length_map → lM
open Bool renaming not_false → nF, not_true → nT
namespace Go.Proofs.YtfgccihafnjalaaGreatDoor
open Go Go.Am Go.Re
set_option maxRecDepth 100000
structure PsOk (ps:List Pr) (vars:Nat):Prop where
 k:∀ p∈ps,p.k=1∨p.k=2∨p.k=3
 v:∀ p∈ps,-1≤p.v∧p.v<vars
variable {vars:Nat} {ps:List Pr}
theorem PsOk.k0 (h:PsOk ps vars):∀ p∈ps,p.k≠0:=fun p hp=>by have:=h.k p hp; omega
variable {v b c:Int}
theorem vE_in (h:-1≤v∧v<vars):vE v∈Qgo vars ps:=by
 unfold Qgo
 by_cases e:v=-1
 ·subst e; exact List.mem_cons_self
 ·refine List.mem_cons_of_mem _ (List.mem_append_left _ ?_)
  unfold vEs
  refine List.mem_map.2 ⟨v.toNat,List.mem_range.2 (by omega),?_⟩
  rw [Int.toNat_of_nonneg (by omega)]
def hvW (L:List Nd) (ps:List Pr) (b:Int) (vars:Nat) (v:Int):Int:=ZV L (Qp (ties ps)) (frS ps b vars).1 (vE v)
variable {L:List Nd}
theorem Qfs (hA:AllH L (frS ps b vars).1) (h:-1≤v∧v<vars):∃ t,val ps b (Qgo vars ps) (vE v)=some t∧hvW L ps b vars v=Xc L (tmN t)∧Hs L (tmN t):=by
 obtain ⟨t,ht⟩:=Option.isSome_iff_exists.1 (Qt5 (l:=ps) (b0:=b) (vE_in (vars:=vars) (ps:=ps) h))
 have h2:Re.get (frS ps b vars).1 (Qi (Qp (ties ps)) (vE v))=some t:=ht
 exact ⟨t,ht,XZ h2,hA.get h2⟩
theorem QAD {u:Int} (h:Conn (ties ps) (vE v) (vE u)):hvW L ps b vars u=hvW L ps b vars v:=by
 unfold hvW ZV
 rw [(Qbf (ties ps) _ _).2 h]
variable {p:Pr}
theorem Qys (hp:p∈ps):ZV L (Qp (ties ps)) (frS ps b vars).1 (pE p)=hvW L ps b vars p.v:=by
 unfold hvW ZV
 rw [(Qbf (ties ps) (pE p) (vE p.v)).2 (.bwd (.refl _) (List.mem_map.2 ⟨p,hp,rfl⟩))]
variable {inn l:List Int}
theorem QIx (hA:AllH L (frS ps b vars).1) (h:-1≤v∧v<vars) (hk:∀ p∈ps,p.k≠0) (hT:TiedOk ps v inn) {l1 l2:List Pr} (he:ps=l1++p::l2) (h1:∀ q∈l1,¬ (q.k=3∧q.v∈inn)) (h3:p.k=3) (hv:p.v∈inn):hvW L ps b vars v=Xc L (co p.n)∧Hs L (co p.n):=by
 obtain ⟨t,ht,e,hh⟩:=Qfs hA h
 have hc:val ps b (Qgo vars ps) (vE v)=some (.c p.n):=by
  refine Qis.2 ?_
  have hf:(ps.find? fun q=>decide (q.k=3∧Qi (Qp (ties ps)) (vE q.v)=Qi (Qp (ties ps)) (vE v)))=some p:=by
   have hx:∀ q:Pr,(q.k=3∧Qi (Qp (ties ps)) (vE q.v)=Qi (Qp (ties ps)) (vE v))↔(q.k=3∧q.v∈inn):=fun q=>by
    rw [hT.iff hk q.v,← Qbf]
    exact ⟨fun ⟨a,c⟩=>⟨a,c.symm⟩,fun ⟨a,c⟩=>⟨a,c.symm⟩⟩
   simp only [hx]
   rw [he,List.find?_append,List.find?_eq_none.2 (fun q hq=>by simpa using fun a=>h1 q hq |> fun c d=>c ⟨a,d⟩)]
   simp [h3,hv]
  rw [hf]; rfl
 rw [hc] at ht
 cases ht
 exact ⟨e,hh⟩
theorem QIw (hA:AllH L (frS ps b vars).1) (h:-1≤v∧v<vars) (hk:∀ p∈ps,p.k≠0) (hT:TiedOk ps v inn) (h1:∀ q∈ps,¬ (q.k=3∧q.v∈inn)) :
 ∃ c,hvW L ps b vars v=Xc L (sy c)∧Hs L (sy c)∧b≤c∧c<(frS ps b vars).2∧∀ u:Int,-1≤u∧u<vars→u ∉ inn→hvW L ps b vars u≠hvW L ps b vars v:=by
 obtain ⟨t,ht,e,hh⟩:=Qfs hA h
 cases t with
 | c n =>
   obtain ⟨q,hq,h3,hc⟩:=Qoi.1 ⟨n,ht⟩
   exact absurd ⟨h3,(hT.iff hk q.v).2 hc⟩ (h1 q hq)
 | s c =>
   have hs:=Qxn ht
   refine ⟨c,e,hh,hs.1,hs.2,fun u hu hni hq=>?_⟩
   obtain ⟨t',ht',e',hh'⟩:=Qfs hA hu
   rw [e,e'] at hq
   have h2:=(Qf3 hh' hh).1 hq
   cases t' with
   | c n=>simp [tmN,co,sy] at h2
   | s c' =>
     have:c'=c:=by simpa [tmN,sy] using h2
     subst this
     exact hni ((hT.iff hk u).2 (Qxo ht ht'))
theorem Qtj (hA:AllH L (frS ps b vars).1) (h:-1≤v∧v<vars) (hs:Hs L (sy c)) (hc:c<b):Xc L (sy c)≠hvW L ps b vars v:=fun hq=>by
 obtain ⟨t,ht,e,hh⟩:=Qfs hA h
 rw [e] at hq
 have h2:=(Qf3 hs hh).1 hq
 cases t with
 | c n=>simp [tmN,co,sy] at h2
 | s c' =>
   have e2:c=c':=by simpa [tmN,sy] using h2
   have:=Qxn ht
   omega
theorem frS_le:b≤(frS ps b vars).2:=top_le ps b (Qgo vars ps)
def Xb (ps:List Pr) (k n:Int):Bool:=ps.any fun p=>decide (p.k=k∧p.n=n)
def rNo (b:Int) (r:Nat):Int:=b+(if r=1 then 0 else (r:Int) - 2)
theorem QsU {r:Nat} (h1:1≤r) (h2:r≠2):Qfd L b r=Xc L (sy (rNo b r)):=by
 unfold Qfd QqR rNo
 rw [if_neg h2,if_neg (by omega)]
def Qge (ps:List Pr) (b:Int):Nat→List Int
 | 0=>[]
 | r+1=>Qge ps b r++if 1≤r∧r≠2∧Xb ps 1 (r:Int)=false then [rNo b r] else []
def Qh6 (ps:List Pr) (b:Int):Nat→List Int
 | 0=>[]
 | i+1=>Qh6 ps b i++if Xb ps 2 (i:Int)=false then [b+30+(i:Int)] else []
theorem Qh7 {ps:List Pr} {b:Int}:∀ {k:Nat} {c:Int},c∈Qge ps b k→∃ r,1≤r∧r<k∧r≠2∧c=rNo b r
 | 0,c,h=>by simp [Qge] at h
 | k+1,c,h=>by
   unfold Qge at h
   rcases List.mem_append.1 h with h | h
   ·obtain ⟨r,h1,h2,h3,h4⟩:=Qh7 h; exact ⟨r,h1,by omega,h3,h4⟩
   ·split at h
    ·rename_i hc
     rw [List.mem_singleton] at h
     exact ⟨k,hc.1,by omega,hc.2.1,h⟩
    ·simp at h
theorem Qh5 {ps:List Pr} {b:Int}:∀ {k:Nat} {c:Int},c∈Qh6 ps b k→∃ i:Nat,i<k∧c=b+30+(i:Int)
 | 0,c,h=>by simp [Qh6] at h
 | k+1,c,h=>by
   unfold Qh6 at h
   rcases List.mem_append.1 h with h | h
   ·obtain ⟨r,h1,h2⟩:=Qh5 h; exact ⟨r,by omega,h2⟩
   ·split at h
    ·rw [List.mem_singleton] at h; exact ⟨k,by omega,h⟩
    ·simp at h
theorem Qoq {x:Int} (h:l.Nodup) (hx:x ∉ l):(l++[x]).Nodup:=by
 rw [List.nodup_append]
 refine ⟨h,by simp,fun a ha b hb e=>?_⟩
 rw [List.mem_singleton] at hb
 subst e hb; exact hx ha
theorem QpF {ps:List Pr} {b:Int}:∀ k:Nat,(Qge ps b k).Nodup
 | 0=>by simp [Qge]
 | k+1=>by
   unfold Qge
   split
   ·rename_i hc
    refine Qoq (QpF k) fun hm=>?_
    obtain ⟨r,h1,h2,h3,h4⟩:=Qh7 hm
    unfold rNo at h4
    by_cases e1:k=1
    ·omega
    ·rw [if_neg e1] at h4
     by_cases e2:r=1
     ·rw [if_pos e2] at h4; omega
     ·rw [if_neg e2] at h4; omega
   ·rw [List.append_nil]; exact QpF k
theorem QpE {ps:List Pr} {b:Int}:∀ k:Nat,(Qh6 ps b k).Nodup
 | 0=>by simp [Qh6]
 | k+1=>by
   unfold Qh6
   split
   ·refine Qoq (QpE k) fun hm=>?_
    obtain ⟨r,h1,h2⟩:=Qh5 hm
    omega
   ·rw [List.append_nil]; exact QpE k
theorem Qh8 (ps:List Pr) (b:Int):∀ k:Nat,(Qge ps b k).length≤k
 | 0=>by simp [Qge]
 | k+1=>by have:=Qh8 ps b k; unfold Qge; rw [lA]; split <;> simp <;> omega
theorem Qmr (ps:List Pr) (b:Int):∀ k:Nat,(Qh6 ps b k).length≤k
 | 0=>by simp [Qh6]
 | k+1=>by have:=Qmr ps b k; unfold Qh6; rw [lA]; split <;> simp <;> omega
def Qrh (ps:List Pr) (b:Int) (cnt:Nat):List Int:=Qge ps b 32++Qh6 ps b cnt
theorem QAS (ps:List Pr) (b:Int) (cnt:Nat):(Qrh ps b cnt).Nodup:=by
 unfold Qrh
 rw [List.nodup_append]
 refine ⟨QpF 32,QpE cnt,fun x hx y hy e=>?_⟩
 subst e
 obtain ⟨r,h1,h2,h3,h4⟩:=Qh7 hx
 obtain ⟨i,h5,h6⟩:=Qh5 hy
 unfold rNo at h4
 split at h4 <;> omega
theorem QAR {cnt:Nat} (hR:AllR L b 32) (hS:AllS L b cnt) (h:c∈Qrh ps b cnt):b≤c∧c<b+30+((cnt:Nat):Int)∧Hs L (sy c):=by
 unfold Qrh at h
 rcases List.mem_append.1 h with h | h
 ·obtain ⟨r,h1,h2,h3,h4⟩:=Qh7 h
  have:=hR r h2 h3
  unfold QqR at this
  rw [if_neg (by omega)] at this
  have e:c=b+(if r=1 then 0 else (r:Int) - 2):=h4
  rw [← e] at this
  refine ⟨?_,?_,this⟩ <;> (split at e <;> omega)
 ·obtain ⟨i,h1,h2⟩:=Qh5 h
  subst h2
  exact ⟨by omega,by omega,hS i h1⟩
def QiO (L:List Nd) (l:List Int):List V:=l.map fun c=>.int .i64 (Xc L (sy c))
theorem Qde (L:List Nd) (l:List Int):(QiO L l).length=l.length:=by simp [QiO]
theorem QAP {i:Nat} (h:l[i]?=some c):(QiO L l)[i]?=some (.int .i64 (Xc L (sy c))):=by simp [QiO,h]
theorem QoD (L:List Nd) (l:List Int) (c:Int):QiO L l++[.int .i64 (Xc L (sy c))]=QiO L (l++[c]):=by simp [QiO]
variable {P:Program} {G:Nat→Option V}
section
attribute [local go_sem] nF nT aA cA List.getD_cons_succ List.getD_cons_zero lA lC lN nA List.set_cons_succ List.set_cons_zero aZ lR Nat.mul_one Nat.one_mul Nat.succ_ne_zero zA zL Nat.zero_mul Option.getD_none Option.getD_some Option.isSome_none Option.isSome_some and_true beq_self_eq_true bne_self_eq_false decide_false decide_true false_implies ge_iff_le gt_iff_lt Qj Qz not_false_eq_true not_true_eq_false proofmarklaw25_holds zqj_0 zqj_1 Qjn Qqz Qqy Qqx Qqw Qqv Qqu Qqt Qqs QBO zqj_2 QBN QBM QBL Qqr Qqq Qqp Qjm Qjl Qjk Qqo zqj_3 Qqn Qqm QBK zqj_4 QwJ QwI QwH Qql Qqk Qk true_and true_implies
variable {σ σ0:Am.H} {fr:Fr} {inn vs rs ss:List Int} {wv:List V} {vars bh x v lk:Int} {tg sure num:Bool} {ps:List Pr} {L:List Nd} {v0 v1 i:Nat}
theorem QID (hT:Qh P tab) (F:Fmt P G) {nx:Int} (hi:i=ps.length) (hJ:h0J F v0 v1 L ps tg vars nx bh x wv inn i fr σ) :
 W P G 174 0 wH fr σ (YH (fun _ _=>False) (h0E F v0 v1 L ps vars nx bh x wv inn)):=by
 obtain ⟨num,L',t',w2,w3,w4,hn,hE,hLl,f0,f2,f4,f5,f6,f8,f15,f16,f17,f18,rfl⟩:=hJ
 rw [hi,List.take_length] at hn
 refine Qe [(0,.ptr 1 v0 0),(2,.lst 3 (prs ps) tg),(4,.int .i64 vars),(5,.int .i64 nx),(6,.int .i64 bh),(8,.ref (.agg wv) 0),(15,.lst 1 (ints inn) false),(16,.int .i64 x),(17,.bool num),(18,.int .i64 ((i:Nat):Int))] ⟨f0,f2,f4,f5,f6,f8,f15,f16,f17,f18,trivial⟩  12 ?_
 refine yd ?_
 refine ⟨num,L',t',w2,w3,w4,rfl,hn,hE,by split at hLl <;> omega,?_⟩
 repeat' (first | exact rfl | refine ⟨rfl,?_⟩)
abbrev h2J (vars x:Int) (wv:List V) (inn:List Int) (num:Bool) (σ0:Am.H):Nat→Fr→H→Prop:=fun i fr σ=>∃ u:Int,u=((i:Nat):Int) - 1∧Qf fr 4=.int .i64 vars∧Qf fr 8=.ref (.agg wv) 0∧Qf fr 15=.lst 1 (ints inn) false∧Qf fr 16=.int .i64 x∧Qf fr 17=.bool num∧Qf fr 23=.int .i64 u∧σ=σ0
theorem QAF (hT:Qh P tab) {nx bh:Int} {L:List Nd} {ps:List Pr} (hr:rs.length=32) (hvl:vars≤vs.length) (hil:inn.length≤1000000) (hvs:vs.length≤1000000) (hne:num=false→∀ u:Int,-1≤u∧u<vars→u ∉ inn→hW vs lk u≠hW vs lk v) (hi:((i:Nat):Int) - 1<vars) (hJ:h2J vars (hW vs lk v) (wV vs lk rs ss sure) inn num σ0 i fr σ) :
 W P G 174 0 wj fr σ (YH (fun fr σ=>∃ fr' σ',Shift G 174 0 fr σ fr' σ'∧h2J vars (hW vs lk v) (wV vs lk rs ss sure) inn num σ0 (i+1) fr' σ') (fun e _ σ=>e=.ex 4∧σ=σ0)):=by
 obtain ⟨u,hu,f4,f8,f15,f16,f17,f23,rfl⟩:=hJ
 obtain ⟨x,hx⟩:∃ x,x=hW vs lk v:=⟨_,rfl⟩
 have hwn:=QsC vs lk rs ss sure
 have hwl:(wV vs lk rs ss sure).length=36:=by simp [wV,Qj,hr]
 have htk:List.take 36 (wV vs lk rs ss sure)=wV vs lk rs ss sure:=List.take_of_length_le (by omega)
 have hhe:=QuR (P:=P) (G:=G) hT vs lk rs ss sure hr (v:=u) (by omega) (by omega)
 obtain ⟨wv,hwv⟩:∃ wv,wv=wV vs lk rs ss sure:=⟨_,rfl⟩
 rw [← hwv] at f8 hwn hwl hhe htk ⊢
 rw [← hx] at f16 hne ⊢
 have hlt:u<vars:=by omega
 have e2:IntKind.i64.wrap (u+1)=u+1:=QcU (by omega)
 cases num with
 | true =>
   refine Qe [(4,.int .i64 vars),(8,.ref (.agg wv) 0),(15,.lst 1 (ints inn) false),(16,.int .i64 x),(17,.bool true),(23,.int .i64 u)] ⟨f4,f8,f15,f16,f17,f23,trivial⟩  12 ?_
   refine yc ?_
   iterate 12 (try (refine Qa 4 ?_; simp -implicitDefEqProofs (disch:=omega) only [go_sem]))
 | false =>
   refine Qe [(4,.int .i64 vars),(8,.ref (.agg wv) 0),(15,.lst 1 (ints inn) false),(16,.int .i64 x),(17,.bool false),(23,.int .i64 u)] ⟨f4,f8,f15,f16,f17,f23,trivial⟩  28 ?_
   refine yc ?_
   refine XS inn (h3J vars x wv inn false u _) (h3E vars x wv inn false u σ) ⟨false,by simp,?_⟩ (fun k y hk fr σ' hJ=>QAE hT hk hil hJ) (fun k hk fr σ' hJ=>QIA hT hk hJ) (fun e fr σ' hE=>?_)
   ·refine ya ?_
    try simp
   ·obtain ⟨b,rfl,hb,f4,f8,f15,f16,f17,f23,f24,rfl⟩:=hE
    by_cases hin:u∈inn
    ·rw [decide_eq_true hin] at hb
     subst hb
     refine QV [(4,.int .i64 vars),(8,.ref (.agg wv) 0),(15,.lst 1 (ints inn) false),(16,.int .i64 x),(17,.bool false),(23,.int .i64 u),(24,.bool true)] ⟨f4,f8,f15,f16,f17,f23,f24,trivial⟩  30 ?_
     refine yf ?_
     iterate 12 (try (refine Qa 4 ?_; simp -implicitDefEqProofs (disch:=omega) only [go_sem,↓reduceIte,reduceCtorEq,rA,rq,rL,rT,Nat.reduceSub,Nat.reduceMul,Int.reduceToNat,Int.reduceLE,Int.reduceLT,Int.reduceEq,Int.reduceNe,Nat.reduceBEq,Nat.reduceBNe,Int.reduceBEq,List.getElem?_cons_zero,List.getElem?_cons_succ,e2,hwl,htk]))
     refine ⟨_,_,Shift.refl _ _ _ _,u+1,by omega,?_⟩
     exact yb
    ·rw [decide_eq_false hin] at hb
     subst hb
     have hnx:(hW vs lk u==x)=false:=by simpa using hne rfl u ⟨by omega,hlt⟩ hin
     have hhn:Qb [V.agg wv,.int .i64 u]=true:=by simp [Qb,Qd,hwn]
     refine QV [(4,.int .i64 vars),(8,.ref (.agg wv) 0),(15,.lst 1 (ints inn) false),(16,.int .i64 x),(17,.bool false),(23,.int .i64 u),(24,.bool false)] ⟨f4,f8,f15,f16,f17,f23,f24,trivial⟩  30 ?_
     refine yq ?_
     iterate 12 (try (refine Qa 4 ?_; simp -implicitDefEqProofs (disch:=omega) only [go_sem,↓reduceIte,reduceCtorEq,rA,rq,rL,rT,Nat.reduceSub,Nat.reduceMul,Int.reduceToNat,Int.reduceLE,Int.reduceLT,Int.reduceEq,Int.reduceNe,Nat.reduceBEq,Nat.reduceBNe,Int.reduceBEq,List.getElem?_cons_zero,List.getElem?_cons_succ,e2,hwl,htk]))
     refine QX hT QM hhe hhn 4 ?_
     simp -implicitDefEqProofs (disch:=omega) only [go_sem,↓reduceIte,rA,rq,hnx]
     iterate 12 (try (refine Qa 4 ?_; simp -implicitDefEqProofs (disch:=omega) only [go_sem,↓reduceIte,rq,e2]))
     refine ⟨_,_,Shift.refl _ _ _ _,u+1,by omega,?_⟩
     exact yb
theorem QIB (hT:Qh P tab) (hi:((i:Nat):Int) - 1=vars) (hJ:h2J vars x wv inn num σ0 i fr σ) :
 W P G 174 0 wj fr σ (YH (fun _ _=>False) (fun e _ σ=>e=.ex 4∧σ=σ0)):=by
 obtain ⟨u,hu,f4,f8,f15,f16,f17,f23,rfl⟩:=hJ
 have hlt:¬ u<vars:=by omega
 refine Qe [(4,.int .i64 vars),(8,.ref (.agg wv) 0),(15,.lst 1 (ints inn) false),(16,.int .i64 x),(17,.bool num),(23,.int .i64 u)] ⟨f4,f8,f15,f16,f17,f23,trivial⟩  20 ?_
 simp -implicitDefEqProofs (disch:=omega) only [go_sem,↓reduceIte,rq,hlt]
theorem QE7 (hT:Qh P tab) {nx bh:Int} {L:List Nd} {ps:List Pr} (hr:rs.length=32) (hvl:vars≤vs.length) (hv0:0≤vars) (hil:inn.length≤1000000) (hvs:vs.length≤1000000) (hne:num=false→∀ u:Int,-1≤u∧u<vars→u ∉ inn→hW vs lk u≠hW vs lk v) {s:List KI} {Q:AE→Fr→Am.H→Prop} (h:h2J vars (hW vs lk v) (wV vs lk rs ss sure) inn num σ0 0 fr σ0) (after:∀ fr,sem P G 174 0 Q s (.ex 4) fr σ0):sem P G 174 0 Q (.ac (.loop wj)::s) .nrm fr σ0 :=
 YB (vars+1).toNat (h2J vars (hW vs lk v) (wV vs lk rs ss sure) inn num σ0) (fun e _ σ=>e=.ex 4∧σ=σ0) h (fun i hi fr σ hJ=>QAF (nx:=nx) (bh:=bh) (L:=L) (ps:=ps) hT hr hvl hil hvs hne (by omega) hJ) (fun i hi fr σ hJ=>QIB hT (by omega) hJ) (fun e fr σ hE2=>by obtain ⟨rfl,rfl⟩:=hE2; exact after fr)
theorem Qtk {d:Nd} (h:Hs L d):L.getD (Xc L d).toNat zeroNd=d:=by rw [List.getD_eq_getElem?_getD,(Qfr h).2]; rfl
theorem c_holds (hT:Qh P tab) (F:Fmt P G) {v2 v3 v4 t:Nat} {nx:Int} (hr:rs.length=32) (hvl:((vs.length:Nat):Int)=vars) (hv:-1≤v∧v<vars) (hn:vs.length≤1000) (hH:HoOk L ps vs lk rs ss vars nx bh v) (hpl:ps.length≤100000) (hL:L.length≤100000) :
 C P G 0 n_proofmarklaw25_holds [.ptr 1 v0 0,.agg (wV vs lk rs ss sure),.lst 3 (prs ps) tg,.int .i64 v,.int .i64 vars,.int .i64 nx,.int .i64 bh] ⟨t,kG F.fmt v0 v1 v2 v3 v4 L⟩ fun u σ=>u=.bool true∧∃ L' t' w2 w3 w4,Ext L L'∧L'.length≤L.length+1∧σ=⟨t',kG F.fmt v0 v1 w2 w3 w4 L'⟩:=by
 refine QoP (Q:=fun u σ=>u=.bool true∧∃ L' t' w2 w3 w4,∃ ex:List (Option Ob),Ext L L'∧L'.length≤L.length+1∧σ=⟨t',kG F.fmt v0 v1 w2 w3 w4 L'++ex⟩) ?_ fun u σ' hq=>?_
 rotate_left
 ·obtain ⟨rfl,L',t',w2,w3,w4,ex,h1,h2,rfl⟩:=hq
  exact ⟨kG F.fmt v0 v1 w2 w3 w4 L',t',XK _ _,lR _,zL _,rfl,L',t',w2,w3,w4,h1,h2,rfl⟩
 refine Q0 hT t_proofmarklaw25_holds (by simp [proofmarklaw25_holds]) (Ql 5 ?_)
 have hwn:=QsC vs lk rs ss sure
 have hwl:(wV vs lk rs ss sure).length=36:=by simp [wV,Qj,hr]
 have htk:List.take 36 (wV vs lk rs ss sure)=wV vs lk rs ss sure:=List.take_of_length_le (by omega)
 have hone:ones (wV vs lk rs ss sure)=True:=eq_true fun u hu=>by
  rcases List.mem_cons.1 hu with rfl | hu
  ·rfl
  rcases List.mem_cons.1 hu with rfl | hu
  ·rfl
  have:=QgI rs ss sure
  exact (of_eq_true this) u hu
 have hhe:=QuR (P:=P) (G:=G) hT vs lk rs ss sure hr hv.1 (by omega)
 have hhn:Qb [V.agg (wV vs lk rs ss sure),.int .i64 v]=true:=by simp [Qb,Qd,hwn]
 obtain ⟨wv,hwv⟩:∃ wv,wv=wV vs lk rs ss sure:=⟨_,rfl⟩
 rw [← hwv] at hwn hwl hhe htk hhn hone ⊢
 simp -implicitDefEqProofs (disch:=omega) only [go_sem,↓reduceIte,reduceCtorEq,rA,rq,hone,QcM]
 refine Xf (Shift.freeze (k:=5) (v:=t) (T:=49) (cs:=wv) (zL _) (by first | rfl | exact Qkg) hwn) ?_
 have hne:wv≠[]:=fun e=>by rw [e] at hwl; cases hwl
 simp only [QC,QW,X8,ZP,QdB,Z4 (lR 5),rq,false_and,and_self,if_true,if_false,if_neg hne,QA,Option.map_none]
 refine Qa 12 ?_
 refine ya ?_
 refine QaO hT Qaw (c_Tied (P:=P) (G:=G) hT ps tg v (by omega)) (by simp [Qb,Qd]) 12 fun u hu=>?_
 obtain ⟨inn,hti,hTI,rfl⟩:=hu
 have hil:=hTI.len
 refine yq ?_
 refine QX hT QM hhe hhn 12 ?_
 refine ya ?_
 have hw36:wv=wV vs lk rs ss sure:=hwv
 refine XS ps (h0J F v0 v1 L ps tg vars nx bh (hW vs lk v) wv inn) (h0E F v0 v1 L ps vars nx bh (hW vs lk v) wv inn) ⟨false,L,t+1,v2,v3,v4,by simp [QAo],Ext.refl L,by simp,?_⟩ (fun i p hp fr σ hJ=>?_) (fun i hi fr σ hJ=>QID hT F hi hJ) (fun e fr σ hE=>?_)
 ·refine ya ?_
  try simp
 ·subst hw36
  exact QAH hT F hr hH hti (by omega) (by omega) hL hp hJ
 ·obtain ⟨num,L',t',w2,w3,w4,rfl,hn2,hE,hLl,f0,f4,f5,f6,f8,f15,f16,f17,rfl⟩:=hE
  obtain ⟨x,hx⟩:∃ x,x=hW vs lk v:=⟨_,rfl⟩
  obtain ⟨hx0,hx1⟩:=hH.node
  rw [← hx] at f16 hx0 hx1
  have hll:L.length≤L'.length:=by obtain ⟨M,rfl,_⟩:=hE; simp
  have hnd:=Qux (P:=P) (G:=G) hT (base:=0) (fmt:=F.fmt) (v0:=v0) (v1:=v1) (v2:=w2) (v3:=w3) (v4:=w4) (t:=t') (L:=L') (ex:=[none]) (id:=x)
  rw [if_pos ⟨hx0,by omega⟩] at hnd
  obtain ⟨d,hd⟩:∃ d,d=L'.getD x.toNat zeroNd:=⟨_,rfl⟩
  rw [← hd] at hnd
  simp only [Nd.cells] at hnd
  cases num with
  | true =>
    refine QV [(0,.ptr 1 v0 0),(4,.int .i64 vars),(5,.int .i64 nx),(6,.int .i64 bh),(8,.ref (.agg wv) 0),(15,.lst 1 (ints inn) false),(16,.int .i64 x),(17,.bool true)] ⟨f0,f4,f5,f6,f8,f15,f16,f17,trivial⟩  12 ?_
    refine ya ?_
    refine Qi9 hT QR hnd 12 fun t2 ht2=>?_
    simp -implicitDefEqProofs (disch:=omega) only [go_sem,↓reduceIte,reduceCtorEq,rA,rq,rT,QcM,Qnh,Qg0,tZ,List.drop_succ_cons,List.drop_nil]
    iterate 20 (try (refine Qa 4 ?_; simp -implicitDefEqProofs (disch:=omega) only [go_sem,↓reduceIte,reduceCtorEq,rA,rq]))
    subst hx
    subst hw36
    refine QE7 (num:=true) (vars:=vars) (v:=v) (lk:=lk) (vs:=vs) (rs:=rs) (ss:=ss) (sure:=sure) (inn:=inn) (nx:=nx) (bh:=bh) (L:=L) (ps:=ps) hT hr (by omega) (by omega) (by omega) (by omega) (fun e=>by cases e) ⟨-1,by omega,?_⟩ fun fr=>?_
    ·exact yb
    ·refine QV [] trivial 12 ?_
     refine ya ?_
     exact ⟨L',_,w2,w3,w4,_,hE,hLl,rfl,rfl⟩
  | false =>
    obtain ⟨c,hc1,hc2,hc3,hc4,hc5⟩:=hH.sym inn hti (Qx7 hn2.symm)
    have hdc:d=sy c:=by rw [hd,hx,hc1,← Xm hc2 hE]; exact Qtk (hc2.ext hE)
    rw [hdc] at hnd
    simp only [sy] at hnd
    have g1:¬ c<nx:=by omega
    have g2:¬ bh≤c:=by omega
    refine QV [(0,.ptr 1 v0 0),(4,.int .i64 vars),(5,.int .i64 nx),(6,.int .i64 bh),(8,.ref (.agg wv) 0),(15,.lst 1 (ints inn) false),(16,.int .i64 x),(17,.bool false)] ⟨f0,f4,f5,f6,f8,f15,f16,f17,trivial⟩  12 ?_
    refine ya ?_
    refine Qi9 hT QR hnd 12 fun t2 ht2=>?_
    simp -implicitDefEqProofs (disch:=omega) only [go_sem,↓reduceIte,reduceCtorEq,rA,rq,rT,QcM,Qnh,Qg0,tZ,List.drop_succ_cons,List.drop_nil]
    iterate 20 (try (refine Qa 4 ?_; simp -implicitDefEqProofs (disch:=omega) only [go_sem,↓reduceIte,reduceCtorEq,rA,rq,rL,Qnh,g1,g2]))
    subst hx
    subst hw36
    refine QE7 (num:=false) (vars:=vars) (v:=v) (lk:=lk) (vs:=vs) (rs:=rs) (ss:=ss) (sure:=sure) (inn:=inn) (nx:=nx) (bh:=bh) (L:=L) (ps:=ps) hT hr (by omega) (by omega) (by omega) (by omega) (fun _=>hc5) ⟨-1,by omega,?_⟩ fun fr=>?_
    ·exact yb
    ·refine QV [] trivial 12 ?_
     refine ya ?_
     exact ⟨L',_,w2,w3,w4,_,hE,hLl,rfl,rfl⟩
end
section
attribute [local go_sem] nF nT cA List.drop_nil List.drop_succ_cons List.drop_zero List.getD_cons_succ List.getD_cons_zero lA lC lN nA tZ aZ lR Nat.mul_one zA zL and_true decide_false decide_true Qde Qj Qz Qqj Qqi QwG QwF QwE QwD QwC QwB Xp QEb QEa QD9 QD8 QD7 QD6 QD5 Qk true_and true_implies
theorem QuQ (hT:Qh P tab) (l:List Pr) (tg:Bool) (k n:Int) (hl:l.length≤1000000):Am.Pure P G ZN [.lst 3 (prs l) tg,.int .u8 k,.int .i64 n] fun u=>u=.bool (Xb l k n):=by
 refine fun t=>Xq 0 (zL _) (Q0 hT Q3 (by simp [Xp]) (Ql 20 ?_))
 refine ya ?_
 refine XS l (fun i fr σ=>Xb (l.take i) k n=false∧Qf fr 0=.lst 3 (prs l) tg∧Qf fr 1=.int .u8 k∧Qf fr 2=.int .i64 n∧Qf fr 7=.int .i64 ((i:Nat):Int)∧σ=⟨t,[]⟩) (fun e fr σ=>(e=.ret∧Xb l k n=true∧Qf fr 6=.bool true)∨(e=.ex 0∧Xb l k n=false)) ⟨rfl,?_⟩ (fun i x hx fr σ hJ=>?_) (fun i hi fr σ hJ=>?_) (fun e fr σ hE=>?_)
 ·refine ya ?_
  try simp
 ·obtain ⟨hno,f0,f1,f2,f7,rfl⟩:=hJ
  have hlt:=(List.getElem?_eq_some_iff.1 hx).1
  have hD:=QaW hx
  have e2:=YJ hlt (by omega)
  simp only [prV,prC] at hD
  have hst:Xb (l.take (i+1)) k n=decide (x.k=k∧x.n=n):=by
   rw [Qy hx]; unfold Xb at hno ⊢; rw [List.any_append,hno]; simp
  by_cases h1:x.k=k
  ·have h1':(x.k==k)=true:=by simpa using h1
   by_cases h2:x.n=n
   ·have h2':(x.n==n)=true:=by simpa using h2
    have hm:Xb l k n=true:=List.any_eq_true.2 ⟨x,List.mem_of_getElem? hx,by simp [h1,h2]⟩
    refine Qe [(0,.lst 3 (prs l) tg),(1,.int .u8 k),(2,.int .i64 n),(7,.int .i64 ((i:Nat):Int))] ⟨f0,f1,f2,f7,trivial⟩  12 ?_
    refine yc ?_
    iterate 12 (try (refine Qa 4 ?_; simp -implicitDefEqProofs (disch:=omega) only [go_sem,↓reduceIte,reduceCtorEq,rA,rq,rL,hlt,hD,h1',h2']))
    try exact hm
   ·have h2':(x.n==n)=false:=by simpa using h2
    refine Qe [(0,.lst 3 (prs l) tg),(1,.int .u8 k),(2,.int .i64 n),(7,.int .i64 ((i:Nat):Int))] ⟨f0,f1,f2,f7,trivial⟩  12 ?_
    refine yc ?_
    iterate 12 (try (refine Qa 4 ?_; simp -implicitDefEqProofs (disch:=omega) only [go_sem,↓reduceIte,reduceCtorEq,rA,rq,rL,hlt,hD,h1',h2',e2]))
    refine ⟨_,_,Shift.refl _ _ _ _,?_,?_⟩
    ·rw [hst]; simp [h2]
    ·exact yb
  ·have h1':(x.k==k)=false:=by simpa using h1
   refine Qe [(0,.lst 3 (prs l) tg),(1,.int .u8 k),(2,.int .i64 n),(7,.int .i64 ((i:Nat):Int))] ⟨f0,f1,f2,f7,trivial⟩  12 ?_
   refine yc ?_
   iterate 12 (try (refine Qa 4 ?_; simp -implicitDefEqProofs (disch:=omega) only [go_sem,↓reduceIte,reduceCtorEq,rA,rq,rL,hlt,hD,h1',e2]))
   refine ⟨_,_,Shift.refl _ _ _ _,?_,?_⟩
   ·rw [hst]; simp [h1]
   ·exact yb
 ·obtain ⟨hno,f0,f1,f2,f7,rfl⟩:=hJ
  rw [hi,List.take_length] at hno
  refine Qe [(0,.lst 3 (prs l) tg),(1,.int .u8 k),(2,.int .i64 n),(7,.int .i64 ((i:Nat):Int))] ⟨f0,f1,f2,f7,trivial⟩  12 ?_
  refine yd ?_
  try exact hno
 ·rcases hE with ⟨rfl,hm,f6⟩ | ⟨rfl,hno⟩
  ·refine Qa 12 ?_
   simp -implicitDefEqProofs (disch:=omega) only [go_sem,f6]
   try simp [hm]
  ·refine Qa 12 ?_
   refine ya ?_
   try simp [hno]
structure ApOk (L:List Nd) (ps:List Pr) (vs:List Int) (lk:Int) (rs ss:List Int) (nx bh:Int):Prop where
 reg:∀ r:Nat,1≤r→r<32→r≠2→Xb ps 1 (r:Int)=false→rs.getD r 0=Xc L (sy (rNo nx r))
 slot:∀ i:Nat,i<ss.length→Xb ps 2 (i:Int)=false→ss.getD i 0=Xc L (sy (nx+30+(i:Int)))
 all:∀ c∈Qrh ps nx ss.length,nx≤c∧c<bh∧Hs L (sy c)∧Xc L (sy c)≠lk∧∀ x∈vs,Xc L (sy c)≠x
abbrev apS (fmt:Int→List UInt8) (v0 v1 v2 v3 v4 t w:Nat) (L:List Nd) (l:List Int):Am.H:=⟨t,kG fmt v0 v1 v2 v3 v4 L++[none,some (.arr w 44 (QiO L l))]⟩
abbrev a0J (fmt:Int→List UInt8) (v0 v1 v2 v3 v4:Nat) (L:List Nd) (ps:List Pr) (tg:Bool) (nx bh:Int) (wv:List V):Nat→Fr→H→Prop:=fun i fr σ=>∃ t w l,l=Qge ps nx (i+1)∧Qf fr 0=.ptr 1 v0 0∧Qf fr 2=.lst 3 (prs ps) tg∧Qf fr 3=.int .i64 nx∧Qf fr 4=.int .i64 bh∧Qf fr 6=.ref (.agg wv) 0∧Qf fr 11=.sl 6 w 0 1 l.length none∧Qf fr 12=.int .i64 ((i+1:Nat):Int)∧σ=apS fmt v0 v1 v2 v3 v4 t w L l
abbrev a0E (fmt:Int→List UInt8) (v0 v1 v2 v3 v4:Nat) (L:List Nd) (ps:List Pr) (tg:Bool) (nx bh:Int) (wv:List V):AE→Fr→H→Prop:=fun e fr σ=>∃ t w l,e=.ex 0∧l=Qge ps nx 32∧Qf fr 0=.ptr 1 v0 0∧Qf fr 2=.lst 3 (prs ps) tg∧Qf fr 3=.int .i64 nx∧Qf fr 4=.int .i64 bh∧Qf fr 6=.ref (.agg wv) 0∧Qf fr 11=.sl 6 w 0 1 l.length none∧σ=apS fmt v0 v1 v2 v3 v4 t w L l
variable {σ:Am.H} {fr:Fr} {vs rs ss:List Int} {bh lk:Int} {tg sure:Bool} {ps:List Pr} {L:List Nd} {v0 v1 v2 v3 v4 i:Nat} {fmt:Int→List UInt8}
theorem QBu (hT:Qh P tab) {nx:Int} (hr:rs.length=32) (hH:ApOk L ps vs lk rs ss nx bh) (hpl:ps.length≤1000000) (hi:i<31) (hJ:a0J fmt v0 v1 v2 v3 v4 L ps tg nx bh (wV vs lk rs ss sure) i fr σ) :
 W P G 134 0 wI fr σ (YH (fun fr σ=>∃ fr' σ',Shift G 134 0 fr σ fr' σ'∧a0J fmt v0 v1 v2 v3 v4 L ps tg nx bh (wV vs lk rs ss sure) (i+1) fr' σ') (a0E fmt v0 v1 v2 v3 v4 L ps tg nx bh (wV vs lk rs ss sure))):=by
 obtain ⟨t,w,l,hl,f0,f2,f3,f4,f6,f11,f12,rfl⟩:=hJ
 have hll:l.length≤32:=by have:=Qh8 ps nx (i+1); rw [hl]; omega
 have hwl:(wV vs lk rs ss sure).length=36:=by simp [wV,Qj,hr]
 have hg:(wV vs lk rs ss sure).getD (2+(i+1)) V.any=.int .i64 (rs.getD (i+1) 0):=by
  have:=QxM (rs:=rs) (n:=((i+1:Nat):Int)) (by omega) (by omega) [.lst 1 (ints ss) false,.bool sure]
  rw [Nat.add_comm]; exact this
 have hP:=QuQ (P:=P) (G:=G) hT ps tg 1 ((i+1:Nat):Int) hpl
 have hPn:Qb [V.lst 3 (prs ps) tg,.int .u8 1,.int .i64 ((i+1:Nat):Int)]=true:=by simp [Qb,Qd]
 have e2:IntKind.i64.wrap (((i+1:Nat):Int)+1)=((i+1+1:Nat):Int):=by rw [QcU (by omega)]; rfl
 have h32:((i+1:Nat):Int)<32:=by omega
 obtain ⟨wv,hwv⟩:∃ wv,wv=wV vs lk rs ss sure:=⟨_,rfl⟩
 rw [← hwv] at f6 hwl hg ⊢
 have hstep:Qge ps nx (i+1+1)=l++if 1≤i+1∧i+1≠2∧Xb ps 1 ((i+1:Nat):Int)=false then [rNo nx (i+1)] else []:=by rw [hl]; rfl
 by_cases h2:i+1=2
 ·have hb:(((i+1:Nat):Int) != 2)=false:=by rw [h2]; rfl
  rw [if_neg (fun h=>h.2.1 h2),List.append_nil] at hstep
  refine Qe [(0,.ptr 1 v0 0),(2,.lst 3 (prs ps) tg),(3,.int .i64 nx),(4,.int .i64 bh),(6,.ref (.agg wv) 0),(11,.sl 6 w 0 1 l.length none),(12,.int .i64 ((i+1:Nat):Int))] ⟨f0,f2,f3,f4,f6,f11,f12,trivial⟩  12 ?_
  refine ym ?_
  iterate 12 (try (refine Qa 4 ?_; simp -implicitDefEqProofs (disch:=omega) only [go_sem,↓reduceIte,reduceCtorEq,rq,hb,e2]))
  refine ⟨_,_,Shift.refl _ _ _ _,t,w,l,hstep.symm,?_⟩
  exact yb
 ·have hb:(((i+1:Nat):Int) != 2)=true:=by simp; omega
  cases hp:Xb ps 1 ((i+1:Nat):Int) with
  | true =>
    rw [hp] at hP
    rw [if_neg (fun h=>by rw [hp] at h; exact Bool.noConfusion h.2.2),List.append_nil] at hstep
    refine Qe [(0,.ptr 1 v0 0),(2,.lst 3 (prs ps) tg),(3,.int .i64 nx),(4,.int .i64 bh),(6,.ref (.agg wv) 0),(11,.sl 6 w 0 1 l.length none),(12,.int .i64 ((i+1:Nat):Int))] ⟨f0,f2,f3,f4,f6,f11,f12,trivial⟩  12 ?_
    refine ym ?_
    iterate 12 (try (refine Qa 4 ?_; simp -implicitDefEqProofs (disch:=omega) only [go_sem,↓reduceIte,reduceCtorEq,rA,rq,hb]))
    refine QX hT Q3 hP hPn 4 ?_
    refine ya ?_
    iterate 12 (try (refine Qa 4 ?_; simp -implicitDefEqProofs (disch:=omega) only [go_sem,↓reduceIte,reduceCtorEq,rq,e2]))
    refine ⟨_,_,Shift.refl _ _ _ _,t,w,l,hstep.symm,?_⟩
    exact yb
  | false =>
    rw [hp] at hP
    rw [if_pos ⟨by omega,h2,hp⟩] at hstep
    rw [hH.reg (i+1) (by omega) (by omega) h2 hp] at hg
    refine Qe [(0,.ptr 1 v0 0),(2,.lst 3 (prs ps) tg),(3,.int .i64 nx),(4,.int .i64 bh),(6,.ref (.agg wv) 0),(11,.sl 6 w 0 1 l.length none),(12,.int .i64 ((i+1:Nat):Int))] ⟨f0,f2,f3,f4,f6,f11,f12,trivial⟩  12 ?_
    refine ym ?_
    iterate 12 (try (refine Qa 4 ?_; simp -implicitDefEqProofs (disch:=omega) only [go_sem,↓reduceIte,reduceCtorEq,rA,rq,hb]))
    refine QX hT Q3 hP hPn 4 ?_
    refine ya ?_
    iterate 20 (try (refine Qa 4 ?_; simp -implicitDefEqProofs (disch:=omega) only [go_sem,↓reduceIte,reduceCtorEq,rq,rL,Qnh,Qg0,e2,hwl,hg,QoD]))
    refine ⟨_,_,Shift.refl _ _ _ _,t+1,t,l++[rNo nx (i+1)],hstep.symm,?_⟩
    exact yb
theorem QJt (hT:Qh P tab) {nx:Int} {wv:List V} (hi:i=31) (hJ:a0J fmt v0 v1 v2 v3 v4 L ps tg nx bh wv i fr σ) :
 W P G 134 0 wI fr σ (YH (fun _ _=>False) (a0E fmt v0 v1 v2 v3 v4 L ps tg nx bh wv)):=by
 obtain ⟨t,w,l,hl,f0,f2,f3,f4,f6,f11,f12,rfl⟩:=hJ
 have h32:¬ (((i+1:Nat):Int)<32):=by omega
 rw [hi] at hl
 refine Qe [(0,.ptr 1 v0 0),(2,.lst 3 (prs ps) tg),(3,.int .i64 nx),(4,.int .i64 bh),(6,.ref (.agg wv) 0),(11,.sl 6 w 0 1 l.length none),(12,.int .i64 ((i+1:Nat):Int))] ⟨f0,f2,f3,f4,f6,f11,f12,trivial⟩  12 ?_
 refine ym ?_
 refine ⟨t,w,l,rfl,hl,?_⟩
 repeat' (first | exact rfl | refine ⟨rfl,?_⟩)
abbrev a1J (fmt:Int→List UInt8) (v0 v1 v2 v3 v4:Nat) (L:List Nd) (ps:List Pr) (tg:Bool) (nx bh:Int) (wv:List V):Nat→Fr→H→Prop:=fun i fr σ=>∃ t w l,l=Qge ps nx 32++Qh6 ps nx i∧Qf fr 0=.ptr 1 v0 0∧Qf fr 2=.lst 3 (prs ps) tg∧Qf fr 3=.int .i64 nx∧Qf fr 4=.int .i64 bh∧Qf fr 6=.ref (.agg wv) 0∧Qf fr 11=.sl 6 w 0 1 l.length none∧Qf fr 13=.int .i64 ((i:Nat):Int)∧σ=apS fmt v0 v1 v2 v3 v4 t w L l
abbrev a1E (fmt:Int→List UInt8) (v0 v1 v2 v3 v4:Nat) (L:List Nd) (ps:List Pr) (tg:Bool) (nx bh:Int) (wv:List V) (cnt:Nat):AE→Fr→H→Prop:=fun e fr σ=>∃ t w l,e=.ex 2∧l=Qrh ps nx cnt∧Qf fr 0=.ptr 1 v0 0∧Qf fr 2=.lst 3 (prs ps) tg∧Qf fr 3=.int .i64 nx∧Qf fr 4=.int .i64 bh∧Qf fr 6=.ref (.agg wv) 0∧Qf fr 11=.sl 6 w 0 1 l.length none∧σ=apS fmt v0 v1 v2 v3 v4 t w L l
theorem QzK (hr:rs.length=32):(wV vs lk rs ss sure).getD 34 V.any=.lst 1 (ints ss) false:=Qz6 hr _ _
theorem QBt (hT:Qh P tab) {nx:Int} (hr:rs.length=32) (hH:ApOk L ps vs lk rs ss nx bh) (hpl:ps.length≤1000000) (hsl:ss.length≤100000) (hi:i<ss.length) (hJ:a1J fmt v0 v1 v2 v3 v4 L ps tg nx bh (wV vs lk rs ss sure) i fr σ) :
 W P G 134 0 wJ fr σ (YH (fun fr σ=>∃ fr' σ',Shift G 134 0 fr σ fr' σ'∧a1J fmt v0 v1 v2 v3 v4 L ps tg nx bh (wV vs lk rs ss sure) (i+1) fr' σ') (a1E fmt v0 v1 v2 v3 v4 L ps tg nx bh (wV vs lk rs ss sure) ss.length)):=by
 obtain ⟨t,w,l,hl,f0,f2,f3,f4,f6,f11,f13,rfl⟩:=hJ
 have hll:l.length≤200000:=by have h1:=Qh8 ps nx 32; have h2:=Qmr ps nx i; rw [hl,lA]; omega
 have hwl:(wV vs lk rs ss sure).length=36:=by simp [wV,Qj,hr]
 have hg:=QzK (vs:=vs) (ss:=ss) (lk:=lk) (sure:=sure) hr
 have hg2:=QbR hi
 have hP:=QuQ (P:=P) (G:=G) hT ps tg 2 ((i:Nat):Int) hpl
 have hPn:Qb [V.lst 3 (prs ps) tg,.int .u8 2,.int .i64 ((i:Nat):Int)]=true:=by simp [Qb,Qd]
 have e2:=YJ hi (by omega)
 obtain ⟨wv,hwv⟩:∃ wv,wv=wV vs lk rs ss sure:=⟨_,rfl⟩
 rw [← hwv] at f6 hwl hg ⊢
 have hstep:Qge ps nx 32++Qh6 ps nx (i+1)=l++if Xb ps 2 ((i:Nat):Int)=false then [nx+30+((i:Nat):Int)] else []:=by rw [hl,aA]; rfl
 cases hp:Xb ps 2 ((i:Nat):Int) with
 | true =>
   rw [hp] at hP
   rw [if_neg (fun h=>by rw [hp] at h; exact Bool.noConfusion h),List.append_nil] at hstep
   refine Qe [(0,.ptr 1 v0 0),(2,.lst 3 (prs ps) tg),(3,.int .i64 nx),(4,.int .i64 bh),(6,.ref (.agg wv) 0),(11,.sl 6 w 0 1 l.length none),(13,.int .i64 ((i:Nat):Int))] ⟨f0,f2,f3,f4,f6,f11,f13,trivial⟩  12 ?_
   simp -implicitDefEqProofs (disch:=omega) only [go_sem,↓reduceIte,reduceCtorEq,rA,rq,rL,hi,hwl,hg]
   iterate 12 (try (refine Qa 4 ?_; simp -implicitDefEqProofs (disch:=omega) only [go_sem,↓reduceIte,reduceCtorEq,rq]))
   refine QX hT Q3 hP hPn 4 ?_
   refine ya ?_
   iterate 12 (try (refine Qa 4 ?_; simp -implicitDefEqProofs (disch:=omega) only [go_sem,↓reduceIte,reduceCtorEq,rq,e2]))
   refine ⟨_,_,Shift.refl _ _ _ _,t,w,l,hstep.symm,?_⟩
   exact yb
 | false =>
   rw [hp] at hP
   rw [if_pos hp] at hstep
   rw [hH.slot i hi hp] at hg2
   refine Qe [(0,.ptr 1 v0 0),(2,.lst 3 (prs ps) tg),(3,.int .i64 nx),(4,.int .i64 bh),(6,.ref (.agg wv) 0),(11,.sl 6 w 0 1 l.length none),(13,.int .i64 ((i:Nat):Int))] ⟨f0,f2,f3,f4,f6,f11,f13,trivial⟩  12 ?_
   simp -implicitDefEqProofs (disch:=omega) only [go_sem,↓reduceIte,reduceCtorEq,rA,rq,rL,hi,hwl,hg]
   iterate 12 (try (refine Qa 4 ?_; simp -implicitDefEqProofs (disch:=omega) only [go_sem,↓reduceIte,reduceCtorEq,rq]))
   refine QX hT Q3 hP hPn 4 ?_
   refine ya ?_
   iterate 20 (try (refine Qa 4 ?_; simp -implicitDefEqProofs (disch:=omega) only [go_sem,↓reduceIte,reduceCtorEq,rA,rq,rL,Qnh,Qg0,hi,e2,hwl,hg,hg2,QoD]))
   refine ⟨_,_,Shift.refl _ _ _ _,t+1,t,l++[nx+30+((i:Nat):Int)],hstep.symm,?_⟩
   exact yb
theorem QJs (hT:Qh P tab) {nx:Int} (hr:rs.length=32) (hi:i=ss.length) (hJ:a1J fmt v0 v1 v2 v3 v4 L ps tg nx bh (wV vs lk rs ss sure) i fr σ) :
 W P G 134 0 wJ fr σ (YH (fun _ _=>False) (a1E fmt v0 v1 v2 v3 v4 L ps tg nx bh (wV vs lk rs ss sure) ss.length)):=by
 obtain ⟨t,w,l,hl,f0,f2,f3,f4,f6,f11,f13,rfl⟩:=hJ
 have hwl:(wV vs lk rs ss sure).length=36:=by simp [wV,Qj,hr]
 have hg:=QzK (vs:=vs) (ss:=ss) (lk:=lk) (sure:=sure) hr
 obtain ⟨wv,hwv⟩:∃ wv,wv=wV vs lk rs ss sure:=⟨_,rfl⟩
 rw [← hwv] at f6 hwl hg ⊢
 refine Qe [(0,.ptr 1 v0 0),(2,.lst 3 (prs ps) tg),(3,.int .i64 nx),(4,.int .i64 bh),(6,.ref (.agg wv) 0),(11,.sl 6 w 0 1 l.length none),(13,.int .i64 ((i:Nat):Int))] ⟨f0,f2,f3,f4,f6,f11,f13,trivial⟩  12 ?_
 simp -implicitDefEqProofs (disch:=omega) only [go_sem,↓reduceIte,reduceCtorEq,rA,rq,rL,hi,hwl,hg,Nat.lt_irrefl]
 refine ⟨t,w,l,rfl,by rw [hl,hi]; rfl,?_⟩
 repeat' (first | exact rfl | refine ⟨rfl,?_⟩)
end
end Go.Proofs.YtfgccihafnjalaaGreatDoor
