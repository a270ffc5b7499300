/- The law's holds: a round over pairs. -/
import Derived.Test.YtfgccihafnjalaaGreatDoorJ13
import Derived.Test.YtfgccihafnjalaaGreatDoorJ11
import Derived.Test.YtfgccihafnjalaaGreatDoorJ12
import Derived.Test.YtfgccihafnjalaaGreatDoorY
open Nat renaming reduceEqDiff → rq, reduceAdd → rA, reduceLeDiff → rL, reduceLT → rT, zero_add → zA, le_refl → lR, zero_le → zL, add_zero → aZ
open List renaming length_cons → lC, length_nil → lN, take_succ_cons → tS, length_append → lA, nil_append → nA, cons_append → cA, append_assoc → aA, take_nil → tN, take_zero → tZ, length_map → lM
open Bool renaming not_false → nF, not_true → nT
namespace Go.Proofs.YtfgccihafnjalaaGreatDoor
open Go Go.Am Go.Re
set_option maxRecDepth 100000
variable {P:Program} {G:Nat→Option V}
structure HoOk (L:List Nd) (ps:List Pr) (vs:List Int) (lk:Int) (rs ss:List Int) (vars nx bh v:Int):Prop where
 same:∀ inn,TiedOk ps v inn→∀ p∈ps,p.v∈inn→hW vs lk p.v=hW vs lk v∧((p.k=1∧0≤p.n∧p.n<32∧rs.getD p.n.toNat 0=hW vs lk v∨p.k=2∧0≤p.n∧p.n<ss.length∧ss.getD p.n.toNat 0=hW vs lk v)∨p.k=3)
 num:∀ inn,TiedOk ps v inn→∀ l1 p l2,ps=l1++p::l2→(∀ q∈l1,¬ (q.k=3∧q.v∈inn))→p.k=3→p.v∈inn→hW vs lk v=XR L (co p.n)∧Hs L (co p.n)
 sym:∀ inn,TiedOk ps v inn→(∀ q∈ps,¬ (q.k=3∧q.v∈inn))→∃ c,hW vs lk v=XR L (sy c)∧Hs L (sy c)∧nx≤c∧c<bh∧∀ u,-1≤u∧u<vars→u ∉ inn→hW vs lk u≠hW vs lk v
 node:0≤hW vs lk v∧hW vs lk v<L.length
 n64:∀ p∈ps,i64 p.n
 pv:∀ p∈ps,-1≤p.v∧p.v<vs.length
def QyZ (inn:List Int) (l:List Pr):Bool:=l.any fun q=>decide (q.k=3∧q.v∈inn)
theorem Qwy (inn:List Int) {ps:List Pr} {i:Nat} {p:Pr} (hp:ps[i]?=some p):QyZ inn (ps.take (i+1))=(QyZ inn (ps.take i) || decide (p.k=3∧p.v∈inn)):=by
 rw [Qz hp]; simp [QyZ]
theorem Qwz {inn:List Int} {l:List Pr} (h:QyZ inn l=false):∀ q∈l,¬ (q.k=3∧q.v∈inn):=fun q hq hc=>by
 have:=List.any_eq_false.1 h q hq
 simp [hc] at this
abbrev h0J (F : Fmt P G) (v0 v1 : Nat) (L : List Nd) (ps : List Pr) (tg : Bool) (vars nx bh x : Int) (wv : List V) (inn : List Int) : Nat → Fr → H → Prop := fun i fr σ => ∃ num L' t' w2 w3 w4, num = QyZ inn (ps.take i) ∧ Ext L L' ∧ L'.length ≤ L.length + (if num then 1 else 0) ∧ Qh fr 0 = .ptr 1 v0 0 ∧ Qh fr 2 = .lst 3 (prs ps) tg ∧ Qh fr 4 = .int .i64 vars ∧ Qh fr 5 = .int .i64 nx ∧ Qh fr 6 = .int .i64 bh ∧ Qh fr 8 = .ref (.agg wv) 0 ∧ Qh fr 15 = .lst 1 (ints inn) false ∧ Qh fr 16 = .int .i64 x ∧ Qh fr 17 = .bool num ∧ Qh fr 18 = .int .i64 ((i : Nat) : Int) ∧ σ = ⟨t', kG F.fmt v0 v1 w2 w3 w4 L' ++ [none]⟩
abbrev h0E (F : Fmt P G) (v0 v1 : Nat) (L : List Nd) (ps : List Pr) (vars nx bh x : Int) (wv : List V) (inn : List Int) : AE → Fr → H → Prop := fun e fr σ => ∃ num L' t' w2 w3 w4, e = .ex 0 ∧ num = QyZ inn ps ∧ Ext L L' ∧ L'.length ≤ L.length + 1 ∧ Qh fr 0 = .ptr 1 v0 0 ∧ Qh fr 4 = .int .i64 vars ∧ Qh fr 5 = .int .i64 nx ∧ Qh fr 6 = .int .i64 bh ∧ Qh fr 8 = .ref (.agg wv) 0 ∧ Qh fr 15 = .lst 1 (ints inn) false ∧ Qh fr 16 = .int .i64 x ∧ Qh fr 17 = .bool num ∧ σ = ⟨t', kG F.fmt v0 v1 w2 w3 w4 L' ++ [none]⟩
theorem Qzg (hT:Qn P tab) (F:Fmt P G) {v0 v1:Nat} {L:List Nd} {ps:List Pr} {tg:Bool} {vars nx bh v lk:Int} {vs rs ss:List Int} {sure:Bool} {inn:List Int} (hr:rs.length=32) (hH:HoOk L ps vs lk rs ss vars nx bh v) (hti:TiedOk ps v inn) (hil:inn.length≤1000000) (hpl:ps.length≤1000000) (hL:L.length≤100000) {i:Nat} {p:Pr} (hp:ps[i]?=some p) {fr:Fr} {σ:Am.H} (hJ:h0J F v0 v1 L ps tg vars nx bh (hW vs lk v) (wV vs lk rs ss sure) inn i fr σ) :
 W P G 174 0 (AC.seq (AC.seq (AC.reg Qp7 [32, 33, 34])   (AC.cond (Arg.t 35)   AC.skip   (AC.exit 0)))   (AC.seq (AC.block 1 (AC.seq (AC.reg Qp6 [])   (AC.seq (AC.seq (AC.reg Qp5 [])   (AC.block 2 (AC.loop (AC.seq (AC.seq (AC.reg Qi3 [38, 39, 40])   (AC.cond (Arg.t 41)   AC.skip   (AC.exit 2)))   (AC.seq (AC.block 3 (AC.reg Qi2 [44, 45, 46, 47, 48, 49, 50, 51, 52, 53, 54, 55, 56]))   (AC.reg Qdr [42, 43]))))))   (AC.seq (AC.seq (AC.reg Qkh [57])   (AC.cond (Arg.t 58)   (AC.exit 1)   AC.skip))   (AC.seq (AC.seq (AC.reg Qkg [59, 60, 61, 62, 63, 64, 65, 66, 67])   (AC.cond (Arg.t 68)   (AC.seq (AC.reg Qkf [])   (AC.seq (AC.reg Qke [69, 70, 71, 72, 73, 74, 75, 76])   (AC.cond (Arg.t 77)   (AC.seq (AC.reg Qkd [])   AC.ret)   AC.skip)))   AC.skip))   (AC.seq (AC.reg Qkc [78, 79, 80, 81, 82, 83, 84, 85, 86, 87, 88, 89, 90, 91, 92, 93, 94, 95, 96, 97, 98, 99, 100, 101, 102, 103, 104, 105, 106, 107, 108, 109, 110])   (AC.cond (Arg.t 111)   (AC.seq (AC.reg Qkb [])   AC.ret)   AC.skip)))))))   (AC.reg Qka [36, 37]))) fr σ (Qaw (fun fr σ => ∃ fr' σ', Shift G 174 0 fr σ fr' σ' ∧ h0J F v0 v1 L ps tg vars nx bh (hW vs lk v) (wV vs lk rs ss sure) inn (i + 1) fr' σ') (h0E F v0 v1 L ps vars nx bh (hW vs lk v) (wV vs lk rs ss sure) inn)) := by
 obtain ⟨num, L', t', w2, w3, w4, hn, hE, hLl, f0, f2, f4, f5, f6, f8, f15, f16, f17, f18, rfl⟩ := hJ
 have hi:=(List.getElem?_eq_some_iff.1 hp).1
 have hpm:=List.mem_of_getElem? hp
 have hD:=Qc7 hp
 have e2:=Zg hi (by omega)
 simp only [prV,prC] at hD
 have hns:=Qwy inn hp
 rw [← hn] at hns
 obtain ⟨x,hx⟩:∃ x,x=hW vs lk v:=⟨_,rfl⟩
 have hwn:=Qys vs lk rs ss sure
 have hwl:(wV vs lk rs ss sure).length=36:=by simp [wV,Qo,hr]
 have htk:List.take 36 (wV vs lk rs ss sure)=wV vs lk rs ss sure:=List.take_of_length_le (by omega)
 have hpv:=hH.pv p hpm
 have hhe:=Qxr (P:=P) (G:=G) hT vs lk rs ss sure hr hpv.1 hpv.2
 obtain ⟨wv,hwv⟩:∃ wv,wv=wV vs lk rs ss sure:=⟨_,rfl⟩
 rw [← hwv] at f8 hwn hwl hhe htk ⊢
 rw [← hx] at f16 ⊢
 refine Qj [(0,.ptr 1 v0 0),(2,.lst 3 (prs ps) tg),(4,.int .i64 vars),(5,.int .i64 nx),(6,.int .i64 bh),(8,.ref (.agg wv) 0),(15,.lst 1 (ints inn) false),(16,.int .i64 x),(17,.bool num),(18,.int .i64 ((i:Nat):Int))] ⟨f0,f2,f4,f5,f6,f8,f15,f16,f17,f18,trivial⟩ 24 ?_
 simp -implicitDefEqProofs (disch:=omega) only [go_sem,↓reduceIte,reduceCtorEq,rq,decide_true,Qp7,Qp6,Qp5,Qi3,Qi2,Qdr,Qkh,Qkg,Qkf,Qke,Qkd,Qkc,Qkb,Qka,Qf,hi]
 refine XU inn (h1J v0 ps tg vars nx bh x wv inn num i p.v _) (h1E v0 ps tg vars nx bh x wv inn num i p.v ⟨t', kG F.fmt v0 v1 w2 w3 w4 L' ++ [none]⟩) ⟨false, ?_, ?_⟩ (fun k y hk fr σ hJ => Qzf hT hp hk hil hJ) (fun k hk fr σ hJ => QGr hT hk hJ) (fun e fr σ hE => ?_)
 ·simp
 ·refine ye ?_
  try simp
 ·obtain ⟨b,rfl,hb,f0,f2,f4,f5,f6,f8,f15,f16,f17,f18,f19,rfl⟩:=hE
  by_cases hin:p.v∈inn
  ·rw [decide_eq_true hin] at hb
   subst hb
   obtain ⟨hsx,hat⟩:=hH.same inn hti p hpm hin
   rw [← hx] at hsx hat
   rw [hsx] at hhe
   have hhn:Qc [V.agg wv,.int .i64 p.v]=true:=by simp [Qc,Qe,hwn]
   have exx:(x != x)=false:=by simp
   by_cases k3:p.k=3
   ·have k3':(p.k==3)=true:=by simpa using k3
    have k3n:(p.k != 3)=false:=by simp [k3]
    have hns':QyZ inn (ps.take (i+1))=true:=by rw [hns]; simp [k3,hin]
    cases num with
    | true =>
      refine QU [(0,.ptr 1 v0 0),(2,.lst 3 (prs ps) tg),(4,.int .i64 vars),(5,.int .i64 nx),(6,.int .i64 bh),(8,.ref (.agg wv) 0),(15,.lst 1 (ints inn) false),(16,.int .i64 x),(17,.bool true),(18,.int .i64 ((i:Nat):Int)),(19,.bool true)] ⟨f0,f2,f4,f5,f6,f8,f15,f16,f17,f18,f19,trivial⟩  30 ?_
      refine yt ?_
      iterate 20 (try (refine Qa 4 ?_; simp -implicitDefEqProofs (disch:=omega) only [go_sem,↓reduceIte,reduceCtorEq,rA,rq,rL,zA,aZ,true_implies,and_true,lC,lN,List.getD_cons_zero]))
      refine Yb hT QV hhe hhn 4 ?_
      refine ya ?_
      iterate 30 (try (refine Qa 4 ?_; simp -implicitDefEqProofs (disch:=omega) only [go_sem,Qd,↓reduceIte,reduceCtorEq,rA,rq,rL,zA,Qf,true_implies,and_true,lC,lN,List.getD_cons_zero,List.getD_cons_succ,e2,hi,hD,k3n]))
      refine ⟨_, _, Shift.refl _ _ _ _, true, L', t', w2, w3, w4, hns'.symm, hE, hLl, ?_⟩
      exact yb
    | false =>
      have hps:ps=ps.take i++p::ps.drop (i+1):=by rw [← (List.getElem?_eq_some_iff.1 hp).2]; simp
      obtain ⟨hxn,hsn⟩:=hH.num inn hti _ p _ hps (Qwz hn.symm) k3 hin
      rw [← hx] at hxn
      refine QU [(0,.ptr 1 v0 0),(2,.lst 3 (prs ps) tg),(4,.int .i64 vars),(5,.int .i64 nx),(6,.int .i64 bh),(8,.ref (.agg wv) 0),(15,.lst 1 (ints inn) false),(16,.int .i64 x),(17,.bool false),(18,.int .i64 ((i:Nat):Int)),(19,.bool true)] ⟨f0,f2,f4,f5,f6,f8,f15,f16,f17,f18,f19,trivial⟩  30 ?_
      simp -implicitDefEqProofs (disch:=omega) only [go_sem,Qd,↓reduceIte,reduceCtorEq,rA,rq,rL,zA,nT,nF,Qf,true_implies,and_true,lC,lN,List.getD_cons_zero,List.getD_cons_succ,nT,nF,hi,hD,k3']
      iterate 20 (try (refine Qa 4 ?_; simp -implicitDefEqProofs (disch:=omega) only [go_sem,Qd,↓reduceIte,reduceCtorEq,rA,rq,zA,lR,Qf,true_implies,and_true,lC,lN,List.getD_cons_zero,List.getD_cons_succ,hi,hD]))
      refine CV.use 4 (CV.of hT ZG (QmJ hT F (ex:=[none]) (n:=p.n) (hH.n64 p hpm) (by simp at hLl; omega))) fun v σ hv=>?_
      obtain ⟨L2,t2,u2,u3,u4,x1,x2,x3,x4,rfl,rfl⟩:=hv
      rw [Xw hsn (hE.trans x1),← hxn]
      refine ya ?_
      iterate 20 (try (refine Qa 4 ?_; simp -implicitDefEqProofs (disch:=omega) only [go_sem,Qd,↓reduceIte,reduceCtorEq,rA,rq,rL,zA,aZ,lR,Qf,false_implies,true_implies,and_true,lC,lN,List.getD_cons_zero,hi,hD,hwl,htk]))
      refine Yb hT QV hhe hhn 4 ?_
      refine ya ?_
      iterate 30 (try (refine Qa 4 ?_; simp -implicitDefEqProofs (disch:=omega) only [go_sem,Qd,↓reduceIte,reduceCtorEq,rA,rq,rL,zA,Qf,true_implies,and_true,lC,lN,List.getD_cons_zero,List.getD_cons_succ,e2,hi,hD,k3n]))
      refine ⟨_,_,Shift.refl _ _ _ _,true,L2,t2,u2,u3,u4,hns'.symm,hE.trans x1,by simp at hLl ⊢; omega,?_⟩
      exact yb
   ·have k3':(p.k==3)=false:=by simpa using k3
    have k3n:(p.k != 3)=true:=by simpa using k3
    have hns':QyZ inn (ps.take (i+1))=num:=by rw [hns]; simp [k3]
    refine QU [(0,.ptr 1 v0 0),(2,.lst 3 (prs ps) tg),(4,.int .i64 vars),(5,.int .i64 nx),(6,.int .i64 bh),(8,.ref (.agg wv) 0),(15,.lst 1 (ints inn) false),(16,.int .i64 x),(17,.bool num),(18,.int .i64 ((i:Nat):Int)),(19,.bool true)] ⟨f0,f2,f4,f5,f6,f8,f15,f16,f17,f18,f19,trivial⟩  30 ?_
    refine yt ?_
    iterate 20 (try (refine Qa 4 ?_; simp -implicitDefEqProofs (disch:=omega) only [go_sem,↓reduceIte,reduceCtorEq,rA,rq,rL,zA,aZ,true_implies,and_true,lC,lN,List.getD_cons_zero]))
    refine Yb hT QV hhe hhn 4 ?_
    refine ya ?_
    iterate 30 (try (refine Qa 4 ?_; simp -implicitDefEqProofs (disch:=omega) only [go_sem,Qd,↓reduceIte,reduceCtorEq,rA,rq,rL,zA,lR,Qf,false_implies,true_implies,and_true,lC,lN,List.getD_cons_zero,List.getD_cons_succ,hi,hD,k3n,hwl,htk]))
    refine QzA hT Qb4 (hwv▸k_at hT vs lk rs ss sure hr (hat.resolve_right k3)) 4 fun t2 ht2=>?_
    refine ya ?_
    iterate 30 (try (refine Qa 4 ?_; simp -implicitDefEqProofs (disch:=omega) only [go_sem,↓reduceIte,reduceCtorEq,rq,e2]))
    refine ⟨_, _, Shift.refl _ _ _ _, num, L', t2, w2, w3, w4, hns'.symm, hE, hLl, ?_⟩
    exact yb
  ·rw [decide_eq_false hin] at hb
   subst hb
   refine QU [(0,.ptr 1 v0 0),(2,.lst 3 (prs ps) tg),(4,.int .i64 vars),(5,.int .i64 nx),(6,.int .i64 bh),(8,.ref (.agg wv) 0),(15,.lst 1 (ints inn) false),(16,.int .i64 x),(17,.bool num),(18,.int .i64 ((i:Nat):Int)),(19,.bool false)] ⟨f0,f2,f4,f5,f6,f8,f15,f16,f17,f18,f19,trivial⟩  30 ?_
   refine yk ?_
   refine ⟨_, _, Shift.refl _ _ _ _, num, L', t', w2, w3, w4, ?_, hE, hLl, ?_⟩
   ·rw [hns]; simp [hin]
   ·exact yb
end Go.Proofs.YtfgccihafnjalaaGreatDoor
namespace Go.Proofs.YtfgccihafnjalaaGreatDoor
open Go Go.Am Go.Re
set_option maxRecDepth 100000
structure PsOk (ps:List Pr) (vars:Nat):Prop where
 k:∀ p∈ps,p.k=1∨p.k=2∨p.k=3
 v:∀ p∈ps,-1≤p.v∧p.v<vars
theorem PsOk.k0 {ps:List Pr} {vars:Nat} (h:PsOk ps vars):∀ p∈ps,p.k≠0:=fun p hp=>by have:=h.k p hp; omega
theorem vE_in {vars:Nat} {ps:List Pr} {v:Int} (h:-1≤v∧v<vars):vE v∈Qh8 vars ps:=by
 unfold Qh8
 by_cases e:v=-1
 ·subst e; exact List.mem_cons_self
 ·refine List.mem_cons_of_mem _ (List.mem_append_left _ ?_)
  unfold vEs
  refine List.mem_map.2 ⟨v.toNat,List.mem_range.2 (by omega),?_⟩
  rw [Int.toNat_of_nonneg (by omega)]
def hvW (L:List Nd) (ps:List Pr) (b:Int) (vars:Nat) (v:Int):Int:=Z9 L (Qr (ties ps)) (frS ps b vars).1 (vE v)
theorem QmN {L:List Nd} {ps:List Pr} {b:Int} {vars:Nat} (hA:AllH L (frS ps b vars).1) {v:Int} (h:-1≤v∧v<vars):∃ t,val ps b (Qh8 vars ps) (vE v)=some t∧hvW L ps b vars v=XR L (tmN t)∧Hs L (tmN t):=by
 obtain ⟨t,ht⟩:=Option.isSome_iff_exists.1 (Qs6 (l:=ps) (b0:=b) (vE_in (vars:=vars) (ps:=ps) h))
 have h2:Re.get (frS ps b vars).1 (Ql (Qr (ties ps)) (vE v))=some t:=ht
 exact ⟨t,ht,XW h2,hA.get h2⟩
theorem Qzc {L:List Nd} {ps:List Pr} {b:Int} {vars:Nat} {u v:Int} (h:Conn (ties ps) (vE v) (vE u)):hvW L ps b vars u=hvW L ps b vars v:=by
 unfold hvW Z9
 rw [(QbK (ties ps) _ _).2 h]
theorem QGk {L:List Nd} {ps:List Pr} {b:Int} {vars:Nat} {p:Pr} (hp:p∈ps):Z9 L (Qr (ties ps)) (frS ps b vars).1 (pE p)=hvW L ps b vars p.v:=by
 unfold hvW Z9
 rw [(QbK (ties ps) (pE p) (vE p.v)).2 (.bwd (.refl _) (List.mem_map.2 ⟨p,hp,rfl⟩))]
theorem QGm {L:List Nd} {ps:List Pr} {b:Int} {vars:Nat} (hA:AllH L (frS ps b vars).1) {v:Int} (h:-1≤v∧v<vars) {inn:List Int} (hk:∀ p∈ps,p.k≠0) (hT:TiedOk ps v inn) {l1 l2:List Pr} {p:Pr} (he:ps=l1++p::l2) (h1:∀ q∈l1,¬ (q.k=3∧q.v∈inn)) (h3:p.k=3) (hv:p.v∈inn):hvW L ps b vars v=XR L (co p.n)∧Hs L (co p.n):=by
 obtain ⟨t,ht,e,hh⟩:=QmN hA h
 have hc:val ps b (Qh8 vars ps) (vE v)=some (.c p.n):=by
  refine Qji.2 ?_
  have hf:(ps.find? fun q=>decide (q.k=3∧Ql (Qr (ties ps)) (vE q.v)=Ql (Qr (ties ps)) (vE v)))=some p:=by
   have hx:∀ q:Pr,(q.k=3∧Ql (Qr (ties ps)) (vE q.v)=Ql (Qr (ties ps)) (vE v))↔(q.k=3∧q.v∈inn):=fun q=>by
    rw [hT.iff hk q.v,← QbK]
    exact ⟨fun ⟨a,c⟩=>⟨a,c.symm⟩,fun ⟨a,c⟩=>⟨a,c.symm⟩⟩
   simp only [hx]
   rw [he,List.find?_append,List.find?_eq_none.2 (fun q hq=>by simpa using fun a=>h1 q hq |> fun c d=>c ⟨a,d⟩)]
   simp [h3,hv]
  rw [hf]; rfl
 rw [hc] at ht
 cases ht
 exact ⟨e,hh⟩
theorem QGl {L:List Nd} {ps:List Pr} {b:Int} {vars:Nat} (hA:AllH L (frS ps b vars).1) {v:Int} (h:-1≤v∧v<vars) {inn:List Int} (hk:∀ p∈ps,p.k≠0) (hT:TiedOk ps v inn) (h1:∀ q∈ps,¬ (q.k=3∧q.v∈inn)) :
 ∃ c,hvW L ps b vars v=XR L (sy c)∧Hs L (sy c)∧b≤c∧c<(frS ps b vars).2∧∀ u:Int,-1≤u∧u<vars→u ∉ inn→hvW L ps b vars u≠hvW L ps b vars v:=by
 obtain ⟨t,ht,e,hh⟩:=QmN hA h
 cases t with
 | c n =>
   obtain ⟨q,hq,h3,hc⟩:=Qoq.1 ⟨n,ht⟩
   exact absurd ⟨h3,(hT.iff hk q.v).2 hc⟩ (h1 q hq)
 | s c =>
   have hs:=Qv0 ht
   refine ⟨c,e,hh,hs.1,hs.2,fun u hu hni hq=>?_⟩
   obtain ⟨t', ht', e', hh'⟩ := QmN hA hu
   rw [e,e'] at hq
   have h2:=(QlQ hh' hh).1 hq
   cases t' with
   | c n=>simp [tmN,co,sy] at h2
   | s c' =>
     have:c'=c:=by simpa [tmN,sy] using h2
     subst this
     exact hni ((hT.iff hk u).2 (Qv1 ht ht'))
theorem QwT {L:List Nd} {ps:List Pr} {b:Int} {vars:Nat} (hA:AllH L (frS ps b vars).1) {v c:Int} (h:-1≤v∧v<vars) (hs:Hs L (sy c)) (hc:c<b):XR L (sy c)≠hvW L ps b vars v:=fun hq=>by
 obtain ⟨t,ht,e,hh⟩:=QmN hA h
 rw [e] at hq
 have h2:=(QlQ hs hh).1 hq
 cases t with
 | c n=>simp [tmN,co,sy] at h2
 | s c' =>
   have e2:c=c':=by simpa [tmN,sy] using h2
   have:=Qv0 ht
   omega
theorem frS_le {ps:List Pr} {b:Int} {vars:Nat}:b≤(frS ps b vars).2:=top_le ps b (Qh8 vars ps)
def Xg (ps:List Pr) (k n:Int):Bool:=ps.any fun p=>decide (p.k=k∧p.n=n)
def rNo (b:Int) (r:Nat):Int:=b+(if r=1 then 0 else (r:Int) - 2)
theorem QFT {L:List Nd} {b:Int} {r:Nat} (h1:1≤r) (h2:r≠2):QkM L b r=XR L (sy (rNo b r)):=by
 unfold QkM Qtj rNo
 rw [if_neg h2,if_neg (by omega)]
def QgG (ps:List Pr) (b:Int):Nat→List Int
 | 0=>[]
 | r+1=>QgG ps b r++if 1≤r∧r≠2∧Xg ps 1 (r:Int)=false then [rNo b r] else []
def QiJ (ps:List Pr) (b:Int):Nat→List Int
 | 0=>[]
 | i+1=>QiJ ps b i++if Xg ps 2 (i:Int)=false then [b+30+(i:Int)] else []
theorem QiK {ps:List Pr} {b:Int}:∀ {k:Nat} {c:Int},c∈QgG ps b k→∃ r,1≤r∧r<k∧r≠2∧c=rNo b r
 | 0,c,h=>by simp [QgG] at h
 | k+1,c,h=>by
   unfold QgG at h
   rcases List.mem_append.1 h with h | h
   ·obtain ⟨r,h1,h2,h3,h4⟩:=QiK h; exact ⟨r,h1,by omega,h3,h4⟩
   ·split at h
    ·rename_i hc
     rw [List.mem_singleton] at h
     exact ⟨k,hc.1,by omega,hc.2.1,h⟩
    ·simp at h
theorem QiI {ps:List Pr} {b:Int}:∀ {k:Nat} {c:Int},c∈QiJ ps b k→∃ i:Nat,i<k∧c=b+30+(i:Int)
 | 0,c,h=>by simp [QiJ] at h
 | k+1,c,h=>by
   unfold QiJ at h
   rcases List.mem_append.1 h with h | h
   ·obtain ⟨r,h1,h2⟩:=QiI h; exact ⟨r,by omega,h2⟩
   ·split at h
    ·rw [List.mem_singleton] at h; exact ⟨k,by omega,h⟩
    ·simp at h
theorem Qoy {l:List Int} {x:Int} (h:l.Nodup) (hx:x ∉ l):(l++[x]).Nodup:=by
 rw [List.nodup_append]
 refine ⟨h,by simp,fun a ha b hb e=>?_⟩
 rw [List.mem_singleton] at hb
 subst e hb; exact hx ha
theorem Qpv {ps:List Pr} {b:Int}:∀ k:Nat,(QgG ps b k).Nodup
 | 0=>by simp [QgG]
 | k+1=>by
   unfold QgG
   split
   ·rename_i hc
    refine Qoy (Qpv k) fun hm=>?_
    obtain ⟨r,h1,h2,h3,h4⟩:=QiK hm
    unfold rNo at h4
    by_cases e1:k=1
    ·omega
    ·rw [if_neg e1] at h4
     by_cases e2:r=1
     ·rw [if_pos e2] at h4; omega
     ·rw [if_neg e2] at h4; omega
   ·rw [List.append_nil]; exact Qpv k
theorem Qpu {ps:List Pr} {b:Int}:∀ k:Nat,(QiJ ps b k).Nodup
 | 0=>by simp [QiJ]
 | k+1=>by
   unfold QiJ
   split
   ·refine Qoy (Qpu k) fun hm=>?_
    obtain ⟨r,h1,h2⟩:=QiI hm
    omega
   ·rw [List.append_nil]; exact Qpu k
theorem QiL (ps:List Pr) (b:Int):∀ k:Nat,(QgG ps b k).length≤k
 | 0=>by simp [QgG]
 | k+1=>by have:=QiL ps b k; unfold QgG; rw [lA]; split <;> simp <;> omega
theorem QmO (ps:List Pr) (b:Int):∀ k:Nat,(QiJ ps b k).length≤k
 | 0=>by simp [QiJ]
 | k+1=>by have:=QmO ps b k; unfold QiJ; rw [lA]; split <;> simp <;> omega
def QqJ (ps:List Pr) (b:Int) (cnt:Nat):List Int:=QgG ps b 32++QiJ ps b cnt
theorem Qzo (ps:List Pr) (b:Int) (cnt:Nat):(QqJ ps b cnt).Nodup:=by
 unfold QqJ
 rw [List.nodup_append]
 refine ⟨Qpv 32,Qpu cnt,fun x hx y hy e=>?_⟩
 subst e
 obtain ⟨r,h1,h2,h3,h4⟩:=QiK hx
 obtain ⟨i,h5,h6⟩:=QiI hy
 unfold rNo at h4
 split at h4 <;> omega
theorem Qzn {ps:List Pr} {b:Int} {cnt:Nat} {L:List Nd} (hR:AllR L b 32) (hS:AllS L b cnt) {c:Int} (h:c∈QqJ ps b cnt):b≤c∧c<b+30+((cnt:Nat):Int)∧Hs L (sy c):=by
 unfold QqJ at h
 rcases List.mem_append.1 h with h | h
 ·obtain ⟨r,h1,h2,h3,h4⟩:=QiK h
  have:=hR r h2 h3
  unfold Qtj at this
  rw [if_neg (by omega)] at this
  have e:c=b+(if r=1 then 0 else (r:Int) - 2):=h4
  rw [← e] at this
  refine ⟨?_,?_,this⟩ <;> (split at e <;> omega)
 ·obtain ⟨i,h1,h2⟩:=QiI h
  subst h2
  exact ⟨by omega,by omega,hS i h1⟩
def QjG (L:List Nd) (l:List Int):List V:=l.map fun c=>.int .i64 (XR L (sy c))
theorem Qbb (L:List Nd) (l:List Int):(QjG L l).length=l.length:=by simp [QjG]
theorem Qzl {L:List Nd} {l:List Int} {i:Nat} {c:Int} (h:l[i]?=some c):(QjG L l)[i]?=some (.int .i64 (XR L (sy c))):=by simp [QjG,h]
theorem QoG (L:List Nd) (l:List Int) (c:Int):QjG L l++[.int .i64 (XR L (sy c))]=QjG L (l++[c]):=by simp [QjG]
variable {P:Program} {G:Nat→Option V}
theorem QGs (_hT:Qn P tab) (F:Fmt P G) {v0 v1:Nat} {L:List Nd} {ps:List Pr} {tg:Bool} {vars nx bh x:Int} {wv:List V} {inn:List Int} {i:Nat} (hi:i=ps.length) {fr:Fr} {σ:Am.H} (hJ:h0J F v0 v1 L ps tg vars nx bh x wv inn i fr σ) :
 W P G 174 0 (AC.seq (AC.seq (AC.reg Qp7 [32,33,34])   (AC.cond (Arg.t 35)   AC.skip   (AC.exit 0)))   (AC.seq (AC.block 1 (AC.seq (AC.reg Qp6 [])   (AC.seq (AC.seq (AC.reg Qp5 [])   (AC.block 2 (AC.loop (AC.seq (AC.seq (AC.reg Qi3 [38,39,40])   (AC.cond (Arg.t 41)   AC.skip   (AC.exit 2)))   (AC.seq (AC.block 3 (AC.reg Qi2 [44,45,46,47,48,49,50,51,52,53,54,55,56]))   (AC.reg Qdr [42,43]))))))   (AC.seq (AC.seq (AC.reg Qkh [57])   (AC.cond (Arg.t 58)   (AC.exit 1)   AC.skip))   (AC.seq (AC.seq (AC.reg Qkg [59,60,61,62,63,64,65,66,67])   (AC.cond (Arg.t 68)   (AC.seq (AC.reg Qkf [])   (AC.seq (AC.reg Qke [69,70,71,72,73,74,75,76])   (AC.cond (Arg.t 77)   (AC.seq (AC.reg Qkd [])   AC.ret)   AC.skip)))   AC.skip))   (AC.seq (AC.reg Qkc [78,79,80,81,82,83,84,85,86,87,88,89,90,91,92,93,94,95,96,97,98,99,100,101,102,103,104,105,106,107,108,109,110])   (AC.cond (Arg.t 111)   (AC.seq (AC.reg Qkb [])   AC.ret)   AC.skip)))))))   (AC.reg Qka [36,37]))) fr σ (Qaw (fun _ _=>False) (h0E F v0 v1 L ps vars nx bh x wv inn)):=by
 obtain ⟨num, L', t', w2, w3, w4, hn, hE, hLl, f0, f2, f4, f5, f6, f8, f15, f16, f17, f18, rfl⟩ := hJ
 rw [hi,List.take_length] at hn
 refine Qj [(0,.ptr 1 v0 0),(2,.lst 3 (prs ps) tg),(4,.int .i64 vars),(5,.int .i64 nx),(6,.int .i64 bh),(8,.ref (.agg wv) 0),(15,.lst 1 (ints inn) false),(16,.int .i64 x),(17,.bool num),(18,.int .i64 ((i:Nat):Int))] ⟨f0,f2,f4,f5,f6,f8,f15,f16,f17,f18,trivial⟩  12 ?_
 simp -implicitDefEqProofs (disch:=omega) only [go_sem,↓reduceIte,reduceCtorEq,rq,decide_false,Qp7,Qp6,Qp5,Qi3,Qi2,Qdr,Qkh,Qkg,Qkf,Qke,Qkd,Qkc,Qkb,Qka,Qf,hi,Nat.lt_irrefl]
 refine ⟨num, L', t', w2, w3, w4, rfl, hn, hE, by split at hLl <;> omega, ?_⟩
 repeat' (first | exact rfl | refine ⟨rfl,?_⟩)
abbrev h2J (vars x:Int) (wv:List V) (inn:List Int) (num:Bool) (σ0:Am.H):Nat→Fr→H→Prop:=fun i fr σ=>∃ u:Int,u=((i:Nat):Int) - 1∧Qh fr 4=.int .i64 vars∧Qh fr 8=.ref (.agg wv) 0∧Qh fr 15=.lst 1 (ints inn) false∧Qh fr 16=.int .i64 x∧Qh fr 17=.bool num∧Qh fr 23=.int .i64 u∧σ=σ0
theorem Qze (hT:Qn P tab) {vars nx bh v lk:Int} {L:List Nd} {ps:List Pr} {vs rs ss:List Int} {sure:Bool} {inn:List Int} {num:Bool} {σ0:Am.H} (hr:rs.length=32) (hvl:vars≤vs.length) (hil:inn.length≤1000000) (hvs:vs.length≤1000000) (hne:num=false→∀ u:Int,-1≤u∧u<vars→u ∉ inn→hW vs lk u≠hW vs lk v) {i:Nat} (hi:((i:Nat):Int) - 1<vars) {fr:Fr} {σ:Am.H} (hJ:h2J vars (hW vs lk v) (wV vs lk rs ss sure) inn num σ0 i fr σ) :
 W P G 174 0 (AC.seq (AC.seq (AC.reg Qg4 [141, 142, 143, 144, 145, 146])   (AC.cond (Arg.t 147)   AC.skip   (AC.exit 4)))   (AC.seq (AC.block 5 (AC.seq (AC.reg Qg3 [])   (AC.seq (AC.seq (AC.reg Qg2 [])   (AC.block 6 (AC.loop (AC.seq (AC.seq (AC.reg Qb2 [150, 151, 152])   (AC.cond (Arg.t 153)   AC.skip   (AC.exit 6)))   (AC.seq (AC.block 7 (AC.reg Qb1 [156, 157, 158, 159, 160, 161, 162, 163, 164]))   (AC.reg Qb0 [154, 155]))))))   (AC.seq (AC.reg Qg1 [165, 166, 167, 168, 169, 170, 171, 172])   (AC.cond (Arg.t 173)   (AC.seq (AC.reg Qg0 [])   AC.ret)   AC.skip)))))   (AC.reg QgZ [148, 149]))) fr σ (Qaw (fun fr σ => ∃ fr' σ', Shift G 174 0 fr σ fr' σ' ∧ h2J vars (hW vs lk v) (wV vs lk rs ss sure) inn num σ0 (i + 1) fr' σ') (fun e _ σ => e = .ex 4 ∧ σ = σ0)) := by
 obtain ⟨u,hu,f4,f8,f15,f16,f17,f23,rfl⟩:=hJ
 obtain ⟨x,hx⟩:∃ x,x=hW vs lk v:=⟨_,rfl⟩
 have hwn:=Qys vs lk rs ss sure
 have hwl:(wV vs lk rs ss sure).length=36:=by simp [wV,Qo,hr]
 have htk:List.take 36 (wV vs lk rs ss sure)=wV vs lk rs ss sure:=List.take_of_length_le (by omega)
 have hhe:=Qxr (P:=P) (G:=G) hT vs lk rs ss sure hr (v:=u) (by omega) (by omega)
 obtain ⟨wv,hwv⟩:∃ wv,wv=wV vs lk rs ss sure:=⟨_,rfl⟩
 rw [← hwv] at f8 hwn hwl hhe htk ⊢
 rw [← hx] at f16 hne ⊢
 have hlt:u<vars:=by omega
 have e2:IntKind.i64.wrap (u+1)=u+1:=QkG (by omega)
 cases num with
 | true =>
   refine Qj [(4,.int .i64 vars),(8,.ref (.agg wv) 0),(15,.lst 1 (ints inn) false),(16,.int .i64 x),(17,.bool true),(23,.int .i64 u)] ⟨f4,f8,f15,f16,f17,f23,trivial⟩  12 ?_
   refine yF ?_
   iterate 12 (try (refine Qa 4 ?_; simp -implicitDefEqProofs (disch:=omega) only [go_sem,and_true]))
 | false =>
   refine Qj [(4,.int .i64 vars),(8,.ref (.agg wv) 0),(15,.lst 1 (ints inn) false),(16,.int .i64 x),(17,.bool false),(23,.int .i64 u)] ⟨f4,f8,f15,f16,f17,f23,trivial⟩  28 ?_
   refine yF ?_
   refine XU inn (h3J vars x wv inn false u _) (h3E vars x wv inn false u σ) ⟨false,by simp,?_⟩ (fun k y hk fr σ' hJ=>Qzd hT hk hil hJ) (fun k hk fr σ' hJ=>QGp hT hk hJ) (fun e fr σ' hE=>?_)
   ·refine ye ?_
    try simp
   ·obtain ⟨b,rfl,hb,f4,f8,f15,f16,f17,f23,f24,rfl⟩:=hE
    by_cases hin:u∈inn
    ·rw [decide_eq_true hin] at hb
     subst hb
     refine QU [(4,.int .i64 vars),(8,.ref (.agg wv) 0),(15,.lst 1 (ints inn) false),(16,.int .i64 x),(17,.bool false),(23,.int .i64 u),(24,.bool true)] ⟨f4,f8,f15,f16,f17,f23,f24,trivial⟩  30 ?_
     refine yk ?_
     iterate 12 (try (refine Qa 4 ?_; simp -implicitDefEqProofs (disch:=omega) only [go_sem,Qd,↓reduceIte,reduceCtorEq,rA,rq,rL,rT,Nat.reduceSub,Nat.reduceMul,Int.reduceToNat,Int.reduceLE,Int.reduceLT,Int.reduceEq,Int.reduceNe,Nat.succ_ne_zero,zA,aZ,Nat.mul_one,Nat.one_mul,Nat.zero_mul,decide_true,decide_false,nT,nF,lR,zL,ge_iff_le,gt_iff_lt,Nat.reduceBEq,Nat.reduceBNe,beq_self_eq_true,bne_self_eq_false,Option.isSome_some,Option.isSome_none,Option.getD_some,Option.getD_none,proofmarklaw25_holds,Qyf,Qye,Qyd,Qyc,Qyb,Qp7,Qp6,Qp5,Qi3,Qi2,Qdr,Qkh,Qkg,Qkf,Qke,Qkd,Qkc,Qkb,Qka,Qs3,Qs2,Qs1,Qs0,Qg4,Qg3,Qg2,Qb2,Qb1,Qb0,Qg1,Qg0,QgZ,QsZ,Qo,Qf,false_implies,true_implies,true_and,and_true,not_true_eq_false,not_false_eq_true,Int.reduceBEq,aA,cA,nA,lA,lC,lN,List.getElem?_cons_zero,List.getElem?_cons_succ,List.getD_cons_zero,List.getD_cons_succ,List.set_cons_zero,List.set_cons_succ,nT,nF,e2,hwl,htk]))
     refine ⟨_,_,Shift.refl _ _ _ _,u+1,by omega,?_⟩
     exact yb
    ·rw [decide_eq_false hin] at hb
     subst hb
     have hnx:(hW vs lk u==x)=false:=by simpa using hne rfl u ⟨by omega,hlt⟩ hin
     have hhn:Qc [V.agg wv,.int .i64 u]=true:=by simp [Qc,Qe,hwn]
     refine QU [(4,.int .i64 vars),(8,.ref (.agg wv) 0),(15,.lst 1 (ints inn) false),(16,.int .i64 x),(17,.bool false),(23,.int .i64 u),(24,.bool false)] ⟨f4,f8,f15,f16,f17,f23,f24,trivial⟩  30 ?_
     simp -implicitDefEqProofs (disch:=omega) only [go_sem,↓reduceIte,reduceCtorEq,rA,rq,zA,nF,lR,false_implies,and_true,nF,hwl,htk]
     iterate 12 (try (refine Qa 4 ?_; simp -implicitDefEqProofs (disch:=omega) only [go_sem,Qd,↓reduceIte,reduceCtorEq,rA,rq,rL,rT,Nat.reduceSub,Nat.reduceMul,Int.reduceToNat,Int.reduceLE,Int.reduceLT,Int.reduceEq,Int.reduceNe,Nat.succ_ne_zero,zA,aZ,Nat.mul_one,Nat.one_mul,Nat.zero_mul,decide_true,decide_false,nT,nF,lR,zL,ge_iff_le,gt_iff_lt,Nat.reduceBEq,Nat.reduceBNe,beq_self_eq_true,bne_self_eq_false,Option.isSome_some,Option.isSome_none,Option.getD_some,Option.getD_none,proofmarklaw25_holds,Qyf,Qye,Qyd,Qyc,Qyb,Qp7,Qp6,Qp5,Qi3,Qi2,Qdr,Qkh,Qkg,Qkf,Qke,Qkd,Qkc,Qkb,Qka,Qs3,Qs2,Qs1,Qs0,Qg4,Qg3,Qg2,Qb2,Qb1,Qb0,Qg1,Qg0,QgZ,QsZ,Qo,Qf,false_implies,true_implies,true_and,and_true,not_true_eq_false,not_false_eq_true,Int.reduceBEq,aA,cA,nA,lA,lC,lN,List.getElem?_cons_zero,List.getElem?_cons_succ,List.getD_cons_zero,List.getD_cons_succ,List.set_cons_zero,List.set_cons_succ,nT,nF,e2,hwl,htk]))
     refine Yb hT QV hhe hhn 4 ?_
     simp -implicitDefEqProofs (disch:=omega) only [go_sem,↓reduceIte,rA,rq,hnx]
     iterate 12 (try (refine Qa 4 ?_; simp -implicitDefEqProofs (disch:=omega) only [go_sem,↓reduceIte,rq,e2]))
     refine ⟨_,_,Shift.refl _ _ _ _,u+1,by omega,?_⟩
     exact yb
theorem QGq (_hT:Qn P tab) {vars x:Int} {wv:List V} {inn:List Int} {num:Bool} {σ0:Am.H} {i:Nat} (hi:((i:Nat):Int) - 1=vars) {fr:Fr} {σ:Am.H} (hJ:h2J vars x wv inn num σ0 i fr σ) :
 W P G 174 0 (AC.seq (AC.seq (AC.reg Qg4 [141,142,143,144,145,146])   (AC.cond (Arg.t 147)   AC.skip   (AC.exit 4)))   (AC.seq (AC.block 5 (AC.seq (AC.reg Qg3 [])   (AC.seq (AC.seq (AC.reg Qg2 [])   (AC.block 6 (AC.loop (AC.seq (AC.seq (AC.reg Qb2 [150,151,152])   (AC.cond (Arg.t 153)   AC.skip   (AC.exit 6)))   (AC.seq (AC.block 7 (AC.reg Qb1 [156,157,158,159,160,161,162,163,164]))   (AC.reg Qb0 [154,155]))))))   (AC.seq (AC.reg Qg1 [165,166,167,168,169,170,171,172])   (AC.cond (Arg.t 173)   (AC.seq (AC.reg Qg0 [])   AC.ret)   AC.skip)))))   (AC.reg QgZ [148,149]))) fr σ (Qaw (fun _ _=>False) (fun e _ σ=>e=.ex 4∧σ=σ0)):=by
 obtain ⟨u,hu,f4,f8,f15,f16,f17,f23,rfl⟩:=hJ
 have hlt:¬ u<vars:=by omega
 refine Qj [(4,.int .i64 vars),(8,.ref (.agg wv) 0),(15,.lst 1 (ints inn) false),(16,.int .i64 x),(17,.bool num),(23,.int .i64 u)] ⟨f4,f8,f15,f16,f17,f23,trivial⟩  20 ?_
 simp -implicitDefEqProofs (disch:=omega) only [go_sem,↓reduceIte,rq,decide_false,Qg4,Qg3,Qg2,Qb2,Qb1,Qb0,Qg1,Qg0,QgZ,and_true,hlt]
theorem QC2 (hT:Qn P tab) {vars nx bh v lk:Int} {L:List Nd} {ps:List Pr} {vs rs ss:List Int} {sure:Bool} {inn:List Int} {num:Bool} {σ0:Am.H} (hr:rs.length=32) (hvl:vars≤vs.length) (hv0:0≤vars) (hil:inn.length≤1000000) (hvs:vs.length≤1000000) (hne:num=false→∀ u:Int,-1≤u∧u<vars→u ∉ inn→hW vs lk u≠hW vs lk v) {s:List KI} {Q:AE→Fr→Am.H→Prop} {fr:Fr} (h:h2J vars (hW vs lk v) (wV vs lk rs ss sure) inn num σ0 0 fr σ0) (after:∀ fr,sem P G 174 0 Q s (.ex 4) fr σ0):sem P G 174 0 Q (.ac (.loop (AC.seq (AC.seq (AC.reg Qg4 [141,142,143,144,145,146])   (AC.cond (Arg.t 147)   AC.skip   (AC.exit 4)))   (AC.seq (AC.block 5 (AC.seq (AC.reg Qg3 [])   (AC.seq (AC.seq (AC.reg Qg2 [])   (AC.block 6 (AC.loop (AC.seq (AC.seq (AC.reg Qb2 [150,151,152])   (AC.cond (Arg.t 153)   AC.skip   (AC.exit 6)))   (AC.seq (AC.block 7 (AC.reg Qb1 [156,157,158,159,160,161,162,163,164]))   (AC.reg Qb0 [154,155]))))))   (AC.seq (AC.reg Qg1 [165,166,167,168,169,170,171,172])   (AC.cond (Arg.t 173)   (AC.seq (AC.reg Qg0 [])   AC.ret)   AC.skip)))))   (AC.reg QgZ [148,149]))))::s) .nrm fr σ0 :=
 Qd7 (vars+1).toNat (h2J vars (hW vs lk v) (wV vs lk rs ss sure) inn num σ0) (fun e _ σ=>e=.ex 4∧σ=σ0) h (fun i hi fr σ hJ=>Qze (nx:=nx) (bh:=bh) (L:=L) (ps:=ps) hT hr hvl hil hvs hne (by omega) hJ) (fun i hi fr σ hJ=>QGq hT (by omega) hJ) (fun e fr σ hE2=>by obtain ⟨rfl,rfl⟩:=hE2; exact after fr)
theorem QwW {L:List Nd} {d:Nd} (h:Hs L d):L.getD (XR L d).toNat zeroNd=d:=by rw [List.getD_eq_getElem?_getD,(QmL h).2]; rfl
theorem c_holds (hT:Qn P tab) (F:Fmt P G) {v0 v1 v2 v3 v4 t:Nat} {L:List Nd} {ps:List Pr} {tg:Bool} {vars nx bh v lk:Int} {vs rs ss:List Int} {sure:Bool} (hr:rs.length=32) (hvl:((vs.length:Nat):Int)=vars) (hv:-1≤v∧v<vars) (hn:vs.length≤1000) (hH:HoOk L ps vs lk rs ss vars nx bh v) (hpl:ps.length≤100000) (hL:L.length≤100000) :
 C P G 0 n_proofmarklaw25_holds [.ptr 1 v0 0, .agg (wV vs lk rs ss sure), .lst 3 (prs ps) tg, .int .i64 v, .int .i64 vars, .int .i64 nx, .int .i64 bh] ⟨t, kG F.fmt v0 v1 v2 v3 v4 L⟩ fun u σ => u = .bool true ∧ ∃ L' t' w2 w3 w4, Ext L L' ∧ L'.length ≤ L.length + 1 ∧ σ = ⟨t', kG F.fmt v0 v1 w2 w3 w4 L'⟩ := by
 refine QrJ (Q := fun u σ => u = .bool true ∧ ∃ L' t' w2 w3 w4, ∃ ex : List (Option Ob), Ext L L' ∧ L'.length ≤ L.length + 1 ∧ σ = ⟨t', kG F.fmt v0 v1 w2 w3 w4 L' ++ ex⟩) ?_ fun u σ' hq => ?_
 rotate_left
 ·obtain ⟨rfl, L', t', w2, w3, w4, ex, h1, h2, rfl⟩ := hq
  exact ⟨kG F.fmt v0 v1 w2 w3 w4 L', t', Y8 _ _, lR _, zL _, rfl, L', t', w2, w3, w4, h1, h2, rfl⟩
 refine Q6 hT t_proofmarklaw25_holds (by simp [proofmarklaw25_holds]) (Qq 5 ?_)
 have hwn:=Qys vs lk rs ss sure
 have hwl:(wV vs lk rs ss sure).length=36:=by simp [wV,Qo,hr]
 have htk:List.take 36 (wV vs lk rs ss sure)=wV vs lk rs ss sure:=List.take_of_length_le (by omega)
 have hone:ones (wV vs lk rs ss sure)=True:=eq_true fun u hu=>by
  rcases List.mem_cons.1 hu with rfl | hu
  ·rfl
  rcases List.mem_cons.1 hu with rfl | hu
  ·rfl
  have:=QoU rs ss sure
  exact (of_eq_true this) u hu
 have hhe:=Qxr (P:=P) (G:=G) hT vs lk rs ss sure hr hv.1 (by omega)
 have hhn:Qc [V.agg (wV vs lk rs ss sure),.int .i64 v]=true:=by simp [Qc,Qe,hwn]
 obtain ⟨wv,hwv⟩:∃ wv,wv=wV vs lk rs ss sure:=⟨_,rfl⟩
 rw [← hwv] at hwn hwl hhe htk hhn hone ⊢
 simp -implicitDefEqProofs (disch:=omega) only [go_sem,↓reduceIte,reduceCtorEq,rA,rq,zA,proofmarklaw25_holds,Qyf,Qye,Qyd,Qyc,Qyb,Qp7,Qp6,Qp5,Qi3,Qi2,Qdr,Qkh,Qkg,Qkf,Qke,Qkd,Qkc,Qkb,Qka,Qs3,Qs2,Qs1,Qs0,Qg4,Qg3,Qg2,Qb2,Qb1,Qb0,Qg1,Qg0,QgZ,QsZ,and_true,hone,Qcq]
 refine X6 (Shift.freeze (k:=5) (v:=t) (T:=49) (cs:=wv) (zL _) (by first | rfl | exact QjD) hwn) ?_
 have hne:wv≠[]:=fun e=>by rw [e] at hwl; cases hwl
 simp only [Ye,Zm,Z3,QbO,Qdc,QkA (lR 5),rq,false_and,and_self,if_true,if_false,if_neg hne,QP,Option.map_none]
 refine Qa 12 ?_
 refine ya ?_
 refine Qbi hT Qa0 (c_Tied (P:=P) (G:=G) hT ps tg v (by omega)) (by simp [Qc,Qe]) 12 fun u hu=>?_
 obtain ⟨inn,hti,hTI,rfl⟩:=hu
 have hil:=hTI.len
 simp -implicitDefEqProofs (disch:=omega) only [go_sem,↓reduceIte,reduceCtorEq,rq,zA,lR,false_implies,and_true,hwl,htk]
 refine Yb hT QV hhe hhn 12 ?_
 refine ya ?_
 have hw36:wv=wV vs lk rs ss sure:=hwv
 refine XU ps (h0J F v0 v1 L ps tg vars nx bh (hW vs lk v) wv inn) (h0E F v0 v1 L ps vars nx bh (hW vs lk v) wv inn) ⟨false,L,t+1,v2,v3,v4,by simp [QyZ],Ext.refl L,by simp,?_⟩ (fun i p hp fr σ hJ=>?_) (fun i hi fr σ hJ=>QGs hT F hi hJ) (fun e fr σ hE=>?_)
 ·refine ye ?_
  try simp
 ·subst hw36
  exact Qzg hT F hr hH hti (by omega) (by omega) hL hp hJ
 ·obtain ⟨num, L', t', w2, w3, w4, rfl, hn2, hE, hLl, f0, f4, f5, f6, f8, f15, f16, f17, rfl⟩ := hE
  obtain ⟨x,hx⟩:∃ x,x=hW vs lk v:=⟨_,rfl⟩
  obtain ⟨hx0,hx1⟩:=hH.node
  rw [← hx] at f16 hx0 hx1
  have hll:L.length≤L'.length:=by obtain ⟨M,rfl,_⟩:=hE; simp
  have hnd:=QCY (P:=P) (G:=G) hT (base:=0) (fmt:=F.fmt) (v0:=v0) (v1:=v1) (v2:=w2) (v3:=w3) (v4:=w4) (t:=t') (L:=L') (ex:=[none]) (id:=x)
  rw [if_pos ⟨hx0,by omega⟩] at hnd
  obtain ⟨d,hd⟩:∃ d,d=L'.getD x.toNat zeroNd:=⟨_,rfl⟩
  rw [← hd] at hnd
  simp only [Nd.cells] at hnd
  cases num with
  | true =>
    refine QU [(0,.ptr 1 v0 0),(4,.int .i64 vars),(5,.int .i64 nx),(6,.int .i64 bh),(8,.ref (.agg wv) 0),(15,.lst 1 (ints inn) false),(16,.int .i64 x),(17,.bool true)] ⟨f0,f4,f5,f6,f8,f15,f16,f17,trivial⟩  12 ?_
    refine ya ?_
    refine QzA hT YP hnd 12 fun t2 ht2=>?_
    refine yo ?_
    iterate 20 (try (refine Qa 4 ?_; simp -implicitDefEqProofs (disch:=omega) only [go_sem,↓reduceIte,reduceCtorEq,rA,rq,zA,nT,nT]))
    subst hx
    subst hw36
    refine QC2 (num:=true) (vars:=vars) (v:=v) (lk:=lk) (vs:=vs) (rs:=rs) (ss:=ss) (sure:=sure) (inn:=inn) (nx:=nx) (bh:=bh) (L:=L) (ps:=ps) hT hr (by omega) (by omega) (by omega) (by omega) (fun e=>by cases e) ⟨-1,by omega,?_⟩ fun fr=>?_
    ·exact yb
    ·refine QU [] trivial 12 ?_
     refine yf ?_
     exact ⟨L', _, w2, w3, w4, _, hE, hLl, rfl, rfl⟩
  | false =>
    obtain ⟨c,hc1,hc2,hc3,hc4,hc5⟩:=hH.sym inn hti (Qwz hn2.symm)
    have hdc:d=sy c:=by rw [hd,hx,hc1,← Xw hc2 hE]; exact QwW (hc2.ext hE)
    rw [hdc] at hnd
    simp only [sy] at hnd
    have g1:¬ c<nx:=by omega
    have g2:¬ bh≤c:=by omega
    refine QU [(0,.ptr 1 v0 0),(4,.int .i64 vars),(5,.int .i64 nx),(6,.int .i64 bh),(8,.ref (.agg wv) 0),(15,.lst 1 (ints inn) false),(16,.int .i64 x),(17,.bool false)] ⟨f0,f4,f5,f6,f8,f15,f16,f17,trivial⟩  12 ?_
    refine ya ?_
    refine QzA hT YP hnd 12 fun t2 ht2=>?_
    refine yo ?_
    iterate 20 (try (refine Qa 4 ?_; simp -implicitDefEqProofs (disch:=omega) only [go_sem,↓reduceIte,reduceCtorEq,rA,rq,rL,zA,aZ,decide_false,nF,ge_iff_le,bne_self_eq_false,true_implies,and_true,lC,lN,List.getD_cons_zero,List.getD_cons_succ,nF,Qi1,g1,g2]))
    subst hx
    subst hw36
    refine QC2 (num:=false) (vars:=vars) (v:=v) (lk:=lk) (vs:=vs) (rs:=rs) (ss:=ss) (sure:=sure) (inn:=inn) (nx:=nx) (bh:=bh) (L:=L) (ps:=ps) hT hr (by omega) (by omega) (by omega) (by omega) (fun _=>hc5) ⟨-1,by omega,?_⟩ fun fr=>?_
    ·exact yb
    ·refine QU [] trivial 12 ?_
     refine yf ?_
     exact ⟨L', _, w2, w3, w4, _, hE, hLl, rfl, rfl⟩
end Go.Proofs.YtfgccihafnjalaaGreatDoor
