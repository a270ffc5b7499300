/- The law RelateAll: all pairs that there are. -/
import Derived.Test.YtfgccihafnjalaaGreatDoorJ18
import Derived.Test.YtfgccihafnjalaaGreatDoorY
open Nat renaming reduceEqDiff → rq, reduceAdd → rA, reduceLeDiff → rL, reduceLT → rT, zero_add → zA, le_refl → lR, zero_le → zL, add_zero → aZ
open List renaming length_cons → lC, length_nil → lN, take_succ_cons → tS, length_append → lA, nil_append → nA, cons_append → cA, append_assoc → aA, take_nil → tN, take_zero → tZ, length_map → lM
open Bool renaming not_false → nF, not_true → nT
namespace Go.Proofs.YtfgccihafnjalaaGreatDoor
open Go Go.Am Go.Re
set_option maxRecDepth 100000
variable {P:Program} {G:Nat→Option V}
set_option maxHeartbeats 2000000
section
attribute [local go_sem] and_true decide_false decide_true proofmarklaw25_RelateAll Qsu Qst QeZ QeY QeX QeW QeV QeU QeT QeS QeR Qlr Qss Qlq QhF QhE QeQ QeP Qcl Qck Qbx Qbw Qbv Qsr Qcj QeO QhD Qlp Qjp Qsq Qsp Qso Qsn Qlo Qln
variable {σ:Am.H} {fr:Fr} {fn wv:List V} {params v lk:Int} {l:List Pr} {L L1:List Nd} {v0 v1 n B cnt j i:Nat}
theorem QH0 (hT:Qh P tab) (F:Fmt P G) {q:Int} {k:Nat} (hk:k=33) (hJ:r3J F v0 v1 L l n params fn wv v q B k fr σ) :
 W P G 214 0 wR fr σ (YH (fun _ _=>False) (r3E F v0 v1 L l n params fn wv v q B)):=by
 obtain ⟨L',t',w2,w3,w4,u,hu,hE,hLl,f3,f9,f10,f11,f15,f18,f19,f20,f21,rfl⟩:=hJ
 have hlt:¬ u<32:=by omega
 refine Qe [(3,.int .i64 params),(9,.int .i64 ((n:Nat):Int)),(10,.ref (.agg fn) 0),(11,.ptr 1 v0 0),(15,.ref (.agg wv) 0),(18,.lst 3 (prs l) false),(19,.int .i64 v),(20,.int .u8 q),(21,.int .i64 u)] ⟨f3,f9,f10,f11,f15,f18,f19,f20,f21,trivial⟩  12 ?_
 refine yc ?_
 refine ⟨L',t',w2,w3,w4,rfl,hE,by omega,?_⟩
 repeat' (first | exact rfl | refine ⟨rfl,?_⟩)
abbrev r2J (F:Fmt P G) (v0 v1:Nat) (L:List Nd) (l:List Pr) (n:Nat) (params:Int) (fn wv:List V) (v:Int) (B:Nat):Nat→Fr→H→Prop:=fun j fr σ=>∃ L' t' w2 w3 w4,∃ q:Int,q=((j:Nat):Int)+1∧Ext L L'∧L'.length≤B+33 * j∧Qf fr 3=.int .i64 params∧Qf fr 9=.int .i64 ((n:Nat):Int)∧Qf fr 10=.ref (.agg fn) 0∧Qf fr 11=.ptr 1 v0 0∧Qf fr 15=.ref (.agg wv) 0∧Qf fr 18=.lst 3 (prs l) false∧Qf fr 19=.int .i64 v∧Qf fr 20=.int .u8 q∧σ=⟨t',kG F.fmt v0 v1 w2 w3 w4 L'⟩
abbrev r2E (F:Fmt P G) (v0 v1:Nat) (L:List Nd) (l:List Pr) (n:Nat) (params:Int) (fn wv:List V) (v:Int) (B:Nat):AE→Fr→H→Prop:=fun e fr σ=>∃ L' t' w2 w3 w4,e=.ex 5∧Ext L L'∧L'.length≤B+99∧Qf fr 3=.int .i64 params∧Qf fr 9=.int .i64 ((n:Nat):Int)∧Qf fr 10=.ref (.agg fn) 0∧Qf fr 11=.ptr 1 v0 0∧Qf fr 15=.ref (.agg wv) 0∧Qf fr 18=.lst 3 (prs l) false∧Qf fr 19=.int .i64 v∧σ=⟨t',kG F.fmt v0 v1 w2 w3 w4 L'⟩
variable {sure:Bool} {vs rs ss:List Int}
theorem QAb (hT:Qh P tab) (F:Fmt P G) (hwv:wv=wV vs lk rs ss sure) (hn:n≤8) (hc20:cnt≤20) (hW0:WOk L1 n cnt vs lk rs ss) (hl:∀ p,p∈l↔Qp7 L1 vs lk (plA rs ss) p) (hll:l.length≤1000) (hE1:Ext L1 L) (hB:B≤8000) (hv:-1≤v∧v<n) (hj:j<3) (hJ:r2J F v0 v1 L l n params fn wv v B j fr σ) :
 W P G 214 0 wS fr σ (YH (fun fr σ=>∃ fr' σ',Shift G 214 0 fr σ fr' σ'∧r2J F v0 v1 L l n params fn wv v B (j+1) fr' σ') (r2E F v0 v1 L l n params fn wv v B)):=by
 obtain ⟨L',t',w2,w3,w4,q,hq,hE,hLl,f3,f9,f10,f11,f15,f18,f19,f20,rfl⟩:=hJ
 have hlt:q≤3:=by omega
 have e2:IntKind.u8.wrap (q+1)=q+1:=by
  rw [Zl]
  ·simp [IntKind.min,IntKind.signed]; omega
  ·simp [IntKind.max,IntKind.signed,IntKind.bits]; omega
 refine Qe [(3,.int .i64 params),(9,.int .i64 ((n:Nat):Int)),(10,.ref (.agg fn) 0),(11,.ptr 1 v0 0),(15,.ref (.agg wv) 0),(18,.lst 3 (prs l) false),(19,.int .i64 v),(20,.int .u8 q)] ⟨f3,f9,f10,f11,f15,f18,f19,f20,trivial⟩  20 ?_
 refine yc ?_
 refine YB 33 (r3J F v0 v1 L' l n params fn wv v q L'.length) (r3E F v0 v1 L' l n params fn wv v q L'.length) ⟨L',t',w2,w3,w4,-1,by omega,Ext.refl L',by omega,?_⟩ (fun k hk fr σ hJ=>QAa hT F hwv hn hc20 hW0 hl hll (hE1.trans hE) (by omega) hv (by omega) hk hJ) (fun k hk fr σ hJ=>QH0 hT F hk hJ) (fun e fr σ hE2=>?_)
 ·refine ya ?_
  try simp
 ·obtain ⟨L2,t2,y2,y3,y4,rfl,hX,hX2,f3,f9,f10,f11,f15,f18,f19,f20,rfl⟩:=hE2
  refine QcZ [(3,.int .i64 params),(9,.int .i64 ((n:Nat):Int)),(10,.ref (.agg fn) 0),(11,.ptr 1 v0 0),(15,.ref (.agg wv) 0),(18,.lst 3 (prs l) false),(19,.int .i64 v),(20,.int .u8 q)] ⟨f3,f9,f10,f11,f15,f18,f19,f20,trivial⟩  12 ?_
  refine yf ?_
  refine ⟨_,_,Shift.refl _ _ _ _,L2,t2,y2,y3,y4,q+1,by omega,hE.trans hX,by omega,?_⟩
  exact yb
theorem QH1 (hT:Qh P tab) (F:Fmt P G) (hj:j=3) (hJ:r2J F v0 v1 L l n params fn wv v B j fr σ) :
 W P G 214 0 wS fr σ (YH (fun _ _=>False) (r2E F v0 v1 L l n params fn wv v B)):=by
 obtain ⟨L',t',w2,w3,w4,q,hq,hE,hLl,f3,f9,f10,f11,f15,f18,f19,f20,rfl⟩:=hJ
 have hlt:¬ q≤3:=by omega
 refine Qe [(3,.int .i64 params),(9,.int .i64 ((n:Nat):Int)),(10,.ref (.agg fn) 0),(11,.ptr 1 v0 0),(15,.ref (.agg wv) 0),(18,.lst 3 (prs l) false),(19,.int .i64 v),(20,.int .u8 q)] ⟨f3,f9,f10,f11,f15,f18,f19,f20,trivial⟩  12 ?_
 refine yc ?_
 refine ⟨L',t',w2,w3,w4,rfl,hE,by omega,?_⟩
 repeat' (first | exact rfl | refine ⟨rfl,?_⟩)
abbrev r1J (F:Fmt P G) (v0 v1:Nat) (L:List Nd) (l:List Pr) (n:Nat) (params:Int) (fn wv:List V):Nat→Fr→H→Prop:=fun i fr σ=>∃ L' t' w2 w3 w4,∃ v:Int,v=((i:Nat):Int) - 1∧Ext L L'∧L'.length≤L.length+99 * i∧Qf fr 3=.int .i64 params∧Qf fr 9=.int .i64 ((n:Nat):Int)∧Qf fr 10=.ref (.agg fn) 0∧Qf fr 11=.ptr 1 v0 0∧Qf fr 15=.ref (.agg wv) 0∧Qf fr 18=.lst 3 (prs l) false∧Qf fr 19=.int .i64 v∧σ=⟨t',kG F.fmt v0 v1 w2 w3 w4 L'⟩
abbrev r1E (F:Fmt P G) (v0 v1:Nat) (L:List Nd) (l:List Pr) (n:Nat) (params:Int) (fn:List V):AE→Fr→H→Prop:=fun e fr σ=>∃ L' t' w2 w3 w4,e=.ex 3∧Ext L L'∧L'.length≤L.length+1000∧Qf fr 3=.int .i64 params∧Qf fr 9=.int .i64 ((n:Nat):Int)∧Qf fr 10=.ref (.agg fn) 0∧Qf fr 11=.ptr 1 v0 0∧Qf fr 18=.lst 3 (prs l) false∧σ=⟨t',kG F.fmt v0 v1 w2 w3 w4 L'⟩
theorem QAc (hT:Qh P tab) (F:Fmt P G) (hwv:wv=wV vs lk rs ss sure) (hn:n≤8) (hc20:cnt≤20) (hW0:WOk L1 n cnt vs lk rs ss) (hl:∀ p,p∈l↔Qp7 L1 vs lk (plA rs ss) p) (hll:l.length≤1000) (hE1:Ext L1 L) (hL:L.length≤5000) (hi:i<n+1) (hJ:r1J F v0 v1 L l n params fn wv i fr σ) :
 W P G 214 0 wy fr σ (YH (fun fr σ=>∃ fr' σ',Shift G 214 0 fr σ fr' σ'∧r1J F v0 v1 L l n params fn wv (i+1) fr' σ') (r1E F v0 v1 L l n params fn)):=by
 obtain ⟨L',t',w2,w3,w4,v,hv,hE,hLl,f3,f9,f10,f11,f15,f18,f19,rfl⟩:=hJ
 have hlt:v<((n:Nat):Int):=by omega
 have e2:IntKind.i64.wrap (v+1)=v+1:=QcU (by omega)
 refine Qe [(3,.int .i64 params),(9,.int .i64 ((n:Nat):Int)),(10,.ref (.agg fn) 0),(11,.ptr 1 v0 0),(15,.ref (.agg wv) 0),(18,.lst 3 (prs l) false),(19,.int .i64 v)] ⟨f3,f9,f10,f11,f15,f18,f19,trivial⟩  20 ?_
 refine yc ?_
 refine YB 3 (r2J F v0 v1 L' l n params fn wv v L'.length) (r2E F v0 v1 L' l n params fn wv v L'.length) ⟨L',t',w2,w3,w4,1,by omega,Ext.refl L',by omega,?_⟩ (fun k hk fr σ hJ=>QAb hT F hwv hn hc20 hW0 hl hll (hE1.trans hE) (by omega) ⟨by omega,hlt⟩ hk hJ) (fun k hk fr σ hJ=>QH1 hT F hk hJ) (fun e fr σ hE2=>?_)
 ·refine ya ?_
  try simp
 ·obtain ⟨L2,t2,y2,y3,y4,rfl,hX,hX2,f3,f9,f10,f11,f15,f18,f19,rfl⟩:=hE2
  refine QcZ [(3,.int .i64 params),(9,.int .i64 ((n:Nat):Int)),(10,.ref (.agg fn) 0),(11,.ptr 1 v0 0),(15,.ref (.agg wv) 0),(18,.lst 3 (prs l) false),(19,.int .i64 v)] ⟨f3,f9,f10,f11,f15,f18,f19,trivial⟩  12 ?_
  refine yf ?_
  refine ⟨_,_,Shift.refl _ _ _ _,L2,t2,y2,y3,y4,v+1,by omega,hE.trans hX,by omega,?_⟩
  exact yb
theorem QH2 (hT:Qh P tab) (F:Fmt P G) (hn:n≤8) (hi:i=n+1) (hJ:r1J F v0 v1 L l n params fn wv i fr σ) :
 W P G 214 0 wy fr σ (YH (fun _ _=>False) (r1E F v0 v1 L l n params fn)):=by
 obtain ⟨L',t',w2,w3,w4,v,hv,hE,hLl,f3,f9,f10,f11,f15,f18,f19,rfl⟩:=hJ
 have hlt:¬ v<((n:Nat):Int):=by omega
 refine Qe [(3,.int .i64 params),(9,.int .i64 ((n:Nat):Int)),(10,.ref (.agg fn) 0),(11,.ptr 1 v0 0),(15,.ref (.agg wv) 0),(18,.lst 3 (prs l) false),(19,.int .i64 v)] ⟨f3,f9,f10,f11,f15,f18,f19,trivial⟩  12 ?_
 refine yc ?_
 refine ⟨L',t',w2,w3,w4,rfl,hE,by omega,?_⟩
 repeat' (first | exact rfl | refine ⟨rfl,?_⟩)
theorem ra_Y (hT:Qh P tab) (F:Fmt P G) (hS:Qb0 P G) (hW:Works P G) {v2 v3 v4 t:Nat} {m:Nat} (hwv:wv=wV vs lk rs ss sure) (hm:m≤4) (hn:n≤8) (hcnt:cnt=Zk m params) (hW0:WOk L n cnt vs lk rs ss) (hl:∀ p,p∈l↔Qp7 L vs lk (plA rs ss) p) (hs:Srt l) (hll:l.length≤1000) (hl64:∀ x∈l,i64 x.n) (hL:L.length≤5000) {Q:V→Am.H→Prop} (hQ:∀ σ,Q (.bool true) σ) :
 W P G 214 0 (XJ 9 proofmarklaw25_RelateAll.body) [(3,.int .i64 params),(9,.int .i64 ((n:Nat):Int)),(10,.ref (.agg (fnC m)) 0),(11,.ptr 1 v0 0),(15,.ref (.agg wv) 0),(18,.lst 3 (prs l) false)] ⟨t,kG F.fmt v0 v1 v2 v3 v4 L⟩ (QoH G proofmarklaw25_RelateAll.res Q):=by
 have hc20:cnt≤20:=by rw [hcnt]; unfold Zk; omega
 have hZ:=fun {L2:List Nd} {y2 y3 y4 t2:Nat} (h2:L2.length≤9000)=>ra_Z (P:=P) (G:=G) hT F hS hW (v0:=v0) (v1:=v1) (v2:=y2) (v3:=y3) (v4:=y4) (t:=t2) (L:=L2) (m:=m) (params:=params) hm hn hcnt hW0 hl hs hll hl64 h2 hQ
 show W P G 214 0 (.seq (.seq (.reg Qlq []) (.block 3 (.loop wy))) (XJ 10 proofmarklaw25_RelateAll.body)) _ _ _
 obtain ⟨T,hTT⟩:∃ c,c=XJ 10 proofmarklaw25_RelateAll.body:=⟨_,rfl⟩
 rw [← hTT] at hZ ⊢
 refine Ql 12 ?_
 refine ya ?_
 refine YB (n+1) (r1J F v0 v1 L l n params (fnC m) wv) (r1E F v0 v1 L l n params (fnC m)) ⟨L,t,v2,v3,v4,-1,by omega,Ext.refl L,by omega,?_⟩ (fun i hi fr σ hJ=>QAc hT F hwv hn hc20 hW0 hl hll (Ext.refl L) hL hi hJ) (fun i hi fr σ hJ=>QH2 hT F hn hi hJ) (fun e fr σ hE2=>?_)
 ·refine ya ?_
  try simp
 ·obtain ⟨L2,t2,y2,y3,y4,rfl,hX,hX2,f3,f9,f10,f11,f18,rfl⟩:=hE2
  refine Qax [(3,.int .i64 params),(9,.int .i64 ((n:Nat):Int)),(10,.ref (.agg (fnC m)) 0),(11,.ptr 1 v0 0),(18,.lst 3 (prs l) false)] ⟨f3,f9,f10,f11,f18,trivial⟩ ?_
  exact hZ (by omega)
end
variable {k wA ws:Nat}
theorem Qh4 {w:Nat} (l:List Int):X8 k w (ints l) (.sl k w 0 1 l.length none)=.lst 1 (ints l) false:=by
 have:=QuC (sz:=1) (k:=k) (w:=w) (QoB l)
 rwa [Qj] at this
theorem Qlc (k w:Nat) (cs:List V) (l:List Int):(ints l).map (X8 k w cs)=ints l:=QAO k w cs l
def QEX (ws:Nat) (vs:List Int) (lk:Int) (rs ss:List Int) (sure:Bool):List V:=.lst 1 (ints vs) false::.int .i64 lk::(ints rs++[.sl 10 ws 0 1 ss.length none,.bool sure])
variable {sure:Bool} {lk:Int} {vs rs ss:List Int}
theorem QEW (hk:k≠10):(peW k wA ws vs lk rs ss sure).map (X8 k wA (ints vs))=QEX ws vs lk rs ss sure:=by
 unfold peW QEX
 have h10:¬ 10=k:=fun e=>hk e.symm
 rw [List.map_cons,List.map_cons,List.map_append,Qlc,Qh4]
 simp [X8,h10]
theorem QEV:(QEX ws vs lk rs ss sure).map (X8 10 ws (ints ss))=wV vs lk rs ss sure:=by
 unfold QEX wV
 rw [List.map_cons,List.map_cons,List.map_append,Qlc,List.map_cons,Qh4]
 simp [X8]
theorem QAi {alt:Bool} {fmt:Int→List UInt8} {v0 v1 v2 v3 v4 t wW:Nat} {L:List Nd} {X:Option Ob} {params:Int} {n m:Nat} :
 Shift G 214 0 [(3,.int .i64 params),(9,.int .i64 ((n:Nat):Int)),(10,.ref (.agg (fnC m)) 0),(11,.ptr 1 v0 0),(15,.ptr (if alt then 13 else 12) wW 0)] (peH alt fmt v0 v1 v2 v3 v4 t ws wA wW L X vs lk rs ss sure) [(3,.int .i64 params),(9,.int .i64 ((n:Nat):Int)),(10,.ref (.agg (fnC m)) 0),(11,.ptr 1 v0 0),(15,.ref (.agg (wV vs lk rs ss sure)) 0)] ⟨t,kG fmt v0 v1 v2 v3 v4 L⟩:=by
 have hwn:=QsC vs lk rs ss sure
 have hne:¬ wV vs lk rs ss sure=[]:=by simp [wV]
 have hz:=Qh4 (k:=12) (w:=wA) vs
 have hz3:=Qh4 (k:=13) (w:=wA) vs
 have hz2:=Qh4 (k:=10) (w:=ws) ss
 cases alt with
 | true =>
   simp only [peH,if_true]
   refine (Shift.drop (o':=kG fmt v0 v1 v2 v3 v4 L++[none,none,none,none,none,some (Ob.arr ws 44 (ints ss)),none,some (Ob.arr wA 44 (ints vs)),some (Ob.arr wW 49 (peW 12 wA ws vs lk rs ss sure))]) (t':=t) (by cases X <;> simp [Xw,kG]) (lR _) (zL _)).trans ?_
   refine (Shift.freeze (k:=12) (v:=wA) (T:=44) (cs:=ints vs) (zL _) rfl (QdC _)).trans ?_
   have e1:(kG fmt v0 v1 v2 v3 v4 L++[none,none,none,none,none,some (Ob.arr ws 44 (ints ss)),none,some (Ob.arr wA 44 (ints vs)),some (Ob.arr wW 49 (peW 12 wA ws vs lk rs ss sure))]).set 12 none=kG fmt v0 v1 v2 v3 v4 L++[none,none,none,none,none,some (Ob.arr ws 44 (ints ss)),none,none,some (Ob.arr wW 49 (peW 12 wA ws vs lk rs ss sure))]:=rfl
   simp only [e1]
   rw [Z4 (by decide)]
   simp only [QC,QW,QA,Ob.mapV,Qlc,QEW (show 12≠10 by decide),Option.map_none,Option.map_some,X8,rq,false_and,if_false]
   refine (Shift.freeze (k:=10) (v:=ws) (T:=44) (cs:=ints ss) (zL _) rfl (QdC _)).trans ?_
   have e2:(kG fmt v0 v1 v2 v3 v4 L++[none,none,none,none,none,some (Ob.arr ws 44 (ints ss)),none,none,some (Ob.arr wW 49 (QEX ws vs lk rs ss sure))]).set 10 none=kG fmt v0 v1 v2 v3 v4 L++[none,none,none,none,none,none,none,none,some (Ob.arr wW 49 (QEX ws vs lk rs ss sure))]:=rfl
   simp only [e2]
   rw [Z4 (by decide)]
   simp only [QC,QW,QA,Ob.mapV,QEV,Option.map_none,Option.map_some,X8,rq,false_and,if_false]
   refine (Shift.freeze (k:=13) (v:=wW) (T:=49) (cs:=wV vs lk rs ss sure) (zL _) rfl hwn).trans ?_
   simp only [QC,QW,X8,rq,false_and,and_self,if_true,if_false,if_neg hne]
   have e3:(kG fmt v0 v1 v2 v3 v4 L++[none,none,none,none,none,none,none,none,some (Ob.arr wW 49 (wV vs lk rs ss sure))]).set 13 none=kG fmt v0 v1 v2 v3 v4 L++[none,none,none,none,none,none,none,none,none]:=rfl
   simp only [e3]
   rw [Z4 (by decide)]
   exact Shift.drop (XK _ _) (lR _) (zL _)
 | false =>
   simp only [peH,if_false,Bool.false_eq_true]
   refine (Shift.drop (o':=kG fmt v0 v1 v2 v3 v4 L++[none,none,none,none,none,some (Ob.arr ws 44 (ints ss)),none,some (Ob.arr wW 49 (peW 13 wA ws vs lk rs ss sure)),some (Ob.arr wA 44 (ints vs))]) (t':=t) (by cases X <;> simp [Xw,kG]) (lR _) (zL _)).trans ?_
   refine (Shift.freeze (k:=13) (v:=wA) (T:=44) (cs:=ints vs) (zL _) rfl (QdC _)).trans ?_
   have e1:(kG fmt v0 v1 v2 v3 v4 L++[none,none,none,none,none,some (Ob.arr ws 44 (ints ss)),none,some (Ob.arr wW 49 (peW 13 wA ws vs lk rs ss sure)),some (Ob.arr wA 44 (ints vs))]).set 13 none=kG fmt v0 v1 v2 v3 v4 L++[none,none,none,none,none,some (Ob.arr ws 44 (ints ss)),none,some (Ob.arr wW 49 (peW 13 wA ws vs lk rs ss sure)),none]:=rfl
   simp only [e1]
   rw [Z4 (by decide)]
   simp only [QC,QW,QA,Ob.mapV,Qlc,QEW (show 13≠10 by decide),Option.map_none,Option.map_some,X8,rq,false_and,if_false]
   refine (Shift.freeze (k:=10) (v:=ws) (T:=44) (cs:=ints ss) (zL _) rfl (QdC _)).trans ?_
   have e2:(kG fmt v0 v1 v2 v3 v4 L++[none,none,none,none,none,some (Ob.arr ws 44 (ints ss)),none,some (Ob.arr wW 49 (QEX ws vs lk rs ss sure)),none]).set 10 none=kG fmt v0 v1 v2 v3 v4 L++[none,none,none,none,none,none,none,some (Ob.arr wW 49 (QEX ws vs lk rs ss sure)),none]:=rfl
   simp only [e2]
   rw [Z4 (by decide)]
   simp only [QC,QW,QA,Ob.mapV,QEV,Option.map_none,Option.map_some,X8,rq,false_and,if_false]
   refine (Shift.freeze (k:=12) (v:=wW) (T:=49) (cs:=wV vs lk rs ss sure) (zL _) rfl hwn).trans ?_
   simp only [QC,QW,X8,rq,false_and,and_self,if_true,if_false,if_neg hne]
   have e3:(kG fmt v0 v1 v2 v3 v4 L++[none,none,none,none,none,none,none,some (Ob.arr wW 49 (wV vs lk rs ss sure)),none]).set 12 none=kG fmt v0 v1 v2 v3 v4 L++[none,none,none,none,none,none,none,none,none]:=rfl
   simp only [e3]
   rw [Z4 (by decide)]
   exact Shift.drop (XK _ _) (lR _) (zL _)
section
attribute [local go_sem] List.drop_zero lR zA and_true decide_false decide_true false_implies proofmarklaw25_RelateAll Qsu Qst QeZ QeY QeX QeW QeV QeU QeT QeS QeR Qlr Qss Qlq QhF QhE QeQ QeP Qcl Qck Qbx Qbw Qbv Qsr Qcj QeO QhD Qlp Qjp Qsq Qsp Qso Qsn Qlo Qln QF
variable {Q:V→Am.H→Prop} {sure alt tg:Bool} {vs rs ss picks terms:List Int} {params lk:Int} {L:List Nd} {v0 v1 v2 v3 v4 t m n cnt ws wA wW:Nat}
theorem ra_X8 (hT:Qh P tab) (F:Fmt P G) (hS:Qb0 P G) (hW:Works P G) (hm:m≤4) (hn:n≤8) (hcnt:cnt=Zk m params) (hW0:WOk L n cnt vs lk rs ss) (hL:L.length≤5000) (hQ:∀ σ,Q (.bool true) σ) :
 W P G 214 0 (XJ 8 proofmarklaw25_RelateAll.body) [(3,.int .i64 params),(9,.int .i64 ((n:Nat):Int)),(10,.ref (.agg (fnC m)) 0),(11,.ptr 1 v0 0),(15,.ref (.agg (wV vs lk rs ss sure)) 0)] ⟨t,kG F.fmt v0 v1 v2 v3 v4 L⟩ (QoH G proofmarklaw25_RelateAll.res Q):=by
 have hc20:cnt≤20:=by rw [hcnt]; unfold Zk; omega
 have hwl:(wV vs lk rs ss sure).length=36:=by simp [wV,Qj,hW0.rl]
 have htk:List.take 36 (wV vs lk rs ss sure)=wV vs lk rs ss sure:=List.take_of_length_le (by omega)
 have hA:=fun t=>c_All (P:=P) (G:=G) hT hS (fmt:=F.fmt) (v0:=v0) (v1:=v1) (v2:=v2) (v3:=v3) (v4:=v4) (t:=t) (L:=L) (vs:=vs) (rs:=rs) (ss:=ss) (lk:=lk) (sure:=sure) hW0.rl (by rw [hW0.vl]; omega) (by rw [hW0.sl]; omega) (fun v a1 a2=>(hW0.hw (by rw [hW0.vl] at a2; exact a2)).lt)
 have hY:=fun {l:List Pr} {t2:Nat} (h1:∀ p,p∈l↔Qp7 L vs lk (plA rs ss) p) (h2:Srt l) (h3:l.length≤1000) (h4:∀ x∈l,i64 x.n)=>ra_Y (P:=P) (G:=G) hT F hS hW (v0:=v0) (v1:=v1) (v2:=v2) (v3:=v3) (v4:=v4) (t:=t2) (L:=L) (m:=m) (params:=params) (sure:=sure) rfl hm hn hcnt hW0 h1 h2 h3 h4 hL hQ
 show W P G 214 0 (.seq (.reg Qlr [136,137,138]) (XJ 9 proofmarklaw25_RelateAll.body)) _ _ _
 obtain ⟨T,hTT⟩:∃ c,c=XJ 9 proofmarklaw25_RelateAll.body:=⟨_,rfl⟩
 rw [← hTT] at hY ⊢
 obtain ⟨wv,hwv⟩:∃ wv,wv=wV vs lk rs ss sure:=⟨_,rfl⟩
 rw [← hwv] at hwl htk hA hY ⊢
 refine Ql 8 ?_
 refine yq ?_
 refine call hT Qe6 (hA _) 1 fun v σ hv=>?_
 obtain ⟨out,t2,ho,hol,rfl,rfl⟩:=hv
 refine ya ?_
 iterate 6 (try (refine Qa 1 ?_; simp -implicitDefEqProofs (disch:=omega) only [go_sem,↓reduceIte,rq]))
 have hEl:(plA rs ss).length≤52:=by
  have h1:=QsZ rs 32; have h2:=QsY ss ss.length
  have h3:=hW0.sl
  unfold plA; rw [lA]; omega
 have hob:(vs.length+1) * ((plA rs ss).length+1)≤9 * 53:=Nat.mul_le_mul (by rw [hW0.vl]; omega) (by omega)
 have hm2:∀ p,p∈srt out↔Qp7 L vs lk (plA rs ss) p:=fun p=>by rw [Qma,ho]
 refine Qd3 (Xv [(3,.int .i64 params),(9,.int .i64 ((n:Nat):Int)),(10,.ref (.agg (fnC m)) 0),(11,.ptr 1 v0 0),(15,.ref (.agg wv) 0),(18,.lst 3 (prs (srt out)) false)] ⟨rfl,rfl,rfl,rfl,rfl,rfl,trivial⟩ ?_)
 refine hY hm2 (Qpe out) (by have:=QlM out; omega) fun x hx=>?_
 have h1:=(Qim hW0.vl hW0.sl x).1 ((hm2 x).1 hx)
 have h2:=YS.1 h1.1
 rcases h2.2 with ⟨k1,a1,a2,a3⟩ | ⟨k2,a1,a2⟩ | k3
 ·unfold i64; omega
 ·unfold i64; omega
 ·have h3:=h1.2
  rw [if_pos k3] at h3
  exact (hW0.hw h2.1.2).i64 h3
variable {X:Option Ob}
theorem QH7 (hT:Qh P tab) {fmt:Int→List UInt8} {k:Nat} (hk:¬ k<picks.length∨¬ k<60) {fr:Fr} {σ:Am.H} (hJ:peJ alt fmt v0 v1 v2 v3 v4 t ws wA wW L X n cnt sure picks tg params (fnC m) terms k fr σ) :
 W P G 214 0 wi fr σ (YH (fun _ _=>False) (peE alt fmt v0 v1 v2 v3 v4 t ws wA wW L X n cnt sure params (fnC m))):=by
 obtain ⟨vs,lk,rs,ss,hW0,f0,f3,f9,f10,f11,f14,f15,f16,rfl⟩:=hJ
 by_cases h1:k<picks.length
 ·have h2:¬ ((k:Nat):Int)<60:=by omega
  refine Qe [(0,.lst 1 (u8s picks) tg),(3,.int .i64 params),(9,.int .i64 ((n:Nat):Int)),(10,.ref (.agg (fnC m)) 0),(11,.ptr 1 v0 0),(14,.lst 1 (ints terms) true),(15,.ptr (if alt then 13 else 12) wW 0),(16,.int .i64 ((k:Nat):Int))] ⟨f0,f3,f9,f10,f11,f14,f15,f16,trivial⟩ 20 ?_
  simp -implicitDefEqProofs (disch:=omega) only [go_sem,↓reduceIte,reduceCtorEq,rA,rq,h1,h2]
  refine ⟨vs,lk,rs,ss,rfl,hW0,?_⟩
  repeat' (first | exact rfl | refine ⟨rfl,?_⟩)
 ·refine Qe [(0,.lst 1 (u8s picks) tg),(3,.int .i64 params),(9,.int .i64 ((n:Nat):Int)),(10,.ref (.agg (fnC m)) 0),(11,.ptr 1 v0 0),(14,.lst 1 (ints terms) true),(15,.ptr (if alt then 13 else 12) wW 0),(16,.int .i64 ((k:Nat):Int))] ⟨f0,f3,f9,f10,f11,f14,f15,f16,trivial⟩ 20 ?_
  simp -implicitDefEqProofs (disch:=omega) only [go_sem,↓reduceIte,reduceCtorEq,rq,h1]
  refine ⟨vs,lk,rs,ss,rfl,hW0,?_⟩
  repeat' (first | exact rfl | refine ⟨rfl,?_⟩)
theorem ra_X7 (hT:Qh P tab) (F:Fmt P G) (hS:Qb0 P G) (hW:Works P G) (hm:m≤4) (hn:n≤8) (hcnt:cnt=Zk m params) (hW0:WOk L n cnt vs lk rs ss) (htl:terms.length=6) (hte:∀ x∈terms,OkId L x) (hpk:∀ b∈picks,0≤b∧b≤255) (hL:L.length≤5000) (hQ:∀ σ,Q (.bool true) σ) :
 W P G 214 0 (XJ 7 proofmarklaw25_RelateAll.body) [(0,.lst 1 (u8s picks) tg),(3,.int .i64 params),(9,.int .i64 ((n:Nat):Int)),(10,.ref (.agg (fnC m)) 0),(11,.ptr 1 v0 0),(14,.lst 1 (ints terms) true),(15,.ptr (if alt then 13 else 12) wW 0)] (peH alt F.fmt v0 v1 v2 v3 v4 t ws wA wW L X vs lk rs ss sure) (QoH G proofmarklaw25_RelateAll.res Q):=by
 have hc20:cnt≤20:=by rw [hcnt]; unfold Zk; omega
 have h8:=fun {vs:List Int} {lk:Int} {rs ss:List Int} {t:Nat} (h:WOk L n cnt vs lk rs ss)=>ra_X8 (P:=P) (G:=G) hT F hS hW (v0:=v0) (v1:=v1) (v2:=v2) (v3:=v3) (v4:=v4) (t:=t) (sure:=sure) (params:=params) hm hn hcnt h hL hQ
 show W P G 214 0 (.seq (.seq (.reg Qsn []) (.block 0 (.loop wi))) (XJ 8 proofmarklaw25_RelateAll.body)) _ _ _
 obtain ⟨T,hTT⟩:∃ c,c=XJ 8 proofmarklaw25_RelateAll.body:=⟨_,rfl⟩
 rw [← hTT] at h8 ⊢
 refine Ql 12 ?_
 refine ya ?_
 refine YB (min picks.length 60) (peJ alt F.fmt v0 v1 v2 v3 v4 t ws wA wW L X n cnt sure picks tg params (fnC m) terms) (peE alt F.fmt v0 v1 v2 v3 v4 t ws wA wW L X n cnt sure params (fnC m)) ⟨vs,lk,rs,ss,hW0,rfl,rfl,rfl,rfl,rfl,rfl,rfl,rfl,rfl⟩ (fun i hi fr σ hJ=>?_) (fun i hi fr σ hJ=>QH7 hT (by omega) hJ) (fun e fr σ hE2=>?_)
 ·obtain ⟨b,hb⟩:∃ b,picks[i]?=some b:=⟨_,List.getElem?_eq_getElem (by omega)⟩
  exact QAj hT hn hc20 htl hte hb (hpk b (List.mem_of_getElem? hb)) (by omega) hJ
 ·obtain ⟨vs2,lk2,rs2,ss2,rfl,hW2,f3,f9,f10,f11,f15,rfl⟩:=hE2
  refine Qax [(3,.int .i64 params),(9,.int .i64 ((n:Nat):Int)),(10,.ref (.agg (fnC m)) 0),(11,.ptr 1 v0 0),(15,.ptr (if alt then 13 else 12) wW 0)] ⟨f3,f9,f10,f11,f15,trivial⟩ ?_
  refine Xf QAi ?_
  exact h8 hW2
end
section
attribute [local go_sem] nF nT aA cA List.drop_nil List.drop_succ_cons List.drop_zero List.getD_cons_succ List.getD_cons_zero lA lC lN nA List.set_cons_succ List.set_cons_zero tN tS tZ aZ lR Nat.mul_one Nat.one_mul Nat.succ_ne_zero zA zL Nat.zero_mul Option.getD_none Option.getD_some Option.isSome_none Option.isSome_some and_true beq_self_eq_true bne_self_eq_false decide_false decide_true false_implies ge_iff_le gt_iff_lt Qj Qnz Qkg Qnh Qsl QAB QAA Qeb QcM Qbc QgB QdB Qg0 Qh2 Qny Qnx Qrc Qrb Qra QjW QjV QjU Qai Qz not_false_eq_true not_true_eq_false proofmarklaw25_RelateAll Qsu Qst QeZ QeY QeX QeW QeV QeU QeT QeS QeR Qlr Qss Qlq QhF QhE QeQ QeP Qcl Qck Qbx Qbw Qbv Qsr Qcj QeO QhD Qlp Qjp Qsq Qsp Qso Qsn Qlo Qln Qk true_and true_implies QF
variable {L:List Nd}
theorem QIe (h:Ext [] L) (hs:Hs L (co 0)):OkId L 0:=by
 obtain ⟨M,hM,hp⟩:=h
 rw [nA] at hM
 subst hM
 cases L with
 | nil=>simp [Hs,idx] at hs
 | cons d l=>exact ⟨d,by simp [Hs,idx],by simp [Xc,idx],(hp d (by simp)).1,(hp d (by simp)).2⟩
theorem Qdt {L':List Nd} {d:Nd} (h:Hs L d) (hp:d=co d.n∨d=sy d.n) (hn:i64 d.n) (e:Ext L L'):OkId L' (Xc L d):=(Qx4 h hp hn).ext e
def rs0 (L:List Nd) (b:Int):List Int:=(List.range 32).map fun r:Nat=>Qfd L b r
def ss0 (L:List Nd) (b:Int) (cnt:Nat):List Int:=(List.range cnt).map fun i:Nat=>Xc L (sy (b+30+((i:Nat):Int)))
theorem QxN (L:List Nd) (b:Int):(rs0 L b).length=32:=by simp [rs0]
theorem Qxz (L:List Nd) (b:Int) (cnt:Nat):(ss0 L b cnt).length=cnt:=by simp [ss0]
theorem QxQ (L:List Nd) (b:Int):Qdn L b 32=ints (rs0 L b):=by
 unfold Qdn ints rs0
 rw [List.map_map]
 refine List.map_congr_left fun r hr=>?_
 rw [if_pos (List.mem_range.1 hr)]; rfl
theorem Qvn (L:List Nd) (b:Int) (cnt:Nat):Y8 L b cnt=ints (ss0 L b cnt):=by
 unfold Y8 ints ss0
 rw [List.map_map]; rfl
theorem wok0 {L0:List Nd} {n cnt:Nat} (h0:Ext [] L0) (hE:Ext L0 L) (hR:AllR L0 0 32) (hS:AllS L0 0 cnt) (hc:cnt≤20):WOk L n cnt (List.replicate n 0) (Qfd L0 0 1) (rs0 L0 0) (ss0 L0 0 cnt):=by
 have hreg:∀ r:Nat,1≤r→r<32→r≠2→OkId L (Qfd L0 0 r):=fun r h1 h2 h3=>by
  rw [QsU h1 h3]
  have h4:=hR r h2 h3
  unfold QqR at h4
  rw [if_neg (by omega)] at h4
  exact Qdt (d:=sy (rNo 0 r)) h4 (.inr rfl) (show i64 (rNo 0 r) by unfold rNo i64; split <;> omega) hE
 have hz:OkId L 0:=by
  have h4:=hR 0 (by omega) (by omega)
  unfold QqR at h4
  rw [if_pos rfl] at h4
  exact (QIe h0 h4).ext hE
 refine ⟨by simp,QxN _ _,Qxz _ _ _,fun x hx=>?_,hreg 1 (by omega) (by omega) (by omega),fun r h1 h2 h3=>?_,fun x hx=>?_⟩
 ·rw [(List.mem_replicate.1 hx).2]; exact hz
 ·have:(rs0 L0 0).getD r 0=Qfd L0 0 r:=by rw [List.getD_eq_getElem?_getD]; simp [rs0,h2]
  rw [this]; exact hreg r h1 h2 h3
 ·obtain ⟨i,hi,rfl⟩:=List.mem_map.1 hx
  have hi2:=List.mem_range.1 hi
  exact Qdt (hS i hi2) (.inr rfl) (show i64 (0+30+((i:Nat):Int)) by unfold i64; omega) hE
theorem QtE (hT:Qh P tab) (F:Fmt P G) (hS:Qb0 P G) (hW:Works P G) (picks:List Int) (tg:Bool) (hpk:∀ b∈picks,0≤b∧b≤255) {vars slots params:Int} (hv0:0≤vars∧vars≤255) {m:Nat} (hm:m≤4) (hfn:Am.Pure P G Qr [.int .u8 slots] fun v=>v=.agg (fnC m)):Am.Pure P G Y9 [.lst 1 (u8s picks) tg,.int .u8 vars,.int .u8 slots,.int .i64 params] fun u=>u=.bool true:=by
 refine fun t=>Xq 0 (zL _) (Q0 hT Qb1 (by simp [proofmarklaw25_RelateAll]) ?_)
 obtain ⟨n,hn⟩:∃ n:Nat,n=(vars % 9).toNat:=⟨_,rfl⟩
 have hn8:n≤8:=by omega
 have hmod:IntKind.i64.wrap (vars.tmod 9)=((n:Nat):Int):=by rw [Int.tmod_eq_emod_of_nonneg hv0.1,QcU (by omega)]; omega
 have honf:ones (fnC m)=True:=eq_true fun u hu=>by
  simp only [fnC,List.mem_cons,List.not_mem_nil,or_false] at hu; rcases hu with rfl | rfl | rfl | rfl | rfl <;> rfl
 have hnlf:Qb (fnC m)=true:=by simp [fnC,Qb,Qd]
 have hlf:(fnC m).length=5:=rfl
 have htf:List.take 5 (fnC m)=fnC m:=List.take_of_length_le (by rw [hlf]; omega)
 show W P G 214 0 (.seq (.reg Qsu []) (.seq (.reg Qst [26,27,28]) (.seq (.reg Qss [29,30]) (XJ 3 proofmarklaw25_RelateAll.body)))) _ _ (QoH G proofmarklaw25_RelateAll.res _)
 obtain ⟨T3,hT3⟩:∃ c,c=XJ 3 proofmarklaw25_RelateAll.body:=⟨_,rfl⟩
 rw [← hT3]
 refine Ql 16 ?_
 refine yn ?_
 refine QX hT QG hfn rfl 1 ?_
 refine ya ?_
 iterate 30 (try (refine Qa 1 ?_; simp -implicitDefEqProofs (disch:=omega) only [go_sem,↓reduceIte,reduceCtorEq,rA,rq,List.getElem?_cons_zero,honf,hlf]))
 refine Qd3 (Xv [(0,.lst 1 (u8s picks) tg),(3,.int .i64 params),(9,.int .i64 ((n:Nat):Int)),(10,.ptr 0 t 0)] ⟨rfl,rfl,rfl,rfl,trivial⟩ ?_)
 have hne0:¬ fnC m=[]:=by simp [fnC]
 have hfz:∀ (k w:Nat) (cs:List V),X8 k w cs (.lst 1 (u8s picks) tg)=.lst 1 (u8s picks) tg:=fun k w cs=>by simp [X8]
 have hsh:Shift G 214 0 [(0,.lst 1 (u8s picks) tg),(3,.int .i64 params),(9,.int .i64 ((n:Nat):Int)),(10,.ptr 0 t 0)] ⟨t+1,[some (.arr t 39 (fnC m))]⟩ [(0,.lst 1 (u8s picks) tg),(3,.int .i64 params),(9,.int .i64 ((n:Nat):Int)),(10,.ref (.agg (fnC m)) 0)] ⟨t+1,[]⟩:=by
  refine (Shift.freeze (k:=0) (zL _) rfl hnlf).trans ?_
  simp only [QC,QW,X8,hne0,QA,List.set_cons_zero,Option.map_none,and_self,if_true,if_false]
  exact Shift.drop (o':=[]) trivial (lR _) (zL _)
 refine QfS hsh ?_
 rw [hT3]
 show W P G 214 0 (.seq (.reg Qsr [31]) (.seq (.reg Qsq [33,34,35,36,32,37,38,13]) (.seq (.reg Qsp [39,40,41,42,43,44,45,46,47,48,49,50,51]) (.seq (.reg Qso [52,53,54,55,56,57,58]) (XJ 7 proofmarklaw25_RelateAll.body))))) _ _ (QoH G proofmarklaw25_RelateAll.res _)
 obtain ⟨T7,hT7⟩:∃ c,c=XJ 7 proofmarklaw25_RelateAll.body:=⟨_,rfl⟩
 rw [← hT7]
 refine Ql 14 ?_
 refine ya ?_
 refine call hT QfX (QI9 hT (o:=[]) (zL _)) 12 fun v σ hv=>?_
 obtain ⟨v0,v1,v2,v3,v4,t',i1,i2,i3,i4,ht',rfl,rfl,rfl,rfl,rfl,rfl⟩:=hv
 have hk0:([]:List (Option Ob))++[some (.map v1 []),some (.arr v0 93 [.sl (([]:List (Option Ob)).length+2) v2 0 6 0 none,.mp ([]:List (Option Ob)).length v1,.sl (([]:List (Option Ob)).length+3) v3 0 1 0 none,.sl (([]:List (Option Ob)).length+4) v4 0 1 0 none]),some (.arr v2 108 []),some (.arr v3 3 []),some (.arr v4 3 [])]=kG F.fmt v0 v1 v2 v3 v4 []++[]:=by
  simp [kG,Qf8,ndC,Qg8,QgZ]
 rw [hk0]
 refine yw ?_
 iterate 20 (try (refine Qa 4 ?_; simp -implicitDefEqProofs (disch:=omega) only [go_sem,↓reduceIte,reduceCtorEq,rA,rq,rL,rT,Nat.reduceSub,Nat.reduceMul,Int.reduceToNat,Int.reduceLE,Int.reduceLT,Int.reduceEq,Int.reduceNe,Nat.reduceBEq,Nat.reduceBNe,Int.reduceBEq,List.getElem?_cons_zero,List.getElem?_cons_succ,hlf,htf]))
 refine call hT Qe7 (QuS (P:=P) (G:=G) hT F (v0:=v0) (v1:=v1) (v2:=v2) (v3:=v3) (v4:=v4) (L:=[]) m hm params 0 (by omega) (by simp) []) 4 fun v σ hv=>?_
 obtain ⟨L0,t2,u2,u3,u4,ws,hE0,hl0,hR0,hS0,rfl,rfl⟩:=hv
 have e0:max (0:Int) 0=0:=rfl
 obtain ⟨cnt,hcnt⟩:∃ cnt,cnt=Zk m params:=⟨_,rfl⟩
 have hc20:cnt≤20:=by rw [hcnt]; unfold Zk; omega
 rw [← hcnt,e0] at hS0 ⊢
 rw [e0] at hR0
 have hst:stC L0 0 32 (.sl 10 ws 0 1 cnt none) (decide (m=0))=ints (rs0 L0 0)++[.sl 10 ws 0 1 (ss0 L0 0 cnt).length none,.bool (decide (m=0))]:=by
  unfold stC; rw [QxQ,Qxz]
 rw [Qvn]
 simp only [lN,aZ,nA,hst]
 obtain ⟨rs,hrs⟩:∃ rs,rs=rs0 L0 0:=⟨_,rfl⟩
 obtain ⟨ss,hss⟩:∃ ss,ss=ss0 L0 0 cnt:=⟨_,rfl⟩
 have hrl:rs.length=32:=by rw [hrs]; exact QxN _ _
 have hwo:∀ (sl:V),ones [sl,V.bool (decide (m=0))]→ones (ints rs++[sl,V.bool (decide (m=0))]):=fun sl h u hu=>by
  rcases List.mem_append.1 hu with hu | hu
  ·unfold ints at hu; obtain ⟨r,_,rfl⟩:=List.mem_map.1 hu; rfl
  ·exact h u hu
 rw [← hrs,← hss]
 obtain ⟨sc,hsc⟩:∃ sc,sc=ints rs++[V.sl 10 ws 0 1 ss.length none,.bool (decide (m=0))]:=⟨_,rfl⟩
 have hscl:sc.length=34:=by rw [hsc]; simp [Qj,hrl]
 have hsco:ones sc=True:=eq_true (by rw [hsc]; exact hwo _ (by intro u hu; simp at hu; rcases hu with rfl | rfl <;> rfl))
 have hsct:List.take 34 sc=sc:=List.take_of_length_le (by omega)
 rw [← hsc]
 refine ya ?_
 iterate 6 (try (refine Qa 4 ?_; simp -implicitDefEqProofs (disch:=omega) only [go_sem,↓reduceIte,reduceCtorEq,rA,rq,hscl,hsco]))
 refine call hT Qbr (Qyi hT F (n:=100) (by unfold i64; omega) (by omega) (by simp at hl0; omega)) 2 fun v σ hv=>?_
 obtain ⟨La,ta,a2,a3,a4,ae,ah,al,at9,rfl,rfl⟩:=hv
 refine ya ?_
 iterate 6 (try (refine Qa 1 ?_; simp -implicitDefEqProofs (disch:=omega) only [go_sem,↓reduceIte,reduceCtorEq,rA,rq,rL,rT,Nat.reduceSub,Nat.reduceMul,Int.reduceToNat,Int.reduceLE,Int.reduceLT,Int.reduceEq,Int.reduceNe,Nat.reduceBEq,Nat.reduceBNe,Int.reduceBEq,List.getElem?_cons_zero,List.getElem?_cons_succ]))
 refine call hT Qbr (Qyi hT F (n:=101) (by unfold i64; omega) (by omega) (by simp at hl0; omega)) 2 fun v σ hv=>?_
 obtain ⟨Lb,tb,b2,b3,b4,be,bh,bl,bt9,rfl,rfl⟩:=hv
 refine ya ?_
 iterate 6 (try (refine Qa 1 ?_; simp -implicitDefEqProofs (disch:=omega) only [go_sem,↓reduceIte,reduceCtorEq,rA,rq,rL,rT,Nat.reduceSub,Nat.reduceMul,Int.reduceToNat,Int.reduceLE,Int.reduceLT,Int.reduceEq,Int.reduceNe,Nat.reduceBEq,Nat.reduceBNe,Int.reduceBEq,List.getElem?_cons_zero,List.getElem?_cons_succ]))
 refine call hT XD (QdA hT F (n:=0) (by unfold i64; omega) (by simp at hl0; omega)) 2 fun v σ hv=>?_
 obtain ⟨Lc,tc,c2,c3,c4,ce,ch,cl,ct9,rfl,rfl⟩:=hv
 refine ya ?_
 iterate 6 (try (refine Qa 1 ?_; simp -implicitDefEqProofs (disch:=omega) only [go_sem,↓reduceIte,reduceCtorEq,rA,rq,rL,rT,Nat.reduceSub,Nat.reduceMul,Int.reduceToNat,Int.reduceLE,Int.reduceLT,Int.reduceEq,Int.reduceNe,Nat.reduceBEq,Nat.reduceBNe,Int.reduceBEq,List.getElem?_cons_zero,List.getElem?_cons_succ]))
 refine call hT XD (QdA hT F (n:=7) (by unfold i64; omega) (by simp at hl0; omega)) 2 fun v σ hv=>?_
 obtain ⟨Ld,td,d2,d3,d4,de,dh,dl,dt9,rfl,rfl⟩:=hv
 refine ya ?_
 iterate 6 (try (refine Qa 1 ?_; simp -implicitDefEqProofs (disch:=omega) only [go_sem,↓reduceIte,reduceCtorEq,rA,rq,rL,rT,Nat.reduceSub,Nat.reduceMul,Int.reduceToNat,Int.reduceLE,Int.reduceLT,Int.reduceEq,Int.reduceNe,Nat.reduceBEq,Nat.reduceBNe,Int.reduceBEq,List.getElem?_cons_zero,List.getElem?_cons_succ]))
 refine call hT Qbr (Qyi hT F (n:=102) (by unfold i64; omega) (by omega) (by simp at hl0; omega)) 2 fun v σ hv=>?_
 obtain ⟨Le,te,e2,e3,e4,ee,eh,el,et9,rfl,rfl⟩:=hv
 refine ya ?_
 iterate 6 (try (refine Qa 1 ?_; simp -implicitDefEqProofs (disch:=omega) only [go_sem,↓reduceIte,reduceCtorEq,rA,rq,rL,rT,Nat.reduceSub,Nat.reduceMul,Int.reduceToNat,Int.reduceLE,Int.reduceLT,Int.reduceEq,Int.reduceNe,Nat.reduceBEq,Nat.reduceBNe,Int.reduceBEq,List.getElem?_cons_zero,List.getElem?_cons_succ]))
 refine call hT XD (QdA hT F (n:=(-1)) (by unfold i64; omega) (by simp at hl0; omega)) 2 fun v σ hv=>?_
 obtain ⟨Lf,tf,f2,f3,f4,fe,fh,fl,ft9,rfl,rfl⟩:=hv
 refine ya ?_
 have hg1:sc.getD 1 V.any=.int .i64 (Qfd L0 0 1):=by
  rw [hsc]
  have:=QxM (rs:=rs) (n:=1) (by omega) (by omega) [V.sl 10 ws 0 1 ss.length none,.bool (decide (m=0))]
  rw [hrs]
  rw [hrs] at this
  exact this.trans (by simp [rs0])
 have hvz:(List.replicate n [V.int .i64 0]).flatten=ints (List.replicate n 0):=by simp [ints,List.map_replicate]
 iterate 14 (try (refine Qa 1 ?_; simp -implicitDefEqProofs (disch:=omega) only [go_sem,↓reduceIte,reduceCtorEq,rA,rq,rL,Int.reduceToNat,Int.reduceLE,hg1,hsct,hscl]))
 have hext:Ext L0 Lf:=(((((ae.trans be).trans ce).trans de).trans ee).trans fe)
 have hl0':L0.length≤60:=by simpa using hl0
 have hLf:Lf.length≤5000:=by omega
 have hWok:WOk Lf n cnt (List.replicate n 0) (Qfd L0 0 1) rs ss:=by rw [hrs,hss]; exact wok0 hE0 hext hR0 hS0 hc20
 have hte:∀ x∈[Xc La (sy 100),Xc Lb (sy 101),Xc Lc (co 0),Xc Ld (co 7),Xc Le (sy 102),Xc Lf (co (-1))],OkId Lf x:=by
  intro x hx
  simp only [List.mem_cons,List.not_mem_nil,or_false] at hx
  rcases hx with rfl | rfl | rfl | rfl | rfl | rfl
  ·exact Qdt ah (.inr rfl) (show i64 100 by unfold i64; omega) ((((be.trans ce).trans de).trans ee).trans fe)
  ·exact Qdt bh (.inr rfl) (show i64 101 by unfold i64; omega) (((ce.trans de).trans ee).trans fe)
  ·exact Qdt ch (.inl rfl) (show i64 0 by unfold i64; omega) ((de.trans ee).trans fe)
  ·exact Qdt dh (.inl rfl) (show i64 7 by unfold i64; omega) (ee.trans fe)
  ·exact Qdt eh (.inr rfl) (show i64 102 by unfold i64; omega) fe
  ·exact Qx4 fh (.inl rfl) (show i64 (-1) by unfold i64; omega)
 refine ⟨?_,?_⟩
 ·refine Qa 1 ?_
  simp -implicitDefEqProofs (disch:=omega) only [go_sem,↓reduceIte,reduceCtorEq,rA,rq,hvz]
  iterate 14 (try (refine Qa 1 ?_; simp -implicitDefEqProofs (disch:=omega) only [go_sem,↓reduceIte,reduceCtorEq,rA,rq,rL,hscl,hsco]))
  have hH:(⟨tf+1+1,kG F.fmt v0 v1 f2 f3 f4 Lf++[none,none,none,none,none,some (Ob.arr ws 44 (ints ss)),some (Ob.arr t2 47 sc),some (Ob.arr tf 44 (ints (List.replicate n 0))),some (Ob.arr (tf+1) 49 (V.sl 12 tf 0 1 n none::V.int .i64 (Qfd L0 0 1)::sc))]⟩:Am.H)=peH true F.fmt v0 v1 f2 f3 f4 (tf+1+1) ws tf (tf+1) Lf (some (Ob.arr t2 47 sc)) (List.replicate n 0) (Qfd L0 0 1) rs ss (decide (m=0)):=by
   rw [hsc]; simp only [peH,peW,if_true,List.length_replicate]
  rw [hH]
  refine Qd3 (Xv [(0,.lst 1 (u8s picks) tg),(3,.int .i64 params),(9,.int .i64 ((n:Nat):Int)),(10,.ref (.agg (fnC m)) 0),(11,.ptr 1 v0 0),(14,.lst 1 (ints [Xc La (sy 100),Xc Lb (sy 101),Xc Lc (co 0),Xc Ld (co 7),Xc Le (sy 102),Xc Lf (co (-1))]) true),(15,.ptr (if true then 13 else 12) (tf+1) 0)] ⟨rfl,rfl,rfl,rfl,rfl,rfl,rfl,trivial⟩ ?_)
  rw [hT7]
  exact ra_X7 hT F hS hW hm hn8 hcnt hWok rfl hte hpk hLf fun σ=>⟨zL _,rfl,rfl⟩
 ·refine Qa 1 ?_
  refine ya ?_
  iterate 14 (try (refine Qa 1 ?_; simp -implicitDefEqProofs (disch:=omega) only [go_sem,↓reduceIte,reduceCtorEq,rA,rq,rL,hscl,hvz,hsco]))
  have hH:(⟨tf+1+1,kG F.fmt v0 v1 f2 f3 f4 Lf++[none,none,none,none,none,some (Ob.arr ws 44 (ints ss)),some (Ob.arr t2 47 sc),some (Ob.arr tf 49 (V.sl 13 (tf+1) 0 1 n none::V.int .i64 (Qfd L0 0 1)::sc)),some (Ob.arr (tf+1) 44 (ints (List.replicate n 0)))]⟩:Am.H)=peH false F.fmt v0 v1 f2 f3 f4 (tf+1+1) ws (tf+1) tf Lf (some (Ob.arr t2 47 sc)) (List.replicate n 0) (Qfd L0 0 1) rs ss (decide (m=0)):=by
   rw [hsc]; simp only [peH,peW,if_false,Bool.false_eq_true,List.length_replicate]
  rw [hH]
  refine Qd3 (Xv [(0,.lst 1 (u8s picks) tg),(3,.int .i64 params),(9,.int .i64 ((n:Nat):Int)),(10,.ref (.agg (fnC m)) 0),(11,.ptr 1 v0 0),(14,.lst 1 (ints [Xc La (sy 100),Xc Lb (sy 101),Xc Lc (co 0),Xc Ld (co 7),Xc Le (sy 102),Xc Lf (co (-1))]) true),(15,.ptr (if false then 13 else 12) tf 0)] ⟨rfl,rfl,rfl,rfl,rfl,rfl,rfl,trivial⟩ ?_)
  rw [hT7]
  exact ra_X7 hT F hS hW hm hn8 hcnt hWok rfl hte hpk hLf fun σ=>⟨zL _,rfl,rfl⟩
end
end Go.Proofs.YtfgccihafnjalaaGreatDoor
