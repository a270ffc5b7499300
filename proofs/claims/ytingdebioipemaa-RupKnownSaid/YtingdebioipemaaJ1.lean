/- Clauses: what follows by clauses of one literal. -/
import Derived.Test.YtingdebioipemaaAmD
import Derived.Test.YtingdebioipemaaTabB
import Derived.KernelRfl
open Nat renaming reduceEqDiff → rq, reduceAdd → rA, reduceLeDiff → rL, reduceLT → rTq, zero_add → zA, le_refl → lR, zero_le → zL, add_zero → aZ
open List renaming length_cons → lC, length_nil → lN, take_succ_cons → tS, length_append → lA, nil_append → nA, cons_append → cA, append_assoc → aA, take_nil → tN, take_zero → tZ, length_map → lM
open Bool renaming not_false → nF, not_true → nT
namespace Go.Cl
open Go Go.Am
set_option maxRecDepth 100000
def neg (n:Int):Int:=if n=-9223372036854775808 then n else -n
inductive UP (F:List (List Int)):Int→Prop
 | mk (c:List Int) (n:Int):c∈F→n∈c→(∀ m∈c,m≠n→UP F (-m))→UP F n
def Confl (F:List (List Int)):Prop:=∃ c∈F,∀ m∈c,UP F (-m)
variable {n v:Int} {F p:List (List Int)}
theorem UP.mono {G:List (List Int)} (h:∀ c∈F,c∈G) (u:UP F n):UP G n:=by
 induction u with
 | mk c n hc hn _ ih=>exact .mk c n (h c hc) hn ih
theorem Confl.mono {F G:List (List Int)} (h:∀ c∈F,c∈G):Confl F→Confl G:=fun ⟨c,hc,hm⟩=>⟨c,h c hc,fun m x=>(hm m x).mono h⟩
theorem UP.same {G:List (List Int)} (h:∀ c∈F,∃ d∈G,∀ m,m∈d↔m∈c) (u:UP F n):UP G n:=by
 induction u with
 | mk c n hc hn _ ih =>
   obtain ⟨d,hd,e⟩:=h c hc
   exact .mk d n hd ((e n).2 hn) fun m hm hne=>ih m ((e m).1 hm) hne
theorem Confl.same {F G:List (List Int)} (h:∀ c∈F,∃ d∈G,∀ m,m∈d↔m∈c):Confl F→Confl G:=fun ⟨c,hc,hm⟩=>by
 obtain ⟨d,hd,e⟩:=h c hc
 exact ⟨d,hd,fun m x=>(hm m ((e m).1 x)).same h⟩
theorem UP.in (u:UP F n):∃ c∈F,n∈c:=by
 cases u with
 | mk c _ hc hn _=>exact ⟨c,hc,hn⟩
structure Closed (F:List (List Int)) (S:Int→Prop):Prop where
 cons:∀ n,S n→¬ S (-n)
 clause:∀ c∈F,(∃ n∈c,S n)∨∃ n∈c,∃ m∈c,n≠m∧¬ S (-n)∧¬ S (-m)
theorem Closed.up {S:Int→Prop} (h:Closed F S) (u:UP F n):S n:=by
 induction u with
 | mk c n hc hn _ ih =>
   rcases h.clause c hc with ⟨m,hm,hs⟩ | ⟨a,ha,b,hb,hne,sa,sb⟩
   ·by_cases e:m=n
    ·exact e▸hs
    ·exact absurd (ih m hm e) (h.cons m hs)
   ·by_cases e:a=n
    ·exact absurd (ih b hb fun x=>hne (e.trans x.symm)) sb
    ·exact absurd (ih a ha e) sa
theorem Closed.no {S:Int→Prop} (h:Closed F S):¬ Confl F:=fun ⟨c,hc,hm⟩=>by
 rcases h.clause c hc with ⟨m,hm',hs⟩ | ⟨a,ha,b,hb,hne,sa,sb⟩
 ·exact h.cons m hs (h.up (hm m hm'))
 ·exact sa (h.up (hm a ha))
def Qdp (L:List Int) (c:List Int):List Int:=c.filter fun n=>!decide (-n∈L)
def assign (F:List (List Int)) (L:List Int):List (List Int):=(F.filter fun c=>!c.any fun n=>decide (n∈L)).map (Qdp L)
def XA (L:List Int):List (List Int):=L.map fun n=>[n]
theorem Qpq {L:List Int} (u:UP (assign F L) n):UP (F++XA L) n:=by
 induction u with
 | mk c n hc hn _ ih =>
   obtain ⟨d,hd,rfl⟩:=List.mem_map.1 hc
   obtain ⟨hd,_⟩:=List.mem_filter.1 hd
   refine .mk d n (List.mem_append_left _ hd) (List.mem_filter.1 hn).1 fun m hm hne=>?_
   by_cases hl:-m∈L
   ·exact .mk [-m] (-m) (List.mem_append_right _ (List.mem_map.2 ⟨-m,hl,rfl⟩)) (by simp) fun x hx hne'=>absurd (by simpa using hx) hne'
   ·exact ih m (List.mem_filter.2 ⟨hm,by simpa using hl⟩) hne
theorem Qkf {L:List Int}:Confl (assign F L)→Confl (F++XA L):=fun ⟨c,hc,hm⟩=>by
 obtain ⟨d,hd,rfl⟩:=List.mem_map.1 hc
 obtain ⟨hd,_⟩:=List.mem_filter.1 hd
 refine ⟨d,List.mem_append_left _ hd,fun m hm'=>?_⟩
 by_cases hl:-m∈L
 ·exact .mk [-m] (-m) (List.mem_append_right _ (List.mem_map.2 ⟨-m,hl,rfl⟩)) (by simp) fun x hx hne'=>absurd (by simpa using hx) hne'
 ·exact Qpq (hm m (List.mem_filter.2 ⟨hm',by simpa using hl⟩))
theorem QbX {L:List Int} {l:Int} (hl:l∈L):¬ UP (assign F L) (-l):=fun u=>by
 obtain ⟨c,hc,hn⟩:=u.in
 obtain ⟨d,_,rfl⟩:=List.mem_map.1 hc
 have:=(List.mem_filter.1 hn).2
 simp [hl] at this
theorem Qrs {L:List Int} (hL:∀ l∈L,-l ∉ L) (u:UP (F++XA L) n):Confl (assign F L)∨n∈L∨UP (assign F L) n:=by
 induction u with
 | mk c n hc hn _ ih =>
   by_cases hC:Confl (assign F L)
   ·exact .inl hC
   refine .inr ?_
   have ih:∀ m∈c,m≠n→-m∈L∨UP (assign F L) (-m):=fun m hm hne=>(ih m hm hne).resolve_left hC
   rcases List.mem_append.1 hc with hc | hc
   ·by_cases hh:∃ l∈c,l∈L
    ·obtain ⟨l,hlc,hl⟩:=hh
     by_cases e:l=n
     ·exact .inl (e▸hl)
     ·rcases ih l hlc e with h | h
      ·exact absurd h (hL l hl)
      ·exact absurd h (QbX hl)
    ·have hmem:Qdp L c∈assign F L:=List.mem_map.2 ⟨c,List.mem_filter.2 ⟨hc,by
      simp only [Bool.not_eq_true',List.any_eq_false,decide_eq_true_eq]
      exact fun x hx hxl=>hh ⟨x,hx,hxl⟩⟩,rfl⟩
     have rest:∀ m∈Qdp L c,m≠n→UP (assign F L) (-m):=fun m hm hne=>by
      obtain ⟨hm1,hm2⟩:=List.mem_filter.1 hm
      rcases ih m hm1 hne with h | h
      ·simp [h] at hm2
      ·exact h
     by_cases hnl:-n∈L
     ·exact absurd ⟨_,hmem,fun m hm=>rest m hm fun e=>by
       have:=(List.mem_filter.1 hm).2
       simp [e,hnl] at this⟩ hC
     ·exact .inr (.mk _ n hmem (List.mem_filter.2 ⟨hn,by simpa using hnl⟩) rest)
   ·obtain ⟨l,hl,rfl⟩:=List.mem_map.1 hc
    simp at hn
    exact .inl (hn▸hl)
theorem QlF {L:List Int} (hL:∀ l∈L,-l ∉ L) (h:Confl (F++XA L)):Confl (assign F L):=by
 by_cases hC:Confl (assign F L)
 ·exact hC
 obtain ⟨c,hc,hm⟩:=h
 have hm:∀ m∈c,-m∈L∨UP (assign F L) (-m):=fun m h=>(Qrs hL (hm m h)).resolve_left hC
 rcases List.mem_append.1 hc with hc | hc
 ·by_cases hh:∃ l∈c,l∈L
  ·obtain ⟨l,hlc,hl⟩:=hh
   rcases hm l hlc with h | h
   ·exact absurd h (hL l hl)
   ·exact absurd h (QbX hl)
  ·refine ⟨Qdp L c,List.mem_map.2 ⟨c,List.mem_filter.2 ⟨hc,by
    simp only [Bool.not_eq_true',List.any_eq_false,decide_eq_true_eq]
    exact fun x hx hxl=>hh ⟨x,hx,hxl⟩⟩,rfl⟩,fun m h=>?_⟩
   obtain ⟨hm1,hm2⟩:=List.mem_filter.1 h
   rcases hm m hm1 with h | h
   ·simp [h] at hm2
   ·exact h
 ·obtain ⟨l,hl,rfl⟩:=List.mem_map.1 hc
  rcases hm l (by simp) with h | h
  ·exact absurd h (hL l hl)
  ·exact absurd h (QbX hl)
theorem Qqw {L:List Int} (hL:∀ l∈L,-l ∉ L):Confl (assign F L)↔Confl (F++XA L):=⟨Qkf,QlF hL⟩
def Sat (S:Int→Prop) (c:List Int):Prop:=∃ n∈c,S n
theorem UP.true {S:Int→Prop} (hS:∀ n,S n→¬ S (-n)) (hF:∀ c∈F,Sat S c) (u:UP F n):S n:=by
 induction u with
 | mk c n hc hn _ ih =>
   obtain ⟨m,hm,h⟩:=hF c hc
   by_cases e:m=n
   ·exact e▸h
   ·exact absurd (ih m hm e) (hS m h)
theorem Confl.none {S:Int→Prop} (hS:∀ n,S n→¬ S (-n)) (hF:∀ c∈F,Sat S c):¬ Confl F:=fun ⟨c,hc,hm⟩=>by
 obtain ⟨m,hm',h⟩:=hF c hc
 exact hS m h ((hm m hm').true hS hF)
variable {c l:List Int}
theorem Qkn (hc:c∈F) {L:List Int} (h:∀ n∈c,-n∈L):Confl (F++XA L) :=
 ⟨c,List.mem_append_left _ hc,fun m hm=>.mk [-m] (-m) (List.mem_append_right _ (List.mem_map.2 ⟨-m,h m hm,rfl⟩)) (by simp) fun x hx hne=>absurd (by simpa using hx) hne⟩
def av (n:Int):Int:=if n<0 then -n else n
abbrev Srt (l:List Int):Prop:=l.Pairwise fun a b=>av a<av b
theorem Qlb:∀ {l m:List Int},Srt l→Srt m→(∀ n,n∈l↔n∈m)→l=m
 | [],[],_,_,_=>rfl
 | [],b::m,_,_,h=>absurd ((h b).2 (by simp)) (by simp)
 | a::l,[],_,_,h=>absurd ((h a).1 (by simp)) (by simp)
 | a::l,b::m,hl,hm,h=>by
   rw [Srt,List.pairwise_cons] at hl hm
   have e:a=b:=by
    have h1:=(h a).1 (by simp)
    have h2:=(h b).2 (by simp)
    simp only [List.mem_cons] at h1 h2
    rcases h1 with h1 | h1
    ·exact h1
    ·rcases h2 with h2 | h2
     ·exact h2.symm
     ·have:=hl.1 b h2; have:=hm.1 a h1; omega
   subst e
   congr 1
   refine Qlb hl.2 hm.2 fun n=>?_
   have hn:=h n
   simp only [List.mem_cons] at hn
   refine ⟨fun x=>(hn.1 (.inr x)).resolve_left fun e=>?_,fun x=>(hn.2 (.inr x)).resolve_left fun e=>?_⟩
   ·subst e; have:=hl.1 _ x; omega
   ·subst e; have:=hm.1 _ x; omega
def ins (n:Int):List Int→List Int
 | []=>[n]
 | a::l=>if av n<av a then n::a::l else a::ins n l
def QaB:List Int→List Int
 | []=>[]
 | n::l=>ins n (QaB l)
theorem Qll {n m:Int}:∀ {l:List Int},m∈ins n l↔m=n∨m∈l
 | []=>by simp [ins]
 | a::l=>by
   unfold ins
   split
   ·simp
   ·simp only [List.mem_cons,Qll (l:=l)]
    exact ⟨fun h=>h.elim (fun x=>.inr (.inl x)) fun x=>x.elim .inl fun x=>.inr (.inr x),fun h=>h.elim (fun x=>.inr (.inl x)) fun x=>x.elim .inl fun x=>.inr (.inr x)⟩
theorem Qdf {m:Int}:∀ {l:List Int},m∈QaB l↔m∈l
 | []=>by simp [QaB]
 | a::l=>by simp [QaB,Qll,Qdf (l:=l)]
theorem Qpu {n:Int}:∀ {l:List Int},Srt l→(∀ m∈l,av m≠av n)→Srt (ins n l)
 | [],_,_=>by simp [ins,Srt]
 | a::l,h,hn=>by
   have h':=h
   rw [Srt,List.pairwise_cons] at h
   unfold ins
   split
   ·rename_i hlt
    rw [Srt,List.pairwise_cons]
    refine ⟨fun b hb=>?_,h'⟩
    simp only [List.mem_cons] at hb
    rcases hb with rfl | hb
    ·exact hlt
    ·have:=h.1 b hb; omega
   ·rename_i hlt
    have:=hn a (by simp)
    rw [Srt,List.pairwise_cons]
    refine ⟨fun b hb=>?_,Qpu h.2 fun m hm=>hn m (by simp [hm])⟩
    rcases Qll.1 hb with rfl | hb
    ·omega
    ·exact h.1 b hb
def Once (l:List Int):Prop:=l.Pairwise fun a b=>av a≠av b
theorem Qg0:∀ {l:List Int},Once l→Srt (QaB l)
 | [],_=>.nil
 | a::l,h=>by
   rw [Once,List.pairwise_cons] at h
   exact Qpu (Qg0 h.2) fun m hm=>(h.1 m (Qdf.1 hm)).symm
theorem Qmt {m:List Int} (h:Once l) (hm:Srt m) (he:∀ n,n∈m↔n∈l):m=QaB l:=Qlb hm (Qg0 h) fun n=>by rw [he,Qdf]
def Qa1 (S c:List Int):Option (List Int) :=
 if c.any fun n=>decide (n∈S) then some S
 else match c.filter fun n=>!decide (-n∈S) with
  | []=>none
  | a::l=>if l.all fun n=>decide (n=a) then some (S++[a]) else some S
def ZY (S:List Int):List (List Int)→Option (List Int)
 | []=>some S
 | c::F=>(Qa1 S c).bind fun S=>ZY S F
def Qhd (F:List (List Int)):Nat→List Int→Option (List Int)
 | 0,_=>none
 | k+1,S=>match ZY S F with
   | none=>none
   | some S'=>if S'.length=S.length then some S' else Qhd F k S'
def QaW (F:List (List Int)):Option (List Int):=Qhd F (F.flatten.length+1) []
def Z9 (F:List (List Int)):Option (List Int):=(QaW F).map QaB
def Nz (F:List (List Int)):Prop:=∀ c∈F,∀ n∈c,n≠0
structure Inv (F:List (List Int)) (S:List Int):Prop where
 once:Once S
 up:∀ n∈S,UP F n
 nz:∀ n∈S,n≠0
theorem Once.cons {S:List Int} (h:Once S) (hn:n∈S) (h0:n≠0):-n ∉ S:=fun h'=>by
 have hne:n≠-n:=by omega
 obtain ⟨i,hi,e1⟩:=List.mem_iff_getElem.1 hn
 obtain ⟨j,hj,e2⟩:=List.mem_iff_getElem.1 h'
 have key:=List.pairwise_iff_getElem.1 h
 have e:av n=av (-n):=by unfold av; split <;> split <;> omega
 rcases Nat.lt_trichotomy i j with hij | hij | hij
 ·exact key i j hi hj hij (by rw [e1,e2]; exact e)
 ·subst hij; exact hne (e1.symm.trans e2)
 ·exact key j i hj hi hij (by rw [e1,e2]; exact e.symm)
theorem QgZ (hz:Nz F) {S:List Int} (h:Inv F S) (hc:c∈F) :
 (Qa1 S c=none→Confl F)∧∀ S',Qa1 S c=some S'→Inv F S'∧(S'=S∨∃ n∈c,n ∉ S∧S'=S++[n]):=by
 unfold Qa1
 split
 ·exact ⟨fun h=>(by cases h),fun S' e=>by cases e; exact ⟨h,.inl rfl⟩⟩
 rename_i hn
 simp only [Bool.not_eq_true,List.any_eq_false,decide_eq_true_eq] at hn
 have hup:∀ m∈c,m ∉ c.filter (fun n=>!decide (-n∈S))→UP F (-m):=fun m hm hx=>by
  have:-m∈S:=by
   refine Classical.byContradiction fun hh=>hx (List.mem_filter.2 ⟨hm,by simpa using hh⟩)
  exact h.up _ this
 generalize hl:c.filter (fun n=>!decide (-n∈S))=left at hup
 cases left with
 | nil=>exact ⟨fun _=>⟨c,hc,fun m hm=>hup m hm (by simp)⟩,fun S' e=>by cases e⟩
 | cons a l =>
   simp only
   have ha:a∈c∧-a ∉ S:=by
    have:a∈c.filter (fun n=>!decide (-n∈S)):=by rw [hl]; simp
    have:=List.mem_filter.1 this
    exact ⟨this.1,by simpa using this.2⟩
   split
   ·rename_i hall
    refine ⟨fun h=>(by cases h),fun S' e=>?_⟩
    cases e
    simp only [List.all_eq_true,decide_eq_true_eq] at hall
    have hu:UP F a:=.mk c a hc ha.1 fun m hm hne=>hup m hm fun hx=>by
     simp only [List.mem_cons] at hx
     exact hne (hx.elim id (hall m))
    refine ⟨⟨?_,fun n hn=>?_,fun n hn=>?_⟩,.inr ⟨a,ha.1,hn a ha.1,rfl⟩⟩
    ·rw [Once,List.pairwise_append]
     refine ⟨h.once,by simp,fun x hx y hy=>?_⟩
     simp at hy
     subst hy
     intro e
     have:x=y∨x=-y:=by
      revert e; unfold av; split <;> split <;> omega
     rcases this with rfl | rfl
     ·exact hn _ ha.1 hx
     ·exact ha.2 hx
    ·simp only [List.mem_append,List.mem_singleton] at hn
     rcases hn with hn | rfl
     ·exact h.up n hn
     ·exact hu
    ·simp only [List.mem_append,List.mem_singleton] at hn
     rcases hn with hn | rfl
     ·exact h.nz n hn
     ·exact hz c hc _ ha.1
   ·exact ⟨fun h=>(by cases h),fun S' e=>by cases e; exact ⟨h,.inl rfl⟩⟩
theorem QjT {F:List (List Int)} (hz:Nz F):∀ {G:List (List Int)},(∀ c∈G,c∈F)→∀ {S:List Int},Inv F S→(ZY S G=none→Confl F)∧∀ S',ZY S G=some S'→Inv F S'∧S.length≤S'.length∧(S'.length=S.length→S'=S∧∀ c∈G,Qa1 S c=some S)
 | [],_,S,h=>⟨fun h=>(by cases h),fun S' e=>by cases e; exact ⟨h,lR _,fun _=>⟨rfl,by simp⟩⟩⟩
 | c::G,hG,S,h=>by
   obtain ⟨h1,h2⟩:=QgZ hz h (hG c (by simp))
   simp only [ZY]
   cases hs:Qa1 S c with
   | none=>exact ⟨fun _=>h1 hs,fun S' e=>by cases e⟩
   | some S1 =>
     obtain ⟨i1,g⟩:=h2 S1 hs
     obtain ⟨k1,k2⟩:=QjT hz (G:=G) (fun c hc=>hG c (by simp [hc])) i1
     simp only [Option.bind_some]
     refine ⟨k1,fun S' e=>?_⟩
     obtain ⟨i2,l2,e2⟩:=k2 S' e
     have l1:S.length≤S1.length:=by
      rcases g with rfl | ⟨n,_,_,rfl⟩
      ·exact lR _
      ·simp
     refine ⟨i2,by omega,fun e=>?_⟩
     have es:S1=S:=by
      rcases g with rfl | ⟨n,_,_,rfl⟩
      ·rfl
      ·simp at l2; omega
     subst es
     obtain ⟨q1,q2⟩:=e2 e
     refine ⟨q1,fun d hd=>?_⟩
     simp only [List.mem_cons] at hd
     rcases hd with rfl | hd
     ·exact hs
     ·exact q2 d hd
theorem Qeu {m:List Int} (h:l.Nodup) (hs:∀ n∈l,n∈m):l.length≤m.length:=by
 induction l generalizing m with
 | nil=>simp
 | cons a l ih =>
   rw [List.nodup_cons] at h
   have ha:=hs a (by simp)
   have:=ih h.2 (m:=m.erase a) fun n hn=>by
    have hne:n≠a:=fun e=>h.1 (e▸hn)
    exact (List.mem_erase_of_ne hne).2 (hs n (by simp [hn]))
   have:=List.length_erase_of_mem ha
   have:=List.length_pos_of_mem ha
   simp
   omega
theorem Once.nodup (h:Once l):l.Nodup:=List.Pairwise.imp (fun {a b} (h:av a≠av b) (e:a=b)=>h (congrArg av e)) h
theorem Inv.len {S:List Int} (h:Inv F S):S.length≤F.flatten.length:=Qeu h.once.nodup fun n hn=>by
 obtain ⟨c,hc,hnc⟩:=(h.up n hn).in
 exact List.mem_flatten.2 ⟨c,hc,hnc⟩
theorem Qk9 {S:List Int} (h:Qa1 S c=some S):(∃ n∈c,n∈S)∨∃ n∈c,∃ m∈c,n≠m∧-n ∉ S∧-m ∉ S:=by
 unfold Qa1 at h
 split at h
 ·rename_i hh
  simp only [List.any_eq_true,decide_eq_true_eq] at hh
  exact .inl hh
 generalize hl:c.filter (fun n=>!decide (-n∈S))=left at h
 cases left with
 | nil=>cases h
 | cons a l =>
   simp only at h
   split at h
   ·simp at h
   ·rename_i hall
    simp only [List.all_eq_true,decide_eq_true_eq] at hall
    obtain ⟨b,hb,hne⟩:∃ b∈l,b≠a:=Classical.byContradiction fun hh=>hall fun x hx=>Classical.byContradiction fun e=>hh ⟨x,hx,e⟩
    have g:∀ x∈a::l,x∈c∧-x ∉ S:=fun x hx=>by
     rw [← hl] at hx
     have:=List.mem_filter.1 hx
     exact ⟨this.1,by simpa using this.2⟩
    have ga:=g a (by simp)
    have gb:=g b (by simp [hb])
    exact .inr ⟨b,gb.1,a,ga.1,hne,gb.2,ga.2⟩
theorem Qfm {F:List (List Int)} (hz:Nz F):∀ (k:Nat) {S:List Int},Inv F S→F.flatten.length+1≤k+S.length→(Qhd F k S=none→Confl F)∧∀ S',Qhd F k S=some S'→Inv F S'∧Closed F (·∈S')
 | 0,S,h,hk=>by have:=h.len; omega
 | k+1,S,h,hk=>by
   obtain ⟨h1,h2⟩:=QjT hz (G:=F) (fun c hc=>hc) h
   simp only [Qhd]
   cases hp:ZY S F with
   | none=>exact ⟨fun _=>h1 hp,fun S' e=>by cases e⟩
   | some S1 =>
     obtain ⟨i1,l1,e1⟩:=h2 S1 hp
     simp only
     split
     ·rename_i he
      refine ⟨fun h=>(by cases h),fun S' e=>?_⟩
      cases e
      obtain ⟨rfl,hst⟩:=e1 he
      exact ⟨i1,⟨fun n hn=>i1.once.cons hn (i1.nz n hn),fun c hc=>Qk9 (hst c hc)⟩⟩
     ·exact Qfm hz k i1 (by omega)
theorem Qi7 (F:List (List Int)):Inv F []:=⟨.nil,by simp,by simp⟩
theorem Qls (hz:Nz F):QaW F=none↔Confl F:=by
 obtain ⟨h1,h2⟩:=Qfm hz (F.flatten.length+1) (Qi7 F) (by simp)
 refine ⟨h1,fun hC=>?_⟩
 cases h:QaW F with
 | none=>rfl
 | some S=>exact absurd hC (h2 S h).2.no
theorem Qhk (hz:Nz F) {S:List Int} (h:QaW F=some S):Inv F S∧∀ n,n∈S↔UP F n:=by
 obtain ⟨h1,h2⟩:=Qfm hz (F.flatten.length+1) (Qi7 F) (by simp)
 obtain ⟨i,c⟩:=h2 S h
 exact ⟨i,fun n=>⟨i.up n,fun u=>c.up u⟩⟩
theorem Qdt (hz:Nz F):Z9 F=none↔Confl F:=by
 unfold Z9; rw [Option.map_eq_none_iff,Qls hz]
def mn:Int:=-9223372036854775808
theorem QdT (h:n≠mn):neg n=-n:=if_neg h
def bad (c:List Int):Bool:=c.any fun n=>decide (n=0) || decide (neg n∈c)
def dd:List Int→List Int
 | []=>[]
 | a::l=>if a∈l then dd l else a::dd l
def canon (c:List Int):List Int:=QaB (dd c)
def Qs (c:List Int):List Int × Bool:=if bad c then ([],false) else (canon c,true)
theorem Qf2 {n:Int}:∀ {c:List Int},n∈dd c↔n∈c
 | []=>by simp [dd]
 | a::l=>by
   unfold dd
   split
   ·rename_i h
    rw [Qf2 (c:=l)]
    exact ⟨fun x=>by simp [x],fun x=>by simp at x; rcases x with rfl | x <;> assumption⟩
   ·simp [Qf2 (c:=l)]
theorem QfR:bad c=true↔∃ n∈c,n=0∨neg n∈c:=by simp [bad]
theorem QlS (h:bad c=false):∀ n∈c,n≠0∧n≠mn∧-n ∉ c:=fun n hn=>by
 have:¬ ∃ n∈c,n=0∨neg n∈c:=fun x=>by rw [QfR.2 x] at h; cases h
 refine ⟨fun e=>this ⟨n,hn,.inl e⟩,fun e=>this ⟨n,hn,.inr ?_⟩,fun hm=>this ⟨n,hn,.inr ?_⟩⟩
 ·have:neg n=n:=by rw [e]; decide
  rw [this]; exact hn
 ·by_cases e:n=mn
  ·have:neg n=n:=by rw [e]; decide
   rw [this]; exact hn
  ·rw [QdT e]; exact hm
theorem QwR (hd:l.Nodup) (h:∀ n∈l,-n ∉ l):Once l:=by
 refine List.Pairwise.imp_of_mem (R:=fun a b:Int=>a≠b) (fun {a b} ha hb hne e=>?_) hd
 have:a=b∨b=-a:=by revert e; unfold av; split <;> split <;> omega
 rcases this with e | e
 ·exact hne e
 ·exact h a ha (e▸hb)
theorem Qgw:∀ c:List Int,(dd c).Nodup
 | []=>.nil
 | a::l=>by
   unfold dd
   split
   ·exact Qgw l
   ·rename_i h
    exact List.nodup_cons.2 ⟨fun x=>h (Qf2.1 x),Qgw l⟩
theorem QwS (h:bad c=false):Once (dd c):=QwR (Qgw c) fun n hn hm=>(QlS h n (Qf2.1 hn)).2.2 (Qf2.1 hm)
theorem Qaq:n∈canon c↔n∈c:=by rw [canon,Qdf,Qf2]
theorem QjH (h:bad c=false):Srt (canon c):=Qg0 (QwS h)
theorem QmT (h:bad c=false) (hl:Srt l) (hm:∀ n,n∈l↔n∈c):l=canon c:=Qlb hl (QjH h) fun n=>by rw [hm,Qaq]
def Qu5 (n:Int):Int:=if n<neg n then neg n else n
def ks (a b:Int):Prop:=Qu5 a<Qu5 b∨Qu5 a=Qu5 b∧a≤b
def XV:List Int→List Int
 | []=>[]
 | [a]=>[a]
 | a::b::l=>if a=b then XV (b::l) else a::XV (b::l)
def chk:Option Int→List Int→Bool
 | _,[]=>false
 | p,n::l=>(decide (n=0) || decide (n=mn) || decide (p=some (neg n))) || chk (some n) l
theorem ZP {n:Int}:∀ {s:List Int},n∈XV s↔n∈s
 | []=>by simp [XV]
 | [a]=>by simp [XV]
 | a::b::l=>by
   unfold XV
   split
   ·rename_i e; subst e
    rw [ZP (s:=a::l)]; simp
   ·rw [List.mem_cons,ZP (s:=b::l),List.mem_cons (a:=n) (b:=a)]
theorem QnB (a:Int) (l:List Int):∃ m,XV (a::l)=a::m:=by
 induction l generalizing a with
 | nil=>exact ⟨[],rfl⟩
 | cons b l ih =>
   unfold XV
   split
   ·rename_i e; subst e; exact ih a
   ·exact ⟨_,rfl⟩
theorem QmS:∀ {p:Option Int} {l:List Int},chk p l=true→∃ n∈l,n=0∨n=mn∨p=some (neg n)∨neg n∈l
 | _,[],h=>by cases h
 | p,n::l,h=>by
   simp only [chk,Bool.or_eq_true,decide_eq_true_eq] at h
   rcases h with ((h | h) | h) | h
   ·exact ⟨n,by simp,.inl h⟩
   ·exact ⟨n,by simp,.inr (.inl h)⟩
   ·exact ⟨n,by simp,.inr (.inr (.inl h))⟩
   ·obtain ⟨m,hm,h⟩:=QmS h
    refine ⟨m,by simp [hm],?_⟩
    rcases h with h | h | h | h
    ·exact .inl h
    ·exact .inr (.inl h)
    ·injection h with h
     exact .inr (.inr (.inr (by rw [← h]; simp)))
    ·exact .inr (.inr (.inr (by simp [h])))
theorem Qp3 (h:n≠mn):Qu5 n=av n:=by
 unfold Qu5 av; rw [QdT h]; split <;> split <;> omega
theorem QhB:∀ {p:Option Int} {s:List Int},s.Pairwise ks→chk p (XV s)=false→Srt (XV s)∧∀ n∈XV s,n≠0∧n≠mn
 | p,[],_,_=>⟨.nil,by simp [XV]⟩
 | p,[a],_,h=>by
   simp only [XV,chk,Bool.or_false,Bool.or_eq_false_iff,decide_eq_false_iff_not] at h
   exact ⟨by simp [XV,Srt],fun n hn=>by simp [XV] at hn; subst hn; exact h.1⟩
 | p,a::b::l,hs,h=>by
   rw [List.pairwise_cons] at hs
   unfold XV at h ⊢
   split at h
   ·rename_i e; subst e
    rw [if_pos rfl]
    exact QhB hs.2 h
   ·rename_i e
    rw [if_neg e]
    simp only [chk,Bool.or_eq_false_iff,decide_eq_false_iff_not] at h
    obtain ⟨g1,g2⟩:=QhB hs.2 h.2
    obtain ⟨m,hm⟩:=QnB b l
    have hb:=g2 b (by rw [hm]; simp)
    refine ⟨?_,fun n hn=>?_⟩
    ·rw [hm] at h g1 ⊢
     have hab:av a<av b:=by
      have h1:=hs.1 b (by simp)
      simp only [chk,Bool.or_eq_false_iff,decide_eq_false_iff_not,Option.some.injEq] at h
      have h2:=h.2.1.2
      rw [QdT hb.2] at h2
      unfold ks at h1
      rw [Qp3 h.1.1.2,Qp3 hb.2] at h1
      rcases h1 with h1 | ⟨h1,h3⟩
      ·exact h1
      ·exfalso; revert h1; unfold av; split <;> split <;> omega
     have g1':=g1
     rw [Srt,List.pairwise_cons] at g1'
     rw [Srt,List.pairwise_cons]
     refine ⟨fun c hc=>?_,g1⟩
     simp only [List.mem_cons] at hc
     rcases hc with rfl | hc
     ·exact hab
     ·have:=g1'.1 c hc; omega
    ·simp only [List.mem_cons] at hn
     rcases hn with rfl | hn
     ·exact h.1.1
     ·exact g2 n hn
theorem cleanP {s:List Int} (hs:s.Pairwise ks) (hm:∀ n,n∈s↔n∈c):(if chk none (XV s) then ([],false) else (XV s,true))=Qs c:=by
 cases h:chk none (XV s) with
 | true =>
   obtain ⟨n,hn,h⟩:=QmS h
   rw [ZP,hm] at hn
   have:bad c=true:=QfR.2 ⟨n,hn,by
    rcases h with h | h | h | h
    ·exact .inl h
    ·have:neg n=n:=by rw [h]; decide
     exact .inr (by rw [this]; exact hn)
    ·cases h
    ·rw [ZP,hm] at h; exact .inr h⟩
   simp [Qs,this]
 | false =>
   obtain ⟨g1,g2⟩:=QhB hs h
   have hb:bad c=false:=by
    cases hb:bad c with
    | false=>rfl
    | true =>
      exfalso
      obtain ⟨n,hn,h⟩:=QfR.1 hb
      have hn':n∈XV s:=by rw [ZP,hm]; exact hn
      obtain ⟨n0,nm⟩:=g2 n hn'
      rcases h with h | h
      ·exact n0 h
      ·rw [QdT nm] at h
       have h':-n∈XV s:=by rw [ZP,hm]; exact h
       have ho:Once (XV s):=List.Pairwise.imp (fun {a b} (h:av a<av b)=>by omega) g1
       exact ho.cons hn' n0 h'
   rw [Qs,hb,QmT hb g1 fun n=>by rw [ZP,hm]]
   try rfl
def XI (v n:Int):Bool:=decide (n≠0∧-v≤n∧n≤v)
def right (v:Int) (F:List (List Int)):Bool:=decide (0≤v∧v≤16777216∧(F.length:Int)≤1048576)&&F.all fun c=>c.all (XI v)
theorem Xe:right v F=true↔(0≤v∧v≤16777216∧(F.length:Int)≤1048576)∧∀ c∈F,∀ n∈c,n≠0∧-v≤n∧n≤v:=by
 simp [right,XI]
theorem Qet (h:right v F=true):Nz F:=fun c hc n hn=>((Xe.1 h).2 c hc n hn).1
def follows (v:Int) (F:List (List Int)) (c:List Int):Bool :=
 right v F&&(c.all (XI v)&&(bad c || (Z9 (F++XA (c.map fun n=>-n))).isNone))
theorem QpS {L:List Int} (h:Nz F):Nz (assign F L):=fun c hc n hn=>by
 obtain ⟨d,hd,rfl⟩:=List.mem_map.1 hc
 exact h d (List.mem_filter.1 hd).1 n (List.mem_filter.1 hn).1
theorem Qg7 {G:List (List Int)} (h:Nz F) (k:Nz G):Nz (F++G):=fun c hc=>(List.mem_append.1 hc).elim (h c) (k c)
theorem QiZ {L:List Int} (h:∀ n∈L,n≠0):Nz (XA L):=fun c hc n hn=>by
 obtain ⟨l,hl,rfl⟩:=List.mem_map.1 hc
 simp at hn; subst hn; exact h _ hl
theorem Qna (hF:Nz F) (hb:bad c=false):(Z9 (assign F ((canon c).map fun n=>-n))).isNone=(Z9 (F++XA (c.map fun n=>-n))).isNone:=by
 have hc:=QlS hb
 have h1:Nz (F++XA (c.map fun n=>-n)):=Qg7 hF (QiZ fun n hn=>by
  obtain ⟨m,hm,rfl⟩:=List.mem_map.1 hn
  have:=(hc m hm).1; omega)
 have hL:∀ l∈(canon c).map (fun n=>-n),-l ∉ (canon c).map fun n=>-n:=fun l hl hm=>by
  obtain ⟨m,hm1,rfl⟩:=List.mem_map.1 hl
  obtain ⟨k,hk,e⟩:=List.mem_map.1 hm
  rw [Qaq] at hm1 hk
  refine (hc m hm1).2.2 ?_
  have:k=-m:=by omega
  exact this▸hk
 rw [Bool.eq_iff_iff,Option.isNone_iff_eq_none,Option.isNone_iff_eq_none,Qdt (QpS hF),Qdt h1,Qqw hL]
 have e:∀ {A B:List Int},(∀ n,n∈A↔n∈B)→Confl (F++XA A)→Confl (F++XA B):=fun h=>Confl.mono fun d hd=>by
  rcases List.mem_append.1 hd with hd | hd
  ·exact List.mem_append_left _ hd
  ·obtain ⟨l,hl,rfl⟩:=List.mem_map.1 hd
   exact List.mem_append_right _ (List.mem_map.2 ⟨l,(h l).1 hl,rfl⟩)
 have hm:∀ n,n∈(canon c).map (fun n=>-n)↔n∈c.map fun n=>-n:=fun n=>by simp [Qaq]
 exact ⟨e hm,e fun n=>(hm n).symm⟩
def Q3 (v:Int):List (List Int)→List (List Int)→Nat
 | _,[]=>0
 | F,c::p=>if follows v F c then Q3 v (F++[c]) p+1 else 0
def Xc (v:Int) (F p:List (List Int)):Bool:=decide (p≠[])&&(decide (p.getLast?=some [])&&decide (Q3 v F p=p.length))
def Xz (p:List (List Int)) (i:Nat):List (List Int):=p.take i++p.drop (i+1)
def Y1 (v:Int) (F:List (List Int)):Nat→List (List Int)→List (List Int)
 | 0,p=>p
 | i+1,p=>Y1 v F i (if Xc v F (Xz p i) then Xz p i else p)
def short (v:Int) (F p:List (List Int)):List (List Int) × Bool:=if Xc v F p then (Y1 v F (p.length - 1) p,true) else ([],false)
def Qig (m:List Bool) (n:Int):Bool:=decide (n > 0)&&m.getD (n - 1).toNat false || decide (n<0)&&!m.getD (-n - 1).toNat false
def X3 (m:List Bool) (c:List Int):Bool:=c.any (Qig m)
def ZR (v:Int) (F:List (List Int)) (m:List Bool):Bool:=right v F&&(decide ((m.length:Int)=v)&&F.all (X3 m))
variable {m:List Bool}
theorem Qp7 (h:Qig m n=true):Qig m (-n)=false:=by
 unfold Qig at h ⊢
 rcases Int.lt_trichotomy n 0 with h0 | h0 | h0
 ·have h1:¬ n > 0:=by omega
  have h2:-n > 0:=by omega
  have h3:¬ -n<0:=by omega
  simpa [h0,h1,h2,h3] using h
 ·subst h0; simp at h
 ·have h1:¬ n<0:=by omega
  have h2:¬ -n > 0:=by omega
  have h3:-n<0:=by omega
  simpa [h0,h1,h2,h3] using h
theorem Qp6 (h:n≠0):Qig m n=true∨Qig m (-n)=true:=by
 unfold Qig
 rcases Int.lt_trichotomy n 0 with h0 | h0 | h0
 ·have h1:¬ n > 0:=by omega
  have h2:-n > 0:=by omega
  have h3:¬ -n<0:=by omega
  simp [h0,h1]
  try (cases m[(-n - 1).toNat]?.getD false <;> simp)
 ·exact absurd h0 h
 ·have h1:¬ n<0:=by omega
  have h2:¬ -n > 0:=by omega
  have h3:-n<0:=by omega
  simp [h0,h1]
  try (cases m[(n - 1).toNat]?.getD false <;> simp)
theorem Qed:X3 m c=true↔Sat (fun n=>Qig m n=true) c:=by simp [X3,Sat]
theorem cons_T (m:List Bool) (n:Int):Qig m n=true→¬ Qig m (-n)=true:=fun h h'=>by rw [Qp7 h] at h'; cases h'
theorem Qas:follows v F c=true↔right v F=true∧(∀ n∈c,n≠0∧-v≤n∧n≤v)∧(bad c=true∨Confl (F++XA (c.map fun n=>-n))):=by
 unfold follows
 rw [Bool.and_eq_true,Bool.and_eq_true,Bool.or_eq_true,Option.isNone_iff_eq_none]
 have hc:c.all (XI v)=true↔∀ n∈c,n≠0∧-v≤n∧n≤v:=by simp [XI]
 rw [hc]
 constructor
 ·rintro ⟨h1,h2,h3⟩
  refine ⟨h1,h2,h3.imp id fun h=>?_⟩
  exact (Qdt (Qg7 (Qet h1) (QiZ fun n hn=>by
   obtain ⟨k,hk,rfl⟩:=List.mem_map.1 hn
   have:=(h2 k hk).1; omega))).1 h
 ·rintro ⟨h1,h2,h3⟩
  refine ⟨h1,h2,h3.imp id fun h=>?_⟩
  exact (Qdt (Qg7 (Qet h1) (QiZ fun n hn=>by
   obtain ⟨k,hk,rfl⟩:=List.mem_map.1 hn
   have:=(h2 k hk).1; omega))).2 h
theorem QeC (h:follows v F c=true) (hm:∀ d∈F,X3 m d=true):X3 m c=true:=by
 obtain ⟨h1,h2,h3⟩:=Qas.1 h
 have hv:=(Xe.1 h1).1
 rcases h3 with h3 | h3
 ·obtain ⟨n,hn,hb⟩:=QfR.1 h3
  obtain ⟨n0,n1,n2⟩:=h2 n hn
  have hne:n≠mn:=by unfold mn; omega
  rw [QdT hne] at hb
  have hb:=hb.resolve_left n0
  rw [Qed]
  exact (Qp6 (m:=m) n0).elim (fun x=>⟨n,hn,x⟩) fun x=>⟨-n,hb,x⟩
 ·refine Classical.byContradiction fun hc=>?_
  refine Confl.none (S:=fun n=>Qig m n=true) (cons_T m) (fun d hd=>?_) h3
  rcases List.mem_append.1 hd with hd | hd
  ·exact Qed.1 (hm d hd)
  ·obtain ⟨l,hl,rfl⟩:=List.mem_map.1 hd
   obtain ⟨n,hn,rfl⟩:=List.mem_map.1 hl
   refine ⟨-n,by simp,?_⟩
   refine (Qp6 (m:=m) (h2 n hn).1).resolve_left fun x=>hc (Qed.2 ⟨n,hn,x⟩)
theorem Qhm {v:Int} {m:List Bool}:∀ {p F:List (List Int)},Q3 v F p=p.length→(∀ d∈F,X3 m d=true)→∀ c∈p,X3 m c=true
 | [],_,_,_,c,hc=>by cases hc
 | c::p,F,h,hm,d,hd=>by
   unfold Q3 at h
   split at h
   ·rename_i hf
    have hc:=QeC hf hm
    simp only [List.mem_cons] at hd
    rcases hd with rfl | hd
    ·exact hc
    ·refine Qhm (p:=p) (F:=F++[c]) (by simpa using h) (fun e he=>?_) d hd
     rcases List.mem_append.1 he with he | he
     ·exact hm e he
     ·simp at he; subst he; exact hc
   ·simp at h
theorem QnE:Xc v F p=true↔p.getLast?=some []∧Q3 v F p=p.length:=by
 unfold Xc
 simp only [Bool.and_eq_true,decide_eq_true_eq]
 exact ⟨fun h=>h.2,fun h=>⟨fun e=>(by rw [e] at h; simp at h),h⟩⟩
theorem QlI (h:Xc v F p=true) (m:List Bool):F.all (X3 m)=false:=by
 obtain ⟨h1,h2⟩:=QnE.1 h
 cases hf:F.all (X3 m) with
 | false=>rfl
 | true =>
   have:=Qhm h2 (List.all_eq_true.1 hf) [] (List.mem_of_getLast? h1)
   cases this
theorem Qj5 {G:List (List Int)} (h:follows v F c=true) (hs:∀ d∈F,d∈G) (hG:right v G=true):follows v G c=true:=by
 obtain ⟨h1,h2,h3⟩:=Qas.1 h
 refine Qas.2 ⟨hG,h2,h3.imp id (Confl.mono fun d hd=>?_)⟩
 rcases List.mem_append.1 hd with hd | hd
 ·exact List.mem_append_left _ (hs d hd)
 ·exact List.mem_append_right _ hd
theorem Qf4 (hF:right v F=true) (hc:c∈F) (e:List Int) (he:∀ n∈e,n≠0∧-v≤n∧n≤v):follows v F (c++e)=true:=by
 refine Qas.2 ⟨hF,fun n hn=>?_,.inr (Qkn hc fun n hn=>by simp [hn])⟩
 rcases List.mem_append.1 hn with hn | hn
 ·exact (Xe.1 hF).2 c hc n hn
 ·exact he n hn
end Go.Cl
namespace Go.Proofs.Ytingdebioipemaa
open Go Go.Am Go.Cl
set_option maxRecDepth 100000
variable {P:Program} {G:Nat→Option V}
section
attribute [local go_sem] aZ lR zA zL and_true beq_self_eq_true ZT zqh_0 zqh_1 Qs0 QsZ QsY QsX zqh_2 zqh_3 zqh_4 zqh_5 zqh_6 zqh_7 zqh_8 zqh_9 decide_false decide_true gt_iff_lt Qt true_and true_implies
def ints (c:List Int):List V:=c.map (V.int .i64)
def row (c:List Int):V:=.lst 1 (ints c) false
def rows (F:List (List Int)):V:=.lst 1 (F.map row) false
def fml (v:Int) (F:List (List Int)):V:=.agg [.int .i64 v,rows F]
theorem Qb (c:List Int):(ints c).length=c.length:=by simp [ints]
variable {n:Int} {i:Nat} {c:List Int}
theorem Qr9 (h:c[i]?=some n):(ints c)[i]?=some (.int .i64 n):=by simp [ints,h]
theorem Yx (h:c[i]?=some n):(ints c).getD i V.any=.int .i64 n:=by simp [ints,List.getD_eq_getElem?_getD,h]
theorem XD {F:List (List Int)} (h:F[i]?=some c):(F.map row).getD i V.any=.lst 1 (ints c) false:=by simp [List.getD_eq_getElem?_getD,h,row]
theorem Xq:∀ c:List Int,Qd (ints c)=true
 | []=>rfl
 | n::c=>by have:=Xq c; simpa [ints,Qd,nameless] using this
theorem wneg {v:Int} (h:0≤v∧v≤16777216):IntKind.i64.wrap (0 - v)=-v:=by
 rw [ZW] <;> (try omega)
 all_goals (first | (simp [IntKind.min,IntKind.signed,IntKind.bits]; omega) | (simp [IntKind.max,IntKind.signed,IntKind.bits]; omega))
-- simp [IntKind.min, IntKind.signed, IntKind.bits]; omega) (by simp [IntKind.max, IntKind.signed, IntKind.bits]; omega)
theorem XP {n:Nat} (h:i<n) (hn:n≤9223372036854775807):IntKind.i64.wrap ((i:Int)+1)=((i+1:Nat):Int):=by
 rw [ZW]
 ·omega
 ·simp [IntKind.min,IntKind.signed,IntKind.bits]; omega
 ·simp [IntKind.max,IntKind.signed,IntKind.bits]; omega
def fmH (t:Nat) (v:Int) (F:List (List Int)):List (Option Ob):=[some (.arr t 24 [.int .i64 v,.lst 1 (F.map row) false])]
theorem Qaw (hT:Qj P tab) (v:Int) (F:List (List Int)) (hF:F.length≤9223372036854775807) (hc:∀ c∈F,c.length≤9223372036854775807):Pure P G ZG [fml v F] fun u=>u=.bool (right v F):=by
 intro t
 refine XU 0 (zL _) (QF hT Ql (by simp [ZT]) (Qx 12 ?_))
 by_cases h1:v<0
 ·have hr:right v F=false:=by simp [right]; omega
  simp -implicitDefEqProofs (disch:=omega) only [go_sem,↓reduceIte,reduceCtorEq,rA,rq,rL,fml,rows,h1]
  iterate 9 (try (refine Qc 2 ?_; simp -implicitDefEqProofs (disch:=omega) only [go_sem,↓reduceIte,reduceCtorEq,rq]))
  try refine Qc 9 ?_
  try simp -implicitDefEqProofs (disch:=omega) only [go_sem,↓reduceIte,reduceCtorEq,rq]
  rw [hr]
 by_cases h2:v > 16777216
 ·have hr:right v F=false:=by simp [right]; omega
  simp -implicitDefEqProofs (disch:=omega) only [go_sem,↓reduceIte,reduceCtorEq,rA,rq,rL,fml,rows,h1]
  iterate 9 (try (refine Qc 2 ?_; simp -implicitDefEqProofs (disch:=omega) only [go_sem,↓reduceIte,reduceCtorEq,rA,rq,rL,h2]))
  try refine Qc 9 ?_
  try simp -implicitDefEqProofs (disch:=omega) only [go_sem,↓reduceIte,reduceCtorEq,rq]
  rw [hr]
 by_cases h3:(F.length:Int) > 1048576
 ·have hr:right v F=false:=by simp [right]; omega
  simp -implicitDefEqProofs (disch:=omega) only [go_sem,↓reduceIte,reduceCtorEq,rA,rq,rL,fml,rows,h1]
  iterate 9 (try (refine Qc 2 ?_; simp -implicitDefEqProofs (disch:=omega) only [go_sem,↓reduceIte,reduceCtorEq,rA,rq,rL,h2,h3,lM]))
  try refine Qc 9 ?_
  try simp -implicitDefEqProofs (disch:=omega) only [go_sem,↓reduceIte,reduceCtorEq,rq]
  rw [hr]
 simp -implicitDefEqProofs (disch:=omega) only [go_sem,↓reduceIte,reduceCtorEq,rA,rq,rL,fml,rows,h1]
 iterate 9 (try (refine Qc 2 ?_; simp -implicitDefEqProofs (disch:=omega) only [go_sem,↓reduceIte,reduceCtorEq,rA,rq,rL,h2,h3,lM]))
 refine Qc 40 ?_
 simp -implicitDefEqProofs (disch:=omega) only [go_sem,↓reduceIte,reduceCtorEq,rq,lM]
 have hv:0≤v∧v≤16777216:=by omega
 have hneg:=wneg hv
 refine QC (fun m fr σ=>∃ i,i≤F.length∧m=F.length - i∧(∀ c∈F.take i,c.all (XI v)=true)∧Qg fr 1=.ptr 0 t 0∧Qg fr 22=.lst 1 (F.map row) false∧Qg fr 23=.int .i64 F.length∧Qg fr 24=.int .i64 i∧σ=⟨t+1,fmH t v F⟩)
  (fun e fr σ=>(e=.ret∧Qg fr 2=.bool false∧right v F=false)∨(e=.ex 0∧right v F=true))
  (m0:=F.length) ⟨0,by omega,rfl,by simp,?_⟩ (fun m fr σ hJ=>?_) (fun e fr σ hE=>?_)
 ·simp -implicitDefEqProofs (disch:=omega) only [go_sem,↓reduceIte,reduceCtorEq,rq,fmH]
  simp
 ·obtain ⟨i,hi,rfl,hok,f1,f22,f23,f24,rfl⟩:=hJ
  refine Qx 1000 ?_
  rcases Nat.lt_or_ge i F.length with hlt | hge
  ·obtain ⟨c,hci⟩:∃ c,F[i]?=some c:=⟨_,List.getElem?_eq_getElem hlt⟩
   have hD:=XD hci
   have hcm:=List.mem_of_getElem? hci
   have e2:=XP hlt hF
   have hcl:=hc c hcm
   simp -implicitDefEqProofs (disch:=omega) only [go_sem,↓reduceIte,rq,fmH,lM,Qb,f22,f23,f24,hlt,hD]
   refine QC (fun m fr σ=>∃ k,k≤c.length∧m=c.length - k∧(∀ n∈c.take k,XI v n=true)∧Qg fr 1=.ptr 0 t 0∧Qg fr 22=.lst 1 (F.map row) false∧Qg fr 23=.int .i64 F.length∧Qg fr 24=.int .i64 i∧Qg fr 28=.lst 1 (ints c) false∧Qg fr 29=.int .i64 c.length∧Qg fr 30=.int .i64 k∧σ=⟨t+1,fmH t v F⟩)
    (fun e fr σ=>(e=.ret∧Qg fr 2=.bool false∧right v F=false)∨(e=.ex 2∧c.all (XI v)=true∧Qg fr 1=.ptr 0 t 0∧Qg fr 22=.lst 1 (F.map row) false∧Qg fr 23=.int .i64 F.length∧Qg fr 24=.int .i64 i∧σ=⟨t+1,fmH t v F⟩))
    (m0:=c.length) ⟨0,by omega,rfl,by simp,?_⟩ (fun m fr σ hJ=>?_) (fun e fr σ hE=>?_)
   ·simp -implicitDefEqProofs (disch:=omega) only [go_sem,↓reduceIte,rq,fmH,f1,f22,f23,f24]
    simp
   ·obtain ⟨k,hk,rfl,hok2,f1,f22,f23,f24,f28,f29,f30,rfl⟩:=hJ
    refine Qx 14 ?_
    rcases Nat.lt_or_ge k c.length with hlt2 | hge
    ·obtain ⟨n,hnk⟩:∃ n,c[k]?=some n:=⟨_,List.getElem?_eq_getElem hlt2⟩
     have hD2:=Yx hnk
     have hnm:=List.mem_of_getElem? hnk
     have e3:=XP hlt2 hcl
     cases hl:XI v n with
     | false =>
       have hr:right v F=false:=by
        have:F.all (fun c=>c.all (XI v))=false:=by
         rw [List.all_eq_false]
         exact ⟨c,hcm,by rw [Bool.not_eq_true,List.all_eq_false]; exact ⟨n,hnm,by simp [hl]⟩⟩
        simp [right,this]
       simp only [XI,decide_eq_false_iff_not] at hl
       by_cases g1:n=0
       ·simp -implicitDefEqProofs (disch:=omega) only [go_sem,↓reduceIte,rq,fmH,Qb,f28,f29,f30,hlt2,hD2,g1]
        iterate 16 (try (refine Qc 2 ?_; simp -implicitDefEqProofs (disch:=omega) only [go_sem,↓reduceIte,reduceCtorEq,rq,f1,f22,f23,f24]))
        exact hr
       have g1':(n==0)=false:=by simpa using g1
       by_cases g2:n > v
       ·simp -implicitDefEqProofs (disch:=omega) only [go_sem,↓reduceIte,rq,fmH,Qb,f28,f29,f30,hlt2,hD2]
        iterate 16 (try (refine Qc 2 ?_; simp -implicitDefEqProofs (disch:=omega) only [go_sem,↓reduceIte,reduceCtorEq,rA,rq,rL,f1,f22,f23,f24,g1',g2]))
        exact hr
       have g3:n < -v:=by omega
       simp -implicitDefEqProofs (disch:=omega) only [go_sem,↓reduceIte,rq,fmH,Qb,f28,f29,f30,hlt2,hD2]
       iterate 16 (try (refine Qc 2 ?_; simp -implicitDefEqProofs (disch:=omega) only [go_sem,↓reduceIte,reduceCtorEq,rA,rq,rL,hneg,f1,f22,f23,f24,g1',g2,g3]))
       exact hr
     | true =>
       have hl':=hl
       simp only [XI,decide_eq_true_eq] at hl
       have g1':(n==0)=false:=by simpa using hl.1
       have g2:¬ n > v:=by omega
       have g3:¬ n < -v:=by omega
       simp -implicitDefEqProofs (disch:=omega) only [go_sem,↓reduceIte,rq,fmH,Qb,f28,f29,f30,hlt2,hD2]
       iterate 16 (try (refine Qc 2 ?_; simp -implicitDefEqProofs (disch:=omega) only [go_sem,↓reduceIte,rA,rq,rL,hneg,f1,f30,g1',g2,g3]))
       refine ⟨c.length - (k+1),_,_,by omega,Shift.refl _ _ _ _,k+1,by omega,rfl,fun n hn=>?_,?_⟩
       ·rw [List.take_add_one,hnk] at hn
        simp at hn
        rcases hn with hn | rfl
        ·exact hok2 n hn
        ·exact hl'
       ·simp -implicitDefEqProofs (disch:=omega) only [go_sem,↓reduceIte,rq,f1,f22,f23,f24,f28,f29,e3]
        try simp
    ·have hk:k=c.length:=by omega
     subst hk
     simp -implicitDefEqProofs (disch:=omega) only [go_sem,↓reduceIte,reduceCtorEq,rq,fmH,f1,f22,f23,f24,f29,f30,Nat.lt_irrefl]
     rw [List.take_length] at hok2
     simpa using hok2
   ·rcases hE with ⟨rfl,f2,hr⟩ | ⟨rfl,hcc,f1,f22,f23,f24,rfl⟩
    ·refine Qc 1000 ?_
     simp -implicitDefEqProofs (disch:=omega) only [go_sem,f2,hr]
    ·refine Qc 1000 ?_
     simp -implicitDefEqProofs (disch:=omega) only [go_sem,↓reduceIte,fmH,f24]
     refine ⟨F.length - (i+1),_,_,by omega,Shift.refl _ _ _ _,i+1,by omega,rfl,fun d hd=>?_,?_⟩
     ·rw [List.take_add_one,hci] at hd
      simp only [Option.toList_some,List.mem_append,List.mem_singleton] at hd
      rcases hd with hd | rfl
      ·exact hok d hd
      ·exact hcc
     ·simp -implicitDefEqProofs (disch:=omega) only [go_sem,↓reduceIte,rq,f1,f22,f23,e2]
      try simp
  ·have hi:i=F.length:=by omega
   subst hi
   simp -implicitDefEqProofs (disch:=omega) only [go_sem,↓reduceIte,reduceCtorEq,rq,fmH,f23,f24,Nat.lt_irrefl]
   rw [List.take_length] at hok
   have:F.all (fun c=>c.all (XI v))=true:=List.all_eq_true.2 hok
   simp [right,this]
   omega
 ·rcases hE with ⟨rfl,f2,hr⟩ | ⟨rfl,hr⟩
  ·refine Qc 1000 ?_
   simp -implicitDefEqProofs (disch:=omega) only [go_sem,f2,hr]
  ·refine Qc 1000 ?_
   simp -implicitDefEqProofs (disch:=omega) only [go_sem,↓reduceIte,hr]
end
end Go.Proofs.Ytingdebioipemaa
