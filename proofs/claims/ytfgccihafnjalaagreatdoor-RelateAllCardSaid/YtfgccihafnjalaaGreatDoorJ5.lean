/- Rows whose elements are of several cells each. -/
import Derived.Test.YtfgccihafnjalaaGreatDoorAmD
import Derived.KernelRfl
import Derived.Test.YtfgccihafnjalaaGreatDoorTabB
import Derived.Test.YtfgccihafnjalaaGreatDoorY
open Nat renaming reduceEqDiff → rq, reduceAdd → rA, reduceLeDiff → rL, reduceLT → rT, zero_add → zA, le_refl → lR, zero_le → zL, add_zero → aZ
open List renaming length_cons → lC, length_nil → lN, take_succ_cons → tS, length_append → lA, nil_append → nA, cons_append → cA, append_assoc → aA, take_nil → tN, take_zero → tZ, length_map → lM
open Bool renaming not_false → nF, not_true → nT
namespace Go.Am
open Go
section
variable {α:Type} (enc:α→List V) (sz:Nat)
def fl (l:List α):List V:=l.flatMap enc
theorem Qfu (x:α) (l:List α):fl enc (x::l)=enc x++fl enc l:=rfl
theorem fl_app (l m:List α):fl enc (l++m)=fl enc l++fl enc m:=by simp [fl]
theorem X9 (hn:∀ x,Qb (enc x)=true):∀ l:List α,Qb (fl enc l)=true
 | []=>rfl
 | x::l=>by
   have h1:=hn x
   have h2:=X9 hn l
   rw [Qfu]
   clear hn
   generalize enc x=m at h1
   induction m with
   | nil=>simpa using h2
   | cons a m ih=>simp only [List.cons_append,Qb,Bool.and_eq_true] at h1 ⊢; exact ⟨h1.1,ih h1.2⟩
variable (hs:∀ x,(enc x).length=sz)
include hs
theorem Qrj:∀ l:List α,(fl enc l).length=l.length * sz
 | []=>by simp [fl]
 | x::l=>by rw [Qfu,List.length_append,hs,Qrj l,List.length_cons,Nat.succ_mul,Nat.add_comm]
theorem Qto:∀ (l:List α) (i:Nat) (rest:List V),i≤l.length→(fl enc l++rest).drop (i * sz)=fl enc (l.drop i)++rest
 | l,0,rest,_=>by simp
 | [],i+1,rest,h=>by simp at h
 | x::l,i+1,rest,h=>by
   rw [Qfu,Nat.succ_mul,Nat.add_comm (i * sz) sz,← List.drop_drop,List.append_assoc,List.drop_left' (hs x),List.drop_succ_cons]
   exact Qto l i rest (by simpa using h)
theorem QpH:∀ (l:List α) (i:Nat) (rest:List V),i≤l.length→(fl enc l++rest).take (i * sz)=fl enc (l.take i)
 | l,0,rest,_=>by simp [fl]
 | [],i+1,rest,h=>by simp at h
 | x::l,i+1,rest,h=>by
   rw [Qfu,Nat.succ_mul,Nat.add_comm (i * sz) sz,List.append_assoc,List.take_append,hs x,List.take_of_length_le (by rw [hs]; omega),List.take_succ_cons,Qfu,
    show sz+i * sz - sz=i * sz by omega,QpH l i rest (by simpa using h)]
variable {i:Nat}
theorem QIJ {l:List α} {x:α} (h:l[i]?=some x) (rest:List V):((fl enc l++rest).drop (i * sz)).take sz=enc x:=by
 have hlt:=(List.getElem?_eq_some_iff.1 h).1
 rw [Qto enc sz hs l i rest (by omega),List.drop_eq_getElem_cons hlt,(List.getElem?_eq_some_iff.1 h).2,Qfu,List.append_assoc,List.take_append,hs,Nat.sub_self,List.take_zero,List.append_nil,List.take_of_length_le (by rw [hs]; omega)]
theorem fl_put {l:List α} (h:i<l.length) (y:α) (rest:List V):(fl enc l++rest).take (i * sz)++enc y++(fl enc l++rest).drop (i * sz+sz)=fl enc (l.set i y)++rest:=by
 rw [QpH enc sz hs l i rest (by omega),show i * sz+sz=(i+1) * sz by rw [Nat.succ_mul],Qto enc sz hs l (i+1) rest (by omega),List.set_eq_take_append_cons_drop,if_pos h,fl_app,Qfu]
 simp [List.append_assoc]
end
end Go.Am
namespace Go.Re
structure Pr where
 v:Int
 k:Int
 n:Int
 deriving DecidableEq,Inhabited
def lt (a b:Pr):Prop:=a.v<b.v∨(a.v=b.v∧(a.k<b.k∨(a.k=b.k∧a.n<b.n)))
instance (a b:Pr):Decidable (lt a b):=by unfold lt; infer_instance
theorem QjQ (a:Pr):¬ lt a a:=by unfold lt; omega
theorem lt_trans {a b c:Pr} (h:lt a b) (k:lt b c):lt a c:=by unfold lt at *; omega
theorem Qmb (a b:Pr):lt a b∨a=b∨lt b a:=by
 obtain ⟨a1,a2,a3⟩:=a
 obtain ⟨b1,b2,b3⟩:=b
 simp only [lt,Pr.mk.injEq]; omega
def Srt (l:List Pr):Prop:=l.Pairwise lt
theorem QxC:∀ {l m:List Pr},Srt l→Srt m→(∀ x,x∈l↔x∈m)→l=m
 | [],[],_,_,_=>rfl
 | [],y::m,_,_,h=>absurd ((h y).2 (by simp)) (by simp)
 | x::l,[],_,_,h=>absurd ((h x).1 (by simp)) (by simp)
 | x::l,y::m,hl,hm,h=>by
   have hl':=List.pairwise_cons.1 hl
   have hm':=List.pairwise_cons.1 hm
   have e:x=y:=by
    rcases Qmb x y with k | k | k
    ·rcases List.mem_cons.1 ((h x).1 (by simp)) with e | e
     ·exact e
     ·exact absurd (lt_trans k (hm'.1 x e)) (QjQ _)
    ·exact k
    ·rcases List.mem_cons.1 ((h y).2 (by simp)) with e | e
     ·exact e.symm
     ·exact absurd (lt_trans k (hl'.1 y e)) (QjQ _)
   subst e
   congr 1
   refine QxC hl'.2 hm'.2 fun z=>⟨fun hz=>?_,fun hz=>?_⟩
   ·rcases List.mem_cons.1 ((h z).1 (by simp [hz])) with e | e
    ·subst e; exact absurd (hl'.1 z hz) (QjQ _)
    ·exact e
   ·rcases List.mem_cons.1 ((h z).2 (by simp [hz])) with e | e
    ·subst e; exact absurd (hm'.1 z hz) (QjQ _)
    ·exact e
def put (x:Pr):List Pr→List Pr
 | []=>[x]
 | y::l=>if lt x y then x::y::l else y::put x l
theorem Qs8 {x z:Pr}:∀ {l:List Pr},z∈put x l↔z=x∨z∈l
 | []=>by simp [put]
 | y::l=>by
   unfold put
   split
   ·simp
   ·simp [Qs8 (l:=l)]
    constructor <;> (rintro (h | h | h) <;> simp [h])
theorem QxA {x:Pr}:∀ {l:List Pr},Srt l→x ∉ l→Srt (put x l)
 | [],_,_=>by simp [put,Srt]
 | y::l,h,hx=>by
   have h':=List.pairwise_cons.1 h
   unfold put
   split
   ·rename_i hl
    refine List.pairwise_cons.2 ⟨fun z hz=>?_,h⟩
    rcases List.mem_cons.1 hz with rfl | hz
    ·exact hl
    ·exact lt_trans hl (h'.1 z hz)
   ·rename_i hl
    refine List.pairwise_cons.2 ⟨fun z hz=>?_,QxA h'.2 fun k=>hx (by simp [k])⟩
    rcases Qs8.1 hz with rfl | hz
    ·rcases Qmb z y with k | k | k
     ·exact absurd k hl
     ·exact absurd (by simp [k]) hx
     ·exact k
    ·exact h'.1 z hz
def srt (l:List Pr):List Pr:=l.foldl (fun out x=>if x∈out then out else put x out) []
theorem Qt9:∀ (l out:List Pr),Srt out→Srt (l.foldl (fun out x=>if x∈out then out else put x out) out)∧∀ z,z∈l.foldl (fun out x=>if x∈out then out else put x out) out↔z∈l∨z∈out
 | [],out,h=>⟨h,by simp⟩
 | x::l,out,h=>by
   simp only [List.foldl_cons]
   by_cases hx:x∈out
   ·rw [if_pos hx]
    obtain ⟨h1,h2⟩:=Qt9 l out h
    refine ⟨h1,fun z=>?_⟩
    rw [h2]
    constructor
    ·rintro (h | h) <;> simp [h]
    ·rintro (h | h)
     ·rcases List.mem_cons.1 h with rfl | h
      ·exact .inr hx
      ·exact .inl h
     ·exact .inr h
   ·rw [if_neg hx]
    obtain ⟨h1,h2⟩:=Qt9 l (put x out) (QxA h hx)
    refine ⟨h1,fun z=>?_⟩
    rw [h2,Qs8]
    simp only [List.mem_cons]
    constructor
    ·rintro (h | h | h) <;> simp [h]
    ·rintro ((h | h) | h) <;> simp [h]
theorem Qpe (l:List Pr):Srt (srt l):=(Qt9 l [] List.Pairwise.nil).1
variable {l:List Pr}
theorem Qma {z:Pr}:z∈srt l↔z∈l:=by
 have:=(Qt9 l [] List.Pairwise.nil).2 z
 simpa [srt] using this
theorem QEQ {s:List Pr} (h:Srt s) (hm:∀ z,z∈s↔z∈l):s=srt l:=QxC h (Qpe l) fun z=>by rw [hm,Qma]
theorem QxB (h:Srt l):srt l=l:=(QEQ h fun _=>Iff.rfl).symm
def meet (a b:List Pr):List Pr:=(srt a).filter fun p=>decide (p∈b)
variable {E:Type} [DecidableEq E]
def Qi (up:List (E × E)) (x:E):E:=up.foldl (fun r p=>if r=p.1 then p.2 else r) x
theorem Qom (up:List (E × E)) (a b x:E):Qi (up++[(a,b)]) x=if Qi up x=a then b else Qi up x:=by unfold Qi; rw [List.foldl_append]; rfl
def look (up:List (E × E)) (x:E):Option E:=(up.find? fun p=>decide (p.1=x)).map (·.2)
def Fst (up:List (E × E)):Prop:=∀ (i:Nat) (p:E × E),up[i]?=some p→p.2≠p.1∧∀ (j:Nat) (q:E × E),j<i→up[j]?=some q→q.1≠p.1∧q.1≠p.2
omit [DecidableEq E] in
theorem Fst.nil:Fst ([]:List (E × E)):=fun i p h=>by simp at h
theorem Qpm {up:List (E × E)} {x:E} (h:∀ p∈up,p.1≠x):Qi up x=x:=by
 induction up with
 | nil=>rfl
 | cons p up ih =>
   have h1:=h p (by simp)
   simp only [Qi,List.foldl_cons]
   rw [if_neg (fun e=>h1 e.symm)]
   exact ih fun q hq=>h q (by simp [hq])
theorem QjE (u v:List (E × E)) (x:E):Qi (u++v) x=Qi v (Qi u x):=by unfold Qi; rw [List.foldl_append]
theorem Qiv {up:List (E × E)} (h:Fst up) (x:E):∀ p∈up,p.1≠Qi up x:=by
 intro p hp
 -- by the length
 have key:∀ (n:Nat) (up:List (E × E)),up.length=n→Fst up→∀ p∈up,p.1≠Qi up x:=by
  intro n
  induction n with
  | zero=>intro up hl _ p hp; simp [List.eq_nil_of_length_eq_zero hl] at hp
  | succ n ih =>
    intro up hl ho p hp
    obtain ⟨u,q,rfl⟩:∃ u q,up=u++[q]:=by
     rcases List.eq_nil_or_concat up with rfl | ⟨u,q,e⟩
     ·simp at hl
     ·exact ⟨u,q,by rw [e,List.concat_eq_append]⟩
    have hlu:u.length=n:=by simpa using hl
    have hou:Fst u:=fun i r hi=>by
     have hlt:=(List.getElem?_eq_some_iff.1 hi).1
     obtain ⟨h1,h2⟩:=ho i r (by rw [List.getElem?_append_left hlt]; exact hi)
     exact ⟨h1,fun j q' hj hq=>h2 j q' hj (by rw [List.getElem?_append_left (by omega)]; exact hq)⟩
    obtain ⟨hq1,hq2⟩:=ho u.length q (by simp)
    have hqu:∀ r∈u,r.1≠q.1∧r.1≠q.2:=fun r hr=>by
     obtain ⟨j,hj,e⟩:=List.getElem_of_mem hr
     exact hq2 j r hj (by rw [List.getElem?_append_left hj,List.getElem?_eq_getElem hj,e])
    obtain ⟨a,b⟩:=q
    rw [Qom]
    rw [List.mem_append,List.mem_singleton] at hp
    split
    ·rcases hp with hp | rfl
     ·exact (hqu p hp).2
     ·exact fun e=>hq1 e.symm
    ·rename_i hne
     rcases hp with hp | rfl
     ·exact ih u hlu hou p hp
     ·exact fun e=>hne e.symm
 exact key up.length up rfl h p hp
theorem Qmc {up:List (E × E)} {x:E}:look up x=none↔∀ p∈up,p.1≠x:=by
 simp [look]
theorem Qpl {up:List (E × E)} {x:E} (h:look up x=none):Qi up x=x:=Qpm (Qmc.1 h)
theorem Qye {up:List (E × E)} (h:Fst up) (x:E):look up (Qi up x)=none:=Qmc.2 (Qiv h x)
theorem Qq3 {up:List (E × E)} (h:Fst up) {x y:E} (hl:look up x=some y):∃ i:Nat,up[i]?=some (x,y)∧Qi up x=Qi up y∧∀ (j:Nat) (q:E × E),j≤i→up[j]?=some q→q.1≠y:=by
 unfold look at hl
 rw [Option.map_eq_some_iff] at hl
 obtain ⟨p,hp,rfl⟩:=hl
 have hx:p.1=x:=by simpa using List.find?_some hp
 subst hx
 obtain ⟨i,hi,he,_⟩:=List.find?_eq_some_iff_getElem.1 hp |>.2
 have hii:up[i]?=some p:=by rw [List.getElem?_eq_getElem hi,he]
 obtain ⟨h1,h2⟩:=h i p hii
 have hb:∀ j (q:E × E),j≤i→up[j]?=some q→q.1≠p.2:=fun j q hj hq=>by
  rcases Nat.eq_or_lt_of_le hj with rfl | hj
  ·rw [hii] at hq; cases hq; exact fun e=>h1 e.symm
  ·exact (h2 j q hj hq).2
 refine ⟨i,hii,?_,hb⟩
 have e:up=up.take i++p::up.drop (i+1):=by
  rw [← he,← List.drop_eq_getElem_cons hi,List.take_append_drop]
 have ha:Qi (up.take i) p.1=p.1:=Qpm fun q hq=>by
  obtain ⟨j,hj,hqe⟩:=List.getElem_of_mem hq
  have hj':j<i:=by simp at hj; omega
  rw [List.getElem_take] at hqe
  exact (h2 j q hj' (by rw [List.getElem?_eq_getElem (by omega),hqe])).1
 have hb':Qi (up.take i) p.2=p.2:=Qpm fun q hq=>by
  obtain ⟨j,hj,hqe⟩:=List.getElem_of_mem hq
  have hj':j<i:=by simp at hj; omega
  rw [List.getElem_take] at hqe
  exact (h2 j q hj' (by rw [List.getElem?_eq_getElem (by omega),hqe])).2
 have c1:Qi up p.1=Qi (p::up.drop (i+1)) (Qi (up.take i) p.1):=by rw [← QjE,← e]
 have c2:Qi up p.2=Qi (p::up.drop (i+1)) (Qi (up.take i) p.2):=by rw [← QjE,← e]
 rw [c1,c2,ha,hb']
 simp only [Qi,List.foldl_cons,if_pos]
 rw [if_neg h1]
def far (up:List (E × E)) (x:E):Nat:=up.length - up.findIdx fun p=>decide (p.1=x)
theorem far_lt {up:List (E × E)} (h:Fst up) {x y:E} (hl:look up x=some y):far up y<far up x:=by
 obtain ⟨i,hi,_,hb⟩:=Qq3 h hl
 have hlt:=(List.getElem?_eq_some_iff.1 hi).1
 have hx:up.findIdx (fun p=>decide (p.1=x))≤i:=by
  rcases Nat.lt_or_ge i (up.findIdx fun p=>decide (p.1=x)) with hh | hh
  ·have:=List.not_of_lt_findIdx hh
   rw [List.getElem?_eq_some_iff] at hi
   obtain ⟨_,hi⟩:=hi
   simp [hi] at this
  ·exact hh
 have hy:i<up.findIdx (fun p=>decide (p.1=y)):=by
  rcases Nat.lt_or_ge i (up.findIdx fun p=>decide (p.1=y)) with hh | hh
  ·exact hh
  ·have hl':up.findIdx (fun p=>decide (p.1=y))<up.length:=by omega
   have:=List.findIdx_getElem (w:=hl')
   simp only [decide_eq_true_eq] at this
   exact absurd this (hb _ _ hh (List.getElem?_eq_getElem hl'))
 unfold far; omega
def joinL (up:List (E × E)) (x y:E):List (E × E):=if Qi up x=Qi up y then up else up++[(Qi up x,Qi up y)]
theorem Fst.join {up:List (E × E)} (h:Fst up) (x y:E):Fst (joinL up x y):=by
 unfold joinL
 split
 ·exact h
 ·rename_i hne
  intro i p hi
  rcases Nat.lt_or_ge i up.length with hlt | hge
  ·rw [List.getElem?_append_left hlt] at hi
   obtain ⟨h1,h2⟩:=h i p hi
   exact ⟨h1,fun j q hj hq=>h2 j q hj (by rwa [List.getElem?_append_left (by omega)] at hq)⟩
  ·rw [List.getElem?_append_right hge] at hi
   have:i=up.length:=by
    rcases Nat.eq_or_lt_of_le hge with e | e
    ·exact e.symm
    ·rw [List.getElem?_eq_none (by simp; omega)] at hi; cases hi
   subst this
   simp at hi; subst hi
   refine ⟨fun e=>hne e.symm,fun j q hj hq=>?_⟩
   rw [List.getElem?_append_left hj] at hq
   have hm:=List.mem_of_getElem? hq
   exact ⟨Qiv h x q hm,Qiv h y q hm⟩
theorem Qiw {up:List (E × E)} (x y z:E):Qi (joinL up x y) z=if Qi up z=Qi up x then Qi up y else Qi up z:=by
 unfold joinL
 split
 ·rename_i h
  split
  ·rename_i h'; rw [h',h]
  ·rfl
 ·rw [Qom]
inductive Conn (l:List (E × E)):E→E→Prop
 | refl (x):Conn l x x
 | fwd {x a b}:Conn l x a→(a,b)∈l→Conn l x b
 | bwd {x a b}:Conn l x b→(a,b)∈l→Conn l x a
omit [DecidableEq E] in
theorem Conn.trans {l:List (E × E)} {x y z:E} (h:Conn l x y) (k:Conn l y z):Conn l x z:=by
 induction k with
 | refl=>exact h
 | fwd _ m ih=>exact .fwd ih m
 | bwd _ m ih=>exact .bwd ih m
omit [DecidableEq E] in
theorem Conn.symm {l:List (E × E)} {x y:E} (h:Conn l x y):Conn l y x:=by
 induction h with
 | refl=>exact .refl _
 | fwd _ m ih=>exact (Conn.bwd (.refl _) m).trans ih
 | bwd _ m ih=>exact (Conn.fwd (.refl _) m).trans ih
omit [DecidableEq E] in
theorem Conn.mono {l m:List (E × E)} (hs:∀ p∈l,p∈m) {x y:E} (h:Conn l x y):Conn m x y:=by
 induction h with
 | refl=>exact .refl _
 | fwd _ k ih=>exact .fwd ih (hs _ k)
 | bwd _ k ih=>exact .bwd ih (hs _ k)
def Qp (l:List (E × E)):List (E × E):=l.foldl (fun up p=>joinL up p.1 p.2) []
theorem QiL (l:List (E × E)) (p:E × E):Qp (l++[p])=joinL (Qp l) p.1 p.2:=by simp [Qp]
theorem Qre (l:List (E × E)):Fst (Qp l):=by
 suffices ∀ (l up:List (E × E)),Fst up→Fst (l.foldl (fun up p=>joinL up p.1 p.2) up) from this l [] .nil
 intro l
 induction l with
 | nil=>intro up h; exact h
 | cons p l ih=>intro up h; exact ih _ (h.join _ _)
theorem QrO (l:List (E × E)):∀ x,Conn l x (Qi (Qp l) x):=by
 have key:∀ (n:Nat) (l:List (E × E)),l.length=n→∀ x,Conn l x (Qi (Qp l) x):=by
  intro n
  induction n with
  | zero=>intro l hl x; rw [List.eq_nil_of_length_eq_zero hl]; exact .refl _
  | succ n ih =>
    intro l hl x
    obtain ⟨u,q,rfl⟩:∃ u q,l=u++[q]:=by
     rcases List.eq_nil_or_concat l with rfl | ⟨u,q,e⟩
     ·simp at hl
     ·exact ⟨u,q,by rw [e,List.concat_eq_append]⟩
    have ih':=fun x=>(ih u (by simpa using hl) x).mono (m:=u++[q]) fun p hp=>by simp [hp]
    rw [QiL,Qiw]
    split
    ·rename_i h
     have h1:=ih' x
     rw [h] at h1
     refine h1.trans ((ih' q.1).symm.trans (Conn.trans (.fwd (.refl _) (by simp:(q.1,q.2)∈u++[q])) (ih' q.2)))
    ·exact ih' x
 exact key l.length l rfl
theorem Qbf (l:List (E × E)) (x y:E):Qi (Qp l) x=Qi (Qp l) y↔Conn l x y:=by
 constructor
 ·intro h
  have:=QrO l x
  rw [h] at this
  exact this.trans (QrO l y).symm
 ·intro h
  have one:∀ (n:Nat) (l:List (E × E)),l.length=n→∀ a b,(a,b)∈l→Qi (Qp l) a=Qi (Qp l) b:=by
   intro n
   induction n with
   | zero=>intro l hl a b h; simp [List.eq_nil_of_length_eq_zero hl] at h
   | succ n ih =>
     intro l hl a b h
     obtain ⟨u,q,rfl⟩:∃ u q,l=u++[q]:=by
      rcases List.eq_nil_or_concat l with rfl | ⟨u,q,e⟩
      ·simp at hl
      ·exact ⟨u,q,by rw [e,List.concat_eq_append]⟩
     rw [QiL,Qiw,Qiw]
     rw [List.mem_append,List.mem_singleton] at h
     rcases h with h | rfl
     ·rw [ih u (by simpa using hl) a b h]
     ·simp only [if_pos]
      split
      ·rfl
      ·rfl
  induction h with
  | refl=>rfl
  | fwd _ m ih=>rw [ih]; exact one l.length l rfl _ _ m
  | bwd _ m ih=>rw [ih]; exact (one l.length l rfl _ _ m).symm
end Go.Re
namespace Go.Re
def vE (v:Int):Pr:=⟨v,0,0⟩
def pE (p:Pr):Pr:=⟨0,p.k,p.n⟩
def ties (l:List Pr):List (Pr × Pr):=l.map fun p=>(vE p.v,pE p)
structure TiedOk (l:List Pr) (frm:Int) (inn:List Int):Prop where
 has:frm∈inn
 conn:∀ u∈inn,Conn (ties l) (vE frm) (vE u)
 closed:∀ p∈l,∀ q∈l,p.k=q.k→p.n=q.n→p.v∈inn→q.v∈inn
variable {v b0 b n:Int}
theorem QqG {u:Int} (h:vE u=vE v):u=v:=by simp [vE] at h; exact h
variable {inn:List Int} {l es:List Pr}
theorem TiedOk.iff (hk:∀ p∈l,p.k≠0) {frm:Int} (h:TiedOk l frm inn) (u:Int):u∈inn↔Conn (ties l) (vE frm) (vE u):=by
 constructor
 ·exact h.conn u
 ·intro hc
  have key:∀ e,Conn (ties l) (vE frm) e→(∃ u,e=vE u∧u∈inn)∨(∃ p∈l,e=pE p∧p.v∈inn):=by
   intro e he
   induction he with
   | refl=>exact .inl ⟨frm,rfl,h.has⟩
   | fwd _ hm ih =>
     obtain ⟨p,hp,e⟩:=List.mem_map.1 hm
     obtain ⟨rfl,rfl⟩:=Prod.mk.injEq ..▸e
     rcases ih with ⟨u,hu,hi⟩ | ⟨q,hq,hu,hi⟩
     ·have e1:=QqG hu
      exact .inr ⟨p,hp,rfl,by rw [e1]; exact hi⟩
     ·exact absurd (by simp [vE,pE] at hu; exact hu.2.1.symm) (hk q hq)
   | bwd _ hm ih =>
     obtain ⟨p,hp,e⟩:=List.mem_map.1 hm
     obtain ⟨rfl,rfl⟩:=Prod.mk.injEq ..▸e
     rcases ih with ⟨u,hu,hi⟩ | ⟨q,hq,hu,hi⟩
     ·exact absurd (by simp [vE,pE] at hu; exact hu.2.1) (hk p hp)
     ·simp [pE] at hu
      exact .inl ⟨p.v,rfl,h.closed q hq p hp hu.1.symm hu.2.symm hi⟩
  rcases key _ hc with ⟨w,hw,hi⟩ | ⟨p,hp,hw,_⟩
  ·rw [QqG hw]; exact hi
  ·exact absurd (by simp [vE,pE] at hw; exact hw.2.1.symm) (hk p hp)
variable {p q r e e' x:Pr}
theorem Qxr {frm:Int} (hp:p∈l) (hq:q∈l) (hk:p.k=q.k) (hn:p.n=q.n) (h:Conn (ties l) (vE frm) (vE p.v)):Conn (ties l) (vE frm) (vE q.v):=by
 have h1:Conn (ties l) (vE frm) (pE p):=.fwd h (List.mem_map.2 ⟨p,hp,rfl⟩)
 have h2:pE p=pE q:=by simp [pE,hk,hn]
 rw [h2] at h1
 exact .bwd h1 (List.mem_map.2 ⟨q,hq,rfl⟩)
inductive Tm
 | c (n:Int)
 | s (b:Int)
 deriving DecidableEq
def get (H:List (Pr × Tm)) (r:Pr):Option Tm:=(H.find? fun x=>decide (x.1=r)).map (·.2)
theorem QuA {H:List (Pr × Tm)}:get H r=none↔∀ x∈H,x.1≠r:=by simp [get]
theorem get_append {H:List (Pr × Tm)} {G:List (Pr × Tm)}:get (H++G) r=(get H r).or (get G r):=by
 unfold get
 rw [List.find?_append]
 cases H.find? fun x=>decide (x.1=r) <;> simp
variable {t:Tm}
theorem Qf4 {H:List (Pr × Tm)} (h:get H q=none):get (H++[(q,t)]) r=if r=q then some t else get H r:=by
 rw [get_append]
 by_cases e:r=q
 ·subst e; rw [h]; simp [get]
 ·rw [if_neg e]
  have:get [(q,t)] r=none:=QuA.2 fun x hx=>by simp at hx; subst hx; exact fun h=>e h.symm
  rw [this]; cases get H r <;> rfl
def QaX (up:List (Pr × Pr)) (H:List (Pr × Tm)) (p:Pr):List (Pr × Tm):=if (get H (Qi up (vE p.v))).isNone∧p.k=3 then H++[(Qi up (vE p.v),.c p.n)] else H
def nums (up:List (Pr × Pr)) (l:List Pr):List (Pr × Tm):=l.foldl (QaX up) []
theorem QqW (up:List (Pr × Pr)) (l:List Pr) (p:Pr):nums up (l++[p])=QaX up (nums up l) p:=by simp [nums]
theorem Qup (up:List (Pr × Pr)) (l:List Pr) (r:Pr):get (nums up l) r=(l.find? fun p=>decide (p.k=3∧Qi up (vE p.v)=r)).map fun p=>.c p.n:=by
 have key:∀ (n:Nat) (l:List Pr),l.length=n→get (nums up l) r=(l.find? fun p=>decide (p.k=3∧Qi up (vE p.v)=r)).map fun p=>.c p.n:=by
  intro n
  induction n with
  | zero=>intro l hl; rw [List.eq_nil_of_length_eq_zero hl]; rfl
  | succ n ih =>
    intro l hl
    obtain ⟨u,q,rfl⟩:∃ u q,l=u++[q]:=by
     rcases List.eq_nil_or_concat l with rfl | ⟨u,q,e⟩
     ·simp at hl
     ·exact ⟨u,q,by rw [e,List.concat_eq_append]⟩
    have hu:=ih u (by simpa using hl)
    rw [QqW,List.find?_append]
    unfold QaX
    by_cases h:(get (nums up u) (Qi up (vE q.v))).isNone∧q.k=3
    ·rw [if_pos h,Qf4 (by simpa using h.1)]
     by_cases e:r=Qi up (vE q.v)
     ·subst e
      rw [if_pos rfl]
      have hn:get (nums up u) (Qi up (vE q.v))=none:=by simpa using h.1
      rw [hn] at hu
      cases hf:u.find? fun p=>decide (p.k=3∧Qi up (vE p.v)=Qi up (vE q.v)) with
      | some x=>rw [hf] at hu; simp at hu
      | none=>simp [h.2]
     ·rw [if_neg e,hu]
      have:([q].find? fun p=>decide (p.k=3∧Qi up (vE p.v)=r))=none:=by
       simp; intro _ h; exact e h.symm
      rw [this]; cases u.find? fun p=>decide (p.k=3∧Qi up (vE p.v)=r) <;> rfl
    ·rw [if_neg h,hu]
     cases hf:u.find? fun p=>decide (p.k=3∧Qi up (vE p.v)=r) with
     | some x=>rfl
     | none =>
       have:([q].find? fun p=>decide (p.k=3∧Qi up (vE p.v)=r))=none:=by
        simp
        intro hk e
        apply h
        refine ⟨?_,hk⟩
        rw [e]
        rw [hf] at hu
        rw [hu]; rfl
       rw [this]; rfl
 exact key l.length l rfl
def ofT (up:List (Pr × Pr)) (S:List (Pr × Tm) × Int) (e:Pr):List (Pr × Tm) × Int:=if (get S.1 (Qi up e)).isNone then (S.1++[(Qi up e,.s S.2)],S.2+1) else S
theorem QIf (up:List (Pr × Pr)) (S:List (Pr × Tm) × Int) (e:Pr):(get (ofT up S e).1 (Qi up e)).isSome:=by
 unfold ofT
 split
 ·rename_i h
  rw [Qf4 (by simpa using h),if_pos rfl]; rfl
 ·rename_i h
  cases hg:get S.1 (Qi up e) with
  | none=>rw [hg] at h; simp at h
  | some t=>simp
theorem Quo (up:List (Pr × Pr)) (S:List (Pr × Tm) × Int) (e:Pr) (h:get S.1 r=some t):get (ofT up S e).1 r=some t:=by
 unfold ofT
 split
 ·rw [get_append,h]; rfl
 ·exact h
structure Held (b0:Int) (S:List (Pr × Tm) × Int):Prop where
 le:b0≤S.2
 sym:∀ r b,get S.1 r=some (.s b)→b0≤b∧b<S.2
 one:∀ r r' b,get S.1 r=some (.s b)→get S.1 r'=some (.s b)→r=r'
theorem Held.ofT {b0:Int} {S:List (Pr × Tm) × Int} (h:Held b0 S) (up:List (Pr × Pr)) (e:Pr):Held b0 (ofT up S e):=by
 unfold Re.ofT
 split
 ·rename_i hn
  have hn':get S.1 (Qi up e)=none:=by simpa using hn
  have hl:=h.le
  refine ⟨by show b0≤S.2+1; omega,fun r b hb=>?_,fun r r' b hb hb'=>?_⟩
  ·simp only at hb
   rw [Qf4 hn'] at hb
   split at hb
   ·simp at hb; subst hb; exact ⟨hl,by show S.2<S.2+1; omega⟩
   ·have:=h.sym r b hb; exact ⟨this.1,by show b<S.2+1; omega⟩
  ·simp only at hb hb'
   rw [Qf4 hn'] at hb hb'
   split at hb
   ·split at hb'
    ·rename_i e1 e2; rw [e1,e2]
    ·simp at hb; subst hb; have:=h.sym r' _ hb'; omega
   ·split at hb'
    ·simp at hb'; subst hb'; have:=h.sym r _ hb; omega
    ·exact h.one r r' b hb hb'
 ·exact h
theorem Held.nums {up:List (Pr × Pr)} (b0:Int):Held b0 (nums up l,b0):=by
 refine ⟨Int.le_refl _,fun r b hb=>?_,fun r r' b hb=>?_⟩ <;>
 ·simp only at hb
  rw [Qup] at hb
  cases hf:l.find? fun p=>decide (p.k=3∧Qi up (vE p.v)=r) <;> rw [hf] at hb <;> simp at hb
def asked (up:List (Pr × Pr)) (S:List (Pr × Tm) × Int) (es:List Pr):List (Pr × Tm) × Int:=es.foldl (ofT up) S
theorem QoM {up:List (Pr × Pr)} {b0:Int}:∀ {es:List Pr} {S:List (Pr × Tm) × Int},Held b0 S→Held b0 (asked up S es)
 | [],_,h=>h
 | e::es,_,h=>QoM (es:=es) (h.ofT up e)
theorem Qbu {up:List (Pr × Pr)} {r:Pr} {t:Tm}:∀ {es:List Pr} {S:List (Pr × Tm) × Int},get S.1 r=some t→get (asked up S es).1 r=some t
 | [],_,h=>h
 | e::es,S,h=>Qbu (es:=es) (Quo up S e h)
theorem Qil {up:List (Pr × Pr)} {e:Pr}:∀ {es:List Pr} {S:List (Pr × Tm) × Int},e∈es→(get (asked up S es).1 (Qi up e)).isSome
 | [],_,h=>absurd h (by simp)
 | e'::es,S,h=>by
   rcases List.mem_cons.1 h with rfl | h
   ·cases hg:get (ofT up S e).1 (Qi up e) with
    | none=>have:=QIf up S e; rw [hg] at this; simp at this
    | some t=>have:=Qbu (up:=up) (es:=es) hg; show (get (asked up (ofT up S e) es).1 (Qi up e)).isSome=true; rw [this]; rfl
   ·exact Qil (es:=es) h
theorem Qy3 {up:List (Pr × Pr)}:(∃ n,get (asked up (nums up l,b0) es).1 r=some (.c n))↔∃ n,get (nums up l) r=some (.c n):=by
 constructor
 ·rintro ⟨n,hn⟩
  suffices ∀ (es:List Pr) (S:List (Pr × Tm) × Int),get (asked up S es).1 r=some (.c n)→get S.1 r=some (.c n) from ⟨n,this es _ hn⟩
  intro es
  induction es with
  | nil=>intro S h; exact h
  | cons e es ih =>
    intro S h
    have h1:=ih _ h
    unfold ofT at h1
    split at h1
    ·rename_i hnn
     simp only at h1
     rw [Qf4 (by simpa using hnn)] at h1
     split at h1
     ·simp at h1
     ·exact h1
    ·exact h1
 ·rintro ⟨n,hn⟩; exact ⟨n,Qbu hn⟩
def val (l:List Pr) (b0:Int) (es:List Pr) (e:Pr):Option Tm:=get (asked (Qp (ties l)) (nums (Qp (ties l)) l,b0) es).1 (Qi (Qp (ties l)) e)
def top (l:List Pr) (b0:Int) (es:List Pr):Int:=(asked (Qp (ties l)) (nums (Qp (ties l)) l,b0) es).2
theorem Qt5 (h:e∈es):(val l b0 es e).isSome:=Qil h
theorem Qo7 (h:Conn (ties l) e e'):val l b0 es e=val l b0 es e':=by
 unfold val; rw [(Qbf (ties l) e e').2 h]
theorem Qo6 (l:List Pr) (b0:Int) (es:List Pr):Held b0 (asked (Qp (ties l)) (nums (Qp (ties l)) l,b0) es):=QoM (Held.nums b0)
theorem Qxn (h:val l b0 es e=some (.s b)):b0≤b∧b<top l b0 es:=(Qo6 l b0 es).sym _ _ h
theorem Qxo (h:val l b0 es e=some (.s b)) (h':val l b0 es e'=some (.s b)):Conn (ties l) e e' :=
 (Qbf (ties l) e e').1 ((Qo6 l b0 es).one _ _ _ h h')
theorem top_le (l:List Pr) (b0:Int) (es:List Pr):b0≤top l b0 es:=(Qo6 l b0 es).le
theorem Qis:val l b0 es (vE v)=some (.c n)↔(l.find? fun p=>decide (p.k=3∧Qi (Qp (ties l)) (vE p.v)=Qi (Qp (ties l)) (vE v))).map (·.n)=some n:=by
 have h1:=Qup (Qp (ties l)) l (Qi (Qp (ties l)) (vE v))
 constructor
 ·intro h
  obtain ⟨m,hm⟩:=(Qy3 (up:=Qp (ties l)) (l:=l) (b0:=b0) (es:=es) (r:=Qi (Qp (ties l)) (vE v))).1 ⟨n,h⟩
  have h2:=Qbu (up:=Qp (ties l)) (es:=es) (S:=(nums (Qp (ties l)) l,b0)) hm
  unfold val at h
  rw [h2] at h
  simp only [Option.some.injEq,Tm.c.injEq] at h
  subst h
  rw [h1] at hm
  cases hf:l.find? fun p=>decide (p.k=3∧Qi (Qp (ties l)) (vE p.v)=Qi (Qp (ties l)) (vE v)) with
  | none=>rw [hf] at hm; simp at hm
  | some p=>rw [hf] at hm; simpa using hm
 ·intro h
  have h3:get (nums (Qp (ties l)) l) (Qi (Qp (ties l)) (vE v))=some (.c n):=by
   rw [h1]
   cases hf:l.find? fun p=>decide (p.k=3∧Qi (Qp (ties l)) (vE p.v)=Qi (Qp (ties l)) (vE v)) with
   | none=>rw [hf] at h; simp at h
   | some p=>rw [hf] at h; simp at h; simp [h]
  exact Qbu (up:=Qp (ties l)) (es:=es) (S:=(nums (Qp (ties l)) l,b0)) h3
theorem Qoi:(∃ n,val l b0 es (vE v)=some (.c n))↔∃ p∈l,p.k=3∧Conn (ties l) (vE v) (vE p.v):=by
 constructor
 ·rintro ⟨n,hn⟩
  rw [Qis] at hn
  cases hf:l.find? fun p=>decide (p.k=3∧Qi (Qp (ties l)) (vE p.v)=Qi (Qp (ties l)) (vE v)) with
  | none=>rw [hf] at hn; simp at hn
  | some p =>
    have:=List.find?_some hf
    simp only [decide_eq_true_eq] at this
    exact ⟨p,List.mem_of_find?_eq_some hf,this.1,(Qbf (ties l) _ _).1 this.2.symm⟩
 ·rintro ⟨p,hp,hk,hc⟩
  cases hf:l.find? fun p=>decide (p.k=3∧Qi (Qp (ties l)) (vE p.v)=Qi (Qp (ties l)) (vE v)) with
  | none =>
    have:=List.find?_eq_none.1 hf p hp
    simp only [decide_eq_true_eq] at this
    exact absurd ⟨hk,((Qbf (ties l) _ _).2 hc).symm⟩ this
  | some q=>exact ⟨q.n,Qis.2 (by rw [hf]; rfl)⟩
structure Holds (hv:Int→Int) (at_:Pr→Int) (l:List Pr):Prop where
 all:∀ p∈l,hv p.v=at_ (pE p)
variable {at_ pl:Pr→Int} {hv:Int→Int}
theorem Holds.conn (hk:∀ p∈l,p.k≠0) (h:Holds hv at_ l) (hc:Conn (ties l) (vE v) e):(∃ u,e=vE u∧hv u=hv v)∨(∃ p∈l,e=pE p∧at_ (pE p)=hv v):=by
 induction hc with
 | refl=>exact .inl ⟨v,rfl,rfl⟩
 | fwd _ hm ih =>
   obtain ⟨p,hp,e⟩:=List.mem_map.1 hm
   obtain ⟨rfl,rfl⟩:=Prod.mk.injEq ..▸e
   rcases ih with ⟨u,hu,hi⟩ | ⟨q,hq,hu,hi⟩
   ·have e1:=QqG hu
    exact .inr ⟨p,hp,rfl,by rw [← h.all p hp,e1]; exact hi⟩
   ·exact absurd (by simp [vE,pE] at hu; exact hu.2.1.symm) (hk q hq)
 | bwd _ hm ih =>
   obtain ⟨p,hp,e⟩:=List.mem_map.1 hm
   obtain ⟨rfl,rfl⟩:=Prod.mk.injEq ..▸e
   rcases ih with ⟨u,hu,hi⟩ | ⟨q,hq,hu,hi⟩
   ·exact absurd (by simp [vE,pE] at hu; exact hu.2.1) (hk p hp)
   ·exact .inl ⟨p.v,rfl,by rw [h.all p hp,hu]; exact hi⟩
theorem Qyd (hk:∀ p∈l,p.k≠0) (h:Holds hv at_ l) (hnum:∀ p∈l,∀ q∈l,p.k=3→q.k=3→p.n=q.n→at_ (pE p)=at_ (pE q))
 (hp:p∈l) (hs:(val l b0 es (vE v)).isSome) (he:val l b0 es (vE v)=val l b0 es (pE p)):hv v=at_ (pE p):=by
 have hpv:val l b0 es (pE p)=val l b0 es (vE p.v):=Qo7 (.bwd (.refl _) (List.mem_map.2 ⟨p,hp,rfl⟩))
 cases hx:val l b0 es (vE v) with
 | none=>rw [hx] at hs; simp at hs
 | some t =>
   cases t with
   | s b =>
     have hc:=Qxo hx (he▸hx)
     rcases h.conn hk hc with ⟨u,hu,_⟩ | ⟨q,hq,hu,hi⟩
     ·exact absurd (by simp [vE,pE] at hu; exact hu.2.1) (hk p hp)
     ·rw [hu]; exact hi.symm
   | c n =>
     rw [hpv] at he
     have h1:=Qis.1 hx
     have h2:=Qis.1 (he▸hx:val l b0 es (vE p.v)=some (.c n))
     have one:∀ w,(l.find? fun p=>decide (p.k=3∧Qi (Qp (ties l)) (vE p.v)=Qi (Qp (ties l)) (vE w))).map (·.n)=some n→∃ q∈l,q.k=3∧q.n=n∧hv w=at_ (pE q):=fun w hw=>by
      cases hf:l.find? fun p=>decide (p.k=3∧Qi (Qp (ties l)) (vE p.v)=Qi (Qp (ties l)) (vE w)) with
      | none=>rw [hf] at hw; simp at hw
      | some q =>
        rw [hf] at hw
        have:=List.find?_some hf
        simp only [decide_eq_true_eq] at this
        have hq:=List.mem_of_find?_eq_some hf
        have hc:=(Qbf (ties l) _ _).1 this.2.symm
        refine ⟨q,hq,this.1,by simpa using hw,?_⟩
        rcases h.conn hk hc with ⟨u,hu,hi⟩ | ⟨r,hr,hu,hi⟩
        ·rw [← h.all q hq,QqG hu]; exact hi.symm
        ·exact absurd (by simp [vE,pE] at hu; exact hu.2.1.symm) (hk r hr)
     obtain ⟨q,hq,hq3,hqn,hqv⟩:=one v h1
     obtain ⟨r,hr,hr3,hrn,hrv⟩:=one p.v h2
     rw [hqv,hnum q hq r hr hq3 hr3 (by rw [hqn,hrn]),← hrv]
     exact h.all p hp
structure AllOf (there:Pr→Prop) (hv:Int→Int) (pl:Pr→Int) (num:Int→Option Int) (l:List Pr):Prop where
 mem:∀ p,p∈l↔there p∧(if p.k=3 then num (hv p.v)=some p.n else hv p.v=pl (pE p))
 kind:∀ p,there p→p.k≠0
 one:∀ x y n,num x=some n→num y=some n→x=y
open Classical in
noncomputable def QJj (pl:Pr→Int) (num:Int→Option Int) (e:Pr):Int:=if e.k=3 then (if h:∃ x,num x=some e.n then Classical.choose h else 0) else pl e
variable {num:Int→Option Int} {there:Pr→Prop}
theorem QBm (h:AllOf there hv pl num l) {x:Int} (hx:num x=some n) (he:e.k=3) (hn:e.n=n):QJj pl num e=x:=by
 unfold QJj
 rw [if_pos he]
 have hex:∃ x,num x=some e.n:=⟨x,by rw [hn]; exact hx⟩
 rw [dif_pos hex]
 exact h.one _ _ _ (Classical.choose_spec hex) (by rw [hn]; exact hx)
theorem AllOf.holds (h:AllOf there hv pl num l):Holds hv (QJj pl num) l:=⟨fun p hp=>by
 obtain ⟨ht,hh⟩:=(h.mem p).1 hp
 by_cases hk:p.k=3
 ·rw [if_pos hk] at hh
  exact (QBm h hh (e:=pE p) hk rfl).symm
 ·rw [if_neg hk] at hh
  rw [hh]
  unfold QJj
  rw [if_neg (show ¬ (pE p).k=3 from hk)]⟩
theorem AllOf.again (h:AllOf there hv pl num l) (hes:∀ p,there p→vE p.v∈es) (p:Pr) (ht:there p) :
 p∈l↔if p.k=3 then val l b0 es (vE p.v)=some (.c p.n) else (∃ q∈l,pE q=pE p)∧val l b0 es (vE p.v)=val l b0 es (pE p):=by
 have hH:=h.holds
 have hk0:∀ q∈l,q.k≠0:=fun q hq=>h.kind q ((h.mem q).1 hq).1
 have hnum:∀ p∈l,∀ q∈l,p.k=3→q.k=3→p.n=q.n→QJj pl num (pE p)=QJj pl num (pE q):=fun p _ q _ hp hq e=>by
  have:pE p=pE q:=by simp [pE,hp,hq,e]
  rw [this]
 have tied:∀ n,val l b0 es (vE p.v)=some (.c n)→num (hv p.v)=some n:=fun n hn=>by
  have h1:=Qis.1 hn
  cases hf:l.find? fun q=>decide (q.k=3∧Qi (Qp (ties l)) (vE q.v)=Qi (Qp (ties l)) (vE p.v)) with
  | none=>rw [hf] at h1; simp at h1
  | some q =>
    rw [hf] at h1
    have hqs:=List.find?_some hf
    simp only [decide_eq_true_eq] at hqs
    have hq:=List.mem_of_find?_eq_some hf
    have hc:=(Qbf (ties l) _ _).1 hqs.2.symm
    have hqn:q.n=n:=by simpa using h1
    obtain ⟨_,hqh⟩:=(h.mem q).1 hq
    rw [if_pos hqs.1,hqn] at hqh
    rcases hH.conn hk0 hc with ⟨u,hu,hi⟩ | ⟨r,hr,hu,_⟩
    ·rw [← hi,← QqG hu]; exact hqh
    ·exact absurd (by simp [vE,pE] at hu; exact hu.2.1.symm) (hk0 r hr)
 by_cases hk:p.k=3
 ·rw [if_pos hk]
  constructor
  ·intro hp
   obtain ⟨n,hn⟩:=(Qoi (b0:=b0) (es:=es)).2 ⟨p,hp,hk,.refl _⟩
   have h1:=tied n hn
   obtain ⟨_,hh⟩:=(h.mem p).1 hp
   rw [if_pos hk] at hh
   rw [h1] at hh
   rw [hn]
   simpa using hh
  ·intro hv'
   exact (h.mem p).2 ⟨ht,by rw [if_pos hk]; exact tied _ hv'⟩
 ·rw [if_neg hk]
  constructor
  ·intro hp
   exact ⟨⟨p,hp,rfl⟩,Qo7 (.fwd (.refl _) (List.mem_map.2 ⟨p,hp,rfl⟩))⟩
  ·rintro ⟨⟨q,hq,e⟩,hv'⟩
   have hs:(val l b0 es (vE p.v)).isSome:=Qt5 (hes p ht)
   have:=Qyd hk0 hH hnum hq hs (by rw [e]; exact hv')
   rw [e] at this
   refine (h.mem p).2 ⟨ht,?_⟩
   rw [if_neg hk,this]
   unfold QJj
   rw [if_neg (show ¬ (pE p).k=3 from hk)]
theorem Qon {x:Pr}:∀ {l:List Pr} {k:Nat},k≤l.length→(∀ y∈l.drop k,lt x y)→(∀ y∈l.take k,¬ lt x y)→put x l=l.take k++x::l.drop k
 | [],k,_,_,_=>by simp [put]
 | y::l,0,_,h,_=>by
   have:lt x y:=h y (by simp)
   simp [put,this]
 | y::l,k+1,hk,h,h'=>by
   have:¬ lt x y:=h' y (by simp)
   unfold put
   rw [if_neg this]
   simp only [List.take_succ_cons,List.drop_succ_cons,List.cons_append]
   rw [Qon (by simpa using hk) (by simpa using h) fun z hz=>h' z (by simp [hz])]
variable {k:Nat}
theorem QzY (hs:Srt l) {y:Pr} (hy:l[k]?=some y) (h:¬ lt x y):∀ z∈l.take (k+1),¬ lt x z:=by
 intro z hz hlt
 obtain ⟨i,hi,rfl⟩:=List.mem_iff_getElem.1 hz
 have hil:i<k+1:=by rw [List.length_take] at hi; omega
 have hkl:=(List.getElem?_eq_some_iff.1 hy).1
 have he:(l.take (k+1))[i]=l[i]'(by omega):=List.getElem_take
 rw [he] at hlt
 rcases Nat.lt_or_ge i k with h1 | h1
 ·have:=List.pairwise_iff_getElem.1 hs i k (by omega) hkl h1
  rw [(List.getElem?_eq_some_iff.1 hy).2] at this
  exact h (lt_trans hlt this)
 ·have:i=k:=by omega
  subst this
  rw [(List.getElem?_eq_some_iff.1 hy).2] at hlt
  exact h hlt
theorem Quh (hs:Srt l) (hk:k≤l.length) (h1:∀ y∈l.drop k,lt x y) (h2:k=0∨∃ y,l[k - 1]?=some y∧¬ lt x y):put x l=l.take k++x::l.drop k:=by
 refine Qon hk h1 fun y hy=>?_
 rcases h2 with rfl | ⟨z,hz,hn⟩
 ·simp at hy
 ·cases k with
  | zero=>simp at hy
  | succ k=>exact QzY hs (by simpa using hz) hn y hy
theorem Qt8 (l:List Pr) (x:Pr):srt (l++[x])=if x∈srt l then srt l else put x (srt l):=by
 unfold srt
 rw [List.foldl_append]
 rfl
theorem QlM (l:List Pr):(srt l).length≤l.length:=by
 have key:∀ (n:Nat) (l:List Pr),l.length=n→(srt l).length≤n:=by
  intro n
  induction n with
  | zero=>intro l hl; rw [List.eq_nil_of_length_eq_zero hl]; simp [srt]
  | succ n ih =>
    intro l hl
    obtain ⟨u,q,rfl⟩:∃ u q,l=u++[q]:=by
     rcases List.eq_nil_or_concat l with rfl | ⟨u,q,e⟩
     ·simp at hl
     ·exact ⟨u,q,by rw [e,List.concat_eq_append]⟩
    have hu:=ih u (by simpa using hl)
    have hp:∀ (x:Pr) (l:List Pr),(put x l).length=l.length+1:=by
     intro x l
     induction l with
     | nil=>rfl
     | cons y l ih=>unfold put; split <;> simp [ih]
    rw [Qt8]
    split
    ·omega
    ·rw [hp]; omega
 exact key l.length l rfl
theorem QIu {frm:Int} (hn:inn.Nodup) (hs:∀ u∈inn,u=frm∨∃ p∈l,p.v=u):inn.length≤l.length+1:=by
 have:=List.Nodup.length_le_of_subset hn (l₂:=frm::l.map (·.v)) fun u hu=>by
  rcases hs u hu with rfl | ⟨p,hp,rfl⟩
  ·simp
  ·exact List.mem_cons_of_mem _ (List.mem_map.2 ⟨p,hp,rfl⟩)
 simpa using this
def Qi7 {α:Type} [DecidableEq α]:List α→List α
 | []=>[]
 | [a]=>[a]
 | a::b::l=>if a=b then Qi7 (b::l) else a::Qi7 (b::l)
theorem Qpx {α:Type} [DecidableEq α] {z:α}:∀ {l:List α},z∈Qi7 l↔z∈l
 | []=>Iff.rfl
 | [a]=>Iff.rfl
 | a::b::l=>by
   have ih:=Qpx (z:=z) (l:=b::l)
   unfold Qi7
   split
   ·rename_i h; subst h; rw [ih]; simp
   ·rw [List.mem_cons,ih]; simp
theorem QmT {α:Type} [DecidableEq α] (x:α):∀ (l:List α),Qi7 (l++[x])=Qi7 l++if l.getLast?=some x then [] else [x]
 | []=>rfl
 | [a]=>by
   simp only [List.cons_append,List.nil_append,Qi7,List.getLast?_singleton,Option.some.injEq]
   split
   ·rename_i h; simp [h]
   ·rename_i h; simp []
 | a::b::l=>by
   have ih:=QmT x (b::l)
   simp only [List.cons_append] at ih ⊢
   have hlast:(a::b::l).getLast?=(b::l).getLast?:=by simp
   rw [hlast]
   conv=>lhs; unfold Qi7
   conv=>rhs; unfold Qi7
   split
   ·exact ih
   ·rw [ih]; rfl
theorem Qua:∀ {l:List Pr},(l.Pairwise fun a b=>¬ lt b a)→Srt (Qi7 l)
 | [],_=>List.Pairwise.nil
 | [a],_=>by simp [Qi7,Srt]
 | a::b::l,h=>by
   have h':=List.pairwise_cons.1 h
   have ih:=Qua h'.2
   unfold Qi7
   split
   ·exact ih
   ·rename_i hne
    refine List.pairwise_cons.2 ⟨fun z hz=>?_,ih⟩
    have hz':=Qpx.1 hz
    rcases Qmb a z with k | k | k
    ·exact k
    ·subst k
     rcases List.mem_cons.1 hz' with e | e
     ·exact absurd e hne
     ·have h2:=(List.pairwise_cons.1 h'.2).1 a e
      have h1:=h'.1 b (by simp)
      rcases Qmb a b with k | k | k
      ·exact absurd k h2
      ·exact absurd k hne
      ·exact absurd k h1
    ·exact absurd k (h'.1 z hz')
theorem QxF (l:List Pr):Qi7 (l.mergeSort fun x y=>!decide (lt y x))=srt l:=by
 have hperm:=List.mergeSort_perm l fun x y=>!decide (lt y x)
 refine QEQ (Qua ?_) fun z=>by rw [Qpx]; exact hperm.mem_iff
 have h:=List.pairwise_mergeSort (le:=fun x y:Pr=>!decide (lt y x)) (fun a b c h1 h2=>by
  simp only [Bool.not_eq_true',decide_eq_false_iff_not] at *
  intro h3
  rcases Qmb a b with k | k | k
  ·exact h2 (lt_trans h3 k)
  ·subst k; exact h2 h3
  ·exact h1 k) (fun a b=>by
  simp only [Bool.or_eq_true,Bool.not_eq_true',decide_eq_false_iff_not]
  rcases Qmb a b with k | k | k
  ·exact .inl fun h=>QjQ _ (lt_trans k h)
  ·subst k; exact .inl (QjQ _)
  ·exact .inr fun h=>QjQ _ (lt_trans k h)) l
 exact h.imp fun {a b} hh=>by simpa using hh
end Go.Re
namespace Go.Proofs.YtfgccihafnjalaaGreatDoor
open Go Go.Am Go.Re
set_option maxRecDepth 100000
variable {P:Program} {G:Nat→Option V}
section
attribute [local go_sem] Bool.not_false Nat.le_refl Nat.zero_add decide_false decide_true ge_iff_le Qz Qu zqq_0 zqq_1 zqq_2 zqq_3 Qq QDS QDR QDQ QDP QDO QDN QDM QDL
def prC (p:Pr):List V:=[.int .i64 p.v,.int .u8 p.k,.int .i64 p.n]
def prV (p:Pr):V:=.agg (prC p)
def prs (l:List Pr):List V:=l.map prV
theorem QlU (p:Pr):(prC p).length=3:=rfl
theorem QjG (p:Pr):Qb (prC p)=true:=rfl
theorem Qk (l:List Pr):(prs l).length=l.length:=by simp [prs]
variable {p:Pr} {i base t k:Nat} {l:List Pr}
theorem QaW (h:l[i]?=some p):(prs l).getD i V.any=prV p:=by simp [prs,List.getD_eq_getElem?_getD,h]
theorem YJ {n:Nat} (h:i<n) (hn:n≤9223372036854775807):IntKind.i64.wrap ((i:Int)+1)=((i+1:Nat):Int):=by
 rw [Zl]
 ·omega
 ·simp [IntKind.min,IntKind.signed,IntKind.bits]; omega
 ·simp [IntKind.max,IntKind.signed,IntKind.bits]; omega
theorem ZJ (h:l[i]?=some p) (rest:List V):((fl prC l++rest).drop (i * 3)).take 3=[.int .i64 p.v,.int .u8 p.k,.int .i64 p.n]:=QIJ prC 3 QlU h rest
theorem Qum (h:l[i]?=some p):((fl prC l).drop (i * 3)).take 3=[.int .i64 p.v,.int .u8 p.k,.int .i64 p.n]:=by have:=ZJ h []; rwa [List.append_nil] at this
theorem YR (l:List Pr):(fl prC l).length=l.length * 3:=Qrj prC 3 QlU l
theorem QAf (l:List Pr):(prs l).flatMap V.cells=fl prC l:=by
 induction l with
 | nil=>rfl
 | cons p l ih=>rw [prs,List.map_cons,List.flatMap_cons,← prs,ih]; rfl
variable {o:List (Option Ob)}
theorem QBe (hT:Qh P tab) (l:List Pr) (tg:Bool) (hl:l.length≤1000000) :
 C P G base Xt [.lst 3 (prs l) tg] ⟨t,o⟩ fun u σ=>∃ t' w,t≤t'∧u=.sl o.length w 0 3 l.length none∧σ=⟨t',o++[some (.arr w 64 (fl prC l))]⟩:=by
 refine C_own 3 64 (Q:=fun v σ=>(v=.sl o.length t 0 3 l.length none∧σ=⟨t+1,o++[some (.arr t 64 (fl prC l))]⟩)∨(l=[]∧v=.lst 0 [] true∧σ=⟨t,o⟩)) ?_ fun v σ hv=>?_
 ·refine Q0 hT Xr (by simp [Qu]) (Ql 1000 ?_)
  have hfl:((prs l).map V.cells).flatten=fl prC l:=by rw [← List.flatMap_def,QAf]
  simp -implicitDefEqProofs (disch:=omega) only [go_sem,↓reduceIte,reduceCtorEq,Nat.reduceEqDiff,hfl,Qk]
  cases l with
  | nil=>exact rfl
  | cons n c=>exact trivial
 ·rcases hv with ⟨rfl,rfl⟩ | ⟨rfl,rfl,rfl⟩
  ·exact .inl ⟨_,_,by omega,rfl,rfl⟩
  ·exact .inr ⟨0,rfl,_,_,Nat.le_succ _,rfl,rfl⟩
def QuW (P:Program) (G:Nat→Option V) (base:Nat) (f:V) (o:List (Option Ob)) (q:Pr→Bool) (l:List Pr):Prop :=
 ∀ t p,p∈l→CV P G base f [prV p] ⟨t,o⟩ fun v σ=>v=.bool (q p)∧∃ t',t≤t'∧σ=⟨t',o⟩
def QAM (q:Pr→Bool):List Pr→Nat→Int
 | [],_=>-1
 | n::c,i=>if q n then i else QAM q c (i+1)
theorem QpC {q:Pr→Bool}:∀ {c:List Pr} {i:Nat},(∀ n∈c,q n=false)→QAM q c i=-1
 | [],_,_=>rfl
 | n::c,i,h=>by rw [QAM,h n (by simp),if_neg (by simp),QpC fun m hm=>h m (by simp [hm])]
theorem Qtn {q:Pr→Bool}:∀ {c:List Pr} {i k:Nat} {n:Pr},(∀ m∈c.take k,q m=false)→c[k]?=some n→q n=true→QAM q c i=((i+k:Nat):Int)
 | [],_,_,_,_,h,_=>by simp at h
 | m::c,i,0,n,_,h,hp=>by simp at h; subst h; simp [QAM,hp]
 | m::c,i,k+1,n,h,hk,hp=>by
   rw [QAM,h m (by simp),if_neg (by simp),Qtn (k:=k) (fun m hm=>h m (by simp [hm])) (by simpa using hk) hp]
   congr 1; omega
theorem Qy {α:Type} {l:List α} {x:α} (h:l[k]?=some x):l.take (k+1)=l.take k++[x]:=by rw [List.take_add_one,h]; rfl
theorem QBa (hT:Qh P tab) {f:V} {q:Pr→Bool} {c:List Pr} (hp:QuW P G base f o q c) (hl:c.length≤1000000) {w T:Nat} {lim:Option Nat} {cs:List V} (ho:o[k]?=some (some (.arr w T (fl prC c++cs)))) :
 C P G base Xa [.sl k w 0 3 c.length lim,f] ⟨t,o⟩ fun v σ=>v=.int .i64 (QAM q c 0)∧∃ t',t≤t'∧σ=⟨t',o⟩:=by
 refine Q0 hT Q9 (by simp [Qq]) (Ql 1000 ?_)
 refine ya ?_
 refine XS c (fun i fr σ=>∃ t',(∀ n∈c.take i,q n=false)∧t≤t'∧Qf fr 0=.sl k w 0 3 c.length lim∧Qf fr 1=f∧Qf fr 7=.int .i64 c.length∧Qf fr 8=.int .i64 ((i:Nat):Int)∧σ=⟨t',o⟩)
  (fun e fr σ=>∃ t',t≤t'∧σ=⟨t',o⟩∧((e=.ret∧Qf fr 4=.int .i64 (QAM q c 0))∨(e=.ex 0∧QAM q c 0=-1)))
  ⟨t,by simp,by omega,?_⟩ (fun i n hn fr σ hJ=>?_) (fun i hi fr σ hJ=>?_) (fun e fr σ hE=>?_)
 ·refine ya ?_
  try simp
 ·obtain ⟨t',hno,ht,f0,f1,f7,f8,rfl⟩:=hJ
  have hlt:=(List.getElem?_eq_some_iff.1 hn).1
  have hD:=(fun {i p} h=>ZJ (l:=c) (i:=i) (p:=p) h cs) hn
  have e2:=YJ hlt (by omega)
  have hq:=hp t' n (List.mem_of_getElem? hn)
  have hsz:i * 3+3≤c.length * 3:=by omega
  simp only [prV,prC] at hq hD
  refine Qe [(0,.sl k w 0 3 c.length lim),(1,f),(7,.int .i64 c.length),(8,.int .i64 ((i:Nat):Int))] ⟨f0,f1,f7,f8,trivial⟩  1000 ?_
  simp -implicitDefEqProofs (disch:=omega) only [go_sem,↓reduceIte,reduceCtorEq,Nat.reduceEqDiff,YR,List.length_append,ho,hlt,hD]
  refine CV.use 1000 hq fun v σ hv=>?_
  obtain ⟨rfl,t2,ht2,rfl⟩:=hv
  cases hpn:q n with
  | true =>
    refine ya ?_
    rw [Qtn hno hn hpn]
    exact ⟨t2,by omega,rfl,by simp⟩
  | false =>
    refine yf ?_
    refine ⟨_,_,Shift.refl _ _ _ _,t2,fun m hm=>?_,by omega,?_⟩
    ·rw [Qy hn] at hm
     simp at hm
     rcases hm with hm | rfl
     ·exact hno m hm
     ·exact hpn
    ·exact yb
 ·obtain ⟨t',hno,ht,f0,f1,f7,f8,rfl⟩:=hJ
  refine Qe [(0,.sl k w 0 3 c.length lim),(1,f),(7,.int .i64 c.length),(8,.int .i64 ((i:Nat):Int))] ⟨f0,f1,f7,f8,trivial⟩  12 ?_
  refine yd ?_
  rw [hi,List.take_length] at hno
  exact ⟨t',ht,rfl,QpC hno⟩
 ·obtain ⟨t',ht,rfl,hE⟩:=hE
  rcases hE with ⟨rfl,f4⟩ | ⟨rfl,hh⟩
  ·refine Qa 1000 ?_
   refine yy ?_
   exact ⟨t',ht,rfl⟩
  ·refine Qa 1000 ?_
   simp -implicitDefEqProofs (disch:=omega) only [go_sem,↓reduceIte,hh]
   exact ⟨t',ht,rfl⟩
end
end Go.Proofs.YtfgccihafnjalaaGreatDoor
