/- Circuits: gates, what literals tell in the model of some inputs; both, odd, either. Plain Lean. -/
import Derived.Test.YtoeicjlflmmmcaaGreatDoorJ3
open Nat renaming reduceEqDiff → rq, reduceAdd → rA, reduceLeDiff → rL, reduceLT → rT, zero_add → zA, le_refl → lR, zero_le → zL, add_zero → aZ
open List renaming length_cons → lC, length_nil → lN, take_succ_cons → tSq, length_append → lA, nil_append → nA, cons_append → cA, append_assoc → aA, take_nil → tN, take_zero → tZ, length_map → lM
open Bool renaming not_false → nFq, not_true → nT
namespace Go.Bl
structure Gt where
 k:Nat
 a:Int
 b:Int
deriving DecidableEq
def lv (M:List Bool) (l:Int):Bool:=if l<0 then !(M.getD (-l - 1).toNat false) else M.getD (l - 1).toNat false
def lit (n:Nat) (l:Int):Prop:=l≠0∧-(n:Int)≤l∧l≤n
def gv (I:Int→Int→Bool) (M:List Bool) (g:Gt):Bool:=if g.k=0 then I g.a g.b else if g.k=1 then M.isEmpty || (lv M g.a&&lv M g.b) else (lv M g.a != lv M g.b)
def mdl (I:Int→Int→Bool) (gs:List Gt):List Bool:=gs.foldl (fun M g=>M++[gv I M g]) []
variable {I:Int→Int→Bool}
theorem Qs8 (gs:List Gt) (g:Gt):mdl I (gs++[g])=mdl I gs++[gv I (mdl I gs) g]:=by simp [mdl]
theorem Qln (I:Int→Int→Bool):∀ (gs:List Gt) (M:List Bool),∃ r,gs.foldl (fun M g=>M++[gv I M g]) M=M++r∧r.length=gs.length
 | [],M=>⟨[],by simp⟩
 | g::gs,M=>by
   obtain ⟨r,h,hl⟩:=Qln I gs (M++[gv I M g])
   exact ⟨gv I M g::r,by rw [List.foldl_cons,h]; simp,by simp [hl]⟩
theorem Qrl (gs ms:List Gt):∃ r,mdl I (gs++ms)=mdl I gs++r∧r.length=ms.length:=by
 unfold mdl
 rw [List.foldl_append]
 exact Qln I ms _
theorem Zi (gs:List Gt):(mdl I gs).length=gs.length:=by
 obtain ⟨r,h,hl⟩:=Qln I gs []
 unfold mdl
 rw [h]; simpa using hl
variable {g:Gt} {i n m:Nat} {gs ms:List Gt}
theorem Qxr (h:gs[i]?=some g):(mdl I gs)[i]?=some (gv I (mdl I (gs.take i)) g):=by
 have hi:=(List.getElem?_eq_some_iff.1 h).1
 have e:gs=gs.take i++[g]++gs.drop (i+1):=by
  have hg:=(List.getElem?_eq_some_iff.1 h).2
  rw [aA,List.singleton_append,← hg,List.getElem_cons_drop,List.take_append_drop]
 obtain ⟨r,hr,_⟩:=Qrl (I:=I) (gs.take i++[g]) (gs.drop (i+1))
 have hl:(mdl I (gs.take i)).length=i:=by rw [Zi,List.length_take]; omega
 conv=>lhs; rw [e]
 rw [hr,Qs8,aA,List.getElem?_append_right (by omega),hl]
 simp
variable {l x y:Int} {M r:List Bool}
theorem Qxu (h:lit M.length l):lv (M++r) l=lv M l:=by
 obtain ⟨h0,h1,h2⟩:=h
 unfold lv
 split
 ·rw [List.getD_eq_getElem?_getD,List.getD_eq_getElem?_getD,List.getElem?_append_left (by omega)]
 ·rw [List.getD_eq_getElem?_getD,List.getD_eq_getElem?_getD,List.getElem?_append_left (by omega)]
theorem Yk (h:l≠0):lv M (-l) = !lv M l:=by
 unfold lv
 rcases Int.lt_or_le l 0 with h1 | h1
 ·rw [if_neg (by omega),if_pos h1,Bool.not_not]
 ·rw [if_pos (by omega),if_neg (by omega),Int.neg_neg]
theorem QcF (h:lit n l) (hn:n≤m):lit m l:=⟨h.1,by have:=h.2.1; omega,by have:=h.2.2; omega⟩
theorem QC (h:lit n l):lit n (-l):=⟨by have:=h.1; omega,by have:=h.2.2; omega,by have:=h.2.1; omega⟩
theorem ZO (h:gs <+: ms) (hl:lit gs.length l):lv (mdl I ms) l=lv (mdl I gs) l:=by
 obtain ⟨r,rfl⟩:=h
 obtain ⟨q,hq,_⟩:=Qrl (I:=I) gs r
 rw [hq]
 exact Qxu (by rw [Zi]; exact hl)
theorem Zu (h:gs <+: ms) (hl:lit gs.length l):lit ms.length l:=QcF hl h.length_le
structure Wf (gs:List Gt):Prop where
 hd:gs[0]?=some ⟨1,1,1⟩
 nd:gs.tail.Nodup
 kd:∀ (i:Nat) (g:Gt),gs[i]?=some g→g.k≤2
 ar:∀ (i:Nat) (g:Gt),gs[i]?=some g→1≤i→g.k≠0→lit i g.a∧lit i g.b
 inp:∀ (i:Nat) (g:Gt),gs[i]?=some g→g.k=0→0≤g.b∧g.b<64
theorem Wf.pos (h:Wf gs):1≤gs.length:=by have:=(List.getElem?_eq_some_iff.1 h.hd).1; omega
theorem Wf.yes (h:Wf gs):lv (mdl I gs) 1=true:=by
 have h1:=Qxr (I:=I) h.hd
 have e:lv (mdl I gs) 1=((mdl I gs)[0]?).getD false:=by
  unfold lv
  rw [if_neg (by omega),List.getD_eq_getElem?_getD]
  rfl
 rw [e,h1]
 rfl
theorem Wf.no (h:Wf gs):lv (mdl I gs) (-1)=false:=by rw [Yk (by omega),h.yes]; rfl
theorem YA (h:Wf gs):lit gs.length 1:=⟨by omega,by omega,by have:=h.pos; omega⟩
theorem Wf.var (h:Wf gs) (hg:gs[i]?=some g) (hi:1≤i) :
 lv (mdl I gs) ((i:Int)+1)=if g.k=0 then I g.a g.b else if g.k=1 then (lv (mdl I gs) g.a&&lv (mdl I gs) g.b) else (lv (mdl I gs) g.a != lv (mdl I gs) g.b):=by
 have h1:=Qxr (I:=I) hg
 have hlt:=(List.getElem?_eq_some_iff.1 hg).1
 have e:lv (mdl I gs) ((i:Int)+1)=gv I (mdl I (gs.take i)) g:=by
  unfold lv
  rw [if_neg (by omega),show ((i:Int)+1 - 1).toNat=i by omega,List.getD_eq_getElem?_getD,h1]
  rfl
 rw [e]
 unfold gv
 have hl:(gs.take i).length=i:=by rw [List.length_take]; omega
 by_cases hk:g.k=0
 ·rw [if_pos hk,if_pos hk]
 ·have ha:=h.ar i g hg hi hk
  have pa:=fun {l:Int} (hl':lit i l)=>ZO (I:=I) (List.take_prefix i gs) (l:=l) (by rw [hl]; exact hl')
  have hne:(mdl I (gs.take i)).isEmpty=false:=by
   rw [List.isEmpty_eq_false_iff]
   intro h0
   have:=congrArg List.length h0
   rw [Zi,hl] at this
   simp at this; omega
  rw [if_neg hk,if_neg hk,hne,Bool.false_or,pa ha.1,pa ha.2]
def ix (gs:List Gt) (g:Gt):Option Nat:=if g∈gs.tail then some (gs.tail.idxOf g+1) else none
def mkG (gs:List Gt) (g:Gt):Int × Bool × List Gt:=match ix gs g with
 | some i=>((i:Int)+1,false,gs)
 | none=>((gs.length:Int)+1,true,gs++[g])
theorem QxG (h:ix gs g=some i):gs[i]?=some g∧1≤i:=by
 unfold ix at h
 split at h
 ·rename_i hm
  cases h
  refine ⟨?_,by omega⟩
  have hlt:=List.idxOf_lt_length_of_mem hm
  have:=List.getElem_idxOf hlt
  rw [← List.getElem?_tail,List.getElem?_eq_getElem hlt,this]
 ·cases h
theorem Qkt (h:Wf gs) (hk:g.k≤2) (ha:g.k≠0→lit gs.length g.a∧lit gs.length g.b) (hb:g.k=0→0≤g.b∧g.b<64) :
 Wf (mkG gs g).2.2∧gs <+: (mkG gs g).2.2∧lit (mkG gs g).2.2.length (mkG gs g).1∧2≤(mkG gs g).1∧(mkG gs g).2.2.length≤gs.length+1∧((mkG gs g).2.1=false→(mkG gs g).2.2=gs) ∧
 (∃ i:Nat,1≤i∧(mkG gs g).1=(i:Int)+1∧(mkG gs g).2.2[i]?=some g):=by
 unfold mkG
 cases hx:ix gs g with
 | some i =>
   obtain ⟨h1,h2⟩:=QxG hx
   have hlt:=(List.getElem?_eq_some_iff.1 h1).1
   show Wf gs∧gs <+: gs∧lit gs.length ((i:Int)+1)∧2≤(i:Int)+1∧gs.length≤gs.length+1∧(false=false→gs=gs)∧∃ j:Nat,1≤j∧(i:Int)+1=(j:Int)+1∧gs[j]?=some g
   exact ⟨h,List.prefix_refl _,⟨by omega,by omega,by omega⟩,by omega,by omega,fun _=>rfl,i,h2,rfl,h1⟩
 | none =>
   have hp:=h.pos
   have hnm:g ∉ gs.tail:=by
    unfold ix at hx
    split at hx
    ·cases hx
    ·assumption
   show Wf (gs++[g])∧gs <+: gs++[g]∧lit (gs++[g]).length ((gs.length:Int)+1)∧2≤(gs.length:Int)+1∧(gs++[g]).length≤gs.length+1∧(true=false→gs++[g]=gs)∧∃ i:Nat,1≤i∧(gs.length:Int)+1=(i:Int)+1∧(gs++[g])[i]?=some g
   refine ⟨⟨?_,?_,?_,?_,?_⟩,List.prefix_append _ _,⟨by omega,by simp only [lA,List.length_singleton]; omega,by simp only [lA,List.length_singleton]; omega⟩,by omega,by simp,(by intro hf; cases hf),gs.length,hp,rfl,by simp⟩
   ·rw [List.getElem?_append_left (by omega)]; exact h.hd
   ·cases gs with
    | nil=>simp at hp
    | cons g0 gs =>
      simp only [cA,List.tail_cons] at *
      exact List.nodup_append.2 ⟨h.nd,by simp,fun x hxm y hy=>by simp at hy; subst hy; intro e; exact hnm (e▸hxm)⟩
   ·intro i g' hg
    rw [List.getElem?_append] at hg
    split at hg
    ·exact h.kd i g' hg
    ·have:g'=g:=by
      cases hi:i - gs.length with
      | zero=>rw [hi] at hg; simpa using hg.symm
      | succ n=>rw [hi] at hg; simp at hg
     exact this▸hk
   ·intro i g' hg hi hk0
    rw [List.getElem?_append] at hg
    split at hg
    ·exact h.ar i g' hg hi hk0
    ·cases hi2:i - gs.length with
     | zero =>
       rw [hi2] at hg
       have e:g'=g:=by simpa using hg.symm
       subst e
       have:=ha hk0
       exact ⟨QcF this.1 (by omega),QcF this.2 (by omega)⟩
     | succ n=>rw [hi2] at hg; simp at hg
   ·intro i g' hg hk0
    rw [List.getElem?_append] at hg
    split at hg
    ·exact h.inp i g' hg hk0
    ·cases hi2:i - gs.length with
     | zero =>
       rw [hi2] at hg
       have e:g'=g:=by simpa using hg.symm
       subst e
       exact hb hk0
     | succ n=>rw [hi2] at hg; simp at hg
theorem Qxp (h:(mkG gs g).2.1=true):(mkG gs g).1=(gs.length:Int)+1∧(mkG gs g).2.2=gs++[g]:=by
 unfold mkG at h ⊢
 cases hx:ix gs g with
 | some i=>rw [hx] at h; cases h
 | none=>exact ⟨rfl,rfl⟩
theorem QIb {g':Gt} (h:(mkG gs g).2.2[gs.length]?=some g'):g'=g:=by
 unfold mkG at h
 cases hx:ix gs g with
 | some i=>rw [hx] at h; simp at h
 | none=>rw [hx] at h; simp at h; exact h.symm
def flip (M:List Bool) (i:Nat):List Bool:=M.set i (!(M.getD i false))
theorem QcG (M:List Bool) (i:Nat):(flip M i).length=M.length:=by simp [flip]
theorem Qkz {j:Nat} (hi:i<M.length):(flip M i).getD j false=if j=i then !(M.getD j false) else M.getD j false:=by
 unfold flip
 rw [List.getD_eq_getElem?_getD,List.getElem?_set]
 by_cases h:j=i
 ·subst h; rw [if_pos rfl,if_pos hi,if_pos rfl]; rfl
 ·rw [if_neg (fun e=>h e.symm),if_neg h,List.getD_eq_getElem?_getD]
theorem QdD (h:lit i l) (hi:i<M.length):lv (flip M i) l=lv M l:=by
 obtain ⟨h0,h1,h2⟩:=h
 unfold lv
 split
 ·rw [Qkz hi,if_neg (by omega)]
 ·rw [Qkz hi,if_neg (by omega)]
theorem Qle (hi:i<M.length):lv (flip M i) ((i:Int)+1) = !lv M ((i:Int)+1):=by
 unfold lv
 rw [if_neg (by omega),if_neg (by omega),Qkz hi,if_pos (by omega)]
theorem QAx (hi:i<M.length):flip (M++r) i=flip M i++r:=by
 unfold flip
 rw [List.set_append_left _ _ hi,List.getD_eq_getElem?_getD,List.getD_eq_getElem?_getD,List.getElem?_append_left hi]
def Told (I:Int→Int→Bool) (gs:List Gt) (cs:List (List Int)) (i:Nat):Prop:=∃ c∈cs,(∀ l∈c,lit gs.length l)∧c.any (lv (flip (mdl I gs) i))=false
theorem Told.pre {cs ds:List (List Int)} (h:Told I gs cs i) (hi:i<gs.length) (hp:gs <+: ms) (hc:∀ c∈cs,c∈ds):Told I ms ds i:=by
 obtain ⟨c,h1,h2,h3⟩:=h
 refine ⟨c,hc c h1,fun l hl=>Zu hp (h2 l hl),?_⟩
 obtain ⟨r,rfl⟩:=hp
 obtain ⟨q,hq,_⟩:=Qrl (I:=I) gs r
 rw [hq,QAx (by rw [Zi]; exact hi)]
 rw [List.any_eq_false] at h3 ⊢
 intro l hl
 rw [Qxu (by rw [QcG,Zi]; exact h2 l hl)]
 exact h3 l hl
structure St where
 gs:List Gt
 cs:List (List Int)
structure Ok (I:Int→Int→Bool) (S:St):Prop where
 wf:Wf S.gs
 sat:∀ c∈S.cs,c.any (lv (mdl I S.gs))=true
 lits:∀ c∈S.cs,∀ l∈c,lit S.gs.length l
 len:∀ c∈S.cs,c.length≤3
 df:∀ (i:Nat) (g:Gt),S.gs[i]?=some g→g.k≠0→Told I S.gs S.cs i
structure Goes (I:Int→Int→Bool) (n m:Nat) (S S':St):Prop where
 ok:Ok I S'
 pre:S.gs <+: S'.gs
 cl:S'.cs.length≤S.cs.length+n
 gl:S'.gs.length≤S.gs.length+m
 cpre:S.cs <+: S'.cs
variable {S S':St}
theorem Goes.refl (h:Ok I S) (n m:Nat):Goes I n m S S:=⟨h,List.prefix_refl _,by omega,by omega,List.prefix_refl _⟩
theorem Goes.trans {S S' S'':St} {n m n' m':Nat} (h:Goes I n m S S') (k:Goes I n' m' S' S''):Goes I (n+n') (m+m') S S'' :=
 ⟨k.ok,h.pre.trans k.pre,by have:=h.cl; have:=k.cl; omega,by have:=h.gl; have:=k.gl; omega,h.cpre.trans k.cpre⟩
theorem Goes.more {n' m':Nat} (h:Goes I n m S S') (hn:n≤n') (hm:m≤m'):Goes I n' m' S S':=⟨h.ok,h.pre,by have:=h.cl; omega,by have:=h.gl; omega,h.cpre⟩
theorem Goes.lv (h:Goes I n m S S') (hl:lit S.gs.length l):lv (mdl I S'.gs) l=lv (mdl I S.gs) l:=ZO h.pre hl
theorem Goes.lit (h:Goes I n m S S') (hl:lit S.gs.length l):lit S'.gs.length l:=Zu h.pre hl
theorem Qkw (h:Ok I S) (hw:Wf gs) (hp:S.gs <+: gs) (hl:gs.length≤S.gs.length+1) (cs:List (List Int)) (hn:cs.length≤n)
 (hs:∀ c∈cs,c.any (lv (mdl I gs))=true∧∀ l∈c,lit gs.length l) (h3:∀ c∈cs,c.length≤3) (hd:∀ g,gs[S.gs.length]?=some g→g.k≠0→Told I gs cs S.gs.length):Goes I n 1 S ⟨gs,S.cs++cs⟩:=by
 refine ⟨⟨hw,fun c hc=>?_,fun c hc l hlc=>?_,fun c hc=>(List.mem_append.1 hc).elim (h.len c) (h3 c),fun i g hg hk=>?_⟩,hp,by simp; omega,hl,List.prefix_append _ _⟩
 ·rcases List.mem_append.1 hc with hc | hc
  ·rw [List.any_eq_true]
   obtain ⟨l,h1,h2⟩:=List.any_eq_true.1 (h.sat c hc)
   exact ⟨l,h1,by rw [ZO hp (h.lits c hc l h1)]; exact h2⟩
  ·exact (hs c hc).1
 ·rcases List.mem_append.1 hc with hc | hc
  ·exact Zu hp (h.lits c hc l hlc)
  ·exact (hs c hc).2 l hlc
 ·simp only at hg
  have hlt:=(List.getElem?_eq_some_iff.1 hg).1
  rcases Nat.lt_or_ge i S.gs.length with hi | hi
  ·refine (h.df i g ?_ hk).pre hi hp fun c hc=>List.mem_append_left _ hc
   obtain ⟨r,rfl⟩:=hp
   rwa [List.getElem?_append_left hi] at hg
  ·have hi':i=S.gs.length:=by omega
   subst hi'
   exact (hd g hg hk).pre hlt (List.prefix_refl _) fun c hc=>List.mem_append_right _ hc
def put (S:St) (q:Int × Bool × List Gt) (cs:Int→List (List Int)):Int × St:=if q.2.1=true then (q.1,⟨q.2.2,S.cs++cs q.1⟩) else (q.1,⟨q.2.2,S.cs⟩)
def Qd3 (S:St) (x y:Int):Int × St :=
 if x=-1∨y=-1∨x=-y then (-1,S) else if x=1∨x=y then (y,S) else if y=1 then (x,S) else
 put S (mkG S.gs ⟨1,min x y,max x y⟩) fun v=>[[-v,x],[-v,y],[v,-x,-y]]
theorem Qmq (hx:lit n x) (hy:lit n y):lit n (min x y)∧lit n (max x y):=by
 rcases Int.le_total x y with h | h
 ·rw [Int.min_eq_left h,Int.max_eq_right h]; exact ⟨hx,hy⟩
 ·rw [Int.min_eq_right h,Int.max_eq_left h]; exact ⟨hy,hx⟩
theorem Qpj (M:List Bool) (x y:Int):(lv M (min x y)&&lv M (max x y))=(lv M x&&lv M y)∧(lv M (min x y) != lv M (max x y))=(lv M x != lv M y):=by
 rcases Int.le_total x y with h | h
 ·rw [Int.min_eq_left h,Int.max_eq_right h]; exact ⟨rfl,rfl⟩
 ·rw [Int.min_eq_right h,Int.max_eq_left h]
  cases lv M x <;> cases lv M y <;> exact ⟨rfl,rfl⟩
theorem Qdp (h:Ok I S) (hx:lit S.gs.length x) (hy:lit S.gs.length y) :
 Goes I 3 1 S (Qd3 S x y).2∧lit (Qd3 S x y).2.gs.length (Qd3 S x y).1∧lv (mdl I (Qd3 S x y).2.gs) (Qd3 S x y).1=(lv (mdl I S.gs) x&&lv (mdl I S.gs) y):=by
 have hyes:=h.wf.yes (I:=I)
 have hno:=h.wf.no (I:=I)
 unfold Qd3
 split
 ·rename_i h1
  refine ⟨Goes.refl h 3 1,QC (YA h.wf),?_⟩
  show lv (mdl I S.gs) (-1)=_
  rw [hno]
  rcases h1 with rfl | rfl | rfl
  ·rw [hno,Bool.false_and]
  ·rw [hno,Bool.and_false]
  ·rw [Yk hy.1]; cases lv (mdl I S.gs) y <;> rfl
 split
 ·rename_i h1
  refine ⟨Goes.refl h 3 1,hy,?_⟩
  rcases h1 with rfl | rfl
  ·rw [hyes,Bool.true_and]
  ·rw [Bool.and_self]
 split
 ·rename_i h1
  subst h1
  exact ⟨Goes.refl h 3 1,hx,by rw [hyes,Bool.and_true]⟩
 have hmm:=Qmq hx hy
 obtain ⟨s1,s2,s3,s3',s4,s5,i,s6,s7,s8⟩:=Qkt h.wf (g:=⟨1,min x y,max x y⟩) (by simp) (fun _=>hmm) (fun e=>absurd e (by simp))
 cases hm:mkG S.gs ⟨1,min x y,max x y⟩ with
 | mk v r =>
   obtain ⟨fr,gs⟩:=r
   rw [hm] at s1 s2 s3 s3' s4 s5 s7 s8
   simp only at s1 s2 s3 s3' s4 s5 s7 s8
   have hv:=s1.var (I:=I) s8 s6
   rw [← s7] at hv
   simp only [Nat.one_ne_zero,if_false,if_true] at hv
   rw [(Qpj _ x y).1,ZO s2 hx,ZO s2 hy] at hv
   cases fr with
   | false =>
     have:=s5 rfl
     subst this
     exact ⟨⟨h,List.prefix_refl _,Nat.le_add_right _ _,Nat.le_add_right _ _,List.prefix_refl _⟩,s3,hv⟩
   | true =>
     have hv0:v≠0:=by omega
     have ax:=ZO (I:=I) s2 hx
     have ay:=ZO (I:=I) s2 hy
     have lx:=Zu s2 hx
     have ly:=Zu s2 hy
     have hd:Told I gs [[-v,x],[-v,y],[v,-x,-y]] S.gs.length:=by
      have e1:=(Qxp (gs:=S.gs) (g:=⟨1,min x y,max x y⟩) (by rw [hm])).1
      rw [hm] at e1
      simp only at e1
      have hi:S.gs.length<(mdl I gs).length:=by rw [Zi]; have:=s3.2.2; omega
      have fv:lv (flip (mdl I gs) S.gs.length) v = !lv (mdl I gs) v:=by rw [e1]; exact Qle hi
      have fx:=QdD hx hi
      have fy:=QdD hy hi
      rw [ax] at fx
      rw [ay] at fy
      cases bx:lv (mdl I S.gs) x with
      | false =>
        refine ⟨[-v,x],by simp,fun l hl=>?_,by simp [Yk hv0,fv,fx,hv,bx]⟩
        simp only [List.mem_cons,List.not_mem_nil,or_false] at hl
        rcases hl with rfl | rfl <;> first | exact QC s3 | exact lx
      | true =>
        cases by':lv (mdl I S.gs) y with
        | false =>
          refine ⟨[-v,y],by simp,fun l hl=>?_,by simp [Yk hv0,fv,fy,hv,bx,by']⟩
          simp only [List.mem_cons,List.not_mem_nil,or_false] at hl
          rcases hl with rfl | rfl <;> first | exact QC s3 | exact ly
        | true =>
          refine ⟨[v,-x,-y],by simp,fun l hl=>?_,by simp [Yk hx.1,Yk hy.1,fv,fx,fy,hv,bx,by']⟩
          simp only [List.mem_cons,List.not_mem_nil,or_false] at hl
          rcases hl with rfl | rfl | rfl <;> first | exact s3 | exact QC lx | exact QC ly
     refine ⟨Qkw h s1 s2 s4 _ (by simp) (fun c hc=>?_) (fun c hc=>by simp only [List.mem_cons,List.not_mem_nil,or_false] at hc; rcases hc with rfl | rfl | rfl <;> simp) (fun _ _ _=>hd),s3,hv⟩
     simp only [List.mem_cons,List.not_mem_nil,or_false] at hc
     rcases hc with rfl | rfl | rfl
     ·refine ⟨by simp only [List.any_cons,List.any_nil,Yk hv0,hv,ax]; cases lv (mdl I S.gs) x <;> cases lv (mdl I S.gs) y <;> rfl,?_⟩
      intro l hl; simp only [List.mem_cons,List.not_mem_nil,or_false] at hl
      rcases hl with rfl | rfl
      ·exact QC s3
      ·exact lx
     ·refine ⟨by simp only [List.any_cons,List.any_nil,Yk hv0,hv,ay]; cases lv (mdl I S.gs) x <;> cases lv (mdl I S.gs) y <;> rfl,?_⟩
      intro l hl; simp only [List.mem_cons,List.not_mem_nil,or_false] at hl
      rcases hl with rfl | rfl
      ·exact QC s3
      ·exact ly
     ·refine ⟨by simp only [List.any_cons,List.any_nil,Yk hx.1,Yk hy.1,hv,ax,ay]; cases lv (mdl I S.gs) x <;> cases lv (mdl I S.gs) y <;> rfl,?_⟩
      intro l hl; simp only [List.mem_cons,List.not_mem_nil,or_false] at hl
      rcases hl with rfl | rfl | rfl
      ·exact s3
      ·exact QC lx
      ·exact QC ly
def sg (x:Int):Int:=if x<0 then -1 else 1
def ab (x:Int):Int:=if x<0 then -x else x
def Qd5 (S:St) (x y:Int):Int × St :=
 if ab x=ab y then (-1 * (sg x * sg y),S) else if ab x=1 then (-ab y * (sg x * sg y),S) else if ab y=1 then (-ab x * (sg x * sg y),S) else
 ((put S (mkG S.gs ⟨2,min (ab x) (ab y),max (ab x) (ab y)⟩) fun v=>[[-v,ab x,ab y],[-v,-ab x,-ab y],[v,-ab x,ab y],[v,ab x,-ab y]]).1 * (sg x * sg y),
  (put S (mkG S.gs ⟨2,min (ab x) (ab y),max (ab x) (ab y)⟩) fun v=>[[-v,ab x,ab y],[-v,-ab x,-ab y],[v,-ab x,ab y],[v,ab x,-ab y]]).2)
theorem QIe (h:lit n x):lit n (ab x):=by unfold ab; split; exact QC h; exact h
theorem lv_ab (M:List Bool) (h:x≠0):lv M x=(lv M (ab x) != decide (x<0)):=by
 unfold ab
 split
 ·rename_i h1; rw [Yk h,decide_eq_true h1]; cases lv M x <;> rfl
 ·rename_i h1; rw [decide_eq_false h1]; cases lv M x <;> rfl
theorem QHY (x y:Int):sg x * sg y=if (decide (x<0) != decide (y<0))=true then -1 else 1:=by
 unfold sg
 by_cases h1:x<0 <;> by_cases h2:y<0 <;> simp [h1,h2]
theorem Qpl (x y:Int) (h:lit n l):lit n (l * (sg x * sg y)):=by
 rw [QHY]
 split
 ·rw [Int.mul_neg,Int.mul_one]; exact QC h
 ·rw [Int.mul_one]; exact h
theorem QzX (M:List Bool) (x y:Int) (h:l≠0):lv M (l * (sg x * sg y))=(lv M l != (decide (x<0) != decide (y<0))):=by
 rw [QHY]
 split
 ·rename_i h1; rw [h1,Int.mul_neg,Int.mul_one,Yk h]; cases lv M l <;> rfl
 ·rename_i h1
  rw [Bool.not_eq_true] at h1
  rw [h1,Int.mul_one]; cases lv M l <;> rfl
theorem Qjs (h:Ok I S) (hx:lit S.gs.length x) (hy:lit S.gs.length y) :
 Goes I 4 1 S (Qd5 S x y).2∧lit (Qd5 S x y).2.gs.length (Qd5 S x y).1∧lv (mdl I (Qd5 S x y).2.gs) (Qd5 S x y).1=(lv (mdl I S.gs) x != lv (mdl I S.gs) y):=by
 have hyes:=h.wf.yes (I:=I)
 have hno:=h.wf.no (I:=I)
 have hax:=QIe hx
 have hay:=QIe hy
 have ex:=lv_ab (mdl I S.gs) hx.1
 have ey:=lv_ab (mdl I S.gs) hy.1
 rw [ex,ey]
 unfold Qd5
 split
 ·rename_i h1
  refine ⟨Goes.refl h 4 1,Qpl x y (QC (YA h.wf)),?_⟩
  rw [QzX _ x y (by omega),hno,h1]
  cases lv (mdl I S.gs) (ab y) <;> cases decide (x<0) <;> cases decide (y<0) <;> rfl
 split
 ·rename_i h1
  refine ⟨Goes.refl h 4 1,Qpl x y (QC hay),?_⟩
  rw [QzX _ x y (by have:=hay.1; omega),Yk hay.1,h1,hyes]
  cases lv (mdl I S.gs) (ab y) <;> cases decide (x<0) <;> cases decide (y<0) <;> rfl
 split
 ·rename_i h1
  refine ⟨Goes.refl h 4 1,Qpl x y (QC hax),?_⟩
  rw [QzX _ x y (by have:=hax.1; omega),Yk hax.1,h1,hyes]
  cases lv (mdl I S.gs) (ab x) <;> cases decide (x<0) <;> cases decide (y<0) <;> rfl
 have hmm:=Qmq hax hay
 obtain ⟨s1,s2,s3,s3',s4,s5,i,s6,s7,s8⟩:=Qkt h.wf (g:=⟨2,min (ab x) (ab y),max (ab x) (ab y)⟩) (by simp) (fun _=>hmm) (fun e=>absurd e (by simp))
 cases hm:mkG S.gs ⟨2,min (ab x) (ab y),max (ab x) (ab y)⟩ with
 | mk v r =>
   obtain ⟨fr,gs⟩:=r
   rw [hm] at s1 s2 s3 s3' s4 s5 s7 s8
   simp only at s1 s2 s3 s3' s4 s5 s7 s8
   have hv:=s1.var (I:=I) s8 s6
   rw [← s7] at hv
   simp only [show ¬ (2:Nat)=0 by omega,show ¬ (2:Nat)=1 by omega,if_false] at hv
   rw [(Qpj _ _ _).2,ZO s2 hax,ZO s2 hay] at hv
   have hv0:v≠0:=by omega
   have hfin:lv (mdl I gs) (v * (sg x * sg y))=((lv (mdl I S.gs) (ab x) != decide (x<0)) != (lv (mdl I S.gs) (ab y) != decide (y<0))):=by
    rw [QzX _ x y hv0,hv]
    cases lv (mdl I S.gs) (ab x) <;> cases lv (mdl I S.gs) (ab y) <;> cases decide (x<0) <;> cases decide (y<0) <;> rfl
   cases fr with
   | false =>
     have:=s5 rfl
     subst this
     exact ⟨⟨h,List.prefix_refl _,Nat.le_add_right _ _,Nat.le_add_right _ _,List.prefix_refl _⟩,Qpl x y s3,hfin⟩
   | true =>
     have ax:=ZO (I:=I) s2 hax
     have ay:=ZO (I:=I) s2 hay
     have lx:=Zu s2 hax
     have ly:=Zu s2 hay
     have hd:Told I gs [[-v,ab x,ab y],[-v,-ab x,-ab y],[v,-ab x,ab y],[v,ab x,-ab y]] S.gs.length:=by
      have e1:=(Qxp (gs:=S.gs) (g:=⟨2,min (ab x) (ab y),max (ab x) (ab y)⟩) (by rw [hm])).1
      rw [hm] at e1
      simp only at e1
      have hi:S.gs.length<(mdl I gs).length:=by rw [Zi]; have:=s3.2.2; omega
      have fv:lv (flip (mdl I gs) S.gs.length) v = !lv (mdl I gs) v:=by rw [e1]; exact Qle hi
      have fx:=QdD hax hi
      have fy:=QdD hay hi
      rw [ax] at fx
      rw [ay] at fy
      cases bx:lv (mdl I S.gs) (ab x) <;> cases by':lv (mdl I S.gs) (ab y)
      ·refine ⟨[-v,ab x,ab y],by simp,fun l hl=>?_,by simp [Yk hv0,fv,fx,fy,hv,bx,by']⟩
       simp only [List.mem_cons,List.not_mem_nil,or_false] at hl
       rcases hl with rfl | rfl | rfl <;> first | exact QC s3 | exact lx | exact ly
      ·refine ⟨[v,ab x,-ab y],by simp,fun l hl=>?_,by simp [Yk hay.1,fv,fx,fy,hv,bx,by']⟩
       simp only [List.mem_cons,List.not_mem_nil,or_false] at hl
       rcases hl with rfl | rfl | rfl <;> first | exact s3 | exact lx | exact QC ly
      ·refine ⟨[v,-ab x,ab y],by simp,fun l hl=>?_,by simp [Yk hax.1,fv,fx,fy,hv,bx,by']⟩
       simp only [List.mem_cons,List.not_mem_nil,or_false] at hl
       rcases hl with rfl | rfl | rfl <;> first | exact s3 | exact QC lx | exact ly
      ·refine ⟨[-v,-ab x,-ab y],by simp,fun l hl=>?_,by simp [Yk hv0,Yk hax.1,Yk hay.1,fv,fx,fy,hv,bx,by']⟩
       simp only [List.mem_cons,List.not_mem_nil,or_false] at hl
       rcases hl with rfl | rfl | rfl <;> first | exact QC s3 | exact QC lx | exact QC ly
     refine ⟨Qkw h s1 s2 s4 _ (by simp) (fun c hc=>?_) (fun c hc=>by simp only [List.mem_cons,List.not_mem_nil,or_false] at hc; rcases hc with rfl | rfl | rfl | rfl <;> simp) (fun _ _ _=>hd),Qpl x y s3,hfin⟩
     simp only [List.mem_cons,List.not_mem_nil,or_false] at hc
     rcases hc with rfl | rfl | rfl | rfl <;>
     ·refine ⟨by simp only [List.any_cons,List.any_nil,Yk hv0,Yk hax.1,Yk hay.1,hv,ax,ay]; cases lv (mdl I S.gs) (ab x) <;> cases lv (mdl I S.gs) (ab y) <;> rfl,?_⟩
      intro l hl; simp only [List.mem_cons,List.not_mem_nil,or_false] at hl
      rcases hl with rfl | rfl | rfl <;> first | exact s3 | exact QC s3 | exact lx | exact ly | exact QC lx | exact QC ly
def orS (S:St) (x y:Int):Int × St:=(-(Qd3 S (-x) (-y)).1,(Qd3 S (-x) (-y)).2)
theorem Qw3 (h:Ok I S) (hx:lit S.gs.length x) (hy:lit S.gs.length y) :
 Goes I 3 1 S (orS S x y).2∧lit (orS S x y).2.gs.length (orS S x y).1∧lv (mdl I (orS S x y).2.gs) (orS S x y).1=(lv (mdl I S.gs) x || lv (mdl I S.gs) y):=by
 obtain ⟨h1,h2,h3⟩:=Qdp h (QC hx) (QC hy)
 refine ⟨h1,QC h2,?_⟩
 unfold orS
 simp only
 rw [Yk h2.1,h3,Yk hx.1,Yk hy.1]
 cases lv (mdl I S.gs) x <;> cases lv (mdl I S.gs) y <;> rfl
def QcM (S:St) (c x y:Int):Int × St :=
 let a:=Qd3 S c x
 let b:=Qd3 a.2 (-c) y
 orS b.2 a.1 b.1
theorem Qw0 (h:Ok I S) {c:Int} (hc:lit S.gs.length c) (hx:lit S.gs.length x) (hy:lit S.gs.length y) :
 Goes I 9 3 S (QcM S c x y).2∧lit (QcM S c x y).2.gs.length (QcM S c x y).1∧lv (mdl I (QcM S c x y).2.gs) (QcM S c x y).1=if lv (mdl I S.gs) c=true then lv (mdl I S.gs) x else lv (mdl I S.gs) y:=by
 obtain ⟨a1,a2,a3⟩:=Qdp h hc hx
 obtain ⟨b1,b2,b3⟩:=Qdp a1.ok (QC (a1.lit hc)) (a1.lit hy)
 obtain ⟨c1,c2,c3⟩:=Qw3 b1.ok (b1.lit a2) b2
 refine ⟨((a1.trans b1).trans c1).more (by omega) (by omega),c2,?_⟩
 unfold QcM
 simp only
 rw [c3,b3,b1.lv a2,a3,Yk hc.1,a1.lv hy,a1.lv hc]
 cases lv (mdl I S.gs) c <;> cases lv (mdl I S.gs) x <;> cases lv (mdl I S.gs) y <;> rfl
end Go.Bl
namespace Go.Proofs.YtoeicjlflmmmcaaGreatDoor
open Go Go.Am Go.Bl
set_option maxRecDepth 100000
variable {P:Program} {G:Nat→Option V}
section
attribute [local go_sem] nFq nT cA lA lC lM lN nA lR Nat.mul_one zA Option.getD_none Option.getD_some Option.isSome_none Option.isSome_some and_true Za zqp_0 zqp_1 zqp_2 YU QC6 QC5 QC4 QC3 QC2 QC1 QC0 QCZ decide_false false_implies ge_iff_le Q3 true_and true_implies
def Gtc (g:Gt):List V:=[.int .u8 g.k,.int .i64 g.a,.int .i64 g.b]
def bEs:Nat→List Gt→List (V × V)
 | _,[]=>[]
 | i,g::l=>(.agg (Gtc g),.int .i64 ((i:Nat):Int))::bEs (i+1) l
abbrev k3:List Kd:=[.i,.i,.i]
theorem Qte (d e:Gt):Qdc k3 (.agg (Gtc d)) (.agg (Gtc e))=decide (d=e):=by
 cases d; cases e
 simp [Qdc,Gtc,V.cells,Qbo,QnM]
 grind
theorem Qyu (d e:Gt):(Qbo k3 (V.agg (Gtc d)).cells (V.agg (Gtc e)).cells).isSome=true:=by
 simp [Gtc,V.cells,Qbo,QnM]
theorem QyC:∀ (k:Nat) (l:List Gt) (p:V × V),p∈bEs k l→∃ d,p.1=.agg (Gtc d)
 | _,[],p,h=>by simp [bEs] at h
 | k,d::l,p,h=>by
   simp only [bEs,List.mem_cons] at h
   rcases h with h | h
   ·exact ⟨d,by rw [h]⟩
   ·exact QyC (k+1) l p h
theorem Qua (d:Gt) (k:Nat) (l:List Gt):Qcd true k3 (.agg (Gtc d)) (bEs k l):=by
 refine ⟨⟨rfl,Qyu d d⟩,fun p hp=>?_⟩
 obtain ⟨e,he⟩:=QyC k l p hp
 rw [he]
 exact ⟨rfl,Qyu d e⟩
theorem Qs7 (d:Gt):∀ (k:Nat) (l:List Gt),Qku k3 (.agg (Gtc d)) (bEs k l)=if d∈l then some (V.int .i64 ((k+l.idxOf d:Nat):Int)) else none
 | k,[]=>by simp [bEs,Qku]
 | k,e::l=>by
   have ih:=Qs7 d (k+1) l
   unfold Qku at ih ⊢
   simp only [bEs,List.find?_cons,Qte]
   by_cases h:d=e
   ·subst h; simp
   ·have h':¬ e=d:=fun x=>h x.symm
    simp only [h,decide_false]
    rw [ih]
    by_cases hm:d∈l
    ·have hb:(e==d)=false:=beq_eq_false_iff_ne.2 h'
     simp [hm,List.idxOf_cons,hb]; omega
    ·simp [hm,h]
theorem QmF:∀ (k:Nat) (l:List Gt) (d:Gt),bEs k (l++[d])=bEs k l++[(.agg (Gtc d),.int .i64 ((k+l.length:Nat):Int))]
 | k,[],d=>by simp [bEs]
 | k,e::l,d=>by simp [bEs,QmF (k+1) l d]; omega
theorem Qs6 (x:V) (d:Gt):∀ (k:Nat) (l:List Gt),d ∉ l→Qna k3 (.agg (Gtc d)) x (bEs k l)=bEs k l++[(.agg (Gtc d),x)]
 | k,[],_=>rfl
 | k,e::l,h=>by
   simp only [List.mem_cons,not_or] at h
   simp [bEs,Qna,Qte,Qs6 x d (k+1) l h.2,h.1]
def byE (gs:List Gt):List (V × V):=bEs 2 gs.tail
theorem QzS (gs:List Gt) (g:Gt):Qku k3 (.agg (Gtc g)) (byE gs)=(ix gs g).map fun (i:Nat)=>V.int .i64 ((i:Int)+1):=by
 unfold byE ix
 rw [Qs7]
 split
 ·simp; omega
 ·rfl
theorem QzO {gs:List Gt} {g:Gt} (h:ix gs g=none) (hp:1≤gs.length) (x:V) (hx:x=.int .i64 ((gs.length:Int)+1)):Qna k3 (.agg (Gtc g)) x (byE gs)=byE (gs++[g]):=by
 have hn:g ∉ gs.tail:=by
  unfold ix at h
  split at h
  ·cases h
  ·assumption
 obtain ⟨g0,r,rfl⟩:∃ g0 r,gs=g0::r:=by
  cases gs with
  | nil=>simp at hp
  | cons a b=>exact ⟨a,b,rfl⟩
 unfold byE
 simp only [cA,List.tail_cons] at *
 rw [QmF,Qs6 x g 2 r hn,hx]
 simp only [lC]
 congr 4
 omega
def gC (gs:List Gt):List V:=(gs.map Gtc).flatten
theorem QxS (gs:List Gt):(gC gs).length=gs.length * 3:=by
 induction gs with
 | nil=>rfl
 | cons d l ih=>simp [gC] at ih ⊢; simp [Gtc]; omega
theorem gC_app (gs:List Gt) (g:Gt):gC (gs++[g])=gC gs++Gtc g:=by simp [gC]
def trw (l:List Int):V:=.lst 1 (l.map (V.int .i64)) true
def kEn (K:List (Int × List Int)):List (V × V):=K.map fun p=>(.int .i64 p.1,.agg (p.2.map (V.int .i64)))
structure Bv where
 (g c e:Nat)
structure Ev where
 v:Nat
 l:List Int
structure Gr where
 fmt:Int→List UInt8
 (v0 v1 v2 v3 v4 m k b n:Nat)
 L:List Nd
def Gr.o (g:Gr):List (Option Ob):=kG g.fmt g.v0 g.v1 g.v2 g.v3 g.v4 g.L
def bS (g:Gr) (B:Bv) (e ng nc ne:Nat):Option Ob :=
 some (.arr g.b 76 [.ptr 1 g.v0 0,.sl 8 B.g 0 3 ng none,.mp 5 g.m,.sl 9 B.c 0 1 nc none,.mp 6 g.k,.sl 10 e 0 1 ne none,.sl 11 g.n 0 1 0 none,.bool false])
def bO (g:Gr) (B:Bv) (S:St) (K:List (Int × List Int)) (E:Ev):List (Option Ob) :=
 [some (.map g.m (byE S.gs)),some (.map g.k (kEn K)),bS g B E.v S.gs.length S.cs.length E.l.length,some (.arr B.g 78 (gC S.gs)),some (.arr B.c 42 (S.cs.map trw)),some (.arr E.v 37 (E.l.map (V.int .i64))),some (.arr g.n 42 [])]
def bH (g:Gr) (B:Bv) (S:St) (K:List (Int × List Int)) (E:Ev):List (Option Ob):=g.o++bO g B S K E
variable {x0 x1 x2 x3 x4 x5 y:Option Ob} {g:Gr}
theorem o_5 {ex:List (Option Ob)}:(g.o++x0::ex)[5]?=some x0:=rfl
theorem o_7 {ex:List (Option Ob)}:(g.o++x0::x1::x2::ex)[7]?=some x2:=rfl
theorem o_8 {ex:List (Option Ob)}:(g.o++x0::x1::x2::x3::ex)[8]?=some x3:=rfl
theorem o_9 {ex:List (Option Ob)}:(g.o++x0::x1::x2::x3::x4::ex)[9]?=some x4:=rfl
theorem o_10 {ex:List (Option Ob)}:(g.o++x0::x1::x2::x3::x4::x5::ex)[10]?=some x5:=rfl
theorem o_12 {x6 x7:Option Ob} {ex:List (Option Ob)}:(g.o++x0::x1::x2::x3::x4::x5::x6::x7::ex)[12]?=some x7:=rfl
theorem s_5 {ex:List (Option Ob)}:(g.o++x0::ex).set 5 y=g.o++y::ex:=rfl
theorem s_7 {ex:List (Option Ob)}:(g.o++x0::x1::x2::ex).set 7 y=g.o++x0::x1::y::ex:=rfl
theorem s_8 {ex:List (Option Ob)}:(g.o++x0::x1::x2::x3::ex).set 8 y=g.o++x0::x1::x2::y::ex:=rfl
theorem s_9 {ex:List (Option Ob)}:(g.o++x0::x1::x2::x3::x4::ex).set 9 y=g.o++x0::x1::x2::x3::y::ex:=rfl
theorem s_10 {ex:List (Option Ob)}:(g.o++x0::x1::x2::x3::x4::x5::ex).set 10 y=g.o++x0::x1::x2::x3::x4::y::ex:=rfl
theorem o_l0:g.o.length=5:=rfl
theorem QKY {ex y:List (Option Ob)}:(g.o++ex)++y=g.o++(ex++y):=by simp
variable {t:Nat} {E:Ev} {K:List (Int × List Int)} {S:St} {B:Bv}
theorem QrU (hT:Qe P tab) (l:List Int) (h:S.cs.length<1048576) :
 C P G 5 Qat [.ptr 7 g.b 0,trw l] ⟨t,bH g B S K E⟩ fun v σ=>v=.tup []∧∃ t' B',t≤t'∧σ=⟨t',bH g B' ⟨S.gs,S.cs++[l]⟩ K E⟩:=by
 have hlt:¬ (1048576:Int)≤(S.cs.length:Int):=by omega
 refine Qj 12 (by decide) (Qo hT Qk (by simp [Za]) (Qm 1000 ?_))
 simp -implicitDefEqProofs (disch:=omega) only [go_sem,↓reduceIte,reduceCtorEq,rA,rq,rL,bH,bO,bS,o_7,o_9,o_l0,s_7,s_9,trw,hlt]
 refine ⟨t+1,⟨B.g,t,B.e⟩,by omega,rfl,?_⟩
 rw [List.map_append]
 rfl
theorem QmA (hT:Qe P tab) (x:Gt) (hp:1≤S.gs.length) (h:S.gs.length<10000000) :
 C P G 5 Qaa [.ptr 7 g.b 0,.agg (Gtc x)] ⟨t,bH g B S K E⟩ fun v σ=>v=.tup [.int .i64 (mkG S.gs x).1,.bool (mkG S.gs x).2.1]∧∃ t' B',t≤t'∧σ=⟨t',bH g B' ⟨(mkG S.gs x).2.2,S.cs⟩ K E⟩:=by
 have hkm:=QzS S.gs x
 have hkk:Qcd true k3 (.agg (Gtc x)) (byE S.gs):=Qua x 2 S.gs.tail
 have hput:=fun hn=>QzO (gs:=S.gs) (g:=x) hn hp (.int .i64 ((S.gs.length:Int)+1)) rfl
 simp only [Gtc] at hkm hkk hput ⊢
 refine Qj 12 (by decide) (Qo hT Xm (by simp [YU]) (Qm 1000 ?_))
 cases hx:ix S.gs x with
 | some i =>
   have e:mkG S.gs x=((i:Int)+1,false,S.gs):=by unfold mkG; rw [hx]
   rw [hx] at hkm
   simp -implicitDefEqProofs (disch:=omega) only [go_sem,↓reduceIte,reduceCtorEq,rA,rq,rL,rT,bH,bO,bS,o_5,o_7,o_12,o_l0,QKY,hkm,hkk,e]
   exact ⟨t+1,B,by omega,rfl,rfl⟩
 | none =>
   have e:mkG S.gs x=((S.gs.length:Int)+1,true,S.gs++[x]):=by unfold mkG; rw [hx]
   have hput:=hput hx
   rw [hx] at hkm
   have hc:((S.gs.length+1:Nat):Int)=(S.gs.length:Int)+1:=by omega
   simp -implicitDefEqProofs (disch:=omega) only [go_sem,↓reduceIte,reduceCtorEq,rA,rq,rL,rT,bH,bO,bS,o_5,o_7,o_8,o_12,o_l0,s_5,s_7,s_8,QKY,hkm,hkk,e,hc,hput,QxS]
   refine ⟨t+1+1,⟨t+1,B.c,B.e⟩,by omega,rfl,?_⟩
   rw [gC_app]
   rfl
end
section
attribute [local go_sem] cA lC lN List.map_cons List.map_nil nA lR zA and_true beq_self_eq_true Y9 QDx QDw Qvp Qvo Qvn QDv QDu QDt QDs QDr QDq QDp QDo false_implies gt_iff_lt not_false_eq_true true_and true_implies
def sm (x:Int):Prop:=-100000000≤x∧x≤100000000
variable {x y:Int}
theorem wng (h:sm x):IntKind.i64.wrap (0 - x)=-x:=by
 unfold sm at h
 rw [wrap_i64 (by omega) (by omega)]; omega
variable {E:Ev} {K:List (Int × List Int)} {S:St} {B:Bv} {g:Gr}
theorem Q8:(bH g B S K E).length=12:=rfl
theorem Qau:List.take 12 (bH g B S K E)=bH g B S K E:=rfl
theorem Qpu:(if y<x then y else x)=min x y:=by
 rcases Int.lt_or_le y x with h | h
 ·rw [if_pos h,Int.min_eq_right (by omega)]
 ·rw [if_neg (by omega),Int.min_eq_left h]
theorem Qpv:(if x<y then y else x)=max x y:=by
 rcases Int.lt_or_le x y with h | h
 ·rw [if_pos h,Int.max_eq_right (by omega)]
 ·rw [if_neg (by omega),Int.max_eq_left h]
theorem Qpc (gs:List Gt) (g:Gt):1≤(mkG gs g).1∧(mkG gs g).1≤gs.length+1∧gs.length≤(mkG gs g).2.2.length∧(mkG gs g).2.2.length≤gs.length+1:=by
 unfold mkG
 cases hx:ix gs g with
 | some i =>
   have:=(List.getElem?_eq_some_iff.1 (QxG hx).1).1
   simp only
   omega
 | none=>simp only [lA,List.length_singleton]; omega
theorem c_and (hT:Qe P tab) {t:Nat} (hp:1≤S.gs.length) (hg:S.gs.length<10000000) (hc:S.cs.length+3≤1048576) (hx:sm x) (hy:sm y) :
 C P G 5 Zg [.ptr 7 g.b 0,.int .i64 x,.int .i64 y] ⟨t,bH g B S K E⟩ fun v σ=>v=.int .i64 (Qd3 S x y).1∧∃ t' B',t≤t'∧σ=⟨t',bH g B' (Qd3 S x y).2 K E⟩:=by
 have nx:=wng hx
 have ny:=wng hy
 have done0:∃ t' B',t≤t'∧t=t'∧bH g B S K E=bH g B' S K E:=⟨t,B,lR _,rfl,rfl⟩
 refine Qj 12 (by decide) (Qo hT Xb (by simp [Y9]) (Qm 1000 ?_))
 by_cases h1:x=-1∨y=-1∨x=-y
 ·have e:Qd3 S x y=(-1,S):=if_pos h1
  rw [e]
  by_cases a1:x=-1
  ·simp -implicitDefEqProofs (disch:=omega) only [go_sem,↓reduceIte,reduceCtorEq,rA,rq,Q8,Qau,a1]
   exact done0
  by_cases a2:y=-1
  ·simp -implicitDefEqProofs (disch:=omega) only [go_sem,↓reduceIte,reduceCtorEq,rA,rq,Q8,Qau,a1,a2]
   exact done0
  have a3:x=-y:=by omega
  have d3:decide (x=-y)=true:=decide_eq_true a3
  simp -implicitDefEqProofs (disch:=omega) only [go_sem,↓reduceIte,reduceCtorEq,rA,rq,rL,Q8,Qau,a1,a2,ny]
  exact ⟨fun _=>done0,fun h=>absurd a3 h⟩
 have a1:¬ x=-1:=by omega
 have a2:¬ y=-1:=by omega
 have a3:¬ x=-y:=by omega
 by_cases h2:x=1∨x=y
 ·have e:Qd3 S x y=(y,S):=by unfold Qd3; rw [if_neg h1,if_pos h2]
  rw [e]
  by_cases b1:x=1
  ·have d:decide (1=-y)=false:=decide_eq_false (by omega)
   have d2:¬ 1=-y:=by omega
   simp -implicitDefEqProofs (disch:=omega) only [go_sem,↓reduceIte,reduceCtorEq,rA,rq,Q8,Qau,a2,ny,b1,d2]
   exact done0
  have b2:x=y:=by omega
  have d2:decide (x=y)=true:=decide_eq_true b2
  simp -implicitDefEqProofs (disch:=omega) only [go_sem,↓reduceIte,reduceCtorEq,rA,rq,rL,Q8,Qau,a1,a2,a3,ny,b1]
  exact ⟨fun _=>done0,fun h=>absurd b2 h⟩
 have b1:¬ x=1:=by omega
 have b2:¬ x=y:=by omega
 by_cases h3:y=1
 ·have e:Qd3 S x y=(x,S):=by unfold Qd3; rw [if_neg h1,if_neg h2,if_pos h3]
  rw [e]
  subst h3
  simp -implicitDefEqProofs (disch:=omega) only [go_sem,↓reduceIte,reduceCtorEq,rA,rq,Q8,Qau,a1,a2,ny,b1]
  exact done0
 have hM:=fun t=>QmA (P:=P) (G:=G) (B:=B) (K:=K) (E:=E) (t:=t) hT (g:=g) (S:=S) ⟨1,min x y,max x y⟩ hp hg
 simp only [Gtc] at hM
 simp -implicitDefEqProofs (disch:=omega) only [go_sem,↓reduceIte,reduceCtorEq,rA,rq,rL,Q8,Qau,a1,a2,a3,ny,b1,b2,h3]
 rw [Qpu,Qpv]
 refine call hT Xm (hM t) 1000 fun v σ hv=>?_
 obtain ⟨rfl,t1,B1,ht1,rfl⟩:=hv
 obtain ⟨m1,m2,m3,m4⟩:=Qpc S.gs ⟨1,min x y,max x y⟩
 have e:Qd3 S x y=put S (mkG S.gs ⟨1,min x y,max x y⟩) fun v=>[[-v,x],[-v,y],[v,-x,-y]]:=by unfold Qd3; rw [if_neg h1,if_neg h2,if_neg h3]
 rw [e]
 generalize mkG S.gs ⟨1,min x y,max x y⟩=q at m1 m2 m3 m4 ⊢
 obtain ⟨v,fr,gs⟩:=q
 simp only at m1 m2 m3 m4
 have nv:=wng (x:=v) (by unfold sm; omega)
 cases fr with
 | false =>
   simp -implicitDefEqProofs (disch:=omega) only [go_sem,↓reduceIte,reduceCtorEq,rA,rq,rT,Q8,Qau,put,Bool.false_eq_true]
   exact ⟨t1,B1,ht1,rfl,rfl⟩
 | true =>
   have hA:=fun t B (cs:List (List Int)) l (h:cs.length<1048576)=>QrU (P:=P) (G:=G) (g:=g) (B:=B) (K:=K) (E:=E) (t:=t) (S:=⟨gs,cs⟩) hT l h
   have hA1:=fun t B=>hA t B S.cs [-v,x] (by omega)
   have hA2:=fun t B=>hA t B (S.cs++[[-v,x]]) [-v,y] (by simp; omega)
   have hA3:=fun t B=>hA t B (S.cs++[[-v,x]]++[[-v,y]]) [v,-x,-y] (by simp; omega)
   simp only [trw,List.map_cons,List.map_nil] at hA1 hA2 hA3
   simp -implicitDefEqProofs (disch:=omega) only [go_sem,↓reduceIte,reduceCtorEq,rA,rq,rL,rT,nv]
   refine call hT Qk (hA1 _ _) 1000 fun v2 σ hv=>?_
   obtain ⟨rfl,t2,B2,ht2,rfl⟩:=hv
   simp -implicitDefEqProofs (disch:=omega) only [go_sem,↓reduceIte,reduceCtorEq,rA,rq,rL,nv]
   refine call hT Qk (hA2 _ _) 1000 fun v2 σ hv=>?_
   obtain ⟨rfl,t3,B3,ht3,rfl⟩:=hv
   simp -implicitDefEqProofs (disch:=omega) only [go_sem,↓reduceIte,reduceCtorEq,rA,rq,rL,nx,ny]
   refine call hT Qk (hA3 _ _) 1000 fun v2 σ hv=>?_
   obtain ⟨rfl,t4,B4,ht4,rfl⟩:=hv
   simp -implicitDefEqProofs (disch:=omega) only [go_sem,↓reduceIte,reduceCtorEq,rq,Q8,Qau,put,aA]
   exact ⟨t4,B4,by omega,rfl,rfl⟩
end
end Go.Proofs.YtoeicjlflmmmcaaGreatDoor
