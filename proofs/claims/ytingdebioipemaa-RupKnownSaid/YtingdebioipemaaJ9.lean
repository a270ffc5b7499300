/- The solver's invariant: clauses, visits, what is looked at. -/
import Derived.Test.YtingdebioipemaaJ8
import Derived.Test.YtingdebioipemaaJ2
import Derived.Test.YtingdebioipemaaAmD
open Nat renaming reduceEqDiff → rq, reduceAdd → rA, reduceLeDiff → rL, reduceLT → rTq, zero_add → zA, le_refl → lR, zero_le → zL, add_zero → aZ
open List renaming length_cons → lC, length_nil → lN, take_succ_cons → tS, length_append → lA, nil_append → nA, cons_append → cA, append_assoc → aA, take_nil → tN, take_zero → tZ, length_map → lM
open Bool renaming not_false → nF, not_true → nT
namespace Go.Sat
open Go Go.Cl
variable {cl:List (List Int)} {s s':S} {N i j n k m b level:Nat}
theorem Inv.rewat (h:Inv N s) {wt:Int→List Nat} (hc:∀ c∈cl,2≤c.length∧Okc N c) (hw:∀ l,(wt l).Nodup∧∀ m,m∈wt l↔Wat cl m l)
 (hr:∀ (r:Nat) (c:List Int),s.cl[r]?=some c→∃ d,cl[r]?=some d∧∀ x,x∈d↔x∈c):Inv N { s with cl:=cl,wt:=wt }:=by
 refine ⟨h.nva,h.nlv,h.nre,h.nhe,hc,hw,h.tro,h.val,h.lev,h.mks,fun i l hl h0 h1=>?_,h.dnl,h.dnm⟩
 obtain ⟨r,c,g1,g2,g3,g4⟩:=h.rea i l hl h0 h1
 obtain ⟨d,k1,k2⟩:=hr r c g2
 exact ⟨r,d,g1,k1,(k2 l).2 g3,fun x hx hxl=>g4 x ((k2 x).1 hx) hxl⟩
theorem Qak (c:List Int) (i j:Nat):(swap c i j).length=c.length:=by simp [swap]
theorem ZJ (c:List Int) (hi:i<c.length) (hj:j<c.length) (k:Nat):(swap c i j)[k]?=if k=j then c[i]? else if k=i then c[j]? else c[k]?:=by
 unfold swap
 simp only [List.getElem?_set,List.length_set,List.getD_eq_getElem?_getD]
 by_cases h1:j=k
 ·subst h1
  simp [hj,hi]
 ·rw [if_neg h1,if_neg (Ne.symm h1)]
  by_cases h2:i=k
  ·subst h2
   simp [hi,hj]
  ·rw [if_neg h2,if_neg (Ne.symm h2)]
theorem Qc7 (c:List Int) (hi:i<c.length) (hj:j<c.length):(swap c i j).Perm c:=by
 rw [List.perm_iff_count]
 intro a
 unfold swap
 have e1:c.getD i 0=c[i]:=by simp [List.getD_eq_getElem?_getD,hi]
 have e2:c.getD j 0=c[j]:=by simp [List.getD_eq_getElem?_getD,hj]
 rw [e1,e2,List.count_set (by simpa using hj),List.count_set hi]
 simp only [List.getElem_set,beq_iff_eq]
 by_cases hij:i=j
 ·subst hij
  simp
  split <;> (have:=List.count_pos_iff.2 (List.getElem_mem hi); simp_all) <;> omega
 ·simp only [if_neg hij]
  have p1:c[i]=a→0<c.count a:=fun h=>List.count_pos_iff.2 (h▸List.getElem_mem hi)
  have p2:c[j]=a→0<c.count a:=fun h=>List.count_pos_iff.2 (h▸List.getElem_mem hj)
  by_cases h1:c[i]=a <;> by_cases h2:c[j]=a <;> simp [h1,h2] <;> first | (have:=p1 h1; omega) | (have:=p2 h2; omega) | skip
variable {c d:List Int}
theorem Okc.perm (h:Okc N c) (p:d.Perm c):Okc N d:=⟨fun l hl=>h.1 l (p.mem_iff.1 hl),(p.map _).nodup_iff.2 h.2⟩
theorem QwF (h:2≤c.length∧Okc N c) (hi:i<c.length) (hj:j<c.length):2≤(swap c i j).length∧Okc N (swap c i j) :=
 ⟨by rw [Qak]; exact h.1,h.2.perm (Qc7 c hi hj)⟩
theorem getD_some {α:Type} {l:List α} {a d:α} (h:l[i]?=some a):l.getD i d=a:=by simp [List.getD_eq_getElem?_getD,h]
theorem Xt {α:Type} {l:List α} {d:α} (h:i<l.length):l[i]?=some (l.getD i d):=by simp [List.getD_eq_getElem?_getD,h]
theorem Qle (h:∀ c∈cl,2≤c.length∧Okc N c) (hd:2≤d.length∧Okc N d):∀ c∈cl.set n d,2≤c.length∧Okc N c:=fun c hc=>by
 rcases List.mem_or_eq_of_mem_set hc with hc | rfl
 ·exact h c hc
 ·exact hd
theorem Qlc (hc:cl[n]?=some c) (hd:∀ x,x∈d↔x∈c):∀ (r:Nat) (c:List Int),cl[r]?=some c→∃ d',(cl.set n d)[r]?=some d'∧∀ x,x∈d'↔x∈c:=fun r c' hr=>by
 rw [List.getElem?_set]
 by_cases e:n=r
 ·subst e
  rw [hc] at hr; cases hr
  exact ⟨d,by rw [if_pos rfl,if_pos (List.getElem?_eq_some_iff.1 hc).1],hd⟩
 ·exact ⟨c',by rw [if_neg e]; exact hr,fun _=>Iff.rfl⟩
theorem QiN (hc:cl[n]?=some c) (m:Nat) (l:Int):Wat (cl.set n d) m l↔if m=n then (d[0]?=some l∨d[1]?=some l) else Wat cl m l:=by
 unfold Wat
 rw [List.getElem?_set]
 by_cases e:m=n
 ·subst e
  rw [if_pos rfl,if_pos rfl,if_pos (List.getElem?_eq_some_iff.1 hc).1]
  exact ⟨fun ⟨x,e,h⟩=>by cases e; exact h,fun h=>⟨d,rfl,h⟩⟩
 ·rw [if_neg (Ne.symm e),if_neg e]
theorem Qpj (hc:cl[n]?=some c) (l:Int):Wat cl n l↔(c[0]?=some l∨c[1]?=some l) :=
 ⟨fun ⟨x,e,h⟩=>by rw [hc] at e; cases e; exact h,fun h=>⟨c,hc,h⟩⟩
theorem Qnb (h:2≤c.length) (l:Int):((swap c 0 1)[0]?=some l∨(swap c 0 1)[1]?=some l)↔(c[0]?=some l∨c[1]?=some l):=by
 rw [ZJ c (by omega) (by omega),ZJ c (by omega) (by omega)]
 simp only [Nat.zero_ne_one,if_false,if_true,Nat.one_ne_zero]
 exact Or.comm
theorem QjD (h:2≤c.length) (l:Int):(turn c l).Perm c:=by
 unfold turn; split
 ·exact Qc7 c (by omega) (by omega)
 ·exact .refl _
theorem Qrt (h:2≤c.length) (l x:Int):((turn c l)[0]?=some x∨(turn c l)[1]?=some x)↔(c[0]?=some x∨c[1]?=some x):=by
 unfold turn; split
 ·exact Qnb h x
 ·exact Iff.rfl
variable {l x y:Int}
theorem Qmp (h:2≤c.length) (hl:c[0]?=some l∨c[1]?=some l):(turn c l)[1]?=some l:=by
 unfold turn; split
 ·rename_i e
  rw [ZJ c (by omega) (by omega),if_pos rfl,Xt (d:=0) (by omega:0<c.length),e]
 ·rename_i e
  rcases hl with hl | hl
  ·exact absurd (getD_some hl) e
  ·exact hl
theorem Qho (h:s.find c k=some i):k≤i∧i<c.length∧s.is (c.getD i 0)≠-1∧∀ j,k≤j→j<i→s.is (c.getD j 0)=-1:=by
 unfold S.find at h
 rw [Option.map_eq_some_iff] at h
 obtain ⟨j,hj,rfl⟩:=h
 rw [List.findIdx?_eq_some_iff_getElem] at hj
 obtain ⟨h1,h2,h3⟩:=hj
 have hlen:k+j<c.length:=by simp at h1; omega
 refine ⟨by omega,hlen,?_,fun i hi hi'=>?_⟩
 ·simpa [List.getD_eq_getElem?_getD,hlen] using h2
 ·have:=h3 (i - k) (by omega)
  have hil:i<c.length:=by omega
  have e:k+(i - k)=i:=by omega
  simpa [List.getD_eq_getElem?_getD,hil,e] using this
theorem Qhp (h:s.find c k=none):∀ (j:Nat) (x:Int),k≤j→c[j]?=some x→s.is x=-1:=by
 unfold S.find at h
 rw [Option.map_eq_none_iff,List.findIdx?_eq_none_iff] at h
 intro j x hj hx
 have:x∈c.drop k:=by
  rw [List.mem_iff_getElem?]
  exact ⟨j - k,by rw [List.getElem?_drop,Nat.add_sub_cancel' hj]; exact hx⟩
 simpa using h x this
theorem QbY (h:c.Nodup) (hi:c[i]?=some x) (hj:c[j]?=some x):i=j:=by
 have a:=List.getElem?_eq_some_iff.1 hi
 have b:=List.getElem?_eq_some_iff.1 hj
 obtain ⟨a1,a2⟩:=a
 obtain ⟨b1,b2⟩:=b
 rcases Nat.lt_trichotomy i j with hlt | he | hlt
 ·exact absurd (a2.trans b2.symm) (List.pairwise_iff_getElem.1 h i j a1 b1 hlt)
 ·exact he
 ·exact absurd (b2.trans a2.symm) (List.pairwise_iff_getElem.1 h j i b1 a1 hlt)
def VisOk (N:Nat) (s:S) (l:Int) (kept:List Nat) (n:Nat) (rest:List Nat):Vis→Prop
 | .out=>True
 | .kept s'=>Inv N (s'.sub l (kept++[n]++rest))∧Ext s s'
 | .moved s'=>Inv N (s'.sub l (kept++rest))∧Ext s s'
 | .bad s'=>Inv N (s'.sub l (kept++n::rest))∧Ext s s'∧∃ c,s'.cl[n]?=some c∧l∈c∧∀ x∈c,-x∈s'.tr
theorem Qem (s:S) (l:Int) (x:List Nat) (y:Int):(s.sub l x).wt y=if y=l then x else s.wt y:=rfl
theorem QjC {kept rest:List Nat} (h:Inv N (s.sub l (kept++n::rest))) (hl:-l∈s.tr):VisOk N s l kept n rest (s.visit n l):=by
 have hw:=h.wat
 obtain ⟨c,hc,htwo⟩:=((hw l).2 n).1 (by rw [Qem,if_pos rfl]; simp)
 replace hc:s.cl[n]?=some c:=hc
 have hcok:=h.cls c (List.mem_of_getElem? hc)
 have hcD:s.cl.getD n []=c:=getD_some hc
 generalize hd:turn c l=d
 have hper:d.Perm c:=hd▸QjD hcok.1 l
 have hdok:2≤d.length∧Okc N d:=⟨by rw [hper.length_eq]; exact hcok.1,hcok.2.perm hper⟩
 have hd1:d[1]?=some l:=hd▸Qmp hcok.1 htwo
 have hdtwo:∀ x,(d[0]?=some x∨d[1]?=some x)↔(c[0]?=some x∨c[1]?=some x):=fun x=>hd▸Qrt hcok.1 l x
 have hd0:d[0]?=some (d.getD 0 0):=Xt (by omega)
 have hnl:n<s.cl.length:=(List.getElem?_eq_some_iff.1 hc).1
 have hdn:=hdok.2.nodup
 have h1:Inv N ((s.put n d).sub l (kept++n::rest)):=by
  refine h.rewat (cl:=s.cl.set n d) (wt:=(s.sub l (kept++n::rest)).wt) (Qle h.cls hdok) (fun x=>⟨(hw x).1,fun m=>?_⟩) (Qlc hc fun x=>hper.mem_iff)
  rw [(hw x).2 m,QiN hc]
  split
  ·rename_i e; subst e
   rw [hdtwo]; exact Qpj hc x
  ·exact Iff.rfl
 have hval:∀ x,s.is x=-1↔-x∈s.tr:=fun x=>h.is_neg (l:=x)
 have hone:∀ x,s.is x=1↔x∈s.tr:=fun x=>h.is_one (l:=x)
 unfold S.visit
 rw [hcD,hd]
 unfold S.visD
 have hext:Ext s (s.put n d):=⟨rfl,rfl,rfl,by simp [S.put],⟨[],by simp [S.put]⟩,rfl,lR _,rfl⟩
 split
 ·refine ⟨?_,hext⟩
  rw [aA]; exact h1
 rename_i g1
 replace g1:¬ s.is (d.getD 0 0)=1:=g1
 split
 ·rename_i k hk
  obtain ⟨k1,k2,k3,_⟩:=Qho hk
  generalize hx:d.getD k 0=x at *
  have hdk:d[k]?=some x:=hx▸Xt k2
  have hxl:x≠l:=fun e=>by have:=QbY hdn (e▸hdk) hd1; omega
  have hx0:x≠d.getD 0 0:=fun e=>by have:=QbY hdn (e▸hdk) hd0; omega
  have hl0:l≠d.getD 0 0:=fun e=>by have:=QbY hdn hd1 (e▸hd0); omega
  have hs0:(swap d 1 k)[0]?=some (d.getD 0 0):=by rw [ZJ d (by omega) k2,if_neg (by omega),if_neg (by omega)]; exact hd0
  have hs1:(swap d 1 k)[1]?=some x:=by rw [ZJ d (by omega) k2,if_neg (by omega),if_pos rfl]; exact hdk
  have hper2:=Qc7 d (i:=1) (j:=k) (by omega) k2
  have hnx:n ∉ s.wt x:=fun hm=>by
   have:=((hw x).2 n).1 (by rw [Qem,if_neg hxl]; exact hm)
   rw [show Wat (s.sub l (kept++n::rest)).cl n x↔_ from Qpj hc x,← hdtwo] at this
   rcases this with e | e
   ·exact hx0 (Option.some.inj (e.symm.trans hd0))
   ·exact hxl (Option.some.inj (e.symm.trans hd1))
  refine ⟨?_,⟨rfl,rfl,rfl,by simp [S.push,S.sub,S.put],⟨[],by simp [S.push,S.sub,S.put]⟩,rfl,lR _,rfl⟩⟩
  refine h.rewat (cl:=(s.cl.set n d).set n (swap d 1 k)) (wt:=fun y=>if y=l then kept++rest else if y=x then s.wt x++[n] else s.wt y) (Qle (Qle h.cls hdok) (QwF hdok (by omega) k2)) (fun y=>?_) ?_
  ·rw [List.set_set]
   have hwy:=hw y
   rw [Qem] at hwy
   by_cases e1:y=l
   ·subst e1
    rw [if_pos rfl] at hwy ⊢
    have hnd:=hwy.1
    rw [List.nodup_append] at hnd
    obtain ⟨a1,a2,a3⟩:=hnd
    rw [List.nodup_cons] at a2
    have hnk:n ∉ kept:=fun hm=>a3 n hm n (by simp) rfl
    refine ⟨List.nodup_append.2 ⟨a1,a2.2,fun a ha b hb=>a3 a ha b (List.mem_cons_of_mem _ hb)⟩,fun m=>?_⟩
    rw [QiN hc]
    split
    ·rename_i e; subst e
     rw [hs0,hs1]
     refine ⟨fun hm=>?_,fun hm=>?_⟩
     ·rcases List.mem_append.1 hm with hm | hm
      ·exact absurd hm hnk
      ·exact absurd hm a2.1
     ·rcases hm with e | e
      ·exact absurd (Option.some.inj e).symm hl0
      ·exact absurd (Option.some.inj e) hxl
    ·rename_i e
     rw [← show _↔Wat s.cl m y from hwy.2 m]
     simp [e]
   ·rw [if_neg e1] at hwy ⊢
    by_cases e2:y=x
    ·subst e2
     rw [if_pos rfl]
     refine ⟨List.nodup_append.2 ⟨hwy.1,by simp,fun a ha b hb e=>hnx (by simp at hb; rw [← hb,← e]; exact ha)⟩,fun m=>?_⟩
     rw [QiN hc]
     split
     ·rename_i e; subst e
      simp [hs1]
     ·rename_i e
      rw [← show _↔Wat s.cl m y from hwy.2 m]
      simp [e]
    ·rw [if_neg e2]
     refine ⟨hwy.1,fun m=>?_⟩
     rw [hwy.2 m,QiN hc]
     split
     ·rename_i e; subst e
      rw [show Wat (s.sub l (kept++m::rest)).cl m y↔_ from Qpj hc y,← hdtwo,hs0,hs1,hd1,hd0]
      simp [Ne.symm e1,Ne.symm e2]
     ·exact Iff.rfl
  ·rw [List.set_set]
   exact Qlc hc fun y=>(hper2.trans hper).mem_iff
 rename_i hnone
 split
 ·rename_i g2
  refine ⟨h1,hext,d,?_,List.mem_of_getElem? hd1,fun x hx=>?_⟩
  ·show (s.cl.set n d)[n]?=some d
   rw [List.getElem?_set,if_pos rfl,if_pos hnl]
  ·obtain ⟨j,hj⟩:=List.getElem?_of_mem hx
   rcases Nat.lt_or_ge j 2 with h2 | h2
   ·rcases Nat.lt_or_ge j 1 with h3 | h3
    ·have:j=0:=by omega
     subst this
     rw [hd0] at hj; cases hj
     exact (hval _).1 g2
    ·have:j=1:=by omega
     subst this
     rw [hd1] at hj; cases hj
     exact hl
   ·exact (hval x).1 (Qhp hnone j x h2 hj)
 rename_i g2
 replace g2:¬ s.is (d.getD 0 0)=-1:=g2
 split
 ·trivial
 ·rename_i s' hs'
  refine ⟨?_,hext.trans (Qld hs')⟩
  rw [aA]
  refine h1.set (l:=d.getD 0 0) (r:=n) (s':=s'.sub l (kept++n::rest)) ?_ (hdok.2.1 _ (List.mem_of_getElem? hd0)).1 (hdok.2.1 _ (List.mem_of_getElem? hd0)).2 (fun e=>g1 ((hone _).2 e)) (fun e=>g2 ((hval _).2 e)) (.inr (.inr ⟨n,d,rfl,?_,List.mem_of_getElem? hd0,fun x hx hx0=>?_⟩))
  ·obtain ⟨a,rfl⟩:=S.set_some hs'
   unfold S.set
   rw [if_neg (show ¬ ((s.put n d).sub l (kept++n::rest)).lf=0 from a)]; rfl
  ·show (s.cl.set n d)[n]?=some d
   rw [List.getElem?_set,if_pos rfl,if_pos hnl]
  ·obtain ⟨j,hj⟩:=List.getElem?_of_mem hx
   rcases Nat.lt_or_ge j 2 with h2 | h2
   ·rcases Nat.lt_or_ge j 1 with h3 | h3
    ·have:j=0:=by omega
     subst this
     rw [hd0] at hj; cases hj
     exact absurd rfl hx0
    ·have:j=1:=by omega
     subst this
     rw [hd1] at hj; cases hj
     exact hl
   ·exact (hval x).1 (Qhp hnone j x h2 hj)
def PassOk (N:Nat) (s:S) (l:Int):Option (S × Option Nat)→Prop
 | none=>True
 | some (s',none)=>Inv N s'∧Ext s s'
 | some (s',some n)=>Inv N s'∧Ext s s'∧∃ c,s'.cl[n]?=some c∧l∈c∧∀ x∈c,-x∈s'.tr
theorem PassOk.of (h:Ext s s'):∀ {r:Option (S × Option Nat)},PassOk N s' l r→PassOk N s l r
 | none,_=>trivial
 | some (_,none),k=>⟨k.1,h.trans k.2⟩
 | some (_,some _),k=>⟨k.1,h.trans k.2.1,k.2.2⟩
theorem QgW (s:S) (l:Int) (x:List Nat):Ext s (s.sub l x):=⟨rfl,rfl,rfl,rfl,⟨[],by simp [S.sub]⟩,rfl,lR _,rfl⟩
theorem QiW {N:Nat} {l:Int}:∀ (rest kept:List Nat) (s:S),Inv N (s.sub l (kept++rest))→-l∈s.tr→PassOk N s l (S.pass l kept rest s)
 | [],kept,s,h,hl=>by
   rw [List.append_nil] at h
   exact ⟨h,QgW _ _ _⟩
 | n::rest,kept,s,h,hl=>by
   have hv:=QjC h hl
   unfold S.pass
   generalize s.visit n l=v at hv
   cases v with
   | moved s'=>exact .of hv.2 (QiW rest kept s' hv.1 (hv.2.mem hl))
   | kept s'=>exact .of hv.2 (QiW rest (kept++[n]) s' hv.1 (hv.2.mem hl))
   | bad s'=>exact ⟨hv.1,hv.2.1.trans (QgW _ _ _),hv.2.2⟩
   | out=>trivial
structure Ext' (s s':S):Prop where
 ms:s'.ms=s.ms
 pf:s'.pf=s.pf
 len:s'.cl.length=s.cl.length
 tr:∃ t,s'.tr=s.tr++t
 lf:s'.lf+s'.tr.length=s.lf+s.tr.length
 le:s'.lf≤s.lf
 he:s'.he=s.he
theorem Ext'.refl (s:S):Ext' s s:=⟨rfl,rfl,rfl,⟨[],by simp⟩,rfl,lR _,rfl⟩
theorem Ext'.trans {a b c:S} (h:Ext' a b) (k:Ext' b c):Ext' a c :=
 ⟨k.ms.trans h.ms,k.pf.trans h.pf,k.len.trans h.len,by obtain ⟨t,e⟩:=h.tr; obtain ⟨u,f⟩:=k.tr; exact ⟨t++u,by rw [f,e,aA]⟩,k.lf.trans h.lf,Nat.le_trans k.le h.le,k.he.trans h.he⟩
def SpreadOk (N:Nat) (s:S):Option (S × Option Nat)→Prop
 | none=>True
 | some (s',none)=>Inv N s'∧Ext' s s'∧s'.dn=s'.tr.length
 | some (s',some n)=>Inv N s'∧Ext' s s'∧∃ c,s'.cl[n]?=some c∧(∀ x∈c,-x∈s'.tr)∧∃ x∈c,s'.lev x=s'.ms.length
theorem SpreadOk.of (h:Ext' s s'):∀ {r:Option (S × Option Nat)},SpreadOk N s' r→SpreadOk N s r
 | none,_=>trivial
 | some (_,none),k=>⟨k.1,h.trans k.2.1,k.2.2⟩
 | some (_,some _),k=>⟨k.1,h.trans k.2.1,k.2.2⟩
theorem Inv.look (h:Inv N s) (hd:s.dn<s.tr.length):Inv N { s with dn:=s.dn+1 } :=
 ⟨h.nva,h.nlv,h.nre,h.nhe,h.cls,h.wat,h.tro,h.val,h.lev,h.mks,h.rea,hd,fun m hm=>Nat.le_succ_of_le (h.dnm m hm)⟩
theorem sub_self (s:S) (l:Int):s.sub l (s.wt l)=s:=by
 unfold S.sub
 have:(fun y=>if y=l then s.wt l else s.wt y)=s.wt:=funext fun y=>by split <;> simp_all
 rw [this]
theorem Inv.lev_top (h:Inv N s) (hi:s.tr[i]?=some l) (hd:∀ m∈s.ms,m≤i):s.lev l=s.ms.length:=by
 refine Nat.le_antisymm (h.lev l (List.mem_of_getElem? hi)) ?_
 rcases Nat.eq_zero_or_pos s.ms.length with h0 | h0
 ·omega
 have hk:s.ms[s.ms.length - 1]?=some s.ms[s.ms.length - 1]:=List.getElem?_eq_getElem (by omega)
 have:=((h.mks _ _ hk).2 i l hi).1 (hd _ (List.mem_of_getElem? hk))
 omega
theorem Qdg (s:S) (l:Int):s.lev (-l)=s.lev l:=by simp [S.lev]
theorem Qff {N:Nat}:∀ (k:Nat) (s:S),Inv N s→s.room<k→SpreadOk N s (S.spreadN k s)
 | 0,s,_,h=>by omega
 | k+1,s,h,hk=>by
   unfold S.spreadN
   split
   ·rename_i e
    rw [List.getElem?_eq_none_iff] at e
    exact ⟨h,.refl s,Nat.le_antisymm h.dnl e⟩
   ·rename_i l e
    have hlt:=(List.getElem?_eq_some_iff.1 e).1
    have h1:=h.look hlt
    have hp:=QiW (N:=N) (l:=-l) (s.wt (-l)) [] { s with dn:=s.dn+1 } (by rw [nA]; exact (sub_self { s with dn:=s.dn+1 } (-l)).symm▸h1) (by rw [Int.neg_neg]; exact List.mem_of_getElem? e)
    generalize S.pass (-l) [] (s.wt (-l)) { s with dn:=s.dn+1 }=r at hp
    match r,hp with
    | none,_=>trivial
    | some (s',some n),hp =>
      obtain ⟨a1,a2,c,a3,a4,a5⟩:=hp
      refine ⟨a1,⟨a2.ms,a2.pf,a2.len,a2.tr,a2.lf,a2.le,a2.he⟩,c,a3,a5,-l,a4,?_⟩
      obtain ⟨t,ht⟩:=a2.tr
      rw [Qdg]
      refine a1.lev_top (i:=s.dn) ?_ fun m hm=>?_
      ·rw [ht,List.getElem?_append_left hlt]; exact e
      ·rw [a2.ms] at hm; exact h.dnm m hm
    | some (s',none),hp =>
      obtain ⟨a1,a2⟩:=hp
      refine SpreadOk.of (s:=s) (s':=s') ⟨a2.ms,a2.pf,a2.len,a2.tr,a2.lf,a2.le,a2.he⟩ (Qff k s' a1 ?_)
      have b1:=a2.lf
      have b2:=a2.dn
      have b3:=a2.le
      obtain ⟨t,ht⟩:=a2.tr
      have b4:=congrArg List.length ht
      simp only [lA] at b1 b4
      replace b1:s'.lf+s'.tr.length=s.lf+s.tr.length:=b1
      replace b2:s'.dn=s.dn+1:=b2
      replace b3:s'.lf≤s.lf:=b3
      unfold S.room at hk ⊢
      omega
theorem add_wt (h:c.getD 0 0≠c.getD 1 0) (y:Int):(s.add c).wt y=if y=c.getD 0 0∨y=c.getD 1 0 then s.wt y++[s.cl.length] else s.wt y:=by
 unfold S.add S.push S.sub
 generalize c.getD 0 0=a at *
 generalize c.getD 1 0=b at *
 by_cases h1:y=b
 ·subst h1
  simp [Ne.symm h]
 ·by_cases h0:y=a
  ·subst h0
   simp [h1]
  ·simp [h0,h1]
theorem Wat.lt:Wat cl m l→m<cl.length:=fun ⟨_,h,_⟩=>(List.getElem?_eq_some_iff.1 h).1
theorem QlY (h:Inv N s) (hc:2≤c.length∧Okc N c):Inv N (s.add c):=by
 have h0:c[0]?=some (c.getD 0 0):=Xt (by omega)
 have h1:c[1]?=some (c.getD 1 0):=Xt (by omega)
 have hne:c.getD 0 0≠c.getD 1 0:=fun e=>by have:=QbY hc.2.nodup (e▸h0) h1; omega
 refine h.rewat (cl:=s.cl++[c]) (wt:=(s.add c).wt) (fun d hd=>?_) (fun y=>?_) (fun r d hr=>⟨d,by rw [List.getElem?_append_left (List.getElem?_eq_some_iff.1 hr).1]; exact hr,fun _=>Iff.rfl⟩)
 ·rcases List.mem_append.1 hd with hd | hd
  ·exact h.cls d hd
  ·simp at hd; subst hd; exact hc
 ·rw [add_wt hne]
  have hw:=h.wat y
  have hn:s.cl.length ∉ s.wt y:=fun hm=>by have:=((hw.2 _).1 hm).lt; omega
  have key:∀ m,Wat (s.cl++[c]) m y↔Wat s.cl m y∨(m=s.cl.length∧(c[0]?=some y∨c[1]?=some y)):=fun m=>by
   unfold Wat
   rw [List.getElem?_append]
   split
   ·rename_i hm
    refine ⟨.inl,fun x=>x.elim id fun y=>by omega⟩
   ·rename_i hm
    rw [List.getElem?_eq_none (l:=s.cl) (by omega)]
    by_cases e:m=s.cl.length
    ·subst e
     simp
    ·rw [List.getElem?_eq_none (by simp; omega)]
     simp [e]
  by_cases hy:y=c.getD 0 0∨y=c.getD 1 0
  ·rw [if_pos hy]
   refine ⟨List.nodup_append.2 ⟨hw.1,by simp,fun a ha b hb e=>hn (by simp at hb; rw [← hb,← e]; exact ha)⟩,fun m=>?_⟩
   have htwo:c[0]?=some y∨c[1]?=some y:=hy.elim (fun e=>.inl (by rw [e]; exact h0)) fun e=>.inr (by rw [e]; exact h1)
   rw [key,List.mem_append,hw.2 m,List.mem_singleton]
   simp [htwo]
  ·rw [if_neg hy]
   refine ⟨hw.1,fun m=>?_⟩
   have htwo:¬ (c[0]?=some y∨c[1]?=some y):=fun h=>hy (h.imp (fun e=>Option.some.inj (e.symm.trans h0)) fun e=>Option.some.inj (e.symm.trans h1))
   rw [key,hw.2 m]
   simp [htwo]
theorem zeros_length (l:List Int):∀ va:List Int,(zeros va l).length=va.length:=by
 induction l with
 | nil=>intro va; rfl
 | cons x l ih=>intro va; show (zeros (va.set x.natAbs 0) l).length=_; rw [ih,List.length_set]
theorem Qpg (l:List Int) (v:Nat):∀ va:List Int,(zeros va l).getD v 0=if v∈l.map Int.natAbs then 0 else va.getD v 0:=by
 induction l with
 | nil=>intro va; simp [zeros]
 | cons x l ih =>
   intro va
   show (zeros (va.set x.natAbs 0) l).getD v 0=_
   rw [ih,Qb6]
   by_cases h1:v∈l.map Int.natAbs
   ·rw [if_pos h1,if_pos (show v∈(x::l).map Int.natAbs by rw [List.map_cons]; exact List.mem_cons_of_mem _ h1)]
   ·rw [if_neg h1]
    by_cases h2:x.natAbs=v
    ·rw [if_pos (show v∈(x::l).map Int.natAbs by rw [List.map_cons,h2]; exact List.mem_cons_self ..)]
     by_cases h3:x.natAbs<va.length
     ·rw [if_pos ⟨h2,h3⟩]
     ·rw [if_neg fun q=>h3 q.2,List.getD_eq_getElem?_getD,List.getElem?_eq_none (by omega)]; rfl
    ·rw [if_neg fun q=>h2 q.1,if_neg (show ¬ v∈(x::l).map Int.natAbs by rw [List.map_cons,List.mem_cons]; exact fun q=>q.elim (fun e=>h2 e.symm) h1)]
theorem Inv.marks_le (h:Inv N s) {a:Nat} (hi:s.ms[i]?=some a) (hj:s.ms[j]?=some b) (hij:i≤j):a≤b:=by
 rcases Nat.lt_or_ge b a with hlt | hge
 ·have ha:=(h.mks i a hi).1
  have hb:s.tr[b]?=some s.tr[b]:=List.getElem?_eq_getElem (by omega)
  have h1:=((h.mks j b hj).2 b _ hb).1 (lR _)
  have h2:=((h.mks i a hi).2 b _ hb).2 (by omega)
  omega
 ·exact hge
theorem Inv.mem_take (h:Inv N s) (hm:s.ms[level]?=some m) (hx:x∈s.tr):x∈s.tr.take m↔s.lev x≤level:=by
 obtain ⟨i,hi⟩:=List.getElem?_of_mem hx
 have h1:=(h.mks level m hm).2 i x hi
 constructor
 ·intro ht
  obtain ⟨j,hj⟩:=List.getElem?_of_mem ht
  rw [List.getElem?_take] at hj
  split at hj
  ·have:=QbY h.tro.nodup hi hj
   omega
  ·cases hj
 ·intro hl
  rw [List.mem_iff_getElem?]
  exact ⟨i,by rw [List.getElem?_take,if_pos (by omega)]; exact hi⟩
theorem S.back_of (hm:s.ms[level]?=some m):s.back level={ s with va:=zeros s.va (s.tr.drop m),tr:=s.tr.take m,ms:=s.ms.take level,dn:=m }:=by
 unfold S.back; rw [hm]
theorem Qm1 (h:Inv N s) (hm:s.ms[level]?=some m):Inv N (s.back level):=by
 rw [S.back_of hm]
 have hml:=(h.mks level m hm).1
 have hlen:(s.tr.take m).length=m:=by simp; omega
 have hlv:=(List.getElem?_eq_some_iff.1 hm).1
 have hmem:∀ x,x∈s.tr.take m→x∈s.tr:=fun x hx=>List.mem_of_mem_take hx
 have hget:∀ {i:Nat} {x:Int},(s.tr.take m)[i]?=some x→s.tr[i]?=some x∧i<m:=fun {i x} hx=>by
  rw [List.getElem?_take] at hx
  split at hx
  ·rename_i hi; exact ⟨hx,hi⟩
  ·cases hx
 have hmk:∀ {k a:Nat},(s.ms.take level)[k]?=some a→s.ms[k]?=some a∧k<level∧a≤m:=fun {k a} hk=>by
  rw [List.getElem?_take] at hk
  split at hk
  ·rename_i hi; exact ⟨hk,hi,h.marks_le hk hm (by omega)⟩
  ·cases hk
 refine ⟨by simp [zeros_length,h.nva],h.nlv,h.nre,h.nhe,h.cls,h.wat,⟨fun l hl=>h.tro.1 l (hmem l hl),?_⟩,fun v=>?_,fun l hl=>?_,fun k a hk=>?_,fun i l hl h0 h1=>?_,Nat.le_of_eq hlen.symm,fun a ha=>?_⟩
 ·show ((s.tr.take m).map Int.natAbs).Nodup
  rw [List.map_take]
  exact h.tro.2.sublist (List.take_sublist _ _)
 ·show (zeros s.va (s.tr.drop m)).getD v 0=if (v:Int)∈s.tr.take m then 1 else if -(v:Int)∈s.tr.take m then -1 else 0
  rw [Qpg,h.val v]
  have hsplit:∀ x,x∈s.tr↔x∈s.tr.take m∨x∈s.tr.drop m:=fun x=>by rw [← List.mem_append,List.take_append_drop]
  have hdis:∀ x y,x∈s.tr.take m→y∈s.tr.drop m→x.natAbs≠y.natAbs:=fun x y hx hy e=>by
   have hnd:=h.tro.2
   rw [← List.take_append_drop m s.tr,List.map_append,List.nodup_append] at hnd
   exact hnd.2.2 _ (List.mem_map.2 ⟨x,hx,rfl⟩) _ (List.mem_map.2 ⟨y,hy,rfl⟩) e
  by_cases hv:v∈(s.tr.drop m).map Int.natAbs
  ·rw [if_pos hv]
   obtain ⟨y,hy,rfl⟩:=List.mem_map.1 hv
   rw [if_neg fun hx=>hdis _ y hx hy (by simp),if_neg fun hx=>hdis _ y hx hy (by simp)]
  ·rw [if_neg hv]
   have e1:∀ x:Int,x.natAbs=v→(x∈s.tr↔x∈s.tr.take m):=fun x hx=>by
    rw [hsplit]
    exact ⟨fun o=>o.elim id fun hd=>absurd (List.mem_map.2 ⟨x,hd,hx⟩) hv,.inl⟩
   simp only [e1 (v:Int) (by simp),e1 (-(v:Int)) (by simp)]
 ·show s.lev l≤(s.ms.take level).length
  rw [List.length_take,Nat.min_eq_left (by omega)]
  exact (h.mem_take hm (hmem l hl)).1 hl
 ·obtain ⟨g1,g2,g3⟩:=hmk hk
  exact ⟨by rw [show ({ s with va:=zeros s.va (s.tr.drop m),tr:=s.tr.take m,ms:=s.ms.take level,dn:=m }:S).tr=s.tr.take m from rfl,hlen]; exact g3,fun i l hl=>(h.mks k a g1).2 i l (hget hl).1⟩
 ·have hl':=hget hl
  have hle:s.lev l≤level:=(h.mem_take hm (List.mem_of_getElem? hl'.1)).1 (List.mem_of_getElem? hl)
  replace h0:0<s.lev l:=h0
  obtain ⟨r,c,g1,g2,g3,g4⟩:=h.rea i l hl'.1 h0 fun e=>h1 (by
   show (s.ms.take level)[s.lev l - 1]?=some i
   rw [List.getElem?_take,if_pos (by omega)]; exact e)
  refine ⟨r,c,g1,g2,g3,fun x hx hxl=>?_⟩
  obtain ⟨j,hj,hj'⟩:=g4 x hx hxl
  exact ⟨j,hj,by
   show (s.tr.take m)[j]?=some (-x)
   rw [List.getElem?_take,if_pos (by omega)]; exact hj'⟩
 ·obtain ⟨k,hk⟩:=List.getElem?_of_mem ha
  exact (hmk hk).2.2
theorem Qin {α:Type} [DecidableEq α] {p q:α→Bool} {y:α}:∀ {l:List α},l.Nodup→y∈l→p y=false→q y=true→(∀ x∈l,x≠y→q x=p x)→l.countP q=l.countP p+1
 | [],_,h,_,_,_=>by cases h
 | a::l,hn,hy,hp,hq,hx=>by
   rw [List.nodup_cons] at hn
   rw [List.countP_cons,List.countP_cons]
   by_cases e:a=y
   ·subst e
    have:l.countP q=l.countP p:=List.countP_congr fun x hxl=>by rw [hx x (List.mem_cons_of_mem _ hxl) fun e=>hn.1 (e▸hxl)]
    rw [this,hp,hq]; simp
   ·have hyl:y∈l:=by exact (List.mem_cons.1 hy).elim (fun h=>absurd h.symm e) id
    have:=Qin hn.2 hyl hp hq fun x hxl=>hx x (List.mem_cons_of_mem _ hxl)
    rw [this,hx a (by simp) e]; omega
def cnt (s:S) (seen:List Nat) (x:Int):Bool:=decide (x.natAbs∈seen)&&decide (s.lev x=s.ms.length)
structure Qjr (N:Nat) (s:S) (p:Nat) (st:L):Prop where
 ple:p≤s.tr.length
 hlen:st.he.length=N
 heat:∀ v,st.he.getD v 0=if v∈st.seen then s.he.getD v 0+1 else s.he.getD v 0
 opn:st.op=(s.tr.take p).countP (cnt s st.seen)
 sn:∀ v∈st.seen,v<N
 out:∀ x∈st.out,-x∈s.tr∧0<s.lev x∧s.lev x<s.ms.length∧s.lev x≤st.level∧x.natAbs∈st.seen
 outn:(st.out.map Int.natAbs).Nodup
 lvl:st.level=0∧st.out=[]∨∃ x∈st.out,s.lev x=st.level
theorem Qp2 (h:Inv N s) {p:Nat} {st:L} (hs:Qjr N s p st) (hi:i<p) (hx:s.tr[i]?=some (-x)):Qjr N s p (L.mark1 s.lv s.ms.length st x)∧(∀ v∈st.seen,v∈(L.mark1 s.lv s.ms.length st x).seen)∧(0<s.lev x→x.natAbs∈(L.mark1 s.lv s.ms.length st x).seen):=by
 have hxm:=List.mem_of_getElem? hx
 have hxN:x.natAbs<N:=by have:=(h.tro.1 _ hxm).2; simpa using this
 have hxt:-x∈s.tr.take p:=by
  rw [List.mem_iff_getElem?]
  exact ⟨i,by rw [List.getElem?_take,if_pos hi]; exact hx⟩
 unfold L.mark1
 by_cases g1:x.natAbs∈st.seen∨s.lv.getD x.natAbs 0=0
 ·rw [if_pos g1]
  exact ⟨hs,fun _=>id,fun h0=>g1.elim id fun e=>by replace e:s.lev x=0:=e; omega⟩
 rw [if_neg g1]
 rw [not_or] at g1
 have hheat:∀ v,(st.he.set x.natAbs (st.he.getD x.natAbs 0+1)).getD v 0=if v∈st.seen++[x.natAbs] then s.he.getD v 0+1 else s.he.getD v 0:=fun v=>by
  rw [Qb6,hs.hlen]
  by_cases e:x.natAbs=v
  ·subst e
   rw [if_pos ⟨rfl,hxN⟩,hs.heat,if_neg g1.1,if_pos (by simp)]
  ·rw [if_neg fun q=>e q.1,hs.heat]
   by_cases e2:v∈st.seen
   ·rw [if_pos e2,if_pos (List.mem_append_left _ e2)]
   ·rw [if_neg e2,if_neg (show ¬ v∈st.seen++[x.natAbs] by rw [List.mem_append,List.mem_singleton]; exact fun q=>q.elim e2 fun q=>e q.symm)]
 have hsn:∀ v∈st.seen++[x.natAbs],v<N:=fun v hv=>by
  rcases List.mem_append.1 hv with hv | hv
  ·exact hs.sn v hv
  ·simp at hv; subst hv; exact hxN
 have hnd:(s.tr.take p).Nodup:=h.tro.nodup.sublist (List.take_sublist _ _)
 have hother:∀ y∈s.tr.take p,y≠-x→y.natAbs≠x.natAbs:=fun y hy hne e=>hne (QjU h.tro.2 (List.mem_of_mem_take hy) hxm (by simpa using e))
 have hcnt:∀ y∈s.tr.take p,y≠-x→cnt s (st.seen++[x.natAbs]) y=cnt s st.seen y:=fun y hy hne=>by
  unfold cnt
  have:=hother y hy hne
  simp [this]
 by_cases g2:s.lv.getD x.natAbs 0=s.ms.length
 ·rw [if_pos g2]
  replace g2:s.lev x=s.ms.length:=g2
  refine ⟨⟨hs.ple,by simp [hs.hlen],hheat,?_,hsn,fun y hy=>?_,hs.outn,hs.lvl⟩,fun v hv=>List.mem_append_left _ hv,fun _=>by simp⟩
  ·show st.op+1=_
   rw [hs.opn]
   refine (Qin hnd hxt ?_ ?_ hcnt).symm
   ·unfold cnt; simp [g1.1]
   ·unfold cnt; simp [Qdg,g2]
  ·obtain ⟨a1,a2,a3,a4,a5⟩:=hs.out y hy
   exact ⟨a1,a2,a3,a4,List.mem_append_left _ a5⟩
 ·rw [if_neg g2]
  replace g2:s.lev x≠s.ms.length:=g2
  have hlt:s.lev x<s.ms.length:=by have:=h.lev _ hxm; rw [Qdg] at this; omega
  have hpos:0<s.lev x:=Nat.pos_of_ne_zero g1.2
  refine ⟨⟨hs.ple,by simp [hs.hlen],hheat,?_,hsn,fun y hy=>?_,?_,.inr ?_⟩,fun v hv=>List.mem_append_left _ hv,fun _=>by simp⟩
  ·show st.op=_
   rw [hs.opn]
   refine List.countP_congr fun y hy=>?_
   by_cases e:y=-x
   ·subst e
    unfold cnt; simp [Qdg,g2]
   ·rw [hcnt y hy e]
  ·rcases List.mem_append.1 hy with hy | hy
   ·obtain ⟨a1,a2,a3,a4,a5⟩:=hs.out y hy
    exact ⟨a1,a2,a3,Nat.le_trans a4 (Nat.le_max_left _ _),List.mem_append_left _ a5⟩
   ·simp at hy; subst hy
    exact ⟨hxm,hpos,hlt,Nat.le_max_right _ _,by simp⟩
  ·show ((st.out++[x]).map Int.natAbs).Nodup
   rw [List.map_append,List.nodup_append]
   refine ⟨hs.outn,by simp,fun a ha b hb e=>?_⟩
   obtain ⟨y,hy,rfl⟩:=List.mem_map.1 ha
   simp at hb
   exact g1.1 (by rw [← hb,← e]; exact (hs.out y hy).2.2.2.2)
  ·show ∃ y∈st.out++[x],s.lev y=max st.level (s.lev x)
   rcases Nat.le_total st.level (s.lev x) with hle | hle
   ·exact ⟨x,by simp,by omega⟩
   ·rcases hs.lvl with ⟨h1,h2⟩ | ⟨y,hy,he⟩
    ·exact ⟨x,by simp,by omega⟩
    ·exact ⟨y,List.mem_append_left _ hy,by omega⟩
theorem Qb4 {N:Nat} {s:S} (h:Inv N s) {p:Nat}:∀ {c:List Int} {st:L},Qjr N s p st→(∀ x∈c,∃ i,i<p∧s.tr[i]?=some (-x)) →
 Qjr N s p (L.mark s.lv s.ms.length st c)∧(∀ v∈st.seen,v∈(L.mark s.lv s.ms.length st c).seen)∧∀ x∈c,0<s.lev x→x.natAbs∈(L.mark s.lv s.ms.length st c).seen
 | [],st,hs,_=>⟨hs,fun _=>id,fun x hx=>by cases hx⟩
 | x::c,st,hs,hc=>by
   obtain ⟨i,hi,hx⟩:=hc x (by simp)
   obtain ⟨g1,g2,g3⟩:=Qp2 h hs hi hx
   obtain ⟨k1,k2,k3⟩:=Qb4 h g1 fun y hy=>hc y (List.mem_cons_of_mem _ hy)
   refine ⟨k1,fun v hv=>k2 v (g2 v hv),fun y hy h0=>?_⟩
   rcases List.mem_cons.1 hy with rfl | hy
   ·exact k2 _ (g3 h0)
   ·exact k3 y hy h0
theorem Inv.lev_mono (h:Inv N s) (hi:s.tr[i]?=some x) (hj:s.tr[j]?=some y) (hij:i≤j):s.lev x≤s.lev y:=by
 rcases Nat.eq_zero_or_pos (s.lev x) with h0 | h0
 ·omega
 have hle:=h.lev x (List.mem_of_getElem? hi)
 have hk:s.ms[s.lev x - 1]?=some s.ms[s.lev x - 1]:=List.getElem?_eq_getElem (by omega)
 have h1:=((h.mks _ _ hk).2 i x hi).2 (by omega)
 have h2:=((h.mks _ _ hk).2 j y hj).1 (by omega)
 omega
theorem QiQ {N:Nat} {s:S} (h:Inv N s) (hD:0<s.ms.length):∀ (p:Nat) (st:L),Qjr N s p st→1≤st.op →
 ∃ l st' p',s.walk (s.tr.take p).reverse st=some (l,st')∧Qjr N s p' st'∧l∈s.tr∧s.lev l=s.ms.length
 | 0,st,hs,ho=>by have:=hs.opn; simp at this; omega
 | p+1,st,hs,ho=>by
   have hp:=hs.ple
   obtain ⟨l,hl⟩:∃ l,s.tr[p]?=some l:=⟨_,List.getElem?_eq_getElem (by omega)⟩
   have htake:s.tr.take (p+1)=s.tr.take p++[l]:=by
    rw [List.take_add_one,hl]; rfl
   have hopn:=hs.opn
   rw [htake,List.countP_append] at hopn
   rw [htake,List.reverse_append,List.reverse_singleton,List.singleton_append]
   unfold S.walk
   by_cases g1:l.natAbs∈st.seen
   ·rw [if_pos g1]
    have hlev:s.lev l=s.ms.length:=by
     have hle:=h.lev l (List.mem_of_getElem? hl)
     by_cases e:s.lev l=s.ms.length
     ·exact e
     exfalso
     have hz:[l].countP (cnt s st.seen)=0:=by simp [cnt,e]
     rw [hz] at hopn
     obtain ⟨y,hy,hyc⟩:=List.countP_pos_iff.1 (show 0<(s.tr.take p).countP (cnt s st.seen) by omega)
     obtain ⟨i,hi⟩:=List.getElem?_of_mem hy
     rw [List.getElem?_take] at hi
     split at hi
     ·have:=h.lev_mono hi hl (by omega)
      simp [cnt] at hyc
      omega
     ·cases hi
    have h1:[l].countP (cnt s st.seen)=1:=by simp [cnt,g1,hlev]
    rw [h1] at hopn
    by_cases g2:st.op=1
    ·rw [if_pos g2]
     exact ⟨l,st,p+1,rfl,hs,List.mem_of_getElem? hl,hlev⟩
    ·rw [if_neg g2]
     have hrea:Rea s p l:=by
      refine h.rea p l hl (by omega) fun e=>?_
      obtain ⟨y,hy,hyc⟩:=List.countP_pos_iff.1 (show 0<(s.tr.take p).countP (cnt s st.seen) by omega)
      obtain ⟨i,hi⟩:=List.getElem?_of_mem hy
      rw [List.getElem?_take] at hi
      split at hi
      ·simp [cnt] at hyc
       have:=((h.mks _ _ e).2 i y hi).2 (by omega)
       omega
      ·cases hi
     obtain ⟨r,c,r1,r2,r3,r4⟩:=hrea
     have hreason:s.reason l=c.filter fun x=>x != l:=by
      unfold S.reason; rw [r1,Int.toNat_natCast,getD_some r2]
     have hs':Qjr N s p { st with op:=st.op - 1 }:=⟨by omega,hs.hlen,hs.heat,by show st.op - 1=(s.tr.take p).countP (cnt s st.seen); omega,hs.sn,hs.out,hs.outn,hs.lvl⟩
     have hm:=Qb4 h hs' (c:=s.reason l) fun x hx=>by
      rw [hreason,List.mem_filter] at hx
      exact r4 x hx.1 (by simpa using hx.2)
     refine QiQ h hD p _ hm.1 ?_
     rw [hm.1.opn]
     have:0<(s.tr.take p).countP (cnt s st.seen):=by omega
     obtain ⟨y,hy,hyc⟩:=List.countP_pos_iff.1 this
     refine List.countP_pos_iff.2 ⟨y,hy,?_⟩
     simp only [cnt,Bool.and_eq_true,decide_eq_true_eq] at hyc ⊢
     exact ⟨hm.2.1 _ hyc.1,hyc.2⟩
   ·rw [if_neg g1]
    have h0:[l].countP (cnt s st.seen)=0:=by simp [cnt,g1]
    rw [h0] at hopn
    exact QiQ h hD p st ⟨by omega,hs.hlen,hs.heat,hopn,hs.sn,hs.out,hs.outn,hs.lvl⟩ ho
structure QkE (N:Nat) (s:S) (c:List Int) (level:Nat) (he:List Nat):Prop where
 head:∃ l out,c=-l::out∧l∈s.tr∧s.lev l=s.ms.length∧(∀ x∈out,-x∈s.tr∧0<s.lev x∧s.lev x≤level)∧(out=[]→level=0)∧(out=[]∨∃ x∈out,s.lev x=level)
 lt:level<s.ms.length
 ok:Okc N c
 hlen:he.length=N
 heat:∀ v,he.getD v 0≤s.he.getD v 0+1
theorem Qj1 (h:Inv N s) (hD:0<s.ms.length) (hc:s.cl[n]?=some c) (hf:∀ x∈c,-x∈s.tr) (hy:y∈c) (hyl:s.lev y=s.ms.length) :
 ∃ d level he,s.learn n=some (d,level,{ s with he:=he })∧QkE N s d level he:=by
 have hz:0=(s.tr.take s.tr.length).countP (cnt s []):=by
  rw [eq_comm,List.countP_eq_zero]
  intro x hx; simp [cnt]
 have hs0:Qjr N s s.tr.length ⟨[],[],0,0,s.he⟩:=⟨lR _,h.nhe,(fun v=>by simp),hz,(fun v hv=>by cases hv),(fun x hx=>by cases hx),(by simp),.inl ⟨rfl,rfl⟩⟩
 have hm:=Qb4 h hs0 (c:=c) fun x hx=>by
  obtain ⟨i,hi⟩:=List.getElem?_of_mem (hf x hx)
  exact ⟨i,(List.getElem?_eq_some_iff.1 hi).1,hi⟩
 have hop:1≤(L.mark s.lv s.ms.length ⟨[],[],0,0,s.he⟩ c).op:=by
  rw [hm.1.opn,List.take_length]
  refine List.countP_pos_iff.2 ⟨-y,hf y hy,?_⟩
  simp only [cnt,Bool.and_eq_true,decide_eq_true_eq,Qdg,Int.natAbs_neg]
  exact ⟨hm.2.2 y hy (by omega),hyl⟩
 obtain ⟨l,st,p,e,hst,hl,hll⟩:=QiQ h hD _ _ hm.1 hop
 rw [List.take_length] at e
 refine ⟨-l::st.out,st.level,st.he,?_,⟨⟨l,st.out,rfl,hl,hll,fun x hx=>?_,fun e=>?_,hst.lvl.imp And.right id⟩,?_,?_,hst.hlen,fun v=>?_⟩⟩
 ·unfold S.learn
  rw [getD_some hc,e]; rfl
 ·obtain ⟨a1,a2,a3,a4,a5⟩:=hst.out x hx
  exact ⟨a1,a2,a4⟩
 ·rcases hst.lvl with ⟨a,_⟩ | ⟨x,hx,_⟩
  ·exact a
  ·rw [e] at hx; cases hx
 ·rcases hst.lvl with ⟨a,_⟩ | ⟨x,hx,a⟩
  ·omega
  ·have:=(hst.out x hx).2.2.1; omega
 ·refine ⟨fun x hx=>?_,?_⟩
  ·rcases List.mem_cons.1 hx with rfl | hx
   ·have:=h.tro.1 l hl
    exact ⟨by omega,by simpa using this.2⟩
   ·have:=h.tro.1 _ (hst.out x hx).1
    exact ⟨by omega,by simpa using this.2⟩
  ·rw [List.map_cons,List.nodup_cons]
   refine ⟨fun hm=>?_,hst.outn⟩
   obtain ⟨x,hx,e⟩:=List.mem_map.1 hm
   have h1:=hst.out x hx
   have:s.lev x=s.lev l:=by unfold S.lev; rw [e,Int.natAbs_neg]
   omega
 ·rw [hst.heat]; split <;> omega
variable {he:List Nat}
theorem Inv.heat (h:Inv N s) (hl:he.length=N):Inv N { s with he:=he } :=
 ⟨h.nva,h.nlv,h.nre,hl,h.cls,h.wat,h.tro,h.val,h.lev,h.mks,h.rea,h.dnl,h.dnm⟩
theorem Inv.proof (h:Inv N s) (pf:List (List Int)):Inv N { s with pf:=pf } :=
 ⟨h.nva,h.nlv,h.nre,h.nhe,h.cls,h.wat,h.tro,h.val,h.lev,h.mks,h.rea,h.dnl,h.dnm⟩
theorem Inv.fuel (h:Inv N s) (lf:Nat):Inv N { s with lf:=lf } :=
 ⟨h.nva,h.nlv,h.nre,h.nhe,h.cls,h.wat,h.tro,h.val,h.lev,h.mks,h.rea,h.dnl,h.dnm⟩
theorem Qnq {P:Nat→Prop} (f:Nat→Nat→Nat) (hb:P b):∀ (l:List Nat),(∀ k∈l,P k)→(∀ a k,f a k=a∨f a k=k)→P (l.foldl f b):=by
 intro l
 induction l generalizing b with
 | nil=>intro _ _; exact hb
 | cons k l ih =>
   intro hk hf
   refine ih ?_ (fun j hj=>hk j (List.mem_cons_of_mem _ hj)) hf
   rcases hf b k with e | e <;> rw [e]
   ·exact hb
   ·exact hk k (by simp)
theorem Qj8 (h:2≤c.length):1≤s.far c∧s.far c<c.length:=by
 unfold S.far
 refine Qnq (P:=fun k=>1≤k∧k<c.length) _ ⟨by omega,by omega⟩ _ (fun k hk=>?_) fun a k=>?_
 ·simp at hk; omega
 ·split <;> simp
theorem QjE (h:Inv N s) (ht:QkE N s c level he) (e:s.teach c level=some s'):Inv N s'∧s'.lf+1=s.lf:=by
 obtain ⟨l,out,rfl,hl,hll,hout,hlev0,_⟩:=ht.head
 have hlt:=ht.lt
 obtain ⟨m,hm⟩:∃ m,s.ms[level]?=some m:=⟨_,List.getElem?_eq_getElem hlt⟩
 have hp:=h.proof (s.pf++[(Qs (-l::out)).1])
 have hm':({ s with pf:=s.pf++[(Qs (-l::out)).1] }:S).ms[level]?=some m:=hm
 have hb:=Qm1 hp hm'
 unfold S.teach at e
 simp only at e
 have hlf:∀ {x:S},x.back level=x.back level→({ s with pf:=s.pf++[(Qs (-l::out)).1] }:S).back level=({ s with pf:=s.pf++[(Qs (-l::out)).1] }:S).back level:=fun _=>rfl
 have hbk:=S.back_of hm'
 generalize hs1:({ s with pf:=s.pf++[(Qs (-l::out)).1] }:S).back level=s1 at e hb hbk
 have htr:s1.tr=s.tr.take m:=by rw [hbk]
 have hms:s1.ms.length=level:=by rw [hbk]; show (s.ms.take level).length=level; simp; omega
 have hsl:s1.lf=s.lf:=by rw [hbk]
 have hll1:l ∉ s1.tr:=fun hx=>by
  rw [htr] at hx
  have:=(h.mem_take hm hl).1 hx
  omega
 have hll2:-l ∉ s1.tr:=fun hx=>by
  rw [htr] at hx
  exact h.tro.neg hl (List.mem_of_mem_take hx)
 have hout1:∀ x∈out,-x∈s1.tr:=fun x hx=>by
  obtain ⟨a1,a2,a3⟩:=hout x hx
  rw [htr,h.mem_take hm a1,Qdg]; exact a3
 have hok:=ht.ok
 have hlok:=hok.1 (-l) (by simp)
 by_cases g1:(-l::out).length=1
 ·rw [if_pos g1] at e
  have ho:out=[]:=by simpa using g1
  refine ⟨hb.set (l:=-l) e hlok.1 hlok.2 hll2 (by rw [Int.neg_neg]; exact hll1) (.inl (by rw [hms]; exact hlev0 ho)),?_⟩
  obtain ⟨a,rfl⟩:=S.set_some e
  show s1.lf - 1+1=s.lf
  omega
 ·rw [if_neg g1] at e
  have h2:2≤(-l::out).length:=by simp at g1 ⊢; cases out <;> simp_all
  obtain ⟨f1,f2⟩:=Qj8 (s:=s1) h2
  generalize s1.far (-l::out)=f at *
  have hper:=Qc7 (-l::out) (i:=1) (j:=f) (by omega) f2
  have h0:(swap (-l::out) 1 f)[0]?=some (-l):=by rw [ZJ _ (by omega) f2,if_neg (by omega),if_neg (by omega)]; rfl
  have h0D:(swap (-l::out) 1 f).getD 0 0=-l:=getD_some h0
  rw [h0D] at e
  have ha:=QlY hb (c:=swap (-l::out) 1 f) ⟨by rw [Qak]; exact h2,hok.perm hper⟩
  refine ⟨ha.set (l:=-l) (r:=s1.cl.length) e hlok.1 hlok.2 hll2 (by rw [Int.neg_neg]; exact hll1) (.inr (.inr ⟨s1.cl.length,swap (-l::out) 1 f,rfl,?_,List.mem_of_getElem? h0,fun x hx hxl=>?_⟩)),?_⟩
  ·show (s1.cl++[swap (-l::out) 1 f])[s1.cl.length]?=_
   simp
  ·have:=hper.mem_iff.1 hx
   rcases List.mem_cons.1 this with h | h
   ·exact absurd h hxl
   ·exact hout1 x h
  ·obtain ⟨a,rfl⟩:=S.set_some e
   replace a:s1.lf≠0:=a
   show s1.lf - 1+1=s.lf
   omega
theorem pick_ok:s.pick=0∨(1≤s.pick∧s.pick<s.va.length∧s.va.getD s.pick 0=0):=by
 unfold S.pick
 have key:∀ (l:List Nat) (b:Nat),(∀ k∈l,1≤k∧k<s.va.length)→(b=0∨(1≤b∧b<s.va.length∧s.va.getD b 0=0)) →
  (l.foldl (fun b v=>if s.va.getD v 0=0∧(b=0∨s.he.getD b 0<s.he.getD v 0) then v else b) b=0∨(1≤l.foldl (fun b v=>if s.va.getD v 0=0∧(b=0∨s.he.getD b 0<s.he.getD v 0) then v else b) b∧l.foldl (fun b v=>if s.va.getD v 0=0∧(b=0∨s.he.getD b 0<s.he.getD v 0) then v else b) b<s.va.length∧s.va.getD (l.foldl (fun b v=>if s.va.getD v 0=0∧(b=0∨s.he.getD b 0<s.he.getD v 0) then v else b) b) 0=0)):=by
  intro l
  induction l with
  | nil=>intro b _ hb; exact hb
  | cons k l ih =>
    intro b hk hb
    rw [List.foldl_cons]
    refine ih _ (fun j hj=>hk j (List.mem_cons_of_mem _ hj)) ?_
    split
    ·rename_i h
     exact .inr ⟨(hk k (by simp)).1,(hk k (by simp)).2,h.1⟩
    ·exact hb
 exact key _ 0 (fun k hk=>by simp at hk; omega) (.inl rfl)
theorem Inv.decide (h:Inv N s) (hd:s.dn=s.tr.length):Inv N { s with ms:=s.ms++[s.tr.length] }:=by
 refine ⟨h.nva,h.nlv,h.nre,h.nhe,h.cls,h.wat,h.tro,h.val,fun l hl=>?_,fun k m hk=>?_,fun i l hl h0 h1=>?_,h.dnl,fun m hm=>?_⟩
 ·show s.lev l≤(s.ms++[s.tr.length]).length
  have:=h.lev l hl
  simp; omega
 ·replace hk:(s.ms++[s.tr.length])[k]?=some m:=hk
  rw [List.getElem?_append] at hk
  split at hk
  ·exact h.mks k m hk
  ·rename_i hge
   have hk0:k - s.ms.length=0:=by
    rcases Nat.eq_zero_or_pos (k - s.ms.length) with h | h
    ·exact h
    ·rw [List.getElem?_eq_none (by simp; omega)] at hk; cases hk
   rw [hk0] at hk
   simp at hk
   subst hk
   refine ⟨lR _,fun i l hl=>?_⟩
   have h1:=(List.getElem?_eq_some_iff.1 hl).1
   have h2:=h.lev l (List.mem_of_getElem? hl)
   show s.tr.length≤i↔k<s.lev l
   replace h1:i<s.tr.length:=h1
   omega
 ·replace h0:0<s.lev l:=h0
  replace h1:(s.ms++[s.tr.length])[s.lev l - 1]?≠some i:=h1
  have h2:=h.lev l (List.mem_of_getElem? hl)
  rw [List.getElem?_append_left (by omega)] at h1
  exact h.rea i l hl h0 h1
 ·rcases List.mem_append.1 hm with hm | hm
  ·exact h.dnm m hm
  ·simp at hm
   show m≤s.dn
   omega
def QxO (N:Nat) (s:S):Option (S × Option Bool)→Prop
 | none=>True
 | some (s',none)=>Inv N s'∧s'.lf<s.lf
 | some (s',some _)=>Inv N s'∧s'.lf≤s.lf
theorem QpE (h:Inv N s):QxO N s s.round:=by
 have hs:=Qff (s.room+1) s h (Nat.lt_succ_self _)
 unfold S.round S.spread
 generalize S.spreadN (s.room+1) s=r at hs
 match r,hs with
 | none,_=>trivial
 | some (s1,some n),hs =>
   obtain ⟨h1,h2,c,h3,h4,y,h5,h6⟩:=hs
   simp only
   by_cases g1:s1.ms.length=0
   ·rw [if_pos g1]
    exact ⟨h1.proof _,h2.le⟩
   ·rw [if_neg g1]
    unfold S.burn
    by_cases g2:s1.lf=0
    ·rw [if_pos g2]; trivial
    ·rw [if_neg g2]
     have hb:=h1.fuel (s1.lf - 1)
     obtain ⟨d,level,he,e,ht⟩:=Qj1 hb (Nat.pos_of_ne_zero g1) h3 h4 h5 h6
     simp only [e]
     have hh:=hb.heat ht.hlen
     have ht':QkE N { s1 with lf:=s1.lf - 1,he:=he } d level he:=⟨ht.head,ht.lt,ht.ok,ht.hlen,fun v=>Nat.le_succ _⟩
     cases hte:S.teach { s1 with lf:=s1.lf - 1,he:=he } d level with
     | none=>trivial
     | some s2 =>
       obtain ⟨k1,k2⟩:=QjE hh ht' hte
       have:=h2.le
       refine ⟨k1,?_⟩
       replace k2:s2.lf+1=s1.lf - 1:=k2
       omega
 | some (s1,none),hs =>
   obtain ⟨h1,h2,h3⟩:=hs
   simp only
   by_cases g1:s1.pick=0
   ·rw [if_pos g1]; exact ⟨h1,h2.le⟩
   ·rw [if_neg g1]
    obtain ⟨p1,p2,p3⟩:=pick_ok.resolve_left g1
    have hd:=h1.decide h3
    have hz:s1.is (s1.pick:Int)=0:=by unfold S.is; rw [if_neg (by omega)]; simpa using p3
    rw [h1.is_zero] at hz
    cases hse:S.set { s1 with ms:=s1.ms++[s1.tr.length] } (-(s1.pick:Int)) (-1) with
    | none=>trivial
    | some s2 =>
      refine ⟨hd.set hse (by omega) (by rw [Int.natAbs_neg,Int.natAbs_natCast]; rw [← h1.nva]; exact p2) hz.2 (by rw [Int.neg_neg]; exact hz.1) (.inr (.inl (by simp))),?_⟩
      obtain ⟨a,rfl⟩:=S.set_some hse
      have:=h2.le
      replace a:s1.lf≠0:=a
      show s1.lf - 1<s.lf
      omega
theorem Qmv {N:Nat}:∀ (k:Nat) (s:S),Inv N s→∀ r,S.runN k s=some r→Inv N r.1
 | 0,_,_,r,e=>by cases e
 | k+1,s,h,r,e=>by
   have hr:=QpE h
   unfold S.runN at e
   generalize s.round=x at hr e
   match x,hr,e with
   | none,_,e=>cases e
   | some (s1,some b),hr,e=>cases e; exact hr.1
   | some (s1,none),hr,e=>exact Qmv k s1 hr.1 r e
theorem QpU (vars fuel:Nat):Inv (vars+1) (S.new vars fuel):=by
 have hz:∀ v:Nat,(List.replicate (vars+1) (0:Int)).getD v 0=0:=fun v=>by
  rw [List.getD_eq_getElem?_getD,List.getElem?_replicate]; split <;> rfl
 refine ⟨by simp [S.new],by simp [S.new],by simp [S.new],by simp [S.new],(fun c hc=>by cases hc),(fun l=>⟨by simp [S.new],fun m=>⟨(fun h=>by cases h),fun ⟨c,h,_⟩=>by simp [S.new] at h⟩⟩),⟨(fun l hl=>by cases hl),by simp [S.new]⟩,fun v=>?_,(fun l hl=>by cases hl),(fun k m hk=>by simp [S.new] at hk),(fun i l hl=>by simp [S.new] at hl),lR _,fun m hm=>by cases hm⟩
 show (List.replicate (vars+1) (0:Int)).getD v 0=_
 rw [hz]; simp [S.new]
theorem QmR {row:List Int} (hc:∀ l∈c,l≠0∧l.natAbs<N) (e:Qs c=(row,true)):Okc N row∧∀ x,x∈row↔x∈c:=by
 unfold Qs at e
 split at e
 ·cases e
 ·rename_i hb
  cases e
  have hb':bad c=false:=by simpa using hb
  have hm:∀ x,x∈canon c↔x∈c:=fun x=>by unfold canon; rw [Qdf,Qf2]
  refine ⟨⟨fun l hl=>hc l ((hm l).1 hl),?_⟩,hm⟩
  have hs:=(QjH hb')
  refine List.pairwise_map.2 (hs.imp fun {a b} h e=>?_)
  have:av a=av b:=by unfold av; split <;> split <;> omega
  omega
def QxR (N:Nat) (s:S):Option (S × Option Bool)→Prop
 | none=>True
 | some (s',_)=>Inv N s'∧s'.ms=[]∧s'.lf≤s.lf
theorem Qdm {N:Nat}:∀ (F:List (List Int)) (s:S),(∀ c∈F,∀ l∈c,l≠0∧l.natAbs<N)→Inv N s→s.ms=[]→QxR N s (S.begin F s)
 | [],s,_,h,hm=>⟨h,hm,lR _⟩
 | c::F,s,hF,h,hm=>by
   have hF':∀ c∈F,∀ l∈c,l≠0∧l.natAbs<N:=fun d hd=>hF d (List.mem_cons_of_mem _ hd)
   unfold S.begin
   by_cases g:(Qs c).2=false
   ·rw [if_pos g]; exact Qdm F s hF' h hm
   ·rw [if_neg g]
    obtain ⟨row,e⟩:∃ row,Qs c=(row,true):=⟨(Qs c).1,Prod.ext rfl (by simpa using g)⟩
    have hok:=(QmR (hF c (by simp)) e).1
    rw [e]
    match row,hok with
    | [],_=>exact ⟨h.proof _,hm,lR _⟩
    | [l],hok =>
      simp only
      by_cases g1:s.is l=-1
      ·rw [if_pos g1]; exact ⟨h.proof _,hm,lR _⟩
      ·rw [if_neg g1]
       by_cases g2:s.is l=0
       ·rw [if_pos g2]
        obtain ⟨z1,z2⟩:=h.is_zero.1 g2
        cases hse:s.set l (-1) with
        | none=>trivial
        | some s1 =>
          have hl:=hok.1 l (by simp)
          have hx:=Qld hse
          have:=Qdm F s1 hF' (h.set hse hl.1 hl.2 z1 z2 (.inl (by rw [hm]; rfl))) (hx.ms.trans hm)
          simp only
          generalize S.begin F s1=r at this
          match r,this with
          | none,_=>trivial
          | some (s2,_),k=>exact ⟨k.1,k.2.1,Nat.le_trans k.2.2 hx.le⟩
       ·rw [if_neg g2]; exact Qdm F s hF' h hm
    | a::b::r,hok=>exact Qdm F (s.add (a::b::r)) hF' (QlY h ⟨by simp,hok⟩) hm
end Go.Sat
namespace Go.Proofs.Ytingdebioipemaa
open Go Go.Am Go.Cl Go.Sat
set_option maxRecDepth 100000
variable {P:Program} {G:Nat→Option V}
section
attribute [local go_sem] nF nT lR Nat.mul_one zA zL beq_self_eq_true decide_false decide_true gt_iff_lt Qt Qg2 Qto Qtn XR QtP QtO QtN QtM QtL YC Qt3 Qt2 Qt1 Qt0 Ye QtZ QtY QtX QtW QtV QtU QtT QtS QtR
def nts (l:List Nat):List V:=l.map fun (n:Nat)=>V.int .i64 (n:Int)
def i8s (l:List Int):List V:=l.map (V.int .i8)
theorem QN (l:List Nat):(nts l).length=l.length:=by simp [nts]
theorem Yf (l:List Int):(i8s l).length=l.length:=by simp [i8s]
variable {i N fu t:Nat}
theorem QaO {l:List Nat} (h:i<l.length):(nts l).getD i V.any=.int .i64 (l.getD i 0:Nat):=by simp [nts,List.getD_eq_getElem?_getD,h]
variable {l:List Int}
theorem Qi9 (h:i<l.length):(i8s l).getD i V.any=.int .i8 (l.getD i 0):=by simp [i8s,List.getD_eq_getElem?_getD,h]
theorem Xb (h:i<l.length):(ints l).getD i V.any=.int .i64 (l.getD i 0):=by simp [ints,List.getD_eq_getElem?_getD,h]
def kv (E:List (Int × V)):List (V × V):=E.map fun p=>(.int .i64 p.1,p.2)
def vAt (E:List (Int × V)) (x:Int):V:=((E.find? fun p=>decide (x=p.1)).map (·.2)).getD (.lst 0 [] true)
def Qm9 (x:Int) (v:V):List (Int × V)→List (Int × V)
 | []=>[(x,v)]
 | p::r=>if x=p.1 then (p.1,v)::r else p::Qm9 x v r
theorem Qfl (x:Int) (E:List (Int × V)):(QmC [Kd.i] (.int .i64 x) (kv E)).getD (.lst 0 [] true)=vAt E x:=by
 unfold vAt
 congr 1
 induction E with
 | nil=>rfl
 | cons p K ih =>
   simp only [QmC,kv,List.map_cons,List.find?_cons,Qfo] at ih ⊢
   by_cases h:x=p.1
   ·simp [h]
   ·simp only [h,decide_false]
    exact ih
theorem XJ (x:Int) (E:List (Int × V)):Qdh false [Kd.i] (.int .i64 x) (kv E):=by
 refine ⟨⟨rfl,by simp [V.cells,QbS,QqQ]⟩,fun p hp=>?_⟩
 obtain ⟨q,_,rfl⟩:=List.mem_map.1 hp
 exact ⟨rfl,by simp [V.cells,QbS,QqQ]⟩
theorem ZA (x:Int) (v:V):∀ E:List (Int × V),Qjq [Kd.i] (.int .i64 x) v (kv E)=kv (Qm9 x v E)
 | []=>rfl
 | p::E=>by
   have ih:=ZA x v E
   unfold kv at ih ⊢
   simp only [List.map_cons,Qjq,Qm9,Qfo]
   by_cases h:x=p.1
   ·simp [h]
   ·simp only [h,decide_false,if_false,Bool.false_eq_true,List.map_cons]
    rw [ih]
theorem QiS (x:Int) (v:V) (y:Int):∀ E:List (Int × V),vAt (Qm9 x v E) y=if y=x then v else vAt E y
 | []=>by
   unfold vAt Qm9
   by_cases h:y=x <;> simp [h]
 | p::E=>by
   have ih:=QiS x v y E
   unfold Qm9
   by_cases h:x=p.1
   ·rw [if_pos h]
    unfold vAt
    subst h
    by_cases h2:y=p.1 <;> simp [h2]
   ·rw [if_neg h]
    unfold vAt at ih ⊢
    by_cases h2:y=p.1
    ·subst h2
     simp [Ne.symm h]
    ·simp only [List.find?_cons,h2,decide_false]
     exact ih
structure Vs where
 s:Nat
 m:Nat
 v:Nat
 l:Nat
 r:Nat
 h:Nat
 t:Nat
 k:Nat
 c:Nat
 p:Nat
def sc (K:Vs) (s:S) (fu nc np:Nat):List V :=
 [.sl 8 K.c 0 1 nc none,.mp 1 K.m,.sl 2 K.v 0 1 s.va.length none,.sl 3 K.l 0 1 s.lv.length none,.sl 4 K.r 0 1 s.re.length none,.sl 5 K.h 0 1 s.he.length none,.sl 6 K.t 0 1 s.tr.length none,.int .i64 (s.dn:Int),.sl 7 K.k 0 1 s.ms.length none,.sl 9 K.p 0 1 np none,.int .i64 (fu:Int),.int .i64 (fu - s.lf:Nat)]
def hp (K:Vs) (s:S) (fu t:Nat) (es:List (Int × V)) (cs ps:List V) (rest:List (Option Ob)):H :=
 ⟨t,some (.arr K.s 82 (sc K s fu cs.length ps.length))::some (.map K.m (kv es))::some (.arr K.v 86 (i8s s.va))::some (.arr K.l 3 (nts s.lv))::some (.arr K.r 3 (ints s.re))::some (.arr K.h 3 (nts s.he)) ::
  some (.arr K.t 3 (ints s.tr))::some (.arr K.k 3 (nts s.ms))::some (.arr K.c 25 cs)::some (.arr K.p 25 ps)::rest⟩
structure Bd (fu N:Nat) (s:S):Prop where
 bn:1≤N∧N≤1000
 bf:fu≤4194304
 lf:s.lf≤fu
 cl:s.cl.length+s.lf≤8388608
 pf:s.pf.length+s.lf≤8388608
 he:∀ v,s.he.getD v 0+s.lf≤8388608
variable {n:Int}
theorem abs_of (h:-9223372036854775808<n∧n≤9223372036854775807):(if n<IntKind.i64.wrap (0 - n) then IntKind.i64.wrap (0 - n) else n)=(n.natAbs:Int):=by
 rw [QdQ ⟨by omega,h.2⟩]
 have e:neg n=-n:=by unfold neg; rw [if_neg (by omega)]
 rw [e]
 split <;> omega
theorem QlL (hT:Qj P tab) (h:-9223372036854775808<n∧n≤9223372036854775807):Pure P G QjV [.int .i64 n] fun v=>v=.int .i64 (n.natAbs:Int):=by
 intro t
 refine QF hT X4 (by simp [Qg2]) (Qx 1000 ?_)
 simp -implicitDefEqProofs (disch:=omega) only [go_sem,↓reduceIte,reduceCtorEq,rq]
 rw [abs_of h]
def Tri (x:Int):Prop:=x=1∨x=0∨x=-1
variable {s:S}
theorem Tri.of (h:Inv N s) (v:Nat):Tri (s.va.getD v 0):=by
 rw [h.val v]; unfold Tri; repeat' split
 all_goals simp
variable {rest:List (Option Ob)} {cs ps:List V} {es:List (Int × V)} {K:Vs}
theorem c_is (hT:Qj P tab) {base:Nat} {l:Int} (hlv:l.natAbs<s.va.length) (hN:s.va.length≤1000000) (h3:Tri (s.va.getD l.natAbs 0)) :
 C P G base Qap [.ptr 0 K.s 0,.int .i64 l] (hp K s fu t es cs ps rest) fun v σ=>v=.int .i8 (s.is l)∧σ=hp K s fu t es cs ps rest:=by
 have hD:=Qi9 hlv
 rcases Int.lt_or_le l 0 with h0 | h0
 ·have e1:IntKind.i64.wrap (0 - l)=(l.natAbs:Int):=by
   rw [QdQ (by omega)]; unfold neg; rw [if_neg (by omega)]; omega
  have e2:IntKind.i8.wrap (0 - s.va.getD l.natAbs 0)=s.is l:=by
   unfold S.is; rw [if_pos h0]
   rcases h3 with e | e | e <;> rw [e] <;> decide
  refine QF hT Xs (by simp [YC]) (Qx 1000 ?_)
  simp -implicitDefEqProofs (disch:=omega) only [go_sem,↓reduceIte,reduceCtorEq,rA,rq,rL,hp,sc,Yf,h0,e1,hlv,hD,e2,Int.toNat_natCast]
 ·have e1:(l.natAbs:Int)=l:=by omega
  have e2:s.va.getD l.natAbs 0=s.is l:=by
   unfold S.is; rw [if_neg (by omega)]
  rw [← e1]
  refine QF hT Xs (by simp [YC]) (Qx 1000 ?_)
  simp -implicitDefEqProofs (disch:=omega) only [go_sem,↓reduceIte,reduceCtorEq,rA,rq,rL,hp,sc,Yf,Int.not_lt.2 (Int.natCast_nonneg l.natAbs),hlv,hD,Int.toNat_natCast]
  rw [e2,e1]
theorem Qpp {a b:Nat} (h:b≠0) (hab:b≤a) (ha:a≤4194304):IntKind.i64.wrap (((a - b:Nat):Int)+1)=((a - (b - 1):Nat):Int):=by
 rw [XP (n:=a) (by omega) (by omega)]
 congr 1; omega
theorem QqL (hT:Qj P tab) (h:s.lf=0) :
 C P G 0 Zy [.ptr 0 K.s 0] (hp K s fu t es cs ps rest) fun v σ=>v=.bool false∧σ=hp K s fu t es cs ps rest:=by
 refine QF hT Xr (by simp [XR]) (Qx 1000 ?_)
 simp -implicitDefEqProofs (disch:=omega) only [go_sem,↓reduceIte,reduceCtorEq,rA,rq,rL,hp,sc,h,Nat.sub_zero]
theorem Qvl (hT:Qj P tab) (hb:Bd fu N s) (h:s.lf≠0) :
 C P G 0 Zy [.ptr 0 K.s 0] (hp K s fu t es cs ps rest) fun v σ=>v=.bool true∧σ=hp K { s with lf:=s.lf - 1 } fu t es cs ps rest:=by
 have h1:=hb.lf
 have h2:=hb.bf
 have e1:(((fu - s.lf:Nat):Int)==(fu:Int))=false:=by simp; omega
 have e2:=Qpp h h1 h2
 refine QF hT Xr (by simp [XR]) (Qx 1000 ?_)
 simp -implicitDefEqProofs (disch:=omega) only [go_sem,↓reduceIte,reduceCtorEq,rA,rq,rL,hp,sc,e1,e2]
theorem Qkq (hT:Qj P tab) (h:s.lf=0) (l r:Int) :
 C P G 0 X9 [.ptr 0 K.s 0,.int .i64 l,.int .i64 r] (hp K s fu t es cs ps rest) fun v σ=>v=.bool false∧σ=hp K s fu t es cs ps rest:=by
 refine QF hT Qp (by simp [Ye]) (Qx 1000 ?_)
 simp -implicitDefEqProofs (disch:=omega) only [go_sem,↓reduceIte,reduceCtorEq,rA,rq]
 refine call hT Xr (QqL hT h) 1000 fun v σ hv=>?_
 obtain ⟨rfl,rfl⟩:=hv
 simp -implicitDefEqProofs (disch:=omega) only [go_sem,↓reduceIte,reduceCtorEq,rq]
theorem Qi0 {l:List Nat} {n:Nat} (h:i<l.length):(nts l).take i++[.int .i64 (n:Int)]++(nts l).drop (i+1)=nts (l.set i n):=by
 simp only [nts,List.set_eq_take_append_cons_drop,if_pos h,List.map_append,List.map_cons,List.map_take,List.map_drop,aA,List.singleton_append]
theorem Qdx (h:i<l.length):(ints l).take i++[.int .i64 n]++(ints l).drop (i+1)=ints (l.set i n):=by
 simp only [ints,List.set_eq_take_append_cons_drop,if_pos h,List.map_append,List.map_cons,List.map_take,List.map_drop,aA,List.singleton_append]
theorem Qlp (h:i<l.length):(i8s l).take i++[.int .i8 n]++(i8s l).drop (i+1)=i8s (l.set i n):=by
 simp only [i8s,List.set_eq_take_append_cons_drop,if_pos h,List.map_append,List.map_cons,List.map_take,List.map_drop,aA,List.singleton_append]
theorem Qhi (l:List Int) (n:Int):ints l++[.int .i64 n]=ints (l++[n]):=by simp [ints]
theorem Qgt (l:List Nat) (n:Nat):nts l++[.int .i64 (n:Int)]=nts (l++[n]):=by simp [nts]
theorem QqI (hT:Qj P tab) {s':S} (hb:Bd fu N s) {l r:Int} (e:s.set l r=some s') (g1:l.natAbs<s.va.length) (g2:l.natAbs<s.lv.length) (g3:l.natAbs<s.re.length) (hN:s.va.length≤1000) (htr:s.tr.length≤1000000) :
 C P G 0 X9 [.ptr 0 K.s 0,.int .i64 l,.int .i64 r] (hp K s fu t es cs ps rest) fun v σ=>v=.bool true∧∃ w t',t≤t'∧σ=hp { K with t:=w } s' fu t' es cs ps rest:=by
 obtain ⟨hf,rfl⟩:=S.set_some e
 have h1:=hb.bn
 refine QF hT Qp (by simp [Ye]) (Qx 1000 ?_)
 simp -implicitDefEqProofs (disch:=omega) only [go_sem,↓reduceIte,reduceCtorEq,rA,rq]
 refine call hT Xr (Qvl hT hb hf) 1000 fun v σ hv=>?_
 obtain ⟨rfl,rfl⟩:=hv
 simp -implicitDefEqProofs (disch:=omega) only [go_sem,↓reduceIte,reduceCtorEq,rq]
 refine Qi hT X4 (QlL hT (n:=l) (by omega)) rfl 1000 ?_
 rcases Int.lt_or_le l 0 with h0 | h0
 ·have g4:l.natAbs<(s.va.set l.natAbs 1).length:=by simpa using g1
  simp -implicitDefEqProofs (disch:=omega) only [go_sem,↓reduceIte,reduceCtorEq,rA,rq,rL,hp,sc,Yf,QN,Qb,List.length_set,h0,g1,g2,g3,Int.toNat_natCast,Qlp,Qi0,Qdx,Qhi,List.set_set]
  refine ⟨t,t+1,by omega,rfl,?_⟩
  simp
 ·have g0:¬ l<0:=by omega
  simp -implicitDefEqProofs (disch:=omega) only [go_sem,↓reduceIte,reduceCtorEq,rA,rq,rL,hp,sc,Yf,QN,Qb,List.length_set,g0,g1,g2,g3,Int.toNat_natCast,Qlp,Qi0,Qdx,Qhi]
  refine ⟨t,t+1,by omega,rfl,?_⟩
  simp
end
end Go.Proofs.Ytingdebioipemaa
