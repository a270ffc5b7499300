/- A logic of programs over abstract values: joined texts. -/
import Derived.Test.YtingdebioipemaaAmD
namespace Go.Am
open Go
variable {P:Program} {G:Nat→Option V}
mutual
def V.mv (r:Nat→Nat) (T:Nat):V→V
 | .ptr n v off=>.ptr (r n) (v+T) off
 | .sl n v off sz len lim=>.sl (r n) (v+T) off sz len lim
 | .mp n v=>.mp (r n) (v+T)
 | .agg l=>.agg (mvL r T l)
 | .tup l=>.tup (mvL r T l)
 | .fn f a b=>.fn f (mvL r T a) (mvL r T b)
 | .iface t x=>.iface t (V.mv r T x)
 | x=>x
def mvL (r:Nat→Nat) (T:Nat):List V→List V
 | []=>[]
 | u::l=>V.mv r T u::mvL r T l
end
theorem Qb3 {r:Nat→Nat} {T:Nat}:∀ l,mvL r T l=l.map (V.mv r T)
 | []=>by simp [mvL]
 | u::l=>by simp [mvL,Qb3 l]
def Ob.mv (r:Nat→Nat) (T:Nat):Ob→Ob
 | .arr v t cs=>.arr (v+T) t (mvL r T cs)
 | .map v es=>.map (v+T) (es.map fun p=>(p.1,V.mv r T p.2))
 | .it v nm mv cnt s=>.it (v+T) (r nm) (mv+T) cnt s
theorem Ob.mv_ver (r:Nat→Nat) (T:Nat) (ob:Ob):(ob.mv r T).ver=ob.ver+T:=by cases ob <;> rfl
theorem VR.mv {I:Imm} {ρS ρB:Names} {r:Nat→Nat} {T:Nat} (h:∀ n v l,ρS n v=some l→ρB (r n) (v+T)=some l) {u:V} {x:Value} (hv:VR I ρS u x):VR I ρB (V.mv r T u) x:=by
 have main:∀ {ρ':Names} {u:V} {x:Value},VR I ρ' u x→ρ'=ρS→VR I ρB (V.mv r T u) x:=by
  intro ρ' u x hv
  induction hv with
  | agg ρ' l xs hl _ ih =>
    intro e
    simp only [V.mv,Qb3]
    refine .agg _ _ _ (by simpa using hl) fun j u x h1 h2=>?_
    simp only [List.getElem?_map,Option.map_eq_some_iff] at h1
    obtain ⟨u0,h1,rfl⟩:=h1
    exact ih j u0 x h1 h2 e
  | tup ρ' l xs hl _ ih =>
    intro e
    simp only [V.mv,Qb3]
    refine .tup _ _ _ (by simpa using hl) fun j u x h1 h2=>?_
    simp only [List.getElem?_map,Option.map_eq_some_iff] at h1
    obtain ⟨u0,h1,rfl⟩:=h1
    exact ih j u0 x h1 h2 e
  | fn ρ' f l xs m ys hl hm _ _ ih1 ih2 =>
    intro e
    simp only [V.mv,Qb3]
    refine .fn _ _ _ _ _ _ (by simpa using hl) (by simpa using hm) (fun j u x h1 h2=>?_) (fun j u x h1 h2=>?_)
    ·simp only [List.getElem?_map,Option.map_eq_some_iff] at h1
     obtain ⟨u0,h1,rfl⟩:=h1
     exact ih1 j u0 x h1 h2 e
    ·simp only [List.getElem?_map,Option.map_eq_some_iff] at h1
     obtain ⟨u0,h1,rfl⟩:=h1
     exact ih2 j u0 x h1 h2 e
  | iface ρ' t x y _ ih=>intro e; simp only [V.mv]; exact .iface _ _ _ _ (ih e)
  | ptr ρ' m u off b o e hm=>intro e'; subst e'; simp only [V.mv]; exact .ptr _ _ _ _ _ _ _ (h _ _ _ hm)
  | sl ρ' m u off sz len lim b o e cap hm hlen h3 h4=>intro e'; subst e'; simp only [V.mv]; exact .sl _ _ _ _ _ _ _ _ _ _ _ (h _ _ _ hm) hlen h3 h4
  | slN ρ' m u sz lim a hm h3=>intro e'; subst e'; simp only [V.mv]; exact .slN _ _ _ _ _ _ (h _ _ _ hm) h3
  | any=>intro _; simp only [V.mv]; exact .any _ _
  | int=>intro _; simp only [V.mv]; exact .int _ _ _
  | bool=>intro _; simp only [V.mv]; exact .bool _ _
  | str=>intro _; simp only [V.mv]; exact .str _ _
  | val=>intro _; simp only [V.mv]; exact .val _ _
  | ref _ _ _ _ _ f h1 h2=>intro _; simp only [V.mv]; exact .ref _ _ _ _ _ f h1 h2
  | lst _ _ _ _ _ _ _ f h0 h1 h2 h3 h4 h5=>intro _; simp only [V.mv]; exact .lst _ _ _ _ _ _ _ f h0 h1 h2 h3 h4 h5
  | lstN _ _ _ _ _ h=>intro _; simp only [V.mv]; exact .lstN _ _ _ _ _ h
  | mp _ _ _ _ _ _ hm=>intro e'; subst e'; simp only [V.mv]; exact .mp _ _ _ _ _ _ (h _ _ _ hm)
 exact main hv rfl
theorem ObR.mv {I:Imm} {w:World} {ρS ρB:Names} {r:Nat→Nat} {T:Nat} (h:∀ n v l,ρS n v=some l→ρB (r n) (v+T)=some l) {i:Nat} {ob:Ob} (ho:ObR I ρS w i ob):ObR I ρB w (r i) (ob.mv r T):=by
 cases ob with
 | arr v T cs =>
   simp only [Ob.mv,Qb3]
   rcases ho with ⟨h1,h2⟩ | ⟨b,o,e,c,lo,hi,h1,h2,h3,h4,h5,h6⟩
   ·exact .inl ⟨h _ _ _ h1,by simp [h2]⟩
   ·refine .inr ⟨b,o,e,c,lo,hi,h _ _ _ h1,h2,by simpa using h3,h4,h5,fun j u hu=>?_⟩
    simp only [List.getElem?_map,Option.map_eq_some_iff] at hu
    obtain ⟨u0,hu,rfl⟩:=hu
    obtain ⟨x,g1,g2,g3⟩:=h6 j u0 hu
    exact ⟨x,g1,g2.mv h,g3⟩
 | map v es =>
   obtain ⟨b,o,e,c,h1,h2,h3,h4,h5⟩:=ho
   refine ⟨b,o,e,c,h _ _ _ h1,h2,by simpa using h3,h4,fun j p x hp hx=>?_⟩
   simp only [List.getElem?_map,Option.map_eq_some_iff] at hp
   obtain ⟨p0,hp,rfl⟩:=hp
   exact ⟨(h5 j p0 x hp hx).1,(h5 j p0 x hp hx).2.mv h⟩
 | it v nm mv cnt s =>
   obtain ⟨b,e,m,o',e',h1,h2,h3⟩:=ho
   exact ⟨b,e,m,o',e',h _ _ _ h1,h _ _ _ h2,h3⟩
variable {r:Nat→Nat} {ρS ρB:Names}
theorem VR.back {I:Imm} (h:∀ n v,ρS n v=ρB (r n) v):∀ {u:V} {x:Value},VR I ρB (V.ren r u) x→VR I ρS u x:=by
 have main:∀ {ρ':Names} {u':V} {x:Value},VR I ρ' u' x→ρ'=ρB→∀ u,V.ren r u=u'→VR I ρS u x:=by
  intro ρ' u' x hv
  induction hv with
  | agg ρ' l xs hl _ ih =>
    intro e u hu
    cases u <;> simp only [V.ren,reduceCtorEq,V.agg.injEq] at hu
    rename_i l0
    subst hu
    rw [QO] at hl ih
    refine .agg _ _ _ (by simpa using hl) fun j u x h1 h2=>?_
    exact ih j (V.ren r u) x (by simp [h1]) h2 e u rfl
  | tup ρ' l xs hl _ ih =>
    intro e u hu
    cases u <;> simp only [V.ren,reduceCtorEq,V.tup.injEq] at hu
    rename_i l0
    subst hu
    rw [QO] at hl ih
    refine .tup _ _ _ (by simpa using hl) fun j u x h1 h2=>?_
    exact ih j (V.ren r u) x (by simp [h1]) h2 e u rfl
  | fn ρ' f l xs m ys hl hm _ _ ih1 ih2 =>
    intro e u hu
    cases u <;> simp only [V.ren,reduceCtorEq,V.fn.injEq] at hu
    rename_i f0 l0 m0
    obtain ⟨rfl,rfl,rfl⟩:=hu
    rw [QO] at hl ih1
    rw [QO] at hm ih2
    refine .fn _ _ _ _ _ _ (by simpa using hl) (by simpa using hm) (fun j u x h1 h2=>?_) (fun j u x h1 h2=>?_)
    ·exact ih1 j (V.ren r u) x (by simp [h1]) h2 e u rfl
    ·exact ih2 j (V.ren r u) x (by simp [h1]) h2 e u rfl
  | iface ρ' t x y _ ih =>
    intro e u hu
    cases u <;> simp only [V.ren,reduceCtorEq,V.iface.injEq] at hu
    obtain ⟨rfl,hu⟩:=hu
    exact .iface _ _ _ _ (ih e _ hu)
  | ptr ρ' m u off b o e hm =>
    intro e' u hu
    cases u <;> simp only [V.ren,reduceCtorEq,V.ptr.injEq] at hu
    obtain ⟨rfl,rfl,rfl⟩:=hu
    subst e'
    exact .ptr _ _ _ _ _ _ _ ((h _ _).trans hm)
  | sl ρ' m u off sz len lim b o e cap hm hlen h3 h4 =>
    intro e' u hu
    cases u <;> simp only [V.ren,reduceCtorEq,V.sl.injEq] at hu
    obtain ⟨rfl,rfl,rfl,rfl,rfl,rfl⟩:=hu
    subst e'
    exact .sl _ _ _ _ _ _ _ _ _ _ _ ((h _ _).trans hm) hlen h3 h4
  | slN ρ' m u sz lim a hm h3 =>
    intro e' u hu
    cases u <;> simp only [V.ren,reduceCtorEq,V.sl.injEq] at hu
    obtain ⟨rfl,rfl,rfl,rfl,rfl,rfl⟩:=hu
    subst e'
    exact .slN _ _ _ _ _ _ ((h _ _).trans hm) h3
  | any=>intro _ u hu; cases u <;> simp only [V.ren,reduceCtorEq] at hu; exact .any _ _
  | int=>intro _ u hu; cases u <;> simp only [V.ren,reduceCtorEq] at hu; rw [hu]; exact .int _ _ _
  | bool=>intro _ u hu; cases u <;> simp only [V.ren,reduceCtorEq] at hu; rw [hu]; exact .bool _ _
  | str=>intro _ u hu; cases u <;> simp only [V.ren,reduceCtorEq] at hu; rw [hu]; exact .str _ _
  | val=>intro _ u hu; cases u <;> simp only [V.ren,reduceCtorEq] at hu; rw [hu]; exact .val _ _
  | ref _ _ _ _ _ f h1 h2=>intro _ u hu; cases u <;> simp only [V.ren,reduceCtorEq] at hu; rw [hu]; exact .ref _ _ _ _ _ f h1 h2
  | lst _ _ _ _ _ _ _ f h0 h1 h2 h3 h4 h5=>intro _ u hu; cases u <;> simp only [V.ren,reduceCtorEq] at hu; rw [hu]; exact .lst _ _ _ _ _ _ _ f h0 h1 h2 h3 h4 h5
  | lstN _ _ _ _ _ h=>intro _ u hu; cases u <;> simp only [V.ren,reduceCtorEq] at hu; rw [hu]; exact .lstN _ _ _ _ _ h
  | mp _ _ _ _ _ _ hm =>
    intro e' u hu
    cases u <;> simp only [V.ren,reduceCtorEq,V.mp.injEq] at hu
    obtain ⟨rfl,rfl⟩:=hu
    subst e'
    exact .mp _ _ _ _ _ _ ((h _ _).trans hm)
 intro u x hv
 exact main hv rfl u rfl
theorem ObR.back {I:Imm} {w:World} {ρS ρB:Names} {r:Nat→Nat} (h:∀ n v,ρS n v=ρB (r n) v) {i:Nat} {ob:Ob} (ho:ObR I ρB w (r i) (ob.ren r)):ObR I ρS w i ob:=by
 cases ob with
 | arr v T cs =>
   simp only [Ob.ren,QO] at ho
   rcases ho with ⟨h1,h2⟩ | ⟨b,o,e,c,lo,hi',h1,h2,h3,h4,h5,h6⟩
   ·exact .inl ⟨(h i v).trans h1,by simpa using h2⟩
   ·refine .inr ⟨b,o,e,c,lo,hi',(h i v).trans h1,h2,by simpa using h3,h4,h5,fun j u hu=>?_⟩
    obtain ⟨x,g1,g2,g3⟩:=h6 j (V.ren r u) (by simp [hu])
    exact ⟨x,g1,VR.back h g2,g3⟩
 | map v es =>
   obtain ⟨b,o,e,c,h1,h2,h3,h4,h5⟩:=ho
   refine ⟨b,o,e,c,(h i v).trans h1,h2,by simpa using h3,h4,fun j p x hp hx=>?_⟩
   have:=h5 j (p.1,V.ren r p.2) x (by simp [hp]) hx
   exact ⟨this.1,VR.back h this.2⟩
 | it v nm mv cnt s =>
   obtain ⟨b,e,m,o',e',h1,h2,h3⟩:=ho
   exact ⟨b,e,m,o',e',(h i v).trans h1,(h nm mv).trans h2,h3⟩
variable {o xs:List (Option Ob)} {t:Nat}
theorem Shift.ren {n:Nat} {fr fr':Fr} {t':Nat} {o':List (Option Ob)} {q:Nat→Nat} (hq:∀ n,r (q n)=n) (ht:2 * t≤t')
 (ho:∀ m ob',o'[m]?=some (some ob')→∃ k ob,q k=m∧o[k]?=some (some ob)∧ob'=ob.mv q t)
 (hf:∀ s,Qg fr' s=.any∨Qg fr' s=V.mv q t (Qg fr s)):Shift G n 0 fr ⟨t,o⟩ fr' ⟨t',o'⟩:=by
 intro I ρ w a R hF _
 obtain ⟨ρ',hρ⟩:∃ ρ':Names,∀ m v,ρ' m v=if t≤v then (if q (r m)=m then ρ (r m) (v - t) else none) else ρ m v:=⟨_,fun _ _=>rfl⟩
 have h:∀ n v l,ρ n v=some l→ρ' (q n) (v+t)=some l:=fun n v l e=>by
  rw [hρ,if_pos (by omega),hq,if_pos rfl,Nat.add_sub_cancel]; exact e
 have hle:ρ.le ρ':=fun n v l e=>by
  have:v<t:=R.fresh n v l e
  rw [hρ,if_neg (by omega)]; exact e
 have hblk:∀ m b,blk ρ' ⟨t',o'⟩ m=some b→∃ k,q k=m∧blk ρ ⟨t,o⟩ k=some b:=fun m b e=>by
  unfold blk at e
  split at e
  ·rename_i ob' hob
   obtain ⟨k,ob,rfl,h1,rfl⟩:=ho m ob' hob
   refine ⟨k,rfl,?_⟩
   rw [hρ,Ob.mv_ver,if_pos (by omega),hq,if_pos rfl,Nat.add_sub_cancel] at e
   simp only [blk,h1]
   exact e
  ·cases e
 refine ⟨I,ρ',⟨fun m ob' hob=>?_,fun m v l e=>?_,fun m m' b e e'=>?_,R.imm,fun m b e o2=>?_,R.globs⟩,⟨hF.defers,hF.size,fun s=>?_⟩,
  ⟨rfl,rfl,rfl,Nat.le_refl _,hle,.refl _,by show t≤t'; omega,fun m v l e=>?_,fun _ _ _=>rfl,fun m b _ e=>?_,fun b o2 h' h''=>absurd h' h'',fun m hm=>absurd hm (Nat.not_lt_zero _)⟩,Nat.zero_le _⟩
 ·obtain ⟨k,ob,rfl,h1,rfl⟩:=ho m ob' hob
  exact (R.objs k ob h1).mv h
 ·rw [hρ] at e
  show v<t'
  split at e
  ·split at e
   ·have:v - t<t:=R.fresh _ _ _ e
    omega
   ·cases e
  ·omega
 ·obtain ⟨k,rfl,h1⟩:=hblk m b e
  obtain ⟨k',rfl,h2⟩:=hblk m' b e'
  rw [R.sep k k' b h1 h2]
 ·obtain ⟨k,rfl,h1⟩:=hblk m b e
  exact R.immsep k b h1 o2
 ·rcases hf s with e | e
  ·rw [e]; exact .any _ _
  ·rw [e]; exact (hF.vals s).mv h
 ·rw [hρ] at e
  by_cases hv:t≤v
  ·exact .inr hv
  ·rw [if_neg hv] at e; exact .inl e
 ·obtain ⟨k,rfl,h1⟩:=hblk m b e
  exact .inr ⟨k,Nat.zero_le _,h1⟩
def behind (xs:List (Option Ob)) (o:List (Option Ob)):List (Option Ob):=xs++o.map (Option.map (Ob.ren (·+xs.length)))
theorem QhF (i:Nat):(behind xs o)[i+xs.length]?=o[i]?.map (Option.map (Ob.ren (·+xs.length))):=by
 unfold behind
 rw [List.getElem?_append_right (by omega),Nat.add_sub_cancel,List.getElem?_map]
theorem Qkv {m:Nat} (h:m<xs.length):(behind xs o)[m]?=xs[m]?:=by
 unfold behind
 rw [List.getElem?_append_left h]
theorem Qit (h:∀ n v,ρS n v=ρB (n+xs.length) v) (t t':Nat) (i:Nat):blk ρB ⟨t,behind xs o⟩ (i+xs.length)=blk ρS ⟨t',o⟩ i:=by
 unfold blk
 simp only [QhF]
 cases o[i]? with
 | none=>rfl
 | some x=>cases x with
   | none=>rfl
   | some ob=>simp only [Option.map_some,Ob.ren_ver,h]
theorem Qm5 (xs:List (Option Ob)) {oS:List (Option Ob)} {f:Nat} {argsS:List V} {QS:V→H→Prop} (h:C P G 0 f argsS ⟨t,oS⟩ QS) :
 C P G 0 f (Qei (·+xs.length) argsS) ⟨t,behind xs oS⟩ fun v σ=>∃ vS σS,QS vS σS∧v=V.ren (·+xs.length) vS∧σ=⟨σS.t,behind xs σS.o⟩:=by
 intro I ρB w ys R _ hc
 obtain ⟨ρS,hρS⟩:∃ ρS:Names,∀ i v,ρS i v=ρB (i+xs.length) v:=⟨_,fun _ _=>rfl⟩
 have hb0:∀ i b,blk ρS ⟨t,oS⟩ i=some b→blk ρB ⟨t,behind xs oS⟩ (i+xs.length)=some b:=fun i b e=>by rw [Qit hρS t t]; exact e
 have RS:Rel G I ρS ⟨t,oS⟩ w:=by
  refine ⟨fun i ob ho=>?_,fun i v l e=>?_,fun i j b e e'=>?_,R.imm,fun i b e o=>R.immsep _ b (hb0 i b e) o,R.globs⟩
  ·refine ObR.back (r:=(·+xs.length)) hρS (R.objs (i+xs.length) (ob.ren (·+xs.length)) ?_)
   show (behind xs oS)[i+xs.length]?=_
   rw [QhF]
   replace ho:oS[i]?=some (some ob):=ho
   rw [ho]; rfl
  ·rw [hρS] at e
   exact R.fresh _ _ _ e
  ·have:=R.sep _ _ b (hb0 i b e) (hb0 j b e')
   omega
 have hcS:Cells I ρS argsS ys:=by
  rw [QO] at hc
  refine ⟨by simpa using hc.1,fun j u x h1 h2=>?_⟩
  exact VR.back (r:=(·+xs.length)) hρS (hc.2 j (V.ren (·+xs.length) u) x (by simp [h1]) h2)
 refine (h I ρS w ys RS (Nat.zero_le _) hcS).mono fun e w' ⟨v,x,I',ρS',σS,h1,h2,RS',St,_,h6⟩=>?_
 obtain ⟨ρB',hB⟩:∃ ρB':Names,∀ m v,ρB' m v=if m<xs.length then ρB m v else ρS' (m - xs.length) v:=⟨_,fun _ _=>rfl⟩
 have hS':∀ i v,ρS' i v=ρB' (i+xs.length) v:=fun i v=>by rw [hB,if_neg (by omega),Nat.add_sub_cancel]
 have agree:∀ i v l,ρS' i v=some l→ρB' (i+xs.length) v=some l:=fun i v l e=>by rw [← hS']; exact e
 have hBle:ρB.le ρB':=fun m v l e=>by
  rw [hB]
  split
  ·exact e
  ·rename_i hm
   refine St.names _ _ _ ?_
   rw [hρS,Nat.sub_add_cancel (by omega)]; exact e
 have hlo:∀ m b,m<xs.length→blk ρB' ⟨σS.t,behind xs σS.o⟩ m=some b→blk ρB ⟨t,behind xs oS⟩ m=some b:=fun m b hm e=>by
  unfold blk at e ⊢
  simp only [Qkv hm] at e ⊢
  split at e
  ·rename_i ob ho
   rw [hB,if_pos hm] at e
   first | exact e | (simp only [ho]; exact e)
  ·cases e
 have hhi:∀ m b,xs.length≤m→blk ρB' ⟨σS.t,behind xs σS.o⟩ m=some b→blk ρS' σS (m - xs.length)=some b:=fun m b hm e=>by
  have:=Qit (xs:=xs) (o:=σS.o) hS' σS.t σS.t (m - xs.length)
  rw [Nat.sub_add_cancel hm] at this
  rw [this] at e; exact e
 have own:∀ i b,blk ρS' σS i=some b→w.heap.size≤b∨∃ j,blk ρB ⟨t,behind xs oS⟩ (j+xs.length)=some b:=fun i b e=>by
  rcases St.owned i b (Nat.zero_le _) e with e' | ⟨j,_,e'⟩
  ·exact .inl e'
  ·exact .inr ⟨j,hb0 j b e'⟩
 have cross:∀ m i b,m<xs.length→blk ρB ⟨t,behind xs oS⟩ m=some b→blk ρS' σS i=some b→False:=fun m i b hm e e'=>by
  rcases own i b e' with g | ⟨j,g⟩
  ·have:=Qcv R e; omega
  ·have:=R.sep _ _ b e g; omega
 have hobj:∀ m (ob:Ob),(behind xs σS.o)[m]?=some (some ob)→(m<xs.length∧(behind xs oS)[m]?=some (some ob))∨∃ i ob',m=i+xs.length∧σS.o[i]?=some (some ob')∧ob=ob'.ren (·+xs.length):=fun m ob e=>by
  rcases Nat.lt_or_ge m xs.length with hm | hm
  ·refine .inl ⟨hm,?_⟩
   rw [Qkv hm] at e ⊢; exact e
  ·have:=QhF (xs:=xs) (o:=σS.o) (m - xs.length)
   rw [Nat.sub_add_cancel hm] at this
   rw [this] at e
   simp only [Option.map_eq_some_iff] at e
   obtain ⟨y,e1,z,e2,e3⟩:=e
   subst e2
   exact .inr ⟨m - xs.length,z,by omega,e1,e3.symm⟩
 refine ⟨V.ren (·+xs.length) v,x,I',ρB',⟨σS.t,behind xs σS.o⟩,h1,h2.up agree,⟨fun m ob ho=>?_,fun m v l e=>?_,fun m m' b e e'=>?_,RS'.imm,fun m b e o=>?_,RS'.globs⟩,
  ⟨St.os,St.tape,St.output,St.size,hBle,St.imms,St.tick,fun m v l e=>?_,fun b hb' hn=>?_,fun m b _ e=>?_,fun b o e e'=>?_,fun m hm=>absurd hm (Nat.not_lt_zero _)⟩,Nat.zero_le _,v,σS,h6,rfl,rfl⟩
 ·rcases hobj m ob ho with ⟨hm,g⟩ | ⟨i,ob',rfl,g,rfl⟩
  ·refine ((R.objs m ob g).of_block fun b hb'=>?_).mono St.imms hBle
   have hbm:blk ρB ⟨t,behind xs oS⟩ m=some b:=by simp only [blk,g]; exact hb'
   refine St.keep b (Qcv R hbm) fun i _ e=>?_
   have:=R.sep _ _ b (hb0 i b e) hbm
   omega
  ·exact (RS'.objs i ob' g).up agree
 ·show v<σS.t
  rw [hB] at e
  split at e
  ·exact Nat.lt_of_lt_of_le (R.fresh _ _ _ e) St.tick
  ·exact RS'.fresh _ _ _ e
 ·rcases Nat.lt_or_ge m xs.length with hm | hm <;> rcases Nat.lt_or_ge m' xs.length with hm' | hm'
  ·exact R.sep _ _ b (hlo m b hm e) (hlo m' b hm' e')
  ·exact (cross m _ b hm (hlo m b hm e) (hhi m' b hm' e')).elim
  ·exact (cross m' _ b hm' (hlo m' b hm' e') (hhi m b hm e)).elim
  ·have:=RS'.sep _ _ b (hhi m b hm e) (hhi m' b hm' e')
   omega
 ·rcases Nat.lt_or_ge m xs.length with hm | hm
  ·have e0:=hlo m b hm e
   cases hI:I' b o with
   | none=>rfl
   | some y =>
     rcases St.immed b o (R.immsep m b e0 o) (by rw [hI]; simp) with g | ⟨j,_,g⟩
     ·have:=Qcv R e0; omega
     ·have:=R.sep _ _ b (hb0 j b g) e0
      omega
  ·exact RS'.immsep _ b (hhi m b hm e) o
 ·rw [hB] at e
  split at e
  ·exact .inl e
  ·rename_i hm
   rcases St.newnames _ v l e with g | g
   ·rw [hρS,Nat.sub_add_cancel (by omega)] at g; exact .inl g
   ·exact .inr g
 ·exact St.keep b hb' fun i _ e=>hn _ (Nat.zero_le _) (hb0 i b e)
 ·rcases Nat.lt_or_ge m xs.length with hm | hm
  ·exact .inr ⟨m,Nat.zero_le _,hlo m b hm e⟩
  ·rcases own _ b (hhi m b hm e) with g | ⟨j,g⟩
   ·exact .inl g
   ·exact .inr ⟨_,Nat.zero_le _,g⟩
 ·rcases St.immed b o e e' with g | ⟨j,_,g⟩
  ·exact .inl g
  ·exact .inr ⟨_,Nat.zero_le _,hb0 j b g⟩
end Go.Am
